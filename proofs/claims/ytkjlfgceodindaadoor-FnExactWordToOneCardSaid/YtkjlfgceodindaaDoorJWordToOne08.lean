/- Texts of this claim, joined. -/
import Derived.Test.YtkjlfgceodindaaDoorJWordToOne02
import Derived.Test.YtkjlfgceodindaaDoorJWordToOne07
import Derived.Test.YtkjlfgceodindaaDoorJWordToOne06
import Derived.Test.YtkjlfgceodindaaDoorJWordToOne03
import Derived.Test.YtkjlfgceodindaaDoorJWordToOne01
import Derived.Test.YtkjlfgceodindaaDoorJWordToOne04
set_option linter.unusedVariables false
set_option linter.unusedSimpArgs false
set_option linter.unusedSectionVars false
section
namespace Go.Proofs.YtkjlfgceodindaaDoor.Q
set_option linter.unusedSectionVars false
set_option linter.unusedSimpArgs false
set_option linter.unusedVariables false
open Go.RowKit Go.Proofs.YtkjlfgceodindaaDoorW.PrintWords Go.Proofs.YtkjlfgceodindaaDoorW.PrintLast Go.Proofs.YtkjlfgceodindaaDoorW.PrintMore
namespace WD
theorem dirs_one : ∀ d : _root_.Fin 4, (⟨#[117, 114, 100, 108]⟩ : ByteArray).extract ((d.val : Int)).toNat (((d.val + 1 : Nat) : Int)).toNat = strOfNums [dirC d.val] := by decide
theorem wordS_size (w : List Nat) : (wordS w).size = w.length := by
 show (w.map dirC |>.map _ |>.toArray).size = _
 simp
structure Se (w h : Nat) (T : Nat → List Int → List Int) (G : List Int → Prop) : Prop where
 tilt : ∀ cs d, d < 4 → G cs → ∃ m, Ev (fun k => spec_skTilt.f k w h cs ((d : Nat) : Int)) ((w : Int), (h : Int), T d cs, m)
 keep : ∀ cs d, d < 4 → G cs → G (T d cs)
 text : ∀ cs, G cs → Ev (fun k => spec_tyText.f k w h cs) (tx cs w h)
 read : ∀ cs, G cs → Ev (fun k => spec_tyRead.f k (tx cs w h)) ((w : Int), (h : Int), cs, true)
 inj : ∀ cs cs', G cs → G cs' → (tx cs w h).toList = (tx cs' w h).toList → cs = cs'
def Xs (w h : Nat) (L : List (List Int × List Nat)) : List ByteArray := L.map fun e => tx e.1 w h
def Ws (L : List (List Int × List Nat)) : List ByteArray := L.map fun e => wordS e.2
theorem Xs_len (w h : Nat) (L : List (List Int × List Nat)) : (Xs w h L).length = L.length := List.length_map ..
theorem Ws_len (L : List (List Int × List Nat)) : (Ws L).length = L.length := List.length_map ..
theorem rdX (l : List ByteArray) (i : Nat) (hi : i < l.length) : rdOf ByteArray.empty l (i : Int) = l[i] := by
 unfold rdOf
 rw [Int.toNat_natCast, List.getD_eq_getElem?_getD, List.getElem?_eq_getElem hi]
 rfl
theorem rdM {α : Type} (f : α → ByteArray) (L : List α) (i : Nat) (e : α) (h : L[i]? = some e) : rdOf ByteArray.empty (L.map f) (i : Int) = f e := by
 unfold rdOf
 rw [Int.toNat_natCast, List.getD_eq_getElem?_getD, List.getElem?_map, h]
 rfl
theorem wsx (i : Nat) (h : i ≤ 1000000) : wrap64 ((i : Int) + 1) = ((i + 1 : Nat) : Int) := by rw [w64 (by omega) (by omega)]; omega
theorem se_l2 (X : List ByteArray) (hX : X.length ≤ 100000) (most j d : Int) (x : ByteArray) (W : List ByteArray) (a b : Int) (cs : List Int) (R : List ByteArray × List ByteArray) : ∀ (m i : Nat) (f : Bool), i + m = X.length → Ev (fun k => spec_skSearch.l2 k most j d x (f || (X.drop i).any fun y => y.toList == x.toList) X X.length X.length X W a b cs) R → Ev (fun k => spec_skSearch.l2 k most j d x f X X.length i X W a b cs) R
 | 0, i, f, hi, hR => by
  obtain rfl : i = X.length := by omega
  rw [List.drop_length, List.any_nil, Bool.or_false] at hR
  exact hR
 | m + 1, i, f, hi, hR => by
  have hil : i < X.length := by omega
  rw [List.drop_eq_getElem_cons hil, List.any_cons, ← Bool.or_assoc] at hR
  have ih := se_l2 X hX most j d x W a b cs R m (i + 1) _ (by omega) hR
  refine Ev.step ih fun k => ?_
  rw [spec_skSearch.l2, if_pos (by omega), if_pos (by omega), if_pos (by omega), wsx i (by omega), rdX X i hil]
  cases f with
  | true => rw [if_pos rfl, Bool.true_or]
  | false => rw [if_neg (by decide), Bool.false_or]
section
variable {w h : Nat} {T : Nat → List Int → List Int} {G : List Int → Prop} (S : Se w h T G)
include S
theorem se_any (L : List (List Int × List Nat)) (hg : ∀ e ∈ L, G e.1) (c : List Int) (hc : G c) : ((Xs w h L).any fun y => y.toList == (tx c w h).toList) = decide (c ∈ L.map Prod.fst) := by
 rw [Bool.eq_iff_iff, List.any_eq_true, decide_eq_true_eq]
 constructor
 ·rintro ⟨y, hy, hyc⟩
  obtain ⟨e, he, rfl⟩ := List.mem_map.1 hy
  exact List.mem_map.2 ⟨e, he, S.inj _ _ (hg e he) hc (eq_of_beq hyc)⟩
 ·intro hm
  obtain ⟨e, he, rfl⟩ := List.mem_map.1 hm
  exact ⟨_, List.mem_map.2 ⟨e, he, rfl⟩, beq_self_eq_true _⟩
theorem se_one (L : List (List Int × List Nat)) (hL : L.length ≤ 10000) (hg : ∀ e ∈ L, G e.1) (e : List Int × List Nat) (j : Nat) (hj : L[j]? = some e) (he5 : e.2.length ≤ 5) (d : Nat) (hd : d < 4) (most : Int) (R : List ByteArray × List ByteArray) (hR : Ev (fun k => spec_skSearch.l1 k most j ((d + 1 : Nat) : Int) (Xs w h (one T L e d)) (Ws (one T L e d)) w h e.1) R) : Ev (fun k => spec_skSearch.l1 k most j d (Xs w h L) (Ws L) w h e.1) R := by
 have he := List.mem_of_getElem? hj;have hjl := (List.getElem?_eq_some_iff.1 hj).1;obtain ⟨mm, ht⟩ := S.tilt e.1 d hd (hg e he);have hG := S.keep e.1 d hd (hg e he);have htx := S.text _ hG;have hxl := Xs_len w h L;have hwl := Ws_len L
 refine Ev.step (Ev.bind (f := fun k (bt120 : Int × Int × List Int × List Int) => (spec_tyText.f k bt120.1 bt120.2.1 bt120.2.2.1).bind fun t129 => (spec_skSearch.l2 k most j d t129 false (Xs w h L) ((Xs w h L).length : Int) 0 (Xs w h L) (Ws L) w h e.1)) ht (Ev.bind (f := fun k t129 => (spec_skSearch.l2 k most j d t129 false (Xs w h L) ((Xs w h L).length : Int) 0 (Xs w h L) (Ws L) w h e.1)) htx (se_l2 _ (by omega) _ _ _ _ _ _ _ _ _ (Xs w h L).length 0 false (by omega) ?_))) fun k => by rw [spec_skSearch.l1, if_pos (by omega)]
 rw [List.drop_zero, Bool.false_or, se_any S L hg _ hG]
 by_cases hm : T d e.1 ∈ L.map Prod.fst
 ·rw [decide_eq_true hm]
  unfold one at hR
  rw [if_pos hm] at hR
  refine Ev.step hR fun k => ?_
  rw [spec_skSearch.l2, if_neg (by omega), if_pos rfl, wsx d (by omega)]
 ·rw [decide_eq_false hm]
  unfold one at hR
  rw [if_neg hm] at hR
  refine Ev.step hR fun k => ?_
  have hr : rdOf ByteArray.empty (Ws L) (j : Int) = wordS e.2 := rdM _ L j e hj;have hcut : (⟨#[117, 114, 100, 108]⟩ : ByteArray).extract ((d : Int)).toNat (((d + 1 : Nat) : Int)).toNat = strOfNums [dirC d] := dirs_one ⟨d, hd⟩;have hs1 : (wordS e.2).size = e.2.length := wordS_size _;have hs2 : (strOfNums [dirC d]).size = 1 := rfl;have h4 : (((⟨#[117, 114, 100, 108]⟩ : ByteArray).size : Nat) : Int) = 4 := rfl
  rw [spec_skSearch.l2, if_neg (by omega), if_neg (by decide), if_pos (by omega), if_pos (by omega), if_pos (by omega), show spec_tiDirs.f = some ⟨#[117, 114, 100, 108]⟩ from rfl, Option.bind_some, if_pos (by omega), wsx d (by omega), if_pos (by omega), if_pos (by omega), hr, hcut, if_pos (by omega), if_pos (by omega)]
  congr 1
  ·unfold Xs
   rw [List.map_append]
   rfl
  ·unfold Ws
   rw [List.map_append]
   show _ = _ ++ [wordS (e.2 ++ [d])]
   rw [← kid_word]
   rfl
theorem one_good (L : List (List Int × List Nat)) (hg : ∀ e ∈ L, G e.1) (e : List Int × List Nat) (he : e ∈ L) (d : Nat) (hd : d < 4) : ∀ x ∈ one T L e d, G x.1 := by
 intro x hx;unfold one at hx
 by_cases hm : T d e.1 ∈ L.map Prod.fst
 ·rw [if_pos hm] at hx
  exact hg x hx
 ·rw [if_neg hm] at hx
  rcases List.mem_append.1 hx with hx | hx
  ·exact hg x hx
  ·rw [List.mem_singleton.1 hx]
   exact S.keep _ _ hd (hg e he)
omit S in
theorem one_len (L : List (List Int × List Nat)) (e : List Int × List Nat) (d : Nat) : (one T L e d).length ≤ L.length + 1 := by
 unfold one
 by_cases hm : T d e.1 ∈ L.map Prod.fst
 ·rw [if_pos hm]
  omega
 ·rw [if_neg hm, List.length_append]
  exact Nat.le_refl _
omit S in
theorem one_get (L : List (List Int × List Nat)) (e : List Int × List Nat) (d j : Nat) (x : List Int × List Nat) (h : L[j]? = some x) : (one T L e d)[j]? = some x := by
 unfold one
 by_cases hm : T d e.1 ∈ L.map Prod.fst
 ·rw [if_pos hm]
  exact h
 ·rw [if_neg hm, List.getElem?_append_left (List.getElem?_eq_some_iff.1 h).1]
  exact h
theorem se_four (L : List (List Int × List Nat)) (hL : L.length ≤ 9000) (hg : ∀ e ∈ L, G e.1) (e : List Int × List Nat) (j : Nat) (hj : L[j]? = some e) (he5 : e.2.length ≤ 5) (most : Int) (R : List ByteArray × List ByteArray) (hR : Ev (fun k => spec_skSearch.l0 k most ((j + 1 : Nat) : Int) (Xs w h (step4 T L e)) (Ws (step4 T L e))) R) : Ev (fun k => spec_skSearch.l1 k most j 0 (Xs w h L) (Ws L) w h e.1) R := by
 have he := List.mem_of_getElem? hj;have hjl := (List.getElem?_eq_some_iff.1 hj).1;have l1 := one_len (T := T) L e 0;have l2 := one_len (T := T) (one T L e 0) e 1;have l3 := one_len (T := T) (one T (one T L e 0) e 1) e 2;have g1 := one_good S L hg e he 0 (by decide);have j1 := one_get (T := T) L e 0 j e hj;have g2 := one_good S _ g1 e (List.mem_of_getElem? j1) 1 (by decide);have j2 := one_get (T := T) _ e 1 j e j1;have g3 := one_good S _ g2 e (List.mem_of_getElem? j2) 2 (by decide);have j3 := one_get (T := T) _ e 2 j e j2
 refine se_one S L (by omega) hg e j hj he5 0 (by decide) most R (se_one S _ (by omega) g1 e j j1 he5 1 (by decide) most R (se_one S _ (by omega) g2 e j j2 he5 2 (by decide) most R (se_one S _ (by omega) g3 e j j3 he5 3 (by decide) most R (Ev.step hR fun k => ?_))))
 rw [spec_skSearch.l1, if_neg (by decide), wsx j (by omega)]
 rfl
omit S in
theorem Inv.next {t : List Int} {L : List (List Int × List Nat)} {k b : Nat} {e : List Int × List Nat} (h : Inv T t 5 L k b) (hb : b ≤ 4 * wv e.2 + 1) (hk : L[k]? = some e) (hl : ¬ e.2.length = 5) :
  Inv T t 5 (step4 T L e) (k + 1) (4 * wv e.2 + 5) ∧ ∀ e', (step4 T L e)[k + 1]? = some e' → 4 * wv e.2 + 5 ≤ 4 * wv e'.2 + 1 := by
 have he : e ∈ L := List.mem_of_getElem? hk;have hkl := (List.getElem?_eq_some_iff.1 hk).1
 have hlt : e.2.length < 5 := by have := (h.st e he).2.2; omega
 obtain ⟨h4, l, hl4⟩ := Inv.four T t 5 (e := e) ⟨h.first, h.kl, h.st, h.srt, fun x hx => by have := h.bd x hx; omega, h.done⟩ hk hlt
 refine ⟨h4, fun e' hk' => ?_⟩
 have hk4 : (step4 T L e)[k]? = some e := by rw [hl4, List.getElem?_append_left hkl, hk]
 obtain ⟨i1, i2⟩ := List.getElem?_eq_some_iff.1 hk4;obtain ⟨i3, i4⟩ := List.getElem?_eq_some_iff.1 hk';have hp := List.pairwise_iff_getElem.1 h4.srt k (k + 1) i1 i3 (by omega)
 rw [i2, i4] at hp
 omega
theorem run_good {t : List Int} (ht : G t) : ∀ (n : Nat) (u : List Nat), u.length = n → okw u → G (run T t u)
 | 0, u, hu, _ => by
  obtain rfl := List.eq_nil_of_length_eq_zero hu
  exact ht
 | n + 1, u, hu, ho => by
  rcases snoc_cases u with e | ⟨v, d, e⟩
  ·subst e
   cases hu
  ·subst e
   rw [List.length_append, List.length_singleton] at hu
   rw [run_snoc]
   exact S.keep _ _ (ho d (by simp)) (run_good ht n v (by omega) fun x hx => ho x (by simp [hx]))
theorem se_loop {t : List Int} (ht : G t) : ∀ (m k : Nat) (L : List (List Int × List Nat)) (b : Nat), av 6 + 1 ≤ m + k → Inv T t 5 L k b → (∀ e, L[k]? = some e → b ≤ 4 * wv e.2 + 1) → Ev (fun n => spec_skSearch.l0 n 5 k (Xs w h L) (Ws L)) (Xs w h (loop T 5 m k L), Ws (loop T 5 m k L))
 | 0, k, L, b, hm, hi, hb => by
  have h1 := hi.len;have h2 := hi.kl
  simp only [av] at *
  omega
 | m + 1, k, L, b, hm, hi, hb => by
  have hlen := hi.len;have hav : av (5 + 1) = 1365 := rfl;have hxl := Xs_len w h L;have hwl := Ws_len L;unfold loop
  cases hk : L[k]? with
  | none =>
   have hkl := List.getElem?_eq_none_iff.1 hk
   refine Ev.step (Ev.const rfl) fun n => ?_
   rw [spec_skSearch.l0, if_neg (by omega)]
  | some e =>
   have hkl := (List.getElem?_eq_some_iff.1 hk).1;have he : e ∈ L := List.mem_of_getElem? hk;have hr : rdOf ByteArray.empty (Ws L) (k : Int) = wordS e.2 := rdM _ L k e hk;have hx : rdOf ByteArray.empty (Xs w h L) (k : Int) = tx e.1 w h := rdM _ L k e hk;have hsz := wordS_size e.2
   show Ev _ (Xs w h (if e.2.length = 5 then L else loop T 5 m (k + 1) (step4 T L e)), Ws (if e.2.length = 5 then L else loop T 5 m (k + 1) (step4 T L e)))
   by_cases hl : e.2.length = 5
   ·rw [if_pos hl]
    refine Ev.step (Ev.const rfl) fun n => ?_
    rw [spec_skSearch.l0, if_pos (by omega), if_pos (by omega), if_pos (by omega), hr, if_pos (by omega)]
   ·rw [if_neg hl]
    obtain ⟨hi2, hb2⟩ := Inv.next hi (hb e hk) hk hl
    have hg : ∀ e ∈ L, G e.1 := fun x hx => by
     obtain ⟨h1, h2, _⟩ := hi.st x hx
     rw [h1]
     exact run_good S ht _ x.2 rfl h2
    have ih := se_loop ht m (k + 1) (step4 T L e) _ (by omega) hi2 hb2;have h4 := se_four S L (by omega) hg e k hk (hi.st e he).2.2 5 _ ih
    refine Ev.step (Ev.bind (f := fun n (bt113 : Int × Int × List Int × Bool) => (spec_skSearch.l1 n 5 k 0 (Xs w h L) (Ws L) bt113.1 bt113.2.1 bt113.2.2.1)) (S.read e.1 (hg e he)) h4) fun n => ?_
    rw [spec_skSearch.l0, if_pos (by omega), if_pos (by omega), if_pos (by omega), hr, hx, if_neg (by omega)]
def found (T : Nat → List Int → List Int) (t : List Int) : List (List Int × List Nat) := loop T 5 1366 0 [(t, [])]
omit S in
theorem found_fin (t : List Int) : Fin T t 5 (found T t) := loop_fin T t 5 1366 0 _ 1 (by decide) (start_inv T t 5) fun e he => by
 injection he with he
 subst he
 show 1 ≤ 4 * 0 + 1
 decide
omit S in
theorem found_len (t : List Int) : (found T t).length ≤ 1365 := by
 have hf := found_fin (T := T) t
 have := len_keys (fun e : List Int × List Nat => wv e.2) (av 6) (found T t) 0 (by obtain ⟨l, e⟩ := hf.first; rw [e]; simp) hf.srt fun x hx => by
  obtain ⟨_, h2, h3⟩ := hf.st x hx;have h4 := wv_len _ x.2 rfl h2;have h5 := av_mono (show x.2.length + 1 ≤ 6 by omega)
  omega
 have h6 : av 6 = 1365 := rfl
 omega
theorem se_search {t : List Int} (ht : G t) : Ev (fun k => spec_skSearch.f k w h t 5) (Xs w h (found T t), Ws (found T t)) := by
 refine Ev.bind (f := fun k t103 => (spec_skSearch.l0 k 5 0 (([t103] : List ByteArray)) (([(⟨#[]⟩ : ByteArray)] : List ByteArray)))) (S.text t ht) ?_
 exact se_loop S ht 1366 0 [(t, [])] 1 (by decide) (start_inv T t 5) fun e he => by
  injection he with he
  subst he
  show 1 ≤ 4 * 0 + 1
  decide
def outS : Option (List Nat) → ByteArray × Bool
 | some u => (wordS u, true)
 | none => (⟨#[]⟩, false)
theorem se_look (num : List Int → Nat) (hp : ∀ cs, G cs → ∃ L, Ev (fun k => spec_skPieces.f k w h cs) (L, (num cs : Int))) (L : List (List Int × List Nat)) (hL : L.length ≤ 10000) (hg : ∀ e ∈ L, G e.1) : ∀ (m j : Nat), j + m = L.length → Ev (fun k => spec_WordToOne.l0 k (Xs w h L) ((Xs w h L).length : Int) j (Xs w h L) (Ws L)) (outS (((L.drop j).find? fun e => decide (num e.1 ≤ 1)).map Prod.snd))
 | 0, j, hj => by
  have hxl := Xs_len w h L
  rw [List.drop_eq_nil_of_le (by omega)]
  refine Ev.step (Ev.const (o := some (⟨#[]⟩, false)) rfl) fun k => ?_
  rw [spec_WordToOne.l0, if_neg (by omega)]
 | m + 1, j, hj => by
  have hxl := Xs_len w h L;have hwl := Ws_len L
  have hjl : j < L.length := by omega
  have hk : L[j]? = some L[j] := List.getElem?_eq_getElem hjl;have he : L[j] ∈ L := List.getElem_mem hjl;have ih := se_look num hp L hL hg m (j + 1) (by omega)
  rw [List.drop_eq_getElem_cons hjl]
  generalize L[j] = e at hk he ⊢;have hr : rdOf ByteArray.empty (Ws L) (j : Int) = wordS e.2 := rdM _ L j e hk;have hx : rdOf ByteArray.empty (Xs w h L) (j : Int) = tx e.1 w h := rdM _ L j e hk;obtain ⟨P, hP⟩ := hp e.1 (hg e he)
  refine Ev.step (Ev.bind (f := fun k (bt116 : Int × Int × List Int × Bool) => ((spec_skPieces.f k bt116.1 bt116.2.1 bt116.2.2.1).bind fun bt123 => (if bt123.2 ≤ 1 then (if (j : Int) < ((Ws L).length : Int) then (some (rdOf ByteArray.empty (Ws L) j, true)) else (none)) else (spec_WordToOne.l0 k (Xs w h L) ((Xs w h L).length : Int) ((j + 1 : Nat) : Int) (Xs w h L) (Ws L))))) (S.read e.1 (hg e he)) (Ev.bind (f := fun k (bt123 : List Int × Int) => (if bt123.2 ≤ 1 then (if (j : Int) < ((Ws L).length : Int) then (some (rdOf ByteArray.empty (Ws L) j, true)) else (none)) else (spec_WordToOne.l0 k (Xs w h L) ((Xs w h L).length : Int) ((j + 1 : Nat) : Int) (Xs w h L) (Ws L)))) hP ?_)) fun k => by rw [spec_WordToOne.l0, if_pos (by omega), if_pos (by omega), if_pos (by omega), wsx j (by omega), hx]
  by_cases hn : num e.1 ≤ 1
  ·rw [List.find?_cons_of_pos (by rw [decide_eq_true hn])]
   refine Ev.congr (Ev.const (o := some (wordS e.2, true)) rfl) fun k => ?_
   show (if (num e.1 : Int) ≤ 1 then _ else _) = _
   rw [if_pos (by omega), if_pos (by omega), hr]
  ·rw [List.find?_cons_of_neg (by rw [decide_eq_false hn]; decide)]
   refine Ev.congr ih fun k => ?_
   show (if (num e.1 : Int) ≤ 1 then _ else _) = _
   rw [if_neg (by omega)]
theorem se_word (num : List Int → Nat) (hp : ∀ cs, G cs → ∃ L, Ev (fun k => spec_skPieces.f k w h cs) (L, (num cs : Int))) {t : List Int} (ht : G t) : Ev (fun k => (spec_skSearch.f k w h t 5).bind fun bt108 => (spec_WordToOne.l0 k bt108.1 (bt108.1.length : Int) 0 bt108.1 bt108.2)) (outS ((allw 5).find? fun u => decide (num (run T t u) ≤ 1))) := by
 have hf := found_fin (T := T) t;have hl := found_len (T := T) t
 have h1 := se_look S num hp (found T t) (by omega) (fun e he => by
  obtain ⟨h1, h2, _⟩ := hf.st e he
  rw [h1]
  exact run_good S ht _ e.2 rfl h2) _ 0 (Nat.zero_add _)
 rw [List.drop_zero, ← Fin.find T t 5 hf (fun c => decide (num c ≤ 1))] at h1
 exact Ev.bind (f := fun k (bt108 : List ByteArray × List ByteArray) => (spec_WordToOne.l0 k bt108.1 (bt108.1.length : Int) 0 bt108.1 bt108.2)) (se_search S ht) h1
end
end WD
end Go.Proofs.YtkjlfgceodindaaDoor.Q
end
section
namespace Go.Proofs.YtkjlfgceodindaaDoor.Q
open Go.RowKit Go.Proofs.YtkjlfgceodindaaDoorW.PrintWords Go.Proofs.YtkjlfgceodindaaDoorW.PrintLast Go.Proofs.YtkjlfgceodindaaDoorW.PrintMore
def nbs (w h i : Nat) : List Int := (spec_tyNear.f 2 w h [] i).getD []
theorem near_all : ∀ (w h : Fin 8) (i : Fin 36), i.val < w.val * h.val → spec_tyNear.f 2 w.val h.val [] i.val = some (nbs w.val h.val i.val) ∧ impl_tray_beside.f 6 w.val h.val [] i.val = some (nbs w.val h.val i.val) ∧
 (nbs w.val h.val i.val).length ≤ 4 ∧ ∀ j ∈ nbs w.val h.val i.val, 0 ≤ j ∧ j < ((w.val * h.val : Nat) : Int) ∧ (i.val : Int) ∈ nbs w.val h.val j.toNat := by decide +kernel
theorem near_l (k : Nat) (w h : Int) (l : List Int) (i : Int) : spec_tyNear.f k w h l i = spec_tyNear.f k w h [] i := by
 have h1 : ∀ k a b c d, spec_tyNear.j1 k a b c d w h l = spec_tyNear.j1 k a b c d w h [] := by
  intro k a b c d
  cases k <;> simp only [spec_tyNear.j1]
 have h0 : ∀ k a b c d, spec_tyNear.j0 k a b c d w h l = spec_tyNear.j0 k a b c d w h [] := by
  intro k a b c d
  cases k <;> simp only [spec_tyNear.j0, h1]
 simp only [spec_tyNear.f, h0]
theorem beside_l (k : Nat) (w h : Int) (l : List Int) (i : Int) : impl_tray_beside.f k w h l i = impl_tray_beside.f k w h [] i := by
 have h0 : ∀ k a b c d e g, impl_tray_beside.l0 k a b c d e g w h l = impl_tray_beside.l0 k a b c d e g w h [] := by
  intro k
  induction k with
  | zero => intros; rfl
  | succ k ih =>
   intros
   simp only [impl_tray_beside.l0, ih]
   rfl
 simp only [impl_tray_beside.f, h0]
section
variable {w h i : Nat} (hw : w ≤ 7) (hh : h ≤ 7) (hs : w * h ≤ 36) (hi : i < w * h)
include hw hh hs hi
theorem near_ev (l : List Int) : Ev (fun k => spec_tyNear.f k w h l i) (nbs w h i) := by
 refine Ev.of_mono (fun k => spec_tyNear.mono _ _ _ _ k) 2 ?_
 rw [near_l]
 exact (near_all ⟨w, by omega⟩ ⟨h, by omega⟩ ⟨i, by omega⟩ hi).1
theorem beside_ev (l : List Int) : Ev (fun k => impl_tray_beside.f k w h l i) (nbs w h i) := by
 refine Ev.of_mono (fun k => impl_tray_beside.mono _ _ _ _ k) 6 ?_
 rw [beside_l]
 exact (near_all ⟨w, by omega⟩ ⟨h, by omega⟩ ⟨i, by omega⟩ hi).2.1
theorem nbs_len : (nbs w h i).length ≤ 4 := (near_all ⟨w, by omega⟩ ⟨h, by omega⟩ ⟨i, by omega⟩ hi).2.2.1
theorem nbs_at {j : Int} (hj : j ∈ nbs w h i) : 0 ≤ j ∧ j < ((w * h : Nat) : Int) ∧ (i : Int) ∈ nbs w h j.toNat := (near_all ⟨w, by omega⟩ ⟨h, by omega⟩ ⟨i, by omega⟩ hi).2.2.2 j hj
end
end Go.Proofs.YtkjlfgceodindaaDoor.Q
end
section
namespace Go.Proofs.YtkjlfgceodindaaDoor.Q
open Go.RowKit Go.Proofs.YtkjlfgceodindaaDoorW.PrintWords Go.Proofs.YtkjlfgceodindaaDoorW.PrintLast Go.Proofs.YtkjlfgceodindaaDoorW.PrintMore
set_option linter.unusedSectionVars false
section
open Classical
inductive Rch (w h : Nat) (cs : List Int) : Int → Int → Prop
 | refl (i : Int) (h0 : 0 ≤ i) (h1 : i < ((w * h : Nat) : Int)) (hb : bI cs i = true) : Rch w h cs i i
 | step (i u v : Int) (hu : Rch w h cs i u) (hv : v ∈ nbs w h u.toNat) (hb : bI cs v = true) : Rch w h cs i v
def isMin (w h : Nat) (cs : List Int) (i : Nat) : Prop := bI cs i = true ∧ ∀ j : Nat, j < i → ¬ Rch w h cs j i
noncomputable def mins (w h : Nat) (cs : List Int) (i : Nat) : List Nat := (List.range i).filter (fun j => decide (isMin w h cs j))
noncomputable def comp (w h : Nat) (cs : List Int) (t : Nat) (i : Int) : List Int := ((List.range t).filter (fun j : Nat => decide (Rch w h cs i (j : Int)))).map (fun j : Nat => (j : Int))
theorem mins_succ (w h : Nat) (cs : List Int) (i : Nat) : mins w h cs (i + 1) = mins w h cs i ++ if isMin w h cs i then [i] else [] := by
 unfold mins
 rw [List.range_succ, List.filter_append]
 congr 1
 by_cases hm : isMin w h cs i
 ·rw [if_pos hm]; simp [hm]
 ·rw [if_neg hm]; simp [hm]
theorem mins_len (w h : Nat) (cs : List Int) (i : Nat) : (mins w h cs i).length ≤ i := by
 have := List.length_filter_le (fun j => decide (isMin w h cs j)) (List.range i)
 rw [List.length_range] at this
 exact this
theorem comp_succ (w h : Nat) (cs : List Int) (t : Nat) (i : Int) : comp w h cs (t + 1) i = comp w h cs t i ++ if Rch w h cs i t then [(t : Int)] else [] := by
 unfold comp
 rw [List.range_succ, List.filter_append, List.map_append]
 congr 1
 by_cases hm : Rch w h cs i t
 ·rw [if_pos hm]; simp [hm]
 ·rw [if_neg hm]; simp [hm]
theorem comp_len (w h : Nat) (cs : List Int) (t : Nat) (i : Int) : (comp w h cs t i).length ≤ t := by
 unfold comp
 rw [List.length_map]
 have := List.length_filter_le (fun j : Nat => decide (Rch w h cs i (j : Int))) (List.range t)
 rw [List.length_range] at this
 exact this
section
variable {w h : Nat} {cs : List Int} (hw : w ≤ 7) (hh : h ≤ 7) (hs : w * h ≤ 36)
include hw hh hs
theorem Rch.at {i j : Int} (hr : Rch w h cs i j) : 0 ≤ j ∧ j < ((w * h : Nat) : Int) ∧ bI cs j = true := by
 induction hr with
 | refl h0 h1 hb => exact ⟨h0, h1, hb⟩
 | step u v hu hv hb ih =>
  have h2 := nbs_at hw hh hs (i := u.toNat) (by omega) hv
  exact ⟨h2.1, h2.2.1, hb⟩
theorem Rch.src {i j : Int} (hr : Rch w h cs i j) : 0 ≤ i ∧ i < ((w * h : Nat) : Int) ∧ bI cs i = true := by
 induction hr with
 | refl h0 h1 hb => exact ⟨h0, h1, hb⟩
 | step u v hu hv hb ih => exact ih
theorem Rch.trans {i j k : Int} (h1 : Rch w h cs i j) (h2 : Rch w h cs j k) : Rch w h cs i k := by
 induction h2 with
 | refl => exact h1
 | step u v hu hv hb ih => exact Rch.step i u v ih hv hb
theorem Rch.symm {i j : Int} (hr : Rch w h cs i j) : Rch w h cs j i := by
 induction hr with
 | refl h0 h1 hb => exact Rch.refl i h0 h1 hb
 | step u v hu hv hb ih =>
  have h1 := Rch.at hw hh hs hu;have h2 := nbs_at hw hh hs (i := u.toNat) (by omega) hv
  have h3 : Rch w h cs v u := by
   refine Rch.step v v u (Rch.refl v h2.1 h2.2.1 hb) ?_ h1.2.2
   have h4 := h2.2.2
   rwa [show ((u.toNat : Nat) : Int) = u by omega] at h4
  exact Rch.trans hw hh hs h3 ih
structure BI (w h : Nat) (cs L0 L q : List Int) (src c : Int) : Prop where
 len : L.length = w * h
 lab : ∀ j : Int, 0 ≤ j → j < ((w * h : Nat) : Int) → rd L j = if j ∈ q then c else rd L0 j
 mem : ∀ j ∈ q, Rch w h cs src j
 nodup : q.Nodup
 src : src ∈ q
theorem BI.qlen {L0 L q : List Int} {src c : Int} (hb : BI w h cs L0 L q src c) : q.length ≤ w * h :=
 nodup_len _ q hb.nodup fun j hj => by
  have := Rch.at hw hh hs (hb.mem j hj)
  exact ⟨this.1, this.2.1⟩
theorem BI.push {L0 L q : List Int} {src c u v : Int} (hb : BI w h cs L0 L q src c) (hc : 0 ≤ c) (hu : u ∈ q) (hv : v ∈ nbs w h u.toNat) (hbv : bI cs v = true) (hn : rd L v < 0) : BI w h cs L0 (L.set v.toNat c) (q ++ [v]) src c := by
 have h1 := Rch.at hw hh hs (hb.mem u hu);have h2 := nbs_at hw hh hs (i := u.toNat) (by omega) hv
 have h3 : v ∉ q := fun h4 => by
  have h5 := hb.lab v h2.1 h2.2.1
  rw [if_pos h4] at h5
  omega
 refine ⟨by rw [List.length_set]; exact hb.len, fun j h4 h5 => ?_, fun j hj => ?_, ?_, List.mem_append_left _ hb.src⟩
 ·rw [rd_set L v j c h2.1 (by rw [hb.len]; exact h2.2.1) h4]
  by_cases h6 : j = v
  ·rw [if_pos h6, if_pos (by rw [h6]; simp)]
  ·rw [if_neg h6, hb.lab j h4 h5, ite_iff (show j ∈ q ++ [v] ↔ j ∈ q by simp [h6])]
 ·rcases List.mem_append.1 hj with h6 | h6
  ·exact hb.mem j h6
  ·rw [List.mem_singleton.1 h6]
   exact Rch.step _ u v (hb.mem u hu) hv hbv
 ·rw [List.nodup_append]
  exact ⟨hb.nodup, by simp, fun a ha b hb2 e => h3 (by rw [← List.mem_singleton.1 hb2, ← e]; exact ha)⟩
theorem sk_l3 (hn : cs.length = w * h) (L0 : List Int) (src c x29 : Int) (hc : 0 ≤ c) (p : Nat) (u : Int) (N : List Int) (hN : N = nbs w h u.toNat) (hN4 : N.length ≤ 4) (hu36 : p ≤ 36) : ∀ (m t : Nat) (L q : List Int), t + m = N.length → BI w h cs L0 L q src c → u ∈ q →
  (∀ v ∈ N.take t, bI cs v = true → 0 ≤ rd L v) →
  ∃ L' q', BI w h cs L0 L' q' src c ∧ q <+: q' ∧ (∀ v ∈ N, bI cs v = true → 0 ≤ rd L' v) ∧ (∀ j : Int, 0 ≤ j → j < ((w * h : Nat) : Int) → 0 ≤ rd L j → 0 ≤ rd L' j) ∧
   ∀ K, Ev (fun k => spec_skPieces.l2 k L' c q' ((p + 1 : Nat) : Int) cs cs.length x29 w h cs) K → Ev (fun k => spec_skPieces.l3 k L c q p cs cs.length x29 N N.length t w h cs) K
 | 0, t, L, q, ht, hb, hu, hcl => by
  refine ⟨L, q, hb, List.prefix_rfl, ?_, fun _ _ _ h => h, fun K hK => Ev.step hK fun k => ?_⟩
  ·rwa [List.take_of_length_le (by omega)] at hcl
  ·rw [spec_skPieces.l3, if_neg (by omega), show wrap64 ((p : Int) + 1) = ((p + 1 : Nat) : Int) by rw [w64 (by omega) (by omega)]; omega]
 | m + 1, t, L, q, ht, hb, hu, hcl => by
  have hlt : t < N.length := by omega
  have c1 : (t : Int) < (N.length : Int) := by omega
  have c0 : (0 : Int) ≤ (t : Int) := by omega
  have hru := Rch.at hw hh hs (hb.mem u hu)
  have hwt : wrap64 ((t : Int) + 1) = ((t + 1 : Nat) : Int) := by rw [w64 (by omega) (by omega)]; omega
  have htk : N.take (t + 1) = N.take t ++ [N[t]] := List.take_succ_eq_append_getElem hlt;have hrd := rd_nat _ t hlt;have hv : N[t] ∈ N := List.getElem_mem hlt;generalize N[t] = v at htk hrd hv;have hvr := nbs_at hw hh hs (i := u.toNat) (by omega) (hN ▸ hv);have hql := BI.qlen hw hh hs hb;have c3 : 0 ≤ v := hvr.1
  have c4 : v < (cs.length : Int) := by rw [hn]; exact hvr.2.1
  have c5 : v < (L.length : Int) := by rw [hb.len]; exact hvr.2.1
  have c6 : q.length < 17592186044416 := Nat.lt_of_le_of_lt (Nat.le_trans hql hs) (by decide);have hgo : ∀ K, Ev (fun k => if bI cs v = true then (if rd L v < 0 then spec_skPieces.l3 k (L.set v.toNat c) c (q ++ [v]) p cs cs.length x29 N N.length ((t + 1 : Nat) : Int) w h cs else spec_skPieces.l3 k L c q p cs cs.length x29 N N.length ((t + 1 : Nat) : Int) w h cs) else spec_skPieces.l3 k L c q p cs cs.length x29 N N.length ((t + 1 : Nat) : Int) w h cs) K →
    Ev (fun k => spec_skPieces.l3 k L c q p cs cs.length x29 N N.length t w h cs) K := fun K hK => by
   refine Ev.step hK fun k => ?_
   rw [spec_skPieces.l3, if_pos c1, if_pos c0, if_pos c1, hrd, if_pos c3, if_pos c4, tyBall_eq, Option.bind_some, hwt]
   show (if bI cs v = true then _ else _) = _
   by_cases h1 : bI cs v = true
   ·rw [if_pos h1, if_pos h1, if_pos c5]
    by_cases h2 : rd L v < 0
    ·rw [if_pos h2, if_pos h2, if_pos c6]
    ·rw [if_neg h2, if_neg h2]
   ·rw [if_neg h1, if_neg h1]
  by_cases h1 : bI cs v = true
  ·by_cases h2 : rd L v < 0
   ·have hp := BI.push hw hh hs hb hc hu (hN ▸ hv) h1 h2
    have hgrow : ∀ j : Int, 0 ≤ j → j < ((w * h : Nat) : Int) → 0 ≤ rd L j → 0 ≤ rd (L.set v.toNat c) j := fun j h3 h4 h5 => by
     rw [rd_set L v j c hvr.1 (by rw [hb.len]; omega) h3]
     split
     ·exact hc
     ·exact h5
    obtain ⟨L', q', e1, e2, e3, e4, e5⟩ := sk_l3 hn L0 src c x29 hc p u N hN hN4 hu36 m (t + 1) _ _ (by omega) hp (List.mem_append_left _ hu) (fun x hx hbx => by
     rw [htk] at hx
     rcases List.mem_append.1 hx with h3 | h3
     ·have h4 := nbs_at hw hh hs (i := u.toNat) (by omega) (hN ▸ List.take_subset _ _ h3)
      exact hgrow x h4.1 h4.2.1 (hcl x h3 hbx)
     ·rw [List.mem_singleton.1 h3, rd_set L v v c hvr.1 (by rw [hb.len]; omega) hvr.1, if_pos rfl]
      exact hc)
    refine ⟨L', q', e1, (List.prefix_append q [v]).trans e2, e3, fun j h3 h4 h5 => e4 j h3 h4 (hgrow j h3 h4 h5), fun K hK => hgo K ?_⟩
    refine Ev.congr (e5 K hK) fun k => ?_
    rw [if_pos h1, if_pos h2]
   ·obtain ⟨L', q', e1, e2, e3, e4, e5⟩ := sk_l3 hn L0 src c x29 hc p u N hN hN4 hu36 m (t + 1) L q (by omega) hb hu (fun x hx hbx => by
     rw [htk] at hx
     rcases List.mem_append.1 hx with h3 | h3
     ·exact hcl x h3 hbx
     ·rw [List.mem_singleton.1 h3]
      omega)
    refine ⟨L', q', e1, e2, e3, e4, fun K hK => hgo K ?_⟩
    refine Ev.congr (e5 K hK) fun k => ?_
    rw [if_pos h1, if_neg h2]
  ·obtain ⟨L', q', e1, e2, e3, e4, e5⟩ := sk_l3 hn L0 src c x29 hc p u N hN hN4 hu36 m (t + 1) L q (by omega) hb hu (fun x hx hbx => by
     rw [htk] at hx
     rcases List.mem_append.1 hx with h3 | h3
     ·exact hcl x h3 hbx
     ·rw [List.mem_singleton.1 h3] at hbx
      exact absurd hbx h1)
   refine ⟨L', q', e1, e2, e3, e4, fun K hK => hgo K ?_⟩
   refine Ev.congr (e5 K hK) fun k => ?_
   rw [if_neg h1]
theorem sk_l2 (hn : cs.length = w * h) (L0 : List Int) (src c x29 : Int) (hc : 0 ≤ c) : ∀ (m p : Nat) (L q : List Int), p + m = w * h + 1 → p ≤ q.length → BI w h cs L0 L q src c →
  (∀ u ∈ q.take p, ∀ v ∈ nbs w h u.toNat, bI cs v = true → 0 ≤ rd L v) →
  ∃ L' q', BI w h cs L0 L' q' src c ∧ (∀ u ∈ q', ∀ v ∈ nbs w h u.toNat, bI cs v = true → 0 ≤ rd L' v) ∧
   ∀ K, Ev (fun k => spec_skPieces.l1 k L' (wrap64 (c + 1)) cs cs.length (wrap64 (x29 + 1)) w h cs) K → Ev (fun k => spec_skPieces.l2 k L c q p cs cs.length x29 w h cs) K
 | 0, p, L, q, hp, hpq, hb, hcl => by
  have := BI.qlen hw hh hs hb
  omega
 | m + 1, p, L, q, hp, hpq, hb, hcl => by
  have hql := BI.qlen hw hh hs hb
  by_cases hlt : p < q.length
  ·have hrd := rd_nat q p hlt
   have hu : q[p] ∈ q := List.getElem_mem hlt;have hur := Rch.at hw hh hs (hb.mem _ hu);obtain ⟨L1, q1, e1, e2, e3, e4, e5⟩ := sk_l3 hw hh hs hn L0 src c x29 hc p q[p] _ rfl (nbs_len hw hh hs (by omega)) (by omega) (nbs w h q[p].toNat).length 0 L q (Nat.zero_add _) hb hu (fun v hv => by simp at hv);obtain ⟨z, hz⟩ := e2
   have hle : q.length ≤ q1.length := by rw [← hz, List.length_append]; omega
   have htk : q1.take (p + 1) = q.take p ++ [q[p]] := by
    rw [← hz, List.take_append_of_le_length (by omega)]
    exact List.take_succ_eq_append_getElem hlt
   obtain ⟨L2, q2, f1, f2, f3⟩ := sk_l2 hn L0 src c x29 hc m (p + 1) L1 q1 (by omega) (by omega) e1 (fun u hu2 v hv hbv => by
    rw [htk] at hu2
    rcases List.mem_append.1 hu2 with h3 | h3
    ·have h4 := Rch.at hw hh hs (hb.mem u (List.take_subset _ _ h3))
     have h5 := nbs_at hw hh hs (i := u.toNat) (by omega) hv
     exact e4 v h5.1 h5.2.1 (hcl u h3 v hv hbv)
    ·rw [List.mem_singleton.1 h3] at hv
     exact e3 v hv hbv)
   refine ⟨L2, q2, f1, f2, fun K hK => ?_⟩
   have hnear := near_ev hw hh hs (i := q[p].toNat) (by omega) cs
   rw [show ((q[p].toNat : Nat) : Int) = q[p] by omega] at hnear
   refine Ev.step (Ev.bind (f := fun k t => spec_skPieces.l3 k L c q p cs cs.length x29 t t.length 0 w h cs) hnear (e5 K (f3 K hK))) fun k => ?_
   rw [spec_skPieces.l2, if_pos (by omega), if_pos (by omega), hrd]
  ·refine ⟨L, q, hb, ?_, fun K hK => Ev.step hK fun k => ?_⟩
   ·rwa [List.take_of_length_le (by omega)] at hcl
   ·rw [spec_skPieces.l2, if_neg (by omega)]
end
end
end Go.Proofs.YtkjlfgceodindaaDoor.Q
end
section
namespace Go.Proofs.YtkjlfgceodindaaDoor.Q
open Go.RowKit Go.Proofs.YtkjlfgceodindaaDoorW.PrintWords Go.Proofs.YtkjlfgceodindaaDoorW.PrintLast Go.Proofs.YtkjlfgceodindaaDoorW.PrintMore
set_option linter.unusedSectionVars false
open Classical
section
variable {w h : Nat} {cs : List Int} (hw : w ≤ 7) (hh : h ≤ 7) (hs : w * h ≤ 36)
include hw hh hs
structure OI (w h : Nat) (cs L : List Int) (i : Nat) : Prop where
 len : L.length = w * h
 reach : ∀ j : Int, 0 ≤ j → j < ((w * h : Nat) : Int) → (0 ≤ rd L j ↔ ∃ m : Nat, m < i ∧ Rch w h cs m j)
 lab : ∀ j : Int, 0 ≤ j → j < ((w * h : Nat) : Int) → 0 ≤ rd L j → ∃ m : Nat, m < i ∧ isMin w h cs m ∧ Rch w h cs m j ∧ rd L j = (mins w h cs m).length
 low : ∀ j : Int, 0 ≤ j → j < ((w * h : Nat) : Int) → rd L j < 0 → rd L j = -1
theorem OI.same {L : List Int} {i : Nat} (ho : OI w h cs L i) (hm : ¬ isMin w h cs i) : OI w h cs L (i + 1) := by
 refine ⟨ho.len, fun j h0 h1 => (ho.reach j h0 h1).trans ⟨fun ⟨m, h2, h3⟩ => ⟨m, by omega, h3⟩, fun ⟨m, h2, h3⟩ => ?_⟩, fun j h0 h1 h2 => ?_, ho.low⟩
 ·by_cases h4 : m = i
  ·subst h4
   have h5 := Rch.src hw hh hs h3
   have h6 : ∃ m' : Nat, m' < m ∧ Rch w h cs m' m := by
    apply Classical.byContradiction
    intro h7
    exact hm ⟨h5.2.2, fun j hj hr => h7 ⟨j, hj, hr⟩⟩
   obtain ⟨m', h7, h8⟩ := h6
   exact ⟨m', h7, Rch.trans hw hh hs h8 h3⟩
  ·exact ⟨m, by omega, h3⟩
 ·obtain ⟨m, h3, h4⟩ := ho.lab j h0 h1 h2
  exact ⟨m, by omega, h4⟩
theorem BI.done {L0 L q : List Int} {i : Nat} (ho : OI w h cs L0 i) (hm : isMin w h cs i) (hb : BI w h cs L0 L q i (mins w h cs i).length)
  (hcl : ∀ u ∈ q, ∀ v ∈ nbs w h u.toNat, bI cs v = true → 0 ≤ rd L v) : OI w h cs L (i + 1) := by
 have hmark : ∀ j : Int, Rch w h cs i j → 0 ≤ rd L j := by
  intro j hj
  induction hj with
  | refl h0 h1 hbb =>
   rw [hb.lab i h0 h1, if_pos hb.src]
   omega
  | step u v hu hv hbv ih =>
   have h1 := Rch.at hw hh hs hu;have h2 := nbs_at hw hh hs (i := u.toNat) (by omega) hv
   by_cases h3 : u ∈ q
   ·exact hcl u h3 v hv hbv
   ·rw [hb.lab u h1.1 h1.2.1, if_neg h3] at ih
    obtain ⟨m, h4, h5⟩ := (ho.reach u h1.1 h1.2.1).1 ih;have h6 := (ho.reach v h2.1 h2.2.1).2 ⟨m, h4, Rch.step _ u v h5 hv hbv⟩
    rw [hb.lab v h2.1 h2.2.1]
    split
    ·omega
    ·exact h6
 refine ⟨hb.len, fun j h0 h1 => ⟨fun h2 => ?_, fun ⟨m, h2, h3⟩ => ?_⟩, fun j h0 h1 h2 => ?_, fun j h0 h1 h2 => ?_⟩
 ·by_cases h3 : j ∈ q
  ·exact ⟨i, by omega, hb.mem j h3⟩
  ·rw [hb.lab j h0 h1, if_neg h3] at h2
   obtain ⟨m, h4, h5⟩ := (ho.reach j h0 h1).1 h2
   exact ⟨m, by omega, h5⟩
 ·by_cases h4 : m = i
  ·subst h4
   exact hmark j h3
  ·have h5 := (ho.reach j h0 h1).2 ⟨m, by omega, h3⟩
   rw [hb.lab j h0 h1]
   split
   ·omega
   ·exact h5
 ·by_cases h3 : j ∈ q
  ·refine ⟨i, by omega, hm, hb.mem j h3, ?_⟩
   rw [hb.lab j h0 h1, if_pos h3]
  ·rw [hb.lab j h0 h1, if_neg h3] at h2 ⊢
   obtain ⟨m, h4, h5⟩ := ho.lab j h0 h1 h2
   exact ⟨m, by omega, h5⟩
 ·by_cases h3 : j ∈ q
  ·rw [hb.lab j h0 h1, if_pos h3] at h2
   omega
  ·rw [hb.lab j h0 h1, if_neg h3] at h2 ⊢
   exact ho.low j h0 h1 h2
theorem BI.start {L0 : List Int} {i : Nat} {c : Int} (hlen : L0.length = w * h) (hi : i < w * h) (hb : bI cs i = true) : BI w h cs L0 (L0.set ((i : Nat) : Int).toNat c) [(i : Int)] i c := by
 refine ⟨by rw [List.length_set]; exact hlen, fun j h0 h1 => ?_, fun j hj => ?_, by simp, by simp⟩
 ·rw [rd_set L0 i j c (by omega) (by omega) h0]
  exact ite_iff (by simp)
 ·rw [List.mem_singleton.1 hj]
  exact Rch.refl _ (by omega) (by omega) hb
theorem sk_l1 (hn : cs.length = w * h) : ∀ (m i : Nat) (L : List Int), i + m = w * h → OI w h cs L i → ∃ L', OI w h cs L' (w * h) ∧ Ev (fun k => spec_skPieces.l1 k L (mins w h cs i).length cs cs.length i w h cs) (L', ((mins w h cs (w * h)).length : Int))
 | 0, i, L, hi, ho => by
  obtain rfl : i = w * h := by omega
  refine ⟨L, ho, Ev.step (Ev.const (o := some (L, ((mins w h cs (w * h)).length : Int))) rfl) fun k => ?_⟩
  rw [spec_skPieces.l1, if_neg (by omega)]
 | m + 1, i, L, hi, ho => by
  have hlt : i < w * h := by omega
  have c1 : (i : Int) < (cs.length : Int) := by omega
  have c0 : (0 : Int) ≤ (i : Int) := by omega
  have c2 : (i : Int) < (L.length : Int) := by rw [ho.len]; omega
  have hwi : wrap64 ((i : Int) + 1) = ((i + 1 : Nat) : Int) := by rw [w64 (by omega) (by omega)]; omega
  have hml := mins_len w h cs i;have hstep : ∀ b K, Ev (fun k => spec_skPieces.j2 k L (mins w h cs i).length i cs cs.length i b w h cs) K → ((bI cs i = true → b = decide (rd L i ≥ 0)) ∧ (bI cs i = false → b = true)) →
    Ev (fun k => spec_skPieces.l1 k L (mins w h cs i).length cs cs.length i w h cs) K := fun b K hK hb => by
   refine Ev.step hK fun k => ?_
   rw [spec_skPieces.l1, if_pos c1, if_pos c0, if_pos c1, tyBall_eq, Option.bind_some]
   show (if bI cs i = true then _ else _) = _
   by_cases h1 : bI cs i = true
   ·rw [if_pos h1, if_pos c2, hb.1 h1]
   ·rw [if_neg h1, hb.2 (Bool.eq_false_iff.2 h1)]
  by_cases hm : isMin w h cs i
  ·have hrd : rd L i < 0 := by
    apply Int.not_le.1
    intro h2;obtain ⟨m', h3, h4⟩ := (ho.reach i (by omega) (by omega)).1 h2
    exact hm.2 m' h3 h4
   obtain ⟨L', q', e1, e2, e3⟩ := sk_l2 hw hh hs hn L i (mins w h cs i).length i (by omega) (w * h + 1) 0 _ [(i : Int)] (by omega) (Nat.zero_le _) (BI.start hw hh hs ho.len hlt hm.1) (fun u hu => by simp at hu);have ho2 := BI.done hw hh hs ho hm e1 e2;obtain ⟨L2, f1, f2⟩ := sk_l1 hn m (i + 1) L' (by omega) ho2
   refine ⟨L2, f1, hstep false _ ?_ ⟨fun _ => (decide_eq_false (by omega)).symm, fun h2 => by rw [hm.1] at h2; cases h2⟩⟩
   have hms : ((mins w h cs (i + 1)).length : Int) = wrap64 ((mins w h cs i).length + 1) := by
    rw [w64 (by omega) (by omega), mins_succ, if_pos hm, List.length_append, List.length_singleton]
    omega
   rw [hms, ← hwi] at f2
   refine Ev.step (e3 _ f2) fun k => ?_
   rw [spec_skPieces.j2, if_neg (by decide), if_pos c0, if_pos c2]
   rfl
  ·have ho2 := OI.same hw hh hs ho hm
   obtain ⟨L2, f1, f2⟩ := sk_l1 hn m (i + 1) L (by omega) ho2
   have hms : mins w h cs (i + 1) = mins w h cs i := by rw [mins_succ, if_neg hm, List.append_nil]
   rw [hms, ← hwi] at f2
   refine ⟨L2, f1, hstep true _ ?_ ⟨fun h2 => ?_, fun _ => rfl⟩⟩
   ·refine Ev.step f2 fun k => ?_
    rw [spec_skPieces.j2, if_pos rfl]
   ·refine (decide_eq_true ?_).symm
    apply Classical.byContradiction
    intro h3
    refine hm ⟨h2, fun j hj hr => h3 ?_⟩
    exact (ho.reach i (by omega) (by omega)).2 ⟨j, hj, hr⟩
theorem sk_l0 (hn : cs.length = w * h) (K : List Int × Int) : ∀ (m t : Nat) (L : List Int), t + m = w * h → L.length = w * h → (∀ j : Int, 0 ≤ j → j < t → rd L j = -1) →
  (∀ L' : List Int, L'.length = w * h → (∀ j : Int, 0 ≤ j → j < ((w * h : Nat) : Int) → rd L' j = -1) → L' = List.replicate (w * h) (-1)) → Ev (fun k => spec_skPieces.l1 k (List.replicate (w * h) (-1)) 0 cs cs.length 0 w h cs) K → Ev (fun k => spec_skPieces.l0 k L ((w * h : Nat) : Int) t w h cs) K
 | 0, t, L, ht, hl, hv, hu, hK => by
  refine Ev.step hK fun k => ?_
  rw [spec_skPieces.l0, if_neg (by omega), hu L hl (fun j h0 h1 => hv j h0 (by omega))]
 | m + 1, t, L, ht, hl, hv, hu, hK => by
  have hwt : wrap64 ((t : Int) + 1) = ((t + 1 : Nat) : Int) := by rw [w64 (by omega) (by omega)]; omega
  have ih := sk_l0 hn K m (t + 1) (L.set ((t : Nat) : Int).toNat (-1)) (by omega) (by rw [List.length_set]; exact hl) (fun j h0 h1 => by
   rw [rd_set L t j (-1) (by omega) (by omega) h0]
   split
   ·rfl
   ·exact hv j h0 (by omega)) hu hK
  refine Ev.step ih fun k => ?_
  rw [spec_skPieces.l0, if_pos (by omega), if_pos (by omega), if_pos (by omega), hwt]
theorem rep_eq (n : Nat) (L : List Int) (hl : L.length = n) (hv : ∀ j : Int, 0 ≤ j → j < (n : Int) → rd L j = -1) : L = List.replicate n (-1) := by
 refine List.ext_getElem (by simpa using hl) fun i h1 h2 => ?_
 have := hv i (by omega) (by omega)
 rw [rd_nat L i h1] at this
 rw [this, List.getElem_replicate]
theorem rd_rep (n : Nat) (x j : Int) (h0 : 0 ≤ j) (h1 : j < (n : Int)) : rd (List.replicate n x) j = x := by
 unfold rd
 rw [List.getD_eq_getElem?_getD, List.getElem?_replicate, if_pos (by omega)]
 rfl
theorem pieces_ev (hn : cs.length = w * h) : ∃ L, OI w h cs L (w * h) ∧ Ev (fun k => spec_skPieces.f k w h cs) (L, ((mins w h cs (w * h)).length : Int)) := by
 have ho : OI w h cs (List.replicate (w * h) (-1)) 0 := by
  refine ⟨by simp, fun j h0 h1 => ⟨fun h2 => ?_, fun ⟨m, h2, _⟩ => by omega⟩, fun j h0 h1 h2 => ?_, fun j h0 h1 _ => rd_rep hw hh hs _ _ j h0 h1⟩
  ·rw [rd_rep hw hh hs _ _ j h0 h1] at h2
   omega
  ·rw [rd_rep hw hh hs _ _ j h0 h1] at h2
   omega
 obtain ⟨L, h1, h2⟩ := sk_l1 hw hh hs hn (w * h) 0 _ (by omega) ho
 refine ⟨L, h1, ?_⟩
 have h3 := sk_l0 hw hh hs hn _ (w * h) 0 (List.replicate (w * h) 0) (by omega) (by simp) (fun j a b => by omega) (rep_eq hw hh hs _) h2
 refine Ev.congr h3 fun k => ?_
 unfold spec_skPieces.f
 rw [if_pos (by omega), if_pos (by omega), Option.bind_some, hn, List.length_replicate, Int.toNat_natCast]
 rfl
end
end Go.Proofs.YtkjlfgceodindaaDoor.Q
end
section
namespace Go.Proofs.YtkjlfgceodindaaDoor.Q
open Go.RowKit Go.Proofs.YtkjlfgceodindaaDoorW.PrintWords Go.Proofs.YtkjlfgceodindaaDoorW.PrintLast Go.Proofs.YtkjlfgceodindaaDoorW.PrintMore
set_option linter.unusedSectionVars false
open Classical
section
variable {w h : Nat} {cs : List Int} (hw : w ≤ 7) (hh : h ≤ 7) (hs : w * h ≤ 36)
include hw hh hs
structure DI (w h : Nat) (cs L q : List Int) (src : Int) : Prop where
 len : L.length = w * h
 inq : ∀ j : Int, 0 ≤ j → j < ((w * h : Nat) : Int) → j ∈ q → 0 ≤ rd L j ∧ rd L j < q.length
 out : ∀ j : Int, 0 ≤ j → j < ((w * h : Nat) : Int) → j ∉ q → rd L j = -1
 mem : ∀ j ∈ q, Rch w h cs src j
 nodup : q.Nodup
 src : src ∈ q
theorem DI.qlen {L q : List Int} {src : Int} (hb : DI w h cs L q src) : q.length ≤ w * h :=
 nodup_len _ q hb.nodup fun j hj => by
  have := Rch.at hw hh hs (hb.mem j hj)
  exact ⟨this.1, this.2.1⟩
theorem DI.push {L q : List Int} {src u v : Int} (hb : DI w h cs L q src) (hu : u ∈ q) (hv : v ∈ nbs w h u.toNat) (hbv : bI cs v = true) (hn : rd L v < 0) : DI w h cs (L.set v.toNat (wrap64 (rd L u + 1))) (q ++ [v]) src := by
 have h1 := Rch.at hw hh hs (hb.mem u hu);have h2 := nbs_at hw hh hs (i := u.toNat) (by omega) hv;have hq := DI.qlen hw hh hs hb;have hru := hb.inq u h1.1 h1.2.1 hu;have hwr : wrap64 (rd L u + 1) = rd L u + 1 := w64 (by omega) (by omega)
 have h3 : v ∉ q := fun h4 => by
  have h5 := hb.inq v h2.1 h2.2.1 h4
  omega
 have hvl : v < (L.length : Int) := by rw [hb.len]; exact h2.2.1
 refine ⟨by rw [List.length_set]; exact hb.len, fun j h4 h5 h6 => ?_, fun j h4 h5 h6 => ?_, fun j hj => ?_, ?_, List.mem_append_left _ hb.src⟩
 ·rw [rd_set L v j _ h2.1 hvl h4, List.length_append, List.length_singleton, hwr]
  by_cases h7 : j = v
  ·rw [if_pos h7]
   omega
  ·rw [if_neg h7]
   have h8 := hb.inq j h4 h5 (by simpa [h7] using h6)
   omega
 ·have h7 : j ≠ v := fun e => h6 (by rw [e]; simp)
  rw [rd_set L v j _ h2.1 hvl h4, if_neg h7]
  exact hb.out j h4 h5 (fun h8 => h6 (List.mem_append_left _ h8))
 ·rcases List.mem_append.1 hj with h6 | h6
  ·exact hb.mem j h6
  ·rw [List.mem_singleton.1 h6]
   exact Rch.step _ u v (hb.mem u hu) hv hbv
 ·rw [List.nodup_append]
  exact ⟨hb.nodup, by simp, fun a ha b hb2 e => h3 (by rw [← List.mem_singleton.1 hb2, ← e]; exact ha)⟩
theorem di_l1 (hn : cs.length = w * h) (src : Int) (p : Nat) (u : Int) (N : List Int) (hN : N = nbs w h u.toNat) (hN4 : N.length ≤ 4) (hp36 : p ≤ 36) : ∀ (m t : Nat) (L q : List Int), t + m = N.length → DI w h cs L q src → (hpq : p < q.length) → rd q p = u → u ∈ q →
  (∀ v ∈ N.take t, bI cs v = true → v ∈ q) →
  ∃ L' q', DI w h cs L' q' src ∧ q <+: q' ∧ (∀ v ∈ N, bI cs v = true → v ∈ q') ∧
   ∀ K, Ev (fun k => impl_tray_distances_isBall.l0 k L' q' ((p + 1 : Nat) : Int) w h cs) K → Ev (fun k => impl_tray_distances_isBall.l1 k L q p N N.length t w h cs) K
 | 0, t, L, q, ht, hb, hpq, hqu, hu, hcl => by
  refine ⟨L, q, hb, List.prefix_rfl, ?_, fun K hK => Ev.step hK fun k => ?_⟩
  ·rwa [List.take_of_length_le (by omega)] at hcl
  ·rw [impl_tray_distances_isBall.l1, if_neg (by omega), show wrap64 ((p : Int) + 1) = ((p + 1 : Nat) : Int) by rw [w64 (by omega) (by omega)]; omega]
 | m + 1, t, L, q, ht, hb, hpq, hqu, hu, hcl => by
  have hlt : t < N.length := by omega
  have c1 : (t : Int) < (N.length : Int) := by omega
  have c0 : (0 : Int) ≤ (t : Int) := by omega
  have c7 : (0 : Int) ≤ (p : Int) := by omega
  have c8 : (p : Int) < (q.length : Int) := by omega
  have hru := Rch.at hw hh hs (hb.mem u hu)
  have c9 : u < (L.length : Int) := by rw [hb.len]; exact hru.2.1
  have hwt : wrap64 ((t : Int) + 1) = ((t + 1 : Nat) : Int) := by rw [w64 (by omega) (by omega)]; omega
  have htk : N.take (t + 1) = N.take t ++ [N[t]] := List.take_succ_eq_append_getElem hlt;have hrd := rd_nat _ t hlt;have hv : N[t] ∈ N := List.getElem_mem hlt;generalize N[t] = v at htk hrd hv;have hvr := nbs_at hw hh hs (i := u.toNat) (by omega) (hN ▸ hv);have hql := DI.qlen hw hh hs hb;have c3 : 0 ≤ v := hvr.1
  have c4 : v < (cs.length : Int) := by rw [hn]; exact hvr.2.1
  have c5 : v < (L.length : Int) := by rw [hb.len]; exact hvr.2.1
  have c6 : q.length < 17592186044416 := Nat.lt_of_le_of_lt (Nat.le_trans hql hs) (by decide);have hgo : ∀ K, Ev (fun k => if bI cs v = true then (if rd L v < 0 then impl_tray_distances_isBall.l1 k (L.set v.toNat (wrap64 (rd L u + 1))) (q ++ [v]) p N N.length ((t + 1 : Nat) : Int) w h cs else impl_tray_distances_isBall.l1 k L q p N N.length ((t + 1 : Nat) : Int) w h cs) else impl_tray_distances_isBall.l1 k L q p N N.length ((t + 1 : Nat) : Int) w h cs) K →
    Ev (fun k => impl_tray_distances_isBall.l1 k L q p N N.length t w h cs) K := fun K hK => by
   refine Ev.step hK fun k => ?_
   rw [impl_tray_distances_isBall.l1, if_pos c1, if_pos c0, if_pos c1, hrd, if_pos c3, if_pos c4, isBall_eq, Option.bind_some, hwt]
   show (if bI cs v = true then _ else _) = _
   by_cases h1 : bI cs v = true
   ·rw [if_pos h1, if_pos h1, if_pos c5]
    by_cases h2 : rd L v < 0
    ·rw [if_pos h2, if_pos h2, if_pos c7, if_pos c8, hqu, if_pos hru.1, if_pos c9, if_pos c6]
    ·rw [if_neg h2, if_neg h2]
   ·rw [if_neg h1, if_neg h1]
  by_cases h1 : bI cs v = true
  ·by_cases h2 : rd L v < 0
   ·have hp := DI.push hw hh hs hb hu (hN ▸ hv) h1 h2
    obtain ⟨L', q', e1, e2, e3, e5⟩ := di_l1 hn src p u N hN hN4 hp36 m (t + 1) _ _ (by omega) hp (by rw [List.length_append]; omega) (by
     rw [← hqu]
     unfold rd
     rw [Int.toNat_natCast, List.getD_eq_getElem?_getD, List.getElem?_append_left hpq, List.getD_eq_getElem?_getD]) (List.mem_append_left _ hu) (fun x hx hbx => by
     rw [htk] at hx
     rcases List.mem_append.1 hx with h3 | h3
     ·exact List.mem_append_left _ (hcl x h3 hbx)
     ·exact List.mem_append_right _ h3)
    refine ⟨L', q', e1, (List.prefix_append q [v]).trans e2, e3, fun K hK => hgo K ?_⟩
    refine Ev.congr (e5 K hK) fun k => ?_
    rw [if_pos h1, if_pos h2]
   ·obtain ⟨L', q', e1, e2, e3, e5⟩ := di_l1 hn src p u N hN hN4 hp36 m (t + 1) L q (by omega) hb hpq hqu hu (fun x hx hbx => by
     rw [htk] at hx
     rcases List.mem_append.1 hx with h3 | h3
     ·exact hcl x h3 hbx
     ·rw [List.mem_singleton.1 h3]
      apply Classical.byContradiction
      intro h4;have h5 := hb.out v hvr.1 hvr.2.1 h4
      omega)
    refine ⟨L', q', e1, e2, e3, fun K hK => hgo K ?_⟩
    refine Ev.congr (e5 K hK) fun k => ?_
    rw [if_pos h1, if_neg h2]
  ·obtain ⟨L', q', e1, e2, e3, e5⟩ := di_l1 hn src p u N hN hN4 hp36 m (t + 1) L q (by omega) hb hpq hqu hu (fun x hx hbx => by
     rw [htk] at hx
     rcases List.mem_append.1 hx with h3 | h3
     ·exact hcl x h3 hbx
     ·rw [List.mem_singleton.1 h3] at hbx
      exact absurd hbx h1)
   refine ⟨L', q', e1, e2, e3, fun K hK => hgo K ?_⟩
   refine Ev.congr (e5 K hK) fun k => ?_
   rw [if_neg h1]
theorem di_l0 (hn : cs.length = w * h) (src : Int) : ∀ (m p : Nat) (L q : List Int), p + m = w * h + 1 → p ≤ q.length → DI w h cs L q src →
  (∀ u ∈ q.take p, ∀ v ∈ nbs w h u.toNat, bI cs v = true → v ∈ q) →
  ∃ L' q', DI w h cs L' q' src ∧ (∀ u ∈ q', ∀ v ∈ nbs w h u.toNat, bI cs v = true → v ∈ q') ∧ Ev (fun k => impl_tray_distances_isBall.l0 k L q p w h cs) L'
 | 0, p, L, q, hp, hpq, hb, hcl => by
  have := DI.qlen hw hh hs hb
  omega
 | m + 1, p, L, q, hp, hpq, hb, hcl => by
  have hql := DI.qlen hw hh hs hb
  by_cases hlt : p < q.length
  ·have hrd := rd_nat q p hlt
   have hu : q[p] ∈ q := List.getElem_mem hlt;have hur := Rch.at hw hh hs (hb.mem _ hu);obtain ⟨L1, q1, e1, e2, e3, e5⟩ := di_l1 hw hh hs hn src p q[p] _ rfl (nbs_len hw hh hs (by omega)) (by omega) (nbs w h q[p].toNat).length 0 L q (Nat.zero_add _) hb hlt hrd hu (fun v hv => by simp at hv);obtain ⟨z, hz⟩ := e2
   have hle : q.length ≤ q1.length := by rw [← hz, List.length_append]; omega
   have htk : q1.take (p + 1) = q.take p ++ [q[p]] := by
    rw [← hz, List.take_append_of_le_length (by omega)]
    exact List.take_succ_eq_append_getElem hlt
   obtain ⟨L2, q2, f1, f2, f3⟩ := di_l0 hn src m (p + 1) L1 q1 (by omega) (by omega) e1 (fun u hu2 v hv hbv => by
    rw [htk] at hu2
    rcases List.mem_append.1 hu2 with h3 | h3
    ·rw [← hz]
     exact List.mem_append_left _ (hcl u h3 v hv hbv)
    ·rw [List.mem_singleton.1 h3] at hv
     exact e3 v hv hbv)
   refine ⟨L2, q2, f1, f2, ?_⟩
   have hnear := beside_ev hw hh hs (i := q[p].toNat) (by omega) cs
   rw [show ((q[p].toNat : Nat) : Int) = q[p] by omega] at hnear
   refine Ev.step (Ev.bind (f := fun k t => impl_tray_distances_isBall.l1 k L q p t t.length 0 w h cs) hnear (e5 _ f3)) fun k => ?_
   rw [impl_tray_distances_isBall.l0, if_pos (by omega), if_pos (by omega), hrd]
  ·refine ⟨L, q, hb, ?_, Ev.step (Ev.const (o := some L) rfl) fun k => ?_⟩
   ·rwa [List.take_of_length_le (by omega)] at hcl
   ·rw [impl_tray_distances_isBall.l0, if_neg (by omega)]
theorem rd_rep2 (n : Nat) (x j : Int) (h0 : 0 ≤ j) (h1 : j < (n : Int)) : rd (List.replicate n x) j = x := by
 unfold rd
 rw [List.getD_eq_getElem?_getD, List.getElem?_replicate, if_pos (by omega)]
 rfl
theorem dist_ev (hn : cs.length = w * h) (i : Nat) (hi : i < w * h) : ∃ L : List Int, L.length = w * h ∧ (∀ j : Int, 0 ≤ j → j < ((w * h : Nat) : Int) → (0 ≤ rd L j ↔ Rch w h cs i j)) ∧ Ev (fun k => impl_tray_distances_isBall.f k w h cs i ()) L := by
 have hrep : slices_Repeat_int.f ([(-1)] : List Int) (cs.length : Int) = some (List.replicate (w * h) (-1)) := by
  unfold slices_Repeat_int.f
  rw [if_pos ⟨rfl, by omega, by omega⟩, hn, Int.toNat_natCast]
  rfl
 have c0 : (0 : Int) ≤ (i : Int) := by omega
 have c1 : (i : Int) < (cs.length : Int) := by omega
 have c2 : (i : Int) < ((List.replicate (w * h) (-1 : Int)).length : Int) := by rw [List.length_replicate]; omega
 by_cases hb : bI cs i = true
 ·have hd : DI w h cs ((List.replicate (w * h) (-1)).set ((i : Nat) : Int).toNat 0) [(i : Int)] i := by
   refine ⟨by simp, fun j h0 h1 h2 => ?_, fun j h0 h1 h2 => ?_, fun j hj => ?_, by simp, by simp⟩
   ·rw [rd_set _ i j 0 c0 c2 h0, if_pos (by simpa using h2)]
    simp
   ·rw [rd_set _ i j 0 c0 c2 h0, if_neg (by simpa using h2)]
    exact rd_rep2 hw hh hs _ _ j h0 h1
   ·rw [List.mem_singleton.1 hj]
    exact Rch.refl _ (by omega) (by omega) hb
  obtain ⟨L, q, e1, e2, e3⟩ := di_l0 hw hh hs hn i (w * h + 1) 0 _ _ (by omega) (Nat.zero_le _) hd (fun u hu => by simp at hu)
  have hq : ∀ j : Int, Rch w h cs i j → j ∈ q := by
   intro j hj
   induction hj with
   | refl => exact e1.src
   | step u v hu hv hbv ih => exact e2 u ih v hv hbv
  refine ⟨L, e1.len, fun j h0 h1 => ⟨fun h2 => ?_, fun h2 => (e1.inq j h0 h1 (hq j h2)).1⟩, Ev.congr e3 fun k => ?_⟩
  ·apply e1.mem j
   apply Classical.byContradiction
   intro h3;have := e1.out j h0 h1 h3
   omega
  ·unfold impl_tray_distances_isBall.f
   rw [hrep, Option.bind_some, if_pos c0, if_pos c1, isBall_eq, Option.bind_some]
   show (if bI cs i = true then _ else _) = _
   rw [if_pos hb, if_pos c2]
   rfl
 ·refine ⟨List.replicate (w * h) (-1), by simp, fun j h0 h1 => ⟨fun h2 => ?_, fun h2 => absurd (Rch.src hw hh hs h2).2.2 hb⟩, Ev.congr (Ev.const (o := some (List.replicate (w * h) (-1))) rfl) fun k => ?_⟩
  ·rw [rd_rep2 hw hh hs _ _ j h0 h1] at h2
   omega
  ·unfold impl_tray_distances_isBall.f
   rw [hrep, Option.bind_some, if_pos c0, if_pos c1, isBall_eq, Option.bind_some]
   show (if bI cs i = true then _ else _) = _
   rw [if_neg hb]
theorem comp_head (i : Nat) (hi : i < w * h) : (0 < (comp w h cs (w * h) i).length ∧ rd (comp w h cs (w * h) i) 0 = i) ↔ isMin w h cs i := by
 have hr : List.range (w * h) = List.range i ++ (List.range' i (w * h - i)) := by
  have h1 := List.range'_append_1 (s := 0) (m := i) (n := w * h - i)
  rw [Nat.zero_add, show i + (w * h - i) = w * h by omega] at h1
  rw [List.range_eq_range', List.range_eq_range', h1]
 have hr2 : List.range' i (w * h - i) = i :: List.range' (i + 1) (w * h - i - 1) := by
  rw [show w * h - i = (w * h - i - 1) + 1 by omega, List.range'_succ]
  rfl
 unfold comp
 rw [hr, hr2, List.filter_append, List.map_append]
 constructor
 ·intro ⟨h1, h2⟩
  rcases e : (List.range i).filter (fun j : Nat => decide (Rch w h cs i (j : Int))) with _ | ⟨a, l⟩
  ·rw [e] at h1 h2
   refine ⟨?_, fun j hj hrj => ?_⟩
   ·by_cases h3 : Rch w h cs i (i : Int)
    ·exact (Rch.src hw hh hs h3).2.2
    ·exfalso
     rw [List.filter_cons, if_neg (by simp [h3]), List.map_nil, List.nil_append] at h1 h2
     rcases e2 : (List.range' (i + 1) (w * h - i - 1)).filter (fun j : Nat => decide (Rch w h cs i (j : Int))) with _ | ⟨a, l⟩
     ·rw [e2] at h1
      simp at h1
     ·rw [e2] at h2
      have hb := (Rch.src hw hh hs (of_decide_eq_true (List.mem_filter.1 (e2 ▸ List.mem_cons_self : a ∈ _)).2)).2.2
      exact h3 (Rch.refl _ (by omega) (by omega) hb)
   ·have hs2 := Rch.symm hw hh hs hrj
    have hm : j ∈ (List.range i).filter (fun j : Nat => decide (Rch w h cs i (j : Int))) := List.mem_filter.2 ⟨List.mem_range.2 hj, decide_eq_true hs2⟩
    rw [e] at hm
    simp at hm
  ·exfalso
   rw [e] at h2
   have hm : a ∈ (List.range i).filter (fun j : Nat => decide (Rch w h cs i (j : Int))) := e ▸ List.mem_cons_self;have ha := List.mem_range.1 (List.mem_filter.1 hm).1
   simp [rd] at h2
   omega
 ·intro hm
  have e : (List.range i).filter (fun j : Nat => decide (Rch w h cs i (j : Int))) = [] := by
   rw [List.filter_eq_nil_iff]
   intro j hj h1
   exact hm.2 j (List.mem_range.1 hj) (Rch.symm hw hh hs (of_decide_eq_true h1))
  have h3 : Rch w h cs i (i : Int) := Rch.refl _ (by omega) (by omega) hm.1
  rw [e, List.map_nil, List.nil_append, List.filter_cons, if_pos (by simpa using h3), List.map_cons]
  exact ⟨by simp, by simp [rd]⟩
theorem pa_l1 (i : Nat) (D : List Int) (hD : D.length = w * h) (hR : ∀ j : Int, 0 ≤ j → j < ((w * h : Nat) : Int) → (0 ≤ rd D j ↔ Rch w h cs i j)) (x5 : List (List Int)) (K : List (List Int))
  (hK : Ev (fun k => if 0 < ((comp w h cs (w * h) i).length : Int) ∧ rd (comp w h cs (w * h) i) 0 = i then (if x5.length < 5864062014805 then impl_tray_parts_isBall.l0 k () (x5 ++ [comp w h cs (w * h) i]) cs.length (wrap64 ((i : Int) + 1)) w h cs else none) else impl_tray_parts_isBall.l0 k () x5 cs.length (wrap64 ((i : Int) + 1)) w h cs) K) :
  ∀ (m t : Nat), t + m = w * h → Ev (fun k => impl_tray_parts_isBall.l1 k () x5 i (comp w h cs t i) cs.length i D D.length t w h cs) K
 | 0, t, ht => by
  obtain rfl : t = w * h := by omega
  refine Ev.step hK fun k => ?_
  rw [impl_tray_parts_isBall.l1, if_neg (by omega)]
  by_cases h1 : ((comp w h cs (w * h) i).length : Int) > 0
  ·rw [if_pos h1, if_pos h1]
   by_cases h2 : rd (comp w h cs (w * h) i) 0 = i
   ·rw [if_pos h2]
    exact (if_pos ⟨h1, h2⟩).symm
   ·rw [if_neg h2]
    exact (if_neg fun h3 => h2 h3.2).symm
  ·rw [if_neg h1]
   exact (if_neg fun h3 => h1 h3.1).symm
 | m + 1, t, ht => by
  have ih := pa_l1 i D hD hR x5 K hK m (t + 1) (by omega)
  have hwt : wrap64 ((t : Int) + 1) = ((t + 1 : Nat) : Int) := by rw [w64 (by omega) (by omega)]; omega
  have hcl := comp_len w h cs t i;have c6 : (comp w h cs t i).length < 17592186044416 := Nat.lt_of_le_of_lt (Nat.le_trans hcl (show t ≤ 36 by omega)) (by decide)
  have c1 : (t : Int) < (D.length : Int) := by omega
  have c0 : (0 : Int) ≤ (t : Int) := by omega
  have hrt := hR t c0 (by omega)
  rw [comp_succ] at ih
  refine Ev.step ih fun k => ?_
  rw [impl_tray_parts_isBall.l1, if_pos c1, if_pos c0, if_pos c1, hwt]
  by_cases h1 : Rch w h cs i (t : Int)
  ·rw [if_pos (hrt.2 h1), if_pos c6, if_pos h1]
  ·rw [if_neg (fun h2 => h1 (hrt.1 h2)), if_neg h1, List.append_nil]
noncomputable def parts (w h : Nat) (cs : List Int) (i : Nat) : List (List Int) := (mins w h cs i).map fun m : Nat => comp w h cs (w * h) m
theorem pa_l0 (hn : cs.length = w * h) : ∀ (m i : Nat), i + m = w * h → Ev (fun k => impl_tray_parts_isBall.l0 k () (parts w h cs i) cs.length i w h cs) (parts w h cs (w * h))
 | 0, i, hi => by
  obtain rfl : i = w * h := by omega
  refine Ev.step (Ev.const (o := some (parts w h cs (w * h))) rfl) fun k => ?_
  rw [impl_tray_parts_isBall.l0, if_neg (by omega)]
 | m + 1, i, hi => by
  have ih := pa_l0 hn m (i + 1) (by omega)
  have hlt : i < w * h := by omega
  obtain ⟨D, hD, hR, hE⟩ := dist_ev hw hh hs hn i hlt
  have hwi : wrap64 ((i : Int) + 1) = ((i + 1 : Nat) : Int) := by rw [w64 (by omega) (by omega)]; omega
  have hml := mins_len w h cs i
  have hpl : (parts w h cs i).length < 5864062014805 := by
   unfold parts
   rw [List.length_map]
   exact Nat.lt_of_le_of_lt (Nat.le_trans hml (show i ≤ 36 by omega)) (by decide)
  have hd := comp_head hw hh hs (cs := cs) i hlt
  have hps : parts w h cs (i + 1) = if isMin w h cs i then parts w h cs i ++ [comp w h cs (w * h) i] else parts w h cs i := by
   unfold parts
   rw [mins_succ, List.map_append]
   by_cases hm : isMin w h cs i
   ·rw [if_pos hm, if_pos hm]
    rfl
   ·rw [if_neg hm, if_neg hm, List.map_nil, List.append_nil]
  have h1 := pa_l1 hw hh hs i D hD hR (parts w h cs i) _ (by
   refine Ev.congr ih fun k => ?_
   rw [hwi, hps]
   by_cases hm : isMin w h cs i
   ·have h2 := hd.2 hm
    rw [if_pos ⟨by omega, h2.2⟩, if_pos hpl, if_pos hm]
   ·rw [if_neg (fun h2 => hm (hd.1 ⟨by omega, h2.2⟩)), if_neg hm]) (w * h) 0 (by omega)
  refine Ev.step (Ev.bind (f := fun k t => impl_tray_parts_isBall.l1 k () (parts w h cs i) i ([] : List Int) cs.length i t t.length 0 w h cs) hE ?_) fun k => ?_
  ·exact h1
  ·rw [impl_tray_parts_isBall.l0, if_pos (by omega)]
theorem parts_ev (hn : cs.length = w * h) : Ev (fun k => impl_tray_pieces.f k w h cs) (parts w h cs (w * h)) := by
 refine Ev.bind (f := fun _ t => some t) ?_ (Ev.const rfl)
 exact pa_l0 hw hh hs hn (w * h) 0 (by omega)
end
end Go.Proofs.YtkjlfgceodindaaDoor.Q
end
section
namespace Go.Proofs.YtkjlfgceodindaaDoor.Q
open Go.RowKit Go.Proofs.YtkjlfgceodindaaDoorW.PrintWords Go.Proofs.YtkjlfgceodindaaDoorW.PrintLast Go.Proofs.YtkjlfgceodindaaDoorW.PrintMore
set_option linter.unusedSectionVars false
def idxs (L : List Int) (c : Int) (t : Nat) : List Int := ((List.range t).filter (fun j : Nat => decide (rd L (j : Int) = c))).map (fun j : Nat => (j : Int))
def lists (L : List Int) (n : Nat) : List (List Int) := (List.range n).map fun k : Nat => idxs L (k : Int) L.length
theorem lists_succ (L : List Int) (n : Nat) : lists L (n + 1) = lists L n ++ [idxs L (n : Int) L.length] := by
 unfold lists
 rw [List.range_succ, List.map_append]
 rfl
open Classical
section
variable {w h : Nat} {cs : List Int} (hw : w ≤ 7) (hh : h ≤ 7) (hs : w * h ≤ 36)
include hw hh hs
theorem mins_mono (w h : Nat) (cs : List Int) (i j : Nat) (hij : i ≤ j) : (mins w h cs i).length ≤ (mins w h cs j).length := by
 obtain ⟨d, rfl⟩ : ∃ d, j = i + d := ⟨j - i, by omega⟩;clear hij
 induction d with
 | zero => exact Nat.le_refl _
 | succ d ih =>
  rw [Nat.add_succ, mins_succ, List.length_append]
  omega
theorem mins_lt {i j : Nat} (hi : isMin w h cs i) (hij : i < j) : (mins w h cs i).length < (mins w h cs j).length := by
 have h1 := mins_mono hw hh hs w h cs (i + 1) j hij
 rw [mins_succ, if_pos hi, List.length_append, List.length_singleton] at h1
 omega
theorem isMin_one {i j : Nat} {u : Int} (hi : isMin w h cs i) (hj : isMin w h cs j) (h1 : Rch w h cs i u) (h2 : Rch w h cs j u) : i = j := by
 have h3 := Rch.trans hw hh hs h1 (Rch.symm hw hh hs h2)
 rcases Nat.lt_trichotomy i j with h4 | h4 | h4
 ·exact absurd h3 (hj.2 i h4)
 ·exact h4
 ·exact absurd (Rch.symm hw hh hs h3) (hi.2 j h4)
theorem OI.same_lab {L : List Int} (ho : OI w h cs L (w * h)) {u v : Int} (hu : 0 ≤ u) (hu1 : u < ((w * h : Nat) : Int)) (hl : 0 ≤ rd L u) (hv : 0 ≤ v) (hv1 : v < ((w * h : Nat) : Int)) : rd L v = rd L u ↔ Rch w h cs u v := by
 obtain ⟨m, _, m2, m3, m4⟩ := ho.lab u hu hu1 hl
 constructor
 ·intro e
  obtain ⟨m', _, n2, n3, n4⟩ := ho.lab v hv hv1 (by omega)
  have e2 : m = m' := by
   rcases Nat.lt_trichotomy m m' with h4 | h4 | h4
   ·have := mins_lt hw hh hs m2 h4; omega
   ·exact h4
   ·have := mins_lt hw hh hs n2 h4; omega
  subst e2
  exact Rch.trans hw hh hs (Rch.symm hw hh hs m3) n3
 ·intro hr
  have h5 := Rch.trans hw hh hs m3 hr;have h6 := (ho.reach v hv hv1).2 ⟨m, by omega, h5⟩;obtain ⟨m', _, n2, n3, n4⟩ := ho.lab v hv hv1 h6;have e2 := isMin_one hw hh hs m2 n2 h5 n3;subst e2
  omega
theorem OI.ball {L : List Int} (ho : OI w h cs L (w * h)) {u : Int} (hu : 0 ≤ u) (hu1 : u < ((w * h : Nat) : Int)) : 0 ≤ rd L u ↔ bI cs u = true := by
 rw [ho.reach u hu hu1]
 constructor
 ·intro ⟨m, _, hr⟩
  exact (Rch.at hw hh hs hr).2.2
 ·intro hb
  exact ⟨u.toNat, by omega, by rw [Int.toNat_of_nonneg hu]; exact Rch.refl u hu hu1 hb⟩
theorem OI.idxs_eq {L : List Int} (ho : OI w h cs L (w * h)) {u : Int} (hu : 0 ≤ u) (hu1 : u < ((w * h : Nat) : Int)) (hl : 0 ≤ rd L u) : idxs L (rd L u) L.length = comp w h cs (w * h) u := by
 unfold idxs comp
 rw [ho.len]
 congr 1
 refine List.filter_congr fun j hj => ?_
 rw [decide_eq_decide]
 have := List.mem_range.1 hj
 exact OI.same_lab hw hh hs ho hu hu1 hl (by omega) (by omega)
theorem OI.lists_eq {L : List Int} (ho : OI w h cs L (w * h)) : ∀ n, n ≤ w * h → lists L (mins w h cs n).length = parts w h cs n := by
 intro n hn
 induction n with
 | zero => rfl
 | succ n ih =>
  have ih := ih (by omega);unfold parts at ih ⊢
  rw [mins_succ]
  by_cases hm : isMin w h cs n
  ·rw [if_pos hm, List.length_append, List.length_singleton, lists_succ, ih, List.map_append]
   have h1 : Rch w h cs n (n : Int) := Rch.refl _ (by omega) (by omega) hm.1;have h2 := (ho.reach n (by omega) (by omega)).2 ⟨n, by omega, h1⟩;obtain ⟨m, _, m2, m3, m4⟩ := ho.lab n (by omega) (by omega) h2;have e := isMin_one hw hh hs m2 hm m3 h1;subst e;have h3 := OI.idxs_eq hw hh hs ho (u := m) (by omega) (by omega) h2
   rw [m4] at h3
   rw [h3]
   rfl
  ·rw [if_neg hm, List.append_nil]
   exact ih
end
end Go.Proofs.YtkjlfgceodindaaDoor.Q
end
section
namespace Go.Proofs.YtkjlfgceodindaaDoor.Q
open Go.RowKit Go.Proofs.YtkjlfgceodindaaDoorW.PrintWords Go.Proofs.YtkjlfgceodindaaDoorW.PrintLast Go.Proofs.YtkjlfgceodindaaDoorW.PrintMore
set_option linter.unusedSectionVars false
open Classical
inductive Blk (N : Nat) (lab nx : Nat → Int) : Nat → Prop
 | side (i p : Nat) : i < N → lab i = p → nx i < 0 → Blk N lab nx p
 | push (i j p q : Nat) : i < N → lab i = p → nx i = j → lab j = q → Blk N lab nx q → Blk N lab nx p
section
variable (N n : Nat) (lab nx : Nat → Int)
noncomputable def blkL : List Bool := (List.range n).map fun p => decide (Blk N lab nx p)
def fire (out : List Bool) (i : Nat) : Bool := decide (0 ≤ lab i) && !rdOf false out (lab i) && (decide (nx i < 0) || (decide (0 ≤ lab (nx i).toNat) && rdOf false out (lab (nx i).toNat)))
def cellS (out : List Bool) (i : Nat) : List Bool := if fire lab nx out i = true then out.set (lab i).toNat true else out
def scan (out : List Bool) (l : List Nat) : List Bool := l.foldl (cellS lab nx) out
variable {N n lab nx}
theorem cellS_len (out : List Bool) (i : Nat) : (cellS lab nx out i).length = out.length := by
 unfold cellS
 split
 ·exact List.length_set
 ·rfl
theorem scan_len : ∀ (l : List Nat) (out : List Bool), (scan lab nx out l).length = out.length
 | [], _ => rfl
 | i :: l, out => (scan_len l _).trans (cellS_len out i)
theorem rdOf_set (out : List Bool) (p : Nat) (q : Int) (hp : p < out.length) (hq : 0 ≤ q) : rdOf false (out.set p true) q = if q = p then true else rdOf false out q := by
 unfold rdOf
 rw [List.getD_eq_getElem?_getD, List.getElem?_set, List.getD_eq_getElem?_getD]
 by_cases h : q = p
 ·rw [if_pos h, if_pos (by omega), if_pos (by omega)]
  rfl
 ·rw [if_neg h, if_neg (by omega)]
theorem fire_lab {out : List Bool} {i : Nat} (hf : fire lab nx out i = true) : 0 ≤ lab i ∧ rdOf false out (lab i) = false ∧ (nx i < 0 ∨ (0 ≤ lab (nx i).toNat ∧ rdOf false out (lab (nx i).toNat) = true)) := by
 unfold fire at hf
 simp only [Bool.and_eq_true, Bool.or_eq_true, decide_eq_true_eq, Bool.not_eq_true'] at hf
 exact ⟨hf.1.1, hf.1.2, hf.2⟩
def sound (N : Nat) (lab nx : Nat → Int) (out : List Bool) : Prop := ∀ p : Nat, rdOf false out (p : Int) = true → Blk N lab nx p
theorem cellS_sound {out : List Bool} {i : Nat} (hi : i < N) (hl : lab i < (out.length : Int)) (hs : sound N lab nx out) : sound N lab nx (cellS lab nx out i) := by
 unfold cellS
 split
 ·rename_i hf
  obtain ⟨h0, _, h2⟩ := fire_lab hf;intro p hp
  rw [rdOf_set out _ _ (by omega) (by omega)] at hp
  by_cases h : (p : Int) = ((lab i).toNat : Int)
  ·have hlp : lab i = p := by omega
   rcases h2 with h2 | ⟨h3, h4⟩
   ·exact Blk.side i p hi hlp h2
   ·by_cases h5 : nx i < 0
    ·exact Blk.side i p hi hlp h5
    ·exact Blk.push i (nx i).toNat p (lab (nx i).toNat).toNat hi hlp (by omega) (by omega) (hs _ (by rw [Int.toNat_of_nonneg h3]; exact h4))
  ·rw [if_neg h] at hp
   exact hs p hp
 ·exact hs
theorem scan_sound : ∀ (l : List Nat) (out : List Bool), (∀ i ∈ l, i < N ∧ lab i < (out.length : Int)) → sound N lab nx out → sound N lab nx (scan lab nx out l)
 | [], _, _, hs => hs
 | i :: l, out, hl, hs => scan_sound l _ (fun j hj => ⟨(hl j (List.mem_cons_of_mem _ hj)).1, by rw [cellS_len]; exact (hl j (List.mem_cons_of_mem _ hj)).2⟩) (cellS_sound (hl i List.mem_cons_self).1 (hl i List.mem_cons_self).2 hs)
theorem cellS_cnt {out : List Bool} {i : Nat} (hl : lab i < (out.length : Int)) : (cellS lab nx out i).count true = out.count true + if fire lab nx out i = true then 1 else 0 := by
 unfold cellS
 split
 ·rename_i hf
  obtain ⟨h0, h1, _⟩ := fire_lab hf
  have hlt : (lab i).toNat < out.length := by omega
  have h2 : out[(lab i).toNat] = false := by
   unfold rdOf at h1
   rwa [List.getD_eq_getElem?_getD, List.getElem?_eq_getElem hlt] at h1
  rw [List.count_set hlt, h2]
  simp
 ·rfl
theorem scan_cnt : ∀ (l : List Nat) (out : List Bool), (∀ i ∈ l, lab i < (out.length : Int)) → out.count true ≤ (scan lab nx out l).count true ∧ ((scan lab nx out l).count true = out.count true → scan lab nx out l = out ∧ ∀ i ∈ l, fire lab nx out i = false)
 | [], out, _ => ⟨Nat.le_refl _, fun _ => ⟨rfl, fun i hi => by cases hi⟩⟩
 | i :: l, out, hl => by
  have h1 := cellS_cnt (nx := nx) (hl i List.mem_cons_self);obtain ⟨h2, h3⟩ := scan_cnt l (cellS lab nx out i) (fun j hj => by rw [cellS_len]; exact hl j (List.mem_cons_of_mem _ hj))
  show _ ≤ (scan lab nx (cellS lab nx out i) l).count true ∧ ((scan lab nx (cellS lab nx out i) l).count true = _ → scan lab nx (cellS lab nx out i) l = out ∧ _)
  cases hf : fire lab nx out i with
  | true =>
   rw [hf, if_pos rfl] at h1
   exact ⟨by omega, fun h => by omega⟩
  | false =>
   rw [hf, if_neg (by decide)] at h1
   have he : cellS lab nx out i = out := if_neg (by rw [hf]; decide)
   refine ⟨by omega, fun h => ?_⟩
   obtain ⟨h4, h5⟩ := h3 (by omega)
   rw [he] at h4 h5 ⊢
   refine ⟨h4, fun j hj => ?_⟩
   rcases List.mem_cons.1 hj with rfl | hj
   ·exact hf
   ·exact h5 j hj
theorem blk_of_closed {out : List Bool} (hc : ∀ i : Nat, i < N → 0 ≤ lab i → fire lab nx out i = false) : ∀ p, Blk N lab nx p → rdOf false out (p : Int) = true := by
 intro p hp
 induction hp with
 | side i p hi h1 h2 =>
  have h3 := hc i hi (by omega);unfold fire at h3
  rw [h1, decide_eq_true (show (0 : Int) ≤ p by omega), decide_eq_true h2] at h3
  simpa using h3
 | push i j p q hi h1 h2 h4 _ ih =>
  have h3 := hc i hi (by omega);unfold fire at h3
  rw [h2, Int.toNat_natCast, h4, h1, ih, decide_eq_true (show (0 : Int) ≤ p by omega), decide_eq_true (show (0 : Int) ≤ q by omega)] at h3
  simpa using h3
theorem closed_eq {out : List Bool} (hn : out.length = n) (hs : sound N lab nx out) (hc : ∀ i : Nat, i < N → 0 ≤ lab i → fire lab nx out i = false) : out = blkL N n lab nx := by
 unfold blkL
 refine List.ext_getElem (by simpa using hn) fun p h1 h2 => ?_
 rw [List.getElem_map, List.getElem_range]
 have h3 : rdOf false out (p : Int) = out[p] := by
  unfold rdOf
  rw [Int.toNat_natCast, List.getD_eq_getElem?_getD, List.getElem?_eq_getElem h1]
  rfl
 have h4 := hs p;have h5 := blk_of_closed hc p
 rw [h3] at h4 h5
 cases h6 : out[p] with
 | true => exact (decide_eq_true (h4 h6)).symm
 | false => exact (decide_eq_false fun h7 => by rw [h5 h7] at h6; cases h6).symm
def runs (l : List Nat) : Nat → List Bool → List Bool
 | 0, out => out
 | m + 1, out => runs l m (scan lab nx out l)
theorem runs_end (l : List Nat) (hl : ∀ i ∈ l, i < N ∧ lab i < (n : Int)) (hall : ∀ i : Nat, i < N → 0 ≤ lab i → i ∈ l) : ∀ (m : Nat) (out : List Bool), out.length = n → sound N lab nx out → n < out.count true + m → runs (lab := lab) (nx := nx) l m out = blkL N n lab nx
 | 0, out, hn, hs, hm => by
  have := List.count_le_length (a := true) (l := out)
  omega
 | m + 1, out, hn, hs, hm => by
  obtain ⟨h1, h2⟩ := scan_cnt (nx := nx) l out (fun i hi => by rw [hn]; exact (hl i hi).2);have hln := scan_len (lab := lab) (nx := nx) l out;have hsn := scan_sound l out (fun i hi => by rw [hn]; exact hl i hi) hs
  show runs l m (scan lab nx out l) = _
  by_cases he : (scan lab nx out l).count true = out.count true
  ·obtain ⟨h3, h4⟩ := h2 he
   have hb := closed_eq hn hs fun i hi h0 => h4 i (hall i hi h0)
   rw [h3]
   have hst : ∀ m, runs (lab := lab) (nx := nx) l m out = out := by
    intro m
    induction m with
    | zero => rfl
    | succ m ih =>
     show runs l m (scan lab nx out l) = _
     rw [h3]
     exact ih
   rw [hst]
   exact hb
  ·exact runs_end l hl hall m _ (by omega) hsn (by omega)
end
end Go.Proofs.YtkjlfgceodindaaDoor.Q
end
section
namespace Go.Proofs.YtkjlfgceodindaaDoor.Q
set_option linter.unusedSectionVars false
open Go.RowKit Go.Proofs.YtkjlfgceodindaaDoorW.PrintWords Go.Proofs.YtkjlfgceodindaaDoorW.PrintLast Go.Proofs.YtkjlfgceodindaaDoorW.PrintMore
def ah (w h : Nat) (i : Nat) (d : Nat) : Int := (impl_tray_ahead.f 1 w h [] i (dirC d)).getD (-1)
def left (w h i d : Nat) : Nat := if d = 0 then i / w else if d = 1 then w - 1 - i % w else if d = 2 then h - 1 - i / w else i % w
theorem ah_all : ∀ (w h : Fin 8) (i : Fin 36) (d : Fin 4), i.val < w.val * h.val → impl_tray_ahead.f 1 w.val h.val [] i.val (dirC d.val) = some (ah w.val h.val i.val d.val) ∧
 spec_tiAhead.f w.val h.val (List.replicate (w.val * h.val) 0) i.val d.val = some (ah w.val h.val i.val d.val) ∧
 -1 ≤ ah w.val h.val i.val d.val ∧ ah w.val h.val i.val d.val < ((w.val * h.val : Nat) : Int) ∧ left w.val h.val i.val d.val ≤ 6 ∧
 (0 ≤ ah w.val h.val i.val d.val → left w.val h.val (ah w.val h.val i.val d.val).toNat d.val < left w.val h.val i.val d.val) := by decide +kernel
theorem ahead_l (k : Nat) (w h : Int) (l : List Int) (i c : Int) : impl_tray_ahead.f k w h l i c = impl_tray_ahead.f k w h [] i c := by
 have h0 : ∀ k a b w h, impl_tray_ahead.j0 k a b w h l = impl_tray_ahead.j0 k a b w h [] := by
  intro k a b w h
  cases k with
  | zero => rfl
  | succ k => rfl
 simp only [impl_tray_ahead.f, h0]
section
variable {w h i d : Nat} (hw : w ≤ 7) (hh : h ≤ 7) (hs : w * h ≤ 36) (hi : i < w * h) (hd : d < 4)
include hw hh hs hi hd
theorem tiAhead_eq (cs : List Int) (hn : cs.length = w * h) : spec_tiAhead.f w h cs i d = some (if ah w h i d < 0 then -1 else if rd cs (ah w h i d) = 35 then -1 else ah w h i d) := by
 obtain ⟨_, h2, h3, _⟩ := ah_all ⟨w, by omega⟩ ⟨h, by omega⟩ ⟨i, by omega⟩ ⟨d, hd⟩ hi;have h4 := tiAhead_of cs (w * h) hn w h i d _ h2
 simp only at h3 h4
 rw [h4]
 congr 1
 by_cases h5 : ah w h i d < 0
 ·rw [if_pos h5, if_pos h5]
  omega
 ·rw [if_neg h5, if_neg h5]
theorem ah_lt : -1 ≤ ah w h i d ∧ ah w h i d < ((w * h : Nat) : Int) := by
 have h1 := ah_all ⟨w, by omega⟩ ⟨h, by omega⟩ ⟨i, by omega⟩ ⟨d, hd⟩ hi
 exact ⟨h1.2.2.1, h1.2.2.2.1⟩
theorem left_le : left w h i d ≤ 6 := (ah_all ⟨w, by omega⟩ ⟨h, by omega⟩ ⟨i, by omega⟩ ⟨d, hd⟩ hi).2.2.2.2.1
theorem left_lt (h0 : 0 ≤ ah w h i d) : left w h (ah w h i d).toNat d < left w h i d := (ah_all ⟨w, by omega⟩ ⟨h, by omega⟩ ⟨i, by omega⟩ ⟨d, hd⟩ hi).2.2.2.2.2 h0
end
end Go.Proofs.YtkjlfgceodindaaDoor.Q
end
section
namespace Go.Proofs.YtkjlfgceodindaaDoor.Q
open Go.RowKit Go.Proofs.YtkjlfgceodindaaDoorW.PrintWords Go.Proofs.YtkjlfgceodindaaDoorW.PrintLast Go.Proofs.YtkjlfgceodindaaDoorW.PrintMore
set_option linter.unusedSectionVars false
open Classical
def aA (w h : Nat) (cs : List Int) (d : Nat) (i : Nat) : Int := if ah w h i d < 0 then -1 else if rd cs (ah w h i d) = 35 then -1 else ah w h i d
def lb (L : List Int) (i : Nat) : Int := rd L (i : Int)
def anyF (lab nx : Nat → Int) : List Bool → List Nat → Bool
 | _, [] => false
 | out, i :: l => fire lab nx out i || anyF lab nx (cellS lab nx out i) l
theorem anyF_no (lab nx : Nat → Int) : ∀ (l : List Nat) (out : List Bool), anyF lab nx out l = false → scan lab nx out l = out ∧ ∀ i ∈ l, fire lab nx out i = false
 | [], out, _ => ⟨rfl, fun i hi => by cases hi⟩
 | i :: l, out, h => by
  have h1 : fire lab nx out i = false ∧ anyF lab nx (cellS lab nx out i) l = false := by
   unfold anyF at h
   simpa using h
  have he : cellS lab nx out i = out := if_neg (by rw [h1.1]; decide)
  rw [he] at h1
  obtain ⟨h2, h3⟩ := anyF_no lab nx l out h1.2
  refine ⟨by show scan lab nx (cellS lab nx out i) l = out; rw [he]; exact h2, fun j hj => ?_⟩
  rcases List.mem_cons.1 hj with rfl | hj
  ·exact h1.1
  ·exact h3 j hj
theorem anyF_yes (lab nx : Nat → Int) : ∀ (l : List Nat) (out : List Bool), (∀ i ∈ l, lab i < (out.length : Int)) → anyF lab nx out l = true → out.count true < (scan lab nx out l).count true
 | [], out, _, h => by cases h
 | i :: l, out, hl, h => by
  have h1 := cellS_cnt (nx := nx) (hl i List.mem_cons_self)
  have hl2 : ∀ j ∈ l, lab j < ((cellS lab nx out i).length : Int) := fun j hj => by rw [cellS_len]; exact hl j (List.mem_cons_of_mem _ hj)
  have h2 := (scan_cnt (nx := nx) l (cellS lab nx out i) hl2).1
  show _ < (scan lab nx (cellS lab nx out i) l).count true
  cases hf : fire lab nx out i with
  | true =>
   rw [hf, if_pos rfl] at h1
   omega
  | false =>
   rw [hf, if_neg (by decide)] at h1
   unfold anyF at h
   rw [hf, Bool.false_or] at h
   have := anyF_yes lab nx l (cellS lab nx out i) hl2 h
   omega
theorem w64t (t : Nat) (h : t ≤ 36) : wrap64 ((t : Int) + 1) = ((t + 1 : Nat) : Int) := by rw [w64 (by omega) (by omega)]; omega
theorem scan_cons (lab nx : Nat → Int) (out : List Bool) (i : Nat) (l : List Nat) : scan lab nx out (i :: l) = scan lab nx (cellS lab nx out i) l := rfl
theorem anyF_cons (lab nx : Nat → Int) (out : List Bool) (i : Nat) (l : List Nat) : anyF lab nx out (i :: l) = (fire lab nx out i || anyF lab nx (cellS lab nx out i) l) := rfl
theorem stay_eq {lab nx : Nat → Int} {out : List Bool} {i : Nat} (hf : fire lab nx out i = false) : cellS lab nx out i = out := if_neg (by rw [hf]; decide)
theorem go_eq {lab nx : Nat → Int} {out : List Bool} {i : Nat} (hf : fire lab nx out i = true) : cellS lab nx out i = out.set (lab i).toNat true := if_pos hf
theorem set_same (out : List Bool) (p : Nat) (h : rdOf false out (p : Int) = true) : out.set p true = out := by
 refine List.ext_getElem (by simp) fun j h1 h2 => ?_
 rw [List.getElem_set]
 split
 ·rename_i he
  subst he;unfold rdOf at h
  rw [Int.toNat_natCast, List.getD_eq_getElem?_getD, List.getElem?_eq_getElem h2] at h
  exact h.symm
 ·rfl
theorem mem_idxs (L : List Int) (c x : Int) (t : Nat) : x ∈ idxs L c t ↔ 0 ≤ x ∧ x < (t : Int) ∧ rd L x = c := by
 unfold idxs
 rw [List.mem_map]
 constructor
 ·rintro ⟨j, hj, rfl⟩
  have h1 := List.mem_filter.1 hj;have h2 := List.mem_range.1 h1.1
  exact ⟨by omega, by omega, of_decide_eq_true h1.2⟩
 ·rintro ⟨h0, h1, h2⟩
  refine ⟨x.toNat, List.mem_filter.2 ⟨List.mem_range.2 (by omega), decide_eq_true ?_⟩, by omega⟩
  rw [Int.toNat_of_nonneg h0]
  exact h2
section
variable {w h : Nat} {cs : List Int} (hw : w ≤ 7) (hh : h ≤ 7) (hs : w * h ≤ 36) (hn : cs.length = w * h)
include hw hh hs hn
theorem aA_eq {i d : Nat} (hi : i < w * h) (hd : d < 4) : spec_tiAhead.f w h cs i d = some (aA w h cs d i) := tiAhead_eq hw hh hs hi hd cs hn
theorem aA_lt {i d : Nat} (hi : i < w * h) (hd : d < 4) : aA w h cs d i < ((w * h : Nat) : Int) := by
 have := ah_lt hw hh hs hi hd;unfold aA
 split
 ·omega
 ·split
  ·omega
  ·exact this.2
theorem skb_l1 {d : Nat} (hd : d < 4) {L : List Int} {n : Nat} (hL : L.length = w * h) (hlab : ∀ i : Nat, i < w * h → lb L i < (n : Int)) : ∀ (m t : Nat) (out : List Bool) (ch : Bool), t + m = w * h → out.length = n →
  ∀ K, Ev (fun k => spec_skBlocked.l0 k L d (scan (lb L) (aA w h cs d) out (List.range' t m)) (ch || anyF (lb L) (aA w h cs d) out (List.range' t m)) w h cs) K → Ev (fun k => spec_skBlocked.l1 k L d out ch L L.length t w h cs) K
 | 0, t, out, ch, ht, ho, K, hK => by
  rw [List.range'_zero] at hK
  refine Ev.step hK fun k => ?_
  rw [spec_skBlocked.l1, if_neg (by omega)]
  show _ = spec_skBlocked.l0 k L d out (ch || false) w h cs
  rw [Bool.or_false]
 | m + 1, t, out, ch, ht, ho, K, hK => by
  have htl : t < w * h := by omega
  rw [List.range'_succ, scan_cons, anyF_cons, ← Bool.or_assoc] at hK
  have ih := skb_l1 hd hL hlab m (t + 1) (cellS (lb L) (aA w h cs d) out t) (ch || fire (lb L) (aA w h cs d) out t) (by omega) ((cellS_len _ _).trans ho) K hK;clear hK;have c0 : (0 : Int) ≤ (t : Int) := Int.natCast_nonneg t
  have c1 : (t : Int) < (L.length : Int) := by rw [hL]; exact Int.ofNat_lt.2 htl
  have hlt := hlab t htl;have hwt := w64t t (Nat.le_trans (Nat.le_of_lt htl) hs)
  by_cases h1 : rd L (t : Int) < 0
  ·have hf : fire (lb L) (aA w h cs d) out t = false := by
    unfold fire lb
    rw [decide_eq_false (by omega)]
    rfl
   rw [stay_eq hf, hf, Bool.or_false] at ih
   refine Ev.step (g' := fun k => spec_skBlocked.j2 k L d out ch t (rd L t) L L.length t true w h cs) (Ev.step ih fun k => ?_) fun k => ?_
   ·rw [spec_skBlocked.j2, if_pos rfl, hwt]
   ·rw [spec_skBlocked.l1, if_pos c1, if_pos c0, if_pos c1, if_pos h1]
  ·have h2 : 0 ≤ rd L (t : Int) := by omega
   have h3 : rd L (t : Int) < (out.length : Int) := by rw [ho]; exact hlt
   refine Ev.step (g' := fun k => spec_skBlocked.j2 k L d out ch t (rd L t) L L.length t (rdOf false out (rd L t)) w h cs) (Ev.step ih fun k => ?_) fun k => ?_
   ·rw [spec_skBlocked.j2, aA_eq hw hh hs hn htl hd, Option.bind_some, hwt]
    clear hwt ih
    by_cases h4 : rdOf false out (rd L (t : Int)) = true
    ·have hf : fire (lb L) (aA w h cs d) out t = false := by
      unfold fire lb
      rw [h4]
      simp
     rw [if_pos h4, stay_eq hf, hf, Bool.or_false]
    ·rw [if_neg h4]
     have h4b : rdOf false out (rd L (t : Int)) = false := by simpa using h4
     have hfr : fire (lb L) (aA w h cs d) out t = (decide (aA w h cs d t < 0) || (decide (0 ≤ rd L ((aA w h cs d t).toNat : Int)) && rdOf false out (rd L ((aA w h cs d t).toNat : Int)))) := by
      unfold fire lb
      rw [h4b, decide_eq_true h2]
      rfl
     by_cases h5 : aA w h cs d t < 0
     ·have hf : fire (lb L) (aA w h cs d) out t = true := by rw [hfr, decide_eq_true h5]; rfl
      rw [if_pos h5, if_pos h2, if_pos h3, go_eq hf, hf, Bool.or_true]
      rfl
     ·have h6 := aA_lt hw hh hs hn htl hd
      have h7 : 0 ≤ aA w h cs d t := by omega
      have h8 : aA w h cs d t < (L.length : Int) := by omega
      rw [if_neg h5, if_pos h7, if_pos h8]
      rw [decide_eq_false h5, Bool.false_or, Int.toNat_of_nonneg h7] at hfr
      by_cases h9 : rd L (aA w h cs d t) ≥ 0
      ·have h9b : 0 ≤ rd L (aA w h cs d t) := h9
       have h10 : rd L (aA w h cs d t) < (out.length : Int) := by
        have := hlab (aA w h cs d t).toNat (by omega);unfold lb at this
        rw [Int.toNat_of_nonneg h7] at this
        rw [ho]
        exact this
       rw [decide_eq_true h9b, Bool.true_and] at hfr
       rw [if_pos h9]
       by_cases h11 : rd L (aA w h cs d t) = rd L (t : Int)
       ·have hf : fire (lb L) (aA w h cs d) out t = false := by rw [hfr, h11]; exact h4b
        rw [if_pos h11, stay_eq hf, hf, Bool.or_false]
       ·rw [if_neg h11, if_pos h9b, if_pos h10]
        by_cases h12 : rdOf false out (rd L (aA w h cs d t)) = true
        ·have hf : fire (lb L) (aA w h cs d) out t = true := by rw [hfr]; exact h12
         rw [if_pos h12, if_pos h2, if_pos h3, go_eq hf, hf, Bool.or_true]
         rfl
        ·have hf : fire (lb L) (aA w h cs d) out t = false := by rw [hfr]; simpa using h12
         rw [if_neg h12, stay_eq hf, hf, Bool.or_false]
      ·have hf : fire (lb L) (aA w h cs d) out t = false := by
        rw [hfr, decide_eq_false (by omega)]
        rfl
       rw [if_neg h9, stay_eq hf, hf, Bool.or_false]
   ·rw [spec_skBlocked.l1, if_pos c1, if_pos c0, if_pos c1, if_neg h1, if_pos h2, if_pos h3]
theorem skb_l0 {d : Nat} (hd : d < 4) {L : List Int} {n : Nat} (hL : L.length = w * h) (hlab : ∀ i : Nat, i < w * h → lb L i < (n : Int)) : ∀ (m : Nat) (out : List Bool), out.length = n → sound (w * h) (lb L) (aA w h cs d) out → n < out.count true + m →
  Ev (fun k => spec_skBlocked.l0 k L d out true w h cs) (blkL (w * h) n (lb L) (aA w h cs d))
 | 0, out, ho, hsn, hm => by
  have := List.count_le_length (a := true) (l := out)
  omega
 | m + 1, out, ho, hsn, hm => by
  have hall : ∀ i ∈ List.range' 0 (w * h), i < w * h ∧ lb L i < (out.length : Int) := fun i hi => by
   have := List.mem_range'_1.1 hi
   exact ⟨by omega, by rw [ho]; exact hlab i (by omega)⟩
  have h1 := skb_l1 hw hh hs hn hd hL hlab (w * h) 0 out false (by omega) ho (blkL (w * h) n (lb L) (aA w h cs d))
  rw [Bool.false_or] at h1
  refine Ev.step (h1 ?_) fun k => ?_
  ·cases hf : anyF (lb L) (aA w h cs d) out (List.range' 0 (w * h)) with
   | false =>
    obtain ⟨h2, h3⟩ := anyF_no _ _ _ _ hf
    rw [h2, closed_eq ho hsn fun i hi _ => h3 i (List.mem_range'_1.2 ⟨by omega, by omega⟩)]
    refine Ev.step (Ev.const rfl) fun k => ?_
    rw [spec_skBlocked.l0, if_neg (by decide)]
   | true =>
    have h2 := anyF_yes _ _ _ _ (fun i hi => (hall i hi).2) hf
    exact skb_l0 hd hL hlab m _ ((scan_len _ _).trans ho) (scan_sound _ _ hall hsn) (by omega)
  ·rw [spec_skBlocked.l0, if_pos rfl]
   rfl
theorem rdOf_rep (n : Nat) (x : Int) : rdOf false (List.replicate n false) x = false := by
 unfold rdOf
 rw [List.getD_eq_getElem?_getD, List.getElem?_replicate]
 split <;> rfl
theorem skBlocked_ev {d : Nat} (hd : d < 4) {L : List Int} {n : Nat} (hn36 : n ≤ 36) (hL : L.length = w * h) (hlab : ∀ i : Nat, i < w * h → lb L i < (n : Int)) :
  Ev (fun k => spec_skBlocked.f k w h cs L n d) (blkL (w * h) n (lb L) (aA w h cs d)) := by
 refine Ev.congr (skb_l0 hw hh hs hn hd hL hlab (n + 1) (List.replicate n false) (by simp) (fun p hp => ?_) (by omega)) fun k => ?_
 ·rw [rdOf_rep hw hh hs hn] at hp
  cases hp
 ·unfold spec_skBlocked.f
  rw [if_pos (by omega), Int.toNat_natCast, if_pos (Nat.le_trans hn36 (by decide))]
theorem bstep_eq {d : Nat} (hd : d < 4) {L : List Int} {n : Nat} {P : List (List Int)} (hP : ∀ v : Int, 0 ≤ v → v < ((w * h : Nat) : Int) → idxOf v P = if 0 ≤ rd L v then rd L v else -1) (hlab : ∀ i : Nat, i < w * h → lb L i < (n : Int))
  (out : List Bool) (ho : out.length = n) (i p : Nat) (hi : i < w * h) (hp : lb L i = p) : bstep w h cs (dirC d) P p out i = some (cellS (lb L) (aA w h cs d) out i) := by
 have hah := (ah_all ⟨w, by omega⟩ ⟨h, by omega⟩ ⟨i, by omega⟩ ⟨d, hd⟩ hi).1;have hlt := ah_lt hw hh hs hi hd;have hpn := hlab i hi
 simp only at hah
 unfold bstep
 rw [ahead_l, hah, Option.bind_some]
 have hfr : fire (lb L) (aA w h cs d) out i = (!rdOf false out (p : Int) && (decide (aA w h cs d i < 0) || (decide (0 ≤ lb L (aA w h cs d i).toNat) && rdOf false out (lb L (aA w h cs d i).toNat)))) := by
  unfold fire
  rw [hp, decide_eq_true (show (0 : Int) ≤ p by omega), Bool.true_and]
 have hset : ∀ b : Bool, (decide (aA w h cs d i < 0) || (decide (0 ≤ lb L (aA w h cs d i).toNat) && rdOf false out (lb L (aA w h cs d i).toNat))) = b → cellS (lb L) (aA w h cs d) out i = if b = true then out.set p true else out := by
  intro b hb
  rw [hb] at hfr
  cases b with
  | false => exact stay_eq (by rw [hfr, Bool.and_false])
  | true =>
   rw [if_pos rfl]
   cases hq : rdOf false out (p : Int) with
   | true =>
    rw [set_same out p hq]
    exact stay_eq (by rw [hfr, hq]; rfl)
   | false =>
    rw [go_eq (by rw [hfr, hq]; rfl), hp]
    rfl
 by_cases h1 : ah w h i d < 0
 ·have ha : aA w h cs d i = -1 := if_pos h1
  rw [if_pos h1, hset true (by rw [ha]; rfl)]
  rfl
 ·rw [if_neg h1, if_pos (show ah w h i d < (cs.length : Int) by omega)]
  by_cases h2 : rd cs (ah w h i d) = 35
  ·have ha : aA w h cs d i = -1 := (if_neg h1).trans (if_pos h2)
   rw [if_pos h2, hset true (by rw [ha]; rfl)]
   rfl
  ·have ha : aA w h cs d i = ah w h i d := (if_neg h1).trans (if_neg h2)
   have h0 : 0 ≤ ah w h i d := by omega
   have hlb : lb L (aA w h cs d i).toNat = rd L (ah w h i d) := by
    unfold lb
    rw [ha, Int.toNat_of_nonneg h0]
   have hln := hlab (ah w h i d).toNat (by omega);unfold lb at hln
   rw [Int.toNat_of_nonneg h0] at hln
   rw [if_neg h2, hP _ h0 hlt.2]
   have hb0 : decide (aA w h cs d i < 0) = false := by rw [ha]; exact decide_eq_false h1
   rw [hlb, hb0, Bool.false_or] at hset
   by_cases h3 : 0 ≤ rd L (ah w h i d)
   ·rw [if_pos h3, if_neg (by omega), if_pos (by omega), hset (rdOf false out (rd L (ah w h i d))) (by rw [decide_eq_true h3, Bool.true_and])]
    split <;> rfl
   ·rw [if_neg h3, if_pos (by omega), hset false (by rw [decide_eq_false h3, Bool.false_and])]
    rfl
theorem bpc_eq {d : Nat} (hd : d < 4) {L : List Int} {n : Nat} {P : List (List Int)} (hP : ∀ v : Int, 0 ≤ v → v < ((w * h : Nat) : Int) → idxOf v P = if 0 ≤ rd L v then rd L v else -1) (hlab : ∀ i : Nat, i < w * h → lb L i < (n : Int)) (p : Nat) :
  ∀ (l : List Int) (out : List Bool), out.length = n → (∀ x ∈ l, 0 ≤ x ∧ x < ((w * h : Nat) : Int) ∧ rd L x = p) → bpc w h cs (dirC d) P p l out = some (scan (lb L) (aA w h cs d) out (l.map Int.toNat))
 | [], out, _, _ => rfl
 | x :: l, out, ho, hl => by
  obtain ⟨h0, h1, h2⟩ := hl x List.mem_cons_self;obtain ⟨i, rfl⟩ := Int.eq_ofNat_of_zero_le h0
  show (bstep w h cs (dirC d) P p out i).bind _ = _
  rw [bstep_eq hw hh hs hn hd hP hlab out ho i p (by omega) h2, Option.bind_some, bpc_eq hd hP hlab p l _ ((cellS_len _ _).trans ho) fun y hy => hl y (List.mem_cons_of_mem _ hy)]
  rfl
theorem bps_eq {d : Nat} (hd : d < 4) {L : List Int} {n : Nat} {P : List (List Int)} (hP : ∀ v : Int, 0 ≤ v → v < ((w * h : Nat) : Int) → idxOf v P = if 0 ≤ rd L v then rd L v else -1) (hlab : ∀ i : Nat, i < w * h → lb L i < (n : Int)) :
  ∀ (Q : List (List Int)) (p : Nat) (out : List Bool), out.length = n → (∀ (j : Nat) (q : List Int), Q[j]? = some q → ∀ x ∈ q, 0 ≤ x ∧ x < ((w * h : Nat) : Int) ∧ rd L x = ((p + j : Nat) : Int)) → bps w h cs (dirC d) P Q p out = some (scan (lb L) (aA w h cs d) out (Q.flatten.map Int.toNat))
 | [], p, out, _, _ => rfl
 | q :: Q, p, out, ho, hl => by
  show (bpc w h cs (dirC d) P p q out).bind (bps w h cs (dirC d) P Q (p + 1)) = _
  rw [bpc_eq hw hh hs hn hd hP hlab p q out ho (hl 0 q rfl), Option.bind_some, bps_eq hd hP hlab Q (p + 1) _ ((scan_len _ _).trans ho) fun j q' hq x hx => by rw [show p + 1 + j = p + (j + 1) by omega]; exact hl (j + 1) q' hq x hx]
  rw [List.flatten_cons, List.map_append]
  unfold scan
  rw [List.foldl_append]
theorem brn_eq {d : Nat} (hd : d < 4) {L : List Int} {n : Nat} {P : List (List Int)} (hP : ∀ v : Int, 0 ≤ v → v < ((w * h : Nat) : Int) → idxOf v P = if 0 ≤ rd L v then rd L v else -1) (hlab : ∀ i : Nat, i < w * h → lb L i < (n : Int))
  (hl : ∀ (j : Nat) (q : List Int), P[j]? = some q → ∀ x ∈ q, 0 ≤ x ∧ x < ((w * h : Nat) : Int) ∧ rd L x = ((0 + j : Nat) : Int)) : ∀ (m : Nat) (out : List Bool), out.length = n → brn w h cs (dirC d) P m out = some (runs (lab := lb L) (nx := aA w h cs d) (P.flatten.map Int.toNat) m out)
 | 0, out, _ => rfl
 | m + 1, out, ho => by
  show (bps w h cs (dirC d) P P 0 out).bind (brn w h cs (dirC d) P m) = _
  rw [bps_eq hw hh hs hn hd hP hlab P 0 out ho hl, Option.bind_some, brn_eq hd hP hlab hl m _ ((scan_len _ _).trans ho)]
  rfl
theorem lab_lt {L : List Int} (ho : OI w h cs L (w * h)) (i : Nat) (hi : i < w * h) : lb L i < ((mins w h cs (w * h)).length : Int) := by
 unfold lb
 by_cases h0 : 0 ≤ rd L (i : Int)
 ·obtain ⟨m, m1, m2, _, m4⟩ := ho.lab i (by omega) (by omega) h0
  have := mins_lt hw hh hs m2 m1
  omega
 ·omega
theorem parts_get {L : List Int} (ho : OI w h cs L (w * h)) (j : Nat) (hj : j < (mins w h cs (w * h)).length) : (parts w h cs (w * h))[j]? = some (idxs L (j : Int) L.length) := by
 rw [← OI.lists_eq hw hh hs ho (w * h) (Nat.le_refl _)]
 unfold lists
 rw [List.getElem?_map, List.getElem?_range hj]
 rfl
end
end Go.Proofs.YtkjlfgceodindaaDoor.Q
end
section
namespace Go.Proofs.YtkjlfgceodindaaDoor.Q
open Go.RowKit Go.Proofs.YtkjlfgceodindaaDoorW.PrintWords Go.Proofs.YtkjlfgceodindaaDoorW.PrintLast Go.Proofs.YtkjlfgceodindaaDoorW.PrintMore
set_option linter.unusedSectionVars false
open Classical
theorem ah_inv_all : ∀ (w h : Fin 8) (i : Fin 36) (d : Fin 4), i.val < w.val * h.val → 0 ≤ ah w.val h.val i.val d.val → ah w.val h.val (ah w.val h.val i.val d.val).toNat ((d.val + 2) % 4) = (i.val : Int) := by decide +kernel
noncomputable def yC (w h : Nat) (cs L : List Int) (d : Nat) (i : Nat) : Int := if Blk (w * h) (lb L) (aA w h cs d) (lb L i).toNat then (i : Int) else aA w h cs d i
noncomputable def mvF (w h : Nat) (cs L : List Int) (d : Nat) (x : Int) : Option Int := if 0 ≤ x ∧ x < ((w * h : Nat) : Int) ∧ 0 ≤ rd L x then some (yC w h cs L d x.toNat) else none
noncomputable def csN (w h : Nat) (cs L : List Int) (d : Nat) : List Int := laidCells cs (emptyC cs) (mvF w h cs L d) fun _ => true
noncomputable def laN (w h : Nat) (cs L : List Int) (d : Nat) : List Int := laidCells L (List.replicate (w * h) (-1)) (mvF w h cs L d) fun _ => true
structure SI (w h : Nat) (cs L : List Int) (n : Nat) : Prop where
 lc : cs.length = w * h
 ll : L.length = w * h
 lt : ∀ i : Nat, i < w * h → rd L (i : Int) < (n : Int)
 ball : ∀ i : Nat, i < w * h → (0 ≤ rd L (i : Int) ↔ bI cs (i : Int) = true)
 low : ∀ i : Nat, i < w * h → rd L (i : Int) < 0 → rd L (i : Int) = -1
 full : ∀ p : Nat, p < n → ∃ i : Nat, i < w * h ∧ rd L (i : Int) = p
section
variable {w h : Nat} {cs L : List Int} {n d : Nat} (hw : w ≤ 7) (hh : h ≤ 7) (hs : w * h ≤ 36) (hI : SI w h cs L n) (hd : d < 4)
include hw hh hs hI hd
theorem mv_some {i : Nat} (hi : i < w * h) (hl : 0 ≤ rd L (i : Int)) : mvF w h cs L d (i : Int) = some (yC w h cs L d i) := by
 unfold mvF
 rw [if_pos ⟨by omega, by omega, hl⟩, Int.toNat_natCast]
theorem mv_none {i : Nat} (hl : ¬ 0 ≤ rd L (i : Int)) : mvF w h cs L d (i : Int) = none := if_neg fun e => hl e.2.2
theorem free_at {i : Nat} (hi : i < w * h) (hl : 0 ≤ rd L (i : Int)) (hb : ¬ Blk (w * h) (lb L) (aA w h cs d) (lb L i).toNat) : 0 ≤ aA w h cs d i ∧ aA w h cs d i < ((w * h : Nat) : Int) ∧ aA w h cs d i = ah w h i d ∧ rd cs (aA w h cs d i) ≠ 35 := by
 have h1 := aA_lt hw hh hs hI.lc hi hd
 have h2 : 0 ≤ aA w h cs d i := by
  apply Classical.byContradiction
  intro h3
  exact hb (Blk.side i _ hi (by unfold lb; omega) (by omega))
 have h3 : ¬ ah w h i d < 0 := fun h4 => by
  have : aA w h cs d i = -1 := if_pos h4
  omega
 have h4 : ¬ rd cs (ah w h i d) = 35 := fun h5 => by
  have : aA w h cs d i = -1 := (if_neg h3).trans (if_pos h5)
  omega
 have h5 : aA w h cs d i = ah w h i d := (if_neg h3).trans (if_neg h4)
 exact ⟨h2, h1, h5, by rw [h5]; exact h4⟩
theorem y_at {i : Nat} (hi : i < w * h) (hl : 0 ≤ rd L (i : Int)) : 0 ≤ yC w h cs L d i ∧ yC w h cs L d i < ((w * h : Nat) : Int) ∧ rd cs (yC w h cs L d i) ≠ 35 := by
 unfold yC
 by_cases hb : Blk (w * h) (lb L) (aA w h cs d) (lb L i).toNat
 ·rw [if_pos hb]
  refine ⟨by omega, by omega, fun h1 => ?_⟩
  have h2 := (hI.ball i hi).1 hl;unfold bI at h2
  rw [h1, isB_35] at h2
  cases h2
 ·rw [if_neg hb]
  obtain ⟨h1, h2, _, h4⟩ := free_at hw hh hs hI hd hi hl hb
  exact ⟨h1, h2, h4⟩
theorem y_inj {i j : Nat} (hi : i < w * h) (hj : j < w * h) (hli : 0 ≤ rd L (i : Int)) (hlj : 0 ≤ rd L (j : Int)) (he : yC w h cs L d i = yC w h cs L d j) : i = j := by
 unfold yC at he
 by_cases bi : Blk (w * h) (lb L) (aA w h cs d) (lb L i).toNat
 ·by_cases bj : Blk (w * h) (lb L) (aA w h cs d) (lb L j).toNat
  ·rw [if_pos bi, if_pos bj] at he
   omega
  ·rw [if_pos bi, if_neg bj] at he
   exact absurd (Blk.push j i _ _ hj (by unfold lb; omega) he.symm (by unfold lb; omega) bi) bj
 ·by_cases bj : Blk (w * h) (lb L) (aA w h cs d) (lb L j).toNat
  ·rw [if_neg bi, if_pos bj] at he
   exact absurd (Blk.push i j _ _ hi (by unfold lb; omega) he (by unfold lb; omega) bj) bi
  ·rw [if_neg bi, if_neg bj] at he
   obtain ⟨a0, a1, a2, _⟩ := free_at hw hh hs hI hd hi hli bi;obtain ⟨b0, b1, b2, _⟩ := free_at hw hh hs hI hd hj hlj bj;have e1 := ah_inv_all ⟨w, by omega⟩ ⟨h, by omega⟩ ⟨i, by omega⟩ ⟨d, hd⟩ hi (by rw [← a2]; exact a0);have e2 := ah_inv_all ⟨w, by omega⟩ ⟨h, by omega⟩ ⟨j, by omega⟩ ⟨d, hd⟩ hj (by rw [← b2]; exact b0)
   simp only at e1 e2
   rw [← a2, he, b2] at e1
   have := e1.symm.trans e2
   omega
theorem mv_fits : Fits (mvF w h cs L d) (w * h) := by
 have key : ∀ x c, mvF w h cs L d x = some c → ∃ i : Nat, x = i ∧ i < w * h ∧ 0 ≤ rd L (i : Int) ∧ c = yC w h cs L d i := by
  intro x c hx;unfold mvF at hx
  split at hx
  ·rename_i h1
   refine ⟨x.toNat, by omega, by omega, by rw [Int.toNat_of_nonneg h1.1]; exact h1.2.2, (Option.some.inj hx).symm⟩
  ·cases hx
 refine ⟨fun x c hx => ?_, fun x y c hx hy => ?_⟩
 ·obtain ⟨i, rfl, hi, hl, rfl⟩ := key x c hx
  obtain ⟨h1, h2, _⟩ := y_at hw hh hs hI hd hi hl
  exact ⟨by omega, by omega, h1, h2⟩
 ·obtain ⟨i, rfl, hi, hl, rfl⟩ := key x c hx
  obtain ⟨j, rfl, hj, hlj, e⟩ := key y _ hy
  rw [y_inj hw hh hs hI hd hi hj hl hlj e]
theorem at_hit {i : Nat} (hi : i < w * h) (hl : 0 ≤ rd L (i : Int)) : rd (csN w h cs L d) (yC w h cs L d i) = rd cs (i : Int) ∧ rd (laN w h cs L d) (yC w h cs L d i) = rd L (i : Int) := by
 have hf := mv_fits hw hh hs hI hd;have hm := mv_some hw hh hs hI hd hi hl
 exact ⟨laid_at cs (emptyC cs) _ (by rw [hI.lc]; exact hf) _ _ hm, laid_at L _ _ (by rw [hI.ll]; exact hf) _ _ hm⟩
theorem at_off {c : Nat} (hc : c < w * h) (hx : ∀ i : Nat, i < w * h → 0 ≤ rd L (i : Int) → yC w h cs L d i ≠ c) : rd (csN w h cs L d) (c : Int) = rd (emptyC cs) (c : Int) ∧ rd (laN w h cs L d) (c : Int) = -1 := by
 have hno : ∀ x : Nat, x < w * h → mvF w h cs L d (x : Int) ≠ some (c : Int) := by
  intro x hx2 e
  by_cases hl : 0 ≤ rd L (x : Int)
  ·rw [mv_some hw hh hs hI hd hx2 hl] at e
   exact hx x hx2 hl (Option.some.inj e)
  ·rw [mv_none hw hh hs hI hd hl] at e
   cases e
 refine ⟨laid_off cs _ _ _ c (by rw [hI.lc]; exact hc) (by rw [hI.lc]; exact hno), ?_⟩
 refine (laid_off L _ _ _ c (by rw [hI.ll]; exact hc) (by rw [hI.ll]; exact hno)).trans ?_
 rw [rd_nat _ c (by simpa using hc), List.getElem_replicate]
theorem hit_or (c : Nat) : (∃ i : Nat, i < w * h ∧ 0 ≤ rd L (i : Int) ∧ yC w h cs L d i = c) ∨ ∀ i : Nat, i < w * h → 0 ≤ rd L (i : Int) → yC w h cs L d i ≠ c := by
 by_cases h1 : ∃ i : Nat, i < w * h ∧ 0 ≤ rd L (i : Int) ∧ yC w h cs L d i = c
 ·exact Or.inl h1
 ·exact Or.inr fun i h2 h3 h4 => h1 ⟨i, h2, h3, h4⟩
theorem si_next : SI w h (csN w h cs L d) (laN w h cs L d) n := by
 have hlc : (csN w h cs L d).length = w * h := (laid_len _ _ _ _).trans hI.lc;have hll : (laN w h cs L d).length = w * h := (laid_len _ _ _ _).trans hI.ll
 have hoff : ∀ c : Nat, c < w * h → isB (rd (emptyC cs) (c : Int)) = false := by
  intro c hc
  rw [emptyC_rd cs c (by rw [hI.lc]; exact hc)]
  split
  ·exact isB_46
  ·rename_i h1
   simpa using h1
 refine ⟨hlc, hll, fun c hc => ?_, fun c hc => ?_, fun c hc h0 => ?_, fun p hp => ?_⟩
 ·rcases hit_or hw hh hs hI hd c with ⟨i, hi, hl, e⟩ | hx
  ·rw [← e, (at_hit hw hh hs hI hd hi hl).2]
   exact hI.lt i hi
  ·rw [(at_off hw hh hs hI hd hc hx).2]
   omega
 ·rcases hit_or hw hh hs hI hd c with ⟨i, hi, hl, e⟩ | hx
  ·unfold bI
   rw [← e, (at_hit hw hh hs hI hd hi hl).1, (at_hit hw hh hs hI hd hi hl).2]
   exact hI.ball i hi
  ·unfold bI
   rw [(at_off hw hh hs hI hd hc hx).2, (at_off hw hh hs hI hd hc hx).1, hoff c hc]
   simp
 ·rcases hit_or hw hh hs hI hd c with ⟨i, hi, hl, e⟩ | hx
  ·rw [← e, (at_hit hw hh hs hI hd hi hl).2] at h0
   omega
  ·exact (at_off hw hh hs hI hd hc hx).2
 ·obtain ⟨i, hi, e⟩ := hI.full p hp
  have hl : 0 ≤ rd L (i : Int) := by omega
  obtain ⟨h1, h2, _⟩ := y_at hw hh hs hI hd hi hl
  refine ⟨(yC w h cs L d i).toNat, by omega, ?_⟩
  rw [Int.toNat_of_nonneg h1, (at_hit hw hh hs hI hd hi hl).2]
  exact e
theorem wall_next (c : Nat) (hc : c < w * h) : rd (csN w h cs L d) (c : Int) = 35 ↔ rd cs (c : Int) = 35 := by
 rcases hit_or hw hh hs hI hd c with ⟨i, hi, hl, e⟩ | hx
 ·have h1 := (y_at hw hh hs hI hd hi hl).2.2
  rw [e] at h1
  have h2 : rd (csN w h cs L d) (c : Int) = rd cs (i : Int) := by rw [← e]; exact (at_hit hw hh hs hI hd hi hl).1
  have h3 := (hI.ball i hi).1 hl;unfold bI at h3
  rw [h2]
  constructor
  ·intro h4
   rw [h4, isB_35] at h3
   cases h3
  ·intro h4
   exact absurd h4 h1
 ·rw [(at_off hw hh hs hI hd hc hx).1, emptyC_rd cs c (by rw [hI.lc]; exact hc)]
  split
  ·rename_i h1
   constructor
   ·intro h2
    omega
   ·intro h2
    rw [h2, isB_35] at h1
    cases h1
  ·exact Iff.rfl
theorem aA_next (i : Nat) (hi : i < w * h) : aA w h (csN w h cs L d) d i = aA w h cs d i := by
 unfold aA
 by_cases h1 : ah w h i d < 0
 ·rw [if_pos h1, if_pos h1]
 ·rw [if_neg h1, if_neg h1]
  have h2 := ah_lt hw hh hs hi hd;have h3 := wall_next hw hh hs hI hd (ah w h i d).toNat (by omega)
  rw [Int.toNat_of_nonneg (by omega)] at h3
  by_cases h4 : rd cs (ah w h i d) = 35
  ·rw [if_pos h4, if_pos (h3.2 h4)]
  ·rw [if_neg h4, if_neg fun e => h4 (h3.1 e)]
theorem blk_next {p : Nat} (hp : Blk (w * h) (lb L) (aA w h cs d) p) : Blk (w * h) (lb (laN w h cs L d)) (aA w h (csN w h cs L d) d) p := by
 have stay : ∀ i q : Nat, i < w * h → lb L i = q → Blk (w * h) (lb L) (aA w h cs d) q → lb (laN w h cs L d) i = q := by
  intro i q hi hq hb;have hy : yC w h cs L d i = i := if_pos (by rw [hq, Int.toNat_natCast]; exact hb);have h1 := (at_hit hw hh hs hI hd hi (by unfold lb at hq; omega)).2
  rw [hy] at h1
  unfold lb at hq ⊢
  rw [h1]
  exact hq
 induction hp with
 | side i p hi h1 h2 => exact Blk.side i p hi (stay i p hi h1 (Blk.side i p hi h1 h2)) (by rw [aA_next hw hh hs hI hd i hi]; exact h2)
 | push i j p q hi h1 h2 h3 h4 ih =>
  have hj : j < w * h := by
   have := aA_lt hw hh hs hI.lc hi hd
   rw [h2] at this
   omega
  exact Blk.push i j p q hi (stay i p hi h1 (Blk.push i j p q hi h1 h2 h3 h4)) (by rw [aA_next hw hh hs hI hd i hi]; exact h2) (stay j q hj h3 h4) ih
end
def Room (w h : Nat) (cs L : List Int) (n d m : Nat) : Prop := ∀ p : Nat, p < n → ¬ Blk (w * h) (lb L) (aA w h cs d) p → ∃ i : Nat, i < w * h ∧ rd L (i : Int) = p ∧ left w h i d < m
section
variable {w h : Nat} {cs L : List Int} {n d : Nat} (hw : w ≤ 7) (hh : h ≤ 7) (hs : w * h ≤ 36) (hI : SI w h cs L n) (hd : d < 4)
include hw hh hs hI hd
theorem room_start : Room w h cs L n d 7 := by
 intro p hp _;obtain ⟨i, hi, e⟩ := hI.full p hp;have := left_le hw hh hs hi hd
 exact ⟨i, hi, e, by omega⟩
theorem room_next {m : Nat} (hr : Room w h cs L n d (m + 1)) : Room w h (csN w h cs L d) (laN w h cs L d) n d m := by
 intro p hp hb
 have hb0 : ¬ Blk (w * h) (lb L) (aA w h cs d) p := fun h1 => hb (blk_next hw hh hs hI hd h1)
 obtain ⟨i, hi, e, hl⟩ := hr p hp hb0
 have hli : 0 ≤ rd L (i : Int) := by omega
 have hb1 : ¬ Blk (w * h) (lb L) (aA w h cs d) (lb L i).toNat := by
  unfold lb
  rw [e, Int.toNat_natCast]
  exact hb0
 obtain ⟨a0, a1, a2, _⟩ := free_at hw hh hs hI hd hi hli hb1;have hy : yC w h cs L d i = aA w h cs d i := if_neg hb1;have h1 := (at_hit hw hh hs hI hd hi hli).2;have h2 := left_lt hw hh hs hi hd (by rw [← a2]; exact a0)
 refine ⟨(aA w h cs d i).toNat, by omega, ?_, ?_⟩
 ·rw [Int.toNat_of_nonneg a0, ← hy, h1]
  exact e
 ·rw [← a2] at h2
  omega
theorem still_next (hb : ∀ p : Nat, p < n → Blk (w * h) (lb L) (aA w h cs d) p) : csN w h cs L d = cs ∧ laN w h cs L d = L := by
 have hlc : (csN w h cs L d).length = w * h := (laid_len _ _ _ _).trans hI.lc;have hll : (laN w h cs L d).length = w * h := (laid_len _ _ _ _).trans hI.ll
 have hy : ∀ i : Nat, i < w * h → 0 ≤ rd L (i : Int) → yC w h cs L d i = i := by
  intro i hi hl
  refine if_pos (hb _ ?_)
  have := hI.lt i hi;unfold lb
  omega
 have key : ∀ c : Nat, c < w * h → rd (csN w h cs L d) (c : Int) = rd cs (c : Int) ∧ rd (laN w h cs L d) (c : Int) = rd L (c : Int) := by
  intro c hc
  by_cases hl : 0 ≤ rd L (c : Int)
  ·have h1 := at_hit hw hh hs hI hd hc hl
   rw [hy c hc hl] at h1
   exact h1
  ·have h1 := at_off hw hh hs hI hd hc (fun i hi hli e => by
    rw [hy i hi hli] at e
    have : i = c := by omega
    subst this
    exact hl hli)
   refine ⟨?_, ?_⟩
   ·rw [h1.1, emptyC_rd cs c (by rw [hI.lc]; exact hc), if_neg]
    intro h2
    exact hl ((hI.ball c hc).2 h2)
   ·rw [h1.2]
    exact (hI.low c hc (by omega)).symm
 constructor
 ·refine List.ext_getElem (by rw [hlc, hI.lc]) fun c h1 h2 => ?_
  have := (key c (by omega)).1
  rwa [rd_nat _ c h1, rd_nat _ c h2] at this
 ·refine List.ext_getElem (by rw [hll, hI.ll]) fun c h1 h2 => ?_
  have := (key c (by omega)).2
  rwa [rd_nat _ c h1, rd_nat _ c h2] at this
end
end Go.Proofs.YtkjlfgceodindaaDoor.Q
end
section
namespace Go.Proofs.YtkjlfgceodindaaDoor.Q
open Go.RowKit Go.Proofs.YtkjlfgceodindaaDoorW.PrintWords Go.Proofs.YtkjlfgceodindaaDoorW.PrintLast Go.Proofs.YtkjlfgceodindaaDoorW.PrintMore
set_option linter.unusedSectionVars false
open Classical
theorem rd_ext {a b : List Int} (hl : a.length = b.length) (h : ∀ p : Nat, p < b.length → rd a (p : Int) = rd b (p : Int)) : a = b := by
 refine List.ext_getElem hl fun p h1 h2 => ?_
 have := h p h2
 rwa [rd_nat _ p h1, rd_nat _ p h2] at this
def bk (w h : Nat) (cs L : List Int) (d p : Nat) : Prop := Blk (w * h) (lb L) (aA w h cs d) p
noncomputable def stL (w h : Nat) (cs L : List Int) (n d : Nat) : List Bool := blkL (w * h) n (lb L) (aA w h cs d)
theorem stL_len (w h : Nat) (cs L : List Int) (n d : Nat) : (stL w h cs L n d).length = n := by
 unfold stL blkL
 rw [List.length_map, List.length_range]
theorem rdOf_map {n p : Nat} (f : Nat → Bool) (hp : p < n) : rdOf false ((List.range n).map f) (p : Int) = f p := by
 unfold rdOf
 rw [Int.toNat_natCast, List.getD_eq_getElem?_getD, List.getElem?_map, List.getElem?_range hp]
 rfl
theorem stL_at (w h : Nat) (cs L : List Int) {n d p : Nat} (hp : p < n) : rdOf false (stL w h cs L n d) (p : Int) = decide (bk w h cs L d p) := rdOf_map _ hp
noncomputable def mvd (w h : Nat) (cs L : List Int) (n d t : Nat) : List Bool := (List.range n).map fun p : Nat => decide ((∃ i : Nat, i < t ∧ rd L (i : Int) = p) ∧ ¬ bk w h cs L d p)
noncomputable def mvAll (w h : Nat) (cs L : List Int) (n d : Nat) : List Bool := (List.range n).map fun p : Nat => decide (¬ bk w h cs L d p)
theorem mvd_len (w h : Nat) (cs L : List Int) (n d t : Nat) : (mvd w h cs L n d t).length = n := by
 unfold mvd
 rw [List.length_map, List.length_range]
theorem mvd_zero (w h : Nat) (cs L : List Int) (n d : Nat) : mvd w h cs L n d 0 = List.replicate n false := by
 unfold mvd
 refine List.ext_getElem (by simp) fun p h1 h2 => ?_
 rw [List.getElem_map, List.getElem_replicate]
 refine decide_eq_false fun h3 => ?_
 obtain ⟨⟨i, hi, _⟩, _⟩ := h3
 omega
theorem mvd_stay (w h : Nat) (cs L : List Int) (n d t : Nat) (hb : rd L (t : Int) < 0 ∨ ∃ p : Nat, rd L (t : Int) = p ∧ bk w h cs L d p) : mvd w h cs L n d (t + 1) = mvd w h cs L n d t := by
 unfold mvd
 refine List.map_congr_left fun p _ => ?_
 have : ((∃ i : Nat, i < t + 1 ∧ rd L (i : Int) = p) ∧ ¬ bk w h cs L d p) ↔ ((∃ i : Nat, i < t ∧ rd L (i : Int) = p) ∧ ¬ bk w h cs L d p) := by
  constructor
  ·rintro ⟨⟨i, hi, e⟩, h2⟩
   refine ⟨⟨i, ?_, e⟩, h2⟩
   apply Classical.byContradiction
   intro h3
   obtain rfl : i = t := by omega
   rcases hb with h4 | ⟨q, h4, h5⟩
   ·omega
   ·have : q = p := by omega
    subst this
    exact h2 h5
  ·rintro ⟨⟨i, hi, e⟩, h2⟩
   exact ⟨⟨i, by omega, e⟩, h2⟩
 exact decide_eq_decide.2 this
theorem mvd_go (w h : Nat) (cs L : List Int) (n d t p : Nat) (hl : rd L (t : Int) = p) (hb : ¬ bk w h cs L d p) : mvd w h cs L n d (t + 1) = (mvd w h cs L n d t).set p true := by
 unfold mvd
 refine List.ext_getElem (by simp) fun q h1 h2 => ?_
 rw [List.getElem_set, List.getElem_map, List.getElem_map, List.getElem_range]
 by_cases e : p = q
 ·subst e
  rw [if_pos rfl]
  exact decide_eq_true ⟨⟨t, by omega, hl⟩, hb⟩
 ·rw [if_neg e]
  refine decide_eq_decide.2 ?_
  constructor
  ·rintro ⟨⟨i, hi, e2⟩, h2⟩
   refine ⟨⟨i, ?_, e2⟩, h2⟩
   apply Classical.byContradiction
   intro h3
   obtain rfl : i = t := by omega
   omega
  ·rintro ⟨⟨i, hi, e2⟩, h2⟩
   exact ⟨⟨i, by omega, e2⟩, h2⟩
def cameN (t : Nat) (y : Int) : Bool := decide (y < (t : Int))
theorem cameN_succ (t : Nat) : cameN (t + 1) = fun y => cameN t y || decide (y = (t : Int)) := by
 funext y
 unfold cameN
 by_cases h1 : y < (t : Int)
 ·rw [decide_eq_true h1, decide_eq_true (by omega)]
  rfl
 ·by_cases h2 : y = (t : Int)
  ·rw [decide_eq_true h2, decide_eq_true (by omega), Bool.or_true]
  ·rw [decide_eq_false h1, decide_eq_false h2, decide_eq_false (by omega)]
   rfl
theorem laid_zero (cs em : List Int) (f : Int → Option Int) (hl : em.length = cs.length) : laidCells cs em f (cameN 0) = em := by
 refine Eq.trans (laid_congr cs em f f _ (fun _ => false) fun x _ => ⟨rfl, fun _ => ?_⟩) (laid_none cs em f hl)
 unfold cameN
 exact decide_eq_false (by omega)
theorem laid_full (cs em : List Int) (f : Int → Option Int) (t : Nat) (ht : cs.length ≤ t) : laidCells cs em f (cameN t) = laidCells cs em f fun _ => true := by
 refine laid_congr cs em f f _ (fun _ => true) fun x hx => ⟨rfl, fun _ => ?_⟩
 unfold cameN
 exact decide_eq_true (by omega)
theorem fill_set (a b : Int) (t m : Nat) : (List.replicate t a ++ List.replicate (m + 1) b).set t a = List.replicate (t + 1) a ++ List.replicate m b := by
 refine List.ext_getElem (by simp; omega) fun j h1 h2 => ?_
 rw [List.getElem_set]
 simp only [List.getElem_append, List.length_replicate, List.getElem_replicate]
 split <;> split <;> (try split) <;> first | rfl | omega
section
variable {w h : Nat} {cs L : List Int} {n d : Nat} (hw : w ≤ 7) (hh : h ≤ 7) (hs : w * h ≤ 36) (hI : SI w h cs L n) (hd : d < 4) (hn36 : n ≤ 36)
include hw hh hs hI hd hn36
theorem mvd_all : mvd w h cs L n d (w * h) = mvAll w h cs L n d := by
 unfold mvd mvAll
 refine List.map_congr_left fun p hp => decide_eq_decide.2 ⟨fun h1 => h1.2, fun h1 => ⟨?_, h1⟩⟩
 exact hI.full p (List.mem_range.1 hp)
theorem skm_l1 : ∀ (m t : Nat), t + m = w * h → Ev (fun k => spec_skMove.l1 k d (stL w h cs L n d) (laidCells L (List.replicate (w * h) (-1)) (mvF w h cs L d) (cameN t)) (mvd w h cs L n d t) L L.length t w h cs w h (laidCells cs (emptyC cs) (mvF w h cs L d) (cameN t))) (w, h, csN w h cs L d, laN w h cs L d, mvAll w h cs L n d)
 | 0, t, ht => by
  obtain rfl : t = w * h := by omega
  refine Ev.step (Ev.const (o := some ((w : Int), (h : Int), csN w h cs L d, laN w h cs L d, mvAll w h cs L n d)) rfl) fun k => ?_
  rw [spec_skMove.l1, if_neg (by rw [hI.ll]; omega), laid_full _ _ _ _ (by rw [hI.lc]; exact Nat.le_refl _), laid_full _ _ _ _ (by rw [hI.ll]; exact Nat.le_refl _), mvd_all hw hh hs hI hd hn36]
  rfl
 | m + 1, t, ht => by
  have ih := skm_l1 m (t + 1) (by omega)
  have htl : t < w * h := by omega
  have hwt := w64t t (by omega);have c0 : (0 : Int) ≤ (t : Int) := Int.natCast_nonneg t
  have c1 : (t : Int) < (L.length : Int) := by rw [hI.ll]; exact Int.ofNat_lt.2 htl
  have c2 : (t : Int) < (cs.length : Int) := by rw [hI.lc]; exact Int.ofNat_lt.2 htl
  have lA : ∀ ca, ((laidCells L (List.replicate (w * h) (-1)) (mvF w h cs L d) ca).length : Int) = ((w * h : Nat) : Int) := fun ca => by rw [laid_len, hI.ll]
  have lB : ∀ ca, ((laidCells cs (emptyC cs) (mvF w h cs L d) ca).length : Int) = ((w * h : Nat) : Int) := fun ca => by rw [laid_len, hI.lc]
  have hfit := mv_fits hw hh hs hI hd
  refine Ev.step ih fun k => ?_
  rw [spec_skMove.l1, if_pos c1, if_pos c0, if_pos c1, hwt]
  by_cases h1 : rd L (t : Int) < 0
  ·rw [if_pos h1, cameN_succ, laid_skip _ _ _ _ _ (mv_none hw hh hs hI hd (by omega)), laid_skip _ _ _ _ _ (mv_none hw hh hs hI hd (by omega)), mvd_stay _ _ _ _ _ _ _ (Or.inl h1)]
  ·have h2 : 0 ≤ rd L (t : Int) := by omega
   have h3 := hI.lt t htl;obtain ⟨p, hp⟩ : ∃ p : Nat, rd L (t : Int) = p := ⟨(rd L (t : Int)).toNat, by omega⟩
   have hpn : p < n := by omega
   have c3 : rd L (t : Int) < ((stL w h cs L n d).length : Int) := by rw [stL_len]; exact h3
   have hst := stL_at w h cs L (d := d) hpn;have hmv := mv_some hw hh hs hI hd htl h2;obtain ⟨y0, y1, y2⟩ := y_at hw hh hs hI hd htl h2
   have hlbt : (lb L t).toNat = p := by unfold lb; omega
   rw [if_neg h1, if_pos h2, if_pos c3]
   have s1 := laid_step cs (emptyC cs) _ (cameN t) (by rw [hI.lc]; exact hfit) _ _ hmv;have s2 := laid_step L (List.replicate (w * h) (-1)) _ (cameN t) (by rw [hI.ll]; exact hfit) _ _ hmv
   rw [← cameN_succ] at s1 s2
   by_cases hb : bk w h cs L d p
   ·have hy : yC w h cs L d t = t := if_pos (by rw [hlbt]; exact hb)
    rw [hy] at s1 s2
    have c4 : (t : Int) < ((w * h : Nat) : Int) := Int.ofNat_lt.2 htl
    rw [hp, if_pos (hst.trans (decide_eq_true hb)), if_pos c2, if_pos (by rw [lB]; exact c4), if_pos (by rw [lA]; exact c4), s1, s2, mvd_stay _ _ _ _ _ _ _ (Or.inr ⟨p, hp, hb⟩), hp]
   ·have hy : yC w h cs L d t = aA w h cs d t := if_neg (by rw [hlbt]; exact hb)
    rw [hy] at s1 s2 y0 y1
    have c5 : (p : Int) < ((mvd w h cs L n d t).length : Int) := by rw [mvd_len]; exact Int.ofNat_lt.2 hpn
    rw [hp, if_neg (by rw [hst]; simpa using hb), aA_eq hw hh hs hI.lc htl hd, Option.bind_some, if_pos c5, if_pos c2, if_pos y0, if_pos (by rw [lB]; exact y1), if_pos (by rw [lA]; exact y1), s1, s2, mvd_go _ _ _ _ _ _ _ p hp hb, hp]
    rfl
theorem skm_l0 : ∀ (m t : Nat), t + m = w * h → Ev (fun k => spec_skMove.l0 k L n d (stL w h cs L n d) (List.replicate t (-1) ++ List.replicate m 0) ((w * h : Nat) : Int) t w h cs w h (emptyC cs)) (w, h, csN w h cs L d, laN w h cs L d, mvAll w h cs L n d)
 | 0, t, ht => by
  obtain rfl : t = w * h := by omega
  have h1 := skm_l1 hw hh hs hI hd hn36 (w * h) 0 (by omega)
  rw [laid_zero _ _ _ (by rw [hI.ll]; simp), laid_zero _ _ _ (by unfold emptyC; simp), mvd_zero] at h1
  refine Ev.step h1 fun k => ?_
  rw [spec_skMove.l0, if_neg (by omega), if_pos (by omega), if_pos (by omega), List.replicate_zero, List.append_nil, Int.toNat_natCast]
  rfl
 | m + 1, t, ht => by
  have ih := skm_l0 m (t + 1) (by omega)
  refine Ev.step ih fun k => ?_
  rw [spec_skMove.l0, if_pos (by omega), if_pos (by omega), if_pos (by simp; omega), w64t t (by omega), Int.toNat_natCast, fill_set]
theorem skMove_ev (hz : 0 < w * h) : Ev (fun k => spec_skMove.f k w h cs L n d) (w, h, csN w h cs L d, laN w h cs L d, mvAll w h cs L n d) := by
 refine Ev.bind (f := fun k t103 => ((spec_tyWalls.f w h cs).bind fun bt106 => (if 0 ≤ (L.length : Int) then (if ((L.length : Int) : Int).toNat ≤ 35184372088832 then ((some (List.replicate ((L.length : Int) : Int).toNat 0 : List Int)).bind fun y112 => (spec_skMove.l0 k L n d t103 y112 (y112.length : Int) 0 w h cs bt106.1 bt106.2.1 bt106.2.2)) else (none)) else (none)))) (skBlocked_ev hw hh hs hI.lc hd hn36 hI.ll hI.lt) ?_
 refine Ev.congr (skm_l0 hw hh hs hI hd hn36 (w * h) 0 (by omega)) fun k => ?_
 have hc : spec_tyWalls.f w h cs = some ((w : Int), (h : Int), emptyC cs) := if_pos ⟨by rw [hI.lc]; exact hz, by rw [hI.lc]; omega⟩
 rw [hc, Option.bind_some, if_pos (by omega), if_pos (by rw [hI.ll]; omega), Option.bind_some, hI.ll, Int.toNat_natCast, List.length_replicate]
 rfl
end
end Go.Proofs.YtkjlfgceodindaaDoor.Q
end
section
namespace Go.Proofs.YtkjlfgceodindaaDoor.Q
open Go.RowKit Go.Proofs.YtkjlfgceodindaaDoorW.PrintWords Go.Proofs.YtkjlfgceodindaaDoorW.PrintLast Go.Proofs.YtkjlfgceodindaaDoorW.PrintMore
set_option linter.unusedSectionVars false
open Classical
structure PM (w h : Nat) (L : List Int) (n : Nat) (P : List (List Int)) : Prop where
 len : P.length = n
 mem : ∀ (j : Nat) (q : List Int), P[j]? = some q → ∀ x : Int, x ∈ q ↔ 0 ≤ x ∧ x < ((w * h : Nat) : Int) ∧ rd L x = j
 short : ∀ q ∈ P, q.length ≤ 36
noncomputable def yv (w h : Nat) (cs L : List Int) (d : Nat) (x : Int) : Int := yC w h cs L d x.toNat
noncomputable def anyM (w h : Nat) (cs L : List Int) (n d : Nat) : Bool := decide (∃ p : Nat, p < n ∧ ¬ bk w h cs L d p)
theorem asF_eq (g : Int → Option Int) : ∀ m : List (Int × Int), (∀ x c, (x, c) ∈ m → g x = some c) → ∀ x, (g x ≠ none → ∃ c, (x, c) ∈ m) → asF m x = g x
 | [], _, x, hx => by
  cases e : g x with
  | none => rfl
  | some c =>
   obtain ⟨c', hc⟩ := hx (by rw [e]; simp)
   cases hc
 | (k, v) :: m, hm, x, hx => by
  show (if x = k then some v else asF m x) = g x
  by_cases e : x = k
  ·rw [if_pos e, e, hm k v List.mem_cons_self]
  ·rw [if_neg e]
   refine asF_eq g m (fun y c hy => hm y c (List.mem_cons_of_mem _ hy)) x fun h1 => ?_
   obtain ⟨c, hc⟩ := hx h1
   rcases List.mem_cons.1 hc with h2 | h2
   ·injection h2 with h3 h4
    exact absurd h3 e
   ·exact ⟨c, h2⟩
theorem fitsB_of {g : Int → Option Int} {n : Nat} (hf : Fits g n) {m : List (Int × Int)} (hm : ∀ x c, (x, c) ∈ m → g x = some c) : fitsB m n = true := by
 unfold fitsB
 rw [Bool.and_eq_true, List.all_eq_true, List.all_eq_true]
 refine ⟨fun p hp => ?_, fun p hp => List.all_eq_true.2 fun q hq => ?_⟩
 ·have h1 := hf.dom p.1 p.2 (hm _ _ hp)
  simp only [Bool.and_eq_true, decide_eq_true_eq]
  omega
 ·by_cases e : p.2 = q.2
  ·have h1 := hf.inj p.1 q.1 p.2 (hm _ _ hp) (by rw [e]; exact hm _ _ hq)
   rw [decide_eq_true h1, Bool.or_true]
  ·rw [decide_eq_false e]
   rfl
section
variable {w h : Nat} {cs L : List Int} {n d : Nat} (hw : w ≤ 7) (hh : h ≤ 7) (hs : w * h ≤ 36) (hI : SI w h cs L n) (hd : d < 4) (hn36 : n ≤ 36)
include hw hh hs hI hd hn36
theorem PM.idx {P : List (List Int)} (hP : PM w h L n P) (v : Int) (h0 : 0 ≤ v) (h1 : v < ((w * h : Nat) : Int)) : idxOf v P = if 0 ≤ rd L v then rd L v else -1 := by
 have hmem : ∀ j : Nat, j < n → (v ∈ P.getD j [] ↔ rd L v = j) := by
  intro j hj
  have hj2 : j < P.length := by rw [hP.len]; exact hj
  rw [List.getD_eq_getElem?_getD, List.getElem?_eq_getElem hj2]
  exact (hP.mem j _ (List.getElem?_eq_getElem hj2) v).trans ⟨fun h => h.2.2, fun h => ⟨h0, h1, h⟩⟩
 by_cases h2 : 0 ≤ rd L v
 ·rw [if_pos h2]
  have h3 := hI.lt v.toNat (by omega)
  rw [Int.toNat_of_nonneg h0] at h3
  have h4 := idxOf_hit v P (rd L v).toNat (by rw [hP.len]; omega) ((hmem _ (by omega)).2 (by omega)) (fun j hj h5 => by have := (hmem j (by omega)).1 h5; omega)
  rw [h4]
  omega
 ·rw [if_neg h2]
  exact idxOf_miss v _ fun j hj h5 => by
   rw [hP.len] at hj
   have := (hmem j hj).1 h5
   omega
theorem blocked_pm {P : List (List Int)} (hP : PM w h L n P) : impl_tray_blocked.f w h cs P (dirC d) = some (stL w h cs L n d) := by
 have hsm : smallP P = true := by
  unfold smallP
  rw [Bool.and_eq_true, decide_eq_true_eq, List.all_eq_true]
  exact ⟨by rw [hP.len]; omega, fun p hp => decide_eq_true (by have := hP.short p hp; omega)⟩
 have hl : ∀ (j : Nat) (q : List Int), P[j]? = some q → ∀ x ∈ q, 0 ≤ x ∧ x < ((w * h : Nat) : Int) ∧ rd L x = ((0 + j : Nat) : Int) := by
  intro j q hq x hx;obtain ⟨a, b, c⟩ := (hP.mem j q hq x).1 hx
  exact ⟨a, b, by rw [Nat.zero_add]; exact c⟩
 have hlab : ∀ i : Nat, i < w * h → lb L i < (n : Int) := hI.lt;unfold impl_tray_blocked.f
 rw [if_pos hsm, brn_eq hw hh hs hI.lc hd (hP.idx hw hh hs hI hd hn36) hlab hl _ _ (by rw [List.length_replicate]; exact hP.len)]
 congr 1
 refine runs_end _ (fun i hi => ?_) (fun i hi h0 => ?_) _ _ (by rw [List.length_replicate]; exact hP.len) (fun p hp => ?_) (by rw [hP.len]; omega)
 ·obtain ⟨x, hx, rfl⟩ := List.mem_map.1 hi
  obtain ⟨q, hq, hxq⟩ := List.mem_flatten.1 hx;obtain ⟨j, hj⟩ := List.getElem?_of_mem hq;obtain ⟨h0, h1, _⟩ := hl j q hj x hxq
  exact ⟨by omega, hlab _ (by omega)⟩
 ·have h1 := hlab i hi
  unfold lb at h0 h1
  have hj : (rd L (i : Int)).toNat < P.length := by rw [hP.len]; omega
  refine List.mem_map.2 ⟨(i : Int), List.mem_flatten.2 ⟨P[(rd L (i : Int)).toNat], List.getElem_mem hj, ?_⟩, by simp⟩
  exact (hP.mem _ _ (List.getElem?_eq_getElem hj) _).2 ⟨by omega, by omega, by omega⟩
 ·rw [rdOf_rep hw hh hs hI.lc] at hp
  cases hp
theorem ssC_eq (p : Nat) (hp : p < n) : ∀ (q own : List Int) (m : List (Int × Int)), (∀ x ∈ q, 0 ≤ x ∧ x < ((w * h : Nat) : Int) ∧ rd L x = p) → own.length + q.length < 1000000 → m.length + q.length < 1000000 →
  ssC w h cs (dirC d) (rdOf false (stL w h cs L n d) (p : Int)) q own m = some (own ++ q.map (yv w h cs L d), (q.map fun x => (x, yv w h cs L d x)).reverse ++ m)
 | [], own, m, _, _, _ => by simp [ssC]
 | x :: q, own, m, hq, h1, h2 => by
  obtain ⟨x0, x1, x2⟩ := hq x List.mem_cons_self;obtain ⟨i, rfl⟩ := Int.eq_ofNat_of_zero_le x0
  have hi : i < w * h := by omega
  have hli : 0 ≤ rd L (i : Int) := by omega
  have hlb : (lb L i).toNat = p := by unfold lb; omega
  simp only [List.length_cons] at h1 h2
  have hnx : (if rdOf false (stL w h cs L n d) (p : Int) = true then some (i : Int) else impl_tray_ahead.f 1 w h cs i (dirC d)) = some (yv w h cs L d i) := by
   rw [stL_at w h cs L hp]
   unfold yv
   rw [Int.toNat_natCast]
   by_cases hb : bk w h cs L d p
   ·rw [if_pos (decide_eq_true hb)]
    have hy : yC w h cs L d i = i := if_pos (by rw [hlb]; exact hb)
    rw [hy]
   ·rw [if_neg (by simpa using hb)]
    have hb2 : ¬ Blk (w * h) (lb L) (aA w h cs d) (lb L i).toNat := by rw [hlb]; exact hb
    have hy : yC w h cs L d i = aA w h cs d i := if_neg hb2;have hah := (ah_all ⟨w, by omega⟩ ⟨h, by omega⟩ ⟨i, by omega⟩ ⟨d, hd⟩ hi).1
    simp only at hah
    rw [ahead_l, hah, hy, (free_at hw hh hs hI hd hi hli hb2).2.2.1]
  obtain ⟨y0, y1, _⟩ := y_at hw hh hs hI hd hi hli
  have hyv : yv w h cs L d (i : Int) = yC w h cs L d i := by unfold yv; rw [Int.toNat_natCast]
  rw [ssC, hnx, Option.bind_some, if_pos (by rw [hyv]; omega), ssC_eq p hp q _ _ (fun x hx => hq x (List.mem_cons_of_mem _ hx)) (by rw [List.length_append, List.length_singleton]; omega) (by rw [List.length_cons]; omega)]
  simp
theorem ssP_eq : ∀ (Q : List (List Int)) (i : Nat) (out : List (List Int)) (m : List (Int × Int)) (mv : Bool), i + Q.length = n → out.length = i → (∀ (j : Nat) (q : List Int), Q[j]? = some q → (∀ x ∈ q, 0 ≤ x ∧ x < ((w * h : Nat) : Int) ∧ rd L x = ((i + j : Nat) : Int)) ∧ q.length ≤ 36) → m.length + 36 * Q.length < 1000000 →
  ∃ mv', ssP w h cs (dirC d) (stL w h cs L n d) Q i out m mv = some (out ++ Q.map (fun q => q.map (yv w h cs L d)), (Q.flatten.map fun x => (x, yv w h cs L d x)).reverse ++ m, mv') ∧ (mv' = true ↔ mv = true ∨ ∃ p, i ≤ p ∧ p < n ∧ ¬ bk w h cs L d p)
 | [], i, out, m, mv, hi, _, _, _ => ⟨mv, by simp [ssP], ⟨fun h1 => Or.inl h1, fun h1 => h1.resolve_right fun ⟨p, h2, h3, _⟩ => by simp at hi; omega⟩⟩
 | q :: Q, i, out, m, mv, hi, ho, hq, hm => by
  simp only [List.length_cons] at hi hm
  have hin : i < n := by omega
  obtain ⟨hq0, hq1⟩ := hq 0 q rfl;have h1 := ssC_eq hw hh hs hI hd hn36 i hin q [] m hq0 (by simp; omega) (by omega);obtain ⟨mv', h2, h3⟩ := ssP_eq Q (i + 1) (out ++ [q.map (yv w h cs L d)]) ((q.map fun x => (x, yv w h cs L d x)).reverse ++ m) (mv || !rdOf false (stL w h cs L n d) i) (by omega) (by rw [List.length_append, List.length_singleton]; omega)
   (fun j q' hq' => by rw [show i + 1 + j = i + (j + 1) by omega]; exact hq (j + 1) q' hq') (by simp; omega)
  refine ⟨mv', ?_, h3.trans ?_⟩
  ·rw [ssP, if_pos ⟨by rw [stL_len]; exact hin, by omega⟩, h1, Option.bind_some, List.nil_append, h2]
   simp
  ·rw [stL_at w h cs L hin, Bool.or_eq_true, Bool.not_eq_true', decide_eq_false_iff_not]
   constructor
   ·rintro ((h4 | h4) | ⟨p, h5, h6, h7⟩)
    ·exact Or.inl h4
    ·exact Or.inr ⟨i, Nat.le_refl _, hin, h4⟩
    ·exact Or.inr ⟨p, by omega, h6, h7⟩
   ·rintro (h4 | ⟨p, h5, h6, h7⟩)
    ·exact Or.inl (Or.inl h4)
    ·by_cases e : p = i
     ·subst e
      exact Or.inl (Or.inr h7)
     ·exact Or.inr ⟨p, by omega, h6, h7⟩
theorem stuckStep_eq (hz : 0 < w * h) {P : List (List Int)} (hP : PM w h L n P) : impl_tray_stuckStep.f w h cs P (dirC d) = some ((w : Int), (h : Int), csN w h cs L d, P.map (fun q => q.map (yv w h cs L d)), anyM w h cs L n d) := by
 obtain ⟨mv', h1, h2⟩ := ssP_eq hw hh hs hI hd hn36 P 0 [] [] false (by rw [hP.len]; omega) rfl (fun j q hq => ⟨fun x hx => by rw [Nat.zero_add]; exact (hP.mem j q hq x).1 hx, hP.short q (List.mem_of_getElem? hq)⟩) (by rw [hP.len]; simp; omega)
 have hmv : mv' = anyM w h cs L n d := by
  unfold anyM
  have h3 : mv' = true ↔ ∃ p, p < n ∧ ¬ bk w h cs L d p := by
   rw [h2]
   constructor
   ·rintro (h4 | ⟨p, _, h5, h6⟩)
    ·cases h4
    ·exact ⟨p, h5, h6⟩
   ·rintro ⟨p, h5, h6⟩
    exact Or.inr ⟨p, Nat.zero_le _, h5, h6⟩
  cases hm : mv' with
  | true => exact (decide_eq_true (h3.1 hm)).symm
  | false => exact (decide_eq_false fun h4 => by rw [h3.2 h4] at hm; cases hm).symm
 rw [List.nil_append, List.append_nil] at h1
 have hfit := mv_fits hw hh hs hI hd
 have hmm : ∀ x c, (x, c) ∈ (P.flatten.map fun x => (x, yv w h cs L d x)).reverse → mvF w h cs L d x = some c := by
  intro x c hx
  rw [List.mem_reverse, List.mem_map] at hx
  obtain ⟨y, hy, e⟩ := hx
  injection e with e1 e2
  subst e1 e2;obtain ⟨q, hq, hyq⟩ := List.mem_flatten.1 hy;obtain ⟨j, hj⟩ := List.getElem?_of_mem hq;obtain ⟨a, b, c⟩ := (hP.mem j q hj y).1 hyq;unfold mvF yv
  rw [if_pos ⟨a, b, by omega⟩]
 have has : asF (P.flatten.map fun x => (x, yv w h cs L d x)).reverse = mvF w h cs L d := by
  funext x
  refine asF_eq _ _ hmm x fun h3 => ⟨yv w h cs L d x, ?_⟩
  rw [List.mem_reverse, List.mem_map]
  have h4 : 0 ≤ x ∧ x < ((w * h : Nat) : Int) ∧ 0 ≤ rd L x := by
   apply Classical.byContradiction
   intro h5
   exact h3 (if_neg h5)
  have h6 := hI.lt x.toNat (by omega)
  rw [Int.toNat_of_nonneg h4.1] at h6
  have hj : (rd L x).toNat < P.length := by rw [hP.len]; omega
  exact ⟨x, List.mem_flatten.2 ⟨P[(rd L x).toNat], List.getElem_mem hj, (hP.mem _ _ (List.getElem?_eq_getElem hj) _).2 ⟨h4.1, h4.2.1, by omega⟩⟩, rfl⟩
 unfold impl_tray_stuckStep.f
 rw [blocked_pm hw hh hs hI hd hn36 hP, Option.bind_some, h1, Option.bind_some, if_pos ⟨⟨by rw [hI.lc]; exact hz, by rw [hI.lc]; omega⟩, by rw [hI.lc]; exact fitsB_of hfit hmm⟩]
 simp only [has, hmv]
 rfl
theorem pm_next {P : List (List Int)} (hP : PM w h L n P) : PM w h (laN w h cs L d) n (P.map fun q => q.map (yv w h cs L d)) := by
 refine ⟨by rw [List.length_map]; exact hP.len, fun j q hq x => ?_, fun q hq => ?_⟩
 ·rw [List.getElem?_map] at hq
  obtain ⟨q0, hq0, rfl⟩ := Option.map_eq_some_iff.1 hq
  have hj : j < n := by
   have := (List.getElem?_eq_some_iff.1 hq0).1
   rw [hP.len] at this
   exact this
  rw [List.mem_map]
  constructor
  ·rintro ⟨i, hi, rfl⟩
   obtain ⟨a, b, c⟩ := (hP.mem j q0 hq0 i).1 hi;obtain ⟨i, rfl⟩ := Int.eq_ofNat_of_zero_le a
   have hi2 : i < w * h := by omega
   obtain ⟨y0, y1, _⟩ := y_at hw hh hs hI hd hi2 (by omega);have h1 := (at_hit hw hh hs hI hd hi2 (by omega)).2;unfold yv
   rw [Int.toNat_natCast]
   exact ⟨y0, y1, h1.trans c⟩
  ·rintro ⟨a, b, c⟩
   obtain ⟨x, rfl⟩ := Int.eq_ofNat_of_zero_le a
   rcases hit_or hw hh hs hI hd x with ⟨i, hi, hl, e⟩ | hx
   ·have h1 := (at_hit hw hh hs hI hd hi hl).2
    rw [e] at h1
    refine ⟨(i : Int), (hP.mem j q0 hq0 i).2 ⟨by omega, by omega, by omega⟩, ?_⟩
    unfold yv
    rw [Int.toNat_natCast]
    exact e
   ·have h1 := (at_off hw hh hs hI hd (by omega) hx).2
    omega
 ·obtain ⟨q0, hq0, rfl⟩ := List.mem_map.1 hq
  rw [List.length_map]
  exact hP.short q0 hq0
end
section
variable {w h : Nat} {cs : List Int} (hw : w ≤ 7) (hh : h ≤ 7) (hs : w * h ≤ 36) (hn : cs.length = w * h)
include hw hh hs hn
theorem si_start {L : List Int} (ho : OI w h cs L (w * h)) : SI w h cs L (mins w h cs (w * h)).length := by
 refine ⟨hn, ho.len, fun i hi => lab_lt hw hh hs hn ho i hi, fun i hi => OI.ball hw hh hs ho (by omega) (by omega), fun i hi h1 => ho.low i (by omega) (by omega) h1, fun p hp => ?_⟩
 have hm : (mins w h cs (w * h))[p] ∈ mins w h cs (w * h) := List.getElem_mem hp;have hm2 := List.mem_filter.1 hm;have hmin : isMin w h cs (mins w h cs (w * h))[p] := of_decide_eq_true hm2.2;have hmr := List.mem_range.1 hm2.1;have h1 := parts_get hw hh hs hn ho p hp;unfold parts at h1
 rw [List.getElem?_map, List.getElem?_eq_getElem hp] at h1
 have h2 := Option.some.inj h1;have h3 := ((comp_head hw hh hs _ hmr).2 hmin);have h4 : (mins w h cs (w * h))[p] < w * h := hmr
 have h5 : ((mins w h cs (w * h))[p] : Int) ∈ idxs L (p : Int) L.length := by
  rw [← h2]
  have h6 := h3.2;unfold rd at h6
  rw [Int.toNat_zero, List.getD_eq_getElem?_getD, List.getElem?_eq_getElem h3.1] at h6
  rw [← h6]
  exact List.getElem_mem h3.1
 rw [mem_idxs] at h5
 exact ⟨_, hmr, h5.2.2⟩
theorem pm_start {L : List Int} (ho : OI w h cs L (w * h)) : PM w h L (mins w h cs (w * h)).length (parts w h cs (w * h)) := by
 refine ⟨by unfold parts; rw [List.length_map], fun j q hq x => ?_, fun q hq => ?_⟩
 ·have hj : j < (mins w h cs (w * h)).length := by
   have := (List.getElem?_eq_some_iff.1 hq).1;unfold parts at this
   rw [List.length_map] at this
   exact this
  rw [parts_get hw hh hs hn ho j hj] at hq
  obtain rfl := Option.some.inj hq
  rw [mem_idxs, ho.len]
 ·unfold parts at hq
  obtain ⟨m, _, rfl⟩ := List.mem_map.1 hq;have := comp_len w h cs (w * h) m
  omega
end
end Go.Proofs.YtkjlfgceodindaaDoor.Q
end
section
namespace Go.Proofs.YtkjlfgceodindaaDoor.Q
open Go.RowKit Go.Proofs.YtkjlfgceodindaaDoorW.PrintWords Go.Proofs.YtkjlfgceodindaaDoorW.PrintLast Go.Proofs.YtkjlfgceodindaaDoorW.PrintMore
set_option linter.unusedSectionVars false
open Classical
def upF (far : List Int) (mv : List Bool) (t : Nat) : List Int := (List.range far.length).map fun p : Nat => if p < t ∧ rdOf false mv (p : Int) = true then rd far (p : Int) + 1 else rd far (p : Int)
theorem upF_len (far : List Int) (mv : List Bool) (t : Nat) : (upF far mv t).length = far.length := by
 unfold upF
 rw [List.length_map, List.length_range]
theorem upF_rd (far : List Int) (mv : List Bool) (t p : Nat) (hp : p < far.length) : rd (upF far mv t) (p : Int) = if p < t ∧ rdOf false mv (p : Int) = true then rd far (p : Int) + 1 else rd far (p : Int) := by
 rw [rd_nat _ p (by rw [upF_len]; exact hp)]
 unfold upF
 rw [List.getElem_map, List.getElem_range]
theorem upF_zero (far : List Int) (mv : List Bool) : upF far mv 0 = far := by
 refine rd_ext (upF_len _ _ _) fun p hp => ?_
 rw [upF_rd _ _ _ _ hp, if_neg (fun h => by omega)]
theorem upF_go (far : List Int) (mv : List Bool) (t : Nat) (ht : t < far.length) (hm : rdOf false mv (t : Int) = true) : upF far mv (t + 1) = (upF far mv t).set t (rd far (t : Int) + 1) := by
 refine rd_ext (by rw [upF_len, List.length_set, upF_len]) fun p hp => ?_
 rw [List.length_set, upF_len] at hp
 have h1 := rd_set (upF far mv t) (t : Int) (p : Int) (rd far (t : Int) + 1) (by omega) (by rw [upF_len]; omega) (by omega)
 rw [Int.toNat_natCast] at h1
 rw [h1, upF_rd _ _ _ _ hp, upF_rd _ _ _ _ hp]
 by_cases e : p = t
 ·subst e
  rw [if_pos ⟨by omega, hm⟩, if_pos rfl]
 ·rw [if_neg (show ¬ (p : Int) = (t : Int) by omega)]
  refine ite_iff ?_
  constructor
  ·exact fun h2 => ⟨by omega, h2.2⟩
  ·exact fun h2 => ⟨by omega, h2.2⟩
theorem upF_stay (far : List Int) (mv : List Bool) (t : Nat) (ht : t < far.length) (hm : rdOf false mv (t : Int) = false) : upF far mv (t + 1) = upF far mv t := by
 refine rd_ext (by rw [upF_len, upF_len]) fun p hp => ?_
 rw [upF_len] at hp
 rw [upF_rd _ _ _ _ hp, upF_rd _ _ _ _ hp]
 by_cases e : p = t
 ·subst e
  rw [if_neg (by rw [hm]; simp), if_neg (by rw [hm]; simp)]
 ·refine ite_iff ?_
  constructor
  ·exact fun h2 => ⟨by omega, h2.2⟩
  ·exact fun h2 => ⟨by omega, h2.2⟩
theorem upF_at (far : List Int) (mv : List Bool) (t : Nat) (ht : t < far.length) : rd (upF far mv t) (t : Int) = rd far (t : Int) := by
 rw [upF_rd _ _ _ _ ht, if_neg (fun h => by omega)]
theorem upF_none (far : List Int) (mv : List Bool) (t : Nat) (hm : ∀ p : Nat, p < far.length → rdOf false mv (p : Int) = false) : upF far mv t = far := by
 refine rd_ext (upF_len _ _ _) fun p hp => ?_
 rw [upF_rd _ _ _ _ hp, if_neg (by rw [hm p hp]; simp)]
noncomputable def stStep (w h n d : Nat) (s : List Int × List Int × List Int) : List Int × List Int × List Int := (csN w h s.1 s.2.1 d, laN w h s.1 s.2.1 d, upF s.2.2 (mvAll w h s.1 s.2.1 n d) n)
noncomputable def stIt (w h n d : Nat) : Nat → List Int × List Int × List Int → List Int × List Int × List Int
 | 0, s => s
 | m + 1, s => stIt w h n d m (stStep w h n d s)
theorem mvAll_len (w h : Nat) (cs L : List Int) (n d : Nat) : (mvAll w h cs L n d).length = n := by
 unfold mvAll
 rw [List.length_map, List.length_range]
theorem mvAll_at (w h : Nat) (cs L : List Int) {n d p : Nat} (hp : p < n) : rdOf false (mvAll w h cs L n d) (p : Int) = decide (¬ bk w h cs L d p) := rdOf_map _ hp
structure TI (w h n : Nat) (s : List Int × List Int × List Int) (b : Nat) : Prop where
 si : SI w h s.1 s.2.1 n
 len : s.2.2.length = n
 small : ∀ p : Nat, p < n → 0 ≤ rd s.2.2 (p : Int) ∧ rd s.2.2 (p : Int) ≤ b
section
variable {w h : Nat} {n d : Nat} (hw : w ≤ 7) (hh : h ≤ 7) (hs : w * h ≤ 36) (hd : d < 4) (hn36 : n ≤ 36)
include hw hh hs hd hn36
theorem TI.next {s : List Int × List Int × List Int} {b : Nat} (hT : TI w h n s b) : TI w h n (stStep w h n d s) (b + 1) := by
 refine ⟨si_next hw hh hs hT.si hd, (upF_len _ _ _).trans hT.len, fun p hp => ?_⟩
 have h1 := hT.small p hp
 show 0 ≤ rd (upF s.2.2 _ n) (p : Int) ∧ rd (upF s.2.2 _ n) (p : Int) ≤ _
 rw [upF_rd _ _ _ _ (by rw [hT.len]; exact hp)]
 split <;> omega
theorem st_still {s : List Int × List Int × List Int} {b : Nat} (hT : TI w h n s b) (hb : ∀ p : Nat, p < n → bk w h s.1 s.2.1 d p) : ∀ m, stIt w h n d m s = s := by
 have h1 : stStep w h n d s = s := by
  obtain ⟨e1, e2⟩ := still_next hw hh hs hT.si hd hb;unfold stStep
  rw [e1, e2, upF_none _ _ _ fun p hp => by
   rw [hT.len] at hp
   rw [mvAll_at w h s.1 s.2.1 hp]
   exact decide_eq_false (by simpa using hb p hp)]
 intro m
 induction m with
 | zero => rfl
 | succ m ih =>
  show stIt w h n d m (stStep w h n d s) = s
  rw [h1]
  exact ih
theorem skt_l1 {far csx La : List Int} {mv : List Bool} {i : Int} {b : Nat} (hb : b ≤ 7) (hf : far.length = n) (hm : mv.length = n) (hsm : ∀ p : Nat, p < n → 0 ≤ rd far (p : Int) ∧ rd far (p : Int) ≤ b) (K : Int × Int × List Int × List Int) : ∀ (m t : Nat), t + m = n → Ev (fun k => spec_skTilt.l0 k d La n (upF far mv n) (wrap64 (i + 1)) w h csx) K → Ev (fun k => spec_skTilt.l1 k d n (upF far mv t) i La mv mv.length t w h csx) K
 | 0, t, ht, hK => by
  obtain rfl : t = n := by omega
  refine Ev.step hK fun k => ?_
  rw [spec_skTilt.l1, if_neg (by omega)]
 | m + 1, t, ht, hK => by
  have ih := skt_l1 hb hf hm hsm K m (t + 1) (by omega) hK
  have htn : t < n := by omega
  have h1 := hsm t htn
  refine Ev.step ih fun k => ?_
  rw [spec_skTilt.l1, if_pos (by omega), if_pos (by omega), if_pos (by omega), w64t t (by omega)]
  cases hq : rdOf false mv (t : Int) with
  | true => rw [if_pos rfl, if_pos (by rw [upF_len]; omega), upF_at _ _ _ (by omega), Int.toNat_natCast, w64 (by omega) (by omega), upF_go _ _ _ (by omega) hq]
  | false => rw [if_neg (by decide), upF_stay _ _ _ (by omega) hq]
theorem skt_l0 (hz : 0 < w * h) : ∀ (m i : Nat) (s : List Int × List Int × List Int), i + m = 7 → TI w h n s i → Ev (fun k => spec_skTilt.l0 k d s.2.1 n s.2.2 i w h s.1) (w, h, (stIt w h n d m s).1, (stIt w h n d m s).2.2)
 | 0, i, s, hi, hT => by
  refine Ev.step (Ev.const (o := some ((w : Int), (h : Int), s.1, s.2.2)) rfl) fun k => ?_
  rw [spec_skTilt.l0, if_neg (by omega)]
 | m + 1, i, s, hi, hT => by
  have ih := skt_l0 hz m (i + 1) (stStep w h n d s) (by omega) (hT.next hw hh hs hd hn36);have hmv := skMove_ev hw hh hs hT.si hd hn36 hz;have h1 := skt_l1 hw hh hs hd hn36 (far := s.2.2) (csx := csN w h s.1 s.2.1 d) (La := laN w h s.1 s.2.1 d) (mv := mvAll w h s.1 s.2.1 n d) (i := i) (b := i) (by omega) hT.len (mvAll_len _ _ _ _ _ _) hT.small _ n 0 (by omega) (by rw [w64t i (by omega)]; exact ih)
  rw [upF_zero] at h1
  refine Ev.step (Ev.bind (f := fun k (bt110 : Int × Int × List Int × List Int × List Bool) => spec_skTilt.l1 k d n s.2.2 i bt110.2.2.2.1 bt110.2.2.2.2 (bt110.2.2.2.2.length : Int) 0 bt110.1 bt110.2.1 bt110.2.2.1) hmv h1) fun k => ?_
  rw [spec_skTilt.l0, if_pos (by omega)]
theorem skp_l1 {far csx : List Int} {P P' : List (List Int)} {st mv : List Bool} {b : Nat} (hb : b ≤ 7) (hf : far.length = n) (hP : P.length = n) (hst : st.length = n) (hmv : ∀ p : Nat, p < n → rdOf false mv (p : Int) = !rdOf false st (p : Int)) (hsm : ∀ p : Nat, p < n → 0 ≤ rd far (p : Int) ∧ rd far (p : Int) ≤ b) (K : Int × Int × List Int × List Int) : ∀ (m t : Nat), t + m = n → Ev (fun k => impl_tray_stuck.l0 k (dirC d) P' (upF far mv n) w h csx) K → Ev (fun k => impl_tray_stuck.l1 k (dirC d) (upF far mv t) st P' P.length t w h csx) K
 | 0, t, ht, hK => by
  obtain rfl : t = n := by omega
  refine Ev.step hK fun k => ?_
  rw [impl_tray_stuck.l1, if_neg (by omega)]
 | m + 1, t, ht, hK => by
  have ih := skp_l1 hb hf hP hst hmv hsm K m (t + 1) (by omega) hK
  have htn : t < n := by omega
  have h1 := hsm t htn;have h2 := hmv t htn
  refine Ev.step ih fun k => ?_
  rw [impl_tray_stuck.l1, if_pos (by omega), if_pos (by omega), if_pos (by rw [upF_len]; omega), if_pos (by omega), w64t t (by omega), upF_at _ _ _ (by omega), Int.toNat_natCast, ← h2]
  cases hq : rdOf false mv (t : Int) with
  | true =>
   rw [show impl_bit.f true = some 1 from rfl, Option.bind_some, w64 (by omega) (by omega), upF_go _ _ _ (by omega) hq]
  | false =>
   rw [show impl_bit.f false = some 0 from rfl, Option.bind_some, w64 (by omega) (by omega), upF_stay _ _ _ (by omega) hq]
   congr 1
   refine rd_ext (by rw [List.length_set]) fun p hp => ?_
   have h3 := rd_set (upF far mv t) (t : Int) (p : Int) (rd far (t : Int) + 0) (by omega) (by rw [upF_len]; omega) (by omega)
   rw [Int.toNat_natCast] at h3
   rw [h3]
   split
   ·rename_i e
    obtain rfl : p = t := by omega
    rw [upF_at _ _ _ (by omega)]
    omega
   ·rfl
theorem skp_l0 (hz : 0 < w * h) : ∀ (m b : Nat) (s : List Int × List Int × List Int) (P : List (List Int)), b + m = 7 → TI w h n s b → PM w h s.2.1 n P → Room w h s.1 s.2.1 n d m → Ev (fun k => impl_tray_stuck.l0 k (dirC d) P s.2.2 w h s.1) (w, h, (stIt w h n d m s).1, (stIt w h n d m s).2.2)
 | m, b, s, P, hbm, hT, hP, hR => by
  have h1 := blocked_pm hw hh hs hT.si hd hn36 hP;have h2 := stuckStep_eq hw hh hs hT.si hd hn36 hz hP
  by_cases ha : ∃ p : Nat, p < n ∧ ¬ bk w h s.1 s.2.1 d p
  ·have ham : anyM w h s.1 s.2.1 n d = true := decide_eq_true ha
   obtain ⟨m, rfl⟩ : ∃ m', m = m' + 1 := by
    refine ⟨m - 1, ?_⟩
    obtain ⟨p, hp, hb⟩ := ha;obtain ⟨i, _, _, hl⟩ := hR p hp hb
    omega
   have hpn := pm_next hw hh hs hT.si hd hn36 hP;have ih := skp_l0 hz m (b + 1) (stStep w h n d s) _ (by omega) (hT.next hw hh hs hd hn36) hpn (room_next hw hh hs hT.si hd hR)
   have h3 := skp_l1 hw hh hs hd hn36 (far := s.2.2) (csx := csN w h s.1 s.2.1 d) (P := P) (P' := P.map fun q => q.map (yv w h s.1 s.2.1 d)) (st := stL w h s.1 s.2.1 n d) (mv := mvAll w h s.1 s.2.1 n d) (b := b) (by omega) hT.len hP.len (stL_len _ _ _ _ _ _) (fun p hp => by
    rw [mvAll_at w h s.1 s.2.1 hp, stL_at w h s.1 s.2.1 hp, decide_not]) hT.small _ n 0 (by omega) ih
   rw [upF_zero] at h3
   refine Ev.step h3 fun k => ?_
   rw [impl_tray_stuck.l0, h1, Option.bind_some, h2, Option.bind_some, if_pos ham]
   rfl
  ·have ham : anyM w h s.1 s.2.1 n d = false := decide_eq_false ha
   rw [st_still hw hh hs hd hn36 hT fun p hp => by
    apply Classical.byContradiction
    intro h3
    exact ha ⟨p, hp, h3⟩]
   refine Ev.step (Ev.const (o := some ((w : Int), (h : Int), s.1, s.2.2)) rfl) fun k => ?_
   have hcs : csN w h s.1 s.2.1 d = s.1 := (still_next hw hh hs hT.si hd fun p hp => by
    apply Classical.byContradiction
    intro h3
    exact ha ⟨p, hp, h3⟩).1
   rw [impl_tray_stuck.l0, h1, Option.bind_some, h2, Option.bind_some, if_neg (show ¬ anyM w h s.1 s.2.1 n d = true by rw [ham]; decide)]
end
structure Tilts (w h : Nat) (cs : List Int) (d : Nat) (R : List Int × List Int) : Prop where
 spec : Ev (fun k => spec_skTilt.f k w h cs d) (w, h, R.1, R.2)
 impl : Ev (fun k => impl_tray_stuck.f k w h cs (dirC d)) (w, h, R.1, R.2)
 len : R.1.length = w * h
 far : R.2.length ≤ 36
theorem it_ti {w h n d : Nat} (hw : w ≤ 7) (hh : h ≤ 7) (hs : w * h ≤ 36) (hd : d < 4) (hn36 : n ≤ 36) : ∀ (m b : Nat) (s : List Int × List Int × List Int), TI w h n s b → TI w h n (stIt w h n d m s) (b + m)
 | 0, _, _, hT => hT
 | m + 1, b, s, hT => by
  have := it_ti hw hh hs hd hn36 m (b + 1) _ (hT.next hw hh hs hd hn36 (d := d))
  rw [show b + (m + 1) = b + 1 + m by omega]
  exact this
theorem tilts {w h : Nat} {cs : List Int} (hw : w ≤ 7) (hh : h ≤ 7) (hs : w * h ≤ 36) (hn : cs.length = w * h) (hz : 0 < w * h) {d : Nat} (hd : d < 4) : ∃ R, Tilts w h cs d R := by
 obtain ⟨L, ho, hp⟩ := pieces_ev hw hh hs hn;have hml := Nat.le_trans (mins_len w h cs (w * h)) hs;have hsi := si_start hw hh hs hn ho;have hpm := pm_start hw hh hs hn ho;generalize hnn : (mins w h cs (w * h)).length = n at hp hml hsi hpm
 have hT : TI w h n (cs, L, List.replicate n 0) 0 := ⟨hsi, by simp, fun p hp => by
  show 0 ≤ rd (List.replicate n 0) (p : Int) ∧ rd (List.replicate n 0) (p : Int) ≤ _
  rw [rd_nat _ p (by simpa using hp), List.getElem_replicate]
  omega⟩
 have e1 := skt_l0 hw hh hs hd hml hz 7 0 _ (by omega) hT;have e2 := skp_l0 hw hh hs hd hml hz 7 0 _ (parts w h cs (w * h)) (by omega) hT hpm (room_start hw hh hs hsi hd);have e3 := it_ti hw hh hs hd hml 7 0 _ hT;generalize stIt w h n d 7 (cs, L, List.replicate n 0) = s7 at e1 e2 e3
 refine ⟨(s7.1, s7.2.2), ?_, ?_, e3.si.lc, by rw [e3.len]; exact hml⟩
 ·refine Ev.bind (f := fun k (bt103 : List Int × Int) => (if 0 ≤ bt103.2 then (if (bt103.2 : Int).toNat ≤ 35184372088832 then (spec_skTilt.l0 k d bt103.1 bt103.2 (List.replicate (bt103.2 : Int).toNat 0) 0 w h cs) else (none)) else (none))) hp ?_
  refine Ev.congr e1 fun k => ?_
  show (if 0 ≤ (n : Int) then _ else _ : Option (Int × Int × List Int × List Int)) = _
  rw [if_pos (by omega), if_pos (by omega), Int.toNat_natCast]
  rfl
 ·refine Ev.bind (f := fun k (t103 : List (List Int)) => (if 0 ≤ (t103.length : Int) then (if ((t103.length : Int) : Int).toNat ≤ 35184372088832 then (impl_tray_stuck.l0 k (dirC d) t103 (List.replicate ((t103.length : Int) : Int).toNat 0) w h cs) else (none)) else (none))) (parts_ev hw hh hs hn) ?_
  refine Ev.congr e2 fun k => ?_
  rw [hpm.len, if_pos (by omega), if_pos (by omega), Int.toNat_natCast]
end Go.Proofs.YtkjlfgceodindaaDoor.Q
end
section
namespace Go.Proofs.YtkjlfgceodindaaDoor.Q
set_option linter.unusedSectionVars false
open Go.RowKit Go.Proofs.YtkjlfgceodindaaDoorW.PrintWords Go.Proofs.YtkjlfgceodindaaDoorW.PrintLast Go.Proofs.YtkjlfgceodindaaDoorW.PrintMore
def isD (b : UInt8) : Bool := ([117, 114, 100, 108] : List UInt8).contains b
def dirN (b : UInt8) : Nat := if b = 117 then 0 else if b = 114 then 1 else if b = 100 then 2 else 3
def wordL (l : List UInt8) : Bool := decide (l.length ≤ 40) && l.all isD
def wordB (s : ByteArray) : Bool := wordL s.data.toList
theorem isD_cases {b : UInt8} (h : isD b = true) : b = 117 ∨ b = 114 ∨ b = 100 ∨ b = 108 := by
 unfold isD at h
 simpa using h
theorem dirN_lt (b : UInt8) : dirN b < 4 := by
 unfold dirN
 split
 ·omega
 ·split
  ·omega
  ·split <;> omega
theorem dirN_C {b : UInt8} (h : isD b = true) : (117 ≤ 117) ∧ ([117, 114, 100, 108] : List Int).getD (dirN b) 0 = (b.toNat : Int) := by
 rcases isD_cases h with rfl | rfl | rfl | rfl <;> decide
theorem bytes_rd (s : ByteArray) (t : Nat) (h : t < s.data.toList.length) : rd (bytesOf s) (t : Int) = (s.data.toList[t].toNat : Int) := by
 unfold rd bytesOf
 rw [Int.toNat_natCast, List.getD_eq_getElem?_getD, List.getElem?_map, List.getElem?_eq_getElem h]
 rfl
theorem wordB_parts {s : ByteArray} (h : wordB s = true) : s.size ≤ 40 ∧ ∀ (t : Nat) (ht : t < s.data.toList.length), isD s.data.toList[t] = true := by
 unfold wordB wordL at h
 rw [Bool.and_eq_true, decide_eq_true_eq, List.all_eq_true, data_length] at h
 exact ⟨h.1, fun t ht => h.2 _ (List.getElem_mem ht)⟩
theorem wordB_lt {s : ByteArray} : ∀ d ∈ s.data.toList.map dirN, d < 4 := by
 intro d hd;obtain ⟨b, _, rfl⟩ := List.mem_map.1 hd
 exact dirN_lt b
end Go.Proofs.YtkjlfgceodindaaDoor.Q
end
section
namespace Go.Proofs.YtkjlfgceodindaaDoor.Q
open Go.RowKit Go.Proofs.YtkjlfgceodindaaDoorW.PrintWords Go.Proofs.YtkjlfgceodindaaDoorW.PrintLast Go.Proofs.YtkjlfgceodindaaDoorW.PrintMore
set_option linter.unusedSectionVars false
open Classical
noncomputable def skR (w h : Nat) (cs : List Int) (d : Nat) : List Int × List Int := if hx : ∃ R, Tilts w h cs d R then Classical.choose hx else ([], [])
noncomputable def runR (w h : Nat) : List Nat → List Int → List Int
 | [], cs => cs
 | d :: l, cs => runR w h l (skR w h cs d).1
section
variable {w h : Nat} (hw : w ≤ 7) (hh : h ≤ 7) (hs : w * h ≤ 36) (hz : 0 < w * h)
include hw hh hs hz
theorem skR_ok {cs : List Int} (hn : cs.length = w * h) {d : Nat} (hd : d < 4) : Tilts w h cs d (skR w h cs d) := by
 have hx := tilts hw hh hs hn hz hd;unfold skR
 rw [dif_pos hx]
 exact Classical.choose_spec hx
theorem runR_len : ∀ (l : List Nat) (cs : List Int), (∀ d ∈ l, d < 4) → cs.length = w * h → (runR w h l cs).length = w * h
 | [], _, _, hn => hn
 | d :: l, cs, hl, hn => runR_len l _ (fun x hx => hl x (List.mem_cons_of_mem _ hx)) (skR_ok hw hh hs hz hn (hl d List.mem_cons_self)).len
theorem stuckAll_l0 (s : ByteArray) (hb : s.size ≤ 40 ∧ ∀ (t : Nat) (ht : t < s.data.toList.length), isD s.data.toList[t] = true) : ∀ (m t : Nat) (cs : List Int), t + m = s.size → cs.length = w * h → Ev (fun k => impl_tray_stuckAll.l0 k (bytesOf s) (bytesOf s).length t w h cs) (w, h, runR w h ((s.data.toList.drop t).map dirN) cs)
 | 0, t, cs, ht, hn => by
  have hl := data_length s;have hbl := bytesOf_length s
  rw [List.drop_eq_nil_of_le (by omega)]
  refine Ev.step (Ev.const (o := some ((w : Int), (h : Int), cs)) rfl) fun k => ?_
  rw [impl_tray_stuckAll.l0, if_neg (by omega)]
 | m + 1, t, cs, ht, hn => by
  have hl := data_length s;have hbl := bytesOf_length s
  have htl : t < s.data.toList.length := by omega
  have hwt : wrap64 ((t : Int) + 1) = ((t + 1 : Nat) : Int) := by have := hb.1; rw [w64 (by omega) (by omega)]; omega
  have hd := hb.2 t htl;have hT := skR_ok hw hh hs hz hn (dirN_lt s.data.toList[t]);have ih := stuckAll_l0 s hb m (t + 1) (skR w h cs (dirN s.data.toList[t])).1 (by omega) hT.len
  rw [List.drop_eq_getElem_cons htl, List.map_cons]
  refine Ev.step (Ev.bind (f := fun k (bt107 : Int × Int × List Int × List Int) => (impl_tray_stuckAll.l0 k (bytesOf s) (bytesOf s).length ((t + 1 : Nat) : Int) bt107.1 bt107.2.1 bt107.2.2.1)) hT.impl ih) fun k => ?_
  rw [impl_tray_stuckAll.l0, if_pos (by omega), if_pos (by omega), if_pos (by omega), hwt, bytes_rd s t htl, ← (dirN_C hd).2]
  rfl
theorem stuckAll_ev {s : ByteArray} (hb : wordB s = true) {cs : List Int} (hn : cs.length = w * h) : Ev (fun k => impl_tray_stuckAll.f k w h cs s) (w, h, runR w h (s.data.toList.map dirN) cs) := by
 have h1 := stuckAll_l0 hw hh hs hz s (wordB_parts hb) s.size 0 cs (by omega) hn
 rw [List.drop_zero] at h1
 refine Ev.congr h1 fun k => ?_
 unfold impl_tray_stuckAll.f convB.f
 rw [if_pos (by have := (wordB_parts hb).1; omega), Option.bind_some]
 rfl
end
end Go.Proofs.YtkjlfgceodindaaDoor.Q
end
section
namespace Go.Proofs.YtkjlfgceodindaaDoor.Q
set_option linter.unusedSectionVars false
open Go.RowKit Go.Proofs.YtkjlfgceodindaaDoorW.PrintWords Go.Proofs.YtkjlfgceodindaaDoorW.PrintLast Go.Proofs.YtkjlfgceodindaaDoorW.PrintMore
open Classical
theorem count_one (c : Int) : ∀ l : List Int, (∀ i j : Nat, l[i]? = some c → l[j]? = some c → i = j) → l.count c ≤ 1
 | [], _ => Nat.zero_le _
 | a :: l, h => by
  by_cases e : a = c
  ·subst e
   have h0 : l.count a = 0 := List.count_eq_zero.2 fun hm => by
    obtain ⟨j, hj⟩ := List.getElem?_of_mem hm;have := h 0 (j + 1) rfl hj
    omega
   rw [List.count_cons_self, h0]
   exact Nat.le_refl _
  ·rw [List.count_cons_of_ne e]
   exact count_one c l fun i j hi hj => by have := h (i + 1) (j + 1) hi hj; omega
theorem one_count (c : Int) : ∀ l : List Int, l.count c ≤ 1 → ∀ i j : Nat, l[i]? = some c → l[j]? = some c → i = j
 | [], _, i, j, hi, _ => by simp at hi
 | a :: l, h, i, j, hi, hj => by
  by_cases e : a = c
  ·subst e
   rw [List.count_cons_self] at h
   have h0 : ∀ q : Nat, l[q]? ≠ some a := fun q hq => by
    have := List.count_pos_iff.2 (List.mem_of_getElem? hq)
    omega
   cases i with
   | zero =>
    cases j with
    | zero => rfl
    | succ j => exact absurd hj (h0 j)
   | succ i => exact absurd hi (h0 i)
  ·rw [List.count_cons_of_ne e] at h
   cases i with
   | zero => exact absurd (Option.some.inj hi) e
   | succ i =>
    cases j with
    | zero => exact absurd (Option.some.inj hj) e
    | succ j => rw [one_count c l h i j hi hj]
theorem rd_some {cs : List Int} {i : Nat} (hi : i < cs.length) : cs[i]? = some (rd cs (i : Int)) := by
 rw [rd_nat cs i hi, List.getElem?_eq_getElem hi]
section
variable {w h : Nat} {cs L : List Int} {n d : Nat} (hw : w ≤ 7) (hh : h ≤ 7) (hs : w * h ≤ 36) (hI : SI w h cs L n) (hd : d < 4)
include hw hh hs hI hd
theorem csN_at {a : Nat} (ha : a < w * h) : (∃ i : Nat, i < w * h ∧ 0 ≤ rd L (i : Int) ∧ yC w h cs L d i = a ∧ rd (csN w h cs L d) (a : Int) = rd cs (i : Int)) ∨ rd (csN w h cs L d) (a : Int) = 46 ∨ (isB (rd cs (a : Int)) = false ∧ rd (csN w h cs L d) (a : Int) = rd cs (a : Int)) := by
 rcases hit_or hw hh hs hI hd a with ⟨i, hi, hl, hy⟩ | hx
 ·left
  refine ⟨i, hi, hl, hy, ?_⟩
  rw [← hy]
  exact (at_hit hw hh hs hI hd hi hl).1
 ·right
  have h1 := (at_off hw hh hs hI hd ha hx).1
  have hal : a < cs.length := by rw [hI.lc]; exact ha
  have h2 : rd (emptyC cs) (a : Int) = if isB (rd cs (a : Int)) = true then 46 else rd cs (a : Int) := by
   unfold emptyC
   rw [rd_nat _ a (by rw [List.length_map]; exact hal), List.getElem_map, rd_nat cs a hal]
  rw [h1, h2]
  by_cases hb : isB (rd cs (a : Int)) = true
  ·rw [if_pos hb]
   exact .inl rfl
  ·rw [if_neg hb]
   exact .inr ⟨by simpa using hb, rfl⟩
theorem csN_good (hc : cellsOK cs) (hk : namedOK cs) : cellsOK (csN w h cs L d) ∧ namedOK (csN w h cs L d) := by
 have hlen : (csN w h cs L d).length = w * h := (laid_len _ _ _ _).trans hI.lc
 constructor
 ·intro c hm
  obtain ⟨a, ha⟩ := List.getElem?_of_mem hm;have hal := (List.getElem?_eq_some_iff.1 ha).1
  rw [rd_some hal] at ha
  have e := Option.some.inj ha
  have key : ∀ i : Nat, i < w * h → ∃ b : UInt8, rd cs (i : Int) = (b.toNat : Int) ∧ isCellB b = true := fun i hi => by
   have hil : i < cs.length := by rw [hI.lc]; exact hi
   exact hc _ (List.mem_of_getElem? (rd_some hil))
  rw [← e]
  rcases csN_at hw hh hs hI hd (a := a) (by omega) with ⟨i, hi, _, _, h1⟩ | h1 | ⟨_, h1⟩
  ·rw [h1]
   exact key i hi
  ·rw [h1]
   exact ⟨46, rfl, by decide⟩
  ·rw [h1]
   exact key a (by omega)
 ·intro c h97 h102
  refine count_one c _ fun a b ha hb => ?_
  have hal := (List.getElem?_eq_some_iff.1 ha).1;have hbl := (List.getElem?_eq_some_iff.1 hb).1
  rw [rd_some hal] at ha
  rw [rd_some hbl] at hb
  have ea := Option.some.inj ha;have eb := Option.some.inj hb
  have hB : isB c = true := by
   unfold isB
   exact decide_eq_true (.inr ⟨h97, h102⟩)
  have key : ∀ a : Nat, a < w * h → rd (csN w h cs L d) (a : Int) = c → ∃ i : Nat, i < w * h ∧ yC w h cs L d i = a ∧ rd cs (i : Int) = c := fun a ha e => by
   rcases csN_at hw hh hs hI hd (a := a) ha with ⟨i, hi, _, hy, h1⟩ | h1 | ⟨hf, h1⟩
   ·exact ⟨i, hi, hy, by rw [← h1]; exact e⟩
   ·rw [h1] at e
    omega
   ·rw [h1] at e
    rw [e, hB] at hf
    cases hf
  obtain ⟨i, hi, hyi, hci⟩ := key a (by omega) ea;obtain ⟨j, hj, hyj, hcj⟩ := key b (by omega) eb;have hij := one_count c cs (hk c h97 h102) i j (by rw [rd_some (by rw [hI.lc]; exact hi), hci]) (by rw [rd_some (by rw [hI.lc]; exact hj), hcj]);subst hij
  rw [hyi] at hyj
  omega
end
theorem it_good {w h n d : Nat} (hw : w ≤ 7) (hh : h ≤ 7) (hs : w * h ≤ 36) (hd : d < 4) (hn36 : n ≤ 36) : ∀ (m b : Nat) (s : List Int × List Int × List Int), TI w h n s b → cellsOK s.1 → namedOK s.1 → cellsOK (stIt w h n d m s).1 ∧ namedOK (stIt w h n d m s).1
 | 0, _, _, _, h1, h2 => ⟨h1, h2⟩
 | m + 1, b, s, hT, h1, h2 => by
  have hg := csN_good hw hh hs hT.si hd h1 h2
  exact it_good hw hh hs hd hn36 m (b + 1) _ (hT.next hw hh hs hd hn36 (d := d)) hg.1 hg.2
theorem tilts_good {w h : Nat} {cs : List Int} (hw : w ≤ 7) (hh : h ≤ 7) (hs : w * h ≤ 36) (hn : cs.length = w * h) (hz : 0 < w * h) {d : Nat} (hd : d < 4) (hc : cellsOK cs) (hk : namedOK cs) : ∃ R : List Int × List Int, Ev (fun k => spec_skTilt.f k w h cs d) (w, h, R.1, R.2) ∧ cellsOK R.1 ∧ namedOK R.1 := by
 obtain ⟨L, ho, hp⟩ := pieces_ev hw hh hs hn;have hml := Nat.le_trans (mins_len w h cs (w * h)) hs;have hsi := si_start hw hh hs hn ho;generalize hnn : (mins w h cs (w * h)).length = n at hp hml hsi
 have hT : TI w h n (cs, L, List.replicate n 0) 0 := ⟨hsi, by simp, fun p hp => by
  show 0 ≤ rd (List.replicate n 0) (p : Int) ∧ rd (List.replicate n 0) (p : Int) ≤ _
  rw [rd_nat _ p (by simpa using hp), List.getElem_replicate]
  omega⟩
 have e1 := skt_l0 hw hh hs hd hml hz 7 0 _ (by omega) hT;have e3 := it_good hw hh hs hd hml 7 0 _ hT hc hk;generalize stIt w h n d 7 (cs, L, List.replicate n 0) = s7 at e1 e3
 refine ⟨(s7.1, s7.2.2), ?_, e3⟩
 refine Ev.bind (f := fun k (bt103 : List Int × Int) => (if 0 ≤ bt103.2 then (if (bt103.2 : Int).toNat ≤ 35184372088832 then (spec_skTilt.l0 k d bt103.1 bt103.2 (List.replicate (bt103.2 : Int).toNat 0) 0 w h cs) else (none)) else (none))) hp ?_
 refine Ev.congr e1 fun k => ?_
 show (if 0 ≤ (n : Int) then _ else _ : Option (Int × Int × List Int × List Int)) = _
 rw [if_pos (by omega), if_pos (by omega), Int.toNat_natCast]
 rfl
theorem Ev.uniq {α : Type} {g : Nat → Option α} {a b : α} (h1 : Ev g a) (h2 : Ev g b) : a = b := by
 obtain ⟨k1, h1⟩ := h1;obtain ⟨k2, h2⟩ := h2;have e1 := h1 (max k1 k2) (by omega)
 rw [h2 (max k1 k2) (by omega)] at e1
 exact (Option.some.inj e1).symm
theorem skR_good {w h : Nat} {cs : List Int} (hw : w ≤ 7) (hh : h ≤ 7) (hs : w * h ≤ 36) (hn : cs.length = w * h) (hz : 0 < w * h) {d : Nat} (hd : d < 4) (hc : cellsOK cs) (hk : namedOK cs) : cellsOK (skR w h cs d).1 ∧ namedOK (skR w h cs d).1 := by
 obtain ⟨R, h1, h2⟩ := tilts_good hw hh hs hn hz hd hc hk;have h3 := Ev.uniq h1 (skR_ok hw hh hs hz hn hd).spec;have h4 : R.1 = (skR w h cs d).1 := congrArg (fun z => z.2.2.1) h3
 rw [← h4]
 exact h2
end Go.Proofs.YtkjlfgceodindaaDoor.Q
end
section
namespace Go.Proofs.YtkjlfgceodindaaDoor.Q
set_option linter.unusedSectionVars false
open Go.RowKit Go.Proofs.YtkjlfgceodindaaDoorW.PrintWords Go.Proofs.YtkjlfgceodindaaDoorW.PrintLast Go.Proofs.YtkjlfgceodindaaDoorW.PrintMore
open Classical
def goodG (w h : Nat) (cs : List Int) : Prop := cs.length = w * h ∧ cellsOK cs ∧ namedOK cs
noncomputable def numC (w h : Nat) (cs : List Int) : Nat := (mins w h cs (w * h)).length
noncomputable def skT (w h : Nat) (d : Nat) (c : List Int) : List Int := (skR w h c d).1
noncomputable def firstW (w h : Nat) (cs : List Int) : Option (List Nat) := (WD.allw 5).find? fun u => decide (numC w h (WD.run (skT w h) cs u) ≤ 1)
noncomputable def WordToOneR (t : ByteArray) : ByteArray × Bool := match trayOf t with
 | none => (⟨#[]⟩, false)
 | some (w, h, cs) => WD.outS (firstW w.toNat h.toNat cs)
theorem t_named {t : ByteArray} {w h : Int} {cs : List Int} (ht : trayOf t = some (w, h, cs)) : namedOK cs := by
 unfold trayOf trayRows at ht
 split at ht
 case isFalse => cases ht
 rename_i hk
 have hc : ints (rows 47 t.data.toList).flatten = cs := congrArg (fun z => z.2.2) (Option.some.inj ht)
 rw [← hc]
 exact hk.2.2
theorem let_dir : ∀ d : Fin 4, dirN (UInt8.ofNat (dirC d.val).toNat) = d.val ∧ isD (UInt8.ofNat (dirC d.val).toNat) = true := by decide
theorem word_dirs : ∀ (u : List Nat), WD.okw u → (WD.wordS u).data.toList.map dirN = u ∧ (WD.wordS u).data.toList.all isD = true
 | [], _ => ⟨rfl, rfl⟩
 | d :: u, ho => by
  obtain ⟨h1, h2⟩ := word_dirs u fun x hx => ho x (by simp [hx])
  have h3 : dirN (UInt8.ofNat (dirC d).toNat) = d := (let_dir ⟨d, ho d (by simp)⟩).1;have h4 : isD (UInt8.ofNat (dirC d).toNat) = true := (let_dir ⟨d, ho d (by simp)⟩).2;have e : (WD.wordS (d :: u)).data.toList = UInt8.ofNat (dirC d).toNat :: (WD.wordS u).data.toList := rfl
  rw [e, List.map_cons, List.all_cons, h1, h2, h3, h4]
  exact ⟨rfl, rfl⟩
theorem word_B (u : List Nat) (ho : WD.okw u) (hl : u.length ≤ 5) : wordB (WD.wordS u) = true := by
 obtain ⟨h1, h2⟩ := word_dirs u ho
 have h3 : (WD.wordS u).data.toList.length = u.length := by
  have := congrArg List.length h1
  rwa [List.length_map] at this
 unfold wordB wordL
 rw [h2, Bool.and_true, decide_eq_true_eq]
 omega
theorem run_runR (w h : Nat) : ∀ (u : List Nat) (cs : List Int), WD.run (skT w h) cs u = runR w h u cs
 | [], _ => rfl
 | d :: u, cs => run_runR w h u (skR w h cs d).1
theorem ev_all {α : Type} (f : Nat → α → Option Bool) (P : α → Bool) : ∀ l : List α, (∀ u ∈ l, Ev (fun k => f k u) (P u)) → ∃ K, ∀ k, K ≤ k → ∀ u ∈ l, f k u = some (P u)
 | [], _ => ⟨0, fun _ _ u hu => by cases hu⟩
 | a :: l, h => by
  obtain ⟨K1, h1⟩ := ev_all f P l fun u hu => h u (by simp [hu])
  obtain ⟨K2, h2⟩ := h a (by simp)
  refine ⟨max K1 K2, fun k hk u hu => ?_⟩
  rcases List.mem_cons.1 hu with e | hu
  ·subst e
   exact h2 k (by omega)
  ·exact h1 k (by omega) u hu
theorem out_eq : ∀ r : Option (List Nat), outW (r.map WD.wordS) = WD.outS r
 | none => rfl
 | some _ => rfl
section
variable {w h : Nat} (hw1 : 1 ≤ w) (hw : w ≤ 7) (hh1 : 1 ≤ h) (hh : h ≤ 7) (hs : w * h ≤ 36) (hz : 0 < w * h)
include hw1 hw hh1 hh hs hz
theorem skR_se : WD.Se w h (skT w h) (goodG w h) where
 tilt cs d hd hc := ⟨_, (skR_ok hw hh hs hz hc.1 hd).spec⟩
 keep cs d hd hc := ⟨(skR_ok hw hh hs hz hc.1 hd).len, skR_good hw hh hs hc.1 hz hd hc.2.1 hc.2.2⟩
 text cs hc := tyText_ev (w := w) (h := h) (cs := cs) hw1 hh1 hs hc.1
 read cs hc := by
  have h1 := tyRead_ev (tx cs w h)
  rw [trayOf_tx hw1 hw hh1 hh hs hc.1 hc.2.1 hc.2.2] at h1
  exact h1
 inj cs cs' hc hc' e := (tx_same hw1 hw hh1 hh hs (trayOf_tx hw1 hw hh1 hh hs hc'.1 hc'.2.1 hc'.2.2) hc.2.1 hc.1).1 e
theorem oneP_ev {t : ByteArray} {cs : List Int} (ht : trayOf t = some ((w : Int), (h : Int), cs)) (hn : cs.length = w * h) (u : List Nat) (ho : WD.okw u) (hl : u.length ≤ 5) : Ev (fun k => oneP k t (WD.wordS u)) (decide (numC w h (WD.run (skT w h) cs u) ≤ 1)) := by
 have hb := word_B u ho hl;have hrun := stuckAll_ev hw hh hs hz hb hn;have hrl := runR_len hw hh hs hz _ _ (wordB_lt (s := WD.wordS u)) hn
 rw [(word_dirs u ho).1] at hrun hrl
 rw [run_runR]
 have hp := parts_ev hw hh hs hrl
 have hpl : (parts w h (runR w h u cs) (w * h)).length = numC w h (runR w h u cs) := by
  unfold parts numC
  rw [List.length_map]
 refine Ev.congr (Ev.bind (f := fun k (s : Int × Int × List Int) => (impl_tray_pieces.f k s.1 s.2.1 s.2.2).bind fun ps => some (decide ((ps.length : Int) ≤ 1))) hrun (Ev.bind (f := fun _ ps => some (decide ((ps.length : Int) ≤ 1))) hp (Ev.const ?_))) fun k => by
  unfold oneP
  rw [tray_read ht, Option.bind_some]
 rw [hpl]
 congr 1
 exact decide_eq_decide.2 (by omega)
theorem oneW_ev {t : ByteArray} {cs : List Int} (ht : trayOf t = some ((w : Int), (h : Int), cs)) (hn : cs.length = w * h) : Ev (fun k => wLev (oneP k t) 6 [⟨#[]⟩]) ((firstW w h cs).map WD.wordS) := by
 obtain ⟨K, hK⟩ := ev_all (fun k u => oneP k t (WD.wordS u)) (fun u => decide (numC w h (WD.run (skT w h) cs u) ≤ 1)) (WD.allw 5) fun u hu => by
  obtain ⟨h1, h2⟩ := WD.mem_allw.1 hu
  exact oneP_ev hw1 hw hh1 hh hs hz ht hn u h2 h1
 exact ⟨K, fun k hk => WD.words_find (oneP k t) _ fun u ho hl => hK k hk u (WD.mem_allw.2 ⟨hl, ho⟩)⟩
end
theorem specWordToOne_ev (t : ByteArray) : Ev (fun k => spec_WordToOne.f k t) (WordToOneR t) := by
 refine Ev.bind (f := fun k (bt101 : Int × Int × List Int × Bool) => (if bt101.2.2.2 = true then ((spec_skSearch.f k bt101.1 bt101.2.1 bt101.2.2.1 5).bind fun bt108 => (spec_WordToOne.l0 k bt108.1 (bt108.1.length : Int) 0 bt108.1 bt108.2)) else (some ((⟨#[]⟩ : ByteArray), false)))) (tyRead_ev t) ?_
 unfold WordToOneR
 rcases ht : trayOf t with _ | ⟨w, h, cs⟩
 ·exact Ev.congr (Ev.const (o := some ((⟨#[]⟩ : ByteArray), false)) rfl) fun k => if_neg Bool.false_ne_true
 ·have hnm := t_named ht
  obtain ⟨w, h, cs, e, hw1, hw, hh1, hh, hs, hn⟩ := tray_parts ht
  injection e with e1 e2
  injection e2 with e2 e3
  subst e1 e2 e3;have hz : 0 < w * h := Nat.mul_pos hw1 hh1;have hS := skR_se hw1 hw hh1 hh hs hz
  show Ev _ (WD.outS (firstW (w : Int).toNat (h : Int).toNat cs))
  simp only [Int.toNat_natCast]
  refine Ev.congr (WD.se_word hS (numC w h) (fun c hc => ?_) (t := cs) ⟨hn, (tray_own ht).1, hnm⟩) fun k => if_pos rfl
  obtain ⟨L, _, hp⟩ := pieces_ev hw hh hs hc.1
  exact ⟨L, hp⟩
theorem implWordToOne_ev (t : ByteArray) (ht0 : t.size ≤ 1048576) : Ev (fun k => impl_WordToOne.f k t) (WordToOneR t) := by
 refine Ev.bind (f := fun k (b : Bool) => if b = true then (wLev (oneP k t) 6 [⟨#[]⟩]).bind fun r => some (outW r) else some (⟨#[]⟩, false)) (isTray_ev t ht0) ?_
 unfold WordToOneR
 rcases ht : trayOf t with _ | ⟨w, h, cs⟩
 ·exact Ev.congr (Ev.const (o := some ((⟨#[]⟩ : ByteArray), false)) rfl) fun k => if_neg (by simp)
 ·skip
  obtain ⟨w, h, cs, e, hw1, hw, hh1, hh, hs, hn⟩ := tray_parts ht
  injection e with e1 e2
  injection e2 with e2 e3
  subst e1 e2 e3;have hz : 0 < w * h := Nat.mul_pos hw1 hh1
  show Ev _ (WD.outS (firstW (w : Int).toNat (h : Int).toNat cs))
  simp only [Int.toNat_natCast]
  refine Ev.congr (Ev.bind (f := fun _ r => some (outW r)) (oneW_ev hw1 hw hh1 hh hs hz ht hn) (Ev.const ?_)) fun k => if_pos rfl
  rw [out_eq]
theorem lawWordToOne_ev (t : ByteArray) : Ev (fun k => laws_FnExactWordToOne.f k t) true := by
 by_cases ht : t.size ≤ 1048576
 case neg =>
  refine Ev.congr (Ev.const (o := some true) rfl) fun k => ?_
  unfold laws_FnExactWordToOne.f
  exact if_pos (by omega)
 have hsp := specWordToOne_ev t;have him := implWordToOne_ev t ht
 refine Ev.congr (Ev.bind (f := fun k (bt101 : ByteArray × Bool) => ((impl_WordToOne.f k t).bind fun bt103 => (if bt103.1.toList = bt101.1.toList then (if (bt103.2 != bt101.2) = true then (some false) else (some true)) else (some false)))) hsp (Ev.bind (f := fun _ (bt103 : ByteArray × Bool) => (if bt103.1.toList = (WordToOneR t).1.toList then (if (bt103.2 != (WordToOneR t).2) = true then (some false) else (some true)) else (some false))) him (Ev.const ?_))) fun k => by unfold laws_FnExactWordToOne.f; rw [if_neg (by omega)]
 rw [if_pos rfl, bne_self_eq_false, if_neg (by decide)]
end Go.Proofs.YtkjlfgceodindaaDoor.Q
end
