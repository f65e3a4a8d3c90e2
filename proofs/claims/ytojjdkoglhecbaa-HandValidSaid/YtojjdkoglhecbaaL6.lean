/- What a fingering costs, and which chord costs most: program and reference, on values. -/
import Derived.Test.YtojjdkoglhecbaaL4
import Derived.Test.YtojjdkoglhecbaaL5
import Derived.Test.YtojjdkoglhecbaaJ1
namespace Go.Proofs.Ytojjdkoglhecbaa
open Go.RowKit
set_option linter.unusedSimpArgs false
set_option linter.unusedVariables false

/-- The sum of the first ones. -/
def smI (l : List Int) : Nat → Int
  | 0 => 0
  | k + 1 => smI l k + l.getD k 0
theorem sm_bound {l : List Int} (hc : ∀ i, i < l.length → 0 ≤ l.getD i 0 ∧ l.getD i 0 ≤ 509000) : ∀ {k : Nat}, k ≤ l.length → 0 ≤ smI l k ∧ smI l k ≤ 509000 * k
  | 0, _ => by simp [smI]
  | k + 1, hk => by have := sm_bound hc (k := k) (by omega); have := hc k (by omega); rw [smI]; omega
theorem prN_le (h : Hand) (l : List Chord) (g : List Grip) (n : Nat) : prN h l g n ≤ n := by
  induction n with
  | zero => exact Nat.le_refl _
  | succ n ih => rw [prN]; split <;> omega
theorem prN_ok {h : Hand} {l : List Chord} {g : List Grip} {n : Nat} (hn : prN h l g n = n) : ∀ i, i < n → PrOk h l g i := by
  induction n with
  | zero => intro i hi; omega
  | succ n ih =>
    rw [prN] at hn
    split at hn
    · rename_i hh
      intro i hi
      by_cases e : i = n
      · subst e; exact hh.2
      · exact ih hh.1 i (by omega)
    · have := prN_le h l g n; omega
theorem prL_at {h : Hand} {l : List Chord} {g : List Grip} {n i : Nat} (hi : i < n) : (prL h l g n).getD i 0 = prC h l g i := by
  rw [prL, List.getD_eq_getElem?_getD, List.getElem?_map, List.getElem?_range hi]; rfl
/-- What prices and costs answer, case by case. -/
theorem pri_cases (h : Hand) (l : List Chord) (g : List Grip) :
    (∃ L : List Int, priR h l g = (L, 0) ∧ cosR h l g = (L, 0, 0) ∧ L.length = l.length ∧ l.length ≤ 400 ∧ ∀ i, i < L.length → 0 ≤ L.getD i 0 ∧ L.getD i 0 ≤ 509000) ∨
    (∃ (L : List Int), priR h l g = (L, 61) ∧ cosR h l g = ([], (L.length : Int), 61) ∧ L.length ≤ 400) ∨
    (∃ e : Int, (e == 0) = false ∧ (e == 61) = false ∧ priR h l g = ([], e) ∧ cosR h l g = ([], 0, e)) := by
  rw [priR, cosR]
  by_cases hb : bothE h l = 0
  · rw [if_pos hb, if_pos hb]
    obtain ⟨hk, h400, hseq⟩ := both_ok hb
    by_cases hl : g.length = l.length
    · rw [if_pos hl, if_pos hl]
      by_cases hp : prN h l g l.length = l.length
      · rw [if_pos hp, if_pos hp]
        refine .inl ⟨_, by rw [hp], rfl, prL_len h l g _, h400, fun i hi => ?_⟩
        rw [prL_len] at hi
        rw [prL_at hi]
        have hok := prN_ok hp
        exact (prC_bound hk (hseq i hi).1 (hok i hi) fun h0 => hok (i - 1) (by omega)).2
      · rw [if_neg hp, if_neg hp]
        have := prN_le h l g l.length
        exact .inr (.inl ⟨_, rfl, by rw [prL_len], by rw [prL_len]; omega⟩)
    · rw [if_neg hl, if_neg hl]
      exact .inr (.inr ⟨1, rfl, rfl, rfl, rfl⟩)
  · rw [if_neg hb, if_neg hb]
    refine .inr (.inr ⟨_, by simpa using hb, ?_, rfl, rfl⟩)
    unfold bothE seqE
    split <;> (try split) <;> (try split) <;> rfl
/-- What Valid answers. -/
noncomputable def valR (h : Hand) (l : List Chord) (g : List Grip) : Int × Int × Int := (smI (cosR h l g).1 (cosR h l g).1.length, (cosR h l g).2.1, (cosR h l g).2.2)

theorem valid_fn (h : Hand) (l : List Chord) (hl : Fits l) (g : List Grip) (hg : FitsG g) : Fn Try.prog Gd 56 [h.val, tCs l, tGs g] (.tup [vint (valR h l g).1, vint (valR h l g).2.1, vint (valR h l g).2.2]) := by
  refine Fn.of_vx0 k_hand_Valid (by simp) (by rw [V.pures, pure_hand, V.pures, pure_tCs, V.pures, pure_tGs]; rfl) ?_
  have C1 := prices_fn h l hl g hg
  unfold valR
  unfold c_hand_Valid
  rcases pri_cases h l g with ⟨L, e1, e2, hL, h4, hb⟩ | ⟨L, e1, e2, hL⟩ | ⟨e, n1, n2, e1, e2⟩
  · rw [e1] at C1
    rw [e2]
    have hs := fun k (hk : k ≤ L.length) => sm_bound hb (k := k) hk
    have h5 : L.length ≤ 400 := by omega
    clear e1 e2 hb hl hg hL h4
    dsimp only at C1 ⊢
    unfold Hand.val at C1 ⊢
    unfold tCs tGs tIs at C1 ⊢
    repeat' (with_reducible first | refine x_ops ?_ | refine wk ?_ | (with_reducible refine xc (C1) ?_) | ((first | refine gd1 ?_ ?_ | refine gd2 ?_ ?_ | refine gd3 ?_ ?_) <;> (first | exact @False.elim _ | intro hc)))
    refine x_loopF w_hand_Valid_p8 (by kernel_rfl) L.length (fun k t => t 30 = vint (k : Int) ∧ t 6 = vint (smI L k)) ?_ ?_
    · exact ⟨vv, vv⟩
    rintro k t hk ⟨h30, h6⟩
    by_cases hlt : k < L.length
    · have g1 := ints_at hlt
      have c2 : (k : Int) < (L.length : Int) := by omega
      have w2 := w_add1 (k := k) (by omega)
      have h3 := hs (k + 1) (by omega)
      have w3 : IntKind.i64.wrap (smI L k + L.getD k 0) = smI L (k + 1) := by rw [smI] at h3 ⊢; exact w_in (by omega)
      clear hs h3
      repeat' (with_reducible first | refine x_ops ?_ | refine wk ?_ | ((first | refine gd1 ?_ ?_ | refine gd2 ?_ ?_ | refine gd3 ?_ ?_) <;> (first | exact @False.elim _ | intro hc)))
      exact nf (by omega) ⟨vv, vv⟩ rfl
    · have hkl : k = L.length := by omega
      subst hkl
      have c1 : ¬ (L.length : Int) < (L.length : Int) := by omega
      clear hs
      repeat' (with_reducible first | refine x_ops ?_ | refine wk ?_ | ((first | refine gd1 ?_ ?_ | refine gd2 ?_ ?_ | refine gd3 ?_ ?_) <;> (first | exact @False.elim _ | intro hc)))
      exact finV_dry rfl vv
  · rw [e1] at C1
    rw [e2]
    clear e1 e2 hl hg
    dsimp only at C1 ⊢
    unfold Hand.val at C1 ⊢
    unfold tCs tGs tIs at C1 ⊢
    repeat' (with_reducible first | refine x_ops ?_ | refine wk ?_ | (with_reducible refine xc (C1) ?_) | ((first | refine gd1 ?_ ?_ | refine gd2 ?_ ?_ | refine gd3 ?_ ?_) <;> (first | exact @False.elim _ | intro hc)))
    exact finV_dry rfl vv
  · rw [e1] at C1
    rw [e2]
    clear e1 e2 hl hg
    dsimp only at C1 ⊢
    unfold Hand.val at C1 ⊢
    unfold tCs tGs tIs at C1 ⊢
    repeat' (with_reducible first | refine x_ops ?_ | refine wk ?_ | (with_reducible refine xc (C1) ?_) | ((first | refine gd1 ?_ ?_ | refine gd2 ?_ ?_ | refine gd3 ?_ ?_) <;> (first | exact @False.elim _ | intro hc)))
    exact finV_dry rfl vv
theorem rvalid_fn (h : Hand) (l : List Chord) (hl : Fits l) (g : List Grip) (hg : FitsG g) : Fn Try.prog Gd 57 [h.val, tCs l, tGs g] (.tup [vint (valR h l g).1, vint (valR h l g).2.1, vint (valR h l g).2.2]) := by
  refine Fn.of_vx0 k_theorboref06_Valid (by simp) (by rw [V.pures, pure_hand, V.pures, pure_tCs, V.pures, pure_tGs]; rfl) ?_
  have C1 := rcosts_fn h l hl g hg
  unfold valR
  unfold c_theorboref06_Valid
  obtain ⟨L, a, e, e2, hs⟩ : ∃ (L : List Int) (a e : Int), cosR h l g = (L, a, e) ∧ L.length ≤ 400 ∧ ∀ i, i < L.length → 0 ≤ L.getD i 0 ∧ L.getD i 0 ≤ 509000 := by
    rcases pri_cases h l g with ⟨L, e1, e2, hL, h4, hb⟩ | ⟨L, e1, e2, hL⟩ | ⟨e, n1, n2, e1, e2⟩
    · exact ⟨_, _, _, e2, by omega, hb⟩
    · exact ⟨_, _, _, e2, by simp, fun i hi => by simp at hi⟩
    · exact ⟨_, _, _, e2, by simp, fun i hi => by simp at hi⟩
  rw [e2] at C1 ⊢
  obtain ⟨h4, hb⟩ := hs
  have hs := fun k (hk : k ≤ L.length) => sm_bound hb (k := k) hk
  clear e2 hb hl hg
  dsimp only at C1 ⊢
  unfold Hand.val at C1 ⊢
  unfold tCs tGs tIs at C1 ⊢
  repeat' (with_reducible first | refine x_ops ?_ | refine wk ?_ | (with_reducible refine xc (C1) ?_) | ((first | refine gd1 ?_ ?_ | refine gd2 ?_ ?_ | refine gd3 ?_ ?_) <;> (first | exact @False.elim _ | intro hc)))
  refine x_loopF w_theorboref06_Valid_p3 (by kernel_rfl) L.length (fun k t => t 13 = vint (k : Int) ∧ t 12 = vint (smI L k)) ?_ ?_
  · exact ⟨vv, vv⟩
  rintro k t hk ⟨h30, h6⟩
  by_cases hlt : k < L.length
  · have g1 := ints_at hlt
    have c2 : (k : Int) < (L.length : Int) := by omega
    have w2 := w_add1 (k := k) (by omega)
    have h3 := hs (k + 1) (by omega)
    have w3 : IntKind.i64.wrap (smI L k + L.getD k 0) = smI L (k + 1) := by rw [smI] at h3 ⊢; exact w_in (by omega)
    clear hs h3
    repeat' (with_reducible first | refine x_ops ?_ | refine wk ?_ | ((first | refine gd1 ?_ ?_ | refine gd2 ?_ ?_ | refine gd3 ?_ ?_) <;> (first | exact @False.elim _ | intro hc)))
    exact nf (by omega) ⟨vv, vv⟩ rfl
  · have hkl : k = L.length := by omega
    subst hkl
    have c1 : ¬ (L.length : Int) < (L.length : Int) := by omega
    clear hs
    repeat' (with_reducible first | refine x_ops ?_ | refine wk ?_ | ((first | refine gd1 ?_ ?_ | refine gd2 ?_ ?_ | refine gd3 ?_ ?_) <;> (first | exact @False.elim _ | intro hc)))
    exact finV_dry rfl vv

/-- The greatest of the first ones. -/
def mxU (l : List Int) : Nat → Int
  | 0 => l.getD 0 0
  | k + 1 => if l.getD (k + 1) 0 > mxU l k then l.getD (k + 1) 0 else mxU l k
theorem max_fn (l : List Int) (h0 : 0 < l.length) (hl : l.length ≤ 4611686018427387904) : Fn Try.prog Gd 93 [tIs l] (vint (mxU l (l.length - 1))) := by
  refine Fn.of_vx0 k_slices_Max_int_int (by simp) (by rw [V.pures, pure_tIs]; rfl) ?_
  unfold c_slices_Max_int_int tIs
  have c0 : ¬ (l.length : Int) < 1 := by omega
  have c1 : (0 : Int) < (l.length : Int) := by omega
  have g0 := ints_at h0
  repeat' (with_reducible first | refine x_ops ?_ | refine wk ?_ | ((first | refine gd1 ?_ ?_ | refine gd2 ?_ ?_ | refine gd3 ?_ ?_) <;> (first | exact @False.elim _ | intro hc)))
  refine x_loopF w_slices_Max_int_int_p3 (by kernel_rfl) (l.length - 1) (fun k t => t 4 = vint ((k + 1 : Nat) : Int) ∧ t 3 = vint (mxU l k)) ?_ ?_
  · exact ⟨vv, vv⟩
  rintro k t hk ⟨h4, h3⟩
  by_cases hlt : k + 1 < l.length
  · have g1 := ints_at hlt
    have c2 : ((k + 1 : Nat) : Int) < (l.length : Int) := by omega
    have w2 := w_add1 (k := k + 1) (by omega)
    have e : mxU l (k + 1) = if mxU l k < l.getD (k + 1) 0 then l.getD (k + 1) 0 else mxU l k := rfl
    replace e := Hid.mk e
    repeat' (with_reducible first | refine x_ops ?_ | refine wk ?_ | ((first | refine gd1 ?_ ?_ | refine gd2 ?_ ?_ | refine gd3 ?_ ?_) <;> (first | exact @False.elim _ | intro hc)))
    exact nf (by omega) ⟨vv, by rw [e.out]; exact vv⟩ rfl
  · have hkl : k = l.length - 1 := by omega
    have c2 : ¬ ((k + 1 : Nat) : Int) < (l.length : Int) := by omega
    replace hkl := Hid.mk hkl
    repeat' (with_reducible first | refine x_ops ?_ | refine wk ?_ | ((first | refine gd1 ?_ ?_ | refine gd2 ?_ ?_ | refine gd3 ?_ ?_) <;> (first | exact @False.elim _ | intro hc)))
    exact finV_lit vv (by rw [hkl.out])
/-- Where the greatest of the first ones stands first. -/
def atU (l : List Int) : Nat → Nat
  | 0 => 0
  | k + 1 => if l.getD k 0 > l.getD (atU l k) 0 then k else atU l k
theorem atU_ok (l : List Int) : ∀ k : Nat, atU l (k + 1) ≤ k ∧ l.getD (atU l (k + 1)) 0 = mxU l k ∧ ∀ j, j < atU l (k + 1) → l.getD j 0 < mxU l k
  | 0 => by simp [atU, mxU]
  | k + 1 => by
    have ih := atU_ok l k
    rw [atU, mxU, ih.2.1]
    split
    · refine ⟨Nat.le_refl _, rfl, fun j hj => ?_⟩
      rename_i hgt
      have key : ∀ m j, j ≤ m → l.getD j 0 ≤ mxU l m := by
        intro m
        induction m with
        | zero => intro j hj; have : j = 0 := by omega
                  subst this; exact Int.le_refl _
        | succ m ihm => intro j hj; rw [mxU]; split
                        · by_cases e : j = m + 1
                          · subst e; exact Int.le_refl _
                          · have := ihm j (by omega); omega
                        · by_cases e : j = m + 1
                          · subst e; omega
                          · exact ihm j (by omega)
      have := key k j (by omega)
      omega
    · exact ⟨by omega, ih.2.1, ih.2.2⟩
theorem at_gI (l : List Int) (h0 : 0 < l.length) : gIx (fun x => mxU l (l.length - 1) == x) l = (atU l l.length : Int) := by
  have := atU_ok l (l.length - 1)
  rw [Nat.sub_add_cancel h0] at this
  rw [gIx, gI_eq (p := fun x => mxU l (l.length - 1) == x) (d := 0) (k := atU l l.length) (fun j hj => by have := this.2.2 j hj; rw [beq_eq_false_iff_ne]; omega) (by omega) (by rw [this.2.1]; simp), if_pos (by omega)]
/-- What Hardest answers. -/
noncomputable def hrdR (h : Hand) (l : List Chord) (g : List Grip) : Int × Int :=
  if (cosR h l g).2.2 = 0 then (if l.length = 0 then (0, 3) else (atU (cosR h l g).1 (cosR h l g).1.length, 0)) else (0, (cosR h l g).2.2)
theorem hardest_fn (h : Hand) (l : List Chord) (hl : Fits l) (g : List Grip) (hg : FitsG g) : Fn Try.prog Gd 58 [h.val, tCs l, tGs g] (.tup [vint (hrdR h l g).1, vint (hrdR h l g).2]) := by
  refine Fn.of_vx0 k_hand_Hardest (by simp) (by rw [V.pures, pure_hand, V.pures, pure_tCs, V.pures, pure_tGs]; rfl) ?_
  have C1 := prices_fn h l hl g hg
  unfold hrdR
  unfold c_hand_Hardest
  obtain ⟨L, e, e1, e2, hL⟩ : ∃ (L : List Int) (e : Int), priR h l g = (L, e) ∧ (cosR h l g).2.2 = e ∧ (e = 0 → (cosR h l g).1 = L ∧ L.length = l.length ∧ l.length ≤ 400) := by
    rcases pri_cases h l g with ⟨L, e1, e2, hL, h4, hb⟩ | ⟨L, e1, e2, hL⟩ | ⟨e, n1, n2, e1, e2⟩
    · exact ⟨_, _, e1, by rw [e2], fun _ => ⟨by rw [e2], hL, h4⟩⟩
    · exact ⟨_, _, e1, by rw [e2], fun h => by cases h⟩
    · exact ⟨_, _, e1, by rw [e2], fun h => by subst h; cases n1⟩
  rw [e1] at C1
  rw [e2]
  clear e1 e2 hl hg
  by_cases he : e = 0
  · obtain ⟨e3, e4, e5⟩ := hL he
    rw [if_pos he, e3, ← e4]
    subst he
    by_cases h0 : L.length = 0
    · rw [if_pos h0]
      have c1 : ((L.length : Int) == 0) = true := by rw [h0]; rfl
      clear hL e3 e4 e5 h0
      dsimp only at C1 ⊢
      unfold Hand.val at C1 ⊢
      unfold tCs tGs tIs at C1 ⊢
      repeat' (with_reducible first | refine x_ops ?_ | refine wk ?_ | (with_reducible refine xc (C1) ?_) | ((first | refine gd1 ?_ ?_ | refine gd2 ?_ ?_ | refine gd3 ?_ ?_) <;> (first | exact @False.elim _ | intro hc)))
      exact finV_dry rfl vv
    · rw [if_neg h0]
      have c1 : ((L.length : Int) == 0) = false := by rw [beq_eq_false_iff_ne]; omega
      have C2 := max_fn L (by omega) (by omega)
      have C3 := index_fn L (mxU L (L.length - 1)) (by omega)
      rw [at_gI L (by omega)] at C3
      clear hL e3 e4 e5 h0
      dsimp only at C1 ⊢
      unfold Hand.val at C1 ⊢
      unfold tCs tGs at C1 ⊢
      unfold tIs at C1 C2 C3 ⊢
      repeat' (with_reducible first | refine x_ops ?_ | refine wk ?_ | (with_reducible refine xc (C1) ?_) | (with_reducible refine xc (C2) ?_) | (with_reducible refine xc (C3) ?_) | ((first | refine gd1 ?_ ?_ | refine gd2 ?_ ?_ | refine gd3 ?_ ?_) <;> (first | exact @False.elim _ | intro hc)))
      exact finV_dry rfl vv
  · rw [if_neg he]
    have c1 : (e == 0) = false := by simpa using he
    clear hL he
    dsimp only at C1 ⊢
    unfold Hand.val at C1 ⊢
    unfold tCs tGs tIs at C1 ⊢
    repeat' (with_reducible first | refine x_ops ?_ | refine wk ?_ | (with_reducible refine xc (C1) ?_) | ((first | refine gd1 ?_ ?_ | refine gd2 ?_ ?_ | refine gd3 ?_ ?_) <;> (first | exact @False.elim _ | intro hc)))
    exact finV_dry rfl vv
theorem rhardest_fn (h : Hand) (l : List Chord) (hl : Fits l) (g : List Grip) (hg : FitsG g) : Fn Try.prog Gd 59 [h.val, tCs l, tGs g] (.tup [vint (hrdR h l g).1, vint (hrdR h l g).2]) := by
  refine Fn.of_vx0 k_theorboref06_Hardest (by simp) (by rw [V.pures, pure_hand, V.pures, pure_tCs, V.pures, pure_tGs]; rfl) ?_
  have C1 := rcosts_fn h l hl g hg
  unfold hrdR
  unfold c_theorboref06_Hardest
  obtain ⟨L, a, e, e2, hL⟩ : ∃ (L : List Int) (a e : Int), cosR h l g = (L, a, e) ∧ (e = 0 → L.length = l.length ∧ l.length ≤ 400) := by
    rcases pri_cases h l g with ⟨L, e1, e2, hL, h4, hb⟩ | ⟨L, e1, e2, hL⟩ | ⟨e, n1, n2, e1, e2⟩
    · exact ⟨_, _, _, e2, fun _ => ⟨hL, h4⟩⟩
    · exact ⟨_, _, _, e2, fun h => by cases h⟩
    · exact ⟨_, _, _, e2, fun h => by subst h; cases n1⟩
  rw [e2] at C1 ⊢
  clear e2 hl hg
  by_cases he : e = 0
  · obtain ⟨e4, e5⟩ := hL he
    rw [if_pos he]
    subst he
    by_cases h0 : l.length = 0
    · rw [if_pos h0]
      have c1 : ((l.length : Int) == 0) = true := by rw [h0]; rfl
      clear hL e4 e5 h0
      dsimp only at C1 ⊢
      unfold Hand.val at C1 ⊢
      unfold tCs tGs tIs at C1 ⊢
      repeat' (with_reducible first | refine x_ops ?_ | refine wk ?_ | (with_reducible refine xc (C1) ?_) | ((first | refine gd1 ?_ ?_ | refine gd2 ?_ ?_ | refine gd3 ?_ ?_) <;> (first | exact @False.elim _ | intro hc)))
      exact finV_dry rfl vv
    · rw [if_neg h0]
      have c1 : ((l.length : Int) == 0) = false := by rw [beq_eq_false_iff_ne]; omega
      replace e4 := Hid.mk e4
      clear hL
      dsimp only at C1 ⊢
      unfold Hand.val at C1 ⊢
      unfold tCs tGs at C1 ⊢
      unfold tIs at C1 ⊢
      repeat' (with_reducible first | refine x_ops ?_ | refine wk ?_ | (with_reducible refine xc (C1) ?_) | ((first | refine gd1 ?_ ?_ | refine gd2 ?_ ?_ | refine gd3 ?_ ?_) <;> (first | exact @False.elim _ | intro hc)))
      refine x_loopF w_theorboref06_Hardest_p6 (by kernel_rfl) L.length (fun k t => t 12 = vint (k : Int) ∧ t 11 = vint (atU L k : Int)) ?_ ?_
      · exact ⟨vv, vv⟩
      rintro k t hk ⟨h12, h11⟩
      by_cases hlt : k < L.length
      · have ha : atU L k < L.length := by
          cases k with
          | zero => exact hlt
          | succ k => have := (atU_ok L k).1; omega
        have g1 := ints_at hlt
        have g2 := ints_at ha
        have c2 : (k : Int) < (L.length : Int) := by omega
        have c3 : (atU L k : Int) < (L.length : Int) := by omega
        have w2 := w_add1 (k := k) (by have := e4.out; omega)
        have e : atU L (k + 1) = if L.getD (atU L k) 0 < L.getD k 0 then k else atU L k := rfl
        replace e := Hid.mk e
        repeat' (with_reducible first | refine x_ops ?_ | refine wk ?_ | ((first | refine gd1 ?_ ?_ | refine gd2 ?_ ?_ | refine gd3 ?_ ?_) <;> (first | exact @False.elim _ | intro hc)))
        · exact nf (by omega) ⟨vv, by rw [e.out, if_pos hc]; exact vv⟩ rfl
        · exact nf (by omega) ⟨vv, by rw [e.out, if_neg hc]; exact vw⟩ rfl
      · have hkl : k = L.length := by omega
        subst hkl
        have c2 : ¬ (L.length : Int) < (L.length : Int) := by omega
        repeat' (with_reducible first | refine x_ops ?_ | refine wk ?_ | ((first | refine gd1 ?_ ?_ | refine gd2 ?_ ?_ | refine gd3 ?_ ?_) <;> (first | exact @False.elim _ | intro hc)))
        exact finV_dry rfl vv
  · rw [if_neg he]
    have c1 : (e == 0) = false := by simpa using he
    clear hL he
    dsimp only at C1 ⊢
    unfold Hand.val at C1 ⊢
    unfold tCs tGs tIs at C1 ⊢
    repeat' (with_reducible first | refine x_ops ?_ | refine wk ?_ | (with_reducible refine xc (C1) ?_) | ((first | refine gd1 ?_ ?_ | refine gd2 ?_ ?_ | refine gd3 ?_ ?_) <;> (first | exact @False.elim _ | intro hc)))
    exact finV_dry rfl vv
end Go.Proofs.Ytojjdkoglhecbaa
