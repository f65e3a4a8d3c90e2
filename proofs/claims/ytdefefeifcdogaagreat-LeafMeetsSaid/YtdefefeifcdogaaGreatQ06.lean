/- Two rows merged, of the program; Join's closures. mixed of the reference: the signs of a column. mixed of the reference: the numbers of a column. mixed of the reference. mixed of the reference: all columns. The plain law of LeafOnly: the leaf of a piece has one completion. The law LeafBoth, if Join is what it should be and the plain law holds. Meet and Join of valid leaves are valid leaves or empty; what is read from them: plain. Functions of the program, as code on values by numbers, for the evaluator: printed by a program from the program that was given, and held against it here. -/
import Derived.Test.YtdefefeifcdogaaGreatQ02
import Derived.Test.YtdefefeifcdogaaGreatQ03
import Derived.Test.YtdefefeifcdogaaGreatQ04
import Derived.Test.YtdefefeifcdogaaGreatQ05
set_option linter.unusedSimpArgs false
set_option linter.unusedVariables false
namespace Go.Proofs.YtdefefeifcdogaaGreat
open Go.RowKit
set_option linter.unusedSimpArgs false
set_option linter.unusedVariables false

theorem sgs_vws {m : Mm} {S : Nat → Bool} : ∀ l : List Sg, Vws m S (l.flatMap Sg.cells) (l.flatMap Sg.cells)
  | [] => .nil
  | x :: l => by
    rw [List.flatMap_cons]
    exact .cons (.lit _) (.cons (.lit _) (.cons (.lit _) (sgs_vws l)))
theorem ints_vws {m : Mm} {S : Nat → Bool} : ∀ l : List Int, Vws m S (l.map vint) (l.map vint)
  | [] => .nil
  | x :: l => by
    rw [List.map_cons]
    exact .cons (.lit _) (ints_vws l)
theorem ints_oneV (l : List Int) : (l.map vint).all V.one = true := by
  rw [List.all_eq_true]
  intro v hv
  obtain ⟨x, _, rfl⟩ := List.mem_map.1 hv
  rfl
theorem adj_of_pw {α : Type} [Inhabited α] {f : α → Int} {l : List α} (h : l.Pairwise fun a b => f a ≤ f b) (i : Nat) (hi : i + 1 < l.length) : f (l.getD i default) ≤ f (l.getD (i + 1) default) := by
  have := List.pairwise_iff_getElem.1 h i (i + 1) (by omega) hi (by omega)
  rw [List.getD_eq_getElem?_getD, List.getD_eq_getElem?_getD, List.getElem?_eq_getElem (by omega : i < l.length), List.getElem?_eq_getElem hi]
  exact this
theorem srt_ex {α : Type} [Inhabited α] (f : α → Int) (d : List α) : ∃ d' : List α, d'.Perm d ∧ ∀ i, i + 1 < d'.length → f (d'.getD i default) ≤ f (d'.getD (i + 1) default) := by
  refine ⟨d.mergeSort fun a b => decide (f a ≤ f b), List.mergeSort_perm _ _, fun i hi => adj_of_pw ?_ i hi⟩
  have h := List.pairwise_mergeSort (le := fun a b => decide (f a ≤ f b)) (fun a b c h1 h2 => by simp at *; omega) (fun a b => by simp; omega) d
  exact h.imp fun h => of_decide_eq_true h
theorem SrtS.ne (d : List Sg) (m : Mm) (i : Nat) (t : TypeId) : ∃ r m', RowPost m i t (SrtS d) r m' := by
  obtain ⟨d', h1, h2⟩ := srt_ex keyS d
  exact ⟨_, _, rfl, _, ⟨d', rfl, h1, h2⟩, rfl⟩
theorem SrtI.ne (d : List Int) (m : Mm) (i : Nat) (t : TypeId) : ∃ r m', RowPost m i t (SrtI d) r m' := by
  obtain ⟨d', h1, h2⟩ := srt_ex (fun x : Int => x) d
  exact ⟨_, _, rfl, _, ⟨d', rfl, h1, h2⟩, rfl⟩
set_option maxHeartbeats 1000000 in
theorem mergedS_fn (xs ys : List Sg) (p1 : 0 < xs.length) (p2 : 0 < ys.length) (q1 : xs.length ≤ 1000) (q2 : ys.length ≤ 1000) (h1 : ∀ s ∈ xs, okS s = true) (h2 : ∀ s ∈ ys, okS s = true) :
    Fn Tryz.prog Gd 117 [.sl xs.length (xs.flatMap Sg.cells) .no, .sl ys.length (ys.flatMap Sg.cells) .no, .fn 118 []] (.sl (mxS false xs ys).length ((mxS false xs ys).flatMap Sg.cells) .no) := by
  refine Fn.trim (ys := (List.replicate (xs.length + ys.length - (mxS false xs ys).length) (default : Sg)).flatMap Sg.cells) ?_
  rw [← List.flatMap_append]
  refine Fn.of_vx0 k_leaf_merged_api_Sign_b (by simp) (by simp [V.pures, V.pure]) ?_
  have C := concatS_bfn xs ys p1 p2 q1 q2
  have hm : ∀ d : List Sg, d.Perm (xs ++ ys) → (∀ i, i + 1 < d.length → keyS (d.getD i default) ≤ keyS (d.getD (i + 1) default)) → cmpU d d.length = mxS false xs ys ∧ d.length = xs.length + ys.length := fun d hp hs =>
    ⟨mergeS_mx (fun x => by rw [hp.mem_iff, List.mem_append]) hs h1 h2, by rw [hp.length_eq, List.length_append]⟩
  have hn : ¬ xs.length + ys.length = 0 := by omega
  generalize hM : mxS false xs ys = M at *
  replace hm := Hid.mk hm
  have hl0 : xs.length + ys.length ≤ 1000000 := by omega
  replace hl0 := Hid.mk hl0
  clear h1 h2 p1 p2 q1 q2
  unfold c_leaf_merged_api_Sign_b
  repeat' (with_reducible first | refine x_ops ?_ | refine wk ?_ | ((first | refine gd1 ?_ ?_ | refine gd2 ?_ ?_ | refine gd3 ?_ ?_) <;> (first | exact @False.elim _ | intro hc)))
  refine x_callB none C vw ?_
  rw [if_neg hn]
  repeat' (with_reducible first | refine x_ops ?_ | refine wk ?_ | ((first | refine gd1 ?_ ?_ | refine gd2 ?_ ?_ | refine gd3 ?_ ?_) <;> (first | exact @False.elim _ | intro hc)))
  refine x_scallR [.bsl 3 0 (xs.length + ys.length) (xs.length + ys.length), .fn 118 []] vw (sortS_sfn (xs ++ ys) (by rw [List.length_append]; exact hl0.out) (.inl ⟨_, by rw [List.length_append]⟩) (by first | exact vw | exact if_pos rfl)) (SrtS.ne _ _ _ _) ?_
  rintro r m1 ⟨rfl, L, ⟨d, rfl, hp, hs⟩, rfl⟩
  obtain ⟨e1, e2⟩ := hm.out d hp hs
  rw [← encS_cells]
  repeat' (with_reducible first | refine x_ops ?_ | refine wk ?_ | ((first | refine gd1 ?_ ?_ | refine gd2 ?_ ?_ | refine gd3 ?_ ?_) <;> (first | exact @False.elim _ | intro hc)))
  refine x_scallR [.bsl 3 0 (xs.length + ys.length) (xs.length + ys.length)] vw (by rw [← e2]; exact compactS_sfn (q := 3) d (by show 3 < 5; decide) (by rw [e2]; exact hl0.out) (by first | exact vw | exact if_pos rfl)) (CmpPS.ne _ _) ?_
  rintro r m2 ⟨rfl, _, hob⟩
  rw [e1, e2] at hob
  rw [e1, e2]
  repeat' (with_reducible first | refine x_ops ?_ | refine wk ?_ | ((first | refine gd1 ?_ ?_ | refine gd2 ?_ ?_ | refine gd3 ?_ ?_) <;> (first | exact @False.elim _ | intro hc)))
  refine finV_ret vv ?_
  exact .bsl rfl hob (sgs_vws _) (sgs_oneV _)
set_option maxHeartbeats 1000000 in
theorem mergedI_fn (xs ys : List Int) (p1 : 0 < xs.length) (p2 : 0 < ys.length) (q1 : xs.length ≤ 1000) (q2 : ys.length ≤ 1000) (h1 : ∀ s ∈ xs, -1 ≤ s ∧ s ≤ 18) (h2 : ∀ s ∈ ys, -1 ≤ s ∧ s ≤ 18) :
    Fn Tryz.prog Gd 120 [.sl xs.length (xs.map vint) .no, .sl ys.length (ys.map vint) .no, .fn 121 []] (.sl (mxI false xs ys).length ((mxI false xs ys).map vint) .no) := by
  refine Fn.trim (ys := (List.replicate (xs.length + ys.length - (mxI false xs ys).length) (default : Int)).map vint) ?_
  rw [← List.map_append]
  refine Fn.of_vx0 k_leaf_merged_int_b (by simp) (by simp [V.pures, V.pure]) ?_
  have C := concatI_bfn xs ys p1 p2 q1 q2
  have hm : ∀ d : List Int, d.Perm (xs ++ ys) → (∀ i, i + 1 < d.length → d.getD i default ≤ d.getD (i + 1) default) → cmpU d d.length = mxI false xs ys ∧ d.length = xs.length + ys.length := fun d hp hs =>
    ⟨mergeI_mx (fun x => by rw [hp.mem_iff, List.mem_append]) hs h1 h2, by rw [hp.length_eq, List.length_append]⟩
  have hn : ¬ xs.length + ys.length = 0 := by omega
  generalize hM : mxI false xs ys = M at *
  replace hm := Hid.mk hm
  have hl0 : xs.length + ys.length ≤ 1000000 := by omega
  replace hl0 := Hid.mk hl0
  clear h1 h2 p1 p2 q1 q2
  unfold c_leaf_merged_int_b
  repeat' (with_reducible first | refine x_ops ?_ | refine wk ?_ | ((first | refine gd1 ?_ ?_ | refine gd2 ?_ ?_ | refine gd3 ?_ ?_) <;> (first | exact @False.elim _ | intro hc)))
  refine x_callB none C vw ?_
  rw [if_neg hn]
  repeat' (with_reducible first | refine x_ops ?_ | refine wk ?_ | ((first | refine gd1 ?_ ?_ | refine gd2 ?_ ?_ | refine gd3 ?_ ?_) <;> (first | exact @False.elim _ | intro hc)))
  refine x_scallR [.bsl 3 0 (xs.length + ys.length) (xs.length + ys.length), .fn 121 []] vw (sortI_sfn (xs ++ ys) (by rw [List.length_append]; exact hl0.out) (.inl ⟨_, by rw [List.length_append]⟩) (by first | exact vw | exact if_pos rfl)) (SrtI.ne _ _ _ _) ?_
  rintro r m1 ⟨rfl, L, ⟨d, rfl, hp, hs⟩, rfl⟩
  obtain ⟨e1, e2⟩ := hm.out d hp hs
  rw [← encI_cells]
  repeat' (with_reducible first | refine x_ops ?_ | refine wk ?_ | ((first | refine gd1 ?_ ?_ | refine gd2 ?_ ?_ | refine gd3 ?_ ?_) <;> (first | exact @False.elim _ | intro hc)))
  refine x_scallR [.bsl 3 0 (xs.length + ys.length) (xs.length + ys.length)] vw (by rw [← e2]; exact compactI_sfn (q := 3) d (by show 3 < 5; decide) (by rw [e2]; exact hl0.out) (by first | exact vw | exact if_pos rfl)) (CmpPI.ne _ _) ?_
  rintro r m2 ⟨rfl, _, hob⟩
  rw [e1, e2] at hob
  rw [e1, e2]
  repeat' (with_reducible first | refine x_ops ?_ | refine wk ?_ | ((first | refine gd1 ?_ ?_ | refine gd2 ?_ ?_ | refine gd3 ?_ ?_) <;> (first | exact @False.elim _ | intro hc)))
  refine finV_ret vv ?_
  exact .bsl rfl hob (ints_vws _) (ints_oneV _)
theorem join1_fn (xs ys : List Sg) (p1 : 0 < xs.length) (p2 : 0 < ys.length) (q1 : xs.length ≤ 1000) (q2 : ys.length ≤ 1000) (h1 : ∀ s ∈ xs, okS s = true) (h2 : ∀ s ∈ ys, okS s = true) :
    Fn Tryz.prog Gd 116 [tL Sg.cells xs, tL Sg.cells ys] (tL Sg.cells (mxS false xs ys)) := by
  refine Fn.of_vx0 k_leaf_Join_1 (by simp) (by rw [V.pures, pure_tL, V.pures, pure_tL]; rfl) ?_
  have C := mergedS_fn xs ys p1 p2 q1 q2 h1 h2
  rw [tL, tL, tL]
  generalize mxS false xs ys = M at *
  unfold c_leaf_Join_1
  repeat' (with_reducible first | refine x_ops ?_ | refine wk ?_ | (with_reducible refine xc (C) ?_) | ((first | refine gd1 ?_ ?_ | refine gd2 ?_ ?_ | refine gd3 ?_ ?_) <;> (first | exact @False.elim _ | intro hc)))
  exact finV_ret vv (.sl _ _ _)
theorem join2_fn (xs ys : List Int) (p1 : 0 < xs.length) (p2 : 0 < ys.length) (q1 : xs.length ≤ 1000) (q2 : ys.length ≤ 1000) (h1 : ∀ s ∈ xs, -1 ≤ s ∧ s ≤ 18) (h2 : ∀ s ∈ ys, -1 ≤ s ∧ s ≤ 18) :
    Fn Tryz.prog Gd 119 [tIs xs, tIs ys] (tIs (mxI false xs ys)) := by
  refine Fn.of_vx0 k_leaf_Join_2 (by simp) (by rw [V.pures, pure_tIs, V.pures, pure_tIs]; rfl) ?_
  have C := mergedI_fn xs ys p1 p2 q1 q2 h1 h2
  rw [tIs, tIs, tIs]
  generalize mxI false xs ys = M at *
  unfold c_leaf_Join_2
  repeat' (with_reducible first | refine x_ops ?_ | refine wk ?_ | (with_reducible refine xc (C) ?_) | ((first | refine gd1 ?_ ?_ | refine gd2 ?_ ?_ | refine gd3 ?_ ?_) <;> (first | exact @False.elim _ | intro hc)))
  exact finV_ret vv (.sl _ _ _)
end Go.Proofs.YtdefefeifcdogaaGreat
namespace Go.Proofs.YtdefefeifcdogaaGreat
open Go.RowKit
set_option linter.unusedSimpArgs false
set_option linter.unusedVariables false

/-- A row of signs that may be written, in a new box. -/
def SgV (lo : Nat) (m : Mm) (sv : V) (L : List Sg) : Prop := (L.length = 0 ∧ sv = .sl 0 [] .exact) ∨ (0 < L.length ∧ ∃ q, lo ≤ q ∧ q < m.next ∧ sv = .gsl q L.length 3 ∧ m.obj q = some (.box (L.flatMap Sg.cells) 110))
/-- The signs are picked. -/
def MA (p : Sg → Bool) (cx : Nat) (a0 a1 a3 : V) (k : Nat) (m m' : Mm) : Prop := ∃ sv, m'.obj cx = some (.box [a0, a1, sv, a3] 84) ∧ SgV m.next m' sv (pkS p k) ∧ (∀ q, q < m.next → q ≠ cx → m'.obj q = m.obj q) ∧ m.next ≤ m'.next
/-- One more sign is put in. -/
def MS1 (p : Sg → Bool) (cx : Nat) (a0 a1 a3 : V) (k lo : Nat) (m1 m' : Mm) : Prop := ∃ sv, m'.obj cx = some (.box [a0, a1, sv, a3] 84) ∧ SgV lo m' sv (pkS p (k + 1)) ∧ (∀ q, q < lo → q ≠ cx → m'.obj q = m1.obj q) ∧ m1.next ≤ m'.next
set_option maxHeartbeats 4000000 in
theorem mixS_vx {t : Nat → V} {m1 : Mm} {cx lo k : Nat} {a0 a1 a3 sv : V} {AL : List V} (p : Sg → Bool) (hk : k < 21) (hp : p (allL.getD k default) = true) (h11 : t 11 = .ptr cx 0) (h12 : t 12 = .sl 21 AL .no) (h13 : t 13 = vint (k : Int)) (hAL : AL.length = 21 * 3)
    (g1 : (AL.drop (k * 3)).take 3 = [V.lit (.int .i64 (allL.getD k default).v), V.lit (.bool (allL.getD k default).d), V.lit (.bool (allL.getD k default).t)]) (hc : m1.obj cx = some (.box [a0, a1, sv, a3] 84)) (hsv : SgV lo m1 sv (pkS p k)) (ec : cx < lo) (hlo : lo ≤ m1.next) :
    (c_theorboref10_mixed_b_p6).vx Tryz.prog Gd (fun e s' => e = .nrm ∧ MS1 p cx a0 a1 a3 k lo m1 s'.m) ⟨t, m1⟩ := by
  unfold c_theorboref10_mixed_b_p6
  have hdone := fun (j : Nat) => pkS_done p k hk hp (j := j)
  have c1 : (k : Int) < 21 := by omega
  have c3 : k * 3 + 3 ≤ 63 := by omega
  have n3 : cx < m1.next := by omega
  have hle := Hid.mk (pkS_len p k)
  have ec0 := Hid.mk ec
  have hlo0 := Hid.mk hlo
  have hk0 := Hid.mk hk
  generalize allL.getD k default = x at *
  have hxc : x.cells = [vint x.v, vbool x.d, vbool x.t] := rfl
  have f1 : ¬ cx = m1.next + 7 := by omega
  have f2 : ¬ m1.next + 7 = cx := by omega
  replace hdone := Hid.mk hdone
  clear hk hp hlo ec
  rcases hsv with ⟨h0, rfl⟩ | ⟨h0, q, q1, q2, rfl, hq⟩
  · have hL : pkS p k = [] := List.length_eq_zero_iff.1 h0
    replace hL := Hid.mk hL
    clear h0
    repeat' (with_reducible first | refine x_ops ?_ | refine wk ?_ | ((first | refine gd1 ?_ ?_ | refine gd2 ?_ ?_ | refine gd3 ?_ ?_) <;> (first | exact @False.elim _ | intro hc)))
    refine x_appM0 (n := 0) (xs := []) (j := 1) (ys := [vint x.v, vbool x.d, vbool x.t]) vw (by ((refine ve ?_; try exact True.intro)); rfl) rfl (by decide) (by decide) ?_
    rw [if_neg (by decide)]
    repeat' (with_reducible first | refine x_ops ?_ | refine wk ?_ | ((first | refine gd1 ?_ ?_ | refine gd2 ?_ ?_ | refine gd3 ?_ ?_) <;> (first | exact @False.elim _ | intro hc)))
    refine x_sum 21778071482860833499141710538039621648384 kr (R := fun e t' m' => e = .exit 4 ∧ M3 [] x (m1.next + 7) _ m') (mix3_vx (cx := cx) (a0 := a0) (a1 := a1) (a3 := a3) [] x vw vw ?_ ?_ f1 ?_ ?_ (by decide)) ?_
    · first
        | exact vw
        | first | exact if_pos rfl | exact (if_pos trivial).trans rfl
    · simp only [put_obj]
      rw [if_neg f2]
      first | exact if_pos rfl | exact (if_pos trivial).trans rfl
    · show cx < m1.next + 10
      have := hlo0.out
      have := ec0.out
      omega
    · show m1.next + 7 < m1.next + 10
      omega
    rintro e t' m' ⟨rfl, j, ⟨hj, hj1, hj2⟩, hq', hfr', hn'⟩
    have hd := hdone.out j (by rw [hL.out]; exact hj) (by rw [hL.out]; exact hj1) (by rw [hL.out]; exact hj2)
    rw [hL.out] at hd
    rw [hd] at hq'
    have hl1 : (pkS p (k + 1)).length = 1 := by rw [← hd, stI_len]; rfl
    have hcm : m'.obj cx = _ := hfr' cx (by show cx < m1.next + 10; have := hlo0.out; have := ec0.out; omega) f1
    have hn'' : m1.next + 10 ≤ m'.next := hn'
    have hlo1 := hlo0.out
    repeat' (with_reducible first | refine x_ops ?_ | refine wk ?_ | ((first | refine gd1 ?_ ?_ | refine gd2 ?_ ?_ | refine gd3 ?_ ?_) <;> (first | exact @False.elim _ | intro hc)))
    refine ⟨.gsl (m1.next + 7) 1 3, ?_, .inr ⟨by omega, m1.next + 7, by omega, ?_, by rw [hl1], hq'⟩, fun z hz hzc => ?_, ?_⟩
    · rw [hcm]
      first
        | exact vw
        | first | exact if_pos rfl | exact (if_pos trivial).trans rfl
    · show m1.next + 7 < m'.next; omega
    · rw [hfr' z (by show z < m1.next + 10; omega) (by omega)]
      simp only [put_obj]
      rw [if_neg hzc, if_neg (by omega)]
    · show m1.next ≤ m'.next; omega
  · have hll := sgs_len (pkS p k)
    have hle1 := hle.out
    have c6 : (pkS p k).length * 3 ≤ ((pkS p k).flatMap Sg.cells).length := by omega
    have c7 : ((pkS p k).flatMap Sg.cells).take ((pkS p k).length * 3) = (pkS p k).flatMap Sg.cells := List.take_of_length_le (by omega)
    have c8 := sgs_oneV (pkS p k)
    have hend : (pkS p k).flatMap Sg.cells ++ [vint x.v, vbool x.d, vbool x.t] = (stI (pkS p k) x (pkS p k).length).flatMap Sg.cells := by rw [stI_end, List.flatMap_append]; simp [Sg.cells]
    have b1 : ((pkS p k).length + 1) * 16 ≤ 140737488355328 := by omega
    have b2 : (pkS p k).length + 1 ≤ Go.maxLen := by unfold Go.maxLen; omega
    have w2 : IntKind.i64.wrap ((((pkS p k).length + 1 : Nat) : Int) - 1) = ((pkS p k).length : Int) := by rw [IntWalk.i64_in _ (by omega)]; omega
    have l10 : (pkS p k).length ≤ 1000 := by omega
    generalize hLL : pkS p k = L at *
    replace hLL := Hid.mk hLL
    replace hend := Hid.mk hend
    replace c8 := Hid.mk c8
    replace c6 := Hid.mk c6
    have f3 : ¬ q = m1.next + 7 := by omega
    have f4 : ¬ q = cx := by have := ec0.out; omega
    have f5 : ¬ cx = q := by have := ec0.out; omega
    have q10 := Hid.mk q1
    have hq0 := Hid.mk hq
    clear hll hle1 h0 q1 hle
    repeat' (with_reducible first | refine x_ops ?_ | refine wk ?_ | ((first | refine gd1 ?_ ?_ | refine gd2 ?_ ?_ | refine gd3 ?_ ?_) <;> (first | exact @False.elim _ | intro hc)))
    refine x_appM (q := q) (n := L.length) (cs := L.flatMap Sg.cells) (j := 1) (ys := [vint x.v, vbool x.d, vbool x.t]) vw (by ((refine ve ?_; try exact True.intro)); rfl) vw c6.out (by rw [c7]; exact c8.out) b1 b2 ?_
    rw [c7, hend.out]
    repeat' (with_reducible first | refine x_ops ?_ | refine wk ?_ | ((first | refine gd1 ?_ ?_ | refine gd2 ?_ ?_ | refine gd3 ?_ ?_) <;> (first | exact @False.elim _ | intro hc)))
    refine x_sum 21778071482860833499141710538039621648384 kr (R := fun e t' m' => e = .exit 4 ∧ M3 L x (m1.next + 7) _ m') (mix3_vx (cx := cx) (a0 := a0) (a1 := a1) (a3 := a3) L x vw vw ?_ ?_ f1 ?_ ?_ l10) ?_
    · first
        | exact vw
        | first | exact if_pos rfl | exact (if_pos trivial).trans rfl
    · simp only [put_obj]
      rw [if_neg f2]
      first | exact if_pos rfl | exact (if_pos trivial).trans rfl
    · show cx < m1.next + 10
      have := hlo0.out
      have := ec0.out
      omega
    · show m1.next + 7 < m1.next + 10
      omega
    rintro e t' m' ⟨rfl, j, ⟨hj, hj1, hj2⟩, hq', hfr', hn'⟩
    have hd := hdone.out j hj hj1 hj2
    rw [hd] at hq'
    have hl1 : (pkS p (k + 1)).length = L.length + 1 := by rw [← hd, stI_len]
    have hcm : m'.obj cx = _ := hfr' cx (by show cx < m1.next + 10; have := hlo0.out; have := ec0.out; omega) f1
    have hn'' : m1.next + 10 ≤ m'.next := hn'
    have hlo1 := hlo0.out
    have hq11 := q10.out
    repeat' (with_reducible first | refine x_ops ?_ | refine wk ?_ | ((first | refine gd1 ?_ ?_ | refine gd2 ?_ ?_ | refine gd3 ?_ ?_) <;> (first | exact @False.elim _ | intro hc)))
    refine ⟨.gsl (m1.next + 7) (L.length + 1) 3, ?_, .inr ⟨by omega, m1.next + 7, by omega, ?_, by rw [hl1], hq'⟩, fun z hz hzc => ?_, ?_⟩
    · rw [hcm]
      first
        | exact vw
        | first | exact if_pos rfl | exact (if_pos trivial).trans rfl
    · show m1.next + 7 < m'.next; omega
    · rw [hfr' z (by show z < m1.next + 10; omega) (by omega)]
      simp only [put_obj, del_obj]
      rw [if_neg hzc, if_neg (by omega), if_neg (by omega)]
    · show m1.next ≤ m'.next; omega
theorem allL_take' (k : Nat) (h : k < 21) : ((allL.flatMap Sg.cells).drop (k * 3)).take 3 = [V.lit (.int .i64 (allL.getD k default).v), V.lit (.bool (allL.getD k default).d), V.lit (.bool (allL.getD k default).t)] := sg_take (by rw [allL_len]; exact h)
set_option maxHeartbeats 4000000 in
theorem mixA_vx {t : Nat → V} {m : Mm} {X Y cx : Nat} {x0 x1 x3 y0 y1 y3 a0 a1 a3 : V} (b : Bool) (xs ys : List Sg) (lx : xs.length ≤ 1000) (ly : ys.length ≤ 1000) (h9 : t 9 = .ptr X 0) (h10 : t 10 = .ptr Y 0) (h11 : t 11 = .ptr cx 0) (h12 : t 12 = .sl 21 (allL.flatMap Sg.cells) .no) (h13 : t 13 = vint 0) (h2 : t 2 = vbool b)
    (hX : m.obj X = some (.box [x0, x1, .sl xs.length (xs.flatMap Sg.cells) .no, x3] 84)) (hY : m.obj Y = some (.box [y0, y1, .sl ys.length (ys.flatMap Sg.cells) .no, y3] 84)) (hc : m.obj cx = some (.box [a0, a1, .sl 0 [] .exact, a3] 84)) (eX : X < m.next) (eY : Y < m.next) (ec : cx < m.next) (dX : X ≠ cx) (dY : Y ≠ cx) :
    (VC.loop c_theorboref10_mixed_b_p10).vx Tryz.prog Gd (fun e s' => e = .exit 2 ∧ MA (fun s => pBo b (memS xs s) (memS ys s)) cx a0 a1 a3 21 m s'.m) ⟨t, m⟩ := by
  have hl : (allL.flatMap Sg.cells).length = 21 * 3 := by rw [sgs_len, allL_len]
  have R1 := fun s => rhasSg_fn xs s (by omega)
  have R2 := fun s => rhasSg_fn ys s (by omega)
  generalize hp : (fun s => pBo b (memS xs s) (memS ys s)) = p
  have hpv : ∀ s, p s = pBo b (memS xs s) (memS ys s) := fun s => by rw [← hp]
  replace hpv := Hid.mk hpv
  replace R1 := Hid.mk R1
  replace R2 := Hid.mk R2
  have hAt := Hid.mk allL_take'
  generalize allL.flatMap Sg.cells = AL at *
  have hX0 := Hid.mk hX
  have hY0 := Hid.mk hY
  have ec0 := Hid.mk ec
  have eX0 := Hid.mk eX
  have eY0 := Hid.mk eY
  have dX0 := Hid.mk dX
  have dY0 := Hid.mk dY
  clear hp lx ly hX hY eX eY ec
  refine x_loopW w_theorboref10_mixed_b_p10 kr 21 (fun k t' m' => t' 13 = vint (k : Int) ∧ MA p cx a0 a1 a3 k m m') ?_ ?_
  · exact ⟨h13, _, hc, .inl ⟨by rw [pkS_zero]; rfl, rfl⟩, fun _ _ _ => rfl, Nat.le_refl _⟩
  clear hc h13
  rintro k t1 m1 hk ⟨h13, sv, hc, hsv, hfr, hnx⟩
  have hX1 := (hfr X eX0.out dX0.out).trans hX0.out
  have hY1 := (hfr Y eY0.out dY0.out).trans hY0.out
  have n1 : X < m1.next := by have := eX0.out; omega
  have n2 : Y < m1.next := by have := eY0.out; omega
  have n3 : cx < m1.next := by have := ec0.out; omega
  by_cases hlt : k < 21
  case neg =>
    have hk21 : k = 21 := by omega
    subst hk21
    have hfin : MA p cx a0 a1 a3 21 m m1 := ⟨sv, hc, hsv, hfr, hnx⟩
    replace hfin := Hid.mk hfin
    have c1 : ¬ ((21 : Nat) : Int) < 21 := by omega
    clear hsv hfr hnx hlt hk
    repeat' (with_reducible first | refine x_ops ?_ | refine wk ?_ | ((first | refine gd1 ?_ ?_ | refine gd2 ?_ ?_ | refine gd3 ?_ ?_) <;> (first | exact @False.elim _ | intro hc)))
    first | exact hfin.out | exact ⟨rfl, hfin.out⟩
  have g1 := hAt.out k hlt
  have c1 : (k : Int) < 21 := by omega
  have c3 : k * 3 + 3 ≤ 63 := by omega
  have w1 := w_add1 (k := k) (by omega)
  have A := R1.out (allL.getD k default)
  have B := R2.out (allL.getD k default)
  have hp1 := hpv.out (allL.getD k default)
  have hskip := pkS_skip p k hlt
  have hlt0 := Hid.mk hlt
  have hle := pkS_len p k
  have hle0 := Hid.mk hle
  have hS := fun (hpt : p (allL.getD k default) = true) (t' : Nat → V) (e1 : t' 11 = .ptr cx 0) (e2 : t' 12 = .sl 21 AL .no) (e3 : t' 13 = vint (k : Int)) => mixS_vx (a0 := a0) (a1 := a1) (a3 := a3) p hlt hpt e1 e2 e3 hl g1 hc hsv ec0.out hnx
  replace hS := Hid.mk hS
  rw [Sg.val] at A B
  generalize allL.getD k default = x at *
  generalize memS xs x = u1 at *
  generalize memS ys x = u2 at *
  rw [tL] at A B
  replace hskip := Hid.mk hskip
  replace hsv := Hid.mk hsv
  replace hfr := Hid.mk hfr
  have hnx0 := Hid.mk hnx
  clear hlt hk hle hnx
  by_cases hpx : p x = false
  · have hq : MA p cx a0 a1 a3 (k + 1) m m1 := ⟨sv, hc, by rw [hskip.out hpx]; exact hsv.out, hfr.out, hnx0.out⟩
    have hq0 := Hid.mk hq
    rw [hp1] at hpx
    clear hq hskip hS hsv hfr hp1
    obtain ⟨v, d, tt⟩ := x
    simp only [Sg.cells] at A B
    dsimp only at g1
    cases u1 <;> cases u2 <;> cases b <;> first
      | (cases hpx; done)
      | (repeat' (with_reducible first | refine x_ops ?_ | refine wk ?_ | (with_reducible refine xc (A) ?_) | (with_reducible refine xc (B) ?_) | ((first | refine gd1 ?_ ?_ | refine gd2 ?_ ?_ | refine gd3 ?_ ?_) <;> (first | exact @False.elim _ | intro hc)))
         exact nx hlt0.out ⟨vv, hq0.out⟩)
  have hpt : p x = true := by cases h : p x; exact absurd h hpx; rfl
  have hpb := hp1.symm.trans hpt
  have hS1 := Hid.mk (hS.out hpt)
  clear hS hsv hpt
  obtain ⟨v, d, tt⟩ := x
  simp only [Sg.cells] at A B
  dsimp only at g1
  cases u1 <;> cases u2 <;> cases b <;> first
    | (cases hpb; done)
    | (repeat' (with_reducible first | refine x_ops ?_ | refine wk ?_ | (with_reducible refine xc (A) ?_) | (with_reducible refine xc (B) ?_) | ((first | refine gd1 ?_ ?_ | refine gd2 ?_ ?_ | refine gd3 ?_ ?_) <;> (first | exact @False.elim _ | intro hc)))
       refine x_sum 21778071482940051990249417958599767949312 kr (R := fun e t' m' => e = .nrm ∧ MS1 p cx a0 a1 a3 k m.next m1 m') (hS1.out _ vw vw vw) ?_
       rintro e t' m' ⟨rfl, sv', e1, e2, e3, e4⟩
       have e5 : MA p cx a0 a1 a3 (k + 1) m m' := ⟨sv', e1, e2, fun z hz hzc => (e3 z hz hzc).trans (hfr.out z hz hzc), Nat.le_trans hnx0.out e4⟩
       replace e5 := Hid.mk e5
       clear e2 e3
       repeat' (with_reducible first | refine x_ops ?_ | refine wk ?_ | ((first | refine gd1 ?_ ?_ | refine gd2 ?_ ?_ | refine gd3 ?_ ?_) <;> (first | exact @False.elim _ | intro hc)))
       exact nx hlt0.out ⟨vv, e5.out⟩)
end Go.Proofs.YtdefefeifcdogaaGreat
namespace Go.Proofs.YtdefefeifcdogaaGreat
open Go.RowKit
set_option linter.unusedSimpArgs false
set_option linter.unusedVariables false

/-- The numbers are picked: the row stands in slot 18. -/
def MC1 (L : List Int) (m : Mm) (t' : Nat → V) (m' : Mm) : Prop := ∃ tok, t' 18 = .sl L.length (L.map vint) tok ∧ (∀ q, q < m.next → m'.obj q = m.obj q) ∧ m.next ≤ m'.next
set_option maxHeartbeats 4000000 in
theorem mixC_vx {t : Nat → V} {m : Mm} {X Y i : Nat} {x0 x1 x2 y0 y1 y2 : V} (b : Bool) (xe ye : List (List Int)) (hi : i < xe.length) (hi2 : i < ye.length) (lx : (xe.getD i []).length ≤ 1000) (ly : (ye.getD i []).length ≤ 1000) (h9 : t 9 = .ptr X 0) (h10 : t 10 = .ptr Y 0) (h17 : t 17 = vint (i : Int)) (h18 : t 18 = .sl 0 [] .exact) (h19 : t 19 = vint (-1)) (h2 : t 2 = vbool b)
    (hX : m.obj X = some (.box [x0, x1, x2, .sl xe.length (xe.map tIs) .no] 84)) (hY : m.obj Y = some (.box [y0, y1, y2, .sl ye.length (ye.map tIs) .no] 84)) (eX : X < m.next) (eY : Y < m.next) :
    (VC.loop c_theorboref10_mixed_b_p16).vx Tryz.prog Gd (fun e s' => e = .exit 8 ∧ MC1 (mxI b (xe.getD i []) (ye.getD i [])) m s'.t s'.m) ⟨t, m⟩ := by
  have g1 := iss_at (l := xe) (k := i) hi
  have g2 := iss_at (l := ye) (k := i) hi2
  have c1 : (i : Int) < (xe.length : Int) := by omega
  have c2 : (i : Int) < (ye.length : Int) := by omega
  have R1 := fun n => rhasIn_fn (xe.getD i []) n (by omega)
  have R2 := fun n => rhasIn_fn (ye.getD i []) n (by omega)
  generalize xe.getD i [] = xs at *
  generalize ye.getD i [] = ys at *
  generalize hp : (fun n => pBo b (memI xs n) (memI ys n)) = p
  have hM : mxI b xs ys = okI.filter p := by rw [mxI, mI, hp]
  have hpv : ∀ s, p s = pBo b (memI xs s) (memI ys s) := fun s => by rw [← hp]
  have hall : okI.take 20 = okI := List.take_of_length_le (by rw [okI_len]; omega)
  rw [hM, ← hall]
  replace hpv := Hid.mk hpv
  replace R1 := Hid.mk R1
  replace R2 := Hid.mk R2
  have hX0 := Hid.mk hX
  have hY0 := Hid.mk hY
  have eX0 := Hid.mk eX
  have eY0 := Hid.mk eY
  clear hp hM hall lx ly hX hY eX eY hi hi2
  refine x_loopW w_theorboref10_mixed_b_p16 kr 20 (fun u t' m' => t' 19 = vint ((u : Int) - 1) ∧ ∃ tok, t' 18 = .sl ((okI.take u).filter p).length (((okI.take u).filter p).map vint) tok ∧ Apb m' tok ((okI.take u).filter p).length 3 1 ∧ (∀ q, tok = .own q → m.next ≤ q) ∧ (∀ q, q < m.next → m'.obj q = m.obj q) ∧ m.next ≤ m'.next) ?_ ?_
  · exact ⟨h19, .exact, h18, .inl rfl, fun q h => (by cases h), fun _ _ => rfl, Nat.le_refl _⟩
  clear h18 h19
  rintro u t1 m1 hu ⟨h19, tok, h18, hap, htk, hfr, hnx⟩
  have hX1 := (hfr X eX0.out).trans hX0.out
  have hY1 := (hfr Y eY0.out).trans hY0.out
  have n1 : X < m1.next := by have := eX0.out; omega
  have n2 : Y < m1.next := by have := eY0.out; omega
  replace hap := Hid.mk hap
  replace htk := Hid.mk htk
  replace hfr := Hid.mk hfr
  have hnx0 := Hid.mk hnx
  by_cases hlt : u < 20
  case neg =>
    have hu20 : u = 20 := by omega
    have d1 : ¬ ((u : Int) - 1) ≤ 18 := by omega
    rw [hu20] at h18
    clear hlt hu hnx hu20
    repeat' (with_reducible first | refine x_ops ?_ | refine wk ?_ | ((first | refine gd1 ?_ ?_ | refine gd2 ?_ ?_ | refine gd3 ?_ ?_) <;> (first | exact @False.elim _ | intro hc)))
    exact ⟨tok, vw, hfr.out, hnx0.out⟩
  have d1 : ((u : Int) - 1) ≤ 18 := by omega
  have w1 : IntKind.i64.wrap (((u : Int) - 1) + 1) = (((u + 1 : Nat) : Int) - 1) := by rw [IntWalk.i64_in _ (by omega)]; omega
  have A := R1.out ((u : Int) - 1)
  have B := R2.out ((u : Int) - 1)
  have hp1 := hpv.out ((u : Int) - 1)
  have htf := take_filter p (l := okI) (k := u) (by rw [okI_len]; exact hlt)
  have hfl := filter_len p okI u
  rw [show okI.getD u default = (u : Int) - 1 from okI_at hlt] at htf
  have hlt0 := Hid.mk hlt
  simp only [tIs] at A B g1 g2
  generalize hF9 : (okI.take (u + 1)).filter p = F9 at *
  replace hF9 := Hid.mk hF9
  generalize (okI.take u).filter p = F8 at *
  generalize hn : (u : Int) - 1 = n at *
  generalize hn9 : (((u + 1 : Nat) : Int) - 1) = n9 at *
  generalize memI xs n = u1 at *
  generalize memI ys n = u2 at *
  generalize p n = pn at *
  replace hfl := Hid.mk hfl
  have hml : (F8.map vint).length = F8.length * 1 := by rw [List.length_map, Nat.mul_one]
  replace hml := Hid.mk hml
  replace hn9 := Hid.mk hn9
  clear hlt hu hnx hn
  by_cases hpx : pn = false
  · have hF : F9 = F8 := by rw [htf, if_neg (by rw [hpx]; simp), List.append_nil]
    replace hF := Hid.mk hF
    rw [hp1] at hpx
    clear htf hp1
    cases u1 <;> cases u2 <;> cases b <;> first
      | (cases hpx; done)
      | (repeat' (with_reducible first | refine x_ops ?_ | refine wk ?_ | (with_reducible refine xc (A) ?_) | (with_reducible refine xc (B) ?_) | ((first | refine gd1 ?_ ?_ | refine gd2 ?_ ?_ | refine gd3 ?_ ?_) <;> (first | exact @False.elim _ | intro hc)))
         refine nx hlt0.out ⟨by rw [hn9.out]; exact vv, tok, ?_, ?_, htk.out, hfr.out, ?_⟩
         · rw [hF9.out, hF.out]; exact vw
         · rw [hF9.out, hF.out]; exact hap.out.mono (fun _ _ _ => rfl) (by first | exact Nat.le_refl _ | exact Nat.le_add_right _ _ | exact Nat.le_of_eq hn3)
         · exact Nat.le_trans hnx0.out (by first | exact Nat.le_refl _ | exact Nat.le_add_right _ _ | exact Nat.le_of_eq hn3))
  have hpt : pn = true := by cases h : pn; exact absurd h hpx; rfl
  have hF : F9 = F8 ++ [n] := by rw [htf, if_pos hpt]
  replace hF := Hid.mk hF
  have hpb := hp1.symm.trans hpt
  clear htf hp1 hpx hpt
  cases u1 <;> cases u2 <;> cases b <;> first
    | (cases hpb; done)
    | (repeat' (with_reducible first | refine x_ops ?_ | refine wk ?_ | (with_reducible refine xc (A) ?_) | (with_reducible refine xc (B) ?_) | ((first | refine gd1 ?_ ?_ | refine gd2 ?_ ?_ | refine gd3 ?_ ?_) <;> (first | exact @False.elim _ | intro hc)))
       refine x_appc (n := F8.length) (xs := F8.map vint) (j := 1) (ys := [vint n]) (k := tok) (k2 := .exact) vw vw (hap.out.mono (fun _ _ _ => rfl) (by first | exact Nat.le_refl _ | exact Nat.le_add_right _ _ | exact Nat.le_of_eq hn3)) hml.out rfl (by have := hfl.out; have := hlt0.out; omega) (by have := hfl.out; have := hlt0.out; unfold Go.maxLen; omega) (by show m1.next + 3 < m1.next + 5; omega) ?_
       intro tok3 m3 hap3 hn3 hf3 hq3
       have hfr3 : ∀ q, q < m.next → m3.obj q = m.obj q := fun q hq => (hf3 q (by show ¬ q = m1.next + 3; have := hnx0.out; omega) (fun e => by have := htk.out q e; omega)).trans (hfr.out q hq)
       have htk3 : ∀ q, tok3 = .own q → m.next ≤ q := fun q e => by
         rcases hq3 q e with e | e
         · have e' : q = m1.next + 3 := e
           have := hnx0.out; omega
         · exact htk.out q e
       have hnn : m1.next ≤ m3.next := by rw [hn3]; exact Nat.le_add_right _ _
       replace hap3 := Hid.mk hap3
       replace hfr3 := Hid.mk hfr3
       replace htk3 := Hid.mk htk3
       replace hnn := Hid.mk hnn
       clear hf3 hq3 hX1 hY1 n1 n2
       repeat' (with_reducible first | refine x_ops ?_ | refine wk ?_ | ((first | refine gd1 ?_ ?_ | refine gd2 ?_ ?_ | refine gd3 ?_ ?_) <;> (first | exact @False.elim _ | intro hc)))
       refine nx hlt0.out ⟨by rw [hn9.out]; exact vv, tok3, ?_, ?_, htk3.out, hfr3.out, ?_⟩
       · rw [hF9.out, hF.out, List.length_append, List.map_append]; exact vw
       · rw [hF9.out, hF.out, List.length_append]; exact hap3.out.mono (fun _ _ _ => rfl) (by first | exact Nat.le_refl _ | exact Nat.le_add_right _ _ | exact Nat.le_of_eq hn3)
       · exact Nat.le_trans (Nat.le_trans hnx0.out hnn.out) (by first | exact Nat.le_refl _ | exact Nat.le_add_right _ _ | exact Nat.le_of_eq hn3))
end Go.Proofs.YtdefefeifcdogaaGreat
namespace Go.Proofs.YtdefefeifcdogaaGreat
open Go.RowKit
set_option linter.unusedSimpArgs false
set_option linter.unusedVariables false

/-- The cells are picked. -/
def MB1 (b : Bool) (xe ye : List (List Int)) (cx : Nat) (a0 a1 sv : V) (n : Nat) (m m' : Mm) : Prop := ∃ tok, m'.obj cx = some (.box [a0, a1, sv, .sl n ((ceK (mxI b) xe ye n).map tIs) tok] 84) ∧ Apb m' tok n 23 1 ∧ (∀ q, tok = .own q → m.next ≤ q) ∧ (∀ q, q < m.next → q ≠ cx → m'.obj q = m.obj q) ∧ m.next ≤ m'.next
set_option maxHeartbeats 4000000 in
theorem mixB_vx {t : Nat → V} {m : Mm} {X Y cx : Nat} {x0 x1 x2 y0 y1 y2 a0 a1 sv : V} (b : Bool) (xe ye : List (List Int)) (hxy : xe.length ≤ ye.length) (h14 : xe.length ≤ 14) (lx : ∀ j, j < xe.length → (xe.getD j []).length ≤ 1000 ∧ (ye.getD j []).length ≤ 1000) (h9 : t 9 = .ptr X 0) (h10 : t 10 = .ptr Y 0) (h11 : t 11 = .ptr cx 0) (h17 : t 17 = vint 0) (h2 : t 2 = vbool b)
    (hX : m.obj X = some (.box [x0, x1, x2, .sl xe.length (xe.map tIs) .no] 84)) (hY : m.obj Y = some (.box [y0, y1, y2, .sl ye.length (ye.map tIs) .no] 84)) (hc : m.obj cx = some (.box [a0, a1, sv, .sl 0 [] .exact] 84)) (eX : X < m.next) (eY : Y < m.next) (ec : cx < m.next) (dX : X ≠ cx) (dY : Y ≠ cx) :
    (VC.loop c_theorboref10_mixed_b_p22).vx Tryz.prog Gd (fun e s' => e = .exit 6 ∧ MB1 b xe ye cx a0 a1 sv xe.length m s'.m) ⟨t, m⟩ := by
  have hX0 := Hid.mk hX
  have hY0 := Hid.mk hY
  have ec0 := Hid.mk ec
  have eX0 := Hid.mk eX
  have eY0 := Hid.mk eY
  have dX0 := Hid.mk dX
  have dY0 := Hid.mk dY
  have lx0 := Hid.mk lx
  have hxy0 := Hid.mk hxy
  have h140 := Hid.mk h14
  clear hX hY eX eY ec lx hxy h14
  refine x_loopW w_theorboref10_mixed_b_p22 kr xe.length (fun j t' m' => t' 17 = vint (j : Int) ∧ MB1 b xe ye cx a0 a1 sv j m m') ?_ ?_
  · exact ⟨h17, .exact, hc, .inl rfl, fun q h => (by cases h), fun _ _ _ => rfl, Nat.le_refl _⟩
  clear hc h17
  rintro j t1 m1 hj ⟨h17, tok, hc, hap, htk, hfr, hnx⟩
  have hX1 := (hfr X eX0.out dX0.out).trans hX0.out
  have hY1 := (hfr Y eY0.out dY0.out).trans hY0.out
  have n1 : X < m1.next := by have := eX0.out; omega
  have n2 : Y < m1.next := by have := eY0.out; omega
  have n3 : cx < m1.next := by have := ec0.out; omega
  by_cases hlt : j < xe.length
  case neg =>
    have hjl : j = xe.length := by omega
    have hfin : MB1 b xe ye cx a0 a1 sv xe.length m m1 := ⟨tok, by rw [← hjl]; exact hc, by rw [← hjl]; exact hap, htk, hfr, hnx⟩
    replace hfin := Hid.mk hfin
    have d1 : ¬ (j : Int) < (xe.length : Int) := by omega
    clear hap htk hfr hnx hlt hj hjl hc
    repeat' (with_reducible first | refine x_ops ?_ | refine wk ?_ | ((first | refine gd1 ?_ ?_ | refine gd2 ?_ ?_ | refine gd3 ?_ ?_) <;> (first | exact @False.elim _ | intro hc)))
    first | exact hfin.out | exact ⟨rfl, hfin.out⟩
  have d1 : (j : Int) < (xe.length : Int) := by omega
  have w1 := w_add1 (k := j) (by have := h140.out; omega)
  have hll := lx0.out j hlt
  have K := fun (t' : Nat → V) (e1 : t' 9 = .ptr X 0) (e2 : t' 10 = .ptr Y 0) (e3 : t' 17 = vint (j : Int)) (e4 : t' 18 = .sl 0 [] .exact) (e5 : t' 19 = vint (-1)) (e6 : t' 2 = vbool b) => mixC_vx (t := t') b xe ye hlt (by have := hxy0.out; omega) hll.1 hll.2 e1 e2 e3 e4 e5 e6 hX1 hY1 n1 n2
  have hces := ceK_succ (mxI b) xe ye j
  have hcel : ((ceK (mxI b) xe ye j).map tIs).length = j * 1 := by rw [List.length_map, ceK_len, Nat.mul_one]
  have hlt0 := Hid.mk hlt
  have hj14 : j < 14 := by have := h140.out; omega
  generalize mxI b (xe.getD j []) (ye.getD j []) = z at *
  rw [show tIs z = .sl z.length (z.map vint) .no from rfl] at hces
  generalize hC9 : (ceK (mxI b) xe ye (j + 1)).map tIs = C9 at *
  generalize (ceK (mxI b) xe ye j).map tIs = C8 at *
  replace hC9 := Hid.mk hC9
  replace hces := Hid.mk hces
  replace hcel := Hid.mk hcel
  replace hj14 := Hid.mk hj14
  replace K := Hid.mk K
  replace hap := Hid.mk hap
  replace htk := Hid.mk htk
  replace hfr := Hid.mk hfr
  have hnx0 := Hid.mk hnx
  have hc0 := Hid.mk hc
  clear hll hlt hj hnx
  repeat' (with_reducible first | refine x_ops ?_ | refine wk ?_ | ((first | refine gd1 ?_ ?_ | refine gd2 ?_ ?_ | refine gd3 ?_ ?_) <;> (first | exact @False.elim _ | intro hc)))
  refine x_sum w_theorboref10_mixed_b_p16 kr (R := fun e t' m' => e = .exit 8 ∧ MC1 z m1 t' m') (K.out _ vw vw vw vw vw vw) ?_
  rintro e t2 m2 ⟨rfl, tok2, h18, hf2, hn2⟩
  have hc2 : m2.obj cx = _ := (hf2 cx n3).trans hc0.out
  have hap2 : Apb m2 tok j 23 1 := hap.out.mono (fun q hq _ => hf2 q hq) hn2
  have n4 : cx < m2.next := by omega
  have hfr2 : ∀ q, q < m.next → q ≠ cx → m2.obj q = m.obj q := fun q hq hqc => (hf2 q (by have := hnx0.out; omega)).trans (hfr.out q hq hqc)
  replace hap2 := Hid.mk hap2
  replace hfr2 := Hid.mk hfr2
  have hn20 := Hid.mk hn2
  have hc20 := Hid.mk hc2
  clear hX1 hY1 n1 n2 hc hf2 hn2
  repeat' (with_reducible first | refine x_ops ?_ | refine wk ?_ | ((first | refine gd1 ?_ ?_ | refine gd2 ?_ ?_ | refine gd3 ?_ ?_) <;> (first | exact @False.elim _ | intro hc)))
  refine x_appc (n := j) (xs := C8) (j := 1) (ys := [.sl z.length (z.map vint) .no]) (k := tok) (k2 := .exact) vw vw (hap2.out.mono (fun _ _ _ => rfl) (Nat.le_add_right _ _)) hcel.out rfl (by have := hj14.out; omega) (by have := hj14.out; unfold Go.maxLen; omega) (by show m2.next + 4 < m2.next + 7; omega) ?_
  intro tok3 m3 hap3 hn3 hf3 hq3
  have hn30 : m3.next = m2.next + 7 := hn3
  have hnn := hnx0.out
  have hn2n := hn20.out
  have hc3 : m3.obj cx = some (.box [a0, a1, sv, .sl j C8 tok] 84) := (hf3 cx (by show ¬ cx = m2.next + 4; omega) (fun e => by have := htk.out cx e; have := ec0.out; omega)).trans hc20.out
  have hfr3 : ∀ q, q < m.next → q ≠ cx → m3.obj q = m.obj q := fun q hq hqc => (hf3 q (by show ¬ q = m2.next + 4; omega) (fun e => by have := htk.out q e; omega)).trans (hfr2.out q hq hqc)
  have htk3 : ∀ q, tok3 = .own q → m.next ≤ q := fun q e => by
    rcases hq3 q e with e | e
    · have e' : q = m2.next + 4 := e
      omega
    · exact htk.out q e
  have hap4 := hap3.put (o := .box [a0, a1, sv, .sl (j + 1) (C8 ++ [.sl z.length (z.map vint) .no]) tok3] 84) hc3
  replace hap4 := Hid.mk hap4
  replace hfr3 := Hid.mk hfr3
  replace htk3 := Hid.mk htk3
  have hm3 : m.next ≤ m3.next := by omega
  replace hm3 := Hid.mk hm3
  clear hf3 hq3 hap3 hn3 hc2 hnn hn2n
  repeat' (with_reducible first | refine x_ops ?_ | refine wk ?_ | ((first | refine gd1 ?_ ?_ | refine gd2 ?_ ?_ | refine gd3 ?_ ?_) <;> (first | exact @False.elim _ | intro hc)))
  refine nx hlt0.out ⟨vv, tok3, ?_, ?_, htk3.out, fun q hq hqc => ?_, ?_⟩
  · rw [hC9.out, hces.out]
    first
      | exact vv
      | first | exact if_pos rfl | exact (if_pos trivial).trans rfl
  · exact hap4.out.mono (fun _ _ _ => rfl) (by show m3.next ≤ m2.next + 7; omega)
  · exact (if_neg hqc).trans (hfr3.out q hq hqc)
  · show m.next ≤ m2.next + 7
    have := hm3.out
    omega
end Go.Proofs.YtdefefeifcdogaaGreat
namespace Go.Proofs.YtdefefeifcdogaaGreat
open Go.RowKit
set_option linter.unusedSimpArgs false
set_option linter.unusedVariables false

theorem x_mem {P : Program} {G : Ground} {a : VC} {Q : VX → St → Prop} {t : Nat → V} {m : Mm} (F : Mm → Prop) (h0 : F m) (h : ∀ m', F m' → a.vx P G Q ⟨t, m'⟩) : a.vx P G Q ⟨t, m⟩ := h m h0
theorem Vws.wide {m m' : Mm} {S S' : Nat → Bool} (h : ∀ i, S i = true → S' i = true ∧ m'.obj i = m.obj i) : ∀ vs us, Vws m S vs us → Vws m' S' vs us := by
  have A : ∀ v u, Vw m S v u → Vw m' S' v u := fun v u hv =>
    Vw.rec (motive_1 := fun v u _ => Vw m' S' v u) (motive_2 := fun vs us _ => Vws m' S' vs us) (fun v => .lit v) (fun _ h => .agg h) (fun _ h => .tup h) (fun n xs k => .sl n xs k)
      (fun hS ho _ ha h2 => .ptr (h _ hS).1 ((h _ hS).2.trans ho) h2 ha) (fun hS ho _ ha h2 => .bsl (h _ hS).1 ((h _ hS).2.trans ho) h2 ha) (fun hS ho _ ha h2 => .gsl (h _ hS).1 ((h _ hS).2.trans ho) h2 ha) (fun xs o => .ept xs o) (fun _ h => .fn h) .nil (fun _ _ h1 h2 => .cons h1 h2) hv
  intro vs
  induction vs with
  | nil => intro us h; cases h; exact .nil
  | cons v vs ih => intro us h; cases h with | cons h1 h2 => exact .cons (A _ _ h1) (ih _ h2)
theorem Vws.app {m : Mm} {S : Nat → Bool} : ∀ {vs us vs' us' : List V}, Vws m S vs us → Vws m S vs' us' → Vws m S (vs ++ vs') (us ++ us')
  | [], _, _, _, h, h' => by cases h; exact h'
  | _ :: _, _, _, _, h, h' => by cases h with | cons h1 h2 => exact .cons h1 (Vws.app h2 h')
theorem rdS_one {m : Mm} {i size : Nat} {cs : List V} {t : TypeId} (ho : m.obj i = some (.box cs t)) (h1 : cs.length = size) (h2 : cs.all V.one = true) : rdS m size (.gsl i 1 size) = some (1, cs) := by
  unfold rdS
  simp only [ho, Nat.one_mul]
  have e : cs.take size = cs := List.take_of_length_le (by omega)
  rw [e, if_pos ⟨by omega, h2⟩]
/-- The columns that are made: a row that grows. -/
def CvR (m : Mm) (cv : V) (k : Nat) (us : List V) : Prop := (k = 0 ∧ cv = .sl 0 [] .exact ∧ us = []) ∨ (0 < k ∧ ∃ ic bx, 8 ≤ ic ∧ ic < m.next ∧ cv = .gsl ic k 4 ∧ m.obj ic = some (.box bx 84) ∧ Vws m (fun q => decide (8 ≤ q) && (decide (q < m.next) && (q != ic))) bx us ∧ bx.length = k * 4 ∧ bx.all V.one = true)
theorem SgV.vw {lo : Nat} {m : Mm} {sv : V} {L : List Sg} {S : Nat → Bool} (h : SgV lo m sv L) (hS : ∀ q, lo ≤ q → q < m.next → S q = true) : Vw m S sv (.sl L.length (L.flatMap Sg.cells) .no) ∧ sv.one = true := by
  rcases h with ⟨h0, rfl⟩ | ⟨_, q, h1, h2, rfl, ho⟩
  · rw [List.length_eq_zero_iff.1 h0]
    exact ⟨.sl _ _ _, rfl⟩
  · exact ⟨.gsl (hS q h1 h2) ho (sgs_vws L) (sgs_oneV L), rfl⟩
theorem SgV.vw2 {lo : Nat} {m M : Mm} {sv : V} {L : List Sg} {S : Nat → Bool} (h : SgV lo m sv L) (hS : ∀ q, lo ≤ q → q < m.next → S q = true ∧ M.obj q = m.obj q) : Vw M S sv (.sl L.length (L.flatMap Sg.cells) .no) := by
  rcases h with ⟨h0, rfl⟩ | ⟨_, q, h1, h2, rfl, ho⟩
  · rw [List.length_eq_zero_iff.1 h0]
    exact .sl _ _ _
  · exact .gsl (hS q h1 h2).1 ((hS q h1 h2).2.trans ho) (sgs_vws L) (sgs_oneV L)
theorem cv_step {m m3 M : Mm} {k c : Nat} {cv : V} {L8 us nc : List V} (hcv : CvR m cv k L8) (h8 : 8 < m.next) (hn : m.next ≤ m3.next) (hc : m3.next ≤ c) (hcM : c < M.next) (hold : ∀ q, q < m.next → m3.obj q = m.obj q)
    (hM : ∀ q, q ≠ 7 → q < m3.next → (∀ n, cv ≠ .gsl q n 4) → M.obj q = m3.obj q) (hb : ∀ bx, ((k = 0 ∧ bx = []) ∨ ∃ ic, cv = .gsl ic k 4 ∧ m.obj ic = some (.box bx 84)) → M.obj c = some (.box (bx ++ nc) 84))
    (hw : Vws M (fun q => decide (8 ≤ q) && (decide (q < M.next) && (q != c))) nc us) (h4 : nc.length = 4) (h1 : nc.all V.one = true) : CvR M (.gsl c (k + 1) 4) (k + 1) (L8 ++ us) := by
  rcases hcv with ⟨h0, _, rfl⟩ | ⟨_, ic, bx, hi1, hi2, rfl, hi4, hi5, hi6, hi7⟩
  · exact .inr ⟨Nat.succ_pos _, c, [] ++ nc, by omega, hcM, rfl, hb [] (.inl ⟨h0, rfl⟩), hw, by rw [List.nil_append, h4, h0], h1⟩
  · refine .inr ⟨Nat.succ_pos _, c, bx ++ nc, by omega, hcM, rfl, hb bx (.inr ⟨ic, rfl, hi4⟩), Vws.app (Vws.wide (fun i hi => ?_) _ _ hi5) hw, by rw [List.length_append, hi6, h4]; omega, by rw [List.all_append, hi7, h1]; rfl⟩
    rw [Bool.and_eq_true, Bool.and_eq_true, decide_eq_true_iff, decide_eq_true_iff, bne_iff_ne] at hi
    refine ⟨?_, ?_⟩
    · rw [Bool.and_eq_true, Bool.and_eq_true, decide_eq_true_iff, decide_eq_true_iff, bne_iff_ne]
      exact ⟨hi.1, by omega, by omega⟩
    · refine (hM i (by omega) (by omega) fun n e => ?_).trans (hold i hi.2.1)
      cases e
      exact hi.2.2 rfl
set_option maxHeartbeats 8000000 in
theorem rmixed_fn (b : Bool) (f g : Lf) (K : TwoOk f g) (hlen : ∀ i, i < f.cols.length → ((f.cols.getD i default).sgs.length ≤ 1000 ∧ (g.cols.getD i default).sgs.length ≤ 1000) ∧ ∀ j, j < (f.cols.getD i default).ce.length → ((f.cols.getD i default).ce.getD j []).length ≤ 1000 ∧ ((g.cols.getD i default).ce.getD j []).length ≤ 1000) :
    Fn Tryz.prog Gd 69 [f.val, g.val, vbool b] (cmbL (mxS b) (mxI b) f g).val := by
  refine Fn.of_vx0 k_theorboref10_mixed_b (by simp) (by rw [V.pures, pure_lf, V.pures, pure_lf]; rfl) ?_
  unfold c_theorboref10_mixed_b
  have CP := rcopy_fn f.ins (by have := K.c; omega) (by have := K.s; omega)
  have AL := rall_fn
  have hal : allL.length = 21 := allL_len
  rw [tL, hal] at AL
  have hcl := cmbL_len (mxS b) (mxI b) f g
  have hcs := fun k (h : k < f.cols.length) => flat_take_succ Clm.cells (cmbL (mxS b) (mxI b) f g).cols (k := k) (by rw [hcl]; exact h)
  have hca := fun k (h : k < f.cols.length) => cmbL_at (mxS b) (mxI b) f g h
  rw [show (cmbL (mxS b) (mxI b) f g).val = .agg [tL Crs.cells f.ins.cs, tIs f.ins.st, .sl f.cols.length ((cmbL (mxS b) (mxI b) f g).cols.flatMap Clm.cells) .no] from by rw [Lf.val, tL, tL, hcl]; rfl]
  generalize (cmbL (mxS b) (mxI b) f g).cols = CL at *
  replace hcs := Hid.mk hcs
  replace hca := Hid.mk hca
  have hK := Hid.mk K
  have hn0 := Hid.mk K.n
  replace hcl := Hid.mk hcl
  replace hlen := Hid.mk hlen
  have AL0 := Hid.mk AL
  clear K hal AL
  repeat' (with_reducible first | refine x_ops ?_ | refine wk ?_ | (with_reducible refine xc (CP) ?_) | ((first | refine gd1 ?_ ?_ | refine gd2 ?_ ?_ | refine gd3 ?_ ?_) <;> (first | exact @False.elim _ | intro hc)))
  clear CP
  refine x_loopW w_theorboref10_mixed_b_p31 kr f.cols.length (fun k t m => t 8 = vint (k : Int) ∧ (m.obj 0 = some (.box [.sl f.ins.cs.length (f.ins.cs.flatMap Crs.cells) .no, .sl f.ins.st.length (f.ins.st.map vint) .no, .sl f.cols.length (f.cols.flatMap Clm.cells) .no] 28) ∧ m.obj 1 = some (.box [.sl g.ins.cs.length (g.ins.cs.flatMap Crs.cells) .no, .sl g.ins.st.length (g.ins.st.map vint) .no, .sl g.cols.length (g.cols.flatMap Clm.cells) .no] 28) ∧ m.obj 2 = some (.box [.sl 0 [] .exact, .sl 0 [] .exact, .sl 0 [] .exact] 28) ∧ 8 < m.next) ∧ ∃ cv, m.obj 7 = some (.box [.sl f.ins.cs.length (f.ins.cs.flatMap Crs.cells) .no, .sl f.ins.st.length (f.ins.st.map vint) .no, cv] 28) ∧ CvR m cv k ((CL.take k).flatMap Clm.cells)) ?_ ?_
  · exact ⟨vv, ⟨vv, vv, vv, by show 8 < 9; omega⟩, .sl 0 [] .exact, vv, .inl ⟨rfl, rfl, rfl⟩⟩
  rintro k t m hk ⟨h8, ⟨hm0, hm1, hm2, hmn⟩, cv, hm7, hcv⟩
  have n0 : 0 < m.next := by omega
  have n1 : 1 < m.next := by omega
  have n2 : 2 < m.next := by omega
  have n7 : 7 < m.next := by omega
  by_cases hlt : k < f.cols.length
  case neg =>
    have c1 : ¬ (k : Int) < (f.cols.length : Int) := by omega
    have hkl : k = f.cols.length := by omega
    rw [hkl, List.take_of_length_le (by have := hcl.out; omega)] at hcv
    subst hkl
    replace hcv := Hid.mk hcv
    clear hlt hk hcs hca hlen hK
    rcases hcv.out with ⟨h1, rfl, h3⟩ | ⟨h1, ic, bx, h2, h3, rfl, h5, h6, h7, h9⟩
    · rw [h3, h1]
      rw [h1] at c1 hm0
      repeat' (with_reducible first | refine x_ops ?_ | refine wk ?_ | ((first | refine gd1 ?_ ?_ | refine gd2 ?_ ?_ | refine gd3 ?_ ?_) <;> (first | exact @False.elim _ | intro hc)))
      exact finV_ret vv (.agg (.cons (.sl _ _ _) (.cons (.sl _ _ _) (.cons (.sl _ _ _) .nil))))
    · have e1 : ¬ ic = 2 := by omega
      have h50 := Hid.mk h5
      have h60 := Hid.mk h6
      have h90 := Hid.mk h9
      clear h5 h6 h9
      repeat' (with_reducible first | refine x_ops ?_ | refine wk ?_ | ((first | refine gd1 ?_ ?_ | refine gd2 ?_ ?_ | refine gd3 ?_ ?_) <;> (first | exact @False.elim _ | intro hc)))
      refine finV_ret vv (.agg (.cons (.sl _ _ _) (.cons (.sl _ _ _) (.cons (.gsl (t := 84) rfl ?_ (Vws.wide (fun i hi => ⟨rfl, ?_⟩) _ _ h60.out) ?_) .nil))))
      · simp only [put_obj]
        rw [if_neg e1]
        exact h50.out
      · rw [Bool.and_eq_true, decide_eq_true_iff] at hi
        simp only [put_obj]
        rw [if_neg (by omega)]
      · have hl := Vws.length h60.out
        rw [List.all_eq_true]
        intro v hv
        obtain ⟨c, _, hc⟩ := List.mem_flatMap.1 hv
        simp only [Clm.cells, List.mem_cons, List.not_mem_nil, or_false] at hc
        rcases hc with rfl | rfl | rfl | rfl <;> rfl
  have hkg : k < g.cols.length := by have := hK.out.w; omega
  have g1 := clm_take (l := f.cols) (k := k) hlt
  have g2 := clms_len f.cols
  have g3 := clm_take (l := g.cols) (k := k) hkg
  have g4 := clms_len g.cols
  have c1 : (k : Int) < (f.cols.length : Int) := by omega
  have c2 : (k : Int) < (g.cols.length : Int) := by omega
  have c3 : k * 4 + 4 ≤ f.cols.length * 4 := by omega
  have c4 : k * 4 + 4 ≤ g.cols.length * 4 := by omega
  have w1 := w_add1 (k := k) (by have := hn0.out; omega)
  have hcs1 := hcs.out k hlt
  rw [hca.out k hlt] at hcs1
  have hlk := hlen.out k hlt
  have hce := hK.out.l k hlt
  have hlt0 := Hid.mk hlt
  have hmn0 := Hid.mk hmn
  have hk400 : k < 400 := by have := hn0.out; omega
  replace hk400 := Hid.mk hk400
  generalize f.cols.getD k default = x at *
  generalize g.cols.getD k default = y at *
  generalize hL9 : (CL.take (k + 1)).flatMap Clm.cells = L9 at *
  generalize (CL.take k).flatMap Clm.cells = L8 at *
  obtain ⟨xb, xt, xs, xe⟩ := x
  obtain ⟨yb, yt, ys, ye⟩ := y
  replace hlk : (xs.length ≤ 1000 ∧ ys.length ≤ 1000) ∧ ∀ j, j < xe.length → (xe.getD j []).length ≤ 1000 ∧ (ye.getD j []).length ≤ 1000 := hlk
  replace hce : xe.length ≤ 14 ∧ xe.length ≤ ye.length := hce
  replace hcs1 : L9 = L8 ++ [vbool xb, vbool xt, .sl (mxS b xs ys).length ((mxS b xs ys).flatMap Sg.cells) .no, .sl (ceK (mxI b) xe ye xe.length).length ((ceK (mxI b) xe ye xe.length).map tIs) .no] := hcs1
  rw [ceK_len] at hcs1
  replace hL9 := Hid.mk hL9
  replace hcs1 := Hid.mk hcs1
  replace hlk := Hid.mk hlk
  replace hce := Hid.mk hce
  replace hcv := Hid.mk hcv
  clear hlt hk hmn hkg
  have AL1 := AL0.out
  repeat' (with_reducible first | refine x_ops ?_ | refine wk ?_ | (with_reducible refine xc (AL1) ?_) | ((first | refine gd1 ?_ ?_ | refine gd2 ?_ ?_ | refine gd3 ?_ ?_) <;> (first | exact @False.elim _ | intro hc)))
  refine x_mem (fun m' => m'.next = m.next + 21 ∧ m'.obj (m.next + 10) = some (.box [vbool xb, vbool xt, .sl xs.length (xs.flatMap Sg.cells) .no, .sl xe.length (xe.map tIs) .no] 84) ∧ m'.obj (m.next + 11) = some (.box [vbool yb, vbool yt, .sl ys.length (ys.flatMap Sg.cells) .no, .sl ye.length (ye.map tIs) .no] 84) ∧
    m'.obj (m.next + 19) = some (.box [vbool xb, vbool xt, .sl 0 [] .exact, .sl 0 [] .exact] 84) ∧ ∀ q, q < m.next → m'.obj q = m.obj q) ⟨?_, ?_, ?_, ?_, fun q hq => ?_⟩ ?_
  · rfl
  · simp [put_obj]; exact ⟨rfl, rfl⟩
  · simp [put_obj]; exact ⟨rfl, rfl⟩
  · simp [put_obj]; try exact ⟨rfl, rfl⟩
  · simp only [put_obj]
    repeat rw [if_neg (by omega)]
  rintro m' ⟨hn', hX, hY, hc, hfr⟩
  have nX : m.next + 10 < m'.next := by omega
  have nY : m.next + 11 < m'.next := by omega
  have nc : m.next + 19 < m'.next := by omega
  have o7 := (hfr 7 n7).trans hm7
  have n7' : 7 < m'.next := by omega
  refine x_sum w_theorboref10_mixed_b_p10 kr (R := fun e t' m'' => e = .exit 2 ∧ MA (fun s => pBo b (memS xs s) (memS ys s)) (m.next + 19) (vbool xb) (vbool xt) (.sl 0 [] .exact) 21 m' m'') (mixA_vx (X := m.next + 10) (Y := m.next + 11) b xs ys hlk.out.1.1 hlk.out.1.2 vw vw vw vw vw vw hX hY hc nX nY nc (by omega) (by omega)) ?_
  rintro e t2 m2 ⟨rfl, sv, hc2, hsv, hf2, hn2⟩
  rw [pkS_all, show mS (fun s => pBo b (memS xs s) (memS ys s)) = mxS b xs ys from rfl] at hsv
  have hX2 := (hf2 _ nX (by omega)).trans hX
  have hY2 := (hf2 _ nY (by omega)).trans hY
  have o72 := (hf2 _ n7' (by omega)).trans o7
  have nX2 : m.next + 10 < m2.next := by omega
  have nY2 : m.next + 11 < m2.next := by omega
  have nc2 : m.next + 19 < m2.next := by omega
  have n72 : 7 < m2.next := by omega
  replace hsv := Hid.mk hsv
  clear hX hY hc o7
  repeat' (with_reducible first | refine x_ops ?_ | refine wk ?_ | ((first | refine gd1 ?_ ?_ | refine gd2 ?_ ?_ | refine gd3 ?_ ?_) <;> (first | exact @False.elim _ | intro hc)))
  refine x_sum w_theorboref10_mixed_b_p22 kr (R := fun e t' m'' => e = .exit 6 ∧ MB1 b xe ye (m.next + 19) (vbool xb) (vbool xt) sv xe.length m2 m'') (mixB_vx (X := m.next + 10) (Y := m.next + 11) b xe ye hce.out.2 hce.out.1 hlk.out.2 vw vw vw vw vw hX2 hY2 hc2 nX2 nY2 nc2 (by omega) (by omega)) ?_
  rintro e t3 m3 ⟨rfl, tok, hc3, hap3, htk3, hf3, hn3⟩
  have o73 := (hf3 _ n72 (by omega)).trans o72
  have n73 : 7 < m3.next := by omega
  have nc3 : m.next + 19 < m3.next := by omega
  have hk4 := hk400.out
  have b1 : (k + 1) * 56 ≤ 140737488355328 := by omega
  have b2 : k + 1 ≤ Go.maxLen := by unfold Go.maxLen; omega
  -- what became of the old boxes
  have hold : ∀ q, q < m.next → m3.obj q = m.obj q := fun q hq => ((hf3 q (by omega) (by omega)).trans (hf2 q (by omega) (by omega))).trans (hfr q hq)
  have hsv3 : SgV (m.next + 21) m3 sv (mxS b xs ys) := by
    rw [← hn']
    rcases hsv.out with ⟨h1, h2⟩ | ⟨h1, q, q1, q2, h2, h3⟩
    · exact .inl ⟨h1, h2⟩
    · exact .inr ⟨h1, q, q1, by omega, h2, (hf3 q q2 (by omega)).trans h3⟩
  replace hsv3 := Hid.mk hsv3
  replace hold := Hid.mk hold
  clear hap3 htk3 hf3 hX2 hY2 hc2 o72 hf2
  have hone : sv.one = true := (hsv3.out.vw (S := fun _ => true) (fun _ _ _ => rfl)).2
  have hw : ∀ {M : Mm} {S : Nat → Bool}, (∀ q, m.next + 21 ≤ q → q < m3.next → S q = true ∧ M.obj q = m3.obj q) → Vws M S [vbool xb, vbool xt, sv, .sl xe.length ((ceK (mxI b) xe ye xe.length).map tIs) tok]
      [vbool xb, vbool xt, .sl (mxS b xs ys).length ((mxS b xs ys).flatMap Sg.cells) .no, .sl xe.length ((ceK (mxI b) xe ye xe.length).map tIs) .no] := fun hS => .cons (.lit _) (.cons (.lit _) (.cons (hsv3.out.vw2 hS) (.cons (.sl _ _ _) .nil)))
  replace hw := Hid.mk @hw
  rcases hcv.out with ⟨hk0, rfl, hL8⟩ | ⟨hk0, ic, bx, hi1, hi2, rfl, hi4, hi5, hi6, hi7⟩
  · replace hk0 := Hid.mk hk0
    repeat' (with_reducible first | refine x_ops ?_ | refine wk ?_ | ((first | refine gd1 ?_ ?_ | refine gd2 ?_ ?_ | refine gd3 ?_ ?_) <;> (first | exact @False.elim _ | intro hc)))
    refine x_appM0 (n := 0) (xs := []) (j := 1) (ys := [vbool xb, vbool xt, sv, .sl xe.length ((ceK (mxI b) xe ye xe.length).map tIs) tok]) vw ?_ rfl (by decide) (by decide) ?_
    · (refine ve ?_; try exact True.intro)
      exact rdS_one (if_pos rfl) rfl (by simp only [List.all_cons, List.all_nil, hone, Bool.and_true]; rfl)
    rw [if_neg (by decide)]
    have f1 : ¬ m3.next = 3 := by omega
    have f2 : ¬ m3.next = 4 := by omega
    have hlt := hlt0.out
    have hold' := hold.out
    have hm0' := (hold' 0 n0).trans hm0
    have hm1' := (hold' 1 n1).trans hm1
    have hm2' := (hold' 2 n2).trans hm2
    repeat' (with_reducible first | refine x_ops ?_ | refine wk ?_ | ((first | refine gd1 ?_ ?_ | refine gd2 ?_ ?_ | refine gd3 ?_ ?_) <;> (first | exact @False.elim _ | intro hc)))
    have hmm := hmn0.out
    have key : ∀ M : Mm, M.next = m3.next + 7 → M.obj 7 = some (.box [.sl f.ins.cs.length (f.ins.cs.flatMap Crs.cells) .no, .sl f.ins.st.length (f.ins.st.map vint) .no, .gsl (m3.next + 4) 1 4] 28) → M.obj (m3.next + 4) = some (.box [vbool xb, vbool xt, sv, .sl xe.length ((ceK (mxI b) xe ye xe.length).map tIs) tok] 84) →
        (∀ q, q ≠ 7 → q < m3.next → M.obj q = m3.obj q) → (M.obj 0 = some (.box [.sl f.ins.cs.length (f.ins.cs.flatMap Crs.cells) .no, .sl f.ins.st.length (f.ins.st.map vint) .no, .sl f.cols.length (f.cols.flatMap Clm.cells) .no] 28) ∧ M.obj 1 = some (.box [.sl g.ins.cs.length (g.ins.cs.flatMap Crs.cells) .no, .sl g.ins.st.length (g.ins.st.map vint) .no, .sl g.cols.length (g.cols.flatMap Clm.cells) .no] 28) ∧
          M.obj 2 = some (.box [.sl 0 [] .exact, .sl 0 [] .exact, .sl 0 [] .exact] 28) ∧ 8 < M.next) ∧ ∃ cv, M.obj 7 = some (.box [.sl f.ins.cs.length (f.ins.cs.flatMap Crs.cells) .no, .sl f.ins.st.length (f.ins.st.map vint) .no, cv] 28) ∧ CvR M cv (k + 1) ((CL.take (k + 1)).flatMap Clm.cells) := by
      intro M e1 e2 e3 e4
      refine ⟨⟨(e4 0 (by omega) (by omega)).trans hm0', (e4 1 (by omega) (by omega)).trans hm1', (e4 2 (by omega) (by omega)).trans hm2', by omega⟩, _, e2, ?_⟩
      have hk1 : (.gsl (m3.next + 4) 1 4 : V) = .gsl (m3.next + 4) (k + 1) 4 := by rw [hk0.out]
      rw [hk1, hL9.out, hcs1.out]
      refine cv_step hcv.out hmm (by omega) (by omega) (by omega) hold' (fun q h1 h2 _ => e4 q h1 h2) (fun bx h => ?_) (hw.out fun q h1 h2 => ⟨?_, e4 q (by omega) h2⟩) rfl (by simp only [List.all_cons, List.all_nil, hone, Bool.and_true]; rfl)
      · rcases h with ⟨_, rfl⟩ | ⟨ic, h, _⟩
        · exact e3
        · cases h
      · rw [Bool.and_eq_true, Bool.and_eq_true, decide_eq_true_iff, decide_eq_true_iff, bne_iff_ne]
        exact ⟨by omega, by omega, by omega⟩
    refine nx hlt ⟨vv, key _ rfl ?_ ?_ fun q h1 h2 => ?_⟩
    · simp only [put_obj]
      exact if_pos trivial
    · simp only [put_obj]
      rw [if_neg (by omega)]
      exact (if_pos trivial).trans rfl
    · simp only [put_obj]
      repeat rw [if_neg (by omega)]
  · have hk00 := Hid.mk hk0
    have hi50 := Hid.mk hi5
    have hi10 := Hid.mk hi1
    have hi20 := Hid.mk hi2
    have d1 : bx.take (k * 4) = bx := List.take_of_length_le (by omega)
    have d2 : k * 4 ≤ bx.length := by omega
    have oic : m3.obj ic = some (.box bx 84) := (hold.out ic hi2).trans hi4
    have n3ic : ic < m3.next := by omega
    have f1 : ¬ m3.next = 3 := by omega
    have f2 : ¬ m3.next = 4 := by omega
    have f3 : ¬ ic = 7 := by omega
    have f4 : ¬ 7 = ic := by omega
    have f5 : ¬ ic = m3.next + 3 := by omega
    have f6 : ¬ ic = m3.next + 4 := by omega
    have hi40 := Hid.mk hi4
    have hi60 := Hid.mk hi6
    have hi70 := Hid.mk hi7
    clear hk0 hi5 hi1 hi2 hi4 hi6
    repeat' (with_reducible first | refine x_ops ?_ | refine wk ?_ | ((first | refine gd1 ?_ ?_ | refine gd2 ?_ ?_ | refine gd3 ?_ ?_) <;> (first | exact @False.elim _ | intro hc)))
    refine x_appM (q := ic) (n := k) (cs := bx) (j := 1) (ys := [vbool xb, vbool xt, sv, .sl xe.length ((ceK (mxI b) xe ye xe.length).map tIs) tok]) vw ?_ ?_ d2 (by rw [d1]; exact hi70.out) b1 b2 ?_
    · (refine ve ?_; try exact True.intro)
      exact rdS_one (if_pos rfl) rfl (by simp only [List.all_cons, List.all_nil, hone, Bool.and_true]; rfl)
    · simp only [put_obj]
      rw [if_neg f5]
      exact oic
    rw [d1]
    have hlt := hlt0.out
    have hold' := hold.out
    have hm0' := (hold' 0 n0).trans hm0
    have hm1' := (hold' 1 n1).trans hm1
    have hm2' := (hold' 2 n2).trans hm2
    repeat' (with_reducible first | refine x_ops ?_ | refine wk ?_ | ((first | refine gd1 ?_ ?_ | refine gd2 ?_ ?_ | refine gd3 ?_ ?_) <;> (first | exact @False.elim _ | intro hc)))
    have hmm := hmn0.out
    have key : ∀ M : Mm, M.next = m3.next + 7 → M.obj 7 = some (.box [.sl f.ins.cs.length (f.ins.cs.flatMap Crs.cells) .no, .sl f.ins.st.length (f.ins.st.map vint) .no, .gsl (m3.next + 4) (k + 1) 4] 28) → M.obj (m3.next + 4) = some (.box (bx ++ [vbool xb, vbool xt, sv, .sl xe.length ((ceK (mxI b) xe ye xe.length).map tIs) tok]) 84) →
        (∀ q, q ≠ 7 → q < m3.next → q ≠ ic → M.obj q = m3.obj q) → (M.obj 0 = some (.box [.sl f.ins.cs.length (f.ins.cs.flatMap Crs.cells) .no, .sl f.ins.st.length (f.ins.st.map vint) .no, .sl f.cols.length (f.cols.flatMap Clm.cells) .no] 28) ∧ M.obj 1 = some (.box [.sl g.ins.cs.length (g.ins.cs.flatMap Crs.cells) .no, .sl g.ins.st.length (g.ins.st.map vint) .no, .sl g.cols.length (g.cols.flatMap Clm.cells) .no] 28) ∧
          M.obj 2 = some (.box [.sl 0 [] .exact, .sl 0 [] .exact, .sl 0 [] .exact] 28) ∧ 8 < M.next) ∧ ∃ cv, M.obj 7 = some (.box [.sl f.ins.cs.length (f.ins.cs.flatMap Crs.cells) .no, .sl f.ins.st.length (f.ins.st.map vint) .no, cv] 28) ∧ CvR M cv (k + 1) ((CL.take (k + 1)).flatMap Clm.cells) := by
      intro M e1 e2 e3 e4
      have j1 := hi10.out
      have j2 := hi20.out
      refine ⟨⟨(e4 0 (by omega) (by omega) (by omega)).trans hm0', (e4 1 (by omega) (by omega) (by omega)).trans hm1', (e4 2 (by omega) (by omega) (by omega)).trans hm2', by omega⟩, _, e2, ?_⟩
      rw [hL9.out, hcs1.out]
      refine cv_step hcv.out hmm (by omega) (by omega) (by omega) hold' (fun q h1 h2 h3 => e4 q h1 h2 fun e => h3 k (by rw [e])) (fun bx' h => ?_) (hw.out fun q h1 h2 => ⟨?_, e4 q (by omega) h2 (by omega)⟩) rfl (by simp only [List.all_cons, List.all_nil, hone, Bool.and_true]; rfl)
      · rcases h with ⟨h, _⟩ | ⟨ic', h, h'⟩
        · exact absurd h (by have := hk00.out; omega)
        · cases h
          rw [hi40.out] at h'
          cases h'
          exact e3
      · rw [Bool.and_eq_true, Bool.and_eq_true, decide_eq_true_iff, decide_eq_true_iff, bne_iff_ne]
        exact ⟨by omega, by omega, by omega⟩
    refine nx hlt ⟨vv, key _ rfl ?_ ?_ fun q h1 h2 h3 => ?_⟩
    · simp only [put_obj]
      exact if_pos trivial
    · simp only [put_obj]
      rw [if_neg (by omega)]
      exact (if_pos trivial).trans rfl
    · simp only [put_obj, del_obj]
      repeat rw [if_neg (by omega)]
end Go.Proofs.YtdefefeifcdogaaGreat
namespace Go.Proofs.YtdefefeifcdogaaGreat
open Go.RowKit
set_option linter.unusedSimpArgs false
set_option linter.unusedVariables false

/-- Stops in rising order of courses 1 to n, frets from 0. -/
structure StOk (n : Nat) (l : List Stp) : Prop where
  r : ∀ j, j < l.length → 1 ≤ (l.getD j default).co ∧ (l.getD j default).co ≤ n
  f : ∀ j, j < l.length → 0 ≤ (l.getD j default).fr
  s : ∀ j, j + 1 < l.length → (l.getD j default).co < (l.getD (j + 1) default).co
theorem StOk.lt {n : Nat} {l : List Stp} (h : StOk n l) {j : Nat} : ∀ {j' : Nat}, j < j' → j' < l.length → (l.getD j default).co < (l.getD j' default).co
  | 0, h1, _ => by omega
  | j' + 1, h1, h2 => by
    by_cases e : j = j'
    · subst e; exact h.s j h2
    · have := h.lt (j := j) (j' := j') (by omega) (by omega)
      have := h.s j' h2
      omega
theorem EvOk.stOk {p : Pce} {i : Nat} {x : Evt} (h : EvOk p i x) : StOk p.ins.cs.length x.ss where
  r j hj := (stp_zero (h.st j hj)).1
  f j hj := (stp_zero (h.st j hj)).2.1.1
  s j hj := by have := (stp_zero (h.st (j + 1) hj)).2.2.1; rw [lstC_succ] at this; exact this
end Go.Proofs.YtdefefeifcdogaaGreat
namespace Go.Proofs.YtdefefeifcdogaaGreat
open Go.RowKit
set_option linter.unusedSimpArgs false
set_option linter.unusedVariables false

/-- Is a piece read from a leaf (both valid)? -/
def rb (f : Lf) (p : Pce) : Bool := shpB f (lfO p) && insB (lfO p) f
end Go.Proofs.YtdefefeifcdogaaGreat
namespace Go.Proofs.YtdefefeifcdogaaGreat
open Go.RowKit
set_option linter.unusedSimpArgs false
set_option linter.unusedVariables false

theorem ceK_at (C : List Int → List Int → List Int) (a b : List (List Int)) {k j : Nat} (h : j < k) : (ceK C a b k).getD j [] = C (a.getD j []) (b.getD j []) := by
  rw [List.getD_eq_getElem?_getD, ceK, List.getElem?_map, List.getElem?_range h]; rfl
end Go.Proofs.YtdefefeifcdogaaGreat
namespace Go.Proofs.YtdefefeifcdogaaGreat
open Go.RowKit
set_option maxRecDepth 100000
def d_83 : Fd := ⟨160, (.seq (.ops 4 [oo 2 .boxE [.t 0], oo 3 .boxE [.t 1], oo 4 (.alloc 88 [(.lit (.pointer none))]) [], oo 5 (.alloc 38 [li 0]) []]) (.seq (.ops 10 [oo 19 (.ldA 3) [.t 2], oo 20 (.ldA 12) [.t 3], ⟨(some 21), none, (.build [li 0, (.sl 0 [] .exact), (.sl 0 [] .exact), (.sl 0 [] .exact), (.sl 0 [] .exact), (.sl 0 [] .exact), li 0, (.lit (.bool false))] [(6, 1)]), [kk 1], none⟩, oo 22 (.box 108) [.t 21], oo 23 (.mkslB 99 1 1 [(.lit (.pointer none))] [(0, 1)]) [.t 22], ⟨(some 24), none, (.mkslB 95 1 1 [(.sl 0 [] .exact)] [(0, 1)]), [.t 23], none⟩, ⟨(some 25), none, (.build [(.sl 0 [] .exact), (.sl 0 [] .exact), (.sl 0 [] .exact), (.sl 0 [] .exact), (.sl 0 [] .exact), (.sl 0 [] .exact), li 0, li 0, li 0, li 0, li 0, li 0, li 0, li 0, (.lit (.bool false)), (.sl 0 [] .exact), li 0] [(0, 3), (3, 12), (15, 1)]), [.t 19, .t 20, .t 24], none⟩, oo 26 (.box 98) [.t 25], oo 6 (.alloc 88 [(.lit (.pointer none))]) [], ⟨none, none, (.st 1), [.t 6, .t 26], none⟩]) (.seq (.seq (.ops 0 [oo 27 (.fldA 2) [.t 2], oo 28 .ld1 [.t 27], oo 29 .len [.t 28], oo 30 .mv [kk 0]]) (.block 0 (.loop (.seq (.ops 0 [oo 31 (.bin .lss) [.t 30, .t 29]]) (.seq (.cond (.t 31) .skip (.exit 0)) (.seq (.block 1 (.seq (.ops 6 [oo 32 .mv [.t 30], oo 33 (.ixA 4) [.t 28, .t 30], oo 34 (.ldA 4) [.t 33], ⟨(some 8), none, (.alloc 84 [(.lit (.bool false)), (.lit (.bool false)), (.sl 0 [] .exact), (.sl 0 [] .exact)]), [], none⟩, oo 7 .mv [.t 32], ⟨none, none, (.st 4), [.t 8, .t 34], none⟩]) (.seq (.ops 0 [oo 35 .ld1 [.t 6], oo 36 .mv [.t 7], oo 37 .nilck [.t 35], oo 38 (.fldA 16) [.t 37], ⟨none, none, (.st 1), [.t 38, .t 36], none⟩]) (.seq (.seq (.ops 0 [oo 39 (.ldA 4) [.t 8], oo 40 (.call 151) [.t 39], oo 41 (.un .not) [.t 40]]) (.cond (.t 41) (.seq (.ops 0 [oo 42 .ld1 [.t 6], ⟨none, none, (.st 1), [.t 4, .t 42], none⟩, ⟨none, none, (.st 1), [.t 5, kk 2], none⟩]) .ret) .skip)) (.seq (.ops 3 [oo 43 (.mkmap [2]) [], oo 9 (.alloc 206 [(.lit (.map none))]) [], ⟨none, none, (.st 1), [.t 9, .t 43], none⟩]) (.seq (.ops 1 [⟨(some 10), none, (.alloc 95 [(.sl 0 [] .exact)]), [], none⟩]) (.seq (.seq (.ops 0 [oo 44 .ld1 [.t 6], oo 45 .nilck [.t 44], oo 46 (.fldA 15) [.t 45], oo 47 .ld1 [.t 46], oo 48 .mv [.t 7], oo 49 (.ixA 1) [.t 47, .t 48], oo 50 .ld1 [.t 49], oo 51 .len [.t 50], oo 52 .mv [kk 0]]) (.block 2 (.loop (.seq (.ops 0 [oo 53 (.bin .lss) [.t 52, .t 51]]) (.seq (.cond (.t 53) .skip (.exit 2)) (.seq (.block 3 (.seq (.ops 4 [oo 54 (.ixA 1) [.t 50, .t 52], oo 55 .ld1 [.t 54], oo 12 (.alloc 99 [(.lit (.pointer none))]) [], ⟨none, none, (.st 1), [.t 12, .t 55], none⟩]) (.seq (.ops 0 [oo 56 (.ldA 4) [.t 8], oo 57 (.call 152) [.t 56]]) (.block 4 (.rangeF 160 (.t 57) #[58] (.region 14 #[(.mk (some 13) (.alloc 112) 0 "search.go:191" #[] none), (.mk none (.store 112 (.tmp 13) (.tmp 58)) 0 "search.go:191" #[(.mk 0 .data), (.mk 0 .phase)] none)] false) (.block 5 (.seq (.region 15 #[(.mk (some 60) (.load 88 (.tmp 6)) 88 "search.go:192" #[] none), (.mk (some 61) (.load 99 (.tmp 12)) 99 "search.go:192" #[] none), (.mk (some 62) (.nilCheck (.tmp 61)) 0 "search.go:192" #[(.mk 1 .data)] none), (.mk (some 63) (.fieldAddr 108 (.tmp 62) 0) 0 "search.go:192" #[(.mk 2 .data)] none), (.mk (some 64) (.load 105 (.tmp 63)) 105 "search.go:192" #[(.mk 3 .data)] none), (.mk (some 65) (.load 84 (.tmp 8)) 84 "search.go:192" #[] none), (.mk (some 66) (.load 112 (.tmp 13)) 112 "search.go:192" #[] none), (.mk (some 67) (.call (.mk (.value (.func 153)) #[(.tmp 60), (.tmp 64), (.tmp 65), (.tmp 66)] #[88, 105, 84, 112])) 210 "search.go:192" #[(.mk 0 .data), (.mk 4 .data), (.mk 5 .data), (.mk 6 .data)] none), (.mk (some 59) (.move (.tmp 67)) 210 "search.go:192" #[(.mk 7 .data)] none), (.mk (some 68) (.extract (.tmp 59) 0) 105 "search.go:192" #[(.mk 8 .data)] none), (.mk (some 69) (.extract (.tmp 59) 1) 4 "search.go:192" #[(.mk 8 .data), (.mk 13 (.gcOnly .lateStores))] none), (.mk (some 70) (.extract (.tmp 59) 2) 38 "search.go:192" #[(.mk 8 .data), (.mk 14 (.gcOnly .lateStores))] none), (.mk (some 14) (.alloc 105) 0 "search.go:192" #[] none), (.mk none (.store 105 (.tmp 14) (.tmp 68)) 0 "search.go:192" #[(.mk 12 .data), (.mk 9 .data), (.mk 7 .chain), (.mk 0 .phase), (.mk 1 .phase), (.mk 2 .phase), (.mk 3 .phase), (.mk 4 .phase), (.mk 5 .phase), (.mk 6 .phase), (.mk 7 .phase), (.mk 8 .phase), (.mk 9 .phase), (.mk 10 (.textOnly .lateStores)), (.mk 11 (.textOnly .lateStores)), (.mk 12 .phase)] none), (.mk (some 15) (.assign (.tmp 69)) 4 "search.go:192" #[(.mk 10 .data), (.mk 13 .chain), (.mk 0 .phase), (.mk 1 .phase), (.mk 2 .phase), (.mk 3 .phase), (.mk 4 .phase), (.mk 5 .phase), (.mk 6 .phase), (.mk 7 .phase), (.mk 8 .phase), (.mk 9 .phase), (.mk 10 .phase), (.mk 11 (.textOnly .lateStores)), (.mk 12 .phase), (.mk 13 .phase)] none), (.mk (some 16) (.assign (.tmp 70)) 38 "search.go:192" #[(.mk 11 .data), (.mk 14 .chain), (.mk 0 .phase), (.mk 1 .phase), (.mk 2 .phase), (.mk 3 .phase), (.mk 4 .phase), (.mk 5 .phase), (.mk 6 .phase), (.mk 7 .phase), (.mk 8 .phase), (.mk 9 .phase), (.mk 10 .phase), (.mk 11 .phase), (.mk 12 .phase), (.mk 13 .phase), (.mk 14 .phase)] none)] true) (.seq (.seq (.region 16 #[(.mk (some 71) (.move (.tmp 16)) 38 "search.go:193" #[] none), (.mk (some 72) (.binOp .neq 38 (.tmp 71) (.const (.int .i64 0)) 38) 4 "search.go:193" #[(.mk 0 .data)] none)] false) (.cond (.tmp 72) (.seq (.region 17 #[(.mk (some 73) (.load 88 (.tmp 6)) 88 "search.go:194" #[] none), (.mk (some 74) (.move (.tmp 16)) 38 "search.go:194" #[(.mk 2 (.gcOnly .lateStores))] none), (.mk none (.store 88 (.tmp 4) (.tmp 73)) 0 "search.go:194" #[(.mk 0 .data), (.mk 0 .phase), (.mk 1 (.textOnly .lateStores))] none), (.mk none (.store 38 (.tmp 5) (.tmp 74)) 0 "search.go:194" #[(.mk 1 .data), (.mk 2 .chain), (.mk 0 .phase), (.mk 1 .phase), (.mk 2 .phase)] none)] false) .ret) .skip)) (.seq (.seq (.region 18 #[(.mk (some 75) (.move (.tmp 15)) 4 "search.go:196" #[] none), (.mk (some 76) (.unOp .not 4 (.tmp 75)) 4 "search.go:196" #[(.mk 0 .data)] none)] false) (.cond (.tmp 76) (.exit 5) .skip)) (.seq (.region 19 #[(.mk (some 78) (.load 206 (.tmp 9)) 206 "search.go:199" #[] none), (.mk (some 79) (.load 105 (.tmp 14)) 105 "search.go:199" #[] none), (.mk (some 80) (.call (.mk (.value (.func 154)) #[(.tmp 79)] #[105])) 9 "search.go:199" #[(.mk 1 .data)] none), (.mk (some 81) (.lookup 206 (.tmp 78) (.tmp 80) true) 212 "search.go:199" #[(.mk 0 .data), (.mk 2 .data)] none), (.mk (some 77) (.move (.tmp 81)) 212 "search.go:199" #[(.mk 3 .data)] none), (.mk (some 82) (.extract (.tmp 77) 0) 3 "search.go:199" #[(.mk 4 .data)] none), (.mk (some 83) (.extract (.tmp 77) 1) 4 "search.go:199" #[(.mk 4 .data), (.mk 7 (.gcOnly .lateStores))] none), (.mk (some 17) (.assign (.tmp 82)) 3 "search.go:199" #[(.mk 5 .data), (.mk 2 .chain), (.mk 0 .phase), (.mk 1 .phase), (.mk 2 .phase), (.mk 3 .phase), (.mk 4 .phase), (.mk 5 .phase), (.mk 6 (.textOnly .lateStores))] none), (.mk (some 18) (.assign (.tmp 83)) 4 "search.go:199" #[(.mk 6 .data), (.mk 7 .chain), (.mk 0 .phase), (.mk 1 .phase), (.mk 2 .phase), (.mk 3 .phase), (.mk 4 .phase), (.mk 5 .phase), (.mk 6 .phase), (.mk 7 .phase)] none)] true) (.seq (.seq (.region 20 #[(.mk (some 84) (.move (.tmp 18)) 4 "search.go:200" #[] none), (.mk (some 85) (.unOp .not 4 (.tmp 84)) 4 "search.go:200" #[(.mk 0 .data)] none)] false) (.cond (.tmp 85) (.seq (.region 21 #[(.mk (some 86) (.load 95 (.tmp 10)) 95 "search.go:201" #[] none), (.mk (some 87) (.call (.mk (.builtin .len) #[(.tmp 86)] #[95])) 3 "search.go:201" #[(.mk 0 .data)] none), (.mk (some 17) (.assign (.tmp 87)) 3 "search.go:201" #[(.mk 1 .data), (.mk 0 .phase), (.mk 1 .phase)] none)] false) (.seq (.region 22 #[(.mk (some 88) (.load 206 (.tmp 9)) 206 "search.go:202" #[] none), (.mk (some 89) (.load 105 (.tmp 14)) 105 "search.go:202" #[] none), (.mk (some 90) (.call (.mk (.value (.func 154)) #[(.tmp 89)] #[105])) 9 "search.go:202" #[(.mk 1 .data)] none), (.mk (some 91) (.move (.tmp 17)) 3 "search.go:202" #[] none), (.mk none (.mapUpdate 206 (.tmp 88) (.tmp 90) (.tmp 91)) 0 "search.go:202" #[(.mk 0 .data), (.mk 2 .data), (.mk 3 .data), (.mk 2 .chain), (.mk 0 .phase), (.mk 1 .phase), (.mk 2 .phase), (.mk 3 .phase)] none)] true) (.region 23 #[(.mk (some 92) (.load 95 (.tmp 10)) 95 "search.go:203" #[] none), (.mk (some 93) (.load 105 (.tmp 14)) 105 "search.go:203" #[] none), (.mk (some 94) (.build 108 #[(0, (.tmp 93))]) 108 "search.go:203" #[(.mk 1 .data)] none), (.mk (some 95) (.box 108 (.tmp 94)) 99 "search.go:203" #[(.mk 2 .data)] none), (.mk (some 96) (.buildSlice 95 1 #[(0, (.tmp 95))]) 95 "search.go:203" #[(.mk 3 .data)] none), (.mk (some 97) (.call (.mk (.builtin .append) #[(.tmp 92), (.tmp 96)] #[95, 95])) 95 "search.go:203" #[(.mk 0 .data), (.mk 4 .data)] none), (.mk none (.store 95 (.tmp 10) (.tmp 97)) 0 "search.go:203" #[(.mk 5 .data), (.mk 5 .chain), (.mk 0 .phase), (.mk 1 .phase), (.mk 2 .phase), (.mk 3 .phase), (.mk 4 .phase), (.mk 5 .phase)] none)] false))) .skip)) (.seq (.region 24 #[(.mk (some 98) (.load 95 (.tmp 10)) 95 "search.go:205" #[] none), (.mk (some 99) (.move (.tmp 17)) 3 "search.go:205" #[] none), (.mk (some 100) (.indexAddr 95 (.tmp 98) (.tmp 99)) 0 "search.go:205" #[(.mk 0 .data), (.mk 1 .data)] none), (.mk (some 101) (.load 99 (.tmp 100)) 99 "search.go:205" #[(.mk 2 .data)] none), (.mk (some 102) (.load 95 (.tmp 10)) 95 "search.go:205" #[] none), (.mk (some 103) (.move (.tmp 17)) 3 "search.go:205" #[] none), (.mk (some 104) (.indexAddr 95 (.tmp 102) (.tmp 103)) 0 "search.go:205" #[(.mk 4 .data), (.mk 5 .data)] none), (.mk (some 105) (.load 99 (.tmp 104)) 99 "search.go:205" #[(.mk 6 .data)] none), (.mk (some 106) (.nilCheck (.tmp 105)) 0 "search.go:205" #[(.mk 7 .data)] none), (.mk (some 107) (.fieldAddr 108 (.tmp 106) 2) 0 "search.go:205" #[(.mk 8 .data)] none), (.mk (some 108) (.load 3 (.tmp 107)) 3 "search.go:205" #[(.mk 9 .data)] none), (.mk (some 109) (.load 99 (.tmp 12)) 99 "search.go:205" #[] none), (.mk (some 110) (.nilCheck (.tmp 109)) 0 "search.go:205" #[(.mk 11 .data)] none), (.mk (some 111) (.fieldAddr 108 (.tmp 110) 2) 0 "search.go:205" #[(.mk 12 .data)] none), (.mk (some 112) (.load 3 (.tmp 111)) 3 "search.go:205" #[(.mk 13 .data)] none), (.mk (some 113) (.binOp .add 3 (.tmp 108) (.tmp 112) 3) 3 "search.go:205" #[(.mk 10 .data), (.mk 14 .data)] none), (.mk (some 114) (.call (.mk (.builtin .min) #[(.tmp 113), (.const (.int .i64 1099511627776))] #[3, 3])) 3 "search.go:205" #[(.mk 15 .data)] none), (.mk (some 115) (.nilCheck (.tmp 101)) 0 "search.go:205" #[(.mk 3 .data), (.mk 0 .phase), (.mk 1 .phase), (.mk 2 .phase), (.mk 3 .phase), (.mk 4 .phase), (.mk 5 .phase), (.mk 6 .phase), (.mk 7 .phase), (.mk 8 .phase), (.mk 9 .phase), (.mk 10 .phase), (.mk 11 .phase), (.mk 12 .phase), (.mk 13 .phase), (.mk 14 .phase), (.mk 15 .phase), (.mk 16 .phase)] none), (.mk (some 116) (.fieldAddr 108 (.tmp 115) 2) 0 "search.go:205" #[(.mk 17 .data), (.mk 0 .phase), (.mk 1 .phase), (.mk 2 .phase), (.mk 3 .phase), (.mk 4 .phase), (.mk 5 .phase), (.mk 6 .phase), (.mk 7 .phase), (.mk 8 .phase), (.mk 9 .phase), (.mk 10 .phase), (.mk 11 .phase), (.mk 12 .phase), (.mk 13 .phase), (.mk 14 .phase), (.mk 15 .phase), (.mk 16 .phase)] none), (.mk none (.store 3 (.tmp 116) (.tmp 114)) 0 "search.go:205" #[(.mk 18 .data), (.mk 16 .data), (.mk 0 .phase), (.mk 1 .phase), (.mk 2 .phase), (.mk 3 .phase), (.mk 4 .phase), (.mk 5 .phase), (.mk 6 .phase), (.mk 7 .phase), (.mk 8 .phase), (.mk 9 .phase), (.mk 10 .phase), (.mk 11 .phase), (.mk 12 .phase), (.mk 13 .phase), (.mk 14 .phase), (.mk 15 .phase), (.mk 16 .phase)] none)] true) (.region 25 #[(.mk (some 117) (.load 99 (.tmp 12)) 99 "search.go:206" #[] none), (.mk (some 118) (.load 99 (.tmp 12)) 99 "search.go:206" #[] none), (.mk (some 119) (.nilCheck (.tmp 118)) 0 "search.go:206" #[(.mk 1 .data)] none), (.mk (some 120) (.fieldAddr 108 (.tmp 119) 1) 0 "search.go:206" #[(.mk 2 .data)] none), (.mk (some 121) (.load 106 (.tmp 120)) 106 "search.go:206" #[(.mk 3 .data)] none), (.mk (some 122) (.load 112 (.tmp 13)) 112 "search.go:206" #[] none), (.mk (some 123) (.move (.tmp 17)) 3 "search.go:206" #[] none), (.mk (some 124) (.build 114 #[(0, (.tmp 122)), (1, (.tmp 123))]) 114 "search.go:206" #[(.mk 5 .data), (.mk 6 .data)] none), (.mk (some 125) (.buildSlice 106 1 #[(0, (.tmp 124))]) 106 "search.go:206" #[(.mk 7 .data)] none), (.mk (some 126) (.call (.mk (.builtin .append) #[(.tmp 121), (.tmp 125)] #[106, 106])) 106 "search.go:206" #[(.mk 4 .data), (.mk 8 .data)] none), (.mk (some 127) (.nilCheck (.tmp 117)) 0 "search.go:206" #[(.mk 0 .data), (.mk 0 .phase), (.mk 1 .phase), (.mk 2 .phase), (.mk 3 .phase), (.mk 4 .phase), (.mk 5 .phase), (.mk 6 .phase), (.mk 7 .phase), (.mk 8 .phase), (.mk 9 .phase)] none), (.mk (some 128) (.fieldAddr 108 (.tmp 127) 1) 0 "search.go:206" #[(.mk 10 .data), (.mk 0 .phase), (.mk 1 .phase), (.mk 2 .phase), (.mk 3 .phase), (.mk 4 .phase), (.mk 5 .phase), (.mk 6 .phase), (.mk 7 .phase), (.mk 8 .phase), (.mk 9 .phase)] none), (.mk none (.store 106 (.tmp 128) (.tmp 126)) 0 "search.go:206" #[(.mk 11 .data), (.mk 9 .data), (.mk 9 .chain), (.mk 0 .phase), (.mk 1 .phase), (.mk 2 .phase), (.mk 3 .phase), (.mk 4 .phase), (.mk 5 .phase), (.mk 6 .phase), (.mk 7 .phase), (.mk 8 .phase), (.mk 9 .phase)] none)] true))))))))))))) (.ops 0 [oo 129 (.bin .add) [.t 52, kk 1], oo 52 .mv [.t 129]]))))))) (.seq (.seq (.ops 0 [oo 130 .ld1 [.t 10], oo 131 .len [.t 130], oo 132 (.bin .eql) [.t 131, kk 0]]) (.cond (.t 132) (.seq (.ops 0 [oo 133 .ld1 [.t 6], ⟨none, none, (.st 1), [.t 4, .t 133], none⟩, ⟨none, none, (.st 1), [.t 5, kk 102], none⟩]) .ret) .skip)) (.seq (.seq (.ops 0 [oo 134 .mv [.t 7], oo 135 (.fldA 2) [.t 2], oo 136 .ld1 [.t 135], oo 137 .len [.t 136], oo 138 (.bin .sub) [.t 137, kk 1], oo 139 (.bin .lss) [.t 134, .t 138], oo 140 .mv [.t 139], og 141 140 true .ld1 [.t 10], og 142 140 true .len [.t 141], og 143 140 true (.bin .gtr) [.t 142, kk 1000], oo 144 .pick [.t 140, .t 143, (.c (.lit (.bool false)))]]) (.cond (.t 144) (.seq (.ops 0 [oo 145 .ld1 [.t 6], ⟨none, none, (.st 1), [.t 4, .t 145], none⟩, ⟨none, none, (.st 1), [.t 5, kk 2], none⟩]) .ret) .skip)) (.ops 11 [od 146 .ld1 [.t 6] [], od 147 .ld1 [.t 6] [], oo 148 .nilck [.t 147], oo 149 (.fldA 15) [.t 148], od 150 .ld1 [.t 149] [1, 2, 3], od 151 .ld1 [.t 10] [], ⟨(some 152), none, (.mkslB 95 1 1 [(.sl 0 [] .exact)] [(0, 1)]), [.t 151], (some [5])⟩, oo 153 (.appL 95 1 24) [.t 150, .t 152, .t 6], oo 154 .nilck [.t 146], oo 155 (.fldA 15) [.t 154], ⟨none, none, (.st 1), [.t 155, .t 153], none⟩])))))))))) (.ops 0 [oo 156 (.bin .add) [.t 30, kk 1], oo 30 .mv [.t 156]]))))))) (.seq (.ops 0 [oo 157 .ld1 [.t 6], oo 158 (.call 155) [.t 157]]) (.seq (.ops 0 [oo 159 .ld1 [.t 6], ⟨none, none, (.st 1), [.t 4, .t 159], none⟩, ⟨none, none, (.st 1), [.t 5, kk 0], none⟩]) .ret))))), [(.c 4 1 false), (.c 5 1 false)]⟩
theorem dk_83 : callable Tryz.prog 83 = true ∧ ∃ bx, Comp Tryz.prog bx gtab 83 d_83.nt d_83.c d_83.rs := ⟨kr, (fun n => !([1000022, 1000026].contains n)), ⟨⟨Tryz.f83, _, Tryz.func83, rfl, rfl, kr, kr⟩⟩⟩
def d_286 : Fd := ⟨94, (.seq (.ops 3 [oo 3 (.box 31) [.t 0], oo 4 (.box 102) [.t 1], oo 6 .mv [(.c (.lit (.bool false)))]]) (.seq (.seq (.ops 0 [oo 7 .mv [kk 1]]) (.block 0 (.loop (.seq (.seq (.ops 0 [oo 15 .mv [.t 7], oo 16 (.fldA 0) [.t 3], oo 17 .ld1 [.t 16], oo 18 .len [.t 17], oo 19 (.bin .leq) [.t 15, .t 18]]) (.cond (.t 19) .skip (.exit 0))) (.seq (.block 1 (.seq (.ops 0 [oo 22 .mv [.t 2], oo 23 .mv [.t 7], oo 24 (.call 218) [.t 22, .t 23], oo 8 .mv [.t 24]]) (.seq (.seq (.ops 0 [oo 25 .mv [.t 8], oo 26 (.bin .lss) [.t 25, kk 0]]) (.cond (.t 26) (.exit 1) .skip)) (.seq (.ops 0 [oo 27 .mv [.t 8], oo 9 .mv [.t 27]]) (.seq (.seq (.ops 0 [oo 28 .mv [.t 2], oo 29 .len [.t 28], oo 30 .mv [kk 0]]) (.block 2 (.loop (.seq (.ops 0 [oo 31 (.bin .lss) [.t 30, .t 29]]) (.seq (.cond (.t 31) .skip (.exit 2)) (.seq (.block 3 (.seq (.ops 0 [oo 32 .mv [.t 30], oo 33 (.ixA 1) [.t 28, .t 30], oo 34 .ld1 [.t 33], oo 10 .mv [.t 32], oo 11 .mv [.t 34]]) (.seq (.ops 0 [oo 35 .mv [.t 11], oo 36 .mv [.t 7], oo 37 (.bin .eql) [.t 35, .t 36]]) (.cond (.t 37) (.ops 0 [oo 38 .mv [.t 10], oo 9 .mv [.t 38]]) .skip)))) (.ops 0 [oo 39 (.bin .add) [.t 30, kk 1], oo 30 .mv [.t 39]]))))))) (.seq (.seq (.ops 0 [oo 40 .mv [.t 8], oo 41 .mv [.t 9], oo 42 (.bin .eql) [.t 40, .t 41]]) (.cond (.t 42) (.exit 1) .skip)) (.seq (.seq (.ops 0 [oo 43 (.fldA 2) [.t 3], oo 44 .ld1 [.t 43], oo 45 .mv [.t 7], oo 46 (.bin .sub) [.t 45, kk 1], oo 47 (.ixA 1) [.t 44, .t 46], oo 48 .ld1 [.t 47], oo 49 (.un .not) [.t 48], oo 50 .mv [.t 49], og 51 50 false (.fldA 0) [.t 4], ⟨(some 52), (some (50, false)), .ld1, [.t 51], (some [0, 1, 2, 3, 4, 5, 6, 7, 8])⟩, og 53 50 false .mv [.t 8], og 54 50 false (.ixA 2) [.t 52, .t 53], og 55 50 false (.fldA 1) [.t 54], ⟨(some 56), (some (50, false)), .ld1, [.t 55], (some [0, 1, 2, 3, 4, 5, 6, 7, 8, 9, 10, 11, 12])⟩, og 57 50 false (.fldA 0) [.t 4], ⟨(some 58), (some (50, false)), .ld1, [.t 57], (some [0, 1, 2, 3, 4, 5, 6, 7, 14])⟩, og 59 50 false .mv [.t 9], og 60 50 false (.ixA 2) [.t 58, .t 59], og 61 50 false (.fldA 1) [.t 60], ⟨(some 62), (some (50, false)), .ld1, [.t 61], (some [0, 1, 2, 3, 4, 5, 6, 7, 14, 15, 16, 17, 18])⟩, og 63 50 false (.bin .neq) [.t 56, .t 62], oo 64 .pick [.t 50, (.c (.lit (.bool true))), .t 63]]) (.cond (.t 64) (.seq (.ops 0 [oo 6 .mv [(.c (.lit (.bool false)))]]) .ret) .skip)) (.seq (.ops 24 [oo 65 (.fldA 0) [.t 4], od 66 .ld1 [.t 65] [0], oo 67 .mv [.t 8], oo 68 (.ixA 2) [.t 66, .t 67], oo 69 (.fldA 0) [.t 68], od 70 .ld1 [.t 69] [0, 1, 2, 3, 4], oo 71 (.fldA 0) [.t 4], od 72 .ld1 [.t 71] [6], oo 73 .mv [.t 9], oo 74 (.ixA 2) [.t 72, .t 73], oo 75 (.fldA 0) [.t 74], od 76 .ld1 [.t 75] [6, 7, 8, 9, 10], oo 77 (.fldA 0) [.t 4], od 78 .ld1 [.t 77] [12], oo 79 .mv [.t 8], oo 80 (.ixA 2) [.t 78, .t 79], oo 81 (.fldA 1) [.t 80], od 82 .ld1 [.t 81] [12, 13, 14, 15, 16], od 12 (.alloc 3 [li 0]) [] [], od 13 (.alloc 3 [li 0]) [] [], od 14 (.alloc 3 [li 0]) [] [], ⟨none, none, (.st 1), [.t 12, .t 70], (some [18])⟩, ⟨none, none, (.st 1), [.t 13, .t 76], (some [19])⟩, ⟨none, none, (.st 1), [.t 14, .t 82], none⟩]) (.seq (.seq (.ops 0 [oo 83 (.fldA 2) [.t 4], oo 84 .ld1 [.t 83], oo 85 (.mkfn 335) [.t 12, .t 13], oo 86 (.call 215) [.t 84, .t 85]]) (.cond (.t 86) (.seq (.ops 0 [oo 6 .mv [(.c (.lit (.bool false)))]]) .ret) .skip)) (.seq (.ops 0 [oo 87 (.fldA 0) [.t 4], oo 88 .ld1 [.t 87], oo 89 .mv [.t 8], oo 90 .mv [.t 9], oo 91 (.slc 2 true true) [.t 88, .t 89, .t 90], oo 92 (.mkfn 337) [.t 14], oo 93 (.call 336) [.t 91, .t 92]]) (.cond (.t 93) (.seq (.ops 0 [oo 6 .mv [(.c (.lit (.bool false)))]]) .ret) .skip))))))))))) (.ops 0 [oo 20 .mv [.t 7], oo 21 (.bin .add) [.t 20, kk 1], oo 7 .mv [.t 21]])))))) (.seq (.ops 0 [oo 6 .mv [(.c (.lit (.bool true)))]]) .ret))), [.t 6]⟩
theorem dk_286 : callable Tryz.prog 286 = true ∧ ∃ bx, Comp Tryz.prog bx gtab 286 d_286.nt d_286.c d_286.rs := ⟨kr, (fun n => !([1000003, 1000004].contains n)), ⟨⟨Tryz.f286, _, Tryz.func286, rfl, rfl, kr, kr⟩⟩⟩
def d_19 : Fd := ⟨73, (.seq (.ops 0 [oo 0 .mv [(.c (.lit (.bool false)))]]) (.seq (.ops 4 [oo 8 (.call 59) [], ⟨(some 9), none, (.build [(.sl 0 [] .exact), (.sl 0 [] .exact), (.sl 0 [] .exact), li 0, li 0, li 0, li 0, li 0, li 0, li 0, li 0, (.lit (.bool false))] [(0, 10)]), [.t 8], none⟩, ⟨(some 1), none, (.alloc 33 [(.sl 0 [] .exact), (.sl 0 [] .exact), (.sl 0 [] .exact), li 0, li 0, li 0, li 0, li 0, li 0, li 0, li 0, (.lit (.bool false))]), [], none⟩, ⟨none, none, (.st 12), [.t 1, .t 9], none⟩]) (.seq (.ops 0 [od 11 (.call 60) [] [], od 12 (.ldA 12) [.t 1] [], oo 13 (.call 23) [.t 11, .t 12], oo 10 .mv [.t 13], oo 14 (.ext 0) [.t 10], oo 15 (.ext 1) [.t 10], oo 2 .mv [.t 14], oo 3 .mv [.t 15]]) (.seq (.ops 0 [oo 16 (.fldA 11) [.t 1], ⟨none, none, (.st 1), [.t 16, (.c (.lit (.bool true)))], none⟩]) (.seq (.ops 0 [od 18 (.call 60) [] [], od 19 (.ldA 12) [.t 1] [], oo 20 (.call 23) [.t 18, .t 19], oo 17 .mv [.t 20], oo 21 (.ext 0) [.t 17], oo 22 (.ext 1) [.t 17], oo 4 .mv [.t 21], oo 5 .mv [.t 22]]) (.seq (.ops 9 [od 24 (.call 60) [] [], od 25 (.ldA 12) [.t 1] [], oo 26 (.callL 20 [6]) [.t 24, .t 25], oo 23 .mv [.t 26], oo 27 (.ext 0) [.t 23], oo 28 (.ext 1) [.t 23], ⟨(some 6), none, (.alloc 28 [(.sl 0 [] .exact), (.sl 0 [] .exact), (.sl 0 [] .exact)]), [], (some [])⟩, ⟨none, none, (.st 3), [.t 6, .t 27], none⟩, oo 7 .mv [.t 28]]) (.seq (.ops 0 [oo 29 .mv [.t 2], oo 30 (.bin .eql) [.t 29, kk 4], oo 31 .mv [.t 30], og 32 31 true .mv [.t 4], og 33 31 true (.bin .eql) [.t 32, kk 2], oo 34 .pick [.t 31, .t 33, (.c (.lit (.bool false)))], oo 35 .mv [.t 34], og 36 35 true .mv [.t 3], og 37 35 true (.bin .eql) [.t 36, kk 0], oo 38 .pick [.t 35, .t 37, (.c (.lit (.bool false)))], oo 39 .mv [.t 38], og 40 39 true .mv [.t 5], og 41 39 true (.bin .eql) [.t 40, kk 0], oo 42 .pick [.t 39, .t 41, (.c (.lit (.bool false)))], oo 43 .mv [.t 42], og 44 43 true .mv [.t 7], og 45 43 true (.bin .eql) [.t 44, kk 0], oo 46 .pick [.t 43, .t 45, (.c (.lit (.bool false)))], oo 47 .mv [.t 46], og 48 47 true (.fldA 2) [.t 6], og 49 47 true .ld1 [.t 48], og 50 47 true .len [.t 49], og 51 47 true (.bin .eql) [.t 50, kk 2], oo 52 .pick [.t 47, .t 51, (.c (.lit (.bool false)))], oo 53 .mv [.t 52], og 54 53 true (.fldA 2) [.t 6], og 55 53 true .ld1 [.t 54], og 56 53 true (.ixA 4) [.t 55, kk 0], og 57 53 true (.fldA 3) [.t 56], og 58 53 true .ld1 [.t 57], og 59 53 true .len [.t 58], og 60 53 true (.bin .eql) [.t 59, kk 2], oo 61 .pick [.t 53, .t 60, (.c (.lit (.bool false)))], oo 62 .mv [.t 61], og 63 62 true (.fldA 2) [.t 6], og 64 62 true .ld1 [.t 63], og 65 62 true (.ixA 4) [.t 64, kk 0], og 66 62 true (.fldA 3) [.t 65], og 67 62 true .ld1 [.t 66], og 68 62 true (.ixA 1) [.t 67, kk 1], og 69 62 true .ld1 [.t 68], og 70 62 true (.mksl 1 1 [li 0] [(0, 1)]) [kk (-1)], og 71 62 true (.call 61) [.t 69, .t 70], oo 72 .pick [.t 62, .t 71, (.c (.lit (.bool false)))], oo 0 .mv [.t 72]]) .ret))))))), [.t 0]⟩
theorem dk_19 : callable Tryz.prog 19 = true ∧ ∃ bx, Comp Tryz.prog bx gtab 19 d_19.nt d_19.c d_19.rs := ⟨kr, nobx, ⟨⟨Tryz.f19, _, Tryz.func19, rfl, rfl, kr, kr⟩⟩⟩
def d_72 : Fd := ⟨71, (.seq (.ops 0 [oo 2 .boxE [.t 0], oo 3 .boxE [.t 1], oo 4 .mv [(.c (.lit (.bool false)))]]) (.seq (.seq (.ops 0 [oo 7 (.fldA 3) [.t 3], oo 8 .ld1 [.t 7], oo 9 .len [.t 8], oo 10 (.fldA 0) [.t 2], oo 11 .ld1 [.t 10], oo 12 .len [.t 11], oo 13 (.bin .neq) [.t 9, .t 12], oo 14 .mv [.t 13], og 15 14 false (.fldA 2) [.t 3], og 16 14 false .ld1 [.t 15], og 17 14 false (.call 143) [.t 16, (.c (.fn 118 []))], og 18 14 false (.un .not) [.t 17], oo 19 .pick [.t 14, (.c (.lit (.bool true))), .t 18], oo 20 .mv [.t 19], og 21 20 false (.fldA 2) [.t 3], og 22 20 false .ld1 [.t 21], og 23 20 false (.call 144) [.t 22, (.c (.fn 145 []))], oo 24 .pick [.t 20, (.c (.lit (.bool true))), .t 23]]) (.cond (.t 24) (.seq (.ops 0 [oo 4 .mv [(.c (.lit (.bool false)))]]) .ret) .skip)) (.seq (.seq (.ops 0 [oo 25 (.fldA 3) [.t 3], oo 26 .ld1 [.t 25], oo 27 .len [.t 26], oo 28 .mv [kk 0]]) (.block 0 (.loop (.seq (.ops 0 [oo 29 (.bin .lss) [.t 28, .t 27]]) (.seq (.cond (.t 29) .skip (.exit 0)) (.seq (.block 1 (.seq (.ops 0 [oo 30 .mv [.t 28], oo 31 (.ixA 1) [.t 26, .t 28], oo 32 .ld1 [.t 31], oo 5 .mv [.t 30], oo 6 .mv [.t 32]]) (.seq (.ops 0 [oo 33 .mv [.t 6], oo 34 (.call 147) [.t 33, (.c (.fn 121 []))], oo 35 (.un .not) [.t 34], oo 36 .mv [.t 35], og 37 36 false .mv [.t 6], og 38 36 false (.ixA 1) [.t 37, kk 0], og 39 36 false .ld1 [.t 38], og 40 36 false (.bin .lss) [.t 39, kk (-1)], oo 41 .pick [.t 36, (.c (.lit (.bool true))), .t 40], oo 42 .mv [.t 41], og 43 42 false .mv [.t 6], og 44 42 false .mv [.t 6], og 45 42 false .len [.t 44], og 46 42 false (.bin .sub) [.t 45, kk 1], og 47 42 false (.ixA 1) [.t 43, .t 46], ⟨(some 48), (some (42, false)), .ld1, [.t 47], (some [0, 1, 2, 3, 4, 5, 6, 7, 8, 9, 10, 11, 12, 13, 14])⟩, og 49 42 false (.fldA 0) [.t 2], ⟨(some 50), (some (42, false)), .ld1, [.t 49], (some [0, 1, 2, 3, 4, 5, 6, 7, 8, 9, 16])⟩, og 51 42 false .mv [.t 5], og 52 42 false (.ixA 3) [.t 50, .t 51], og 53 42 false (.fldA 1) [.t 52], ⟨(some 54), (some (42, false)), .ld1, [.t 53], (some [0, 1, 2, 3, 4, 5, 6, 7, 8, 9, 16, 17, 18, 19, 20])⟩, og 55 42 false (.bin .gtr) [.t 48, .t 54], oo 56 .pick [.t 42, (.c (.lit (.bool true))), .t 55], oo 57 .mv [.t 56], og 58 57 false (.fldA 1) [.t 3], og 59 57 false .ld1 [.t 58], og 60 57 false .mv [.t 59], og 61 60 true .mv [.t 6], og 62 60 true .mv [.t 6], og 63 60 true .len [.t 62], og 64 60 true (.bin .sub) [.t 63, kk 1], og 65 60 true (.ixA 1) [.t 61, .t 64], og 66 60 true .ld1 [.t 65], og 67 60 true (.bin .gtr) [.t 66, kk (-1)], og 68 57 false .pick [.t 60, .t 67, (.c (.lit (.bool false)))], oo 69 .pick [.t 57, (.c (.lit (.bool true))), .t 68]]) (.cond (.t 69) (.seq (.ops 0 [oo 4 .mv [(.c (.lit (.bool false)))]]) .ret) .skip)))) (.ops 0 [oo 70 (.bin .add) [.t 28, kk 1], oo 28 .mv [.t 70]]))))))) (.seq (.ops 0 [oo 4 .mv [(.c (.lit (.bool true)))]]) .ret)))), [.t 4]⟩
theorem dk_72 : callable Tryz.prog 72 = true ∧ ∃ bx, Comp Tryz.prog bx gtab 72 d_72.nt d_72.c d_72.rs := ⟨kr, allbx, ⟨⟨Tryz.f72, _, Tryz.func72, rfl, rfl, kr, kr⟩⟩⟩
def d_186 : Fd := ⟨52, (.seq (.ops 0 [oo 2 .mv [(.c (.lit (.bool false)))]]) (.seq (.ops 4 [oo 9 .mv [.t 0], oo 10 .len [.t 9], oo 11 (.mk 3 1 8 [li 0]) [.t 10, .t 10], oo 3 .mv [.t 11]]) (.seq (.ops 0 [oo 12 .mv [.t 3], oo 13 .mv [.t 0], oo 14 .cpy [.t 12, .t 13]]) (.seq (.ops 0 [oo 15 .mv [.t 3], oo 16 (.call 229) [.t 15]]) (.seq (.seq (.ops 0 [oo 17 .mv [.t 3], oo 18 .len [.t 17], oo 19 .mv [kk 0]]) (.block 0 (.loop (.seq (.ops 0 [oo 20 (.bin .lss) [.t 19, .t 18]]) (.seq (.cond (.t 20) .skip (.exit 0)) (.seq (.block 1 (.seq (.ops 0 [oo 21 .mv [.t 19], oo 22 (.ixA 1) [.t 17, .t 19], oo 23 .ld1 [.t 22], oo 4 .mv [.t 21], oo 5 .mv [.t 23]]) (.seq (.ops 0 [oo 24 .mv [.t 3], oo 25 .mv [.t 4], oo 26 (.bin .add) [.t 25, kk 1], oo 27 (.slc 1 true false) [.t 24, .t 26], oo 28 .len [.t 27], oo 29 .mv [kk 0]]) (.block 2 (.loop (.seq (.ops 0 [oo 30 (.bin .lss) [.t 29, .t 28]]) (.seq (.cond (.t 30) .skip (.exit 2)) (.seq (.block 3 (.seq (.ops 0 [oo 31 (.ixA 1) [.t 27, .t 29], oo 32 .ld1 [.t 31], oo 7 .mv [.t 32]]) (.seq (.ops 0 [oo 33 .mv [.t 7], oo 34 (.cvt .u64) [.t 33], oo 35 .mv [.t 5], oo 36 (.cvt .u64) [.t 35], oo 37 (.bin .sub) [.t 34, .t 36], oo 8 .mv [.t 37]]) (.seq (.ops 0 [oo 38 .mv [.t 8], oo 39 (.bin .rem) [.t 38, (.c (.lit (.int .u64 12)))]]) (.block 4 (.seq (.seq (.ops 0 [oo 41 (.bin .eql) [.t 39, (.c (.lit (.int .u64 1)))], oo 40 .mv [.t 41]]) (.cond (.t 40) .skip (.seq (.ops 0 [oo 42 (.bin .eql) [.t 39, (.c (.lit (.int .u64 2)))], oo 40 .mv [.t 42]]) (.cond (.t 40) .skip (.seq (.ops 0 [oo 43 (.bin .eql) [.t 39, (.c (.lit (.int .u64 10)))], oo 40 .mv [.t 43]]) (.cond (.t 40) .skip (.ops 0 [oo 44 (.bin .eql) [.t 39, (.c (.lit (.int .u64 11)))], oo 40 .mv [.t 44]]))))))) (.cond (.t 40) (.seq (.ops 0 [oo 2 .mv [(.c (.lit (.bool false)))]]) .ret) (.seq (.seq (.ops 0 [oo 46 (.bin .eql) [.t 39, (.c (.lit (.int .u64 5)))], oo 45 .mv [.t 46]]) (.cond (.t 45) .skip (.ops 0 [oo 47 (.bin .eql) [.t 39, (.c (.lit (.int .u64 6)))], oo 45 .mv [.t 47]]))) (.cond (.t 45) (.seq (.ops 0 [oo 48 .mv [.t 4], oo 49 (.bin .eql) [.t 48, kk 0]]) (.cond (.t 49) (.seq (.ops 0 [oo 2 .mv [(.c (.lit (.bool false)))]]) .ret) .skip)) .skip))))))))) (.ops 0 [oo 50 (.bin .add) [.t 29, kk 1], oo 29 .mv [.t 50]]))))))))) (.ops 0 [oo 51 (.bin .add) [.t 19, kk 1], oo 19 .mv [.t 51]]))))))) (.seq (.ops 0 [oo 2 .mv [(.c (.lit (.bool true)))]]) .ret)))))), [.t 2]⟩
theorem dk_186 : callable Tryz.prog 186 = true ∧ ∃ bx, Comp Tryz.prog bx gtab 186 d_186.nt d_186.c d_186.rs := ⟨kr, allbx, ⟨⟨Tryz.f186, _, Tryz.func186, rfl, rfl, kr, kr⟩⟩⟩
def d_60 : Fd := ⟨22, (.seq (.ops 1 [⟨(some 0), none, (.alloc 28 [(.sl 0 [] .exact), (.sl 0 [] .exact), (.sl 0 [] .exact)]), [], none⟩]) (.seq (.ops 7 [oo 2 (.build [li 0, li 0, (.lit (.bool false))] [(0, 1), (1, 1)]) [kk 67, kk 5], oo 3 (.build [li 0, li 0, (.lit (.bool false))] [(0, 1), (1, 1)]) [kk 62, kk 5], oo 4 (.mkslB 188 2 3 [li 0, li 0, (.lit (.bool false)), li 0, li 0, (.lit (.bool false))] [(0, 3), (3, 3)]) [.t 2, .t 3], oo 5 (.mkslB 3 5 1 [li 0, li 0, li 0, li 0, li 0] [(0, 1), (1, 1), (2, 1), (3, 1), (4, 1)]) [kk 1, kk 2, kk 3, kk 4, kk 5], ⟨(some 6), none, (.build [(.sl 0 [] .exact), (.sl 0 [] .exact)] [(0, 1), (1, 1)]), [.t 4, .t 5], none⟩, ⟨(some 1), none, (.alloc 25 [(.sl 0 [] .exact), (.sl 0 [] .exact)]), [], none⟩, ⟨none, none, (.st 2), [.t 1, .t 6], none⟩]) (.seq (.ops 16 [oo 7 (.ldA 2) [.t 1], oo 8 (.build [li 0, (.lit (.bool false)), (.lit (.bool false))] [(0, 1)]) [kk 3], oo 9 (.mkslB 110 1 3 [li 0, (.lit (.bool false)), (.lit (.bool false))] [(0, 3)]) [.t 8], oo 10 (.mkslB 3 1 1 [li 0] [(0, 1)]) [kk 0], oo 11 (.mkslB 3 2 1 [li 0, li 0] [(0, 1), (1, 1)]) [kk (-1), kk 3], ⟨(some 12), none, (.mkslB 23 2 1 [(.sl 0 [] .exact), (.sl 0 [] .exact)] [(0, 1), (1, 1)]), [.t 10, .t 11], none⟩, ⟨(some 13), none, (.build [(.lit (.bool false)), (.lit (.bool false)), (.sl 0 [] .exact), (.sl 0 [] .exact)] [(2, 1), (3, 1)]), [.t 9, .t 12], none⟩, oo 14 (.build [li 0, (.lit (.bool false)), (.lit (.bool false))] [(0, 1)]) [kk 4], oo 15 (.mkslB 110 1 3 [li 0, (.lit (.bool false)), (.lit (.bool false))] [(0, 3)]) [.t 14], oo 16 (.mkslB 3 2 1 [li 0, li 0] [(0, 1), (1, 1)]) [kk 1, kk 2], oo 17 (.mkslB 3 1 1 [li 0] [(0, 1)]) [kk (-1)], ⟨(some 18), none, (.mkslB 23 2 1 [(.sl 0 [] .exact), (.sl 0 [] .exact)] [(0, 1), (1, 1)]), [.t 16, .t 17], none⟩, ⟨(some 19), none, (.build [(.lit (.bool false)), (.lit (.bool false)), (.sl 0 [] .exact), (.sl 0 [] .exact)] [(0, 1), (2, 1), (3, 1)]), [(.c (.lit (.bool true))), .t 15, .t 18], none⟩, ⟨(some 20), none, (.mkslB 84 2 4 [(.lit (.bool false)), (.lit (.bool false)), (.sl 0 [] .exact), (.sl 0 [] .exact), (.lit (.bool false)), (.lit (.bool false)), (.sl 0 [] .exact), (.sl 0 [] .exact)] [(0, 4), (4, 4)]), [.t 13, .t 19], none⟩, ⟨(some 21), none, (.build [(.sl 0 [] .exact), (.sl 0 [] .exact), (.sl 0 [] .exact)] [(0, 2), (2, 1)]), [.t 7, .t 20], none⟩, ⟨none, none, (.st 3), [.t 0, .t 21], none⟩]) .ret))), [(.c 0 3 true)]⟩
theorem dk_60 : callable Tryz.prog 60 = true ∧ ∃ bx, Comp Tryz.prog bx gtab 60 d_60.nt d_60.c d_60.rs := ⟨kr, allbx, ⟨⟨Tryz.f60, _, Tryz.func60, rfl, rfl, kr, kr⟩⟩⟩
def d_210 : Fd := ⟨48, (.seq (.ops 5 [oo 3 (.box 88) [.t 0], oo 4 (.box 105) [.t 1], oo 5 (.box 102) [.t 2], oo 6 .mv [(.c (.sl 0 [] .exact))], oo 7 .mv [kk 0]]) (.seq (.ops 0 [od 12 .ld1 [.t 3] [], oo 13 .nilck [.t 12], oo 14 (.fldA 3) [.t 13], oo 15 (.fldA 0) [.t 14], od 16 (.ldA 10) [.t 15] [0, 1, 2, 3], od 17 (.ldA 3) [.t 5] [], oo 18 (.call 254) [.t 16, .t 17], oo 11 .mv [.t 18], oo 19 (.ext 0) [.t 11], oo 20 (.ext 1) [.t 11], oo 8 .mv [.t 19], oo 7 .mv [.t 20]]) (.seq (.seq (.ops 0 [oo 21 .mv [.t 7], oo 22 (.bin .neq) [.t 21, kk 0], oo 23 .mv [.t 22], og 24 23 false .ld1 [.t 3], og 25 23 false .nilck [.t 24], og 26 23 false (.fldA 16) [.t 25], og 27 23 false .ld1 [.t 26], og 28 23 false (.bin .eql) [.t 27, kk 0], oo 29 .pick [.t 23, (.c (.lit (.bool true))), .t 28]]) (.cond (.t 29) (.seq (.ops 0 [oo 30 .mv [.t 8], oo 31 .mv [.t 7], oo 6 .mv [.t 30], oo 7 .mv [.t 31]]) .ret) .skip)) (.seq (.seq (.ops 0 [oo 32 .mv [.t 8], oo 33 .len [.t 32], oo 34 .mv [kk 0]]) (.block 0 (.loop (.seq (.ops 0 [oo 35 (.bin .lss) [.t 34, .t 33]]) (.seq (.cond (.t 35) .skip (.exit 0)) (.seq (.block 1 (.seq (.ops 4 [oo 36 (.ixA 2) [.t 32, .t 34], oo 37 (.ldA 2) [.t 36], ⟨(some 10), none, (.alloc 262 [li 0, (.sl 0 [] .exact)]), [], none⟩, ⟨none, none, (.st 2), [.t 10, .t 37], none⟩]) (.seq (.ops 0 [oo 38 (.fldA 4) [.t 4], oo 39 .ld1 [.t 38], oo 40 (.mkfn 256) [.t 3, .t 4, .t 5, .t 10], oo 41 (.call 255) [.t 39, .t 40]]) (.cond (.t 41) (.ops 5 [oo 42 .mv [.t 6], oo 43 (.ldA 2) [.t 10], ⟨(some 44), none, (.mkslB 262 1 2 [li 0, (.sl 0 [] .exact)] [(0, 2)]), [.t 43], none⟩, oo 45 (.appM 262 2 32) [.t 42, .t 44], oo 6 .mv [.t 45]]) .skip)))) (.ops 0 [oo 46 (.bin .add) [.t 34, kk 1], oo 34 .mv [.t 46]]))))))) (.seq (.ops 0 [oo 47 .mv [.t 6], oo 6 .mv [.t 47], oo 7 .mv [kk 0]]) .ret))))), [.t 6, .t 7]⟩
theorem dk_210 : callable Tryz.prog 210 = true ∧ ∃ bx, Comp Tryz.prog bx gtab 210 d_210.nt d_210.c d_210.rs := ⟨kr, (fun n => !([1000003, 1000004, 1000005].contains n)), ⟨⟨Tryz.f210, _, Tryz.func210, rfl, rfl, kr, kr⟩⟩⟩
def d_27 : Fd := ⟨38, (.seq (.ops 0 [oo 1 .boxE [.t 0], oo 2 .mv [kk 0]]) (.seq (.seq (.ops 0 [oo 6 (.fldA 0) [.t 1], oo 7 (.ldA 2) [.t 6], oo 8 (.call 71) [.t 7], oo 3 .mv [.t 8]]) (.seq (.ops 0 [oo 9 .mv [.t 3], oo 10 (.bin .neq) [.t 9, kk 0]]) (.cond (.t 10) (.seq (.ops 0 [oo 11 .mv [.t 3], oo 2 .mv [.t 11]]) .ret) .skip))) (.seq (.seq (.ops 0 [oo 12 (.fldA 2) [.t 1], oo 13 .ld1 [.t 12], oo 14 .len [.t 13], oo 15 (.bin .gtr) [.t 14, kk 400]]) (.cond (.t 15) (.seq (.ops 0 [oo 2 .mv [kk 2]]) .ret) .skip)) (.seq (.seq (.ops 0 [oo 16 (.fldA 2) [.t 1], oo 17 .ld1 [.t 16], oo 18 .len [.t 17], oo 19 .mv [kk 0]]) (.block 0 (.loop (.seq (.ops 0 [oo 20 (.bin .lss) [.t 19, .t 18]]) (.seq (.cond (.t 20) .skip (.exit 0)) (.seq (.block 1 (.seq (.ops 6 [oo 21 .mv [.t 19], oo 22 (.ixA 4) [.t 17, .t 19], oo 23 (.ldA 4) [.t 22], ⟨(some 5), none, (.alloc 84 [(.lit (.bool false)), (.lit (.bool false)), (.sl 0 [] .exact), (.sl 0 [] .exact)]), [], none⟩, oo 4 .mv [.t 21], ⟨none, none, (.st 4), [.t 5, .t 23], none⟩]) (.seq (.ops 0 [oo 24 (.fldA 0) [.t 1], oo 25 (.ldA 2) [.t 24], oo 26 (.ldA 4) [.t 5], oo 27 (.call 72) [.t 25, .t 26], oo 28 (.un .not) [.t 27], oo 29 .mv [.t 28], og 30 29 false .mv [.t 4], og 31 29 false (.bin .eql) [.t 30, kk 0], og 32 29 false .mv [.t 31], og 33 32 true (.fldA 1) [.t 5], og 34 32 true .ld1 [.t 33], og 35 29 false .pick [.t 32, .t 34, (.c (.lit (.bool false)))], oo 36 .pick [.t 29, (.c (.lit (.bool true))), .t 35]]) (.cond (.t 36) (.seq (.ops 0 [oo 2 .mv [kk 100]]) .ret) .skip)))) (.ops 0 [oo 37 (.bin .add) [.t 19, kk 1], oo 19 .mv [.t 37]]))))))) (.seq (.ops 0 [oo 2 .mv [kk 0]]) .ret))))), [.t 2]⟩
theorem dk_27 : callable Tryz.prog 27 = true ∧ ∃ bx, Comp Tryz.prog bx gtab 27 d_27.nt d_27.c d_27.rs := ⟨kr, allbx, ⟨⟨Tryz.f27, _, Tryz.func27, rfl, rfl, kr, kr⟩⟩⟩
def d_146 : Fd := ⟨37, (.seq (.ops 0 [oo 1 .boxE [.t 0], oo 2 .mv [kk 0]]) (.seq (.seq (.ops 0 [oo 4 (.fldA 0) [.t 1], oo 5 .ld1 [.t 4], oo 6 (.bin .lss) [.t 5, kk 1], oo 7 .mv [.t 6], og 8 7 false (.fldA 0) [.t 1], og 9 7 false .ld1 [.t 8], og 10 7 false (.bin .gtr) [.t 9, kk 7], oo 11 .pick [.t 7, (.c (.lit (.bool true))), .t 10], oo 12 .mv [.t 11], og 13 12 false (.fldA 1) [.t 1], og 14 12 false .ld1 [.t 13], og 15 12 false .mv [.t 14], og 16 15 true (.fldA 2) [.t 1], og 17 15 true .ld1 [.t 16], og 18 12 false .pick [.t 15, .t 17, (.c (.lit (.bool false)))], oo 19 .pick [.t 12, (.c (.lit (.bool true))), .t 18]]) (.cond (.t 19) (.seq (.ops 0 [oo 2 .mv [kk 0]]) .ret) .skip)) (.seq (.ops 0 [oo 20 (.fldA 0) [.t 1], oo 21 .ld1 [.t 20], oo 22 (.bin .sub) [.t 21, kk 1], oo 23 (.bin .shr) [kk 384, .t 22], oo 3 .mv [.t 23]]) (.seq (.block 0 (.seq (.ops 0 [oo 25 (.fldA 1) [.t 1], oo 26 .ld1 [.t 25], oo 24 .mv [.t 26]]) (.cond (.t 24) (.seq (.ops 0 [oo 27 .mv [.t 3], oo 28 (.bin .quo) [.t 27, kk 2], oo 29 (.bin .mul) [.t 28, kk 3], oo 2 .mv [.t 29]]) .ret) (.seq (.ops 0 [oo 31 (.fldA 2) [.t 1], oo 32 .ld1 [.t 31], oo 30 .mv [.t 32]]) (.cond (.t 30) (.seq (.ops 0 [oo 33 .mv [.t 3], oo 34 (.bin .quo) [.t 33, kk 3], oo 35 (.bin .mul) [.t 34, kk 2], oo 2 .mv [.t 35]]) .ret) .skip))))) (.seq (.ops 0 [oo 36 .mv [.t 3], oo 2 .mv [.t 36]]) .ret))))), [.t 2]⟩
theorem dk_146 : callable Tryz.prog 146 = true ∧ ∃ bx, Comp Tryz.prog bx gtab 146 d_146.nt d_146.c d_146.rs := ⟨kr, allbx, ⟨⟨Tryz.f146, _, Tryz.func146, rfl, rfl, kr, kr⟩⟩⟩
def d_334 : Fd := ⟨36, (.seq (.ops 3 [oo 2 (.box 102) [.t 0], oo 3 (.box 102) [.t 1], oo 4 .mv [(.c (.lit (.bool false)))]]) (.seq (.seq (.ops 0 [oo 8 (.fldA 1) [.t 3], oo 9 .ld1 [.t 8], oo 10 .len [.t 9], oo 11 .mv [kk 0]]) (.block 0 (.loop (.seq (.ops 0 [oo 12 (.bin .lss) [.t 11, .t 10]]) (.seq (.cond (.t 12) .skip (.exit 0)) (.seq (.block 1 (.seq (.ops 0 [oo 13 (.ixA 1) [.t 9, .t 11], oo 14 .ld1 [.t 13], oo 6 .mv [.t 14]]) (.seq (.ops 0 [oo 15 (.ldA 3) [.t 2], oo 16 .mv [.t 6], oo 17 (.call 343) [.t 15, .t 16], oo 7 .mv [.t 17]]) (.seq (.ops 0 [oo 18 .mv [.t 7], oo 19 (.bin .lss) [.t 18, kk 0], oo 20 .mv [.t 19], og 21 20 false (.fldA 0) [.t 2], ⟨(some 22), (some (20, false)), .ld1, [.t 21], (some [0, 1, 2, 3])⟩, og 23 20 false .mv [.t 7], og 24 20 false (.ixA 2) [.t 22, .t 23], ⟨(some 25), (some (20, false)), (.ldA 2), [.t 24], (some [0, 1, 2, 3, 4, 5, 6])⟩, og 26 20 false (.fldA 0) [.t 3], ⟨(some 27), (some (20, false)), .ld1, [.t 26], (some [0, 1, 2, 8])⟩, ⟨(some 28), (some (20, false)), (.ldA 3), [.t 3], (some [0, 1, 2])⟩, og 29 20 false .mv [.t 6], ⟨(some 30), (some (20, false)), (.call 343), [.t 28, .t 29], (some [0, 1, 2, 10, 11])⟩, og 31 20 false (.ixA 2) [.t 27, .t 30], ⟨(some 32), (some (20, false)), (.ldA 2), [.t 31], (some [0, 1, 2, 8, 9, 10, 11, 12, 13])⟩, og 33 20 false (.eqP [(0, 0), (1, 0)] true) [.t 25, .t 32], oo 34 .pick [.t 20, (.c (.lit (.bool true))), .t 33]]) (.cond (.t 34) (.seq (.ops 0 [oo 4 .mv [(.c (.lit (.bool false)))]]) .ret) .skip))))) (.ops 0 [oo 35 (.bin .add) [.t 11, kk 1], oo 11 .mv [.t 35]]))))))) (.seq (.ops 0 [oo 4 .mv [(.c (.lit (.bool true)))]]) .ret))), [.t 4]⟩
theorem dk_334 : callable Tryz.prog 334 = true ∧ ∃ bx, Comp Tryz.prog bx gtab 334 d_334.nt d_334.c d_334.rs := ⟨kr, (fun n => !([1000002, 1000003].contains n)), ⟨⟨Tryz.f334, _, Tryz.func334, rfl, rfl, kr, kr⟩⟩⟩
def d_254 : Fd := ⟨23, (.seq (.ops 4 [oo 2 .boxE [.t 0], oo 3 (.box 102) [.t 1], oo 4 .mv [(.c (.sl 0 [] .exact))], oo 5 .mv [kk 0]]) (.seq (.seq (.ops 0 [oo 8 (.ldA 10) [.t 2], oo 9 (.call 75) [.t 8], oo 6 .mv [.t 9]]) (.seq (.ops 0 [oo 10 .mv [.t 6], oo 11 (.bin .neq) [.t 10, kk 0]]) (.cond (.t 11) (.seq (.ops 0 [oo 12 .mv [.t 6], oo 4 .mv [(.c (.sl 0 [] .exact))], oo 5 .mv [.t 12]]) .ret) .skip))) (.seq (.seq (.ops 0 [oo 13 (.ldA 3) [.t 3], oo 14 (.call 310) [.t 13], oo 15 (.un .not) [.t 14]]) (.cond (.t 15) (.seq (.ops 0 [oo 4 .mv [(.c (.sl 0 [] .exact))], oo 5 .mv [kk 1]]) .ret) .skip)) (.seq (.ops 0 [oo 16 (.ldA 10) [.t 2], oo 17 (.ldA 3) [.t 3], oo 18 (.call 234) [.t 16, .t 17], oo 7 .mv [.t 18]]) (.seq (.seq (.ops 0 [oo 19 .mv [.t 7], oo 20 .len [.t 19], oo 21 (.bin .gtr) [.t 20, kk 200]]) (.cond (.t 21) (.seq (.ops 0 [oo 4 .mv [(.c (.sl 0 [] .exact))], oo 5 .mv [kk 2]]) .ret) .skip)) (.seq (.ops 0 [oo 22 .mv [.t 7], oo 4 .mv [.t 22], oo 5 .mv [kk 0]]) .ret)))))), [.t 4, .t 5]⟩
theorem dk_254 : callable Tryz.prog 254 = true ∧ ∃ bx, Comp Tryz.prog bx gtab 254 d_254.nt d_254.c d_254.rs := ⟨kr, (fun n => !([1000003].contains n)), ⟨⟨Tryz.f254, _, Tryz.func254, rfl, rfl, kr, kr⟩⟩⟩
def d_206 : Fd := ⟨24, (.seq (.ops 1 [oo 2 (.box 266) [.t 0]]) (.seq (.ops 6 [oo 7 (.fldA 3) [.t 1], oo 8 .ld1 [.t 7], oo 9 .len [.t 8], oo 10 (.mk 3 1 8 [li 0]) [.t 9, .t 9], ⟨(some 3), none, (.alloc 23 [(.sl 0 [] .exact)]), [], none⟩, ⟨none, none, (.st 1), [.t 3, .t 10], none⟩]) (.seq (.ops 1 [oo 4 (.alloc 267 [(.lit .nilFunc)]) []]) (.seq (.ops 0 [oo 11 (.mkfn 207) [.t 3, .t 2, .t 1, .t 4], ⟨none, none, (.st 1), [.t 4, .t 11], none⟩]) (.seq (.ops 0 [oo 12 (.fldA 2) [.t 1], oo 13 .ld1 [.t 12], oo 14 .len [.t 13], oo 15 .mv [kk 0]]) (.block 0 (.loop (.seq (.ops 0 [oo 16 (.bin .lss) [.t 15, .t 14]]) (.seq (.cond (.t 16) .skip (.exit 0)) (.seq (.block 1 (.seq (.ops 4 [oo 17 (.ixA 3) [.t 13, .t 15], oo 18 (.ldA 3) [.t 17], oo 6 (.alloc 110 [li 0, (.lit (.bool false)), (.lit (.bool false))]) [], ⟨none, none, (.st 3), [.t 6, .t 18], none⟩]) (.seq (.ops 0 [oo 19 .ld1 [.t 4], oo 20 (.ldA 3) [.t 6], oo 21 .callv [.t 19, .t 20, kk 0], oo 22 (.un .not) [.t 21]]) (.cond (.t 22) .ret .skip)))) (.ops 0 [oo 23 (.bin .add) [.t 15, kk 1], oo 15 .mv [.t 23]]))))))))))), []⟩
theorem dk_206 : callable Tryz.prog 206 = true ∧ ∃ bx, Comp Tryz.prog bx gtab 206 d_206.nt d_206.c d_206.rs := ⟨kr, (fun n => !([1000002].contains n)), ⟨⟨Tryz.f206, _, Tryz.func206, rfl, rfl, kr, kr⟩⟩⟩
def d_143 : Fd := ⟨27, (.seq (.ops 0 [oo 4 .mv [(.c (.lit (.bool false)))]]) (.seq (.seq (.ops 0 [oo 5 .mv [kk 1]]) (.block 0 (.loop (.seq (.seq (.ops 0 [oo 6 .mv [.t 5], oo 7 .mv [.t 0], oo 8 .len [.t 7], oo 9 (.bin .lss) [.t 6, .t 8]]) (.cond (.t 9) .skip (.exit 0))) (.seq (.block 1 (.seq (.ops 0 [oo 12 .mv [.t 1], oo 13 .mv [.t 0], oo 14 .mv [.t 5], oo 15 (.bin .sub) [.t 14, kk 1], oo 16 (.ixA 3) [.t 13, .t 15], od 17 (.ldA 3) [.t 16] [1, 2, 3, 4], oo 18 .mv [.t 0], oo 19 .mv [.t 5], oo 20 (.ixA 3) [.t 18, .t 19], od 21 (.ldA 3) [.t 20] [6, 7, 8], oo 22 .callv [.t 12, .t 17, .t 21], oo 23 (.bin .geq) [.t 22, kk 0]]) (.cond (.t 23) (.seq (.ops 0 [oo 4 .mv [(.c (.lit (.bool false)))]]) .ret) .skip))) (.ops 0 [oo 10 .mv [.t 5], oo 11 (.bin .add) [.t 10, kk 1], oo 5 .mv [.t 11]])))))) (.seq (.ops 0 [oo 24 .mv [.t 0], oo 25 .len [.t 24], oo 26 (.bin .gtr) [.t 25, kk 0], oo 4 .mv [.t 26]]) .ret))), [.t 4]⟩
theorem dk_143 : callable Tryz.prog 143 = true ∧ ∃ bx, Comp Tryz.prog bx gtab 143 d_143.nt d_143.c d_143.rs := ⟨kr, allbx, ⟨⟨Tryz.f143, _, Tryz.func143, rfl, rfl, kr, kr⟩⟩⟩
def d_121 : Fd := ⟨20, (.seq (.ops 0 [oo 4 .mv [kk 0]]) (.seq (.ops 0 [oo 7 .mv [.t 0], oo 8 (.call 182) [.t 7], oo 5 .mv [.t 8]]) (.seq (.ops 0 [oo 9 .mv [.t 1], oo 10 (.call 182) [.t 9], oo 6 .mv [.t 10]]) (.seq (.seq (.ops 0 [oo 11 .mv [.t 5]]) (.cond (.t 11) (.seq (.seq (.ops 0 [oo 12 .mv [.t 6]]) (.cond (.t 12) (.seq (.ops 0 [oo 4 .mv [kk 0]]) .ret) .skip)) (.seq (.ops 0 [oo 4 .mv [kk (-1)]]) .ret)) .skip)) (.seq (.seq (.ops 0 [oo 13 .mv [.t 6]]) (.cond (.t 13) (.seq (.ops 0 [oo 4 .mv [kk 1]]) .ret) .skip)) (.seq (.seq (.ops 0 [oo 14 .mv [.t 0], oo 15 .mv [.t 1], oo 16 (.bin .lss) [.t 14, .t 15]]) (.cond (.t 16) (.seq (.ops 0 [oo 4 .mv [kk (-1)]]) .ret) .skip)) (.seq (.seq (.ops 0 [oo 17 .mv [.t 0], oo 18 .mv [.t 1], oo 19 (.bin .gtr) [.t 17, .t 18]]) (.cond (.t 19) (.seq (.ops 0 [oo 4 .mv [kk 1]]) .ret) .skip)) (.seq (.ops 0 [oo 4 .mv [kk 0]]) .ret)))))))), [.t 4]⟩
theorem dk_121 : callable Tryz.prog 121 = true ∧ ∃ bx, Comp Tryz.prog bx gtab 121 d_121.nt d_121.c d_121.rs := ⟨kr, allbx, ⟨⟨Tryz.f121, _, Tryz.func121, rfl, rfl, kr, kr⟩⟩⟩
def d_342 : Fd := ⟨20, (.seq (.ops 0 [oo 2 .mv [(.c (.lit (.bool false)))]]) (.seq (.seq (.ops 0 [oo 3 .mv [kk 1]]) (.block 0 (.loop (.seq (.seq (.ops 0 [oo 4 .mv [.t 3], oo 5 .mv [.t 0], oo 6 .len [.t 5], oo 7 (.bin .lss) [.t 4, .t 6]]) (.cond (.t 7) .skip (.exit 0))) (.seq (.block 1 (.seq (.ops 0 [oo 10 .mv [.t 0], oo 11 .mv [.t 3], oo 12 (.ixA 1) [.t 10, .t 11], od 13 .ld1 [.t 12] [0, 1, 2], oo 14 .mv [.t 0], oo 15 .mv [.t 3], oo 16 (.bin .sub) [.t 15, kk 1], oo 17 (.ixA 1) [.t 14, .t 16], od 18 .ld1 [.t 17] [4, 5, 6, 7], oo 19 (.bin .leq) [.t 13, .t 18]]) (.cond (.t 19) (.seq (.ops 0 [oo 2 .mv [(.c (.lit (.bool false)))]]) .ret) .skip))) (.ops 0 [oo 8 .mv [.t 3], oo 9 (.bin .add) [.t 8, kk 1], oo 3 .mv [.t 9]])))))) (.seq (.ops 0 [oo 2 .mv [(.c (.lit (.bool true)))]]) .ret))), [.t 2]⟩
theorem dk_342 : callable Tryz.prog 342 = true ∧ ∃ bx, Comp Tryz.prog bx gtab 342 d_342.nt d_342.c d_342.rs := ⟨kr, allbx, ⟨⟨Tryz.f342, _, Tryz.func342, rfl, rfl, kr, kr⟩⟩⟩
def d_287 : Fd := ⟨27, (.seq (.ops 2 [oo 4 (.box 31) [.t 0], oo 8 .mv [(.c (.lit (.bool false)))]]) (.seq (.ops 0 [oo 9 .mv [.t 3], oo 10 .mv [.t 1], oo 11 (.fldA 0) [.t 4], od 12 .ld1 [.t 11] [2], oo 13 .mv [.t 2], oo 14 (.bin .sub) [.t 13, kk 1], oo 15 (.ixA 1) [.t 12, .t 14], od 16 .ld1 [.t 15] [2, 3, 4, 5, 6], oo 17 (.bin .add) [.t 10, .t 16], oo 18 .mv [.t 1], oo 19 (.fldA 1) [.t 4], od 20 .ld1 [.t 19] [10], oo 21 .mv [.t 2], oo 22 (.bin .sub) [.t 21, kk 1], oo 23 (.ixA 1) [.t 20, .t 22], od 24 .ld1 [.t 23] [10, 11, 12, 13, 14], oo 25 (.bin .add) [.t 18, .t 24], oo 26 (.call 149) [.t 9, .t 17, .t 25], oo 8 .mv [.t 26]]) .ret)), [.t 8]⟩
theorem dk_287 : callable Tryz.prog 287 = true ∧ ∃ bx, Comp Tryz.prog bx gtab 287 d_287.nt d_287.c d_287.rs := ⟨kr, (fun n => !([1000004].contains n)), ⟨⟨Tryz.f287, _, Tryz.func287, rfl, rfl, kr, kr⟩⟩⟩
def d_203 : Fd := ⟨19, (.seq (.ops 0 [oo 4 .mv [kk 0]]) (.seq (.seq (.ops 0 [oo 6 .mv [.t 0], oo 7 .len [.t 6], oo 8 .mv [kk 0]]) (.block 0 (.loop (.seq (.ops 0 [oo 9 (.bin .lss) [.t 8, .t 7]]) (.seq (.cond (.t 9) .skip (.exit 0)) (.seq (.block 1 (.seq (.ops 0 [oo 10 .mv [.t 8], oo 5 .mv [.t 10]]) (.seq (.ops 0 [oo 11 .mv [.t 1], oo 12 .mv [.t 0], oo 13 .mv [.t 5], oo 14 (.ixA 3) [.t 12, .t 13], oo 15 (.ldA 3) [.t 14], oo 16 .callv [.t 11, .t 15]]) (.cond (.t 16) (.seq (.ops 0 [oo 17 .mv [.t 5], oo 4 .mv [.t 17]]) .ret) .skip)))) (.ops 0 [oo 18 (.bin .add) [.t 8, kk 1], oo 8 .mv [.t 18]]))))))) (.seq (.ops 0 [oo 4 .mv [kk (-1)]]) .ret))), [.t 4]⟩
theorem dk_203 : callable Tryz.prog 203 = true ∧ ∃ bx, Comp Tryz.prog bx gtab 203 d_203.nt d_203.c d_203.rs := ⟨kr, allbx, ⟨⟨Tryz.f203, _, Tryz.func203, rfl, rfl, kr, kr⟩⟩⟩
def d_311 : Fd := ⟨19, (.seq (.ops 0 [oo 4 .mv [kk 0]]) (.seq (.seq (.ops 0 [oo 6 .mv [.t 0], oo 7 .len [.t 6], oo 8 .mv [kk 0]]) (.block 0 (.loop (.seq (.ops 0 [oo 9 (.bin .lss) [.t 8, .t 7]]) (.seq (.cond (.t 9) .skip (.exit 0)) (.seq (.block 1 (.seq (.ops 0 [oo 10 .mv [.t 8], oo 5 .mv [.t 10]]) (.seq (.ops 0 [oo 11 .mv [.t 1], oo 12 .mv [.t 0], oo 13 .mv [.t 5], oo 14 (.ixA 2) [.t 12, .t 13], oo 15 (.ldA 2) [.t 14], oo 16 .callv [.t 11, .t 15]]) (.cond (.t 16) (.seq (.ops 0 [oo 17 .mv [.t 5], oo 4 .mv [.t 17]]) .ret) .skip)))) (.ops 0 [oo 18 (.bin .add) [.t 8, kk 1], oo 8 .mv [.t 18]]))))))) (.seq (.ops 0 [oo 4 .mv [kk (-1)]]) .ret))), [.t 4]⟩
theorem dk_311 : callable Tryz.prog 311 = true ∧ ∃ bx, Comp Tryz.prog bx gtab 311 d_311.nt d_311.c d_311.rs := ⟨kr, allbx, ⟨⟨Tryz.f311, _, Tryz.func311, rfl, rfl, kr, kr⟩⟩⟩
def d_228 : Fd := ⟨20, (.seq (.ops 0 [oo 3 .boxE [.t 0], oo 4 .boxE [.t 1], oo 6 .mv [kk 0]]) (.seq (.seq (.ops 0 [oo 7 .mv [.t 2], oo 8 (.bin .eql) [.t 7, kk 0]]) (.cond (.t 8) (.seq (.ops 0 [oo 9 (.fldA 0) [.t 4], oo 10 .ld1 [.t 9], oo 6 .mv [.t 10]]) .ret) .skip)) (.seq (.ops 0 [oo 11 (.fldA 0) [.t 4], od 12 .ld1 [.t 11] [0], oo 13 (.fldA 1) [.t 3], od 14 .ld1 [.t 13] [2], oo 15 .mv [.t 2], oo 16 (.bin .sub) [.t 15, kk 1], oo 17 (.ixA 1) [.t 14, .t 16], od 18 .ld1 [.t 17] [2, 3, 4, 5, 6], oo 19 (.bin .add) [.t 12, .t 18], oo 6 .mv [.t 19]]) .ret))), [.t 6]⟩
theorem dk_228 : callable Tryz.prog 228 = true ∧ ∃ bx, Comp Tryz.prog bx gtab 228 d_228.nt d_228.c d_228.rs := ⟨kr, allbx, ⟨⟨Tryz.f228, _, Tryz.func228, rfl, rfl, kr, kr⟩⟩⟩
def d_205 : Fd := ⟨17, (.seq (.ops 0 [oo 4 .mv [(.c (.lit (.bool false)))]]) (.seq (.ops 0 [oo 5 .mv [.t 0], oo 6 (.call 182) [.t 5], oo 7 .mv [.t 6], og 8 7 true .mv [.t 1], og 9 7 true (.call 182) [.t 8], og 10 7 true (.un .not) [.t 9], oo 11 .pick [.t 7, .t 10, (.c (.lit (.bool false)))], oo 12 .mv [.t 11], og 13 12 false .mv [.t 0], og 14 12 false .mv [.t 1], og 15 12 false (.bin .lss) [.t 13, .t 14], oo 16 .pick [.t 12, (.c (.lit (.bool true))), .t 15], oo 4 .mv [.t 16]]) .ret)), [.t 4]⟩
theorem dk_205 : callable Tryz.prog 205 = true ∧ ∃ bx, Comp Tryz.prog bx gtab 205 d_205.nt d_205.c d_205.rs := ⟨kr, allbx, ⟨⟨Tryz.f205, _, Tryz.func205, rfl, rfl, kr, kr⟩⟩⟩
def d_134 : Fd := ⟨8, (.seq (.ops 0 [oo 2 .mv [(.c (.sl 0 [] .exact))]]) (.seq (.seq (.ops 0 [oo 3 .mv [.t 0], oo 4 (.eqN false) [.t 3]]) (.cond (.t 4) (.seq (.ops 0 [oo 2 .mv [(.c (.sl 0 [] .exact))]]) .ret) .skip)) (.seq (.ops 4 [oo 5 (.mkslB 188 0 3 [] []) [], oo 6 .mv [.t 0], oo 7 (.appM 188 3 24) [.t 5, .t 6], oo 2 .mv [.t 7]]) .ret))), [.t 2]⟩
theorem dk_134 : callable Tryz.prog 134 = true ∧ ∃ bx, Comp Tryz.prog bx gtab 134 d_134.nt d_134.c d_134.rs := ⟨kr, allbx, ⟨⟨Tryz.f134, _, Tryz.func134, rfl, rfl, kr, kr⟩⟩⟩
def d_290 : Fd := ⟨12, (.seq (.ops 0 [oo 4 .mv [kk 0]]) (.seq (.ops 0 [oo 5 .mv [.t 0], oo 6 .mv [.t 1], oo 7 (.bin .sub) [.t 5, .t 6], oo 8 .mv [.t 1], oo 9 .mv [.t 0], oo 10 (.bin .sub) [.t 8, .t 9], oo 11 .mx [.t 7, .t 10], oo 4 .mv [.t 11]]) .ret)), [.t 4]⟩
theorem dk_290 : callable Tryz.prog 290 = true ∧ ∃ bx, Comp Tryz.prog bx gtab 290 d_290.nt d_290.c d_290.rs := ⟨kr, allbx, ⟨⟨Tryz.f290, _, Tryz.func290, rfl, rfl, kr, kr⟩⟩⟩
def d_345 : Fd := ⟨9, (.seq (.ops 2 [oo 3 (.box 242) [.t 1], oo 4 .mv [(.c (.lit (.bool false)))]]) (.seq (.ops 0 [oo 5 .mv [.t 0], oo 6 (.ldA 2) [.t 3], oo 7 (.call 355) [.t 5, .t 6], oo 8 (.bin .geq) [.t 7, kk 0], oo 4 .mv [.t 8]]) .ret)), [.t 4]⟩
theorem dk_345 : callable Tryz.prog 345 = true ∧ ∃ bx, Comp Tryz.prog bx gtab 345 d_345.nt d_345.c d_345.rs := ⟨kr, (fun n => !([1000003].contains n)), ⟨⟨Tryz.f345, _, Tryz.func345, rfl, rfl, kr, kr⟩⟩⟩
def d_354 : Fd := ⟨8, (.seq (.ops 2 [oo 2 (.box 242) [.t 0], oo 3 .mv [(.c (.lit (.bool false)))]]) (.seq (.ops 0 [oo 4 (.fldA 0) [.t 2], oo 5 .ld1 [.t 4], oo 6 .ld1 [.t 1], oo 7 (.bin .eql) [.t 5, .t 6], oo 3 .mv [.t 7]]) .ret)), [.t 3]⟩
theorem dk_354 : callable Tryz.prog 354 = true ∧ ∃ bx, Comp Tryz.prog bx gtab 354 d_354.nt d_354.c d_354.rs := ⟨kr, (fun n => !([1000002].contains n)), ⟨⟨Tryz.f354, _, Tryz.func354, rfl, rfl, kr, kr⟩⟩⟩
def d_336 : Fd := ⟨9, (.seq (.ops 0 [oo 4 .mv [(.c (.lit (.bool false)))]]) (.seq (.ops 0 [oo 5 .mv [.t 0], oo 6 .mv [.t 1], oo 7 (.call 352) [.t 5, .t 6], oo 8 (.bin .geq) [.t 7, kk 0], oo 4 .mv [.t 8]]) .ret)), [.t 4]⟩
theorem dk_336 : callable Tryz.prog 336 = true ∧ ∃ bx, Comp Tryz.prog bx gtab 336 d_336.nt d_336.c d_336.rs := ⟨kr, allbx, ⟨⟨Tryz.f336, _, Tryz.func336, rfl, rfl, kr, kr⟩⟩⟩
def d_182 : Fd := ⟨6, (.seq (.ops 0 [oo 2 .mv [(.c (.lit (.bool false)))]]) (.seq (.ops 0 [oo 3 .mv [.t 0], oo 4 .mv [.t 0], oo 5 (.bin .neq) [.t 3, .t 4], oo 2 .mv [.t 5]]) .ret)), [.t 2]⟩
theorem dk_182 : callable Tryz.prog 182 = true ∧ ∃ bx, Comp Tryz.prog bx gtab 182 d_182.nt d_182.c d_182.rs := ⟨kr, allbx, ⟨⟨Tryz.f182, _, Tryz.func182, rfl, rfl, kr, kr⟩⟩⟩
end Go.Proofs.YtdefefeifcdogaaGreat
namespace Go.Proofs.YtdefefeifcdogaaGreat
open Go.RowKit
set_option maxRecDepth 100000
def d_20 : Fd := ⟨171, (.seq (.ops 4 [oo 2 .boxE [.t 0], oo 3 .boxE [.t 1], ⟨(some 4), none, (.alloc 28 [(.sl 0 [] .exact), (.sl 0 [] .exact), (.sl 0 [] .exact)]), [], none⟩, oo 5 .mv [kk 0]]) (.seq (.ops 0 [oo 29 (.ldA 3) [.t 2], oo 30 (.ldA 12) [.t 3], oo 31 (.call 62) [.t 29, .t 30], oo 28 .mv [.t 31], oo 32 (.ext 0) [.t 28], oo 33 (.ext 1) [.t 28], oo 6 .mv [.t 32], oo 7 .mv [.t 33]]) (.seq (.seq (.ops 0 [oo 34 .mv [.t 7], oo 35 (.bin .neq) [.t 34, kk 0]]) (.cond (.t 35) (.seq (.ops 0 [⟨(some 36), none, (.build [(.sl 0 [] .exact), (.sl 0 [] .exact), (.sl 0 [] .exact)] []), [], none⟩, oo 37 .mv [.t 7], ⟨none, none, (.st 3), [.t 4, .t 36], none⟩, oo 5 .mv [.t 37]]) .ret) .skip)) (.seq (.ops 6 [oo 38 (.fldA 0) [.t 2], oo 39 (.ldA 2) [.t 38], oo 40 (.call 63) [.t 39], ⟨(some 41), none, (.build [(.sl 0 [] .exact), (.sl 0 [] .exact), (.sl 0 [] .exact)] [(0, 2)]), [.t 40], none⟩, ⟨(some 8), none, (.alloc 28 [(.sl 0 [] .exact), (.sl 0 [] .exact), (.sl 0 [] .exact)]), [], none⟩, ⟨none, none, (.st 3), [.t 8, .t 41], none⟩]) (.seq (.seq (.ops 0 [oo 42 (.fldA 2) [.t 2], oo 43 .ld1 [.t 42], oo 44 .len [.t 43], oo 45 .mv [kk 0]]) (.block 0 (.loop (.seq (.ops 0 [oo 46 (.bin .lss) [.t 45, .t 44]]) (.seq (.cond (.t 46) .skip (.exit 0)) (.seq (.block 1 (.seq (.ops 6 [oo 47 .mv [.t 45], oo 48 (.ixA 4) [.t 43, .t 45], oo 49 (.ldA 4) [.t 48], ⟨(some 10), none, (.alloc 84 [(.lit (.bool false)), (.lit (.bool false)), (.sl 0 [] .exact), (.sl 0 [] .exact)]), [], none⟩, oo 9 .mv [.t 47], ⟨none, none, (.st 4), [.t 10, .t 49], none⟩]) (.seq (.ops 2 [oo 50 (.mkmap [0, 1, 1]) [], oo 11 .mv [.t 50]]) (.seq (.ops 5 [oo 51 (.fldA 3) [.t 10], oo 52 .ld1 [.t 51], oo 53 .len [.t 52], oo 54 (.mk 94 1 8 [(.lit (.map none))]) [.t 53, .t 53], oo 12 .mv [.t 54]]) (.seq (.seq (.ops 0 [oo 55 .mv [.t 12], oo 56 .len [.t 55], oo 57 .mv [kk 0]]) (.block 2 (.loop (.seq (.ops 0 [oo 58 (.bin .lss) [.t 57, .t 56]]) (.seq (.cond (.t 58) .skip (.exit 2)) (.seq (.block 3 (.seq (.ops 0 [oo 59 .mv [.t 57], oo 13 .mv [.t 59]]) (.ops 5 [oo 60 .mv [.t 12], oo 61 .mv [.t 13], oo 62 (.mkmap [0]) [], oo 63 (.ixA 1) [.t 60, .t 61], ⟨none, none, (.st 1), [.t 63, .t 62], none⟩]))) (.ops 0 [oo 64 (.bin .add) [.t 57, kk 1], oo 57 .mv [.t 64]]))))))) (.seq (.seq (.ops 0 [oo 65 .mv [.t 6], oo 66 .nilck [.t 65], oo 67 (.fldA 15) [.t 66], oo 68 .ld1 [.t 67], oo 69 .mv [.t 9], oo 70 (.ixA 1) [.t 68, .t 69], oo 71 .ld1 [.t 70], oo 72 .len [.t 71], oo 73 .mv [kk 0]]) (.block 4 (.loop (.seq (.ops 0 [oo 74 (.bin .lss) [.t 73, .t 72]]) (.seq (.cond (.t 74) .skip (.exit 4)) (.seq (.block 5 (.seq (.ops 0 [oo 75 (.ixA 1) [.t 71, .t 73], oo 76 .ld1 [.t 75], oo 15 .mv [.t 76]]) (.seq (.ops 0 [oo 77 .mv [.t 15], oo 78 .nilck [.t 77], oo 79 (.fldA 5) [.t 78], oo 80 .ld1 [.t 79], oo 81 .len [.t 80], oo 82 .mv [kk 0]]) (.block 6 (.loop (.seq (.ops 0 [oo 83 (.bin .lss) [.t 82, .t 81]]) (.seq (.cond (.t 83) .skip (.exit 6)) (.seq (.block 7 (.seq (.ops 4 [oo 84 (.ixA 5) [.t 80, .t 82], oo 85 (.ldA 5) [.t 84], ⟨(some 17), none, (.alloc 114 [li 0, (.lit (.bool false)), (.lit (.bool false)), (.sl 0 [] .exact), li 0]), [], none⟩, ⟨none, none, (.st 5), [.t 17, .t 85], none⟩]) (.seq (.ops 0 [oo 86 .mv [.t 11], oo 87 (.fldA 0) [.t 17], oo 88 (.fldA 0) [.t 87], oo 89 (.ldA 3) [.t 88], ⟨none, none, (.mput [0, 1, 1]), [.t 86, .t 89, kk 1], none⟩]) (.seq (.ops 0 [oo 90 (.fldA 0) [.t 17], oo 91 (.fldA 3) [.t 90], oo 92 .ld1 [.t 91], oo 93 .len [.t 92], oo 94 .mv [kk 0]]) (.block 8 (.loop (.seq (.ops 0 [oo 95 (.bin .lss) [.t 94, .t 93]]) (.seq (.cond (.t 95) .skip (.exit 8)) (.seq (.block 9 (.seq (.ops 0 [oo 96 .mv [.t 94], oo 97 (.ixA 1) [.t 92, .t 94], oo 98 .ld1 [.t 97], oo 18 .mv [.t 96], oo 19 .mv [.t 98]]) (.ops 0 [oo 99 .mv [.t 12], oo 100 .mv [.t 18], oo 101 (.ixA 1) [.t 99, .t 100], oo 102 .ld1 [.t 101], oo 103 .mv [.t 19], ⟨none, none, (.mput [0]), [.t 102, .t 103, kk 1], none⟩]))) (.ops 0 [oo 104 (.bin .add) [.t 94, kk 1], oo 94 .mv [.t 104]])))))))))) (.ops 0 [oo 105 (.bin .add) [.t 82, kk 1], oo 82 .mv [.t 105]]))))))))) (.ops 0 [oo 106 (.bin .add) [.t 73, kk 1], oo 73 .mv [.t 106]]))))))) (.seq (.ops 7 [oo 107 (.fldA 0) [.t 10], oo 108 .ld1 [.t 107], oo 109 (.fldA 1) [.t 10], oo 110 .ld1 [.t 109], ⟨(some 111), none, (.build [(.lit (.bool false)), (.lit (.bool false)), (.sl 0 [] .exact), (.sl 0 [] .exact)] [(0, 1), (1, 1)]), [.t 108, .t 110], none⟩, ⟨(some 20), none, (.alloc 84 [(.lit (.bool false)), (.lit (.bool false)), (.sl 0 [] .exact), (.sl 0 [] .exact)]), [], none⟩, ⟨none, none, (.st 4), [.t 20, .t 111], none⟩]) (.seq (.seq (.ops 0 [oo 112 (.fldA 2) [.t 10], oo 113 .ld1 [.t 112], oo 114 .len [.t 113], oo 115 .mv [kk 0]]) (.block 10 (.loop (.seq (.ops 0 [oo 116 (.bin .lss) [.t 115, .t 114]]) (.seq (.cond (.t 116) .skip (.exit 10)) (.seq (.block 11 (.seq (.ops 4 [oo 117 (.ixA 3) [.t 113, .t 115], oo 118 (.ldA 3) [.t 117], oo 22 (.alloc 110 [li 0, (.lit (.bool false)), (.lit (.bool false))]) [], ⟨none, none, (.st 3), [.t 22, .t 118], none⟩]) (.seq (.ops 0 [oo 119 .mv [.t 11], oo 120 (.ldA 3) [.t 22], oo 121 (.mlk [0, 1, 1] false) [.t 119, .t 120], oo 122 (.bin .eql) [.t 121, kk 1]]) (.cond (.t 122) (.ops 7 [oo 123 (.fldA 2) [.t 20], oo 124 .ld1 [.t 123], oo 125 (.ldA 3) [.t 22], oo 126 (.mkslB 110 1 3 [li 0, (.lit (.bool false)), (.lit (.bool false))] [(0, 3)]) [.t 125], oo 127 (.appM 110 3 16) [.t 124, .t 126], oo 128 (.fldA 2) [.t 20], ⟨none, none, (.st 1), [.t 128, .t 127], none⟩]) .skip)))) (.ops 0 [oo 129 (.bin .add) [.t 115, kk 1], oo 115 .mv [.t 129]]))))))) (.seq (.seq (.ops 0 [oo 130 (.fldA 3) [.t 10], oo 131 .ld1 [.t 130], oo 132 .len [.t 131], oo 133 .mv [kk 0]]) (.block 12 (.loop (.seq (.ops 0 [oo 134 (.bin .lss) [.t 133, .t 132]]) (.seq (.cond (.t 134) .skip (.exit 12)) (.seq (.block 13 (.seq (.ops 0 [oo 135 .mv [.t 133], oo 136 (.ixA 1) [.t 131, .t 133], oo 137 .ld1 [.t 136], oo 23 .mv [.t 135], oo 24 .mv [.t 137]]) (.seq (.ops 0 [oo 25 .mv [(.c (.sl 0 [] .exact))]]) (.seq (.seq (.ops 0 [oo 138 .mv [.t 24], oo 139 .len [.t 138], oo 140 .mv [kk 0]]) (.block 14 (.loop (.seq (.ops 0 [oo 141 (.bin .lss) [.t 140, .t 139]]) (.seq (.cond (.t 141) .skip (.exit 14)) (.seq (.block 15 (.seq (.ops 0 [oo 142 (.ixA 1) [.t 138, .t 140], oo 143 .ld1 [.t 142], oo 27 .mv [.t 143]]) (.seq (.ops 0 [oo 144 .mv [.t 12], oo 145 .mv [.t 23], oo 146 (.ixA 1) [.t 144, .t 145], oo 147 .ld1 [.t 146], oo 148 .mv [.t 27], oo 149 (.mlk [0] false) [.t 147, .t 148], oo 150 (.bin .eql) [.t 149, kk 1]]) (.cond (.t 150) (.ops 5 [oo 151 .mv [.t 25], oo 152 .mv [.t 27], oo 153 (.mkslB 3 1 1 [li 0] [(0, 1)]) [.t 152], oo 154 (.appM 3 1 8) [.t 151, .t 153], oo 25 .mv [.t 154]]) .skip)))) (.ops 0 [oo 155 (.bin .add) [.t 140, kk 1], oo 140 .mv [.t 155]]))))))) (.ops 7 [oo 156 (.fldA 3) [.t 20], oo 157 .ld1 [.t 156], oo 158 .mv [.t 25], ⟨(some 159), none, (.mkslB 23 1 1 [(.sl 0 [] .exact)] [(0, 1)]), [.t 158], none⟩, oo 160 (.appM 23 1 24) [.t 157, .t 159], oo 161 (.fldA 3) [.t 20], ⟨none, none, (.st 1), [.t 161, .t 160], none⟩]))))) (.ops 0 [oo 162 (.bin .add) [.t 133, kk 1], oo 133 .mv [.t 162]]))))))) (.ops 7 [oo 163 (.fldA 2) [.t 8], oo 164 .ld1 [.t 163], oo 165 (.ldA 4) [.t 20], ⟨(some 166), none, (.mkslB 84 1 4 [(.lit (.bool false)), (.lit (.bool false)), (.sl 0 [] .exact), (.sl 0 [] .exact)] [(0, 4)]), [.t 165], none⟩, oo 167 (.appM 84 4 56) [.t 164, .t 166], oo 168 (.fldA 2) [.t 8], ⟨none, none, (.st 1), [.t 168, .t 167], none⟩])))))))))) (.ops 0 [oo 169 (.bin .add) [.t 45, kk 1], oo 45 .mv [.t 169]]))))))) (.seq (.ops 0 [oo 170 (.ldA 3) [.t 8], ⟨none, none, (.st 3), [.t 4, .t 170], none⟩, oo 5 .mv [kk 0]]) .ret)))))), [(.c 4 3 true), .t 5]⟩
theorem dk_20 : callable Tryz.prog 20 = true ∧ ∃ bx, Comp Tryz.prog bx gtab 20 d_20.nt d_20.c d_20.rs := ⟨kr, allbx, ⟨⟨Tryz.f20, _, Tryz.func20, rfl, rfl, kr, kr⟩⟩⟩
def d_75 : Fd := ⟨101, (.seq (.ops 2 [oo 1 (.box 31) [.t 0], oo 2 .mv [kk 0]]) (.seq (.ops 0 [oo 7 (.fldA 0) [.t 1], oo 8 .ld1 [.t 7], oo 9 .len [.t 8], oo 3 .mv [.t 9]]) (.seq (.seq (.ops 0 [oo 10 .mv [.t 3], oo 11 (.call 149) [.t 10, kk 1, kk 4], oo 12 (.un .not) [.t 11], oo 13 .mv [.t 12], og 14 13 false (.fldA 1) [.t 1], og 15 13 false .ld1 [.t 14], og 16 13 false .len [.t 15], og 17 13 false .mv [.t 3], og 18 13 false (.bin .neq) [.t 16, .t 17], oo 19 .pick [.t 13, (.c (.lit (.bool true))), .t 18], oo 20 .mv [.t 19], og 21 20 false (.fldA 2) [.t 1], og 22 20 false .ld1 [.t 21], og 23 20 false .len [.t 22], og 24 20 false .mv [.t 3], og 25 20 false (.bin .neq) [.t 23, .t 24], oo 26 .pick [.t 20, (.c (.lit (.bool true))), .t 25]]) (.cond (.t 26) (.seq (.ops 0 [oo 2 .mv [kk 60]]) .ret) .skip)) (.seq (.seq (.ops 0 [oo 27 .mv [.t 3], oo 28 .mv [kk 0]]) (.block 0 (.loop (.seq (.ops 0 [oo 29 (.bin .lss) [.t 28, .t 27]]) (.seq (.cond (.t 29) .skip (.exit 0)) (.seq (.block 1 (.seq (.ops 0 [oo 30 .mv [.t 28], oo 4 .mv [.t 30]]) (.seq (.ops 0 [oo 31 (.fldA 0) [.t 1], oo 32 .ld1 [.t 31], oo 33 .mv [.t 4], oo 34 (.ixA 1) [.t 32, .t 33], oo 35 .ld1 [.t 34], oo 36 (.bin .lss) [.t 35, kk 0], oo 37 .mv [.t 36], og 38 37 false (.fldA 0) [.t 1], ⟨(some 39), (some (37, false)), .ld1, [.t 38], (some [0, 1, 2, 3, 4, 5, 6, 7])⟩, og 40 37 false .mv [.t 4], og 41 37 false (.ixA 1) [.t 39, .t 40], ⟨(some 42), (some (37, false)), .ld1, [.t 41], (some [0, 1, 2, 3, 4, 5, 6, 7, 8, 9, 10])⟩, og 43 37 false (.fldA 1) [.t 1], ⟨(some 44), (some (37, false)), .ld1, [.t 43], (some [0, 1, 2, 3, 4, 5, 6, 12])⟩, og 45 37 false .mv [.t 4], og 46 37 false (.ixA 1) [.t 44, .t 45], ⟨(some 47), (some (37, false)), .ld1, [.t 46], (some [0, 1, 2, 3, 4, 5, 6, 12, 13, 14, 15])⟩, og 48 37 false (.bin .gtr) [.t 42, .t 47], oo 49 .pick [.t 37, (.c (.lit (.bool true))), .t 48], oo 50 .mv [.t 49], og 51 50 false (.fldA 1) [.t 1], og 52 50 false .ld1 [.t 51], og 53 50 false .mv [.t 4], og 54 50 false (.ixA 1) [.t 52, .t 53], og 55 50 false .ld1 [.t 54], og 56 50 false (.bin .gtr) [.t 55, kk 8], oo 57 .pick [.t 50, (.c (.lit (.bool true))), .t 56]]) (.cond (.t 57) (.seq (.ops 0 [oo 2 .mv [kk 60]]) .ret) .skip)))) (.ops 0 [oo 58 (.bin .add) [.t 28, kk 1], oo 28 .mv [.t 58]]))))))) (.seq (.seq (.ops 0 [oo 59 (.fldA 0) [.t 1], oo 60 .ld1 [.t 59], oo 61 (.call 150) [.t 60], oo 62 (.un .not) [.t 61], oo 63 .mv [.t 62], og 64 63 false (.fldA 1) [.t 1], og 65 63 false .ld1 [.t 64], og 66 63 false (.call 150) [.t 65], og 67 63 false (.un .not) [.t 66], oo 68 .pick [.t 63, (.c (.lit (.bool true))), .t 67], oo 69 .mv [.t 68], og 70 69 false (.fldA 3) [.t 1], og 71 69 false .ld1 [.t 70], og 72 69 false (.call 149) [.t 71, kk 1, kk 18], og 73 69 false (.un .not) [.t 72], oo 74 .pick [.t 69, (.c (.lit (.bool true))), .t 73], oo 75 .mv [.t 74], og 76 75 false (.fldA 4) [.t 1], og 77 75 false .ld1 [.t 76], og 78 75 false (.call 149) [.t 77, kk 0, kk 18], og 79 75 false (.un .not) [.t 78], oo 80 .pick [.t 75, (.c (.lit (.bool true))), .t 79]]) (.cond (.t 80) (.seq (.ops 0 [oo 2 .mv [kk 60]]) .ret) .skip)) (.seq (.seq (.ops 13 [oo 81 (.fldA 5) [.t 1], oo 82 .ld1 [.t 81], oo 83 (.fldA 6) [.t 1], oo 84 .ld1 [.t 83], oo 85 (.fldA 7) [.t 1], oo 86 .ld1 [.t 85], oo 87 (.fldA 8) [.t 1], oo 88 .ld1 [.t 87], oo 89 (.fldA 9) [.t 1], oo 90 .ld1 [.t 89], oo 91 (.mkslB 3 5 1 [li 0, li 0, li 0, li 0, li 0] [(0, 1), (1, 1), (2, 1), (3, 1), (4, 1)]) [.t 82, .t 84, .t 86, .t 88, .t 90], oo 92 .len [.t 91], oo 93 .mv [kk 0]]) (.block 2 (.loop (.seq (.ops 0 [oo 94 (.bin .lss) [.t 93, .t 92]]) (.seq (.cond (.t 94) .skip (.exit 2)) (.seq (.block 3 (.seq (.ops 0 [oo 95 (.ixA 1) [.t 91, .t 93], oo 96 .ld1 [.t 95], oo 6 .mv [.t 96]]) (.seq (.ops 0 [oo 97 .mv [.t 6], oo 98 (.call 149) [.t 97, kk 0, kk 1000], oo 99 (.un .not) [.t 98]]) (.cond (.t 99) (.seq (.ops 0 [oo 2 .mv [kk 60]]) .ret) .skip)))) (.ops 0 [oo 100 (.bin .add) [.t 93, kk 1], oo 93 .mv [.t 100]]))))))) (.seq (.ops 0 [oo 2 .mv [kk 0]]) .ret))))))), [.t 2]⟩
theorem dk_75 : callable Tryz.prog 75 = true ∧ ∃ bx, Comp Tryz.prog bx gtab 75 d_75.nt d_75.c d_75.rs := ⟨kr, (fun n => !([1000001].contains n)), ⟨⟨Tryz.f75, _, Tryz.func75, rfl, rfl, kr, kr⟩⟩⟩
def d_310 : Fd := ⟨74, (.seq (.ops 2 [oo 1 (.box 102) [.t 0], oo 2 .mv [(.c (.lit (.bool false)))]]) (.seq (.ops 0 [oo 3 .mv [kk 0]]) (.seq (.seq (.ops 0 [oo 10 (.fldA 0) [.t 1], oo 11 .ld1 [.t 10], oo 12 .len [.t 11], oo 13 .mv [kk 0]]) (.block 0 (.loop (.seq (.ops 0 [oo 14 (.bin .lss) [.t 13, .t 12]]) (.seq (.cond (.t 14) .skip (.exit 0)) (.seq (.block 1 (.seq (.ops 4 [oo 15 (.ixA 2) [.t 11, .t 13], oo 16 (.ldA 2) [.t 15], oo 5 (.alloc 242 [li 0, li 0]) [], ⟨none, none, (.st 2), [.t 5, .t 16], none⟩]) (.seq (.seq (.ops 0 [oo 17 (.fldA 0) [.t 5], oo 18 .ld1 [.t 17], oo 19 .mv [.t 3], oo 20 (.bin .leq) [.t 18, .t 19], oo 21 .mv [.t 20], og 22 21 false (.fldA 0) [.t 5], og 23 21 false .ld1 [.t 22], og 24 21 false (.bin .gtr) [.t 23, kk 14], oo 25 .pick [.t 21, (.c (.lit (.bool true))), .t 24], oo 26 .mv [.t 25], og 27 26 false (.fldA 1) [.t 5], og 28 26 false .ld1 [.t 27], og 29 26 false (.call 149) [.t 28, kk 1, kk 18], og 30 26 false (.un .not) [.t 29], oo 31 .pick [.t 26, (.c (.lit (.bool true))), .t 30]]) (.cond (.t 31) (.seq (.ops 0 [oo 2 .mv [(.c (.lit (.bool false)))]]) .ret) .skip)) (.ops 0 [oo 32 (.fldA 0) [.t 5], oo 33 .ld1 [.t 32], oo 3 .mv [.t 33]])))) (.ops 0 [oo 34 (.bin .add) [.t 13, kk 1], oo 13 .mv [.t 34]]))))))) (.seq (.seq (.ops 0 [oo 35 (.fldA 1) [.t 1], oo 36 .ld1 [.t 35], oo 37 (.call 342) [.t 36], oo 38 (.un .not) [.t 37], oo 39 .mv [.t 38], og 40 39 false (.fldA 2) [.t 1], og 41 39 false .ld1 [.t 40], og 42 39 false (.call 342) [.t 41], og 43 39 false (.un .not) [.t 42], oo 44 .pick [.t 39, (.c (.lit (.bool true))), .t 43]]) (.cond (.t 44) (.seq (.ops 0 [oo 2 .mv [(.c (.lit (.bool false)))]]) .ret) .skip)) (.seq (.seq (.ops 0 [oo 45 (.fldA 1) [.t 1], oo 46 .ld1 [.t 45], oo 47 .len [.t 46], oo 48 .mv [kk 0]]) (.block 2 (.loop (.seq (.ops 0 [oo 49 (.bin .lss) [.t 48, .t 47]]) (.seq (.cond (.t 49) .skip (.exit 2)) (.seq (.block 3 (.seq (.ops 0 [oo 50 (.ixA 1) [.t 46, .t 48], oo 51 .ld1 [.t 50], oo 7 .mv [.t 51]]) (.seq (.ops 0 [oo 52 (.ldA 3) [.t 1], oo 53 .mv [.t 7], oo 54 (.call 343) [.t 52, .t 53], oo 55 (.bin .lss) [.t 54, kk 0]]) (.cond (.t 55) (.seq (.ops 0 [oo 2 .mv [(.c (.lit (.bool false)))]]) .ret) .skip)))) (.ops 0 [oo 56 (.bin .add) [.t 48, kk 1], oo 48 .mv [.t 56]]))))))) (.seq (.seq (.ops 0 [oo 57 (.fldA 2) [.t 1], oo 58 .ld1 [.t 57], oo 59 .len [.t 58], oo 60 .mv [kk 0]]) (.block 4 (.loop (.seq (.ops 0 [oo 61 (.bin .lss) [.t 60, .t 59]]) (.seq (.cond (.t 61) .skip (.exit 4)) (.seq (.block 5 (.seq (.ops 0 [oo 62 (.ixA 1) [.t 58, .t 60], oo 63 .ld1 [.t 62], oo 9 .mv [.t 63]]) (.seq (.ops 0 [oo 64 .mv [.t 9], oo 65 (.call 149) [.t 64, kk 1, kk 14], oo 66 (.un .not) [.t 65], oo 67 .mv [.t 66], og 68 67 false (.ldA 3) [.t 1], og 69 67 false .mv [.t 9], og 70 67 false (.call 343) [.t 68, .t 69], og 71 67 false (.bin .geq) [.t 70, kk 0], oo 72 .pick [.t 67, (.c (.lit (.bool true))), .t 71]]) (.cond (.t 72) (.seq (.ops 0 [oo 2 .mv [(.c (.lit (.bool false)))]]) .ret) .skip)))) (.ops 0 [oo 73 (.bin .add) [.t 60, kk 1], oo 60 .mv [.t 73]]))))))) (.seq (.ops 0 [oo 2 .mv [(.c (.lit (.bool true)))]]) .ret))))))), [.t 2]⟩
theorem dk_310 : callable Tryz.prog 310 = true ∧ ∃ bx, Comp Tryz.prog bx gtab 310 d_310.nt d_310.c d_310.rs := ⟨kr, (fun n => !([1000001].contains n)), ⟨⟨Tryz.f310, _, Tryz.func310, rfl, rfl, kr, kr⟩⟩⟩
def d_71 : Fd := ⟨71, (.seq (.ops 0 [oo 1 .boxE [.t 0], oo 2 .mv [kk 0]]) (.seq (.seq (.ops 0 [oo 8 (.fldA 0) [.t 1], oo 9 .ld1 [.t 8], oo 10 .len [.t 9], oo 11 (.bin .gtr) [.t 10, kk 14], oo 12 .mv [.t 11], og 13 12 false (.fldA 1) [.t 1], og 14 12 false .ld1 [.t 13], og 15 12 false .len [.t 14], og 16 12 false (.bin .gtr) [.t 15, kk 18], oo 17 .pick [.t 12, (.c (.lit (.bool true))), .t 16]]) (.cond (.t 17) (.seq (.ops 0 [oo 2 .mv [kk 2]]) .ret) .skip)) (.seq (.seq (.ops 0 [oo 18 (.fldA 0) [.t 1], oo 19 .ld1 [.t 18], oo 20 .len [.t 19], oo 21 (.bin .eql) [.t 20, kk 0]]) (.cond (.t 21) (.seq (.ops 0 [oo 2 .mv [kk 11]]) .ret) .skip)) (.seq (.ops 0 [oo 3 .mv [kk 0]]) (.seq (.seq (.ops 0 [oo 22 (.fldA 1) [.t 1], oo 23 .ld1 [.t 22], oo 24 .len [.t 23], oo 25 .mv [kk 0]]) (.block 0 (.loop (.seq (.ops 0 [oo 26 (.bin .lss) [.t 25, .t 24]]) (.seq (.cond (.t 26) .skip (.exit 0)) (.seq (.block 1 (.seq (.ops 0 [oo 27 (.ixA 1) [.t 23, .t 25], oo 28 .ld1 [.t 27], oo 5 .mv [.t 28]]) (.seq (.seq (.ops 0 [oo 29 .mv [.t 5], oo 30 .mv [.t 3], oo 31 (.bin .leq) [.t 29, .t 30], oo 32 .mv [.t 31], og 33 32 false .mv [.t 5], og 34 32 false (.bin .gtr) [.t 33, kk 127], oo 35 .pick [.t 32, (.c (.lit (.bool true))), .t 34]]) (.cond (.t 35) (.seq (.ops 0 [oo 2 .mv [kk 11]]) .ret) .skip)) (.ops 0 [oo 36 .mv [.t 5], oo 3 .mv [.t 36]])))) (.ops 0 [oo 37 (.bin .add) [.t 25, kk 1], oo 25 .mv [.t 37]]))))))) (.seq (.seq (.ops 0 [oo 38 (.fldA 0) [.t 1], oo 39 .ld1 [.t 38], oo 40 .len [.t 39], oo 41 .mv [kk 0]]) (.block 2 (.loop (.seq (.ops 0 [oo 42 (.bin .lss) [.t 41, .t 40]]) (.seq (.cond (.t 42) .skip (.exit 2)) (.seq (.block 3 (.seq (.ops 4 [oo 43 (.ixA 3) [.t 39, .t 41], oo 44 (.ldA 3) [.t 43], oo 7 (.alloc 188 [li 0, li 0, (.lit (.bool false))]) [], ⟨none, none, (.st 3), [.t 7, .t 44], none⟩]) (.seq (.seq (.ops 0 [oo 45 (.fldA 1) [.t 7], oo 46 .ld1 [.t 45], oo 47 (.bin .lss) [.t 46, kk 0], oo 48 .mv [.t 47], og 49 48 false (.fldA 1) [.t 7], og 50 48 false .ld1 [.t 49], og 51 48 false (.fldA 1) [.t 1], og 52 48 false .ld1 [.t 51], og 53 48 false .len [.t 52], og 54 48 false (.bin .gtr) [.t 50, .t 53], oo 55 .pick [.t 48, (.c (.lit (.bool true))), .t 54]]) (.cond (.t 55) (.seq (.ops 0 [oo 2 .mv [kk 13]]) .ret) .skip)) (.seq (.ops 0 [oo 56 (.fldA 0) [.t 7], oo 57 .ld1 [.t 56], oo 58 (.bin .lss) [.t 57, kk 0], oo 59 .mv [.t 58], og 60 59 false (.fldA 0) [.t 7], og 61 59 false .ld1 [.t 60], og 62 59 false (.bin .gtr) [.t 61, kk 127], oo 63 .pick [.t 59, (.c (.lit (.bool true))), .t 62], oo 64 .mv [.t 63], og 65 64 false (.ldA 2) [.t 1], og 66 64 false (.ldA 3) [.t 7], og 67 64 false (.call 142) [.t 65, .t 66], og 68 64 false (.bin .gtr) [.t 67, kk 127], oo 69 .pick [.t 64, (.c (.lit (.bool true))), .t 68]]) (.cond (.t 69) (.seq (.ops 0 [oo 2 .mv [kk 10]]) .ret) .skip))))) (.ops 0 [oo 70 (.bin .add) [.t 41, kk 1], oo 41 .mv [.t 70]]))))))) (.seq (.ops 0 [oo 2 .mv [kk 0]]) .ret))))))), [.t 2]⟩
theorem dk_71 : callable Tryz.prog 71 = true ∧ ∃ bx, Comp Tryz.prog bx gtab 71 d_71.nt d_71.c d_71.rs := ⟨kr, allbx, ⟨⟨Tryz.f71, _, Tryz.func71, rfl, rfl, kr, kr⟩⟩⟩
def d_153 : Fd := ⟨70, (.seq (.ops 6 [oo 5 (.box 105) [.t 1], oo 6 (.box 84) [.t 2], oo 7 (.box 112) [.t 3], ⟨(some 8), none, (.alloc 105 [li 0, (.sl 0 [] .exact), (.sl 0 [] .exact), (.sl 0 [] .exact), (.sl 0 [] .exact)]), [], none⟩, oo 9 .mv [(.c (.lit (.bool false)))], oo 10 .mv [kk 0]]) (.seq (.ops 0 [oo 14 .mv [.t 0], oo 15 (.fldA 0) [.t 5], oo 16 .ld1 [.t 15], oo 17 (.ldA 4) [.t 6], oo 18 (.ldA 4) [.t 7], oo 19 (.call 208) [.t 14, .t 16, .t 17, .t 18], oo 13 .mv [.t 19], oo 20 (.ext 0) [.t 13], oo 21 (.ext 1) [.t 13], oo 11 .mv [.t 20], oo 9 .mv [.t 21]]) (.seq (.ops 8 [oo 22 (.ldA 4) [.t 6], oo 23 (.fldA 0) [.t 7], oo 24 (.ldA 3) [.t 23], oo 25 (.fldA 3) [.t 7], oo 26 .ld1 [.t 25], oo 27 (.call 78) [.t 22, .t 24, .t 26], ⟨(some 12), none, (.alloc 136 [(.lit (.bool false)), li 0, (.lit (.bool false)), (.lit (.bool false)), (.lit (.bool false)), (.sl 0 [] .exact)]), [], none⟩, ⟨none, none, (.st 6), [.t 12, .t 27], none⟩]) (.seq (.seq (.ops 0 [oo 28 .mv [.t 9], oo 29 (.un .not) [.t 28], oo 30 .mv [.t 29], og 31 30 false .mv [.t 0], og 32 30 false .nilck [.t 31], og 33 30 false (.fldA 3) [.t 32], og 34 30 false (.fldA 11) [.t 33], og 35 30 false .ld1 [.t 34], og 36 30 false .mv [.t 35], og 37 36 true .mv [.t 0], og 38 36 true .nilck [.t 37], og 39 36 true (.fldA 0) [.t 38], og 40 36 true (.fldA 0) [.t 39], ⟨(some 41), (some (36, true)), (.ldA 2), [.t 40], (some [0, 1, 2, 3, 4, 5, 6, 7, 8, 9, 10, 11, 12])⟩, ⟨(some 42), (some (36, true)), (.ldA 6), [.t 12], (some [0, 1, 2, 3, 4, 5, 6, 7, 8])⟩, og 43 36 true (.call 125) [.t 41, .t 42], og 44 36 true (.un .not) [.t 43], og 45 30 false .pick [.t 36, .t 44, (.c (.lit (.bool false)))], oo 46 .pick [.t 30, (.c (.lit (.bool true))), .t 45]]) (.cond (.t 46) (.seq (.ops 0 [oo 47 (.ldA 5) [.t 8], ⟨none, none, (.st 5), [.t 8, .t 47], none⟩, oo 9 .mv [(.c (.lit (.bool false)))], oo 10 .mv [kk 0]]) .ret) .skip)) (.seq (.ops 0 [oo 48 .mv [.t 11], oo 49 (.fldA 0) [.t 8], ⟨none, none, (.st 1), [.t 49, .t 48], none⟩]) (.seq (.ops 0 [oo 50 (.fldA 1) [.t 5], oo 51 (.ldA 3) [.t 50], oo 52 (.ldA 6) [.t 12], oo 53 (.call 209) [.t 51, .t 52], oo 54 (.fldA 1) [.t 8], ⟨none, none, (.st 3), [.t 54, .t 53], none⟩]) (.seq (.ops 0 [oo 56 .mv [.t 0], oo 57 (.ldA 5) [.t 5], oo 58 (.fldA 1) [.t 8], oo 59 (.ldA 3) [.t 58], oo 60 (.call 210) [.t 56, .t 57, .t 59], oo 55 .mv [.t 60], oo 61 (.ext 0) [.t 55], oo 62 (.ext 1) [.t 55], oo 63 (.fldA 4) [.t 8], ⟨none, none, (.st 1), [.t 63, .t 61], none⟩, oo 10 .mv [.t 62]]) (.seq (.ops 0 [oo 64 (.ldA 5) [.t 8], oo 65 (.fldA 4) [.t 8], oo 66 .ld1 [.t 65], oo 67 .len [.t 66], oo 68 (.bin .gtr) [.t 67, kk 0], oo 69 .mv [.t 10], ⟨none, none, (.st 5), [.t 8, .t 64], none⟩, oo 9 .mv [.t 68], oo 10 .mv [.t 69]]) .ret)))))))), [(.c 8 5 true), .t 9, .t 10]⟩
theorem dk_153 : callable Tryz.prog 153 = true ∧ ∃ bx, Comp Tryz.prog bx gtab 153 d_153.nt d_153.c d_153.rs := ⟨kr, (fun n => !([1000005, 1000006, 1000007].contains n)), ⟨⟨Tryz.f153, _, Tryz.func153, rfl, rfl, kr, kr⟩⟩⟩
def d_208 : Fd := ⟨62, (.seq (.ops 4 [oo 6 (.box 84) [.t 2], oo 7 (.box 112) [.t 3], oo 8 .mv [kk 0], oo 9 .mv [(.c (.lit (.bool false)))]]) (.seq (.seq (.ops 0 [oo 11 .mv [.t 0], oo 12 .nilck [.t 11], oo 13 (.fldA 3) [.t 12], oo 14 (.fldA 10) [.t 13], oo 15 .ld1 [.t 14], oo 16 (.bin .eql) [.t 15, kk 0]]) (.cond (.t 16) (.seq (.ops 0 [oo 8 .mv [kk 0], oo 9 .mv [(.c (.lit (.bool true)))]]) .ret) .skip)) (.seq (.seq (.ops 0 [oo 17 (.fldA 0) [.t 6], oo 18 .ld1 [.t 17], oo 19 .mv [.t 18], og 20 19 true .mv [.t 0], og 21 19 true .nilck [.t 20], og 22 19 true (.fldA 16) [.t 21], og 23 19 true .ld1 [.t 22], og 24 19 true (.bin .gtr) [.t 23, kk 0], oo 25 .pick [.t 19, .t 24, (.c (.lit (.bool false)))]]) (.cond (.t 25) (.seq (.ops 0 [oo 26 .mv [.t 0], oo 27 .nilck [.t 26], oo 28 (.fldA 0) [.t 27], oo 29 (.fldA 2) [.t 28], od 30 .ld1 [.t 29] [0, 1, 2, 3], oo 31 .mv [.t 0], oo 32 .nilck [.t 31], oo 33 (.fldA 16) [.t 32], od 34 .ld1 [.t 33] [5, 6, 7], oo 35 (.slc 4 true true) [.t 30, kk 1, .t 34], oo 36 (.call 251) [.t 35, (.c (.fn 252 []))], oo 37 (.un .not) [.t 36], oo 10 .mv [.t 37]]) (.seq (.seq (.ops 0 [oo 38 .mv [.t 10], oo 39 (.un .not) [.t 38], oo 40 .mv [.t 39], og 41 40 true .mv [.t 1], og 42 40 true .mv [.t 0], og 43 40 true .nilck [.t 42], og 44 40 true (.fldA 3) [.t 43], og 45 40 true (.fldA 10) [.t 44], og 46 40 true .ld1 [.t 45], og 47 40 true (.bin .lss) [.t 41, .t 46], oo 48 .pick [.t 40, .t 47, (.c (.lit (.bool false)))]]) (.cond (.t 48) (.seq (.ops 0 [oo 8 .mv [kk 0], oo 9 .mv [(.c (.lit (.bool false)))]]) .ret) .skip)) (.ops 0 [oo 1 .mv [kk 0]]))) .skip)) (.seq (.ops 0 [oo 49 .mv [.t 1], oo 50 (.fldA 0) [.t 7], oo 51 (.ldA 3) [.t 50], oo 52 (.call 146) [.t 51], oo 53 (.bin .add) [.t 49, .t 52], oo 1 .mv [.t 53]]) (.seq (.ops 0 [oo 54 .mv [.t 1], oo 55 .mv [.t 1], oo 56 .mv [.t 0], oo 57 .nilck [.t 56], oo 58 (.fldA 3) [.t 57], oo 59 (.fldA 10) [.t 58], oo 60 .ld1 [.t 59], oo 61 (.bin .leq) [.t 55, .t 60], oo 8 .mv [.t 54], oo 9 .mv [.t 61]]) .ret))))), [.t 8, .t 9]⟩
theorem dk_208 : callable Tryz.prog 208 = true ∧ ∃ bx, Comp Tryz.prog bx gtab 208 d_208.nt d_208.c d_208.rs := ⟨kr, (fun n => !([1000006, 1000007].contains n)), ⟨⟨Tryz.f208, _, Tryz.func208, rfl, rfl, kr, kr⟩⟩⟩
def d_155 : Fd := ⟨54, (.seq (.ops 1 [oo 1 (.box 88) [.t 0]]) (.seq (.ops 0 [oo 6 .ld1 [.t 1], oo 7 .nilck [.t 6], oo 8 (.fldA 15) [.t 7], oo 9 .ld1 [.t 8], oo 10 .len [.t 9], oo 11 (.bin .sub) [.t 10, kk 1], oo 2 .mv [.t 11]]) (.seq (.ops 3 [oo 12 .mv [.t 2], oo 3 (.alloc 3 [li 0]) [], ⟨none, none, (.st 1), [.t 3, .t 12], none⟩]) (.block 0 (.loop (.seq (.seq (.ops 0 [oo 13 .ld1 [.t 3], oo 14 (.bin .geq) [.t 13, kk 0]]) (.cond (.t 14) .skip (.exit 0))) (.seq (.block 1 (.seq (.ops 0 [od 17 .ld1 [.t 1] [], oo 18 .nilck [.t 17], oo 19 (.fldA 15) [.t 18], od 20 .ld1 [.t 19] [0, 1, 2], od 21 .ld1 [.t 3] [], oo 22 (.ixA 1) [.t 20, .t 21], oo 23 .ld1 [.t 22], oo 24 .len [.t 23], oo 25 .mv [kk 0]]) (.block 2 (.loop (.seq (.ops 0 [oo 26 (.bin .lss) [.t 25, .t 24]]) (.seq (.cond (.t 26) .skip (.exit 2)) (.seq (.block 3 (.seq (.ops 0 [oo 27 (.ixA 1) [.t 23, .t 25], oo 28 .ld1 [.t 27], oo 5 .mv [.t 28]]) (.seq (.ops 0 [oo 29 .mv [.t 5], oo 30 .mv [.t 5], oo 31 .nilck [.t 30], oo 32 (.fldA 5) [.t 31], oo 33 .ld1 [.t 32], oo 34 (.mkfn 213) [.t 1, .t 3], oo 35 (.call 212) [.t 33, .t 34], oo 36 .nilck [.t 29], oo 37 (.fldA 5) [.t 36], ⟨none, none, (.st 1), [.t 37, .t 35], none⟩]) (.ops 0 [oo 38 .mv [.t 5], oo 39 .ld1 [.t 3], oo 40 .mv [.t 2], oo 41 (.bin .eql) [.t 39, .t 40], oo 42 .mv [.t 41], og 43 42 false .mv [.t 5], og 44 42 false .nilck [.t 43], og 45 42 false (.fldA 5) [.t 44], og 46 42 false .ld1 [.t 45], og 47 42 false .len [.t 46], og 48 42 false (.bin .gtr) [.t 47, kk 0], oo 49 .pick [.t 42, (.c (.lit (.bool true))), .t 48], oo 50 .nilck [.t 38], oo 51 (.fldA 7) [.t 50], ⟨none, none, (.st 1), [.t 51, .t 49], none⟩])))) (.ops 0 [oo 52 (.bin .add) [.t 25, kk 1], oo 25 .mv [.t 52]])))))))) (.seq (.seq (.ops 0 [oo 53 .ld1 [.t 3]]) (.ops 2 [oo 3 (.alloc 3 [li 0]) [], ⟨none, none, (.st 1), [.t 3, .t 53], none⟩])) (.ops 0 [oo 15 .ld1 [.t 3], oo 16 (.bin .sub) [.t 15, kk 1], ⟨none, none, (.st 1), [.t 3, .t 16], none⟩]))))))))), []⟩
theorem dk_155 : callable Tryz.prog 155 = true ∧ ∃ bx, Comp Tryz.prog bx gtab 155 d_155.nt d_155.c d_155.rs := ⟨kr, (fun n => !([1000001].contains n)), ⟨⟨Tryz.f155, _, Tryz.func155, rfl, rfl, kr, kr⟩⟩⟩
def d_23 : Fd := ⟨48, (.seq (.ops 0 [oo 2 .boxE [.t 0], oo 3 .boxE [.t 1], oo 4 .mv [kk 0], oo 5 .mv [kk 0]]) (.seq (.ops 0 [oo 10 (.ldA 3) [.t 2], oo 11 (.ldA 12) [.t 3], oo 12 (.call 62) [.t 10, .t 11], oo 9 .mv [.t 12], oo 13 (.ext 0) [.t 9], oo 14 (.ext 1) [.t 9], oo 6 .mv [.t 13], oo 5 .mv [.t 14]]) (.seq (.block 0 (.seq (.ops 0 [oo 16 .mv [.t 5], oo 17 (.bin .eql) [.t 16, kk 102], oo 15 .mv [.t 17]]) (.cond (.t 15) (.seq (.ops 0 [oo 4 .mv [kk 0], oo 5 .mv [kk 0]]) .ret) (.seq (.ops 0 [oo 19 .mv [.t 5], oo 20 (.bin .neq) [.t 19, kk 0], oo 18 .mv [.t 20]]) (.cond (.t 18) (.seq (.ops 0 [oo 21 .mv [.t 5], oo 4 .mv [kk 0], oo 5 .mv [.t 21]]) .ret) .skip))))) (.seq (.seq (.ops 0 [oo 22 .mv [.t 6], oo 23 .nilck [.t 22], oo 24 (.fldA 15) [.t 23], od 25 .ld1 [.t 24] [0, 1, 2], oo 26 .mv [.t 6], oo 27 .nilck [.t 26], oo 28 (.fldA 15) [.t 27], od 29 .ld1 [.t 28] [4, 5, 6], oo 30 .len [.t 29], oo 31 (.bin .sub) [.t 30, kk 1], oo 32 (.ixA 1) [.t 25, .t 31], oo 33 .ld1 [.t 32], oo 34 .len [.t 33], oo 35 .mv [kk 0]]) (.block 1 (.loop (.seq (.ops 0 [oo 36 (.bin .lss) [.t 35, .t 34]]) (.seq (.cond (.t 36) .skip (.exit 1)) (.seq (.block 2 (.seq (.ops 0 [oo 37 (.ixA 1) [.t 33, .t 35], oo 38 .ld1 [.t 37], oo 8 .mv [.t 38]]) (.ops 0 [oo 39 .mv [.t 4], oo 40 .mv [.t 8], oo 41 .nilck [.t 40], oo 42 (.fldA 6) [.t 41], oo 43 .ld1 [.t 42], oo 44 (.bin .add) [.t 39, .t 43], oo 45 .mn [.t 44, kk 1099511627776], oo 4 .mv [.t 45]]))) (.ops 0 [oo 46 (.bin .add) [.t 35, kk 1], oo 35 .mv [.t 46]]))))))) (.seq (.ops 0 [oo 47 .mv [.t 4], oo 4 .mv [.t 47], oo 5 .mv [kk 0]]) .ret))))), [.t 4, .t 5]⟩
theorem dk_23 : callable Tryz.prog 23 = true ∧ ∃ bx, Comp Tryz.prog bx gtab 23 d_23.nt d_23.c d_23.rs := ⟨kr, allbx, ⟨⟨Tryz.f23, _, Tryz.func23, rfl, rfl, kr, kr⟩⟩⟩
def d_78 : Fd := ⟨36, (.seq (.ops 3 [oo 3 (.box 84) [.t 0], oo 4 (.box 110) [.t 1], ⟨(some 6), none, (.alloc 136 [(.lit (.bool false)), li 0, (.lit (.bool false)), (.lit (.bool false)), (.lit (.bool false)), (.sl 0 [] .exact)]), [], none⟩]) (.seq (.ops 8 [oo 10 (.fldA 0) [.t 3], oo 11 .ld1 [.t 10], oo 12 (.fldA 1) [.t 3], oo 13 .ld1 [.t 12], oo 14 (.ldA 3) [.t 4], ⟨(some 15), none, (.build [(.lit (.bool false)), li 0, (.lit (.bool false)), (.lit (.bool false)), (.lit (.bool false)), (.sl 0 [] .exact)] [(0, 1), (4, 1), (1, 3)]), [.t 11, .t 13, .t 14], none⟩, ⟨(some 7), none, (.alloc 136 [(.lit (.bool false)), li 0, (.lit (.bool false)), (.lit (.bool false)), (.lit (.bool false)), (.sl 0 [] .exact)]), [], none⟩, ⟨none, none, (.st 6), [.t 7, .t 15], none⟩]) (.seq (.seq (.ops 0 [oo 16 .mv [.t 2], oo 17 .len [.t 16], oo 18 .mv [kk 0]]) (.block 0 (.loop (.seq (.ops 0 [oo 19 (.bin .lss) [.t 18, .t 17]]) (.seq (.cond (.t 19) .skip (.exit 0)) (.seq (.block 1 (.seq (.ops 0 [oo 20 .mv [.t 18], oo 21 (.ixA 1) [.t 16, .t 18], oo 22 .ld1 [.t 21], oo 8 .mv [.t 20], oo 9 .mv [.t 22]]) (.seq (.ops 0 [oo 23 .mv [.t 9], oo 24 (.bin .geq) [.t 23, kk 0]]) (.cond (.t 24) (.ops 10 [oo 25 (.fldA 5) [.t 7], oo 26 .ld1 [.t 25], oo 27 .mv [.t 8], oo 28 (.bin .add) [.t 27, kk 1], oo 29 .mv [.t 9], oo 30 (.build [li 0, li 0, li 0, li 0, li 0] [(0, 1), (1, 1)]) [.t 28, .t 29], oo 31 (.mkslB 152 1 5 [li 0, li 0, li 0, li 0, li 0] [(0, 5)]) [.t 30], oo 32 (.appM 152 5 40) [.t 26, .t 31], oo 33 (.fldA 5) [.t 7], ⟨none, none, (.st 1), [.t 33, .t 32], none⟩]) .skip)))) (.ops 0 [oo 34 (.bin .add) [.t 18, kk 1], oo 18 .mv [.t 34]]))))))) (.seq (.ops 0 [oo 35 (.ldA 6) [.t 7], ⟨none, none, (.st 6), [.t 6, .t 35], none⟩]) .ret)))), [(.c 6 6 true)]⟩
theorem dk_78 : callable Tryz.prog 78 = true ∧ ∃ bx, Comp Tryz.prog bx gtab 78 d_78.nt d_78.c d_78.rs := ⟨kr, (fun n => !([1000003, 1000004].contains n)), ⟨⟨Tryz.f78, _, Tryz.func78, rfl, rfl, kr, kr⟩⟩⟩
def d_284 : Fd := ⟨33, (.seq (.ops 0 [oo 2 .mv [kk 0]]) (.seq (.seq (.ops 0 [oo 5 .mv [.t 0], oo 6 .len [.t 5], oo 7 (.bin .gtr) [.t 6, kk 400]]) (.cond (.t 7) (.seq (.ops 0 [oo 2 .mv [kk 2]]) .ret) .skip)) (.seq (.seq (.ops 0 [oo 8 .mv [.t 0], oo 9 .len [.t 8], oo 10 .mv [kk 0]]) (.block 0 (.loop (.seq (.ops 0 [oo 11 (.bin .lss) [.t 10, .t 9]]) (.seq (.cond (.t 11) .skip (.exit 0)) (.seq (.block 1 (.seq (.ops 6 [oo 12 .mv [.t 10], oo 13 (.ixA 3) [.t 8, .t 10], oo 14 (.ldA 3) [.t 13], ⟨(some 4), none, (.alloc 102 [(.sl 0 [] .exact), (.sl 0 [] .exact), (.sl 0 [] .exact)]), [], none⟩, oo 3 .mv [.t 12], ⟨none, none, (.st 3), [.t 4, .t 14], none⟩]) (.seq (.ops 0 [oo 15 (.ldA 3) [.t 4], oo 16 (.call 310) [.t 15], oo 17 (.un .not) [.t 16], oo 18 .mv [.t 17], og 19 18 false .mv [.t 3], og 20 18 false (.bin .gtr) [.t 19, kk 0], og 21 18 false .mv [.t 20], og 22 21 true .mv [.t 0], og 23 21 true .mv [.t 3], og 24 21 true (.bin .sub) [.t 23, kk 1], og 25 21 true (.ixA 3) [.t 22, .t 24], ⟨(some 26), (some (21, true)), (.ldA 3), [.t 25], (some [0, 1, 2, 3, 4, 5, 6, 7, 8, 9, 10])⟩, ⟨(some 27), (some (21, true)), (.ldA 3), [.t 4], (some [0, 1, 2, 3, 4, 5, 6])⟩, og 28 21 true (.call 334) [.t 26, .t 27], og 29 21 true (.un .not) [.t 28], og 30 18 false .pick [.t 21, .t 29, (.c (.lit (.bool false)))], oo 31 .pick [.t 18, (.c (.lit (.bool true))), .t 30]]) (.cond (.t 31) (.seq (.ops 0 [oo 2 .mv [kk 1]]) .ret) .skip)))) (.ops 0 [oo 32 (.bin .add) [.t 10, kk 1], oo 10 .mv [.t 32]]))))))) (.seq (.ops 0 [oo 2 .mv [kk 0]]) .ret)))), [.t 2]⟩
theorem dk_284 : callable Tryz.prog 284 = true ∧ ∃ bx, Comp Tryz.prog bx gtab 284 d_284.nt d_284.c d_284.rs := ⟨kr, allbx, ⟨⟨Tryz.f284, _, Tryz.func284, rfl, rfl, kr, kr⟩⟩⟩
def d_207 : Fd := ⟨42, (.seq (.ops 0 [oo 6 .boxE [.t 0], oo 8 .mv [(.c (.lit (.bool false)))]]) (.seq (.seq (.ops 0 [oo 11 .mv [.t 1], oo 12 .ld1 [.t 2], oo 13 .len [.t 12], oo 14 (.bin .eql) [.t 11, .t 13]]) (.cond (.t 14) (.seq (.ops 7 [od 15 .ld1 [.t 3] [], od 16 (.ldA 3) [.t 6] [], od 17 .ld1 [.t 2] [], od 18 (.callB 135) [.t 17] [2], ⟨(some 19), none, (.build [li 0, (.lit (.bool false)), (.lit (.bool false)), (.sl 0 [] .exact)] [(0, 3), (3, 1)]), [.t 16, .t 18], none⟩, oo 20 .callv [.t 15, .t 19], oo 8 .mv [.t 20]]) .ret) .skip)) (.seq (.seq (.ops 0 [oo 21 (.fldA 3) [.t 4], oo 22 .ld1 [.t 21], oo 23 .mv [.t 1], oo 24 (.ixA 1) [.t 22, .t 23], oo 25 .ld1 [.t 24], oo 26 .len [.t 25], oo 27 .mv [kk 0]]) (.block 0 (.loop (.seq (.ops 0 [oo 28 (.bin .lss) [.t 27, .t 26]]) (.seq (.cond (.t 28) .skip (.exit 0)) (.seq (.block 1 (.seq (.ops 0 [oo 29 (.ixA 1) [.t 25, .t 27], oo 30 .ld1 [.t 29], oo 10 .mv [.t 30]]) (.seq (.ops 0 [oo 31 .ld1 [.t 2], oo 32 .mv [.t 1], oo 33 .mv [.t 10], oo 34 (.ixA 1) [.t 31, .t 32], ⟨none, none, (.st 1), [.t 34, .t 33], none⟩]) (.seq (.ops 0 [oo 35 .ld1 [.t 5], oo 36 (.ldA 3) [.t 6], oo 37 .mv [.t 1], oo 38 (.bin .add) [.t 37, kk 1], oo 39 .callv [.t 35, .t 36, .t 38], oo 40 (.un .not) [.t 39]]) (.cond (.t 40) (.seq (.ops 0 [oo 8 .mv [(.c (.lit (.bool false)))]]) .ret) .skip))))) (.ops 0 [oo 41 (.bin .add) [.t 27, kk 1], oo 27 .mv [.t 41]]))))))) (.seq (.ops 0 [oo 8 .mv [(.c (.lit (.bool true)))]]) .ret)))), [.t 8]⟩
theorem dk_207 : callable Tryz.prog 207 = true ∧ ∃ bx, Comp Tryz.prog bx gtab 207 d_207.nt d_207.c d_207.rs := ⟨kr, (fun n => !([1000018].contains n)), ⟨⟨Tryz.f207, _, Tryz.func207, rfl, rfl, kr, kr⟩⟩⟩
def d_59 : Fd := ⟨5, (.seq (.ops 1 [⟨(some 0), none, (.alloc 31 [(.sl 0 [] .exact), (.sl 0 [] .exact), (.sl 0 [] .exact), li 0, li 0, li 0, li 0, li 0, li 0, li 0]), [], none⟩]) (.seq (.ops 0 [oo 1 (.mksl 4 1 [li 0, li 0, li 0, li 0] [(0, 1), (1, 1), (2, 1), (3, 1)]) [kk 0, kk 1, kk 2, kk 3], oo 2 (.mksl 4 1 [li 0, li 0, li 0, li 0] [(0, 1), (1, 1), (2, 1), (3, 1)]) [kk 0, kk 2, kk 3, kk 4], oo 3 (.mksl 4 1 [(.lit (.bool false)), (.lit (.bool false)), (.lit (.bool false)), (.lit (.bool false))] [(0, 1), (1, 1), (2, 1), (3, 1)]) [(.c (.lit (.bool true))), (.c (.lit (.bool false))), (.c (.lit (.bool false))), (.c (.lit (.bool false)))], ⟨(some 4), none, (.build [(.sl 0 [] .exact), (.sl 0 [] .exact), (.sl 0 [] .exact), li 0, li 0, li 0, li 0, li 0, li 0, li 0] [(0, 1), (1, 1), (2, 1), (3, 1), (4, 1), (5, 1), (6, 1), (7, 1), (8, 1), (9, 1)]), [.t 1, .t 2, .t 3, kk 12, kk 7, kk 2, kk 3, kk 4, kk 2, kk 1], none⟩, ⟨none, none, (.st 10), [.t 0, .t 4], none⟩]) .ret)), [(.c 0 10 true)]⟩
theorem dk_59 : callable Tryz.prog 59 = true ∧ ∃ bx, Comp Tryz.prog bx gtab 59 d_59.nt d_59.c d_59.rs := ⟨kr, nobx, ⟨⟨Tryz.f59, _, Tryz.func59, rfl, rfl, kr, kr⟩⟩⟩
def d_151 : Fd := ⟨25, (.seq (.ops 0 [oo 1 .boxE [.t 0], oo 2 .mv [(.c (.lit (.bool false)))]]) (.seq (.ops 0 [oo 6 (.fldA 2) [.t 1], oo 7 .ld1 [.t 6], oo 8 .len [.t 7], oo 3 .mv [.t 8]]) (.seq (.seq (.ops 0 [oo 9 (.fldA 3) [.t 1], oo 10 .ld1 [.t 9], oo 11 .len [.t 10], oo 12 .mv [kk 0]]) (.block 0 (.loop (.seq (.ops 0 [oo 13 (.bin .lss) [.t 12, .t 11]]) (.seq (.cond (.t 13) .skip (.exit 0)) (.seq (.block 1 (.seq (.ops 0 [oo 14 (.ixA 1) [.t 10, .t 12], oo 15 .ld1 [.t 14], oo 5 .mv [.t 15]]) (.seq (.seq (.ops 0 [oo 16 .mv [.t 3], oo 17 (.bin .gtr) [.t 16, kk 1000]]) (.cond (.t 17) (.seq (.ops 0 [oo 2 .mv [(.c (.lit (.bool false)))]]) .ret) .skip)) (.ops 0 [oo 18 .mv [.t 3], oo 19 .mv [.t 5], oo 20 .len [.t 19], oo 21 (.bin .mul) [.t 18, .t 20], oo 3 .mv [.t 21]])))) (.ops 0 [oo 22 (.bin .add) [.t 12, kk 1], oo 12 .mv [.t 22]]))))))) (.seq (.ops 0 [oo 23 .mv [.t 3], oo 24 (.bin .leq) [.t 23, kk 1000], oo 2 .mv [.t 24]]) .ret)))), [.t 2]⟩
theorem dk_151 : callable Tryz.prog 151 = true ∧ ∃ bx, Comp Tryz.prog bx gtab 151 d_151.nt d_151.c d_151.rs := ⟨kr, allbx, ⟨⟨Tryz.f151, _, Tryz.func151, rfl, rfl, kr, kr⟩⟩⟩
def d_147 : Fd := ⟨27, (.seq (.ops 0 [oo 4 .mv [(.c (.lit (.bool false)))]]) (.seq (.seq (.ops 0 [oo 5 .mv [kk 1]]) (.block 0 (.loop (.seq (.seq (.ops 0 [oo 6 .mv [.t 5], oo 7 .mv [.t 0], oo 8 .len [.t 7], oo 9 (.bin .lss) [.t 6, .t 8]]) (.cond (.t 9) .skip (.exit 0))) (.seq (.block 1 (.seq (.ops 0 [oo 12 .mv [.t 1], oo 13 .mv [.t 0], oo 14 .mv [.t 5], oo 15 (.bin .sub) [.t 14, kk 1], oo 16 (.ixA 1) [.t 13, .t 15], od 17 .ld1 [.t 16] [1, 2, 3, 4], oo 18 .mv [.t 0], oo 19 .mv [.t 5], oo 20 (.ixA 1) [.t 18, .t 19], od 21 .ld1 [.t 20] [6, 7, 8], oo 22 .callv [.t 12, .t 17, .t 21], oo 23 (.bin .geq) [.t 22, kk 0]]) (.cond (.t 23) (.seq (.ops 0 [oo 4 .mv [(.c (.lit (.bool false)))]]) .ret) .skip))) (.ops 0 [oo 10 .mv [.t 5], oo 11 (.bin .add) [.t 10, kk 1], oo 5 .mv [.t 11]])))))) (.seq (.ops 0 [oo 24 .mv [.t 0], oo 25 .len [.t 24], oo 26 (.bin .gtr) [.t 25, kk 0], oo 4 .mv [.t 26]]) .ret))), [.t 4]⟩
theorem dk_147 : callable Tryz.prog 147 = true ∧ ∃ bx, Comp Tryz.prog bx gtab 147 d_147.nt d_147.c d_147.rs := ⟨kr, allbx, ⟨⟨Tryz.f147, _, Tryz.func147, rfl, rfl, kr, kr⟩⟩⟩
def d_142 : Fd := ⟨25, (.seq (.ops 0 [oo 2 .boxE [.t 0], oo 3 .boxE [.t 1], oo 4 .mv [kk 0]]) (.seq (.ops 0 [oo 6 (.fldA 0) [.t 3], oo 7 .ld1 [.t 6], oo 5 .mv [.t 7]]) (.seq (.seq (.ops 0 [oo 8 (.fldA 1) [.t 3], oo 9 .ld1 [.t 8], oo 10 (.bin .gtr) [.t 9, kk 0]]) (.cond (.t 10) (.ops 0 [oo 11 .mv [.t 5], oo 12 (.fldA 1) [.t 2], oo 13 .ld1 [.t 12], oo 14 (.fldA 1) [.t 3], oo 15 .ld1 [.t 14], oo 16 (.bin .sub) [.t 15, kk 1], oo 17 (.ixA 1) [.t 13, .t 16], oo 18 .ld1 [.t 17], oo 19 (.bin .add) [.t 11, .t 18], oo 5 .mv [.t 19]]) .skip)) (.seq (.seq (.ops 0 [oo 20 (.fldA 2) [.t 3], oo 21 .ld1 [.t 20]]) (.cond (.t 21) (.ops 0 [oo 22 .mv [.t 5], oo 23 (.bin .add) [.t 22, kk 12], oo 5 .mv [.t 23]]) .skip)) (.seq (.ops 0 [oo 24 .mv [.t 5], oo 4 .mv [.t 24]]) .ret))))), [.t 4]⟩
theorem dk_142 : callable Tryz.prog 142 = true ∧ ∃ bx, Comp Tryz.prog bx gtab 142 d_142.nt d_142.c d_142.rs := ⟨kr, allbx, ⟨⟨Tryz.f142, _, Tryz.func142, rfl, rfl, kr, kr⟩⟩⟩
def d_234 : Fd := ⟨19, (.seq (.ops 3 [oo 2 (.box 31) [.t 0], oo 3 (.box 102) [.t 1], ⟨(some 4), none, (.alloc 103 [(.sl 0 [] .exact)]), [], none⟩]) (.seq (.ops 1 [⟨(some 5), none, (.alloc 23 [(.sl 0 [] .exact)]), [], none⟩]) (.seq (.ops 1 [oo 6 (.alloc 351 [(.lit .nilFunc)]) []]) (.seq (.ops 0 [oo 8 (.mkfn 285) [.t 5, .t 3, .t 2, .t 4, .t 6], ⟨none, none, (.st 1), [.t 6, .t 8], none⟩]) (.seq (.seq (.ops 0 [oo 7 .mv [kk 1]]) (.block 0 (.loop (.seq (.seq (.ops 0 [oo 9 .mv [.t 7], oo 10 (.fldA 3) [.t 2], oo 11 .ld1 [.t 10], oo 12 (.bin .leq) [.t 9, .t 11]]) (.cond (.t 12) .skip (.exit 0))) (.seq (.block 1 (.ops 0 [oo 15 .ld1 [.t 6], oo 16 .mv [.t 7], oo 17 .callv [.t 15, .t 16]])) (.ops 0 [oo 13 .mv [.t 7], oo 14 (.bin .add) [.t 13, kk 1], oo 7 .mv [.t 14]])))))) (.seq (.ops 0 [oo 18 .ld1 [.t 4], ⟨none, none, (.st 1), [.t 4, .t 18], none⟩]) .ret)))))), [(.c 4 1 false)]⟩
theorem dk_234 : callable Tryz.prog 234 = true ∧ ∃ bx, Comp Tryz.prog bx gtab 234 d_234.nt d_234.c d_234.rs := ⟨kr, (fun n => !([1000002, 1000003].contains n)), ⟨⟨Tryz.f234, _, Tryz.func234, rfl, rfl, kr, kr⟩⟩⟩
def d_256 : Fd := ⟨25, (.seq (.ops 2 [oo 5 (.box 262) [.t 0], oo 6 .mv [(.c (.lit (.bool false)))]]) (.seq (.ops 0 [od 10 .ld1 [.t 1] [], oo 11 .nilck [.t 10], oo 12 (.fldA 3) [.t 11], oo 13 (.fldA 0) [.t 12], od 14 (.ldA 10) [.t 13] [0, 1, 2, 3], oo 15 (.fldA 1) [.t 2], od 16 (.ldA 3) [.t 15] [5], od 17 (.ldA 2) [.t 5] [], od 18 (.ldA 3) [.t 3] [], od 19 (.ldA 2) [.t 4] [], oo 20 (.call 257) [.t 14, .t 16, .t 17, .t 18, .t 19], oo 9 .mv [.t 20], oo 21 (.ext 0) [.t 9], oo 22 (.ext 1) [.t 9], oo 7 .mv [.t 21], oo 8 .mv [.t 22]]) (.seq (.ops 0 [oo 23 .mv [.t 8], oo 24 (.bin .eql) [.t 23, kk 0], oo 6 .mv [.t 24]]) .ret))), [.t 6]⟩
theorem dk_256 : callable Tryz.prog 256 = true ∧ ∃ bx, Comp Tryz.prog bx gtab 256 d_256.nt d_256.c d_256.rs := ⟨kr, (fun n => !([1000002, 1000005].contains n)), ⟨⟨Tryz.f256, _, Tryz.func256, rfl, rfl, kr, kr⟩⟩⟩
def d_232 : Fd := ⟨19, (.seq (.ops 0 [oo 4 .mv [kk 0]]) (.seq (.seq (.ops 0 [oo 6 .mv [.t 0], oo 7 .len [.t 6], oo 8 .mv [kk 0]]) (.block 0 (.loop (.seq (.ops 0 [oo 9 (.bin .lss) [.t 8, .t 7]]) (.seq (.cond (.t 9) .skip (.exit 0)) (.seq (.block 1 (.seq (.ops 0 [oo 10 .mv [.t 8], oo 5 .mv [.t 10]]) (.seq (.ops 0 [oo 11 .mv [.t 1], oo 12 .mv [.t 0], oo 13 .mv [.t 5], oo 14 (.ixA 5) [.t 12, .t 13], oo 15 (.ldA 5) [.t 14], oo 16 .callv [.t 11, .t 15]]) (.cond (.t 16) (.seq (.ops 0 [oo 17 .mv [.t 5], oo 4 .mv [.t 17]]) .ret) .skip)))) (.ops 0 [oo 18 (.bin .add) [.t 8, kk 1], oo 8 .mv [.t 18]]))))))) (.seq (.ops 0 [oo 4 .mv [kk (-1)]]) .ret))), [.t 4]⟩
theorem dk_232 : callable Tryz.prog 232 = true ∧ ∃ bx, Comp Tryz.prog bx gtab 232 d_232.nt d_232.c d_232.rs := ⟨kr, allbx, ⟨⟨Tryz.f232, _, Tryz.func232, rfl, rfl, kr, kr⟩⟩⟩
def d_352 : Fd := ⟨19, (.seq (.ops 0 [oo 4 .mv [kk 0]]) (.seq (.seq (.ops 0 [oo 6 .mv [.t 0], oo 7 .len [.t 6], oo 8 .mv [kk 0]]) (.block 0 (.loop (.seq (.ops 0 [oo 9 (.bin .lss) [.t 8, .t 7]]) (.seq (.cond (.t 9) .skip (.exit 0)) (.seq (.block 1 (.seq (.ops 0 [oo 10 .mv [.t 8], oo 5 .mv [.t 10]]) (.seq (.ops 0 [oo 11 .mv [.t 1], oo 12 .mv [.t 0], oo 13 .mv [.t 5], oo 14 (.ixA 2) [.t 12, .t 13], oo 15 (.ldA 2) [.t 14], oo 16 .callv [.t 11, .t 15]]) (.cond (.t 16) (.seq (.ops 0 [oo 17 .mv [.t 5], oo 4 .mv [.t 17]]) .ret) .skip)))) (.ops 0 [oo 18 (.bin .add) [.t 8, kk 1], oo 8 .mv [.t 18]]))))))) (.seq (.ops 0 [oo 4 .mv [kk (-1)]]) .ret))), [.t 4]⟩
theorem dk_352 : callable Tryz.prog 352 = true ∧ ∃ bx, Comp Tryz.prog bx gtab 352 d_352.nt d_352.c d_352.rs := ⟨kr, allbx, ⟨⟨Tryz.f352, _, Tryz.func352, rfl, rfl, kr, kr⟩⟩⟩
def d_211 : Fd := ⟨18, (.seq (.ops 0 [oo 5 .mv [.t 0], oo 6 .len [.t 5], oo 7 .mv [kk 0]]) (.block 0 (.loop (.seq (.ops 0 [oo 8 (.bin .lss) [.t 7, .t 6]]) (.seq (.cond (.t 8) .skip (.exit 0)) (.seq (.block 1 (.seq (.ops 0 [oo 9 (.ixA 1) [.t 5, .t 7], oo 10 .ld1 [.t 9], oo 4 .mv [.t 10]]) (.ops 7 [oo 11 .ld1 [.t 1], oo 12 .mv [.t 4], oo 13 (.bin .add) [.t 12, kk 1], oo 14 (.cvt .i32) [.t 13], oo 15 (.mksl 1 1 [(.lit (.int .i32 0))] [(0, 1)]) [.t 14], oo 16 (.app 21 1 4) [.t 11, .t 15], ⟨none, none, (.st 1), [.t 1, .t 16], none⟩]))) (.ops 0 [oo 17 (.bin .add) [.t 7, kk 1], oo 7 .mv [.t 17]]))))))), []⟩
theorem dk_211 : callable Tryz.prog 211 = true ∧ ∃ bx, Comp Tryz.prog bx gtab 211 d_211.nt d_211.c d_211.rs := ⟨kr, nobx, ⟨⟨Tryz.f211, _, Tryz.func211, rfl, rfl, kr, kr⟩⟩⟩
def d_63 : Fd := ⟨10, (.seq (.ops 2 [oo 1 .boxE [.t 0], ⟨(some 2), none, (.alloc 25 [(.sl 0 [] .exact), (.sl 0 [] .exact)]), [], none⟩]) (.seq (.ops 0 [oo 3 (.fldA 0) [.t 1], od 4 .ld1 [.t 3] [0], od 5 (.call 134) [.t 4] [0, 1], oo 6 (.fldA 1) [.t 1], od 7 .ld1 [.t 6] [3], oo 8 (.call 135) [.t 7], ⟨(some 9), none, (.build [(.sl 0 [] .exact), (.sl 0 [] .exact)] [(0, 1), (1, 1)]), [.t 5, .t 8], none⟩, ⟨none, none, (.st 2), [.t 2, .t 9], none⟩]) .ret)), [(.c 2 2 true)]⟩
theorem dk_63 : callable Tryz.prog 63 = true ∧ ∃ bx, Comp Tryz.prog bx gtab 63 d_63.nt d_63.c d_63.rs := ⟨kr, allbx, ⟨⟨Tryz.f63, _, Tryz.func63, rfl, rfl, kr, kr⟩⟩⟩
def d_149 : Fd := ⟨15, (.seq (.ops 0 [oo 6 .mv [(.c (.lit (.bool false)))]]) (.seq (.ops 0 [oo 7 .mv [.t 0], oo 8 .mv [.t 1], oo 9 (.bin .geq) [.t 7, .t 8], oo 10 .mv [.t 9], og 11 10 true .mv [.t 0], og 12 10 true .mv [.t 2], og 13 10 true (.bin .leq) [.t 11, .t 12], oo 14 .pick [.t 10, .t 13, (.c (.lit (.bool false)))], oo 6 .mv [.t 14]]) .ret)), [.t 6]⟩
theorem dk_149 : callable Tryz.prog 149 = true ∧ ∃ bx, Comp Tryz.prog bx gtab 149 d_149.nt d_149.c d_149.rs := ⟨kr, allbx, ⟨⟨Tryz.f149, _, Tryz.func149, rfl, rfl, kr, kr⟩⟩⟩
def d_225 : Fd := ⟨8, (.seq (.ops 0 [oo 2 .mv [kk 0]]) (.seq (.cond (.c (.lit (.bool false))) (.seq (.ops 0 [oo 3 .mv [.t 0], oo 4 (.cvt .u32) [.t 3], oo 5 (.call 270) [.t 4], oo 2 .mv [.t 5]]) .ret) .skip) (.seq (.ops 0 [oo 6 .mv [.t 0], oo 7 (.call 271) [.t 6], oo 2 .mv [.t 7]]) .ret))), [.t 2]⟩
theorem dk_225 : callable Tryz.prog 225 = true ∧ ∃ bx, Comp Tryz.prog bx gtab 225 d_225.nt d_225.c d_225.rs := ⟨kr, allbx, ⟨⟨Tryz.f225, _, Tryz.func225, rfl, rfl, kr, kr⟩⟩⟩
def d_343 : Fd := ⟨9, (.seq (.ops 3 [oo 2 (.box 102) [.t 0], oo 3 (.box 3) [.t 1], oo 4 .mv [kk 0]]) (.seq (.ops 0 [oo 5 (.fldA 0) [.t 2], oo 6 .ld1 [.t 5], oo 7 (.mkfn 354) [.t 3], oo 8 (.call 352) [.t 6, .t 7], oo 4 .mv [.t 8]]) .ret)), [.t 4]⟩
theorem dk_343 : callable Tryz.prog 343 = true ∧ ∃ bx, Comp Tryz.prog bx gtab 343 d_343.nt d_343.c d_343.rs := ⟨kr, (fun n => !([1000002, 1000003].contains n)), ⟨⟨Tryz.f343, _, Tryz.func343, rfl, rfl, kr, kr⟩⟩⟩
def d_144 : Fd := ⟨9, (.seq (.ops 0 [oo 4 .mv [(.c (.lit (.bool false)))]]) (.seq (.ops 0 [oo 5 .mv [.t 0], oo 6 .mv [.t 1], oo 7 (.call 203) [.t 5, .t 6], oo 8 (.bin .geq) [.t 7, kk 0], oo 4 .mv [.t 8]]) .ret)), [.t 4]⟩
theorem dk_144 : callable Tryz.prog 144 = true ∧ ∃ bx, Comp Tryz.prog bx gtab 144 d_144.nt d_144.c d_144.rs := ⟨kr, allbx, ⟨⟨Tryz.f144, _, Tryz.func144, rfl, rfl, kr, kr⟩⟩⟩
def d_255 : Fd := ⟨9, (.seq (.ops 0 [oo 4 .mv [(.c (.lit (.bool false)))]]) (.seq (.ops 0 [oo 5 .mv [.t 0], oo 6 .mv [.t 1], oo 7 (.call 311) [.t 5, .t 6], oo 8 (.bin .geq) [.t 7, kk 0], oo 4 .mv [.t 8]]) .ret)), [.t 4]⟩
theorem dk_255 : callable Tryz.prog 255 = true ∧ ∃ bx, Comp Tryz.prog bx gtab 255 d_255.nt d_255.c d_255.rs := ⟨kr, allbx, ⟨⟨Tryz.f255, _, Tryz.func255, rfl, rfl, kr, kr⟩⟩⟩
def d_344 : Fd := ⟨7, (.seq (.ops 2 [oo 2 (.box 242) [.t 0], oo 3 .mv [(.c (.lit (.bool false)))]]) (.seq (.ops 0 [oo 4 .ld1 [.t 1], oo 5 (.ldA 2) [.t 2], oo 6 (.call 345) [.t 4, .t 5], oo 3 .mv [.t 6]]) .ret)), [.t 3]⟩
theorem dk_344 : callable Tryz.prog 344 = true ∧ ∃ bx, Comp Tryz.prog bx gtab 344 d_344.nt d_344.c d_344.rs := ⟨kr, (fun n => !([1000002].contains n)), ⟨⟨Tryz.f344, _, Tryz.func344, rfl, rfl, kr, kr⟩⟩⟩
end Go.Proofs.YtdefefeifcdogaaGreat
