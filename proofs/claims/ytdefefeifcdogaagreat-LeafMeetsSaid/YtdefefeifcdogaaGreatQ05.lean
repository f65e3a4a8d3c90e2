/- Meet of the program, the walk. All signs, of the reference. Rows of signs and of numbers in order: plain. Neighbours that are the same become one, in place: plain. Functions of the program, as code on values by numbers: printed by a program from the program that was given, and held against it here. Meet of the reference, if its mixed is what combine is. Join of both, if their rows are joined by some functions. mixed of the reference: a sign goes into its place. Two rows put together in a new one, in the model's own terms. A call that writes one row of plain cells in place, on values; a call that gives a new block. A new block as a box of a call's own; a row of which less is said. The sorts of the library at this program: what stands where (the kit's command's words, plain). Calls that only compute, in the model's own terms: they draw and lay new blocks, and nothing else. The order of signs and of numbers, in the model's own terms; rows are sorted in place. Two rows put together, on values: a box of its own. Neighbours that are the same become one: Compact, walked. Neighbours that are the same become one: Compact of numbers, walked. Valid rows are in order; Meet picks what is in both: plain. -/
import Derived.Test.YtdefefeifcdogaaGreatQ02
import Derived.Test.YtdefefeifcdogaaGreatQ03
import Derived.Test.YtdefefeifcdogaaGreatQ04
import Derived.Test.YtdefefeifcdogaaGreatChecked
import Derived.Test.YtdefefeifcdogaaGreatVg
import Derived.Shelf.Spec.SlicesGrow
import Derived.ArgAppend
import Derived.WalkKit
import Derived.OwnWalk
import Derived.Lib.Hide
import Derived.Deep.LoopGhost
import Derived.Sort.Grow
import Derived.Shelf.GgSortFunc.RowK
import Derived.Shelf.GgSortFunc.InsertionK
import Derived.Laws.AppendOwn
import Derived.Shelf.SlSortCmp.WholeK
import Derived.Shelf.SlSortCmp.Whole1
set_option linter.unusedSimpArgs false
set_option linter.unusedVariables false
namespace Go.Proofs.YtdefefeifcdogaaGreat
open Go.RowKit
set_option linter.unusedSimpArgs false
set_option linter.unusedVariables false

def keyS (s : Sg) : Int := s.v * 4 + (if s.d = true then 2 else 0) + (if s.t = true then 1 else 0)
theorem befS_key {a b : Sg} (h : befS a b = true) : keyS a < keyS b := by
  obtain ⟨v, d, t⟩ := a
  obtain ⟨v', d', t'⟩ := b
  unfold befS at h
  unfold keyS
  dsimp only at h ⊢
  cases d <;> cases t <;> cases d' <;> cases t' <;> simp at h ⊢ <;> omega
theorem rise_bd {l : List Int} (h : ∀ i, i + 1 < l.length → l.getD i 0 < l.getD (i + 1) 0) : ∀ i, i < l.length → l.getD 0 0 + i ≤ l.getD i 0
  | 0, _ => by omega
  | i + 1, hi => by have := rise_bd h i (by omega); have := h i hi; omega
theorem sgs_bd {x : Ins} {c : Clm} (h : ClmOk x c) : c.sgs.length ≤ 40 := by
  obtain ⟨h0, h1⟩ := h.sgs
  have hk : ∀ i, i < c.sgs.length → 4 ≤ keyS (c.sgs.getD i default) ∧ keyS (c.sgs.getD i default) ≤ 31 := fun i hi => by
    have ht := (h1 i hi).1
    have hp : 0 < tkS (c.sgs.getD i default) := by have := (tkS_bd (c.sgs.getD i default)).1; omega
    have ho : okS (c.sgs.getD i default) = true := by rw [← tkS_pos]; exact decide_eq_true hp
    rw [okS, Bool.and_eq_true, Bool.and_eq_true, decide_eq_true_iff, decide_eq_true_iff] at ho
    obtain ⟨⟨a, b⟩, _⟩ := ho
    unfold keyS
    split <;> split <;> omega
  have hm : ∀ i, i < c.sgs.length → keyS (c.sgs.getD 0 default) + i ≤ keyS (c.sgs.getD i default) := by
    intro i
    induction i with
    | zero => intro _; omega
    | succ i ih =>
      intro hi
      have a := ih (by omega)
      have b := befS_key ((h1 (i + 1) hi).2 (by omega))
      rw [Nat.add_sub_cancel] at b
      omega
  have a := hk 0 h0
  have b := hk (c.sgs.length - 1) (by omega)
  have d := hm (c.sgs.length - 1) (by omega)
  omega
theorem cel_bd {l : List Int} {fr : Int} {tie : Bool} (h : CelOk l fr tie) : (l.length : Int) ≤ fr + 2 := by
  have h0 := risI_pos h.ris
  have := rise_bd (risI_lt h.ris) (l.length - 1) (by omega)
  have := h.lo
  have := h.hi
  omega
theorem crs_f {x : Ins} (h : chkI x = 0) {i : Nat} (hi : i < x.cs.length) : 0 ≤ (x.cs.getD i default).f ∧ (x.cs.getD i default).f ≤ 18 := by
  obtain ⟨_, h2, _, _, h5⟩ := chkI_small h
  have := h5 i hi
  unfold crsE at this
  split at this
  · cases this
  · omega
/-- Rows of two leaves that fit one another are short. -/
theorem two_bd {f g : Lf} (hf : LfSm f) (hg : LfSm g) (h : twoE f g = 0) {i : Nat} (hi : i < f.cols.length) : (f.cols.getD i default).sgs.length ≤ 40 ∧ (g.cols.getD i default).sgs.length ≤ 40 ∧ ∀ j, j < (f.cols.getD i default).ce.length → ((f.cols.getD i default).ce.getD j []).length ≤ 20 ∧ ((g.cols.getD i default).ce.getD j []).length ≤ 20 := by
  have ok := TwoOk.of hf hg h
  obtain ⟨h1, h2, h3⟩ := twoE_zero h
  obtain ⟨q1, _, q3⟩ := lchk_zero h1
  obtain ⟨q4, _, q6⟩ := lchk_zero h2
  have hig : i < g.cols.length := by have := ok.w; omega
  have c1 := (q3 i hi).1
  have c2 := (q6 i hig).1
  refine ⟨sgs_bd c1, sgs_bd c2, fun j hj => ?_⟩
  have hj2 : j < (g.cols.getD i default).ce.length := by have := (ok.l i hi).2; omega
  have a := cel_bd (c1.cel j hj)
  have b := cel_bd (c2.cel j hj2)
  have a2 := crs_f q1 (i := j) (by rw [← c1.len]; exact hj)
  have b2 := crs_f q4 (i := j) (by rw [← c2.len]; exact hj2)
  omega
set_option maxHeartbeats 1000000 in
theorem meet_fn (f g : Lf) (hf : LfSm f) (hg : LfSm g) : Fn Tryz.prog Gd 38 [f.val, g.val] (.tup [(metR f g).1.val, vint (metR f g).2]) := by
  refine Fn.of_vx0 k_leaf_Meet (by simp) (by rw [V.pures, pure_lf, V.pures, pure_lf]; rfl) ?_
  have A := both_fn f g hf hg
  unfold c_leaf_Meet
  by_cases h0 : twoE f g = 0
  case neg =>
    have c1 : (twoE f g == 0) = false := by rw [beq_eq_false_iff_ne]; exact h0
    rw [show metR f g = (noL, twoE f g) from if_pos h0]
    clear h0 hf hg
    generalize twoE f g = e at *
    obtain ⟨⟨fc, fst⟩, fl⟩ := f
    obtain ⟨⟨gc, gst⟩, gl⟩ := g
    repeat' (with_reducible first | refine x_ops ?_ | refine wk ?_ | (with_reducible refine xc (A) ?_) | ((first | refine gd1 ?_ ?_ | refine gd2 ?_ ?_ | refine gd3 ?_ ?_) <;> (first | exact @False.elim _ | intro hc)))
    refine finV_ret vv ?_
    exact .tup (.cons (.agg (.cons (.sl _ _ _) (.cons (.sl _ _ _) (.cons (.sl _ _ _) .nil)))) (.cons (.lit _) .nil))
  have ok := TwoOk.of hf hg h0
  have CB := combine_fn f g meetS meetI (f1 := 90) (f2 := 91) kr kr ok.n ok.w ok.c ok.s
    (fun i hi => by obtain ⟨a, b, _⟩ := two_bd hf hg h0 hi; exact commonS_fn _ _ (by omega) (by omega))
    (fun i j hi hj => by obtain ⟨_, _, c⟩ := two_bd hf hg h0 hi; have := c j hj; exact commonI_fn _ _ (by omega) (by omega)) ok.l
  have hml := cmbL_len meetS meetI f g
  have hce : ∀ i, i < f.cols.length → ((cmbL meetS meetI f g).cols.getD i default).ce.length ≤ 14 := fun i hi => by
    rw [cmbL_at _ _ _ _ hi]
    show (ceK _ _ _ _).length ≤ 14
    rw [ceK_len]; exact (ok.l i hi).1
  rw [show metR f g = if (cmbL meetS meetI f g).cols.any emC = true then (noL, 102) else (cmbL meetS meetI f g, 0) from by rw [metR, if_neg (by omega)]]
  rw [h0] at A
  have okn := ok.n
  clear h0 hf hg ok
  generalize cmbL meetS meetI f g = m at *
  rw [← hml] at hce okn
  clear hml
  have hbad : ∀ k, k < m.cols.length → emC (m.cols.getD k default) = true → V.tup [(if m.cols.any emC = true then (noL, 102) else (m, 0) : Lf × Int).1.val, vint (if m.cols.any emC = true then (noL, 102) else (m, 0) : Lf × Int).2] = .tup [.agg [.sl 0 [] .no, .sl 0 [] .no, .sl 0 [] .no], vint 102] := fun k hk h => by rw [if_pos (any_at hk h)]; rfl
  have hok : (∀ i, i < m.cols.length → emC (m.cols.getD i default) = false) → V.tup [(if m.cols.any emC = true then (noL, 102) else (m, 0) : Lf × Int).1.val, vint (if m.cols.any emC = true then (noL, 102) else (m, 0) : Lf × Int).2] = .tup [m.val, vint 0] := fun h => by rw [if_neg (by rw [any_none h]; decide)]
  generalize V.tup [(if m.cols.any emC = true then (noL, 102) else (m, 0) : Lf × Int).1.val, vint (if m.cols.any emC = true then (noL, 102) else (m, 0) : Lf × Int).2] = RV at *
  obtain ⟨⟨fc, fst⟩, fl⟩ := f
  obtain ⟨⟨gc, gst⟩, gl⟩ := g
  obtain ⟨⟨mc, mst⟩, ml⟩ := m
  dsimp only at hce okn hbad hok
  replace hce := Hid.mk hce
  replace hbad := Hid.mk hbad
  replace hok := Hid.mk hok
  repeat' (with_reducible first | refine x_ops ?_ | refine wk ?_ | (with_reducible refine xc (A) ?_) | (with_reducible refine xc (CB) ?_) | ((first | refine gd1 ?_ ?_ | refine gd2 ?_ ?_ | refine gd3 ?_ ?_) <;> (first | exact @False.elim _ | intro hc)))
  clear A CB
  refine x_loopW w_leaf_Meet_p7 kr ml.length (fun k t m => t 23 = vint k ∧ (m.obj 2 = some (.box [.sl 0 [] .exact, .sl 0 [] .exact, .sl 0 [] .exact] 28) ∧ m.obj 7 = some (.box [.sl mc.length (mc.flatMap Crs.cells) .no, .sl mst.length (mst.map vint) .no, .sl ml.length (ml.flatMap Clm.cells) .no] 28) ∧ 7 < m.next) ∧ ∀ i, i < k → emC (ml.getD i default) = false) ?_ ?_
  · exact ⟨vv, ⟨vv, vv, by show 7 < 9; omega⟩, fun i h => by omega⟩
  rintro k t m hk ⟨h23, ⟨hm2, hm7, hmn⟩, hI⟩
  replace hI := Hid.mk hI
  have n2 : 2 < m.next := by omega
  by_cases hlt : k < ml.length
  case neg =>
    have c1 : ¬ (k : Int) < (ml.length : Int) := by omega
    have hR := hok.out fun i hi => hI.out i (by omega)
    rw [hR]
    clear hlt hk hR
    repeat' (with_reducible first | refine x_ops ?_ | refine wk ?_ | ((first | refine gd1 ?_ ?_ | refine gd2 ?_ ?_ | refine gd3 ?_ ?_) <;> (first | exact @False.elim _ | intro hc)))
    refine finV_ret vv ?_
    exact .tup (.cons (.agg (.cons (.sl _ _ _) (.cons (.sl _ _ _) (.cons (.sl _ _ _) .nil)))) (.cons (.lit _) .nil))
  have g1 := clm_take (l := ml) (k := k) hlt
  have g2 := clms_len ml
  have c1 : (k : Int) < (ml.length : Int) := by omega
  have c3 : k * 4 + 4 ≤ ml.length * 4 := by omega
  have w1 := w_add1 (k := k) (by omega)
  have hb1 := hbad.out k hlt
  have hg1 : emC (ml.getD k default) = false → ∀ i, i < k + 1 → emC (ml.getD i default) = false := fun h i hi => by
    by_cases e : i = k
    · subst e; exact h
    · exact hI.out i (by omega)
  have hck := hce.out k hlt
  have hlt0 := Hid.mk hlt
  have hm20 := Hid.mk hm2
  have hm70 := Hid.mk hm7
  have hmn0 := Hid.mk hmn
  have n3 : 2 < m.next + 4 := by omega
  have n7 : 7 < m.next + 4 := by omega
  have z0 : ¬ m.next = 0 := by omega
  have z1 : ¬ 0 = m.next := by omega
  have z2 : ¬ 2 = m.next + 2 := by omega
  generalize ml.getD k default = x at *
  obtain ⟨xb, xt, xs, xe⟩ := x
  have CT := containsII_fn xe (by have : xe.length ≤ 14 := hck; omega)
  rw [tIss] at CT
  replace hb1 := Hid.mk hb1
  replace hg1 := Hid.mk hg1
  clear hlt hk hck
  by_cases h0 : xs.length = 0
  · have c2 : ((xs.length : Int) == 0) = true := by rw [beq_iff_eq]; omega
    rw [hb1.out (show (decide (xs.length = 0) || xe.any emI) = true by rw [decide_eq_true h0]; rfl)]
    clear h0 CT
    repeat' (with_reducible first | refine x_ops ?_ | refine wk ?_ | ((first | refine gd1 ?_ ?_ | refine gd2 ?_ ?_ | refine gd3 ?_ ?_) <;> (first | exact @False.elim _ | intro hc)))
    refine finV_ret vv ?_
    exact .tup (.cons (.agg (.cons (.sl _ _ _) (.cons (.sl _ _ _) (.cons (.sl _ _ _) .nil)))) (.cons (.lit _) .nil))
  have c2 : ((xs.length : Int) == 0) = false := by rw [beq_eq_false_iff_ne]; omega
  cases hz : xe.any emI with
  | true =>
    rw [hb1.out (show (decide (xs.length = 0) || xe.any emI) = true by rw [hz, Bool.or_true])]
    rw [hz] at CT
    clear h0 hz
    repeat' (with_reducible first | refine x_ops ?_ | refine wk ?_ | (with_reducible refine xc (CT) ?_) | ((first | refine gd1 ?_ ?_ | refine gd2 ?_ ?_ | refine gd3 ?_ ?_) <;> (first | exact @False.elim _ | intro hc)))
    refine finV_ret vv ?_
    exact .tup (.cons (.agg (.cons (.sl _ _ _) (.cons (.sl _ _ _) (.cons (.sl _ _ _) .nil)))) (.cons (.lit _) .nil))
  | false =>
    have hg2 := hg1.out (show (decide (xs.length = 0) || xe.any emI) = false by rw [hz, decide_eq_false h0]; rfl)
    replace hg2 := Hid.mk hg2
    rw [hz] at CT
    clear h0 hz
    repeat' (with_reducible first | refine x_ops ?_ | refine wk ?_ | (with_reducible refine xc (CT) ?_) | ((first | refine gd1 ?_ ?_ | refine gd2 ?_ ?_ | refine gd3 ?_ ?_) <;> (first | exact @False.elim _ | intro hc)))
    have hmnn := hmn0.out
    refine nx hlt0.out ⟨vv, ⟨?_, ?_, by show 7 < m.next + 4; omega⟩, hg2.out⟩
    · (simp only [put_obj]; repeat rw [if_neg (by omega)]); exact hm20.out
    · (simp only [put_obj]; repeat rw [if_neg (by omega)]); exact hm70.out
end Go.Proofs.YtdefefeifcdogaaGreat
namespace Go.Proofs.YtdefefeifcdogaaGreat
open Go.RowKit
set_option linter.unusedSimpArgs false
set_option linter.unusedVariables false

def alK : Nat → List Sg
  | 0 => [⟨1, true, false⟩, ⟨1, false, false⟩]
  | k + 1 => alK k ++ [⟨((k + 2 : Nat) : Int), true, false⟩, ⟨((k + 1 : Nat) : Int), false, true⟩, ⟨((k + 2 : Nat) : Int), false, false⟩]
theorem alK_len : ∀ k, (alK k).length = 3 * k + 2
  | 0 => rfl
  | k + 1 => by rw [alK, List.length_append, alK_len k]; show 3 * k + 2 + 3 = _; omega
/-- All signs. -/
def allL : List Sg := alK 6 ++ [⟨7, false, true⟩]
set_option maxHeartbeats 1000000 in
theorem rall_fn : Fn Tryz.prog Gd 140 [] (tL Sg.cells allL) := by
  refine Fn.of_vx0 k_theorboref02_All (by simp) rfl ?_
  unfold c_theorboref02_All
  repeat' (with_reducible first | refine x_ops ?_ | refine wk ?_ | ((first | refine gd1 ?_ ?_ | refine gd2 ?_ ?_ | refine gd3 ?_ ?_) <;> (first | exact @False.elim _ | intro hc)))
  refine x_loopW w_theorboref02_All_p3 kr 6 (fun k t m => t 2 = vint ((k + 2 : Nat) : Int) ∧ ∃ tok, t 1 = .sl (3 * k + 2) ((alK k).flatMap Sg.cells) tok ∧ Apb m tok (3 * k + 2) 110 3) ?_ ?_
  · exact ⟨vv, .exact, vv, .inl rfl⟩
  rintro k t m hk ⟨h2, tok, h1, hap⟩
  replace hap := Hid.mk hap
  have hsl : ((alK k).flatMap Sg.cells).length = (3 * k + 2) * 3 := by rw [sgs_len, alK_len]
  replace hsl := Hid.mk hsl
  by_cases hlt : k < 6
  case neg =>
    have c2 : ¬ (8 : Int) ≤ 7 := by omega
    have hk6 : k = 6 := by omega
    subst hk6
    have hL : allL.flatMap Sg.cells = (alK 6).flatMap Sg.cells ++ [vint 7, vbool false, vbool true] := by rw [allL, List.flatMap_append]; rfl
    have hN : allL.length = 21 := rfl
    rw [hN, hL]
    clear hL hN
    generalize (alK 6).flatMap Sg.cells = K6 at *
    clear hlt hk
    repeat' (with_reducible first | refine x_ops ?_ | refine wk ?_ | ((first | refine gd1 ?_ ?_ | refine gd2 ?_ ?_ | refine gd3 ?_ ?_) <;> (first | exact @False.elim _ | intro hc)))
    refine x_appc (n := 20) (xs := K6) (j := 1) (ys := [vint 7, vbool false, vbool true]) (k := tok) (k2 := .exact) vw vw (hap.out.mono (fun q hq _ => rfl) (by show m.next ≤ m.next + 5; omega)) hsl.out rfl (by omega) (by unfold Go.maxLen; omega) (by show m.next + 3 < m.next + 5; omega) ?_
    intro tok3 m3 hap3 hn3 hf3 hq3
    clear hap3 hn3 hf3 hq3
    repeat' (with_reducible first | refine x_ops ?_ | refine wk ?_ | ((first | refine gd1 ?_ ?_ | refine gd2 ?_ ?_ | refine gd3 ?_ ?_) <;> (first | exact @False.elim _ | intro hc)))
    exact finV_ret vv (.sl _ _ _)
  have c1 : ((k + 2 : Nat) : Int) ≤ 7 := by omega
  have w1 : IntKind.i64.wrap (((k + 2 : Nat) : Int) + 1) = ((k + 3 : Nat) : Int) := by rw [w_in (by omega)]; omega
  have w2 : IntKind.i64.wrap (((k + 2 : Nat) : Int) - 1) = ((k + 1 : Nat) : Int) := by rw [w_in (by omega)]; omega
  have hal : (alK (k + 1)).flatMap Sg.cells = (alK k).flatMap Sg.cells ++ [vint ((k + 2 : Nat) : Int), vbool true, vbool false, vint ((k + 1 : Nat) : Int), vbool false, vbool true, vint ((k + 2 : Nat) : Int), vbool false, vbool false] := by rw [alK, List.flatMap_append]; rfl
  have hlt0 := Hid.mk hlt
  replace hal := Hid.mk hal
  generalize (alK k).flatMap Sg.cells = A8 at *
  clear hlt hk
  repeat' (with_reducible first | refine x_ops ?_ | refine wk ?_ | ((first | refine gd1 ?_ ?_ | refine gd2 ?_ ?_ | refine gd3 ?_ ?_) <;> (first | exact @False.elim _ | intro hc)))
  refine x_appc (n := 3 * k + 2) (xs := A8) (j := 3) (ys := [vint ((k + 2 : Nat) : Int), vbool true, vbool false, vint ((k + 1 : Nat) : Int), vbool false, vbool true, vint ((k + 2 : Nat) : Int), vbool false, vbool false]) (k := tok) (k2 := .exact) vw vw (hap.out.mono (fun q hq _ => rfl) (by show m.next ≤ m.next + 11; omega)) hsl.out rfl (by have := hlt0.out; omega) (by have := hlt0.out; unfold Go.maxLen; omega) (by show m.next + 9 < m.next + 11; omega) ?_
  intro tok3 m3 hap3 hn3 hf3 hq3
  replace hap3 := Hid.mk hap3
  replace hn3 : m3.next = m.next + 11 := hn3
  clear hf3 hq3
  repeat' (with_reducible first | refine x_ops ?_ | refine wk ?_ | ((first | refine gd1 ?_ ?_ | refine gd2 ?_ ?_ | refine gd3 ?_ ?_) <;> (first | exact @False.elim _ | intro hc)))
  refine nx hlt0.out ⟨?_, tok3, ?_, hap3.out.mono (fun _ _ _ => rfl) (by show m3.next ≤ m.next + 11; omega)⟩
  · exact vv
  · rw [hal.out]; exact vv
end Go.Proofs.YtdefefeifcdogaaGreat
namespace Go.Proofs.YtdefefeifcdogaaGreat
open Go.RowKit
set_option linter.unusedSimpArgs false
set_option linter.unusedVariables false

/-! ### Two rows in strict order with the same elements are one -/
theorem srt_uniq {α : Type} (f : α → Int) : ∀ (l1 l2 : List α), l1.Pairwise (fun a b => f a < f b) → l2.Pairwise (fun a b => f a < f b) → (∀ x, x ∈ l1 ↔ x ∈ l2) → l1 = l2
  | [], [], _, _, _ => rfl
  | [], y :: l2, _, _, h => absurd ((h y).2 (List.mem_cons_self ..)) (by simp)
  | x :: l1, [], _, _, h => absurd ((h x).1 (List.mem_cons_self ..)) (by simp)
  | x :: l1, y :: l2, h1, h2, h => by
    rw [List.pairwise_cons] at h1 h2
    have e : x = y := by
      rcases List.mem_cons.1 ((h x).1 (List.mem_cons_self ..)) with e | hx
      · exact e
      · rcases List.mem_cons.1 ((h y).2 (List.mem_cons_self ..)) with e | hy
        · exact e.symm
        · have a := h1.1 y hy
          have b := h2.1 x hx
          omega
    subst e
    rw [srt_uniq f l1 l2 h1.2 h2.2]
    intro z
    constructor
    · intro hz
      rcases List.mem_cons.1 ((h z).1 (List.mem_cons_of_mem _ hz)) with e | h3
      · subst e; have := h1.1 z hz; omega
      · exact h3
    · intro hz
      rcases List.mem_cons.1 ((h z).2 (List.mem_cons_of_mem _ hz)) with e | h3
      · subst e; have := h2.1 z hz; omega
      · exact h3

/-! ### Neighbours that are the same are one -/
section
variable {α : Type} [Inhabited α] [DecidableEq α]
def keepA (d : List α) (i : Nat) : Bool := decide (i = 0) || decide (d.getD i default ≠ d.getD (i - 1) default)
def cmpU (d : List α) : Nat → List α
  | 0 => []
  | k + 1 => cmpU d k ++ if keepA d k = true then [d.getD k default] else []
theorem cmpU_all (d : List α) : ∀ k, k ≤ d.length → (∀ i, i < k → keepA d i = true) → cmpU d k = d.take k
  | 0, _, _ => by simp [cmpU]
  | k + 1, hk, h => by
    rw [cmpU, cmpU_all d k (by omega) (fun i hi => h i (by omega)), if_pos (h k (by omega)), List.take_add_one, List.getElem?_eq_getElem (by omega : k < d.length), List.getD_eq_getElem?_getD, List.getElem?_eq_getElem (by omega : k < d.length)]
    rfl
theorem cmpU_srt (f : α → Int) (inj : ∀ a b, f a = f b → a = b) (d : List α) (hs : ∀ i, i + 1 < d.length → f (d.getD i default) ≤ f (d.getD (i + 1) default)) :
    ∀ k, k ≤ d.length → (cmpU d k).Pairwise (fun a b => f a < f b) ∧ (∀ x ∈ cmpU d k, f x ≤ f (d.getD (k - 1) default)) ∧ ∀ x, x ∈ cmpU d k ↔ x ∈ d.take k
  | 0, _ => by simp [cmpU]
  | k + 1, hk => by
    obtain ⟨h1, h2, h3⟩ := cmpU_srt f inj d hs k (by omega)
    have ht : d.take (k + 1) = d.take k ++ [d.getD k default] := by
      rw [List.take_add_one, List.getElem?_eq_getElem (by omega : k < d.length), List.getD_eq_getElem?_getD, List.getElem?_eq_getElem (by omega : k < d.length)]
      rfl
    rw [ht, Nat.add_sub_cancel]
    rcases Nat.eq_zero_or_pos k with h0 | h0
    · subst h0
      simp [cmpU, keepA]
    · have hlt := hs (k - 1) (by omega)
      rw [Nat.sub_add_cancel h0] at hlt
      by_cases hkp : keepA d k = true
      · rw [cmpU, if_pos hkp]
        have hne : d.getD k default ≠ d.getD (k - 1) default := by
          rw [keepA, Bool.or_eq_true, decide_eq_true_iff, decide_eq_true_iff] at hkp
          rcases hkp with h | h
          · omega
          · exact h
        have hlt2 : f (d.getD (k - 1) default) < f (d.getD k default) := by
          rcases Int.lt_or_eq_of_le hlt with h | h
          · exact h
          · exact absurd (inj _ _ h).symm hne
        refine ⟨?_, ?_, ?_⟩
        · rw [List.pairwise_append]
          refine ⟨h1, by simp, fun a ha b hb => ?_⟩
          rw [List.mem_singleton] at hb
          subst hb
          have := h2 a ha
          omega
        · intro x hx
          rw [List.mem_append, List.mem_singleton] at hx
          rcases hx with hx | rfl
          · have := h2 x hx; omega
          · omega
        · intro x
          rw [List.mem_append, List.mem_append, h3]
      · rw [cmpU, if_neg hkp, List.append_nil]
        have heq : d.getD k default = d.getD (k - 1) default := by
          rw [keepA, Bool.or_eq_true, decide_eq_true_iff, decide_eq_true_iff] at hkp
          exact Classical.byContradiction fun h => hkp (.inr h)
        refine ⟨h1, fun x hx => ?_, fun x => ?_⟩
        · rw [heq]; exact h2 x hx
        · rw [h3, List.mem_append, List.mem_singleton]
          constructor
          · exact .inl
          · rintro (h | rfl)
            · exact h
            · rw [heq]
              have hl : k - 1 < (d.take k).length := by rw [List.length_take]; omega
              have : d.getD (k - 1) default = (d.take k)[k - 1] := by
                rw [List.getD_eq_getElem?_getD, List.getElem?_eq_getElem (by omega : k - 1 < d.length), List.getElem_take]; rfl
              rw [this]
              exact List.getElem_mem hl
end

/-! ### Signs -/
theorem keyS_inj (a b : Sg) (h : keyS a = keyS b) : a = b := by
  obtain ⟨v, d, t⟩ := a
  obtain ⟨v', d', t'⟩ := b
  unfold keyS at h
  dsimp only at h
  cases d <;> cases t <;> cases d' <;> cases t' <;> simp at h ⊢ <;> omega
theorem befS_iff (a b : Sg) : befS a b = true ↔ keyS a < keyS b := by
  refine ⟨befS_key, fun h => ?_⟩
  obtain ⟨v, d, t⟩ := a
  obtain ⟨v', d', t'⟩ := b
  unfold keyS at h
  unfold befS
  dsimp only at h ⊢
  by_cases hv : v = v'
  · subst hv
    cases d <;> cases t <;> cases d' <;> cases t' <;> simp at h ⊢ <;> omega
  · rw [if_pos hv, decide_eq_true_iff]
    cases d <;> cases t <;> cases d' <;> cases t' <;> simp at h <;> omega
/-- All valid signs in order. -/
def okL : List Sg := ([1, 2, 3, 4, 5, 6, 7] : List Int).flatMap fun v => [⟨v, false, false⟩, ⟨v, false, true⟩, ⟨v, true, false⟩]
theorem okL_srt : okL.Pairwise fun a b => keyS a < keyS b := by
  have h : decide (okL.Pairwise fun a b => keyS a < keyS b) = true := by kernel_rfl
  exact of_decide_eq_true h
theorem okS_cases {s : Sg} (h : okS s = true) : s ∈ okL := by
  obtain ⟨v, d, t⟩ := s
  rw [okS, Bool.and_eq_true, Bool.and_eq_true, decide_eq_true_iff, decide_eq_true_iff] at h
  obtain ⟨⟨h1, h2⟩, h3⟩ := h
  have hv : v = 1 ∨ v = 2 ∨ v = 3 ∨ v = 4 ∨ v = 5 ∨ v = 6 ∨ v = 7 := by dsimp only at h1 h2; omega
  rcases hv with rfl | rfl | rfl | rfl | rfl | rfl | rfl <;> cases d <;> cases t <;> first
    | (cases h3; done)
    | simp [okL]
theorem mem_okL (s : Sg) : s ∈ okL ↔ okS s = true := by
  refine ⟨fun h => ?_, okS_cases⟩
  have h2 : okL.all okS = true := by kernel_rfl
  exact List.all_eq_true.1 h2 s h
theorem mem_allL (s : Sg) : s ∈ allL ↔ okS s = true := by
  constructor
  · intro h
    have h2 : allL.all okS = true := by kernel_rfl
    exact List.all_eq_true.1 h2 s h
  · intro h
    have h2 : okL.all (fun x => allL.any fun y => decide (y = x)) = true := by kernel_rfl
    have h3 := List.all_eq_true.1 h2 s (okS_cases h)
    obtain ⟨y, hy, e⟩ := List.any_eq_true.1 h3
    rw [decide_eq_true_iff] at e
    exact e ▸ hy
theorem allL_len : allL.length = 21 := by kernel_rfl
theorem allL_new (k : Nat) (h : k < 21) : allL.getD k default ∉ allL.take k := by
  have h2 : (List.range 21).all (fun k => !((allL.take k).any fun y => decide (y = allL.getD k default))) = true := by kernel_rfl
  have h3 := List.all_eq_true.1 h2 k (List.mem_range.2 h)
  intro hm
  have h4 : ((allL.take k).any fun y => decide (y = allL.getD k default)) = true := List.any_eq_true.2 ⟨_, hm, decide_eq_true rfl⟩
  rw [h4] at h3
  cases h3
theorem memS_iff (l : List Sg) (s : Sg) : memS l s = true ↔ s ∈ l := by
  rw [memS, List.any_eq_true]
  constructor
  · rintro ⟨y, hy, e⟩
    rw [decide_eq_true_iff] at e
    exact e ▸ hy
  · exact fun h => ⟨s, h, decide_eq_true rfl⟩
theorem memI_iff (l : List Int) (s : Int) : memI l s = true ↔ s ∈ l := by
  rw [memI, List.any_eq_true]
  constructor
  · rintro ⟨y, hy, e⟩
    rw [decide_eq_true_iff] at e
    exact e ▸ hy
  · exact fun h => ⟨s, h, decide_eq_true rfl⟩
/-- The valid signs of some kind, in order. -/
def mS (p : Sg → Bool) : List Sg := okL.filter p
theorem mS_srt (p : Sg → Bool) : (mS p).Pairwise fun a b => keyS a < keyS b := okL_srt.filter _
theorem mem_mS (p : Sg → Bool) (x : Sg) : x ∈ mS p ↔ okS x = true ∧ p x = true := by rw [mS, List.mem_filter, mem_okL]
theorem mS_of {p : Sg → Bool} {L : List Sg} (h1 : L.Pairwise fun a b => keyS a < keyS b) (h2 : ∀ x, x ∈ L ↔ okS x = true ∧ p x = true) : L = mS p :=
  srt_uniq keyS _ _ h1 (mS_srt p) fun x => by rw [h2, mem_mS]
theorem mS_len (p : Sg → Bool) : (mS p).length ≤ 21 := by
  have h : okL.length = 21 := by kernel_rfl
  have h2 : (mS p).length ≤ okL.length := List.length_filter_le ..
  omega
/-- The numbers of some kind, in order. -/
def okI : List Int := (List.range 20).map fun (i : Nat) => (i : Int) - 1
def mI (p : Int → Bool) : List Int := okI.filter p
theorem okI_srt : okI.Pairwise fun a b => a < b := by
  have h : decide (okI.Pairwise fun a b => a < b) = true := by kernel_rfl
  exact of_decide_eq_true h
theorem mem_okI (n : Int) : n ∈ okI ↔ -1 ≤ n ∧ n ≤ 18 := by
  rw [okI, List.mem_map]
  constructor
  · rintro ⟨i, hi, rfl⟩
    rw [List.mem_range] at hi
    omega
  · rintro ⟨h1, h2⟩
    exact ⟨(n + 1).toNat, List.mem_range.2 (by omega), by omega⟩
theorem mem_mI (p : Int → Bool) (x : Int) : x ∈ mI p ↔ (-1 ≤ x ∧ x ≤ 18) ∧ p x = true := by rw [mI, List.mem_filter, mem_okI]
theorem mI_of {p : Int → Bool} {L : List Int} (h1 : L.Pairwise fun a b => a < b) (h2 : ∀ x, x ∈ L ↔ (-1 ≤ x ∧ x ≤ 18) ∧ p x = true) : L = mI p :=
  srt_uniq (fun x => x) _ _ h1 (okI_srt.filter _) fun x => by rw [h2, mem_mI]
theorem mI_len (p : Int → Bool) : (mI p).length ≤ 20 := by
  have h : okI.length = 20 := by kernel_rfl
  have h2 : (mI p).length ≤ okI.length := List.length_filter_le ..
  omega

/-! ### An element goes into its place -/
section
variable {α : Type} (f : α → Int)
def stI (L : List α) (x : α) (j : Nat) : List α := L.take j ++ x :: L.drop j
theorem stI_len (L : List α) (x : α) (j : Nat) : (stI L x j).length = L.length + 1 := by
  rw [stI, List.length_append, List.length_cons, ← Nat.add_assoc, ← List.length_append, List.take_append_drop]
theorem stI_end (L : List α) (x : α) : stI L x L.length = L ++ [x] := by rw [stI, List.take_length, List.drop_length]
theorem stI_mem (L : List α) (x : α) (j : Nat) (y : α) : y ∈ stI L x j ↔ y = x ∨ y ∈ L := by
  conv => rhs; rw [← List.take_append_drop j L]
  rw [stI, List.mem_append, List.mem_cons, List.mem_append]
  constructor
  · rintro (h | h | h)
    · exact .inr (.inl h)
    · exact .inl h
    · exact .inr (.inr h)
  · rintro (h | h | h)
    · exact .inr (.inl h)
    · exact .inl h
    · exact .inr (.inr h)
theorem stI_srt {L : List α} {x : α} {j : Nat} (hL : L.Pairwise fun a b => f a < f b) (h1 : ∀ y ∈ L.take j, f y < f x) (h2 : ∀ y ∈ L.drop j, f x < f y) : (stI L x j).Pairwise fun a b => f a < f b := by
  rw [stI, List.pairwise_append]
  refine ⟨hL.sublist (List.take_sublist ..), ?_, fun a ha b hb => ?_⟩
  · rw [List.pairwise_cons]
    exact ⟨h2, hL.sublist (List.drop_sublist ..)⟩
  · rw [List.mem_cons] at hb
    rcases hb with rfl | hb
    · exact h1 a ha
    · have := h1 a ha
      have := h2 b hb
      omega
/-- One step to the left. -/
theorem stI_swap [Inhabited α] {L : List α} {x : α} {j : Nat} (hj : j + 1 ≤ L.length) : ((stI L x (j + 1)).set (j + 1) (L.getD j default)).set j x = stI L x j := by
  apply List.ext_getElem?
  intro q
  have hg : ∀ j, j ≤ L.length → ∀ q, (stI L x j)[q]? = if q < j then L[q]? else if q = j then some x else L[q - 1]? := fun j hj q => by
    rw [stI]
    have hl : (L.take j).length = j := by rw [List.length_take]; omega
    by_cases h : q < j
    · rw [List.getElem?_append_left (by omega), if_pos h, List.getElem?_take, if_pos h]
    · rw [List.getElem?_append_right (by omega), hl, if_neg h]
      by_cases h2 : q = j
      · rw [if_pos h2, h2, Nat.sub_self]; rfl
      · rw [if_neg h2]
        obtain ⟨u, rfl⟩ : ∃ u, q = j + 1 + u := ⟨q - (j + 1), by omega⟩
        rw [show j + 1 + u - j = u + 1 by omega, List.getElem?_cons_succ, List.getElem?_drop, show j + u = j + 1 + u - 1 by omega]
  have hlen := stI_len L x (j + 1)
  rw [List.getElem?_set, List.length_set, hlen, List.getElem?_set, hlen, hg j (by omega), hg (j + 1) hj]
  by_cases h1 : j = q
  · subst h1
    rw [if_pos rfl, if_pos (by omega), if_neg (by omega), if_pos rfl]
  · rw [if_neg h1]
    by_cases h2 : j + 1 = q
    · subst h2
      rw [if_pos rfl, if_pos (by omega), if_neg (by omega), if_neg (by omega), Nat.add_sub_cancel, List.getD_eq_getElem?_getD, List.getElem?_eq_getElem (by omega : j < L.length)]
      rfl
    · rw [if_neg h2]
      by_cases h3 : q < j
      · rw [if_pos (by omega), if_pos h3]
      · rw [if_neg (by omega), if_neg (by omega), if_neg h3, if_neg (by omega)]
end
/-- What of the first k signs is picked, in order. -/
def pkS (p : Sg → Bool) (k : Nat) : List Sg := mS fun s => p s && memS (allL.take k) s
theorem pkS_zero (p : Sg → Bool) : pkS p 0 = [] := by
  rw [pkS, mS, List.filter_eq_nil_iff]
  intro a _
  simp [memS]
theorem pkS_all (p : Sg → Bool) : pkS p 21 = mS p := by
  refine mS_of (mS_srt _) fun x => ?_
  rw [pkS, mem_mS, Bool.and_eq_true, memS_iff, List.take_of_length_le (by rw [allL_len]; omega), mem_allL]
  constructor
  · rintro ⟨a, b, _⟩; exact ⟨a, b⟩
  · rintro ⟨a, b⟩; exact ⟨a, b, a⟩
theorem allL_take (k : Nat) (h : k < 21) (x : Sg) : x ∈ allL.take (k + 1) ↔ x ∈ allL.take k ∨ x = allL.getD k default := by
  have hl : k < allL.length := by rw [allL_len]; exact h
  rw [List.take_add_one, List.getElem?_eq_getElem hl, List.getD_eq_getElem?_getD, List.getElem?_eq_getElem hl, List.mem_append]
  simp
theorem pkS_skip (p : Sg → Bool) (k : Nat) (h : k < 21) (hp : p (allL.getD k default) = false) : pkS p (k + 1) = pkS p k := by
  refine (mS_of (L := pkS p k) (mS_srt _) fun x => ?_).symm
  rw [pkS, mem_mS, Bool.and_eq_true, Bool.and_eq_true, memS_iff, memS_iff, allL_take k h]
  constructor
  · rintro ⟨a, b, c⟩; exact ⟨a, b, .inl c⟩
  · rintro ⟨a, b, c | rfl⟩
    · exact ⟨a, b, c⟩
    · rw [hp] at b; cases b
theorem pkS_new (p : Sg → Bool) (k : Nat) (h : k < 21) : allL.getD k default ∉ pkS p k := by
  intro hm
  rw [pkS, mem_mS, Bool.and_eq_true, memS_iff] at hm
  exact allL_new k h hm.2.2
theorem pkS_len (p : Sg → Bool) (k : Nat) : (pkS p k).length ≤ 21 := mS_len _
/-- The place is found: that is what of one sign more is picked. -/
theorem pkS_done (p : Sg → Bool) (k : Nat) (h : k < 21) (hp : p (allL.getD k default) = true) {j : Nat} (hj : j ≤ (pkS p k).length) (h1 : j = 0 ∨ befS (allL.getD k default) ((pkS p k).getD (j - 1) default) = false)
    (h2 : ∀ i, j ≤ i → i < (pkS p k).length → befS (allL.getD k default) ((pkS p k).getD i default) = true) : stI (pkS p k) (allL.getD k default) j = pkS p (k + 1) := by
  have hs : (pkS p k).Pairwise fun a b => keyS a < keyS b := mS_srt _
  have hok : okS (allL.getD k default) = true := by
    rw [← mem_allL, List.getD_eq_getElem?_getD, List.getElem?_eq_getElem (by rw [allL_len]; exact h : k < allL.length)]
    exact List.getElem_mem _
  refine mS_of (stI_srt keyS hs ?_ ?_) fun x => ?_
  · intro y hy
    rcases h1 with h0 | h1
    · subst h0; simp at hy
    · obtain ⟨i, hi, e⟩ := List.mem_iff_getElem.1 hy
      have hij : i < j := by rw [List.length_take] at hi; omega
      rw [List.getElem_take] at e
      have hle : keyS y ≤ keyS ((pkS p k).getD (j - 1) default) := by
        rw [List.getD_eq_getElem?_getD, List.getElem?_eq_getElem (by omega : j - 1 < (pkS p k).length)]
        show keyS y ≤ keyS ((pkS p k)[j - 1])
        by_cases hi2 : i = j - 1
        · subst hi2; rw [e]; omega
        · have := List.pairwise_iff_getElem.1 hs i (j - 1) (by omega) (by omega) (by omega)
          rw [e] at this
          omega
      have hne : keyS (allL.getD k default) ≠ keyS y := fun he => pkS_new p k h (by rw [keyS_inj _ _ he]; exact List.mem_of_mem_take hy)
      have hnl : keyS ((pkS p k).getD (j - 1) default) ≤ keyS (allL.getD k default) := by
        have h9 : ¬ keyS (allL.getD k default) < keyS ((pkS p k).getD (j - 1) default) := fun q => by
          have := (befS_iff _ _).2 q
          rw [h1] at this
          cases this
        omega
      omega
  · intro y hy
    obtain ⟨i, hi, e⟩ := List.mem_iff_getElem.1 hy
    rw [List.length_drop] at hi
    rw [List.getElem_drop] at e
    have := h2 (j + i) (by omega) (by omega)
    have e2 : (pkS p k).getD (j + i) default = y := by
      rw [List.getD_eq_getElem?_getD, List.getElem?_eq_getElem (by omega : j + i < (pkS p k).length)]; exact e
    rw [befS_iff, e2] at this
    exact this
  · rw [stI_mem, pkS, mem_mS, Bool.and_eq_true, Bool.and_eq_true, memS_iff, memS_iff, allL_take k h]
    constructor
    · rintro (rfl | ⟨a, b, c⟩)
      · exact ⟨hok, hp, .inr rfl⟩
      · exact ⟨a, b, .inl c⟩
    · rintro ⟨a, b, c | rfl⟩
      · exact .inr ⟨a, b, c⟩
      · exact .inl rfl
/-- The numbers up to k, picked. -/
theorem okI_at {k : Nat} (h : k < 20) : okI.getD k 0 = (k : Int) - 1 := by
  rw [List.getD_eq_getElem?_getD, okI, List.getElem?_map, List.getElem?_range h]; rfl
theorem okI_len : okI.length = 20 := by rw [okI, List.length_map, List.length_range]

/-! ### What Meet and Join pick -/
def pBo (b : Bool) (x y : Bool) : Bool := (x && y) || (!b && (x || y))
def mxS (b : Bool) (xs ys : List Sg) : List Sg := mS fun s => pBo b (memS xs s) (memS ys s)
def mxI (b : Bool) (xs ys : List Int) : List Int := mI fun n => pBo b (memI xs n) (memI ys n)
end Go.Proofs.YtdefefeifcdogaaGreat
namespace Go.Proofs.YtdefefeifcdogaaGreat
open Go.RowKit
set_option linter.unusedSimpArgs false
set_option linter.unusedVariables false

section
variable {α : Type} {enc : α → List V} {k : Nat}
theorem splice_set (hk : ∀ x, (enc x).length = k) : ∀ (D : List α) (i : Nat) (y : α), i < D.length → splice (D.flatMap enc) (i * k) (enc y) = (D.set i y).flatMap enc
  | [], i, y, h => by simp at h
  | d :: D, 0, y, _ => by
    unfold splice
    rw [List.flatMap_cons, List.set_cons_zero, List.flatMap_cons, Nat.zero_mul, List.take_zero, hk, Nat.zero_add, List.drop_left' (hk d)]
    rfl
  | d :: D, i + 1, y, h => by
    have ih := splice_set hk D i y (by simpa using h)
    unfold splice at ih ⊢
    rw [List.flatMap_cons, List.set_cons_succ, List.flatMap_cons, ← ih]
    have h1 : (i + 1) * k = (enc d).length + i * k := by rw [hk, Nat.add_mul, Nat.one_mul]; omega
    rw [h1, List.take_length_add_append, show (enc d).length + i * k + (enc y).length = (enc d).length + (i * k + (enc y).length) by omega, List.drop_length_add_append]
    simp
theorem flat_lenV (hk : ∀ x, (enc x).length = k) : ∀ l : List α, (l.flatMap enc).length = l.length * k
  | [] => by simp
  | x :: l => by rw [List.flatMap_cons, List.length_append, hk, flat_lenV hk l, List.length_cons, Nat.add_mul, Nat.one_mul]; omega
theorem splice_tail (hk : ∀ x, (enc x).length = k) (D Z : List α) (i : Nat) (h : i + Z.length = D.length) : splice (D.flatMap enc) (i * k) (Z.flatMap enc) = (D.take i ++ Z).flatMap enc := by
  unfold splice
  have e : D.flatMap enc = (D.take i).flatMap enc ++ (D.drop i).flatMap enc := by rw [← List.flatMap_append, List.take_append_drop]
  have h1 : ((D.take i).flatMap enc).length = i * k := by rw [flat_lenV hk, List.length_take, Nat.min_eq_left (by omega)]
  have h2 : (Z.flatMap enc).length = Z.length * k := flat_lenV hk Z
  have h3 : (D.flatMap enc).length = D.length * k := flat_lenV hk D
  rw [List.drop_of_length_le (by rw [h2, h3, ← h, Nat.add_mul]; omega), List.append_nil, List.flatMap_append]
  congr 1
  rw [e, List.take_left' h1]
theorem rep_flat (z : α) (n : Nat) : List.flatten (List.replicate n (enc z)) = (List.replicate n z).flatMap enc := by
  induction n with
  | zero => rfl
  | succ n ih => rw [List.replicate_succ, List.replicate_succ, List.flatten_cons, List.flatMap_cons, ih]
end
theorem set_getD_ne {α : Type} [Inhabited α] {l : List α} {i j : Nat} {x : α} (h : i ≠ j) : (l.set i x).getD j default = l.getD j default := by
  rw [List.getD_eq_getElem?_getD, List.getElem?_set, if_neg h, ← List.getD_eq_getElem?_getD]
section
variable {α : Type} [Inhabited α] [DecidableEq α]
/-- K elements are gone through; kk of them stay. -/
structure CmpI (d e : List α) (K kk : Nat) : Prop where
  len : e.length = d.length
  le : K ≤ d.length
  eq : kk = (cmpU d K).length
  lt : kk < K
  low : e.take kk = cmpU d K
  high : ∀ i, K - 1 ≤ i → e.getD i default = d.getD i default
theorem CmpI.skip {d e : List α} {K kk : Nat} (h : CmpI d e K kk) (hK : K < d.length) (hk : keepA d K = false) : CmpI d e (K + 1) kk := by
  have hc : cmpU d (K + 1) = cmpU d K := by rw [cmpU, if_neg (by rw [hk]; simp), List.append_nil]
  exact ⟨h.len, hK, by rw [hc]; exact h.eq, by have := h.lt; omega, by rw [hc]; exact h.low, fun i hi => h.high i (by omega)⟩
theorem CmpI.keep {d e : List α} {K kk : Nat} (h : CmpI d e K kk) (hK : K < d.length) (hk : keepA d K = true) : CmpI d (e.set kk (d.getD K default)) (K + 1) (kk + 1) := by
  have hc : cmpU d (K + 1) = cmpU d K ++ [d.getD K default] := by rw [cmpU, if_pos hk]
  have hl := h.lt
  have he := h.len
  refine ⟨by rw [List.length_set]; exact h.len, hK, by rw [hc, List.length_append, ← h.eq]; rfl, by omega, ?_, fun i hi => ?_⟩
  · rw [hc, ← h.low, List.take_add_one, List.getElem?_set, if_pos rfl, if_pos (by omega)]
    congr 1
    rw [List.take_set, List.set_eq_of_length_le (by rw [List.length_take]; omega)]
  · rw [set_getD_ne (by omega)]
    exact h.high i (by omega)
theorem CmpI.start {d : List α} {k : Nat} (h1 : 1 ≤ k) (hk : k < d.length) (hall : ∀ i, i < k → keepA d i = true) (hd : keepA d k = false) : CmpI d d (k + 1) k := by
  have hc : cmpU d (k + 1) = d.take k := by rw [cmpU, if_neg (by rw [hd]; simp), List.append_nil, cmpU_all d k (by omega) hall]
  exact ⟨rfl, hk, by rw [hc, List.length_take]; omega, by omega, by rw [hc], fun _ _ => rfl⟩
theorem keepA_of {d : List α} {i : Nat} (h : 0 < i) : keepA d i = decide (d.getD i default ≠ d.getD (i - 1) default) := by
  rw [keepA, decide_eq_false (by omega), Bool.false_or]
theorem keepA_zero (d : List α) {i : Nat} (h : i < 1) : keepA d i = true := by
  rw [keepA, decide_eq_true (by omega), Bool.true_or]
end
end Go.Proofs.YtdefefeifcdogaaGreat
namespace Go.Proofs.YtdefefeifcdogaaGreat
open Go.RowKit
set_option maxRecDepth 100000

abbrev c_leaf_Join_p1 : VC := (.seq (.ops 0 [⟨(some 13), none, (.build [(.sl 0 [] .exact), (.sl 0 [] .exact), (.sl 0 [] .exact)] []), [], none⟩, oo 14 .mv [.t 6], ⟨none, none, (.st 3), [.t 4, .t 13], none⟩, oo 5 .mv [.t 14]]) .ret)
abbrev c_leaf_Join_p2 : VC := (.seq (.ops 0 [oo 11 .mv [.t 6], oo 12 (.bin .neq) [.t 11, kk 0]]) (.cond (.t 12) c_leaf_Join_p1 .skip))
abbrev c_leaf_Join_p3 : VC := (.seq (.ops 0 [oo 18 (.ldA 3) [.t 7], ⟨none, none, (.st 3), [.t 4, .t 18], none⟩, oo 5 .mv [kk 0]]) .ret)
abbrev c_leaf_Join_p4 : VC := (.seq (.ops 5 [oo 15 (.ldA 3) [.t 2], oo 16 (.ldA 3) [.t 3], oo 17 (.call 89) [.t 15, .t 16, (.c (.fn 116 [])), (.c (.fn 119 []))], ⟨(some 7), none, (.alloc 28 [(.sl 0 [] .exact), (.sl 0 [] .exact), (.sl 0 [] .exact)]), [], none⟩, ⟨none, none, (.st 3), [.t 7, .t 17], none⟩]) c_leaf_Join_p3)
abbrev c_leaf_Join_p5 : VC := (.seq (.seq (.ops 0 [oo 8 (.ldA 3) [.t 2], oo 9 (.ldA 3) [.t 3], oo 10 (.call 87) [.t 8, .t 9], oo 6 .mv [.t 10]]) c_leaf_Join_p2) c_leaf_Join_p4)
def c_leaf_Join : VC := (.seq (.ops 4 [oo 2 (.box 28) [.t 0], oo 3 (.box 28) [.t 1], ⟨(some 4), none, (.alloc 28 [(.sl 0 [] .exact), (.sl 0 [] .exact), (.sl 0 [] .exact)]), [], none⟩, oo 5 .mv [kk 0]]) c_leaf_Join_p5)
theorem k_leaf_Join : Comp Tryz.prog nobx gtab 51 19 c_leaf_Join [(.c 4 3 true), .t 5] := ⟨⟨Tryz.f51, _, Tryz.func51, rfl, rfl, kr, kr⟩⟩
abbrev c_leaf_Join_1_p1 : VC := (.seq (.ops 0 [oo 5 .mv [.t 0], oo 6 .mv [.t 1], oo 7 (.call 117) [.t 5, .t 6, (.c (.fn 118 []))], oo 4 .mv [.t 7]]) .ret)
def c_leaf_Join_1 : VC := (.seq (.ops 0 [oo 4 .mv [(.c (.sl 0 [] .exact))]]) c_leaf_Join_1_p1)
theorem k_leaf_Join_1 : Comp Tryz.prog nobx gtab 116 8 c_leaf_Join_1 [.t 4] := ⟨⟨Tryz.f116, _, Tryz.func116, rfl, rfl, kr, kr⟩⟩
abbrev c_leaf_Join_2_p1 : VC := (.seq (.ops 0 [oo 5 .mv [.t 0], oo 6 .mv [.t 1], oo 7 (.call 120) [.t 5, .t 6, (.c (.fn 121 []))], oo 4 .mv [.t 7]]) .ret)
def c_leaf_Join_2 : VC := (.seq (.ops 0 [oo 4 .mv [(.c (.sl 0 [] .exact))]]) c_leaf_Join_2_p1)
theorem k_leaf_Join_2 : Comp Tryz.prog nobx gtab 119 8 c_leaf_Join_2 [.t 4] := ⟨⟨Tryz.f119, _, Tryz.func119, rfl, rfl, kr, kr⟩⟩
abbrev c_theorbolaw10_LeafMeets_p1 : VC := (.seq (.ops 0 [oo 4 .mv [(.c (.lit (.bool false)))]]) .ret)
abbrev c_theorbolaw10_LeafMeets_p2 : VC := (.seq (.ops 0 [oo 4 .mv [(.c (.lit (.bool false)))]]) .ret)
abbrev c_theorbolaw10_LeafMeets_p3 : VC := (.seq (.ops 0 [oo 64 .mv [.t 6], oo 65 .mv [.t 8], oo 66 (.bin .eql) [.t 64, .t 65], oo 67 .mv [.t 66], og 68 67 true (.ldA 3) [.t 9], og 69 67 true (.ldA 3) [.t 10], og 70 67 true (.call 22) [.t 68, .t 69], oo 71 .pick [.t 67, .t 70, (.c (.lit (.bool false)))], oo 72 .mv [.t 71], og 73 72 true (.call 19) [], oo 74 .pick [.t 72, .t 73, (.c (.lit (.bool false)))], oo 4 .mv [.t 74]]) .ret)
abbrev c_theorbolaw10_LeafMeets_p4 : VC := (.seq (.ops 0 [oo 59 (.ldA 3) [.t 2], oo 60 (.ldA 3) [.t 3], oo 61 (.call 52) [.t 59, .t 60], oo 58 .mv [.t 61], oo 62 (.ext 0) [.t 58], oo 63 (.ext 1) [.t 58], ⟨none, none, (.st 3), [.t 10, .t 62], none⟩, oo 8 .mv [.t 63]]) c_theorbolaw10_LeafMeets_p3)
abbrev c_theorbolaw10_LeafMeets_p5 : VC := (.seq (.ops 0 [oo 53 (.ldA 3) [.t 2], oo 54 (.ldA 3) [.t 3], oo 55 (.call 51) [.t 53, .t 54], oo 52 .mv [.t 55], oo 56 (.ext 0) [.t 52], oo 57 (.ext 1) [.t 52], ⟨none, none, (.st 3), [.t 9, .t 56], none⟩, oo 6 .mv [.t 57]]) c_theorbolaw10_LeafMeets_p4)
abbrev c_theorbolaw10_LeafMeets_p6 : VC := (.seq (.seq (.ops 0 [oo 43 .mv [.t 6], oo 44 .mv [.t 8], oo 45 (.bin .neq) [.t 43, .t 44], oo 46 .mv [.t 45], og 47 46 false (.ldA 3) [.t 9], og 48 46 false (.ldA 3) [.t 10], og 49 46 false (.call 22) [.t 47, .t 48], og 50 46 false (.un .not) [.t 49], oo 51 .pick [.t 46, (.c (.lit (.bool true))), .t 50]]) (.cond (.t 51) c_theorbolaw10_LeafMeets_p2 .skip)) c_theorbolaw10_LeafMeets_p5)
abbrev c_theorbolaw10_LeafMeets_p7 : VC := (.seq (.ops 9 [oo 38 (.ldA 3) [.t 2], oo 39 (.ldA 3) [.t 3], oo 40 (.call 50) [.t 38, .t 39], oo 37 .mv [.t 40], oo 41 (.ext 0) [.t 37], oo 42 (.ext 1) [.t 37], ⟨(some 10), none, (.alloc 28 [(.sl 0 [] .exact), (.sl 0 [] .exact), (.sl 0 [] .exact)]), [], none⟩, ⟨none, none, (.st 3), [.t 10, .t 41], none⟩, oo 8 .mv [.t 42]]) c_theorbolaw10_LeafMeets_p6)
abbrev c_theorbolaw10_LeafMeets_p8 : VC := (.seq (.ops 9 [oo 32 (.ldA 3) [.t 2], oo 33 (.ldA 3) [.t 3], oo 34 (.call 38) [.t 32, .t 33], oo 31 .mv [.t 34], oo 35 (.ext 0) [.t 31], oo 36 (.ext 1) [.t 31], ⟨(some 9), none, (.alloc 28 [(.sl 0 [] .exact), (.sl 0 [] .exact), (.sl 0 [] .exact)]), [], none⟩, ⟨none, none, (.st 3), [.t 9, .t 35], none⟩, oo 6 .mv [.t 36]]) c_theorbolaw10_LeafMeets_p7)
abbrev c_theorbolaw10_LeafMeets_p9 : VC := (.seq (.seq (.ops 0 [oo 23 .mv [.t 5], oo 24 .mv [.t 7], oo 25 (.eqB true) [.t 23, .t 24], oo 26 .mv [.t 25], og 27 26 false .mv [.t 6], og 28 26 false .mv [.t 8], og 29 26 false (.bin .neq) [.t 27, .t 28], oo 30 .pick [.t 26, (.c (.lit (.bool true))), .t 29]]) (.cond (.t 30) c_theorbolaw10_LeafMeets_p1 .skip)) c_theorbolaw10_LeafMeets_p8)
abbrev c_theorbolaw10_LeafMeets_p10 : VC := (.seq (.ops 0 [oo 18 (.ldA 3) [.t 2], oo 19 (.ldA 3) [.t 3], oo 20 (.call 49) [.t 18, .t 19], oo 17 .mv [.t 20], oo 21 (.ext 0) [.t 17], oo 22 (.ext 1) [.t 17], oo 7 .mv [.t 21], oo 8 .mv [.t 22]]) c_theorbolaw10_LeafMeets_p9)
abbrev c_theorbolaw10_LeafMeets_p11 : VC := (.seq (.ops 0 [oo 12 (.ldA 3) [.t 2], oo 13 (.ldA 3) [.t 3], oo 14 (.call 36) [.t 12, .t 13], oo 11 .mv [.t 14], oo 15 (.ext 0) [.t 11], oo 16 (.ext 1) [.t 11], oo 5 .mv [.t 15], oo 6 .mv [.t 16]]) c_theorbolaw10_LeafMeets_p10)
def c_theorbolaw10_LeafMeets : VC := (.seq (.ops 3 [oo 2 (.box 28) [.t 0], oo 3 (.box 28) [.t 1], oo 4 .mv [(.c (.lit (.bool false)))]]) c_theorbolaw10_LeafMeets_p11)
theorem k_theorbolaw10_LeafMeets : Comp Tryz.prog nobx gtab 12 75 c_theorbolaw10_LeafMeets [.t 4] := ⟨⟨Tryz.f12, _, Tryz.func12, rfl, rfl, kr, kr⟩⟩
end Go.Proofs.YtdefefeifcdogaaGreat
namespace Go.Proofs.YtdefefeifcdogaaGreat
open Go.RowKit
set_option linter.unusedSimpArgs false
set_option linter.unusedVariables false

theorem take_any {α : Type} [Inhabited α] (p : α → Bool) {l : List α} {k : Nat} (h : k < l.length) : (l.take (k + 1)).any p = ((l.take k).any p || p (l.getD k default)) := by
  rw [List.take_add_one, List.getElem?_eq_getElem h, List.any_append, List.getD_eq_getElem?_getD, List.getElem?_eq_getElem h]
  show (_ || [l[k]].any p) = _
  simp
set_option maxHeartbeats 2000000 in
theorem rmeet_fn (f g : Lf) (hf : LfSm f) (hg : LfSm g) (MX : twoE f g = 0 → Fn Tryz.prog Gd 69 [f.val, g.val, vbool true] (cmbL meetS meetI f g).val) : Fn Tryz.prog Gd 50 [f.val, g.val] (.tup [(metR f g).1.val, vint (metR f g).2]) := by
  refine Fn.of_vx0 k_theorboref10_Meet (by simp) (by rw [V.pures, pure_lf, V.pures, pure_lf]; rfl) ?_
  have A := rtwo_fn f g hf hg
  unfold c_theorboref10_Meet
  by_cases h0 : twoE f g = 0
  case neg =>
    have c1 : (twoE f g == 0) = false := by rw [beq_eq_false_iff_ne]; exact h0
    rw [show metR f g = (noL, twoE f g) from if_pos h0]
    clear h0 hf hg MX
    generalize twoE f g = e at *
    obtain ⟨⟨fc, fst⟩, fl⟩ := f
    obtain ⟨⟨gc, gst⟩, gl⟩ := g
    repeat' (with_reducible first | refine x_ops ?_ | refine wk ?_ | (with_reducible refine xc (A) ?_) | ((first | refine gd1 ?_ ?_ | refine gd2 ?_ ?_ | refine gd3 ?_ ?_) <;> (first | exact @False.elim _ | intro hc)))
    refine finV_ret vv ?_
    exact .tup (.cons (.agg (.cons (.sl _ _ _) (.cons (.sl _ _ _) (.cons (.sl _ _ _) .nil)))) (.cons (.lit _) .nil))
  have ok := TwoOk.of hf hg h0
  have CB := MX h0
  have hml := cmbL_len meetS meetI f g
  have hce : ∀ i, i < f.cols.length → ((cmbL meetS meetI f g).cols.getD i default).ce.length ≤ 14 := fun i hi => by
    rw [cmbL_at _ _ _ _ hi]
    show (ceK _ _ _ _).length ≤ 14
    rw [ceK_len]; exact (ok.l i hi).1
  rw [show metR f g = if (cmbL meetS meetI f g).cols.any emC = true then (noL, 102) else (cmbL meetS meetI f g, 0) from by rw [metR, if_neg (by omega)]]
  rw [h0] at A
  have okn := ok.n
  clear h0 hf hg ok MX
  generalize cmbL meetS meetI f g = m at *
  rw [← hml] at hce okn
  clear hml
  have hbad : ∀ k, k < m.cols.length → emC (m.cols.getD k default) = true → V.tup [(if m.cols.any emC = true then (noL, 102) else (m, 0) : Lf × Int).1.val, vint (if m.cols.any emC = true then (noL, 102) else (m, 0) : Lf × Int).2] = .tup [.agg [.sl 0 [] .no, .sl 0 [] .no, .sl 0 [] .no], vint 102] := fun k hk h => by rw [if_pos (any_at hk h)]; rfl
  have hok : (∀ i, i < m.cols.length → emC (m.cols.getD i default) = false) → V.tup [(if m.cols.any emC = true then (noL, 102) else (m, 0) : Lf × Int).1.val, vint (if m.cols.any emC = true then (noL, 102) else (m, 0) : Lf × Int).2] = .tup [m.val, vint 0] := fun h => by rw [if_neg (by rw [any_none h]; decide)]
  generalize V.tup [(if m.cols.any emC = true then (noL, 102) else (m, 0) : Lf × Int).1.val, vint (if m.cols.any emC = true then (noL, 102) else (m, 0) : Lf × Int).2] = RV at *
  obtain ⟨⟨fc, fst⟩, fl⟩ := f
  obtain ⟨⟨gc, gst⟩, gl⟩ := g
  obtain ⟨⟨mc, mst⟩, ml⟩ := m
  dsimp only at hce okn hbad hok
  replace hce := Hid.mk hce
  replace hbad := Hid.mk hbad
  replace hok := Hid.mk hok
  repeat' (with_reducible first | refine x_ops ?_ | refine wk ?_ | (with_reducible refine xc (A) ?_) | (with_reducible refine xc (CB) ?_) | ((first | refine gd1 ?_ ?_ | refine gd2 ?_ ?_ | refine gd3 ?_ ?_) <;> (first | exact @False.elim _ | intro hc)))
  clear A CB
  refine x_loopF w_theorboref10_Meet_p12 kr ml.length (fun k t => t 8 = vint k ∧ ∀ i, i < k → emC (ml.getD i default) = false) ?_ ?_
  · exact ⟨vv, fun i h => by omega⟩
  rintro k t hk ⟨h8, hI⟩
  replace hI := Hid.mk hI
  by_cases hlt : k < ml.length
  case neg =>
    have c1 : ¬ (k : Int) < (ml.length : Int) := by omega
    have hR := hok.out fun i hi => hI.out i (by omega)
    rw [hR]
    clear hlt hk hR
    repeat' (with_reducible first | refine x_ops ?_ | refine wk ?_ | ((first | refine gd1 ?_ ?_ | refine gd2 ?_ ?_ | refine gd3 ?_ ?_) <;> (first | exact @False.elim _ | intro hc)))
    refine finV_ret vv ?_
    exact .tup (.cons (.agg (.cons (.sl _ _ _) (.cons (.sl _ _ _) (.cons (.sl _ _ _) .nil)))) (.cons (.lit _) .nil))
  have p2 := clm_at2 (l := ml) (k := k) hlt
  have p3 := clm_at3 (l := ml) (k := k) hlt
  have g2 := clms_len ml
  have c1 : (k : Int) < (ml.length : Int) := by omega
  have c3 : k * 4 + 4 ≤ ml.length * 4 := by omega
  have w1 := w_add1 (k := k) (by omega)
  have hb1 := hbad.out k hlt
  have hg1 : emC (ml.getD k default) = false → ∀ i, i < k + 1 → emC (ml.getD i default) = false := fun h i hi => by
    by_cases e : i = k
    · subst e; exact h
    · exact hI.out i (by omega)
  have hck := hce.out k hlt
  have hlt0 := Hid.mk hlt
  generalize ml.getD k default = x at *
  obtain ⟨xb, xt, xs, xe⟩ := x
  replace hck : xe.length ≤ 14 := hck
  replace hb1 := Hid.mk hb1
  replace hg1 := Hid.mk hg1
  have hz : ((xs.length : Int) == 0) = decide (xs.length = 0) := by rw [Bool.eq_iff_iff, beq_iff_eq, decide_eq_true_iff]; omega
  have he : emC ⟨xb, xt, xs, xe⟩ = (decide (xs.length = 0) || xe.any emI) := rfl
  generalize decide (xs.length = 0) = z at *
  replace he := Hid.mk he
  clear hlt hk
  repeat' (with_reducible first | refine x_ops ?_ | refine wk ?_ | ((first | refine gd1 ?_ ?_ | refine gd2 ?_ ?_ | refine gd3 ?_ ?_) <;> (first | exact @False.elim _ | intro hc)))
  clear hz p2
  refine x_loopF w_theorboref10_Meet_p5 kr xe.length (fun j t => t 10 = vint j ∧ t 9 = vbool (z || (xe.take j).any emI)) ?_ ?_
  · exact ⟨vv, by rw [List.take_zero, List.any_nil, Bool.or_false]; exact vv⟩
  rintro j t1 hj ⟨h10, h9⟩
  by_cases hlt2 : j < xe.length
  case pos =>
    have g5 := iss_at (l := xe) (k := j) hlt2
    have d1 : (j : Int) < (xe.length : Int) := by omega
    have w2 := w_add1 (k := j) (by omega)
    have ht := take_any emI hlt2
    have hem : (((xe.getD j []).length : Int) == 0) = emI (xe.getD j default) := by
      show _ = decide ((xe.getD j []).length = 0)
      rw [Bool.eq_iff_iff, beq_iff_eq, decide_eq_true_iff]; omega
    have hlt20 := Hid.mk hlt2
    generalize emI (xe.getD j default) = q at *
    generalize xe.getD j [] = y at *
    generalize hT : (xe.take (j + 1)).any emI = T9 at *
    generalize (xe.take j).any emI = T8 at *
    replace hT := Hid.mk hT
    replace ht := Hid.mk ht
    clear hlt2 hj
    cases hb : (z || T8) with
    | true =>
      rw [hb] at h9
      have hb0 := Hid.mk hb
      clear hb
      repeat' (with_reducible first | refine x_ops ?_ | refine wk ?_ | ((first | refine gd1 ?_ ?_ | refine gd2 ?_ ?_ | refine gd3 ?_ ?_) <;> (first | exact @False.elim _ | intro hc)))
      refine nf hlt20.out ⟨vv, ?_⟩ rfl
      rw [hT.out, ht.out, ← Bool.or_assoc, hb0.out]; exact vv
    | false =>
      rw [hb] at h9
      have hb0 := Hid.mk hb
      clear hb
      repeat' (with_reducible first | refine x_ops ?_ | refine wk ?_ | ((first | refine gd1 ?_ ?_ | refine gd2 ?_ ?_ | refine gd3 ?_ ?_) <;> (first | exact @False.elim _ | intro hc)))
      refine nf hlt20.out ⟨vv, ?_⟩ rfl
      rw [hT.out, ht.out, ← Bool.or_assoc, hb0.out]; exact vv
  have d1 : ¬ (j : Int) < (xe.length : Int) := by omega
  have hjl : j = xe.length := by omega
  subst hjl
  rw [List.take_length, ← he.out] at h9
  clear hlt2 hj
  cases hz : emC ⟨xb, xt, xs, xe⟩ with
  | true =>
    rw [hb1.out hz]
    rw [hz] at h9
    clear hz
    repeat' (with_reducible first | refine x_ops ?_ | refine wk ?_ | ((first | refine gd1 ?_ ?_ | refine gd2 ?_ ?_ | refine gd3 ?_ ?_) <;> (first | exact @False.elim _ | intro hc)))
    refine finV_ret vv ?_
    exact .tup (.cons (.agg (.cons (.sl _ _ _) (.cons (.sl _ _ _) (.cons (.sl _ _ _) .nil)))) (.cons (.lit _) .nil))
  | false =>
    have hg2 := Hid.mk (hg1.out hz)
    rw [hz] at h9
    clear hz
    repeat' (with_reducible first | refine x_ops ?_ | refine wk ?_ | ((first | refine gd1 ?_ ?_ | refine gd2 ?_ ?_ | refine gd3 ?_ ?_) <;> (first | exact @False.elim _ | intro hc)))
    exact nf hlt0.out ⟨vv, hg2.out⟩ rfl
end Go.Proofs.YtdefefeifcdogaaGreat
namespace Go.Proofs.YtdefefeifcdogaaGreat
open Go.RowKit
set_option linter.unusedSimpArgs false
set_option linter.unusedVariables false

/-- What Join answers. -/
noncomputable def joiR (S : List Sg → List Sg → List Sg) (C : List Int → List Int → List Int) (f g : Lf) : Lf × Int := if twoE f g ≠ 0 then (noL, twoE f g) else (cmbL S C f g, 0)
set_option maxHeartbeats 1000000 in
theorem join_fn (f g : Lf) (hf : LfSm f) (hg : LfSm g) (S : List Sg → List Sg → List Sg) (C : List Int → List Int → List Int)
    (hS : twoE f g = 0 → ∀ i, i < f.cols.length → Fn Tryz.prog Gd 116 [tL Sg.cells (f.cols.getD i default).sgs, tL Sg.cells (g.cols.getD i default).sgs] (tL Sg.cells (S (f.cols.getD i default).sgs (g.cols.getD i default).sgs)))
    (hC : twoE f g = 0 → ∀ i j, i < f.cols.length → j < (f.cols.getD i default).ce.length → Fn Tryz.prog Gd 119 [tIs ((f.cols.getD i default).ce.getD j []), tIs ((g.cols.getD i default).ce.getD j [])] (tIs (C ((f.cols.getD i default).ce.getD j []) ((g.cols.getD i default).ce.getD j [])))) :
    Fn Tryz.prog Gd 51 [f.val, g.val] (.tup [(joiR S C f g).1.val, vint (joiR S C f g).2]) := by
  refine Fn.of_vx0 k_leaf_Join (by simp) (by rw [V.pures, pure_lf, V.pures, pure_lf]; rfl) ?_
  have A := both_fn f g hf hg
  unfold c_leaf_Join
  by_cases h0 : twoE f g = 0
  case neg =>
    have c1 : (twoE f g == 0) = false := by rw [beq_eq_false_iff_ne]; exact h0
    rw [show joiR S C f g = (noL, twoE f g) from if_pos h0]
    clear h0 hf hg hS hC
    generalize twoE f g = e at *
    obtain ⟨⟨fc, fst⟩, fl⟩ := f
    obtain ⟨⟨gc, gst⟩, gl⟩ := g
    repeat' (with_reducible first | refine x_ops ?_ | refine wk ?_ | (with_reducible refine xc (A) ?_) | ((first | refine gd1 ?_ ?_ | refine gd2 ?_ ?_ | refine gd3 ?_ ?_) <;> (first | exact @False.elim _ | intro hc)))
    refine finV_ret vv ?_
    exact .tup (.cons (.agg (.cons (.sl _ _ _) (.cons (.sl _ _ _) (.cons (.sl _ _ _) .nil)))) (.cons (.lit _) .nil))
  have ok := TwoOk.of hf hg h0
  have CB := combine_fn f g S C (f1 := 116) (f2 := 119) kr kr ok.n ok.w ok.c ok.s (hS h0) (hC h0) ok.l
  rw [show joiR S C f g = (cmbL S C f g, 0) from by rw [joiR, if_neg (by omega)]]
  rw [h0] at A
  clear h0 hf hg ok hS hC
  generalize cmbL S C f g = m at *
  obtain ⟨⟨fc, fst⟩, fl⟩ := f
  obtain ⟨⟨gc, gst⟩, gl⟩ := g
  obtain ⟨⟨mc, mst⟩, ml⟩ := m
  repeat' (with_reducible first | refine x_ops ?_ | refine wk ?_ | (with_reducible refine xc (A) ?_) | (with_reducible refine xc (CB) ?_) | ((first | refine gd1 ?_ ?_ | refine gd2 ?_ ?_ | refine gd3 ?_ ?_) <;> (first | exact @False.elim _ | intro hc)))
  refine finV_ret vv ?_
  exact .tup (.cons (.agg (.cons (.sl _ _ _) (.cons (.sl _ _ _) (.cons (.sl _ _ _) .nil)))) (.cons (.lit _) .nil))
theorem rjoin_fn (f g : Lf) (hf : LfSm f) (hg : LfSm g) (S : List Sg → List Sg → List Sg) (C : List Int → List Int → List Int) (MX : twoE f g = 0 → Fn Tryz.prog Gd 69 [f.val, g.val, vbool false] (cmbL S C f g).val) :
    Fn Tryz.prog Gd 52 [f.val, g.val] (.tup [(joiR S C f g).1.val, vint (joiR S C f g).2]) := by
  refine Fn.of_vx0 k_theorboref10_Join (by simp) (by rw [V.pures, pure_lf, V.pures, pure_lf]; rfl) ?_
  have A := rtwo_fn f g hf hg
  unfold c_theorboref10_Join
  by_cases h0 : twoE f g = 0
  case neg =>
    have c1 : (twoE f g == 0) = false := by rw [beq_eq_false_iff_ne]; exact h0
    rw [show joiR S C f g = (noL, twoE f g) from if_pos h0]
    clear h0 hf hg MX
    generalize twoE f g = e at *
    obtain ⟨⟨fc, fst⟩, fl⟩ := f
    obtain ⟨⟨gc, gst⟩, gl⟩ := g
    repeat' (with_reducible first | refine x_ops ?_ | refine wk ?_ | (with_reducible refine xc (A) ?_) | ((first | refine gd1 ?_ ?_ | refine gd2 ?_ ?_ | refine gd3 ?_ ?_) <;> (first | exact @False.elim _ | intro hc)))
    refine finV_ret vv ?_
    exact .tup (.cons (.agg (.cons (.sl _ _ _) (.cons (.sl _ _ _) (.cons (.sl _ _ _) .nil)))) (.cons (.lit _) .nil))
  have CB := MX h0
  rw [show joiR S C f g = (cmbL S C f g, 0) from by rw [joiR, if_neg (by omega)]]
  rw [h0] at A
  clear h0 hf hg MX
  generalize cmbL S C f g = m at *
  obtain ⟨⟨fc, fst⟩, fl⟩ := f
  obtain ⟨⟨gc, gst⟩, gl⟩ := g
  obtain ⟨⟨mc, mst⟩, ml⟩ := m
  repeat' (with_reducible first | refine x_ops ?_ | refine wk ?_ | (with_reducible refine xc (A) ?_) | (with_reducible refine xc (CB) ?_) | ((first | refine gd1 ?_ ?_ | refine gd2 ?_ ?_ | refine gd3 ?_ ?_) <;> (first | exact @False.elim _ | intro hc)))
  refine finV_ret vv ?_
  exact .tup (.cons (.agg (.cons (.sl _ _ _) (.cons (.sl _ _ _) (.cons (.sl _ _ _) .nil)))) (.cons (.lit _) .nil))
end Go.Proofs.YtdefefeifcdogaaGreat
namespace Go.Proofs.YtdefefeifcdogaaGreat
open Go.RowKit
set_option linter.unusedSimpArgs false
set_option linter.unusedVariables false

/-- A store into a row beside which loads may stand. -/
theorem x_stL {P : Program} {G : Ground} {base i : Nat} {d : Option Nat} {xs : List Opd} {l : List VI} {s : St} {K : St → Prop} {q o n : Nat} {v : V} {ps cs : List V} {t : TypeId} (hv : xs.map s.ev = .ptr q o :: v :: ps) (hps : ps.all (offS q) = true) (ho : s.m.obj q = some (.box cs t)) (h1 : v.cells.length = n) (h2 : v.cells.all V.one = true) (h3 : o + n ≤ cs.length)
    (h : goR P G base (some ⟨putT s.t d vund, s.m.put q (.box (splice cs o v.cells) t)⟩) l (i + 1) K) : vrun P G base i (⟨d, none, .stL n, xs, none⟩ :: l) s K := by
  rw [vrun]
  unfold vstep VI.on
  simp only [if_true, sem, hv, ho]
  exact ⟨hps, ⟨h1, h2, h3⟩, goR_vrun l (i + 1) _ h⟩
section
variable {α : Type} [Inhabited α]
theorem stI_get (L : List α) (x : α) {j : Nat} (hj : j ≤ L.length) : (stI L x j).getD j default = x := by
  have hl : (L.take j).length = j := by rw [List.length_take]; omega
  rw [List.getD_eq_getElem?_getD, stI, List.getElem?_append_right (by omega), hl, Nat.sub_self]; rfl
theorem stI_left (L : List α) (x : α) {i j : Nat} (hj : j ≤ L.length) (hi : i < j) : (stI L x j).getD i default = L.getD i default := by
  have hl : (L.take j).length = j := by rw [List.length_take]; omega
  rw [List.getD_eq_getElem?_getD, stI, List.getElem?_append_left (by omega), List.getElem?_take, if_pos hi, List.getD_eq_getElem?_getD]
end
/-- The sign has found its place. -/
def M3 (L : List Sg) (x : Sg) (qi : Nat) (m m' : Mm) : Prop := ∃ j, (j ≤ L.length ∧ (j = 0 ∨ befS x (L.getD (j - 1) default) = false) ∧ ∀ i, j ≤ i → i < L.length → befS x (L.getD i default) = true) ∧ m'.obj qi = some (.box ((stI L x j).flatMap Sg.cells) 110) ∧ (∀ q, q < m.next → q ≠ qi → m'.obj q = m.obj q) ∧ m.next ≤ m'.next
set_option maxHeartbeats 2000000 in
theorem mix3_vx {t : Nat → V} {m : Mm} {cx qi : Nat} {a0 a1 a3 : V} (L : List Sg) (x : Sg) (h11 : t 11 = .ptr cx 0) (h16 : t 16 = vint (L.length : Int)) (hc : m.obj cx = some (.box [a0, a1, .gsl qi (L.length + 1) 3, a3] 84))
    (hq : m.obj qi = some (.box ((stI L x L.length).flatMap Sg.cells) 110)) (hne : cx ≠ qi) (hcn : cx < m.next) (hqn : qi < m.next) (hl : L.length ≤ 1000) :
    (VC.loop c_theorboref10_mixed_b_p3).vx Tryz.prog Gd (fun e s' => e = .exit 4 ∧ M3 L x qi m s'.m) ⟨t, m⟩ := by
  have hl0 := Hid.mk hl
  have hc0 := Hid.mk hc
  have hne0 := Hid.mk hne
  have hcn0 := Hid.mk hcn
  have hqn0 := Hid.mk hqn
  clear hl hc hcn hqn
  refine x_loopW w_theorboref10_mixed_b_p3 kr L.length (fun u t' m' => (t' 16 = vint ((L.length - u : Nat) : Int) ∧ ∀ i, L.length - u ≤ i → i < L.length → befS x (L.getD i default) = true) ∧ m'.obj qi = some (.box ((stI L x (L.length - u)).flatMap Sg.cells) 110) ∧ (∀ q, q < m.next → q ≠ qi → m'.obj q = m.obj q) ∧ m.next ≤ m'.next) ?_ ?_
  · exact ⟨⟨h16, fun i h1 h2 => by omega⟩, hq, fun _ _ _ => rfl, Nat.le_refl _⟩
  clear hq h16
  rintro u t1 m1 hu ⟨⟨h16, hI⟩, hq1, hfr, hnx⟩
  have hc1 : m1.obj cx = some (.box [a0, a1, .gsl qi (L.length + 1) 3, a3] 84) := (hfr cx hcn0.out hne0.out).trans hc0.out
  have n1 : cx < m1.next := by have := hcn0.out; omega
  have n2 : qi < m1.next := by have := hqn0.out; omega
  have hfr0 := Hid.mk hfr
  have hnx0 := Hid.mk hnx
  have hI0 := Hid.mk hI
  by_cases hj : L.length - u = 0
  · have c1 : ¬ (0 : Int) < ((L.length - u : Nat) : Int) := by omega
    have hfin : M3 L x qi m m1 := ⟨L.length - u, ⟨by omega, .inl hj, hI⟩, hq1, hfr, hnx⟩
    replace hfin := Hid.mk hfin
    clear hj hu hI hfr hnx
    repeat' (with_reducible first | refine x_ops ?_ | refine wk ?_ | ((first | refine gd1 ?_ ?_ | refine gd2 ?_ ?_ | refine gd3 ?_ ?_) <;> (first | exact @False.elim _ | intro hc)))
    first
      | exact hfin.out
      | exact ⟨rfl, hfin.out⟩
  obtain ⟨j, hj1⟩ : ∃ j, L.length - u = j + 1 := ⟨L.length - u - 1, by omega⟩
  rw [hj1] at h16 hq1 hI0 hI
  have hjl : j + 1 ≤ L.length := by omega
  have hgx := stI_get L x hjl
  have hgl := stI_left L x (i := j) hjl (by omega)
  have hlen := stI_len L x (j + 1)
  have g1 := sg_take (l := stI L x (j + 1)) (k := j + 1) (by omega)
  have g2 := sg_take (l := stI L x (j + 1)) (k := j) (by omega)
  have g3 := sgs_len (stI L x (j + 1))
  rw [hgx] at g1
  rw [hgl] at g2
  rw [hlen] at g3
  have c1 : (0 : Int) < ((j + 1 : Nat) : Int) := by omega
  have c2 : ((j + 1 : Nat) : Int) < ((L.length + 1 : Nat) : Int) := by omega
  have c3 : (j : Int) < ((L.length + 1 : Nat) : Int) := by omega
  have c4 : (j + 1) * 3 + 3 ≤ (L.length + 1) * 3 := by omega
  have c5 : j * 3 + 3 ≤ (L.length + 1) * 3 := by omega
  have c6 : j + 1 < L.length + 1 := by omega
  have c7 : j < L.length + 1 := by omega
  have w1 : IntKind.i64.wrap (((j + 1 : Nat) : Int) - 1) = (j : Int) := by rw [IntWalk.i64_in _ (by have := hl0.out; omega)]; omega
  have B := before_fn x (L.getD j default)
  have hs1 := splice_set sg_len (stI L x (j + 1)) (j + 1) (L.getD j default) (by omega)
  have hs2 := splice_set sg_len ((stI L x (j + 1)).set (j + 1) (L.getD j default)) j x (by rw [List.length_set]; omega)
  rw [stI_swap hjl] at hs2
  have g4 := sgs_len ((stI L x (j + 1)).set (j + 1) (L.getD j default))
  rw [List.length_set, hlen] at g4
  have hu1 : u < L.length := by omega
  have hu0 := Hid.mk hu1
  have hj0 := Hid.mk hj1
  have hjl0 := Hid.mk hjl
  have hnxt : befS x (L.getD j default) = true → ∀ i, j ≤ i → i < L.length → befS x (L.getD i default) = true := fun h i h1 h2 => by
    by_cases e : i = j
    · rw [e]; exact h
    · exact hI i (by omega) h2
  have hend : befS x (L.getD j default) = false → M3 L x qi m m1 := fun h => ⟨j + 1, ⟨hjl, .inr h, hI⟩, hq1, hfr, hnx⟩
  replace hnxt := Hid.mk hnxt
  replace hend := Hid.mk hend
  have hne1 : (cx != qi) = true := by rw [bne_iff_ne]; exact hne0.out
  have hne2 : ¬ qi = cx := fun e => hne0.out e.symm
  generalize L.getD j default = y at *
  generalize stI L x (j + 1) = D at *
  generalize hD2 : D.set (j + 1) y = D2 at *
  clear hgx hgl hlen hj hu hI hfr hnx hu1 hj1 hjl hD2
  by_cases hb : befS x y = true
  case neg =>
    have hb1 : befS x y = false := by rw [Bool.eq_false_iff]; exact hb
    rw [hb1] at B
    have hfin := Hid.mk (hend.out hb1)
    clear hb hb1 hend hnxt hs1 hs2
    obtain ⟨v, d, tt⟩ := x
    obtain ⟨v', d', t'⟩ := y
    dsimp only at g1 g2
    repeat' (with_reducible first | refine x_ops ?_ | refine wk ?_ | (with_reducible refine xc (B) ?_) | ((first | refine gd1 ?_ ?_ | refine gd2 ?_ ?_ | refine gd3 ?_ ?_) <;> (first | exact @False.elim _ | intro hc)))
    first
      | exact hfin.out
      | exact ⟨rfl, hfin.out⟩
  rw [hb] at B
  have hn1 := Hid.mk (hnxt.out hb)
  clear hb hend hnxt
  obtain ⟨v, d, tt⟩ := x
  obtain ⟨v', d', t'⟩ := y
  dsimp only at g1 g2
  replace hs1 := Hid.mk hs1
  replace hs2 := Hid.mk hs2
  repeat' (with_reducible first | refine x_ops ?_ | refine wk ?_ | (with_reducible refine xc (B) ?_) | ((first | refine gd1 ?_ ?_ | refine gd2 ?_ ?_ | refine gd3 ?_ ?_) <;> (first | exact @False.elim _ | intro hc)))
  refine x_stL (q := qi) (o := (j + 1) * 3) (v := .agg [V.lit (.int .i64 v'), V.lit (.bool d'), V.lit (.bool t')]) (ps := [.ptr cx 0]) (cs := D.flatMap Sg.cells) (t := 110) vw (by simp only [List.all_cons, List.all_nil, offS, hne1, Bool.and_true]) (by simpa using hq1) rfl rfl (by omega) ?_
  rw [show splice (D.flatMap Sg.cells) ((j + 1) * 3) (V.agg [V.lit (.int .i64 v'), V.lit (.bool d'), V.lit (.bool t')]).cells = D2.flatMap Sg.cells from hs1.out]
  clear g1 g2 g3 hq1
  repeat' (with_reducible first | refine x_ops ?_ | refine wk ?_ | ((first | refine gd1 ?_ ?_ | refine gd2 ?_ ?_ | refine gd3 ?_ ?_) <;> (first | exact @False.elim _ | intro hc)))
  have ej : L.length - (u + 1) = j := by have := hj0.out; omega
  refine nx hu0.out ⟨⟨?_, ?_⟩, ?_, fun q hq hqc => ?_, ?_⟩
  · rw [ej]; exact vv
  · rw [ej]; exact hn1.out
  · rw [ej, ← hs2.out]
    simp only [put_obj]
    exact (if_pos trivial).trans rfl
  · simp only [put_obj]
    rw [if_neg hqc]
    have := hfr0.out q hq hqc
    first
      | exact this
      | (rw [if_neg hqc]; exact this)
  · exact hnx0.out
end Go.Proofs.YtdefefeifcdogaaGreat
namespace Go.Proofs.YtdefefeifcdogaaGreat
open Go.Shelf Go.RowKit

/-- An append where there is room. -/
theorem wpList_room {P : Program} (w : World) {ops : Array Oper} {rest : List Oper} {o : Oper} {a : Act} {Q : Exit → Act → World → Prop}
    (hg : o.guard = none) (s x : Operand) (t : TypeId) (hop : o.op = Op.call { callee := Callee.builtin Builtin.append, args := #[s, x], argTypes := #[t, t] })
    (e : TypeId) (i : TypeInfo) (size : Nat) (h1 : P.underlying t = some (.slice e)) (h2 : P.info? e = some i) (h4 : i.size = size)
    (b off n cap : Nat) (hs : a.eval s = .slice (some ⟨b, off, none⟩) n cap)
    (ad : Addr) (m c : Nat) (news : List Value) (hx : a.eval x = .slice (some ad) m c) (hn : news.length = m * size) (hc : ∀ j u, news[j]? = some u → w.cell? (ad.add j) = some u) (h1c : ∀ u ∈ news, u.oneCell' = true)
    (hr : n + m ≤ cap) (hspare : ∀ j, j < news.length → (w.cell? ⟨b, off + n * size + j, none⟩).isSome = true ∧ w.frozen? ⟨b, off + n * size + j, none⟩ = false)
    (hroom : wpList P ops Q rest (a.put o.dst (.slice (some ⟨b, off, none⟩) (n + m) cap)) (w.setCells b (off + n * size) news)) :
    wpList P ops Q (o :: rest) a w := by
  refine wpList_plain hg fun K hK' => ?_
  subst h4
  have hrun := run_append_room_cells (P := P) w t o.type e i h1 h2 b off n cap ad m c news hn hc h1c hr (fun j hj => (hspare j hj).1) (fun j hj => (hspare j hj).2)
  unfold Oper.wp
  simp [execOp, hop, resolve, invoke, builtin, hs, hx, hrun, Result.andThen]
  exact hK' _ _ hroom
theorem frozen_of_row {w : World} {b : Nat} {c : Array Value} {t : TypeId} (h : w.heap[b]? = some (.cells c t (0, 0))) (o : Nat) : w.frozen? ⟨b, o, none⟩ = false := by simp [World.frozen?, h]
def lGrowS_ren : Go.Shelf.Ren := ⟨fun | 4 => 223 | n => n, fun | 22 => 81 | 25 => 110 | n => n, fun | n => n⟩
theorem lGrowS : Go.Proofs.Lays8.n4 Tryz.prog lGrowS_ren := {
  mixed := by kernel_rfl
  f4 := ⟨Tryz.f223.name, by decide, Tryz.func223.trans (congrArg some (by kernel_rfl))⟩
  t0 := Tryz.underlying0
  a0 := Tryz.isAgg0
  z0 := Tryz.sizeOf0
  v0 := Tryz.zeroValue0
  t3 := Tryz.underlying3
  a3 := Tryz.isAgg3
  z3 := Tryz.sizeOf3
  v3 := Tryz.zeroValue3
  t4 := Tryz.underlying4
  a4 := Tryz.isAgg4
  z4 := Tryz.sizeOf4
  v4 := Tryz.zeroValue4
  t9 := Tryz.underlying9
  a9 := Tryz.isAgg9
  z9 := Tryz.sizeOf9
  v9 := Tryz.zeroValue9
  t20 := Tryz.underlying20
  a20 := Tryz.isAgg20
  z20 := Tryz.sizeOf20
  v20 := Tryz.zeroValue20
  t22 := Tryz.underlying81
  a22 := Tryz.isAgg81
  z22 := Tryz.sizeOf81
  v22 := Tryz.zeroValue81 }
set_option maxRecDepth 100000 in
set_option maxHeartbeats 4000000 in
theorem concatS_any (w : World) (b o cap : Nat) (a1 a2 : Addr) (n1 c1 n2 c2 : Nat) (xs ys : List Value) (h0 : w.cell? ⟨b, o, none⟩ = some (.slice (some a1) n1 c1)) (h1 : w.cell? ⟨b, o + 1, none⟩ = some (.slice (some a2) n2 c2))
    (p1 : 0 < n1) (p2 : 0 < n2) (q1 : n1 ≤ 1000) (q2 : n2 ≤ 1000) (l1 : xs.length = n1 * 3) (l2 : ys.length = n2 * 3) (hx : ∀ (j : Nat) (u : Value), xs[j]? = some u → w.cell? (a1.add j) = some u) (hy : ∀ (j : Nat) (u : Value), ys[j]? = some u → w.cell? (a2.add j) = some u)
    (ox : ∀ u ∈ xs, u.oneCell' = true) (oy : ∀ u ∈ ys, u.oneCell' = true) :
    Calls Tryz.prog 175 #[.slice (some ⟨b, o, none⟩) 2 cap] w fun e w' => ∃ (g cap' : Nat) (cur : Array Value), e = .returned (.slice (some ⟨g, 0, none⟩) (n1 + n2) cap') ∧ w.heap.size ≤ g ∧ n1 + n2 ≤ cap' ∧ Below w.heap.size w w' ∧ w.drawn ≤ w'.drawn ∧ w'.heap[g]? = some (.cells cur 110 (0, 0)) ∧ cur.toList.take ((n1 + n2) * 3) = xs ++ ys := by
  obtain ⟨ti, hi, hz, hs1, hby⟩ := info_parts (P := Tryz.prog) (e := 110) (z := (Value.agg #[.int .i64 0, .bool false, .bool false])) (size := 3) (bytes := 16) (by kernel_rfl)
  -- the new row
  have hgc : n1 + n2 ≤ grownCap w (n1 + n2) 0 110 := grownCap_ge _ _ _ _
  have hG := Any8.slices_Grow_grow lGrowS ti (Value.agg #[.int .i64 0, .bool false, .bool false]) hi hz (by rw [hs1]; decide) none 0 0 (n1 + n2) [] w (Nat.le_refl _) (by omega) (by rw [hby]; omega) (by omega) (by simp) (fun _ => rfl) (fun a h => by cases h)
  rw [Nat.zero_add, Nat.sub_zero] at hG
  have hcsz : (#[] ++ Builtin.zeroCells ((Value.agg #[.int .i64 0, .bool false, .bool false])).cells (n1 + n2) ++ Builtin.zeroCells ((Value.agg #[.int .i64 0, .bool false, .bool false])).cells (grownCap w (n1 + n2) 0 110 - (n1 + n2))).size = grownCap w (n1 + n2) 0 110 * 3 := by
    rw [Array.size_append, Array.size_append, size_zeroCells, size_zeroCells]
    show 0 + (n1 + n2) * 3 + (grownCap w (n1 + n2) 0 110 - (n1 + n2)) * 3 = _
    omega
  change Calls Tryz.prog 223 #[.slice none 0 0, .int .i64 ((n1 + n2 : Nat) : Int)] w (fun e w' => e = .returned (.slice (some ⟨w.heap.size, 0, none⟩) 0 (grownCap w (n1 + n2) 0 110)) ∧ w' = w.drew.alloc (.cells (#[] ++ Builtin.zeroCells ((Value.agg #[.int .i64 0, .bool false, .bool false])).cells (n1 + n2) ++ Builtin.zeroCells ((Value.agg #[.int .i64 0, .bool false, .bool false])).cells (grownCap w (n1 + n2) 0 110 - (n1 + n2))) 110)) at hG
  generalize grownCap w (n1 + n2) 0 110 = gc at *
  generalize (#[] ++ Builtin.zeroCells ((Value.agg #[.int .i64 0, .bool false, .bool false])).cells (n1 + n2) ++ Builtin.zeroCells ((Value.agg #[.int .i64 0, .bool false, .bool false])).cells (gc - (n1 + n2))) = row at *
  have hW1 : ∀ k, k < w.heap.size → (w.drew.alloc (.cells row 110)).heap[k]? = w.heap[k]? := fun k hk => Below.heap_alloc w.drew _ k hk
  have hW1g : (w.drew.alloc (.cells row 110)).heap[w.heap.size]? = some (.cells row 110 (0, 0)) := by
    show (w.heap.push _)[w.heap.size]? = _
    rw [Array.getElem?_push, if_pos rfl]
  have hB1 : Below w.heap.size w (w.drew.alloc (.cells row 110)) := ⟨rfl, rfl, rfl, by simp, hW1⟩
  have hD1 : w.drawn ≤ (w.drew.alloc (.cells row 110)).drawn := Nat.le_succ _
  generalize (w.drew.alloc (.cells row 110)) = W1 at *
  -- the first row is laid
  obtain ⟨hS1, r1, hr1, hrl1⟩ := setCells_spec w.heap.size xs 0 W1 row 110 (0, 0) hW1g (by rw [l1, hcsz]; omega)
  have hr1s : r1.size = gc * 3 := by
    have := congrArg List.length hrl1
    simp only [List.length_append, List.length_take, List.length_drop, Array.length_toList] at this
    rw [l1, hcsz] at this
    omega
  obtain ⟨hS2, r2, hr2, hrl2⟩ := setCells_spec w.heap.size ys (n1 * 3) (W1.setCells w.heap.size 0 xs) r1 110 (0, 0) hr1 (by rw [l2, hr1s]; omega)
  have hlt : ∀ {a : Addr} {v : Value}, w.cell? a = some v → a.block < w.heap.size := fun {a v} h => by
    rcases Nat.lt_or_ge a.block w.heap.size with h1 | h1
    · exact h1
    · simp [World.cell?, Array.getElem?_eq_none h1] at h
  have keep : ∀ (W : World), (∀ k, k < w.heap.size → W.heap[k]? = w.heap[k]?) → ∀ (a : Addr) (v : Value), w.cell? a = some v → W.cell? a = some v := fun W hW a v h => by
    rw [World.cell?_of_block (w := w) (hW _ (hlt h))]; exact h
  have hW2 : ∀ k, k < w.heap.size → (W1.setCells w.heap.size 0 xs).heap[k]? = w.heap[k]? := fun k hk => (hS1.block k (by omega)).trans (hW1 k hk)
  have hW3 : ∀ k, k < w.heap.size → ((W1.setCells w.heap.size 0 xs).setCells w.heap.size (n1 * 3) ys).heap[k]? = w.heap[k]? := fun k hk => (hS2.block k (by omega)).trans (hW2 k hk)
  have fin : ∃ (g cap' : Nat) (cur : Array Value), (Ending.returned (.slice (some ⟨w.heap.size, 0, none⟩) (n1 + n2) gc)) = .returned (.slice (some ⟨g, 0, none⟩) (n1 + n2) cap') ∧ w.heap.size ≤ g ∧ n1 + n2 ≤ cap' ∧ Below w.heap.size w ((W1.setCells w.heap.size 0 xs).setCells w.heap.size (n1 * 3) ys) ∧ w.drawn ≤ ((W1.setCells w.heap.size 0 xs).setCells w.heap.size (n1 * 3) ys).drawn ∧ ((W1.setCells w.heap.size 0 xs).setCells w.heap.size (n1 * 3) ys).heap[g]? = some (.cells cur 110 (0, 0)) ∧ cur.toList.take ((n1 + n2) * 3) = xs ++ ys := by
    refine ⟨w.heap.size, gc, r2, rfl, Nat.le_refl _, hgc, ⟨hS2.os.trans (hS1.os.trans hB1.os), hS2.tape.trans (hS1.tape.trans hB1.tape), hS2.output.trans (hS1.output.trans hB1.output), by rw [hS2.size, hS1.size]; exact hB1.size, hW3⟩, Nat.le_trans hD1 (Nat.le_trans hS1.drawn hS2.drawn), hr2, ?_⟩
    have e1 : r1.toList.take (n1 * 3) = xs := by
      rw [hrl1, List.take_zero, List.nil_append, ← l1, List.take_left' rfl]
    rw [hrl2, e1]
    have e2 : (n1 + n2) * 3 = (xs ++ ys).length := by rw [List.length_append, l1, l2]; omega
    rw [e2, List.take_left' rfl]
  have a1c := keep _ hW1 _ _ h0
  have a2c := keep _ hW2 _ _ h1
  have xc := fun j u hj => keep _ hW1 _ _ (hx j u hj)
  have yc := fun j u hj => keep _ hW2 _ _ (hy j u hj)
  have sp1 : ∀ j, j < xs.length → (W1.cell? ⟨w.heap.size, 0 + 0 * 3 + j, none⟩).isSome = true ∧ W1.frozen? ⟨w.heap.size, 0 + 0 * 3 + j, none⟩ = false := fun j hj => by
    refine ⟨?_, frozen_of_row hW1g _⟩
    rw [cell_of_row W1 w.heap.size _ row 110 (0, 0) hW1g]
    simp
    omega
  have sp2 : ∀ j, j < ys.length → ((W1.setCells w.heap.size 0 xs).cell? ⟨w.heap.size, 0 + n1 * 3 + j, none⟩).isSome = true ∧ (W1.setCells w.heap.size 0 xs).frozen? ⟨w.heap.size, 0 + n1 * 3 + j, none⟩ = false := fun j hj => by
    refine ⟨?_, frozen_of_row hr1 _⟩
    rw [cell_of_row _ w.heap.size _ r1 110 (0, 0) hr1]
    simp
    omega
  have e0 : ∀ i : Nat, (⟨b, o, none⟩ : Addr).add i = ⟨b, o + i, none⟩ := fun i => by simp [Addr.add]
  replace fin := Lib.hid fin
  replace hG := Lib.hid hG
  replace sp1 := Lib.hid sp1
  replace sp2 := Lib.hid sp2
  replace xc := Lib.hid xc
  replace yc := Lib.hid yc
  replace ox := Lib.hid ox
  replace oy := Lib.hid oy
  replace l1 := Lib.hid l1
  replace l2 := Lib.hid l2
  replace hi := Lib.hid hi
  replace hs1 := Lib.hid hs1
  replace hgc := Lib.hid hgc
  clear hz hby hcsz hx hy hW1 hW1g hB1 hD1 hS1 hr1 hrl1 hr1s hS2 hr2 hrl2 hW2 hW3 hlt
  go_enter Tryz.func175, Tryz.ntmps175
  have x0 : IntKind.i64.wrap ((0 : Int) + (n1 : Int)) = (n1 : Int) := by rw [IntWalk.i64_in _ (by omega)]; omega
  have x1 : IntKind.i64.wrap ((n1 : Int) + (n2 : Int)) = ((n1 + n2 : Nat) : Int) := by rw [IntWalk.i64_in _ (by omega)]; omega
  have y0 : ¬ ((n1 : Int) < 0) := by omega
  have y1 : ¬ (((n1 + n2 : Nat) : Int) < 0) := by omega
  go_wp2
  go_loopg [3, 11] 2 (fun g s i wr => ∃ k : Nat, k ≤ 2 ∧ 2 - k ≤ g ∧ i = .int .i64 (k : Int) ∧ s = .int .i64 ((if k = 0 then 0 else if k = 1 then n1 else n1 + n2 : Nat) : Int) ∧ wr = w)
  case atStart => exact ⟨0, by omega, by omega, rfl, rfl, rfl⟩
  case round =>
    obtain ⟨k, hk, hg, rfl, rfl, rfl⟩ := hrel
    have hk3 : k = 0 ∨ k = 1 ∨ k = 2 := by omega
    rcases hk3 with rfl | rfl | rfl
    · go_wp2
      go_roundg 1
      case measure => omega
      case rel => exact ⟨1, by omega, by omega, by go_num, by go_num, rfl⟩
    · go_wp2
      go_roundg 0
      case measure => omega
      case rel => exact ⟨2, by omega, by omega, by go_num, by go_num, rfl⟩
    · go_wp2_with (go_at_call 223; refine hG.out.mono ?_; rintro e w' ⟨rfl, rfl⟩)
      generalize hB0 : wr.heap.size = B0 at *
      go_loopg [6, 27] 2 (fun g s i W => ∃ k : Nat, k ≤ 2 ∧ 2 - k ≤ g ∧ i = .int .i64 (k : Int) ∧ s = .slice (some ⟨B0, 0, none⟩) (if k = 0 then 0 else if k = 1 then n1 else n1 + n2) gc ∧ W = (if k = 0 then w' else if k = 1 then w'.setCells B0 0 xs else (w'.setCells B0 0 xs).setCells B0 (n1 * 3) ys))
      case atStart => exact ⟨0, by omega, by omega, rfl, rfl, rfl⟩
      case round =>
        obtain ⟨k, hk, hg, rfl, rfl, hW⟩ := hrel
        have hk3 : k = 0 ∨ k = 1 ∨ k = 2 := by omega
        rcases hk3 with rfl | rfl | rfl
        · replace hW : _ = w' := hW
          subst hW
          go_wp2_with (at_builtin; refine wpList_room _ rfl _ _ 81 rfl 110 ti 3 Tryz.underlying81 hi.out hs1.out B0 0 0 gc rfl a1 n1 c1 xs rfl l1.out xc.out ox.out (by have := hgc.out; omega) sp1.out ?_)
          go_roundg 1
          case measure => omega
          case rel => exact ⟨1, by omega, by omega, by go_num, by go_num, by go_num⟩
        · replace hW : _ = w'.setCells B0 0 xs := hW
          subst hW
          go_wp2_with (at_builtin; refine wpList_room _ rfl _ _ 81 rfl 110 ti 3 Tryz.underlying81 hi.out hs1.out B0 0 n1 gc rfl a2 n2 c2 ys rfl l2.out yc.out oy.out (by have := hgc.out; omega) sp2.out ?_)
          go_roundg 0
          case measure => omega
          case rel => exact ⟨2, by omega, by omega, by go_num, by go_num, by go_num⟩
        · replace hW : _ = (w'.setCells B0 0 xs).setCells B0 (n1 * 3) ys := hW
          subst hW
          go_wp2
          go_ret
          have hf := fin.out
          rw [← hB0] at hf
          rw [← hB0]
          exact hf

def lGrowI_ren : Go.Shelf.Ren := ⟨fun | 4 => 226 | n => n, fun | 22 => 23 | 25 => 3 | n => n, fun | n => n⟩
theorem lGrowI : Go.Proofs.Lays8.n4 Tryz.prog lGrowI_ren := {
  mixed := by kernel_rfl
  f4 := ⟨Tryz.f226.name, by decide, Tryz.func226.trans (congrArg some (by kernel_rfl))⟩
  t0 := Tryz.underlying0
  a0 := Tryz.isAgg0
  z0 := Tryz.sizeOf0
  v0 := Tryz.zeroValue0
  t3 := Tryz.underlying3
  a3 := Tryz.isAgg3
  z3 := Tryz.sizeOf3
  v3 := Tryz.zeroValue3
  t4 := Tryz.underlying4
  a4 := Tryz.isAgg4
  z4 := Tryz.sizeOf4
  v4 := Tryz.zeroValue4
  t9 := Tryz.underlying9
  a9 := Tryz.isAgg9
  z9 := Tryz.sizeOf9
  v9 := Tryz.zeroValue9
  t20 := Tryz.underlying20
  a20 := Tryz.isAgg20
  z20 := Tryz.sizeOf20
  v20 := Tryz.zeroValue20
  t22 := Tryz.underlying23
  a22 := Tryz.isAgg23
  z22 := Tryz.sizeOf23
  v22 := Tryz.zeroValue23 }
set_option maxRecDepth 100000 in
set_option maxHeartbeats 4000000 in
theorem concatI_any (w : World) (b o cap : Nat) (a1 a2 : Addr) (n1 c1 n2 c2 : Nat) (xs ys : List Value) (h0 : w.cell? ⟨b, o, none⟩ = some (.slice (some a1) n1 c1)) (h1 : w.cell? ⟨b, o + 1, none⟩ = some (.slice (some a2) n2 c2))
    (p1 : 0 < n1) (p2 : 0 < n2) (q1 : n1 ≤ 1000) (q2 : n2 ≤ 1000) (l1 : xs.length = n1 * 1) (l2 : ys.length = n2 * 1) (hx : ∀ (j : Nat) (u : Value), xs[j]? = some u → w.cell? (a1.add j) = some u) (hy : ∀ (j : Nat) (u : Value), ys[j]? = some u → w.cell? (a2.add j) = some u)
    (ox : ∀ u ∈ xs, u.oneCell' = true) (oy : ∀ u ∈ ys, u.oneCell' = true) :
    Calls Tryz.prog 179 #[.slice (some ⟨b, o, none⟩) 2 cap] w fun e w' => ∃ (g cap' : Nat) (cur : Array Value), e = .returned (.slice (some ⟨g, 0, none⟩) (n1 + n2) cap') ∧ w.heap.size ≤ g ∧ n1 + n2 ≤ cap' ∧ Below w.heap.size w w' ∧ w.drawn ≤ w'.drawn ∧ w'.heap[g]? = some (.cells cur 3 (0, 0)) ∧ cur.toList.take ((n1 + n2) * 1) = xs ++ ys := by
  obtain ⟨ti, hi, hz, hs1, hby⟩ := info_parts (P := Tryz.prog) (e := 3) (z := (Value.int .i64 0)) (size := 1) (bytes := 8) (by kernel_rfl)
  -- the new row
  have hgc : n1 + n2 ≤ grownCap w (n1 + n2) 0 3 := grownCap_ge _ _ _ _
  have hG := Any8.slices_Grow_grow lGrowI ti (Value.int .i64 0) hi hz (by rw [hs1]; decide) none 0 0 (n1 + n2) [] w (Nat.le_refl _) (by omega) (by rw [hby]; omega) (by omega) (by simp) (fun _ => rfl) (fun a h => by cases h)
  rw [Nat.zero_add, Nat.sub_zero] at hG
  have hcsz : (#[] ++ Builtin.zeroCells ((Value.int .i64 0)).cells (n1 + n2) ++ Builtin.zeroCells ((Value.int .i64 0)).cells (grownCap w (n1 + n2) 0 3 - (n1 + n2))).size = grownCap w (n1 + n2) 0 3 * 1 := by
    rw [Array.size_append, Array.size_append, size_zeroCells, size_zeroCells]
    show 0 + (n1 + n2) * 1 + (grownCap w (n1 + n2) 0 3 - (n1 + n2)) * 1 = _
    omega
  change Calls Tryz.prog 226 #[.slice none 0 0, .int .i64 ((n1 + n2 : Nat) : Int)] w (fun e w' => e = .returned (.slice (some ⟨w.heap.size, 0, none⟩) 0 (grownCap w (n1 + n2) 0 3)) ∧ w' = w.drew.alloc (.cells (#[] ++ Builtin.zeroCells ((Value.int .i64 0)).cells (n1 + n2) ++ Builtin.zeroCells ((Value.int .i64 0)).cells (grownCap w (n1 + n2) 0 3 - (n1 + n2))) 3)) at hG
  generalize grownCap w (n1 + n2) 0 3 = gc at *
  generalize (#[] ++ Builtin.zeroCells ((Value.int .i64 0)).cells (n1 + n2) ++ Builtin.zeroCells ((Value.int .i64 0)).cells (gc - (n1 + n2))) = row at *
  have hW1 : ∀ k, k < w.heap.size → (w.drew.alloc (.cells row 3)).heap[k]? = w.heap[k]? := fun k hk => Below.heap_alloc w.drew _ k hk
  have hW1g : (w.drew.alloc (.cells row 3)).heap[w.heap.size]? = some (.cells row 3 (0, 0)) := by
    show (w.heap.push _)[w.heap.size]? = _
    rw [Array.getElem?_push, if_pos rfl]
  have hB1 : Below w.heap.size w (w.drew.alloc (.cells row 3)) := ⟨rfl, rfl, rfl, by simp, hW1⟩
  have hD1 : w.drawn ≤ (w.drew.alloc (.cells row 3)).drawn := Nat.le_succ _
  generalize (w.drew.alloc (.cells row 3)) = W1 at *
  -- the first row is laid
  obtain ⟨hS1, r1, hr1, hrl1⟩ := setCells_spec w.heap.size xs 0 W1 row 3 (0, 0) hW1g (by rw [l1, hcsz]; omega)
  have hr1s : r1.size = gc * 1 := by
    have := congrArg List.length hrl1
    simp only [List.length_append, List.length_take, List.length_drop, Array.length_toList] at this
    rw [l1, hcsz] at this
    omega
  obtain ⟨hS2, r2, hr2, hrl2⟩ := setCells_spec w.heap.size ys (n1 * 1) (W1.setCells w.heap.size 0 xs) r1 3 (0, 0) hr1 (by rw [l2, hr1s]; omega)
  have hlt : ∀ {a : Addr} {v : Value}, w.cell? a = some v → a.block < w.heap.size := fun {a v} h => by
    rcases Nat.lt_or_ge a.block w.heap.size with h1 | h1
    · exact h1
    · simp [World.cell?, Array.getElem?_eq_none h1] at h
  have keep : ∀ (W : World), (∀ k, k < w.heap.size → W.heap[k]? = w.heap[k]?) → ∀ (a : Addr) (v : Value), w.cell? a = some v → W.cell? a = some v := fun W hW a v h => by
    rw [World.cell?_of_block (w := w) (hW _ (hlt h))]; exact h
  have hW2 : ∀ k, k < w.heap.size → (W1.setCells w.heap.size 0 xs).heap[k]? = w.heap[k]? := fun k hk => (hS1.block k (by omega)).trans (hW1 k hk)
  have hW3 : ∀ k, k < w.heap.size → ((W1.setCells w.heap.size 0 xs).setCells w.heap.size (n1 * 1) ys).heap[k]? = w.heap[k]? := fun k hk => (hS2.block k (by omega)).trans (hW2 k hk)
  have fin : ∃ (g cap' : Nat) (cur : Array Value), (Ending.returned (.slice (some ⟨w.heap.size, 0, none⟩) (n1 + n2) gc)) = .returned (.slice (some ⟨g, 0, none⟩) (n1 + n2) cap') ∧ w.heap.size ≤ g ∧ n1 + n2 ≤ cap' ∧ Below w.heap.size w ((W1.setCells w.heap.size 0 xs).setCells w.heap.size (n1 * 1) ys) ∧ w.drawn ≤ ((W1.setCells w.heap.size 0 xs).setCells w.heap.size (n1 * 1) ys).drawn ∧ ((W1.setCells w.heap.size 0 xs).setCells w.heap.size (n1 * 1) ys).heap[g]? = some (.cells cur 3 (0, 0)) ∧ cur.toList.take ((n1 + n2) * 1) = xs ++ ys := by
    refine ⟨w.heap.size, gc, r2, rfl, Nat.le_refl _, hgc, ⟨hS2.os.trans (hS1.os.trans hB1.os), hS2.tape.trans (hS1.tape.trans hB1.tape), hS2.output.trans (hS1.output.trans hB1.output), by rw [hS2.size, hS1.size]; exact hB1.size, hW3⟩, Nat.le_trans hD1 (Nat.le_trans hS1.drawn hS2.drawn), hr2, ?_⟩
    have e1 : r1.toList.take (n1 * 1) = xs := by
      rw [hrl1, List.take_zero, List.nil_append, ← l1, List.take_left' rfl]
    rw [hrl2, e1]
    have e2 : (n1 + n2) * 1 = (xs ++ ys).length := by rw [List.length_append, l1, l2]; omega
    rw [e2, List.take_left' rfl]
  have a1c := keep _ hW1 _ _ h0
  have a2c := keep _ hW2 _ _ h1
  have xc := fun j u hj => keep _ hW1 _ _ (hx j u hj)
  have yc := fun j u hj => keep _ hW2 _ _ (hy j u hj)
  have sp1 : ∀ j, j < xs.length → (W1.cell? ⟨w.heap.size, 0 + 0 * 1 + j, none⟩).isSome = true ∧ W1.frozen? ⟨w.heap.size, 0 + 0 * 1 + j, none⟩ = false := fun j hj => by
    refine ⟨?_, frozen_of_row hW1g _⟩
    rw [cell_of_row W1 w.heap.size _ row 3 (0, 0) hW1g]
    simp
    omega
  have sp2 : ∀ j, j < ys.length → ((W1.setCells w.heap.size 0 xs).cell? ⟨w.heap.size, 0 + n1 * 1 + j, none⟩).isSome = true ∧ (W1.setCells w.heap.size 0 xs).frozen? ⟨w.heap.size, 0 + n1 * 1 + j, none⟩ = false := fun j hj => by
    refine ⟨?_, frozen_of_row hr1 _⟩
    rw [cell_of_row _ w.heap.size _ r1 3 (0, 0) hr1]
    simp
    omega
  have e0 : ∀ i : Nat, (⟨b, o, none⟩ : Addr).add i = ⟨b, o + i, none⟩ := fun i => by simp [Addr.add]
  replace fin := Lib.hid fin
  replace hG := Lib.hid hG
  replace sp1 := Lib.hid sp1
  replace sp2 := Lib.hid sp2
  replace xc := Lib.hid xc
  replace yc := Lib.hid yc
  replace ox := Lib.hid ox
  replace oy := Lib.hid oy
  replace l1 := Lib.hid l1
  replace l2 := Lib.hid l2
  replace hi := Lib.hid hi
  replace hs1 := Lib.hid hs1
  replace hgc := Lib.hid hgc
  clear hz hby hcsz hx hy hW1 hW1g hB1 hD1 hS1 hr1 hrl1 hr1s hS2 hr2 hrl2 hW2 hW3 hlt
  go_enter Tryz.func179, Tryz.ntmps179
  have x0 : IntKind.i64.wrap ((0 : Int) + (n1 : Int)) = (n1 : Int) := by rw [IntWalk.i64_in _ (by omega)]; omega
  have x1 : IntKind.i64.wrap ((n1 : Int) + (n2 : Int)) = ((n1 + n2 : Nat) : Int) := by rw [IntWalk.i64_in _ (by omega)]; omega
  have y0 : ¬ ((n1 : Int) < 0) := by omega
  have y1 : ¬ (((n1 + n2 : Nat) : Int) < 0) := by omega
  go_wp2
  go_loopg [3, 11] 2 (fun g s i wr => ∃ k : Nat, k ≤ 2 ∧ 2 - k ≤ g ∧ i = .int .i64 (k : Int) ∧ s = .int .i64 ((if k = 0 then 0 else if k = 1 then n1 else n1 + n2 : Nat) : Int) ∧ wr = w)
  case atStart => exact ⟨0, by omega, by omega, rfl, rfl, rfl⟩
  case round =>
    obtain ⟨k, hk, hg, rfl, rfl, rfl⟩ := hrel
    have hk3 : k = 0 ∨ k = 1 ∨ k = 2 := by omega
    rcases hk3 with rfl | rfl | rfl
    · go_wp2
      go_roundg 1
      case measure => omega
      case rel => exact ⟨1, by omega, by omega, by go_num, by go_num, rfl⟩
    · go_wp2
      go_roundg 0
      case measure => omega
      case rel => exact ⟨2, by omega, by omega, by go_num, by go_num, rfl⟩
    · go_wp2_with (go_at_call 226; refine hG.out.mono ?_; rintro e w' ⟨rfl, rfl⟩)
      generalize hB0 : wr.heap.size = B0 at *
      go_loopg [6, 27] 2 (fun g s i W => ∃ k : Nat, k ≤ 2 ∧ 2 - k ≤ g ∧ i = .int .i64 (k : Int) ∧ s = .slice (some ⟨B0, 0, none⟩) (if k = 0 then 0 else if k = 1 then n1 else n1 + n2) gc ∧ W = (if k = 0 then w' else if k = 1 then w'.setCells B0 0 xs else (w'.setCells B0 0 xs).setCells B0 (n1 * 1) ys))
      case atStart => exact ⟨0, by omega, by omega, rfl, rfl, rfl⟩
      case round =>
        obtain ⟨k, hk, hg, rfl, rfl, hW⟩ := hrel
        have hk3 : k = 0 ∨ k = 1 ∨ k = 2 := by omega
        rcases hk3 with rfl | rfl | rfl
        · replace hW : _ = w' := hW
          subst hW
          go_wp2_with (at_builtin; refine wpList_room _ rfl _ _ 23 rfl 3 ti 1 Tryz.underlying23 hi.out hs1.out B0 0 0 gc rfl a1 n1 c1 xs rfl l1.out xc.out ox.out (by have := hgc.out; omega) sp1.out ?_)
          go_roundg 1
          case measure => omega
          case rel => exact ⟨1, by omega, by omega, by go_num, by go_num, (by first | (go_num; done) | rfl | simp)⟩
        · replace hW : _ = w'.setCells B0 0 xs := hW
          subst hW
          go_wp2_with (at_builtin; refine wpList_room _ rfl _ _ 23 rfl 3 ti 1 Tryz.underlying23 hi.out hs1.out B0 0 n1 gc rfl a2 n2 c2 ys rfl l2.out yc.out oy.out (by have := hgc.out; omega) sp2.out ?_)
          go_roundg 0
          case measure => omega
          case rel => exact ⟨2, by omega, by omega, by go_num, by go_num, (by first | (go_num; done) | rfl | simp)⟩
        · replace hW : _ = (w'.setCells B0 0 xs).setCells B0 (n1 * 1) ys := hW
          subst hW
          go_wp2
          go_ret
          have hf := fin.out
          rw [← hB0] at hf
          rw [← hB0]
          simp only [Nat.mul_one] at hf ⊢
          exact hf

end Go.Proofs.YtdefefeifcdogaaGreat
namespace Go.Proofs.YtdefefeifcdogaaGreat
open Go.RowKit
set_option linter.unusedSimpArgs false
set_option linter.unusedVariables false

theorem vrs_lit {E : Env} : ∀ {L : List Value} {cs : List Value}, VRs E (L.map V.lit) cs → cs = L ∧ ∀ u ∈ L, flat u = true
  | [], _, h => by rw [List.map_nil, VRs] at h; exact ⟨h, fun u hu => by cases hu⟩
  | v :: L, _, h => by
    rw [List.map_cons, VRs] at h
    obtain ⟨c, cs, rfl, h1, h2⟩ := h
    rw [VR] at h1
    obtain ⟨rfl, h3⟩ := h1
    obtain ⟨rfl, h4⟩ := vrs_lit h2
    refine ⟨rfl, fun u hu => ?_⟩
    rcases List.mem_cons.1 hu with rfl | h
    · exact h3
    · exact h4 u h
theorem lit_vrs {E : Env} : ∀ {L : List Value}, (∀ u ∈ L, flat u = true) → VRs E (L.map V.lit) L
  | [], _ => by rw [List.map_nil, VRs]
  | v :: L, h => by
    rw [List.map_cons, VRs]
    refine ⟨v, L, rfl, ?_, lit_vrs fun u hu => h u (List.mem_cons_of_mem _ hu)⟩
    rw [VR]
    exact ⟨rfl, h v (List.mem_cons_self ..)⟩

/-- Of all blocks that lay there only b may have changed. -/
structure RowTo (w w' : World) (b : Nat) : Prop where
  os : w'.os = w.os
  tape : w'.tape = w.tape
  output : w'.output = w.output
  drawn : w.drawn ≤ w'.drawn
  size : w.heap.size ≤ w'.heap.size
  block : ∀ k, k < w.heap.size → k ≠ b → w'.heap[k]? = w.heap[k]?

/-- What such a call leaves. -/
def RowPost (m : Mm) (i : Nat) (t : TypeId) (Q : List Value → Prop) (r : V) (m' : Mm) : Prop := r = vund ∧ ∃ L', Q L' ∧ m' = m.put i (.box (L'.map V.lit) t)
theorem row_sfn {P : Program} {G : Ground} {f : FuncId} {m : Mm} {i n : Nat} {t : TypeId} {L : List Value} {a : V} {ys : List V} {xs : List Value} (Q : List Value → Prop)
    (ha : (∃ cap, a = .bsl i 0 n cap) ∨ ∃ s, a = .gsl i n s) (hys : ∀ (E : Env) (cl : List Value), VRs E ys cl → cl = xs) (ho : m.obj i = some (.box (L.map V.lit) t))
    (H : ∀ (w : World) (b cap' : Nat) (c : Array Value), w.heap[b]? = some (.cells c t (0, 0)) → c.toList.take L.length = L → n ≤ cap' →
      Calls P f (.slice (some ⟨b, 0, none⟩) n cap' :: xs).toArray w fun e w' => e = .returned (.tuple #[]) ∧ ∃ (L' : List Value) (c2 : Array Value), Q L' ∧ L'.length = L.length ∧ (∀ u ∈ L', flat u = true) ∧ RowTo w w' b ∧ w'.heap[b]? = some (.cells c2 t (0, 0)) ∧ c2.size = c.size ∧ c2.toList.take L.length = L') :
    SFn P G f (a :: ys) m (RowPost m i t Q) := by
  intro E w cargs hG hm hv
  rw [VRs] at hv
  obtain ⟨c1, cl, e1, h1, h2⟩ := hv
  obtain ⟨b, hφ, cap', rfl, hn⟩ : ∃ b, E.φ i = some b ∧ ∃ cap', c1 = .slice (some ⟨b, 0, none⟩) n cap' ∧ n ≤ cap' := by
    rcases ha with ⟨cap, rfl⟩ | ⟨s, rfl⟩
    · rw [VR] at h1
      obtain ⟨b, hφ, cap', rfl, hn, hc⟩ := h1
      exact ⟨b, hφ, cap', rfl, Nat.le_trans hn hc⟩
    · rw [VR] at h1
      obtain ⟨b, hφ, cap', rfl, hn, _⟩ := h1
      exact ⟨b, hφ, cap', rfl, hn⟩
  obtain rfl := hys E cl h2
  obtain ⟨b', c, hφ', hh, hr, hM⟩ := hm.box i _ t ho
  rw [hφ] at hφ'
  cases hφ'
  rw [List.length_map] at hr
  obtain ⟨hcl, _⟩ := vrs_lit hr
  obtain rfl : cargs = (.slice (some ⟨b, 0, none⟩) n cap' :: cl).toArray := by apply Array.ext'; rw [e1]
  refine (H w b cap' c hh hcl hn).mono ?_
  rintro e w' ⟨rfl, L', c2, hQ, hLl, hf', hT, hc2, hsz, htk⟩
  have hblt : b < w.heap.size := (Array.getElem?_eq_some_iff.1 hh).1
  have hsb : SameBut w { w with heap := w.heap.set b (.cells c2 t (0, 0)) hblt } b := ⟨rfl, rfl, rfl, Nat.le_refl _, by simp, fun k hk => by simp [Array.getElem?_set, Ne.symm hk]⟩
  have hc1 : ({ w with heap := w.heap.set b (.cells c2 t (0, 0)) hblt } : World).heap[b]? = some (.cells c2 t (0, 0)) := by simp
  have hs1 : ({ w with heap := w.heap.set b (.cells c2 t (0, 0)) hblt } : World).heap.size = w.heap.size := by simp
  generalize ({ w with heap := w.heap.set b (.cells c2 t (0, 0)) hblt } : World) = w1 at hsb hc1 hs1
  obtain ⟨hst, hm1⟩ := hm.setBox (cs' := L'.map V.lit) ho hφ hsb hc1 (fun c0 h0 => by rw [hh] at h0; cases h0; exact hsz) (by rw [List.length_map, hLl, htk]; exact lit_vrs hf')
  have hbl : ∀ k, k < w1.heap.size → w'.heap[k]? = w1.heap[k]? := by
    intro k hk
    by_cases hkb : k = b
    · subst hkb; rw [hc1, hc2]
    · rw [hT.block k (by omega) hkb, hsb.block k hkb]
  exact ⟨_, vund, m.put i (.box (L'.map V.lit) t), E, rfl, ⟨rfl, L', hQ, rfl⟩,
    { hst with os := hT.os, tape := hT.tape, output := hT.output, drawn := hT.drawn, size := hT.size, kept := fun k hk hn => hT.block k hk fun e => hn i (.inl ⟨_, _, ho, by rw [e]; exact hφ⟩) }, hm1.grow hbl, VR_mk rfl⟩

/-! ### The library's worlds -/
theorem flat_lenK {α : Type} {enc : α → List Value} {k : Nat} (hk : ∀ x, (enc x).length = k) : ∀ l : List α, (l.flatMap enc).length = l.length * k
  | [] => by simp
  | x :: l => by rw [List.flatMap_cons, List.length_append, hk, flat_lenK hk l, List.length_cons, Nat.add_mul, Nat.one_mul]; omega
section
variable {α : Type} [Inhabited α]
theorem putCells_list (enc : α → Value) (d : Array α) (c : Array Value) (h : d.size ≤ c.size) : (Sort.putCells enc 0 d c).toList.take d.size = d.toList.map enc := by
  apply List.ext_getElem?
  intro q
  rw [List.getElem?_take]
  split
  · rename_i hq
    rw [Array.getElem?_toList, List.getElem?_map, Array.getElem?_toList, Sort.putCells, Array.getElem?_mapIdx, Array.getElem?_eq_getElem (by omega : q < c.size), Array.getElem?_eq_getElem hq, Option.map_some, Option.map_some, if_pos (by omega), Nat.sub_zero, getElem!_pos d q hq]
  · rename_i hq
    rw [List.getElem?_eq_none (by simp; omega)]
theorem putCells_size (enc : α → Value) (d : Array α) (c : Array Value) : (Sort.putCells enc 0 d c).size = c.size := by simp [Sort.putCells]
theorem putRow_to (enc : α → Value) {w : World} {b : Nat} {c : Array Value} {t : TypeId} (hh : w.heap[b]? = some (.cells c t (0, 0))) (n0 : Nat) (d : Array α) (os : Array Obj) :
    RowTo w (Sort.grow (Sort.putRow enc (Sort.ahead w n0) b 0 d) os) b ∧ (Sort.grow (Sort.putRow enc (Sort.ahead w n0) b 0 d) os).heap[b]? = some (.cells (Sort.putCells enc 0 d c) t (0, 0)) := by
  have hblt : b < w.heap.size := (Array.getElem?_eq_some_iff.1 hh).1
  refine ⟨⟨rfl, rfl, rfl, Nat.le_add_right _ _, ?_, fun k hk hkb => ?_⟩, ?_⟩
  · simp [Sort.grow, Sort.putRow, Sort.mapBlock, Sort.ahead]
  · simp only [Sort.grow, Sort.putRow, Sort.mapBlock, Sort.ahead]
    rw [Array.getElem?_append_left (by simpa using hk), Array.getElem?_modify, if_neg (Ne.symm hkb)]
  · simp only [Sort.grow, Sort.putRow, Sort.mapBlock, Sort.ahead]
    rw [Array.getElem?_append_left (by simpa using hblt), Array.getElem?_modify, if_pos rfl, hh]
    rfl
theorem holds_of (enc : α → Value) {w : World} {b : Nat} {c : Array Value} {t : TypeId} (hh : w.heap[b]? = some (.cells c t (0, 0))) (d : Array α) (hc : c.toList.take d.size = d.toList.map enc) : Sort.Holds enc w b 0 d := by
  intro j hj
  refine ⟨?_, by simp [World.frozen?, hh]⟩
  have h1 : (c.toList.take d.size)[j]? = some (enc d[j]!) := by
    rw [hc, List.getElem?_map, Array.getElem?_toList, Array.getElem?_eq_getElem hj, getElem!_pos d j hj]; rfl
  rw [List.getElem?_take, if_pos hj, Array.getElem?_toList] at h1
  rw [Nat.zero_add]
  simp [World.cell?, hh, h1]
theorem flat_getK {enc : α → List Value} {k : Nat} (hk : ∀ x, (enc x).length = k) (k0 : 0 < k) : ∀ (l : List α) (t : Nat), t < l.length * k → (l.flatMap enc)[t]? = (enc (l.getD (t / k) default))[t % k]?
  | [], t, h => by simp at h
  | x :: l, t, h => by
    rw [List.flatMap_cons]
    by_cases ht : t < k
    · rw [List.getElem?_append_left (by rw [hk]; exact ht), Nat.div_eq_of_lt ht, Nat.mod_eq_of_lt ht]; rfl
    · have h1 : t - k < l.length * k := by rw [List.length_cons, Nat.add_mul, Nat.one_mul] at h; omega
      rw [List.getElem?_append_right (by rw [hk]; omega), hk, flat_getK hk k0 l (t - k) h1, Nat.div_eq_sub_div k0 (by omega : k ≤ t), Nat.mod_eq_sub_mod (by omega : k ≤ t)]
      rfl
theorem flatK_list {enc : α → List Value} {k : Nat} (hk : ∀ x, (enc x).length = k) (k0 : 0 < k) (d : Array α) : (Sort.flatK enc k d).toList = d.toList.flatMap enc := by
  apply List.ext_getElem?
  intro q
  by_cases hq : q < d.size * k
  · rw [flat_getK hk k0 d.toList q (by simpa using hq), Array.getElem?_toList, Array.getElem?_eq_getElem (by simpa using hq)]
    have h1 := Sort.get_flatK enc k d q hq
    rw [getElem!_pos _ q (by simpa using hq)] at h1
    rw [h1]
    have h2 : q / k < d.size := (Nat.div_lt_iff_lt_mul k0).2 hq
    have h3 : q % k < k := Nat.mod_lt _ k0
    have e : d[q / k]! = d.toList.getD (q / k) default := by
      rw [getElem!_pos d _ h2, List.getD_eq_getElem?_getD, Array.getElem?_toList, Array.getElem?_eq_getElem h2]; rfl
    rw [e]
    have h4 : q % k < (enc (d.toList.getD (q / k) default)).length := by rw [hk]; exact h3
    rw [List.getElem?_eq_getElem h4, List.getElem!_eq_getElem?_getD, List.getElem?_eq_getElem h4]
    rfl
  · rw [List.getElem?_eq_none (by simpa using hq), List.getElem?_eq_none (by rw [flat_lenK hk]; simpa using hq)]
end
end Go.Proofs.YtdefefeifcdogaaGreat
namespace Go.Proofs.YtdefefeifcdogaaGreat
open Go.RowKit
set_option linter.unusedSimpArgs false
set_option linter.unusedVariables false

/-- A contract of the machine's own that gives a new block of cells. -/
theorem BFn.of_own {P : Program} {G : Ground} {f : FuncId} {args : List V} {n : Nat} {xs : List V} {t : TypeId} (h0 : n ≠ 0) (hcl : V.clean xs = true)
    (h : ∀ (m : Mm) (E : Env) (w : World) (cargs : Array Value), MemR E m w → VRs E args cargs.toList →
      Calls P f cargs w fun e w' => ∃ g cap cur, e = .returned (.slice (some ⟨g, 0, none⟩) n cap) ∧ w.heap.size ≤ g ∧ n ≤ cap ∧ Below w.heap.size w w' ∧ w.drawn ≤ w'.drawn ∧ w'.heap[g]? = some (.cells cur t (0, 0)) ∧ ∀ E' : Env, VRs E' xs (cur.toList.take xs.length)) : BFn P G f args n xs t := by
  intro m E w cargs hG hm hv
  refine (h m E w cargs hm hv).mono ?_
  rintro e w' ⟨g, cap, c, rfl, hg0, hcap, hb, hdr, hc, hx⟩
  have hg : MemR E m w' := hm.grow fun b hlt => hb.block b hlt
  have hs : Step NoX E m w E m w' := ⟨.refl E, Nat.le_refl _, fun _ _ _ => rfl, fun _ _ _ hn => ⟨fun _ => rfl, hn⟩, hb.os, hb.tape, hb.output, hdr, hb.size, fun b hlt _ => hb.block b hlt, fun i b hi _ => ⟨i, hi⟩, fun _ _ _ h => .inl h⟩
  have hf := hm.fresh m.next (Nat.le_refl _)
  have hs1 : Step NoX E ⟨m.obj, m.next + 1⟩ w E ⟨m.obj, m.next + 1⟩ w' := { hs with next := Nat.le_refl _, oldφ := fun _ _ _ => rfl, oldloc := fun _ _ _ hn => ⟨fun _ => rfl, hn⟩ }
  have hM : ∀ o, E.M g o = none := fun o => by
    cases hq : E.M g o with
    | none => rfl
    | some v => exact absurd (hm.M_lt hq) (by omega)
  obtain ⟨E', k1, k2, k3⟩ := MemR.oldBox (i := m.next) hs1 rfl (hg.skip 1) (by show m.next < m.next + 1; omega) hf.1 hf.1 hf.2.2 hf.2.1 (hx E) t hg0 hc hM (fun j hj => absurd (hm.blk_lt hj) (by omega))
  refine ⟨_, .bsl m.next 0 n n, (⟨m.obj, m.next + 1⟩ : Mm).put m.next (.box xs t), E', rfl, ⟨fun q hq => if_neg (by omega), .inr ⟨h0, hcl, m.next, Nat.le_refl _, rfl, if_pos rfl⟩⟩, ?_, k2, ⟨_, k3, cap, rfl, Nat.le_refl _, hcap⟩⟩
  refine { k1 with next := ?_, oldφ := fun i hi _ => k1.oldφ i (by show i < m.next + 1; omega) (by omega), oldloc := fun i hi _ => k1.oldloc i (by show i < m.next + 1; omega) (by omega) }
  show m.next ≤ m.next + 1
  omega
theorem At.prefix {E : Env} {b : Nat} : ∀ {xs ys : List V} {o : Nat}, At E b o (xs ++ ys) → At E b o xs
  | [], _, _, _ => by rw [At]; trivial
  | v :: xs, ys, o, h => by
    rw [List.cons_append, At] at h
    rw [At]
    exact ⟨h.1, At.prefix h.2⟩
/-- Less is said of a row that is answered. -/
theorem Fn.trim {P : Program} {G : Ground} {f : FuncId} {args : List V} {n : Nat} {xs ys : List V} (h : Fn P G f args (.sl n (xs ++ ys) .no)) : Fn P G f args (.sl n xs .no) := by
  intro m E w cargs hG hm hv
  refine (h m E w cargs hG hm hv).mono ?_
  rintro e w' ⟨v, r, m', E', he, ⟨rfl, rfl⟩, hs, hm', hr⟩
  refine ⟨v, .sl n xs .no, m', E', he, ⟨rfl, rfl⟩, hs, hm', ?_⟩
  rw [VR] at hr ⊢
  obtain ⟨A, cap, e1, hn, hk, hc, hx⟩ := hr
  refine ⟨A, cap, e1, hn, hk, ?_, ?_⟩
  · have := clean_slice hc 0 xs.length
    simpa using this
  · rcases hx with hx | ⟨b, o, e2, ha⟩
    · exact .inl (List.append_eq_nil_iff.1 hx).1
    · exact .inr ⟨b, o, e2, At.prefix ha⟩
end Go.Proofs.YtdefefeifcdogaaGreat
namespace Go.Proofs.YtdefefeifcdogaaGreat
open Go.Shelf
def lSortS_ren : Go.Shelf.Ren := ⟨fun | 6 => 176 | 15 => 225 | 14 => 224 | 28 => 270 | 29 => 271 | 20 => 262 | 21 => 263 | 22 => 264 | 23 => 265 | 24 => 266 | 25 => 267 | 26 => 268 | 27 => 269 | 46 => 318 | 47 => 319 | 48 => 320 | 49 => 321 | 50 => 322 | 57 => 347 | n => n, fun | 22 => 81 | 24 => 110 | 25 => 167 | 3 => 3 | 39 => 283 | 0 => 0 | 53 => 340 | 55 => 342 | 4 => 4 | 46 => 334 | 45 => 333 | 50 => 212 | 5 => 5 | 9 => 9 | 66 => 389 | 70 => 393 | 76 => 411 | 77 => 412 | n => n, fun | n => n⟩
theorem lSortS : Go.Proofs.SlLaysF0.n6 Tryz.prog lSortS_ren := {
  mixed := by kernel_rfl
  f6 := ⟨Tryz.f176.name, by decide, Tryz.func176.trans (congrArg some (by kernel_rfl))⟩
  f14 := ⟨Tryz.f224.name, by decide, Tryz.func224.trans (congrArg some (by kernel_rfl))⟩
  f15 := Tryz.func225.trans (congrArg some (by kernel_rfl))
  f20 := ⟨Tryz.f262.name, by decide, Tryz.func262.trans (congrArg some (by kernel_rfl))⟩
  f21 := ⟨Tryz.f263.name, by decide, Tryz.func263.trans (congrArg some (by kernel_rfl))⟩
  f22 := ⟨Tryz.f264.name, by decide, Tryz.func264.trans (congrArg some (by kernel_rfl))⟩
  f23 := ⟨Tryz.f265.name, by decide, Tryz.func265.trans (congrArg some (by kernel_rfl))⟩
  f24 := ⟨Tryz.f266.name, by decide, Tryz.func266.trans (congrArg some (by kernel_rfl))⟩
  f25 := ⟨Tryz.f267.name, by decide, Tryz.func267.trans (congrArg some (by kernel_rfl))⟩
  f26 := ⟨Tryz.f268.name, by decide, Tryz.func268.trans (congrArg some (by kernel_rfl))⟩
  f27 := ⟨Tryz.f269.name, by decide, Tryz.func269.trans (congrArg some (by kernel_rfl))⟩
  f28 := Tryz.func270.trans (congrArg some (by kernel_rfl))
  f29 := Tryz.func271.trans (congrArg some (by kernel_rfl))
  f46 := ⟨Tryz.f318.name, by decide, Tryz.func318.trans (congrArg some (by kernel_rfl))⟩
  f47 := Tryz.func319.trans (congrArg some (by kernel_rfl))
  f48 := Tryz.func320.trans (congrArg some (by kernel_rfl))
  f49 := ⟨Tryz.f321.name, by decide, Tryz.func321.trans (congrArg some (by kernel_rfl))⟩
  f50 := ⟨Tryz.f322.name, by decide, Tryz.func322.trans (congrArg some (by kernel_rfl))⟩
  f57 := ⟨Tryz.f347.name, by decide, Tryz.func347.trans (congrArg some (by kernel_rfl))⟩
  t0 := Tryz.underlying0
  a0 := Tryz.isAgg0
  z0 := Tryz.sizeOf0
  v0 := Tryz.zeroValue0
  t3 := Tryz.underlying3
  a3 := Tryz.isAgg3
  z3 := Tryz.sizeOf3
  v3 := Tryz.zeroValue3
  t4 := Tryz.underlying4
  a4 := Tryz.isAgg4
  z4 := Tryz.sizeOf4
  v4 := Tryz.zeroValue4
  t5 := Tryz.underlying5
  a5 := Tryz.isAgg5
  z5 := Tryz.sizeOf5
  v5 := Tryz.zeroValue5
  t9 := Tryz.underlying9
  a9 := Tryz.isAgg9
  z9 := Tryz.sizeOf9
  v9 := Tryz.zeroValue9
  t22 := Tryz.underlying81
  a22 := Tryz.isAgg81
  z22 := Tryz.sizeOf81
  v22 := Tryz.zeroValue81
  t25 := Tryz.underlying167
  a25 := Tryz.isAgg167
  z25 := Tryz.sizeOf167
  v25 := Tryz.zeroValue167
  t39 := Tryz.underlying283
  a39 := Tryz.isAgg283
  z39 := Tryz.sizeOf283
  v39 := Tryz.zeroValue283
  t45 := Tryz.underlying333
  a45 := Tryz.isAgg333
  z45 := Tryz.sizeOf333
  v45 := Tryz.zeroValue333
  t46 := Tryz.underlying334
  a46 := Tryz.isAgg334
  z46 := Tryz.sizeOf334
  v46 := Tryz.zeroValue334
  t50 := Tryz.underlying212
  a50 := Tryz.isAgg212
  z50 := Tryz.sizeOf212
  v50 := Tryz.zeroValue212
  t53 := Tryz.underlying340
  a53 := Tryz.isAgg340
  z53 := Tryz.sizeOf340
  v53 := Tryz.zeroValue340
  t55 := Tryz.underlying342
  a55 := Tryz.isAgg342
  z55 := Tryz.sizeOf342
  v55 := Tryz.zeroValue342
  t66 := Tryz.underlying389
  a66 := Tryz.isAgg389
  z66 := Tryz.sizeOf389
  v66 := Tryz.zeroValue389
  t70 := Tryz.underlying393
  a70 := Tryz.isAgg393
  z70 := Tryz.sizeOf393
  v70 := Tryz.zeroValue393
  t76 := Tryz.underlying411
  a76 := Tryz.isAgg411
  z76 := Tryz.sizeOf411
  v76 := Tryz.zeroValue411
  t77 := Tryz.underlying412
  a77 := Tryz.isAgg412
  z77 := Tryz.sizeOf412
  v77 := Tryz.zeroValue412 }
def lSortI_ren : Go.Shelf.Ren := ⟨fun | 6 => 180 | 15 => 225 | 14 => 227 | 28 => 270 | 29 => 271 | 20 => 272 | 21 => 273 | 22 => 274 | 23 => 275 | 24 => 276 | 25 => 277 | 26 => 278 | 27 => 279 | 46 => 323 | 47 => 319 | 48 => 320 | 49 => 324 | 50 => 325 | 57 => 348 | n => n, fun | 22 => 23 | 24 => 3 | 25 => 75 | 3 => 3 | 39 => 283 | 0 => 0 | 53 => 340 | 55 => 342 | 4 => 4 | 46 => 334 | 45 => 333 | 50 => 212 | 5 => 5 | 9 => 9 | 66 => 389 | 70 => 393 | 76 => 411 | 77 => 412 | n => n, fun | n => n⟩
theorem lSortI : Go.Proofs.SlLaysF.n6 Tryz.prog lSortI_ren := {
  mixed := by kernel_rfl
  f6 := ⟨Tryz.f180.name, by decide, Tryz.func180.trans (congrArg some (by kernel_rfl))⟩
  f14 := ⟨Tryz.f227.name, by decide, Tryz.func227.trans (congrArg some (by kernel_rfl))⟩
  f15 := Tryz.func225.trans (congrArg some (by kernel_rfl))
  f20 := ⟨Tryz.f272.name, by decide, Tryz.func272.trans (congrArg some (by kernel_rfl))⟩
  f21 := ⟨Tryz.f273.name, by decide, Tryz.func273.trans (congrArg some (by kernel_rfl))⟩
  f22 := ⟨Tryz.f274.name, by decide, Tryz.func274.trans (congrArg some (by kernel_rfl))⟩
  f23 := ⟨Tryz.f275.name, by decide, Tryz.func275.trans (congrArg some (by kernel_rfl))⟩
  f24 := ⟨Tryz.f276.name, by decide, Tryz.func276.trans (congrArg some (by kernel_rfl))⟩
  f25 := ⟨Tryz.f277.name, by decide, Tryz.func277.trans (congrArg some (by kernel_rfl))⟩
  f26 := ⟨Tryz.f278.name, by decide, Tryz.func278.trans (congrArg some (by kernel_rfl))⟩
  f27 := ⟨Tryz.f279.name, by decide, Tryz.func279.trans (congrArg some (by kernel_rfl))⟩
  f28 := Tryz.func270.trans (congrArg some (by kernel_rfl))
  f29 := Tryz.func271.trans (congrArg some (by kernel_rfl))
  f46 := ⟨Tryz.f323.name, by decide, Tryz.func323.trans (congrArg some (by kernel_rfl))⟩
  f47 := Tryz.func319.trans (congrArg some (by kernel_rfl))
  f48 := Tryz.func320.trans (congrArg some (by kernel_rfl))
  f49 := ⟨Tryz.f324.name, by decide, Tryz.func324.trans (congrArg some (by kernel_rfl))⟩
  f50 := ⟨Tryz.f325.name, by decide, Tryz.func325.trans (congrArg some (by kernel_rfl))⟩
  f57 := ⟨Tryz.f348.name, by decide, Tryz.func348.trans (congrArg some (by kernel_rfl))⟩
  t0 := Tryz.underlying0
  a0 := Tryz.isAgg0
  z0 := Tryz.sizeOf0
  v0 := Tryz.zeroValue0
  t3 := Tryz.underlying3
  a3 := Tryz.isAgg3
  z3 := Tryz.sizeOf3
  v3 := Tryz.zeroValue3
  t4 := Tryz.underlying4
  a4 := Tryz.isAgg4
  z4 := Tryz.sizeOf4
  v4 := Tryz.zeroValue4
  t5 := Tryz.underlying5
  a5 := Tryz.isAgg5
  z5 := Tryz.sizeOf5
  v5 := Tryz.zeroValue5
  t9 := Tryz.underlying9
  a9 := Tryz.isAgg9
  z9 := Tryz.sizeOf9
  v9 := Tryz.zeroValue9
  t22 := Tryz.underlying23
  a22 := Tryz.isAgg23
  z22 := Tryz.sizeOf23
  v22 := Tryz.zeroValue23
  a24 := Tryz.isAgg3
  z24 := Tryz.sizeOf3
  t25 := Tryz.underlying75
  a25 := Tryz.isAgg75
  z25 := Tryz.sizeOf75
  v25 := Tryz.zeroValue75
  t39 := Tryz.underlying283
  a39 := Tryz.isAgg283
  z39 := Tryz.sizeOf283
  v39 := Tryz.zeroValue283
  t45 := Tryz.underlying333
  a45 := Tryz.isAgg333
  z45 := Tryz.sizeOf333
  v45 := Tryz.zeroValue333
  t46 := Tryz.underlying334
  a46 := Tryz.isAgg334
  z46 := Tryz.sizeOf334
  v46 := Tryz.zeroValue334
  t50 := Tryz.underlying212
  a50 := Tryz.isAgg212
  z50 := Tryz.sizeOf212
  v50 := Tryz.zeroValue212
  t53 := Tryz.underlying340
  a53 := Tryz.isAgg340
  z53 := Tryz.sizeOf340
  v53 := Tryz.zeroValue340
  t55 := Tryz.underlying342
  a55 := Tryz.isAgg342
  z55 := Tryz.sizeOf342
  v55 := Tryz.zeroValue342
  t66 := Tryz.underlying389
  a66 := Tryz.isAgg389
  z66 := Tryz.sizeOf389
  v66 := Tryz.zeroValue389
  t70 := Tryz.underlying393
  a70 := Tryz.isAgg393
  z70 := Tryz.sizeOf393
  v70 := Tryz.zeroValue393
  t76 := Tryz.underlying411
  a76 := Tryz.isAgg411
  z76 := Tryz.sizeOf411
  v76 := Tryz.zeroValue411
  t77 := Tryz.underlying412
  a77 := Tryz.isAgg412
  z77 := Tryz.sizeOf412
  v77 := Tryz.zeroValue412 }
end Go.Proofs.YtdefefeifcdogaaGreat
namespace Go.Proofs.YtdefefeifcdogaaGreat
open Go.RowKit
set_option linter.unusedSimpArgs false
set_option linter.unusedVariables false

theorem grow_of {w w' : World} (hb : Below w.heap.size w w') (hd : w.drawn ≤ w'.drawn) : ∃ (q : Nat) (os : Array Obj), w' = Sort.grow (w.drewN q) os := by
  refine ⟨w'.drawn - w.drawn, w'.heap.extract w.heap.size w'.heap.size, ?_⟩
  obtain ⟨h1, h2, h3, h4, h5⟩ := hb
  obtain ⟨heap', tape', drawn', os', output'⟩ := w'
  obtain ⟨heap, tape, drawn, os, output⟩ := w
  dsimp only at h1 h2 h3 h4 h5 hd
  subst h1
  subst h2
  subst h3
  have e1 : heap' = heap ++ heap'.extract heap.size heap'.size := by
    apply Array.ext_getElem?
    intro k
    by_cases hk : k < heap.size
    · rw [Array.getElem?_append_left hk, h5 k hk]
    · rw [Array.getElem?_append_right (by omega), Array.getElem?_extract]
      by_cases hk2 : k < heap'.size
      · rw [if_pos (by omega)]
        congr 1
        omega
      · rw [if_neg (by omega), Array.getElem?_eq_none (by omega)]
  have e2 : drawn' = drawn + (drawn' - drawn) := by omega
  unfold Sort.grow World.drewN
  dsimp only
  rw [← e1, ← e2]
theorem Fn.grown {f : FuncId} {args : List V} {r : V} (h : Fn Tryz.prog Gd f args r) {w : World} {cargs : Array Value} (hv : VRs ⟨fun _ _ => none, fun _ => none, fun _ _ => none⟩ args cargs.toList) :
    Calls Tryz.prog f cargs w fun e w' => (∃ (v : Value) (E' : Env), e = .returned v ∧ VR E' r v) ∧ ∃ (q : Nat) (os : Array Obj), w' = Sort.grow (w.drewN q) os := by
  have hm : MemR ⟨fun _ _ => none, fun _ => none, fun _ _ => none⟩ ⟨fun _ => none, 0⟩ w :=
    ⟨(fun _ _ _ h => by cases h), (fun i _ => ⟨rfl, fun _ => rfl, rfl⟩), (fun i _ _ h => by cases h), (fun i _ _ _ h => by cases h), (fun i _ h => by cases h), (fun i j b h => by rcases h with ⟨_, _, h, _⟩ | ⟨_, _, _, _, h, _⟩ | ⟨_, h, _⟩ <;> cases h), (fun _ _ _ _ _ _ _ _ h => by cases h)⟩
  refine (h ⟨fun _ => none, 0⟩ _ w cargs trivial hm hv).mono ?_
  rintro e w' ⟨v, r', m', E', he, ⟨rfl, rfl⟩, hs, hm', hr⟩
  exact ⟨⟨v, E', he, hr⟩, grow_of (hs.below fun _ => rfl) hs.drawn⟩
def encS (s : Sg) : List Value := [.int .i64 s.v, .bool s.d, .bool s.t]
theorem order_i (x y : Sg) (W : World) : Calls Tryz.prog 118 #[.agg (encS x).toArray, .agg (encS y).toArray] W fun e w' => e = .returned (.int .i64 (ordS x y)) ∧ ∃ (q : Nat) (os : Array Obj), w' = Sort.grow (W.drewN q) os := by
  refine ((order_fn x y).grown (w := W) (cargs := #[.agg (encS x).toArray, .agg (encS y).toArray]) ?_).mono ?_
  · have h : ∀ s : Sg, VR ⟨fun _ _ => none, fun _ => none, fun _ _ => none⟩ s.val (.agg (encS s).toArray) := fun s => ⟨_, rfl, _, _, rfl, VR_mk rfl, _, _, rfl, VR_mk rfl, _, _, rfl, VR_mk rfl, rfl⟩
    exact ⟨_, _, rfl, h x, _, _, rfl, h y, rfl⟩
  · rintro e w' ⟨⟨v, E', rfl, h1, _⟩, h2⟩
    exact ⟨by rw [h1], h2⟩
theorem compare_i (x y : Int) (W : World) : Calls Tryz.prog 121 #[.int .i64 x, .int .i64 y] W fun e w' => e = .returned (.int .i64 (cmpI x y)) ∧ ∃ (q : Nat) (os : Array Obj), w' = Sort.grow (W.drewN q) os := by
  refine ((compare_fn x y).grown (w := W) (cargs := #[.int .i64 x, .int .i64 y]) ?_).mono ?_
  · exact ⟨_, _, rfl, VR_mk rfl, _, _, rfl, VR_mk rfl, rfl⟩
  · rintro e w' ⟨⟨v, E', rfl, h1, _⟩, h2⟩
    exact ⟨by rw [h1], h2⟩
end Go.Proofs.YtdefefeifcdogaaGreat
namespace Go.Proofs.YtdefefeifcdogaaGreat
open Go.RowKit
set_option linter.unusedSimpArgs false
set_option linter.unusedVariables false

theorem ordS_lt (a b : Sg) : decide (ordS a b < 0) = decide (keyS a < keyS b) := by
  have h := ordS_bef a b
  have h2 := befS_iff a b
  by_cases hk : keyS a < keyS b
  · rw [h2.2 hk] at h
    have : ¬ 0 ≤ ordS a b := of_decide_eq_false h
    rw [decide_eq_true hk, decide_eq_true (by omega)]
  · have h3 : befS a b = false := by rw [Bool.eq_false_iff]; exact fun e => hk (h2.1 e)
    rw [h3] at h
    have : 0 ≤ ordS a b := of_decide_eq_true h
    rw [decide_eq_false hk, decide_eq_false (by omega)]
theorem swoS : Sort.SWO (ltOf ordS) where
  irrefl x := by unfold ltOf; rw [ordS_lt]; simp
  trans x y z h1 h2 := by unfold ltOf at *; rw [ordS_lt] at *; simp at *; omega
  ntrans x y z h1 h2 := by unfold ltOf at *; rw [ordS_lt] at *; simp at *; omega
theorem cmpI_lt (a b : Int) : decide (cmpI a b < 0) = decide (a < b) := by
  unfold cmpI
  by_cases h1 : a < b
  · rw [if_pos h1]; simp [h1]
  · rw [if_neg h1]
    by_cases h2 : b < a <;> simp [h1, h2]
theorem swoI : Sort.SWO (ltOf cmpI) where
  irrefl x := by unfold ltOf; rw [cmpI_lt]; simp
  trans x y z h1 h2 := by unfold ltOf at *; rw [cmpI_lt] at *; simp at *; omega
  ntrans x y z h1 h2 := by unfold ltOf at *; rw [cmpI_lt] at *; simp at *; omega
/-- What a library's sort leaves, as a list. -/
theorem sorted_list {α : Type} [Inhabited α] {lt : α → α → Bool} {d d' : Array α} (hp : Sort.PermIn 0 d.size d d') (hs : Sort.SortedIn lt 0 d.size d') :
    d'.toList.Perm d.toList ∧ d'.size = d.size ∧ ∀ i, i + 1 < d'.toList.length → lt (d'.toList.getD (i + 1) default) (d'.toList.getD i default) = false := by
  obtain ⟨h1, _, h3⟩ := hp
  have e1 : d'.extract 0 d.size = d' := by rw [← h1, Array.extract_size]
  rw [e1, Array.extract_size] at h3
  refine ⟨h3, h1, fun i hi => ?_⟩
  rw [Array.length_toList] at hi
  have := hs i (i + 1) (Nat.zero_le _) (Nat.lt_succ_self _) (by omega)
  rw [getElem!_pos d' i (by omega), getElem!_pos d' (i + 1) hi] at this
  rw [List.getD_eq_getElem?_getD, List.getD_eq_getElem?_getD, Array.getElem?_toList, Array.getElem?_toList, Array.getElem?_eq_getElem hi, Array.getElem?_eq_getElem (by omega : i < d'.size)]
  exact this
theorem encS_cells (l : List Sg) : l.flatMap Sg.cells = (l.flatMap encS).map V.lit := by
  induction l with
  | nil => rfl
  | cons x l ih => rw [List.flatMap_cons, List.flatMap_cons, List.map_append, ih]; rfl
theorem encI_cells (l : List Int) : l.map vint = (l.map (Value.int .i64)).map V.lit := by rw [List.map_map]; rfl
theorem flat_encS (l : List Sg) : ∀ u ∈ l.flatMap encS, flat u = true := by
  intro u hu
  obtain ⟨s, _, h⟩ := List.mem_flatMap.1 hu
  simp only [encS, List.mem_cons, List.not_mem_nil, or_false] at h
  rcases h with rfl | rfl | rfl <;> rfl
/-- What the sort of a box leaves. -/
def SrtS (d : List Sg) (L : List Value) : Prop := ∃ d' : List Sg, L = d'.flatMap encS ∧ d'.Perm d ∧ ∀ i, i + 1 < d'.length → keyS (d'.getD i default) ≤ keyS (d'.getD (i + 1) default)
def SrtI (d : List Int) (L : List Value) : Prop := ∃ d' : List Int, L = d'.map (Value.int .i64) ∧ d'.Perm d ∧ ∀ i, i + 1 < d'.length → d'.getD i default ≤ d'.getD (i + 1) default
theorem sortS_sfn {m : Mm} {i : Nat} {a : V} (d : List Sg) (hl : d.length ≤ 1000000) (ha : (∃ cap, a = .bsl i 0 d.length cap) ∨ ∃ s, a = .gsl i d.length s) (ho : m.obj i = some (.box (d.flatMap Sg.cells) 110)) :
    SFn Tryz.prog Gd 176 [a, .fn 118 []] m (RowPost m i 110 (SrtS d)) := by
  rw [encS_cells] at ho
  refine row_sfn (xs := [.func (.func 118) #[] #[]]) (SrtS d) ha (fun E cl h => ?_) ho fun w b cap' c hh htk hn => ?_
  · obtain ⟨c1, l1, rfl, h1, h2⟩ := h
    obtain ⟨x, rfl, h3⟩ := h1
    obtain rfl : x = #[] := by apply Array.ext'; exact h3
    rw [show l1 = [] from h2]
  have hk : ∀ x, (encS x).length = 3 := fun _ => rfl
  have hfl := flatK_list hk (by omega) d.toArray
  have hlen : (d.flatMap encS).length = d.length * 3 := flat_lenK hk d
  have eg : ∀ args w, (callFunc 118 args).run Tryz.prog w = .ok (.enter 118 args) w := enters_of Tryz.func118 (by kernel_rfl) rfl
  have hH : Sort.HoldsK encS 3 w b 0 d.toArray := holds_of id hh _ (by rw [Sort.size_flatK, hfl, List.map_id, List.size_toArray, ← hlen]; exact htk)
  have hblk : b < w.heap.size := (Array.getElem?_eq_some_iff.1 hh).1
  have hc0 : d.length * 3 ≤ c.size := by
    have := congrArg List.length htk
    rw [List.length_take, hlen] at this
    have e := Array.length_toList (xs := c)
    omega
  refine (AnyQ.slices_SortFunc lSortS 3 Tryz.isAgg110 Tryz.sizeOf110 encS hk (fun x v hv => by simp only [encS, List.mem_cons, List.not_mem_nil, or_false] at hv; rcases hv with rfl | rfl | rfl <;> rfl) ordS swoS 118 #[] b 0 cap' d.toArray w eg (fun _ _ _ _ x y => order_i x y _) hH hblk (by rw [List.size_toArray]; omega)).mono ?_
  rintro e w' ⟨rfl, d', n0, os, hp, hs, rfl⟩
  obtain ⟨p1, p2, p3⟩ := sorted_list hp hs
  obtain ⟨r1, r2⟩ := putRow_to id hh n0 (Sort.flatK encS 3 d') os
  replace p2 : d'.size = d.length := p2
  have hfl' := flatK_list hk (by omega) d'
  have hsz : (Sort.flatK encS 3 d').size = d.length * 3 := by rw [Sort.size_flatK, p2]
  refine ⟨rfl, d'.toList.flatMap encS, _, ⟨d'.toList, rfl, p1, fun i hi => ?_⟩, by rw [flat_lenK hk, flat_lenK hk, Array.length_toList, p2], flat_encS _, r1, r2, putCells_size .., ?_⟩
  · have := p3 i hi
    unfold ltOf at this
    rw [ordS_lt, decide_eq_false_iff_not] at this
    omega
  · have := putCells_list id (Sort.flatK encS 3 d') c (by rw [hsz]; exact hc0)
    rw [hsz, hfl', List.map_id, ← hlen] at this
    exact this
theorem sortI_sfn {m : Mm} {i : Nat} {a : V} (d : List Int) (hl : d.length ≤ 1000000) (ha : (∃ cap, a = .bsl i 0 d.length cap) ∨ ∃ s, a = .gsl i d.length s) (ho : m.obj i = some (.box (d.map vint) 3)) :
    SFn Tryz.prog Gd 180 [a, .fn 121 []] m (RowPost m i 3 (SrtI d)) := by
  rw [encI_cells] at ho
  refine row_sfn (xs := [.func (.func 121) #[] #[]]) (SrtI d) ha (fun E cl h => ?_) ho fun w b cap' c hh htk hn => ?_
  · obtain ⟨c1, l1, rfl, h1, h2⟩ := h
    obtain ⟨x, rfl, h3⟩ := h1
    obtain rfl : x = #[] := by apply Array.ext'; exact h3
    rw [show l1 = [] from h2]
  rw [List.length_map] at htk
  have eg : ∀ args w, (callFunc 121 args).run Tryz.prog w = .ok (.enter 121 args) w := enters_of Tryz.func121 (by kernel_rfl) rfl
  have hH : Sort.Holds (Value.int .i64) w b 0 d.toArray := holds_of _ hh _ (by rw [List.size_toArray]; exact htk)
  have hblk : b < w.heap.size := (Array.getElem?_eq_some_iff.1 hh).1
  have hc0 : d.length ≤ c.size := by
    have := congrArg List.length htk
    rw [List.length_take, List.length_map] at this
    have e := Array.length_toList (xs := c)
    omega
  refine (Any.slices_SortFunc lSortI (Value.int .i64) (fun _ => rfl) cmpI swoI 121 #[] b 0 cap' d.toArray w eg (fun _ _ _ _ x y => compare_i x y _) hH hblk (by rw [List.size_toArray]; omega)).mono ?_
  rintro e w' ⟨rfl, d', n0, os, hp, hs, rfl⟩
  obtain ⟨p1, p2, p3⟩ := sorted_list hp hs
  obtain ⟨r1, r2⟩ := putRow_to (Value.int .i64) hh n0 d' os
  replace p2 : d'.size = d.length := p2
  refine ⟨rfl, d'.toList.map (Value.int .i64), _, ⟨d'.toList, rfl, p1, fun i hi => ?_⟩, by rw [List.length_map, List.length_map, Array.length_toList, p2], ?_, r1, r2, putCells_size .., ?_⟩
  · have := p3 i hi
    unfold ltOf at this
    rw [cmpI_lt, decide_eq_false_iff_not] at this
    omega
  · intro u hu
    obtain ⟨n, _, rfl⟩ := List.mem_map.1 hu
    rfl
  · have := putCells_list (Value.int .i64) d' c (by omega)
    rw [p2] at this
    rw [List.length_map]
    exact this
end Go.Proofs.YtdefefeifcdogaaGreat
namespace Go.Proofs.YtdefefeifcdogaaGreat
open Go.RowKit
set_option linter.unusedSimpArgs false
set_option linter.unusedVariables false

theorem row_lit {E : Env} {m : Mm} {w : World} (hm : MemR E m w) {n k size : Nat} {L : List Value} {c : Value} (hn : n = k) (h0 : L ≠ []) (hl : L.length = k * size) (h : VR E (.sl n (L.map V.lit) .no) c) :
    ∃ (a : Addr) (cap : Nat), c = .slice (some a) n cap ∧ (∀ (j : Nat) (u : Value), L[j]? = some u → w.cell? (a.add j) = some u) ∧ ∀ u ∈ L, u.oneCell' = true := by
  subst hn
  have hs : 0 < size := by
    rcases Nat.eq_zero_or_pos size with e | e
    · subst e
      rw [Nat.mul_zero] at hl
      exact absurd (List.length_eq_zero_iff.1 hl) h0
    · exact e
  obtain ⟨A, cap, cs, rfl, _, _, hcl, hvs, h5⟩ := sl_cells hm h (size := size) (by rw [List.length_map]; exact hl) hs
  obtain ⟨rfl, _⟩ := vrs_lit hvs
  have ho := hvs.ones (clean_iff.1 hcl).2
  rcases h5 with ⟨_, e⟩ | ⟨b, o, rfl, _, h5⟩
  · exact absurd e h0
  · exact ⟨_, cap, rfl, h5, ho⟩
theorem concatS_bfn (xs ys : List Sg) (p1 : 0 < xs.length) (p2 : 0 < ys.length) (q1 : xs.length ≤ 1000) (q2 : ys.length ≤ 1000) :
    BFn Tryz.prog Gd 175 [.sl 2 [.sl xs.length (xs.flatMap Sg.cells) .no, .sl ys.length (ys.flatMap Sg.cells) .no] .no] (xs.length + ys.length) ((xs ++ ys).flatMap Sg.cells) 110 := by
  have hk : ∀ x, (encS x).length = 3 := fun _ => rfl
  have l1 : (xs.flatMap encS).length = xs.length * 3 := flat_lenK hk xs
  have l2 : (ys.flatMap encS).length = ys.length * 3 := flat_lenK hk ys
  have n1 : xs.flatMap encS ≠ [] := fun h => by rw [h] at l1; simp at l1; omega
  have n2 : ys.flatMap encS ≠ [] := fun h => by rw [h] at l2; simp at l2; omega
  rw [encS_cells, encS_cells, encS_cells]
  refine BFn.of_own (by omega) ?_ fun m E w cargs hm hv => ?_
  · rw [V.clean, Bool.and_eq_true]
    constructor
    · have : ∀ l : List Value, V.pures (l.map V.lit) = true := fun l => by
        induction l with
        | nil => rw [List.map_nil, V.pures]
        | cons a l ih => rw [List.map_cons, V.pures, ih, V.pure]; rfl
      exact this _
    · rw [List.all_eq_true]
      intro v hv
      obtain ⟨u, hu, rfl⟩ := List.mem_map.1 hv
      obtain ⟨s, _, h⟩ := List.mem_flatMap.1 hu
      simp only [encS, List.mem_cons, List.not_mem_nil, or_false] at h
      rcases h with rfl | rfl | rfl <;> rfl
  rw [VRs] at hv
  obtain ⟨c1, t1, e1, h1, h2⟩ := hv
  rw [VRs] at h2
  subst h2
  rw [VR] at h1
  obtain ⟨A, cap, rfl, hcap, _, _, hx⟩ := h1
  obtain ⟨b, o, rfl, ha⟩ := hx.resolve_left (by simp)
  rw [At, At] at ha
  obtain ⟨⟨v1, hM1, hv1⟩, ⟨v2, hM2, hv2⟩, _⟩ := ha
  obtain ⟨a1, cap1, rfl, x1, o1⟩ := row_lit (k := xs.length) (size := 3) hm rfl n1 l1 hv1
  obtain ⟨a2, cap2, rfl, x2, o2⟩ := row_lit (k := ys.length) (size := 3) hm rfl n2 l2 hv2
  obtain rfl : cargs = #[.slice (some ⟨b, o, none⟩) 2 cap] := by apply Array.ext'; rw [e1]
  refine (concatS_any w b o cap a1 a2 xs.length cap1 ys.length cap2 _ _ (hm.stable _ _ _ hM1) (hm.stable _ _ _ hM2) p1 p2 q1 q2 l1 l2 x1 x2 o1 o2).mono ?_
  rintro e w' ⟨g, cap', cur, rfl, h3, h4, h5, h6, h7, h8⟩
  refine ⟨g, cap', cur, rfl, h3, h4, h5, h6, h7, fun E' => ?_⟩
  rw [List.flatMap_append, List.length_map, List.length_append, l1, l2, ← Nat.add_mul, h8]
  refine lit_vrs fun u hu => ?_
  rw [← List.flatMap_append] at hu
  exact flat_encS _ u hu
theorem concatI_bfn (xs ys : List Int) (p1 : 0 < xs.length) (p2 : 0 < ys.length) (q1 : xs.length ≤ 1000) (q2 : ys.length ≤ 1000) :
    BFn Tryz.prog Gd 179 [.sl 2 [.sl xs.length (xs.map vint) .no, .sl ys.length (ys.map vint) .no] .no] (xs.length + ys.length) ((xs ++ ys).map vint) 3 := by
  have l1 : (xs.map (Value.int .i64)).length = xs.length * 1 := by rw [List.length_map, Nat.mul_one]
  have l2 : (ys.map (Value.int .i64)).length = ys.length * 1 := by rw [List.length_map, Nat.mul_one]
  have n1 : xs.map (Value.int .i64) ≠ [] := fun h => by rw [h] at l1; simp at l1; omega
  have n2 : ys.map (Value.int .i64) ≠ [] := fun h => by rw [h] at l2; simp at l2; omega
  rw [encI_cells, encI_cells, encI_cells]
  refine BFn.of_own (by omega) ?_ fun m E w cargs hm hv => ?_
  · rw [V.clean, Bool.and_eq_true]
    constructor
    · have : ∀ l : List Value, V.pures (l.map V.lit) = true := fun l => by
        induction l with
        | nil => rw [List.map_nil, V.pures]
        | cons a l ih => rw [List.map_cons, V.pures, ih, V.pure]; rfl
      exact this _
    · rw [List.all_eq_true]
      intro v hv
      obtain ⟨u, hu, rfl⟩ := List.mem_map.1 hv
      obtain ⟨s, _, rfl⟩ := List.mem_map.1 hu
      rfl
  rw [VRs] at hv
  obtain ⟨c1, t1, e1, h1, h2⟩ := hv
  rw [VRs] at h2
  subst h2
  rw [VR] at h1
  obtain ⟨A, cap, rfl, hcap, _, _, hx⟩ := h1
  obtain ⟨b, o, rfl, ha⟩ := hx.resolve_left (by simp)
  rw [At, At] at ha
  obtain ⟨⟨v1, hM1, hv1⟩, ⟨v2, hM2, hv2⟩, _⟩ := ha
  obtain ⟨a1, cap1, rfl, x1, o1⟩ := row_lit (k := xs.length) (size := 1) hm rfl n1 l1 hv1
  obtain ⟨a2, cap2, rfl, x2, o2⟩ := row_lit (k := ys.length) (size := 1) hm rfl n2 l2 hv2
  obtain rfl : cargs = #[.slice (some ⟨b, o, none⟩) 2 cap] := by apply Array.ext'; rw [e1]
  refine (concatI_any w b o cap a1 a2 xs.length cap1 ys.length cap2 _ _ (hm.stable _ _ _ hM1) (hm.stable _ _ _ hM2) p1 p2 q1 q2 l1 l2 x1 x2 o1 o2).mono ?_
  rintro e w' ⟨g, cap', cur, rfl, h3, h4, h5, h6, h7, h8⟩
  refine ⟨g, cap', cur, rfl, h3, h4, h5, h6, h7, fun E' => ?_⟩
  rw [List.map_append, List.length_map, List.length_append, l1, l2, ← Nat.add_mul, h8]
  refine lit_vrs fun u hu => ?_
  rw [List.mem_append, List.mem_map, List.mem_map] at hu
  rcases hu with ⟨n, _, rfl⟩ | ⟨n, _, rfl⟩ <;> rfl
end Go.Proofs.YtdefefeifcdogaaGreat
namespace Go.Proofs.YtdefefeifcdogaaGreat
open Go.RowKit
set_option maxRecDepth 100000

abbrev c_slices_Compact_api_Sign_api_Sign_p1 : VC := (.seq (.ops 0 [oo 9 .mv [.t 0], oo 2 .mv [.t 9]]) .ret)
abbrev c_slices_Compact_api_Sign_api_Sign_p2 : VC := (.ops 0 [oo 52 .mv [.t 3], oo 53 (.bin .add) [.t 52, kk 1], oo 3 .mv [.t 53]])
abbrev c_slices_Compact_api_Sign_api_Sign_p3 : VC := (.seq (.ops 0 [oo 45 .mv [.t 0], oo 46 .mv [.t 3], oo 47 .mv [.t 4], oo 48 .mv [.t 5], oo 49 (.ixA 3) [.t 47, .t 48], oo 50 (.ldA 3) [.t 49], oo 51 (.ixA 3) [.t 45, .t 46], ⟨none, none, (.st 3), [.t 51, .t 50], none⟩]) c_slices_Compact_api_Sign_api_Sign_p2)
abbrev c_slices_Compact_api_Sign_api_Sign_p4 : VC := (.ops 0 [oo 33 .mv [.t 5], oo 34 (.bin .add) [.t 33, kk 1], oo 5 .mv [.t 34]])
abbrev c_slices_Compact_api_Sign_api_Sign_p5 : VC := (.seq (.block 3 (.seq (.ops 0 [oo 35 .mv [.t 4], oo 36 .mv [.t 5], oo 37 (.ixA 3) [.t 35, .t 36], od 38 (.ldA 3) [.t 37] [0, 1, 2], oo 39 .mv [.t 4], oo 40 .mv [.t 5], oo 41 (.bin .sub) [.t 40, kk 1], oo 42 (.ixA 3) [.t 39, .t 41], od 43 (.ldA 3) [.t 42] [4, 5, 6, 7], oo 44 (.eqP [(0, 0), (1, 1), (2, 1)] true) [.t 38, .t 43]]) (.cond (.t 44) c_slices_Compact_api_Sign_api_Sign_p3 .skip))) c_slices_Compact_api_Sign_api_Sign_p4)
abbrev c_slices_Compact_api_Sign_api_Sign_p6 : VC := (.seq (.seq (.ops 0 [oo 29 .mv [.t 5], oo 30 .mv [.t 4], oo 31 .len [.t 30], oo 32 (.bin .lss) [.t 29, .t 31]]) (.cond (.t 32) .skip (.exit 2))) c_slices_Compact_api_Sign_api_Sign_p5)
@[go_sem] abbrev w_slices_Compact_api_Sign_api_Sign_p6 : Nat := 18014397972611112
abbrev c_slices_Compact_api_Sign_api_Sign_p8 : VC := (.seq (.ops 0 [oo 57 .mv [.t 0], oo 58 .mv [.t 3], oo 59 (.slc 3 false true) [.t 57, .t 58], oo 2 .mv [.t 59]]) .ret)
abbrev c_slices_Compact_api_Sign_api_Sign_p9 : VC := (.seq (.ops 0 [oo 54 .mv [.t 0], oo 55 .mv [.t 3], oo 56 (.slc 3 true false) [.t 54, .t 55], ⟨none, none, (.clr 3 [li 0, (.lit (.bool false)), (.lit (.bool false))]), [.t 56], none⟩]) c_slices_Compact_api_Sign_api_Sign_p8)
abbrev c_slices_Compact_api_Sign_api_Sign_p10 : VC := (.seq (.seq (.ops 0 [oo 5 .mv [kk 1]]) (.block 2 (.loop c_slices_Compact_api_Sign_api_Sign_p6))) c_slices_Compact_api_Sign_api_Sign_p9)
abbrev c_slices_Compact_api_Sign_api_Sign_p11 : VC := (.seq (.ops 0 [oo 26 .mv [.t 0], oo 27 .mv [.t 3], oo 28 (.slc 3 true false) [.t 26, .t 27], oo 4 .mv [.t 28]]) c_slices_Compact_api_Sign_api_Sign_p10)
abbrev c_slices_Compact_api_Sign_api_Sign_p12 : VC := (.cond (.t 25) c_slices_Compact_api_Sign_api_Sign_p11 .skip)
abbrev c_slices_Compact_api_Sign_api_Sign_p13 : VC := (.ops 0 [oo 14 .mv [.t 3], oo 15 (.bin .add) [.t 14, kk 1], oo 3 .mv [.t 15]])
abbrev c_slices_Compact_api_Sign_api_Sign_p14 : VC := (.seq (.block 1 (.seq (.ops 0 [oo 16 .mv [.t 0], oo 17 .mv [.t 3], oo 18 (.ixA 3) [.t 16, .t 17], od 19 (.ldA 3) [.t 18] [0, 1, 2], oo 20 .mv [.t 0], oo 21 .mv [.t 3], oo 22 (.bin .sub) [.t 21, kk 1], oo 23 (.ixA 3) [.t 20, .t 22], od 24 (.ldA 3) [.t 23] [4, 5, 6, 7], oo 25 (.eqP [(0, 0), (1, 1), (2, 1)] false) [.t 19, .t 24]]) c_slices_Compact_api_Sign_api_Sign_p12)) c_slices_Compact_api_Sign_api_Sign_p13)
abbrev c_slices_Compact_api_Sign_api_Sign_p15 : VC := (.seq (.seq (.ops 0 [oo 10 .mv [.t 3], oo 11 .mv [.t 0], oo 12 .len [.t 11], oo 13 (.bin .lss) [.t 10, .t 12]]) (.cond (.t 13) .skip (.exit 0))) c_slices_Compact_api_Sign_api_Sign_p14)
@[go_sem] abbrev w_slices_Compact_api_Sign_api_Sign_p15 : Nat := 1152921504606846012
abbrev c_slices_Compact_api_Sign_api_Sign_p17 : VC := (.seq (.ops 0 [oo 60 .mv [.t 0], oo 2 .mv [.t 60]]) .ret)
abbrev c_slices_Compact_api_Sign_api_Sign_p18 : VC := (.seq (.seq (.ops 0 [oo 3 .mv [kk 1]]) (.block 0 (.loop c_slices_Compact_api_Sign_api_Sign_p15))) c_slices_Compact_api_Sign_api_Sign_p17)
abbrev c_slices_Compact_api_Sign_api_Sign_p19 : VC := (.seq (.seq (.ops 0 [oo 6 .mv [.t 0], oo 7 .len [.t 6], oo 8 (.bin .lss) [.t 7, kk 2]]) (.cond (.t 8) c_slices_Compact_api_Sign_api_Sign_p1 .skip)) c_slices_Compact_api_Sign_api_Sign_p18)
def c_slices_Compact_api_Sign_api_Sign : VC := (.seq (.ops 0 [oo 2 .mv [(.c (.sl 0 [] .exact))]]) c_slices_Compact_api_Sign_api_Sign_p19)
theorem k_slices_Compact_api_Sign_api_Sign : Comp Tryz.prog nobx gtab 177 61 c_slices_Compact_api_Sign_api_Sign [.t 2] := ⟨⟨Tryz.f177, _, Tryz.func177, rfl, rfl, kr, kr⟩⟩
abbrev c_slices_Compact_int_int_p1 : VC := (.seq (.ops 0 [oo 9 .mv [.t 0], oo 2 .mv [.t 9]]) .ret)
abbrev c_slices_Compact_int_int_p2 : VC := (.ops 0 [oo 52 .mv [.t 3], oo 53 (.bin .add) [.t 52, kk 1], oo 3 .mv [.t 53]])
abbrev c_slices_Compact_int_int_p3 : VC := (.seq (.ops 0 [oo 45 .mv [.t 0], oo 46 .mv [.t 3], oo 47 .mv [.t 4], oo 48 .mv [.t 5], oo 49 (.ixA 1) [.t 47, .t 48], oo 50 .ld1 [.t 49], oo 51 (.ixA 1) [.t 45, .t 46], ⟨none, none, (.st 1), [.t 51, .t 50], none⟩]) c_slices_Compact_int_int_p2)
abbrev c_slices_Compact_int_int_p4 : VC := (.ops 0 [oo 33 .mv [.t 5], oo 34 (.bin .add) [.t 33, kk 1], oo 5 .mv [.t 34]])
abbrev c_slices_Compact_int_int_p5 : VC := (.seq (.block 3 (.seq (.ops 0 [oo 35 .mv [.t 4], oo 36 .mv [.t 5], oo 37 (.ixA 1) [.t 35, .t 36], od 38 .ld1 [.t 37] [0, 1, 2], oo 39 .mv [.t 4], oo 40 .mv [.t 5], oo 41 (.bin .sub) [.t 40, kk 1], oo 42 (.ixA 1) [.t 39, .t 41], od 43 .ld1 [.t 42] [4, 5, 6, 7], oo 44 (.bin .neq) [.t 38, .t 43]]) (.cond (.t 44) c_slices_Compact_int_int_p3 .skip))) c_slices_Compact_int_int_p4)
abbrev c_slices_Compact_int_int_p6 : VC := (.seq (.seq (.ops 0 [oo 29 .mv [.t 5], oo 30 .mv [.t 4], oo 31 .len [.t 30], oo 32 (.bin .lss) [.t 29, .t 31]]) (.cond (.t 32) .skip (.exit 2))) c_slices_Compact_int_int_p5)
@[go_sem] abbrev w_slices_Compact_int_int_p6 : Nat := 18014397972611112
abbrev c_slices_Compact_int_int_p8 : VC := (.seq (.ops 0 [oo 57 .mv [.t 0], oo 58 .mv [.t 3], oo 59 (.slc 1 false true) [.t 57, .t 58], oo 2 .mv [.t 59]]) .ret)
abbrev c_slices_Compact_int_int_p9 : VC := (.seq (.ops 0 [oo 54 .mv [.t 0], oo 55 .mv [.t 3], oo 56 (.slc 1 true false) [.t 54, .t 55], ⟨none, none, (.clr 1 [li 0]), [.t 56], none⟩]) c_slices_Compact_int_int_p8)
abbrev c_slices_Compact_int_int_p10 : VC := (.seq (.seq (.ops 0 [oo 5 .mv [kk 1]]) (.block 2 (.loop c_slices_Compact_int_int_p6))) c_slices_Compact_int_int_p9)
abbrev c_slices_Compact_int_int_p11 : VC := (.seq (.ops 0 [oo 26 .mv [.t 0], oo 27 .mv [.t 3], oo 28 (.slc 1 true false) [.t 26, .t 27], oo 4 .mv [.t 28]]) c_slices_Compact_int_int_p10)
abbrev c_slices_Compact_int_int_p12 : VC := (.ops 0 [oo 14 .mv [.t 3], oo 15 (.bin .add) [.t 14, kk 1], oo 3 .mv [.t 15]])
abbrev c_slices_Compact_int_int_p13 : VC := (.seq (.block 1 (.seq (.ops 0 [oo 16 .mv [.t 0], oo 17 .mv [.t 3], oo 18 (.ixA 1) [.t 16, .t 17], od 19 .ld1 [.t 18] [0, 1, 2], oo 20 .mv [.t 0], oo 21 .mv [.t 3], oo 22 (.bin .sub) [.t 21, kk 1], oo 23 (.ixA 1) [.t 20, .t 22], od 24 .ld1 [.t 23] [4, 5, 6, 7], oo 25 (.bin .eql) [.t 19, .t 24]]) (.cond (.t 25) c_slices_Compact_int_int_p11 .skip))) c_slices_Compact_int_int_p12)
abbrev c_slices_Compact_int_int_p14 : VC := (.seq (.seq (.ops 0 [oo 10 .mv [.t 3], oo 11 .mv [.t 0], oo 12 .len [.t 11], oo 13 (.bin .lss) [.t 10, .t 12]]) (.cond (.t 13) .skip (.exit 0))) c_slices_Compact_int_int_p13)
@[go_sem] abbrev w_slices_Compact_int_int_p14 : Nat := 1152921504606846012
abbrev c_slices_Compact_int_int_p16 : VC := (.seq (.ops 0 [oo 60 .mv [.t 0], oo 2 .mv [.t 60]]) .ret)
abbrev c_slices_Compact_int_int_p17 : VC := (.seq (.seq (.ops 0 [oo 3 .mv [kk 1]]) (.block 0 (.loop c_slices_Compact_int_int_p14))) c_slices_Compact_int_int_p16)
abbrev c_slices_Compact_int_int_p18 : VC := (.seq (.seq (.ops 0 [oo 6 .mv [.t 0], oo 7 .len [.t 6], oo 8 (.bin .lss) [.t 7, kk 2]]) (.cond (.t 8) c_slices_Compact_int_int_p1 .skip)) c_slices_Compact_int_int_p17)
def c_slices_Compact_int_int : VC := (.seq (.ops 0 [oo 2 .mv [(.c (.sl 0 [] .exact))]]) c_slices_Compact_int_int_p18)
theorem k_slices_Compact_int_int : Comp Tryz.prog nobx gtab 181 61 c_slices_Compact_int_int [.t 2] := ⟨⟨Tryz.f181, _, Tryz.func181, rfl, rfl, kr, kr⟩⟩
abbrev c_leaf_merged_api_Sign_b_p1 : VC := (.seq (.ops 0 [oo 15 .mv [.t 7], oo 16 (.call 177) [.t 15], oo 6 .mv [.t 16]]) .ret)
abbrev c_leaf_merged_api_Sign_b_p2 : VC := (.seq (.ops 0 [oo 12 .mv [.t 7], oo 13 .mv [.t 2], oo 14 (.call 176) [.t 12, .t 13]]) c_leaf_merged_api_Sign_b_p1)
abbrev c_leaf_merged_api_Sign_b_p3 : VC := (.seq (.ops 5 [oo 8 .mv [.t 0], oo 9 .mv [.t 1], ⟨(some 10), none, (.mksl 2 1 [(.sl 0 [] .exact), (.sl 0 [] .exact)] [(0, 1), (1, 1)]), [.t 8, .t 9], none⟩, oo 11 (.callB 175) [.t 10], oo 7 .mv [.t 11]]) c_leaf_merged_api_Sign_b_p2)
def c_leaf_merged_api_Sign_b : VC := (.seq (.ops 0 [oo 6 .mv [(.c (.sl 0 [] .exact))]]) c_leaf_merged_api_Sign_b_p3)
theorem k_leaf_merged_api_Sign_b : Comp Tryz.prog (fun n => [11].contains n) gtab 117 17 c_leaf_merged_api_Sign_b [.t 6] := ⟨⟨Tryz.f117, _, Tryz.func117, rfl, rfl, kr, kr⟩⟩
abbrev c_leaf_merged_int_b_p1 : VC := (.seq (.ops 0 [oo 15 .mv [.t 7], oo 16 (.call 181) [.t 15], oo 6 .mv [.t 16]]) .ret)
abbrev c_leaf_merged_int_b_p2 : VC := (.seq (.ops 0 [oo 12 .mv [.t 7], oo 13 .mv [.t 2], oo 14 (.call 180) [.t 12, .t 13]]) c_leaf_merged_int_b_p1)
abbrev c_leaf_merged_int_b_p3 : VC := (.seq (.ops 5 [oo 8 .mv [.t 0], oo 9 .mv [.t 1], ⟨(some 10), none, (.mksl 2 1 [(.sl 0 [] .exact), (.sl 0 [] .exact)] [(0, 1), (1, 1)]), [.t 8, .t 9], none⟩, oo 11 (.callB 179) [.t 10], oo 7 .mv [.t 11]]) c_leaf_merged_int_b_p2)
def c_leaf_merged_int_b : VC := (.seq (.ops 0 [oo 6 .mv [(.c (.sl 0 [] .exact))]]) c_leaf_merged_int_b_p3)
theorem k_leaf_merged_int_b : Comp Tryz.prog (fun n => [11].contains n) gtab 120 17 c_leaf_merged_int_b [.t 6] := ⟨⟨Tryz.f120, _, Tryz.func120, rfl, rfl, kr, kr⟩⟩
end Go.Proofs.YtdefefeifcdogaaGreat
namespace Go.Proofs.YtdefefeifcdogaaGreat
open Go.RowKit
set_option linter.unusedSimpArgs false
set_option linter.unusedVariables false

theorem x_clr {P : Program} {G : Ground} {base i : Nat} {d : Option Nat} {xs : List Opd} {l : List VI} {s : St} {K : St → Prop} {q off n cap size : Nat} {z cs : List V} {t : TypeId} (hv : xs.map s.ev = [.bsl q off n cap]) (ho : s.m.obj q = some (.box cs t)) (hz : z.length = size) (hf : off + n * size ≤ cs.length)
    (h : goR P G base (some ⟨putT s.t d vund, s.m.put q (.box (splice cs off (List.flatten (List.replicate n z))) t)⟩) l (i + 1) K) : vrun P G base i (⟨d, none, .clr size z, xs, none⟩ :: l) s K := by
  rw [vrun]
  unfold vstep VI.on
  simp only [if_true, sem, hv, ho]
  exact ⟨⟨hz, hf⟩, goR_vrun l (i + 1) _ h⟩
theorem sgs_oneV (l : List Sg) : (l.flatMap Sg.cells).all V.one = true := by
  rw [List.all_eq_true]
  intro v hv
  obtain ⟨x, _, hx⟩ := List.mem_flatMap.1 hv
  simp only [Sg.cells, List.mem_cons, List.not_mem_nil, or_false] at hx
  rcases hx with rfl | rfl | rfl <;> rfl
theorem sg_neq {x y : Sg} (h : x ≠ y) : (x.v == y.v && (x.d == y.d && (x.t == y.t && true))) = false := by
  obtain ⟨v, d, t⟩ := x
  obtain ⟨v', d', t'⟩ := y
  have : (v == v' && (d == d' && t == t')) = false := by
    rw [Bool.eq_false_iff]
    intro e
    rw [Bool.and_eq_true, Bool.and_eq_true, beq_iff_eq, beq_iff_eq, beq_iff_eq] at e
    exact h (by rw [e.1, e.2.1, e.2.2])
  rw [Bool.and_true]
  exact this
theorem vslc_lo {size q off n cap k : Nat} (h1 : k ≤ n) (h2 : n ≤ cap) (h3 : k < cap) : vslc size true false (.bsl q off n cap) [V.lit (.int .i64 (k : Int))] = some (.bsl q (off + k * size) (n - k) (cap - k)) := by
  simp only [vslc, bnds, if_true, Bool.false_eq_true, if_false]
  rw [if_pos ⟨by omega, by omega, by omega⟩, if_pos (.inl (by omega))]
  rfl
theorem vslc_hi {size q off n cap k : Nat} (h1 : k ≤ cap) (h3 : 0 < cap) : vslc size false true (.bsl q off n cap) [V.lit (.int .i64 (k : Int))] = some (.bsl q off k cap) := by
  simp only [vslc, bnds, if_true, Bool.false_eq_true, if_false]
  rw [if_pos ⟨by omega, by omega, by omega⟩, if_pos (.inr trivial)]
  simp
/-- What Compact leaves of a row of signs. -/
def CmpPS (d : List Sg) (q : Nat) (m : Mm) (r : V) (m' : Mm) : Prop := r = .bsl q 0 (cmpU d d.length).length d.length ∧ ((∀ j, j < m.next → j ≠ q → m'.obj j = m.obj j) ∧ m.next ≤ m'.next) ∧ m'.obj q = some (.box ((cmpU d d.length ++ List.replicate (d.length - (cmpU d d.length).length) default).flatMap Sg.cells) 110)
theorem CmpPS.ne (d : List Sg) {q : Nat} (m : Mm) : ∃ r m', CmpPS d q m r m' := ⟨_, m.put q (.box ((cmpU d d.length ++ List.replicate (d.length - (cmpU d d.length).length) default).flatMap Sg.cells) 110), rfl, ⟨fun j _ hj => if_neg hj, Nat.le_refl _⟩, by exact if_pos rfl⟩
set_option maxHeartbeats 2000000 in
theorem compactS_sfn {m : Mm} {q : Nat} (d : List Sg) (hq : q < m.next) (hl : d.length ≤ 1000000) (ho : m.obj q = some (.box (d.flatMap Sg.cells) 110)) :
    SFn Tryz.prog Gd 177 [.bsl q 0 d.length d.length] m (CmpPS d q m) := by
  refine SFn.of_vxS k_slices_Compact_api_Sign_api_Sign (by simp) ?_
  unfold c_slices_Compact_api_Sign_api_Sign
  have hl0 := Hid.mk hl
  have hq0 := Hid.mk hq
  have ho0 := Hid.mk ho
  clear hl hq ho
  by_cases h2 : d.length < 2
  · have c1 : (d.length : Int) < 2 := by omega
    have he := Hid.mk (cmpU_all d d.length (Nat.le_refl _) fun i hi => by
      rcases Nat.eq_zero_or_pos i with h | h
      · exact keepA_zero d (by omega)
      · omega)
    clear h2
    repeat' (with_reducible first | refine x_ops ?_ | refine wk ?_ | ((first | refine gd1 ?_ ?_ | refine gd2 ?_ ?_ | refine gd3 ?_ ?_) <;> (first | exact @False.elim _ | intro hc)))
    refine finS_ret vv ⟨?_, ⟨fun _ _ _ => rfl, Nat.le_refl _⟩, ?_⟩
    · rw [he.out, List.take_length]
    · rw [he.out, List.take_length, Nat.sub_self, List.replicate_zero, List.append_nil]; exact ho0.out
  have c1 : ¬ (d.length : Int) < 2 := by omega
  have h20 := Hid.mk h2
  clear h2
  repeat' (with_reducible first | refine x_ops ?_ | refine wk ?_ | ((first | refine gd1 ?_ ?_ | refine gd2 ?_ ?_ | refine gd3 ?_ ?_) <;> (first | exact @False.elim _ | intro hc)))
  refine x_loopW w_slices_Compact_api_Sign_api_Sign_p15 kr (d.length - 1) (fun k t m1 => t 3 = vint ((k + 1 : Nat) : Int) ∧ (∀ i, i < k + 1 → keepA d i = true) ∧ m.next ≤ m1.next ∧ ∀ j, j < m.next → m1.obj j = m.obj j) ?_ ?_
  · exact ⟨vv, fun i hi => keepA_zero d (by omega), Nat.le_refl _, fun _ _ => rfl⟩
  rintro k t m1 hk ⟨h3, hall, hnx, hfr⟩
  have hq1 : q < m1.next := by have := hq0.out; omega
  have ho1 : m1.obj q = some (.box (d.flatMap Sg.cells) 110) := (hfr q hq0.out).trans ho0.out
  have h2 := h20.out
  by_cases hlt : k + 1 < d.length
  case neg =>
    have hkl : k + 1 = d.length := by omega
    have d1 : ¬ ((k + 1 : Nat) : Int) < (d.length : Int) := by omega
    have he := Hid.mk ((cmpU_all d d.length (Nat.le_refl _) (by rw [← hkl]; exact hall)).trans List.take_length)
    have hnx0 := Hid.mk hnx
    have hfr0 := Hid.mk hfr
    have ho10 := Hid.mk ho1
    clear hlt hk hkl hall h2 hnx hfr
    repeat' (with_reducible first | refine x_ops ?_ | refine wk ?_ | ((first | refine gd1 ?_ ?_ | refine gd2 ?_ ?_ | refine gd3 ?_ ?_) <;> (first | exact @False.elim _ | intro hc)))
    refine finS_ret vv ⟨?_, ⟨fun j hj _ => hfr0.out j hj, by have := hnx0.out; show m.next ≤ m1.next; omega⟩, ?_⟩
    · rw [he.out]
    · rw [he.out, Nat.sub_self, List.replicate_zero, List.append_nil]; exact ho10.out
  have d1 : ((k + 1 : Nat) : Int) < (d.length : Int) := by omega
  have g1 := sg_take (l := d) (k := k + 1) hlt
  have g2 := sg_take (l := d) (k := k) (by omega)
  have g3 := sgs_len d
  have c3 : (k + 1) * 3 + 3 ≤ d.length * 3 := by omega
  have c4 : k * 3 + 3 ≤ d.length * 3 := by omega
  have kd : k < d.length := by omega
  have d2 : (k : Int) < (d.length : Int) := by omega
  have w1 := w_add1 (k := k + 1) (by have := hl0.out; omega)
  have w2 : IntKind.i64.wrap (((k + 1 : Nat) : Int) - 1) = (k : Int) := by rw [IntWalk.i64_in _ (by have := hl0.out; omega)]; omega
  have hlt0 := Hid.mk hlt
  have hk0 : k < d.length - 1 := by omega
  have hk00 := Hid.mk hk0
  have hall0 := Hid.mk hall
  have hnx0 := Hid.mk hnx
  have hfr0 := Hid.mk hfr
  have hkp := keepA_of (d := d) (i := k + 1) (by omega)
  rw [Nat.add_sub_cancel] at hkp
  generalize hx : d.getD (k + 1) default = x at *
  generalize hy : d.getD k default = y at *
  replace hx := Hid.mk hx
  replace hy := Hid.mk hy
  clear hlt hk hall h2 hnx hfr hk0
  by_cases hxy : x = y
  case neg =>
    have e1 := sg_neq hxy
    have hkp1 := Hid.mk (hkp.trans (decide_eq_true hxy))
    clear hkp hxy
    obtain ⟨v, dd, tt⟩ := x
    obtain ⟨v', d', t'⟩ := y
    dsimp only at e1 g1 g2
    repeat' (with_reducible first | refine x_ops ?_ | simp only [go_sem, Nat.reduceAdd, Nat.reduceEqDiff, Nat.reduceLT, Nat.reduceLeDiff, Nat.reduceMul, Nat.reduceSub, Nat.reducePow, Nat.reduceDiv, Nat.reduceMod, Nat.reduceBEq, Int.reduceBEq, Int.reduceLT, reduceIte, tIs, tBs, tPs, e1, *] | ((first | refine gd1 ?_ ?_ | refine gd2 ?_ ?_ | refine gd3 ?_ ?_) <;> (first | exact @False.elim _ | intro hc)))
    refine nx hk00.out ⟨vv, fun i hi => ?_, ?_, fun j hj => ?_⟩
    · by_cases e : i = k + 1
      · rw [e]; exact hkp1.out
      · exact hall0.out i (by omega)
    · have := hnx0.out
      first
        | (show m.next ≤ m1.next; omega)
        | (show m.next ≤ m1.next + _; omega)
    · exact hfr0.out j hj
  subst hxy
  have hkp1 := hkp.trans (decide_eq_false (by simp))
  have hI := CmpI.start (d := d) (k := k + 1) (by omega) hlt0.out hall0.out hkp1
  replace hI := Hid.mk hI
  clear hkp hkp1
  obtain ⟨v, dd, tt⟩ := x
  dsimp only at g1 g2
  have s1 := vslc_lo (size := 3) (q := q) (off := 0) (n := d.length) (cap := d.length) (k := k + 1) (by have := hlt0.out; omega) (Nat.le_refl _) hlt0.out
  repeat' (with_reducible first | refine x_ops ?_ | simp only [go_sem, Nat.reduceAdd, Nat.reduceEqDiff, Nat.reduceLT, Nat.reduceLeDiff, Nat.reduceMul, Nat.reduceSub, Nat.reducePow, Nat.reduceDiv, Nat.reduceMod, Nat.reduceBEq, Int.reduceBEq, Int.reduceLT, reduceIte, tIs, tBs, tPs, s1, *] | ((first | refine gd1 ?_ ?_ | refine gd2 ?_ ?_ | refine gd3 ?_ ?_) <;> (first | exact @False.elim _ | intro hc)))
  refine x_loopW w_slices_Compact_api_Sign_api_Sign_p6 kr (d.length - (k + 1) - 1) (fun u t' m' => t' 5 = vint ((u + 1 : Nat) : Int) ∧ (∃ (kk : Nat) (e : List Sg), t' 3 = vint (kk : Int) ∧ CmpI d e (k + 1 + (u + 1)) kk ∧ m'.obj q = some (.box (e.flatMap Sg.cells) 110)) ∧ m.next ≤ m'.next ∧ ∀ j, j < m.next → j ≠ q → m'.obj j = m.obj j) ?_ ?_
  · exact ⟨vv, ⟨k + 1, d, vw, hI.out, ho1⟩, hnx0.out, fun j hj _ => hfr0.out j hj⟩
  clear g1 g2 g3 c3 c4 s1 ho1 hq1 h3 w1 w2 kd d1 d2 hx hy hI hall0
  rintro u t2 m2 hu ⟨h5, ⟨kk, e, h3, hI, ho2⟩, hnx2, hfr2⟩
  have hlt1 := hlt0.out
  have hkl := hI.lt
  have hle := hI.le
  have hel := hI.len
  have hq2 : q < m2.next := by have := hq0.out; omega
  have g3 := sgs_len e
  rw [hel] at g3
  have hnx20 := Hid.mk hnx2
  have hfr20 := Hid.mk hfr2
  have b1 : (kk : Int) < (d.length : Int) := by omega
  have b2 : kk < d.length := by omega
  by_cases hlt2 : k + 1 + (u + 1) < d.length
  case neg =>
    have hK : k + 1 + (u + 1) = d.length := by omega
    have d3 : ¬ ((u + 1 : Nat) : Int) < ((d.length - (k + 1) : Nat) : Int) := by omega
    have s1 := vslc_lo (size := 3) (q := q) (off := 0) (n := d.length) (cap := d.length) (k := kk) (by omega) (Nat.le_refl _) b2
    have s2 := vslc_hi (size := 3) (q := q) (off := 0) (n := d.length) (cap := d.length) (k := kk) (by omega) (by omega)
    rw [hK] at hI
    have hI0 := Hid.mk hI
    have hel0 := Hid.mk hel
    have b20 := Hid.mk b2
    have g30 := Hid.mk g3
    clear hlt2 hu hlt1 hkl hle hel hnx2 hfr2 hI hK
    repeat' (with_reducible first | refine x_ops ?_ | simp only [go_sem, Nat.reduceAdd, Nat.reduceEqDiff, Nat.reduceLT, Nat.reduceLeDiff, Nat.reduceMul, Nat.reduceSub, Nat.reducePow, Nat.reduceDiv, Nat.reduceMod, Nat.reduceBEq, Int.reduceBEq, Int.reduceLT, reduceIte, tIs, tBs, tPs, s1, s2, *] | ((first | refine gd1 ?_ ?_ | refine gd2 ?_ ?_ | refine gd3 ?_ ?_) <;> (first | exact @False.elim _ | intro hc)))
    refine x_clr (q := q) (off := kk * 3) (n := d.length - kk) (cap := d.length - kk) (cs := e.flatMap Sg.cells) (t := 110) vw vw rfl (by rw [g30.out]; have := b20.out; omega) ?_
    have hsp : splice (e.flatMap Sg.cells) (kk * 3) (List.flatten (List.replicate (d.length - kk) [V.lit (.int .i64 0), V.lit (.bool false), V.lit (.bool false)])) = (cmpU d d.length ++ List.replicate (d.length - kk) default).flatMap Sg.cells := by
      rw [show [V.lit (.int .i64 0), V.lit (.bool false), V.lit (.bool false)] = Sg.cells default from rfl, rep_flat, splice_tail sg_len _ _ _ (by rw [List.length_replicate, hel0.out]; have := b20.out; omega), hI0.out.low]
    replace hsp := Hid.mk hsp
    repeat' (with_reducible first | refine x_ops ?_ | simp only [go_sem, Nat.reduceAdd, Nat.reduceEqDiff, Nat.reduceLT, Nat.reduceLeDiff, Nat.reduceMul, Nat.reduceSub, Nat.reducePow, Nat.reduceDiv, Nat.reduceMod, Nat.reduceBEq, Int.reduceBEq, Int.reduceLT, reduceIte, tIs, tBs, tPs, s1, s2, *] | ((first | refine gd1 ?_ ?_ | refine gd2 ?_ ?_ | refine gd3 ?_ ?_) <;> (first | exact @False.elim _ | intro hc)))
    refine finS_ret vv ⟨?_, ⟨fun j hj hjq => ?_, ?_⟩, ?_⟩
    · rw [← hI0.out.eq]
    · exact (if_neg hjq).trans (hfr20.out j hj hjq)
    · have := hnx20.out
      first
        | (show m.next ≤ m2.next; omega)
        | (show m.next ≤ m2.next + _; omega)
    · rw [← hI0.out.eq, ← hsp.out]
      exact if_pos rfl
  have d3 : ((u + 1 : Nat) : Int) < ((d.length - (k + 1) : Nat) : Int) := by omega
  have d4 : (u : Int) < ((d.length - (k + 1) : Nat) : Int) := by omega
  have d5 : u + 1 < d.length - (k + 1) := by omega
  have d6 : u < d.length - (k + 1) := by omega
  have g1 := sg_take (l := e) (k := k + 1 + (u + 1)) (by omega)
  have g2 := sg_take (l := e) (k := k + 1 + u) (by omega)
  rw [hI.high (k + 1 + (u + 1)) (by omega), Nat.add_mul] at g1
  rw [hI.high (k + 1 + u) (by omega), Nat.add_mul] at g2
  have c3 : (k + 1) * 3 + (u + 1) * 3 + 3 ≤ d.length * 3 := by omega
  have c4 : (k + 1) * 3 + u * 3 + 3 ≤ d.length * 3 := by omega
  have c5 : kk * 3 + 3 ≤ d.length * 3 := by omega
  have c6 : (k + 1) * 3 + ((u + 1) * 3 + 3) ≤ d.length * 3 := by omega
  have c7 : (k + 1) * 3 + (u * 3 + 3) ≤ d.length * 3 := by omega
  have w1 := w_add1 (k := u + 1) (by have := hl0.out; omega)
  have w3 := w_add1 (k := kk) (by have := hl0.out; omega)
  have w2 : IntKind.i64.wrap (((u + 1 : Nat) : Int) - 1) = (u : Int) := by rw [IntWalk.i64_in _ (by have := hl0.out; omega)]; omega
  have hkp := keepA_of (d := d) (i := k + 1 + (u + 1)) (by omega)
  rw [show k + 1 + (u + 1) - 1 = k + 1 + u by omega] at hkp
  have hsk := hI.skip hlt2
  have hkeep := hI.keep hlt2
  have hset := splice_set sg_len e kk (d.getD (k + 1 + (u + 1)) default) (by omega)
  have hu0 : u < d.length - (k + 1) - 1 := by omega
  have hu00 := Hid.mk hu0
  generalize d.getD (k + 1 + (u + 1)) default = x at *
  generalize d.getD (k + 1 + u) default = y at *
  replace hsk := Hid.mk hsk
  replace hkeep := Hid.mk hkeep
  replace hset := Hid.mk hset
  clear hlt2 hu hlt1 hkl hle hel hnx2 hfr2 hI hu0
  by_cases hxy : x = y
  · subst hxy
    have hk1 := Hid.mk (hsk.out (hkp.trans (decide_eq_false (by simp))))
    clear hkp hsk hkeep hset
    obtain ⟨v, dd, tt⟩ := x
    dsimp only at g1 g2
    repeat' (with_reducible first | refine x_ops ?_ | refine wk ?_ | ((first | refine gd1 ?_ ?_ | refine gd2 ?_ ?_ | refine gd3 ?_ ?_) <;> (first | exact @False.elim _ | intro hc)))
    refine nx hu00.out ⟨vv, ⟨kk, e, vw, by have h := hk1.out; rwa [show k + 1 + (u + 1) + 1 = k + (1 + (u + 1 + 1)) by omega] at h, ?_⟩, ?_, fun j hj hjq => ?_⟩
    · exact ho2
    · have := hnx20.out
      first
        | (show m.next ≤ m2.next; omega)
        | (show m.next ≤ m2.next + _; omega)
    · exact hfr20.out j hj hjq
  · have e1 := sg_neq hxy
    have hk1 := Hid.mk (hkeep.out (hkp.trans (decide_eq_true hxy)))
    clear hkp hsk hkeep hxy
    obtain ⟨v, dd, tt⟩ := x
    obtain ⟨v', d', t'⟩ := y
    dsimp only at e1 g1 g2
    repeat' (with_reducible first | refine x_ops ?_ | simp only [go_sem, Nat.reduceAdd, Nat.reduceEqDiff, Nat.reduceLT, Nat.reduceLeDiff, Nat.reduceMul, Nat.reduceSub, Nat.reducePow, Nat.reduceDiv, Nat.reduceMod, Nat.reduceBEq, Int.reduceBEq, Int.reduceLT, reduceIte, tIs, tBs, tPs, e1, *] | ((first | refine gd1 ?_ ?_ | refine gd2 ?_ ?_ | refine gd3 ?_ ?_) <;> (first | exact @False.elim _ | intro hc)))
    refine nx hu00.out ⟨vv, ⟨kk + 1, e.set kk ⟨v, dd, tt⟩, vw, by have h := hk1.out; rwa [show k + 1 + (u + 1) + 1 = k + (1 + (u + 1 + 1)) by omega] at h, ?_⟩, ?_, fun j hj hjq => ?_⟩
    · rw [← hset.out]
      exact if_pos rfl
    · have := hnx20.out
      first
        | (show m.next ≤ m2.next; omega)
        | (show m.next ≤ m2.next + _; omega)
    · exact (if_neg hjq).trans (hfr20.out j hj hjq)
end Go.Proofs.YtdefefeifcdogaaGreat
namespace Go.Proofs.YtdefefeifcdogaaGreat
open Go.RowKit
set_option linter.unusedSimpArgs false
set_option linter.unusedVariables false

theorem map_vint (l : List Int) : l.map vint = l.flatMap fun x => [vint x] := by
  induction l with
  | nil => rfl
  | cons a l ih => rw [List.map_cons, List.flatMap_cons, ih]; rfl
theorem ints_atD {l : List Int} {k : Nat} (h : k < l.length) : (l.map vint)[k]? = some (V.lit (.int .i64 (l.getD k default))) := ints_at h
theorem splice_setI (D : List Int) (i : Nat) (y : Int) (h : i < D.length) : splice (D.map vint) i [vint y] = (D.set i y).map vint := by
  have := splice_set (enc := fun x => [vint x]) (k := 1) (fun _ => rfl) D i y h
  rw [Nat.mul_one] at this
  rw [map_vint, map_vint]
  exact this
theorem splice_tailI (D Z : List Int) (i : Nat) (h : i + Z.length = D.length) : splice (D.map vint) i (Z.map vint) = (D.take i ++ Z).map vint := by
  have := splice_tail (enc := fun x => [vint x]) (k := 1) (fun _ => rfl) D Z i h
  rw [Nat.mul_one] at this
  rw [map_vint, map_vint, map_vint]
  exact this
/-- What Compact leaves of a row of numbers. -/
def CmpPI (d : List Int) (q : Nat) (m : Mm) (r : V) (m' : Mm) : Prop := r = .bsl q 0 (cmpU d d.length).length d.length ∧ ((∀ j, j < m.next → j ≠ q → m'.obj j = m.obj j) ∧ m.next ≤ m'.next) ∧ m'.obj q = some (.box ((cmpU d d.length ++ List.replicate (d.length - (cmpU d d.length).length) default).map vint) 3)
theorem CmpPI.ne (d : List Int) {q : Nat} (m : Mm) : ∃ r m', CmpPI d q m r m' := ⟨_, m.put q (.box ((cmpU d d.length ++ List.replicate (d.length - (cmpU d d.length).length) default).map vint) 3), rfl, ⟨fun j _ hj => if_neg hj, Nat.le_refl _⟩, by exact if_pos rfl⟩
set_option maxHeartbeats 2000000 in
theorem compactI_sfn {m : Mm} {q : Nat} (d : List Int) (hq : q < m.next) (hl : d.length ≤ 1000000) (ho : m.obj q = some (.box (d.map vint) 3)) :
    SFn Tryz.prog Gd 181 [.bsl q 0 d.length d.length] m (CmpPI d q m) := by
  refine SFn.of_vxS k_slices_Compact_int_int (by simp) ?_
  unfold c_slices_Compact_int_int
  have hl0 := Hid.mk hl
  have hq0 := Hid.mk hq
  have ho0 := Hid.mk ho
  clear hl hq ho
  by_cases h2 : d.length < 2
  · have c1 : (d.length : Int) < 2 := by omega
    have he := Hid.mk (cmpU_all d d.length (Nat.le_refl _) fun i hi => by
      rcases Nat.eq_zero_or_pos i with h | h
      · exact keepA_zero d (by omega)
      · omega)
    clear h2
    repeat' (with_reducible first | refine x_ops ?_ | refine wk ?_ | ((first | refine gd1 ?_ ?_ | refine gd2 ?_ ?_ | refine gd3 ?_ ?_) <;> (first | exact @False.elim _ | intro hc)))
    refine finS_ret vv ⟨?_, ⟨fun _ _ _ => rfl, Nat.le_refl _⟩, ?_⟩
    · rw [he.out, List.take_length]
    · rw [he.out, List.take_length, Nat.sub_self, List.replicate_zero, List.append_nil]; exact ho0.out
  have c1 : ¬ (d.length : Int) < 2 := by omega
  have h20 := Hid.mk h2
  clear h2
  repeat' (with_reducible first | refine x_ops ?_ | refine wk ?_ | ((first | refine gd1 ?_ ?_ | refine gd2 ?_ ?_ | refine gd3 ?_ ?_) <;> (first | exact @False.elim _ | intro hc)))
  refine x_loopW w_slices_Compact_int_int_p14 kr (d.length - 1) (fun k t m1 => t 3 = vint ((k + 1 : Nat) : Int) ∧ (∀ i, i < k + 1 → keepA d i = true) ∧ m.next ≤ m1.next ∧ ∀ j, j < m.next → m1.obj j = m.obj j) ?_ ?_
  · exact ⟨vv, fun i hi => keepA_zero d (by omega), Nat.le_refl _, fun _ _ => rfl⟩
  rintro k t m1 hk ⟨h3, hall, hnx, hfr⟩
  have hq1 : q < m1.next := by have := hq0.out; omega
  have ho1 : m1.obj q = some (.box (d.map vint) 3) := (hfr q hq0.out).trans ho0.out
  have h2 := h20.out
  by_cases hlt : k + 1 < d.length
  case neg =>
    have hkl : k + 1 = d.length := by omega
    have d1 : ¬ ((k + 1 : Nat) : Int) < (d.length : Int) := by omega
    have he := Hid.mk ((cmpU_all d d.length (Nat.le_refl _) (by rw [← hkl]; exact hall)).trans List.take_length)
    have hnx0 := Hid.mk hnx
    have hfr0 := Hid.mk hfr
    have ho10 := Hid.mk ho1
    clear hlt hk hkl hall h2 hnx hfr
    repeat' (with_reducible first | refine x_ops ?_ | refine wk ?_ | ((first | refine gd1 ?_ ?_ | refine gd2 ?_ ?_ | refine gd3 ?_ ?_) <;> (first | exact @False.elim _ | intro hc)))
    refine finS_ret vv ⟨?_, ⟨fun j hj _ => hfr0.out j hj, by have := hnx0.out; show m.next ≤ m1.next; omega⟩, ?_⟩
    · rw [he.out]
    · rw [he.out, Nat.sub_self, List.replicate_zero, List.append_nil]; exact ho10.out
  have d1 : ((k + 1 : Nat) : Int) < (d.length : Int) := by omega
  have g1 := ints_atD (l := d) (k := k + 1) hlt
  have g2 := ints_atD (l := d) (k := k) (by omega)
  have g3 : (d.map vint).length = d.length := List.length_map ..
  have c3 : (k + 1) + 1 ≤ d.length := by omega
  have c4 : k + 1 ≤ d.length := by omega
  have kd : k < d.length := by omega
  have d2 : (k : Int) < (d.length : Int) := by omega
  have w1 := w_add1 (k := k + 1) (by have := hl0.out; omega)
  have w2 : IntKind.i64.wrap (((k + 1 : Nat) : Int) - 1) = (k : Int) := by rw [IntWalk.i64_in _ (by have := hl0.out; omega)]; omega
  have hlt0 := Hid.mk hlt
  have hk0 : k < d.length - 1 := by omega
  have hk00 := Hid.mk hk0
  have hall0 := Hid.mk hall
  have hnx0 := Hid.mk hnx
  have hfr0 := Hid.mk hfr
  have hkp := keepA_of (d := d) (i := k + 1) (by omega)
  rw [Nat.add_sub_cancel] at hkp
  generalize hx : d.getD (k + 1) default = x at *
  generalize hy : d.getD k default = y at *
  replace hx := Hid.mk hx
  replace hy := Hid.mk hy
  clear hlt hk hall h2 hnx hfr hk0
  by_cases hxy : x = y
  case neg =>
    have e1 : (x == y) = false := by rw [beq_eq_false_iff_ne]; exact hxy
    have e2 : (x != y) = true := by rw [bne, e1]; rfl
    have hkp1 := Hid.mk (hkp.trans (decide_eq_true hxy))
    clear hkp hxy
    repeat' (with_reducible first | refine x_ops ?_ | simp only [go_sem, Nat.reduceAdd, Nat.reduceEqDiff, Nat.reduceLT, Nat.reduceLeDiff, Nat.reduceMul, Nat.reduceSub, Nat.reducePow, Nat.reduceDiv, Nat.reduceMod, Nat.reduceBEq, Int.reduceBEq, Int.reduceLT, reduceIte, tIs, tBs, tPs, e1, e2, *] | ((first | refine gd1 ?_ ?_ | refine gd2 ?_ ?_ | refine gd3 ?_ ?_) <;> (first | exact @False.elim _ | intro hc)))
    refine nx hk00.out ⟨vv, fun i hi => ?_, ?_, fun j hj => ?_⟩
    · by_cases e : i = k + 1
      · rw [e]; exact hkp1.out
      · exact hall0.out i (by omega)
    · have := hnx0.out
      first
        | (show m.next ≤ m1.next; omega)
        | (show m.next ≤ m1.next + _; omega)
    · exact hfr0.out j hj
  subst hxy
  have hkp1 := hkp.trans (decide_eq_false (by simp))
  have hI := CmpI.start (d := d) (k := k + 1) (by omega) hlt0.out hall0.out hkp1
  replace hI := Hid.mk hI
  clear hkp hkp1
  have s1 := vslc_lo (size := 1) (q := q) (off := 0) (n := d.length) (cap := d.length) (k := k + 1) (by have := hlt0.out; omega) (Nat.le_refl _) hlt0.out
  repeat' (with_reducible first | refine x_ops ?_ | simp only [go_sem, Nat.reduceAdd, Nat.reduceEqDiff, Nat.reduceLT, Nat.reduceLeDiff, Nat.reduceMul, Nat.reduceSub, Nat.reducePow, Nat.reduceDiv, Nat.reduceMod, Nat.reduceBEq, Int.reduceBEq, Int.reduceLT, reduceIte, tIs, tBs, tPs, s1, *] | ((first | refine gd1 ?_ ?_ | refine gd2 ?_ ?_ | refine gd3 ?_ ?_) <;> (first | exact @False.elim _ | intro hc)))
  refine x_loopW w_slices_Compact_int_int_p6 kr (d.length - (k + 1) - 1) (fun u t' m' => t' 5 = vint ((u + 1 : Nat) : Int) ∧ (∃ (kk : Nat) (e : List Int), t' 3 = vint (kk : Int) ∧ CmpI d e (k + 1 + (u + 1)) kk ∧ m'.obj q = some (.box (e.map vint) 3)) ∧ m.next ≤ m'.next ∧ ∀ j, j < m.next → j ≠ q → m'.obj j = m.obj j) ?_ ?_
  · exact ⟨vv, ⟨k + 1, d, vw, hI.out, ho1⟩, hnx0.out, fun j hj _ => hfr0.out j hj⟩
  clear g1 g2 g3 c3 c4 s1 ho1 hq1 h3 w1 w2 kd d1 d2 hx hy hI hall0
  rintro u t2 m2 hu ⟨h5, ⟨kk, e, h3, hI, ho2⟩, hnx2, hfr2⟩
  have hlt1 := hlt0.out
  have hkl := hI.lt
  have hle := hI.le
  have hel := hI.len
  have hq2 : q < m2.next := by have := hq0.out; omega
  have g3 : (e.map vint).length = e.length := List.length_map ..
  rw [hel] at g3
  have hnx20 := Hid.mk hnx2
  have hfr20 := Hid.mk hfr2
  have b1 : (kk : Int) < (d.length : Int) := by omega
  have b2 : kk < d.length := by omega
  by_cases hlt2 : k + 1 + (u + 1) < d.length
  case neg =>
    have hK : k + 1 + (u + 1) = d.length := by omega
    have d3 : ¬ ((u + 1 : Nat) : Int) < ((d.length - (k + 1) : Nat) : Int) := by omega
    have s1 := vslc_lo (size := 1) (q := q) (off := 0) (n := d.length) (cap := d.length) (k := kk) (by omega) (Nat.le_refl _) b2
    have s2 := vslc_hi (size := 1) (q := q) (off := 0) (n := d.length) (cap := d.length) (k := kk) (by omega) (by omega)
    rw [hK] at hI
    have hI0 := Hid.mk hI
    have hel0 := Hid.mk hel
    have b20 := Hid.mk b2
    have g30 := Hid.mk g3
    clear hlt2 hu hlt1 hkl hle hel hnx2 hfr2 hI hK
    repeat' (with_reducible first | refine x_ops ?_ | simp only [go_sem, Nat.reduceAdd, Nat.reduceEqDiff, Nat.reduceLT, Nat.reduceLeDiff, Nat.reduceMul, Nat.reduceSub, Nat.reducePow, Nat.reduceDiv, Nat.reduceMod, Nat.reduceBEq, Int.reduceBEq, Int.reduceLT, reduceIte, tIs, tBs, tPs, s1, s2, *] | ((first | refine gd1 ?_ ?_ | refine gd2 ?_ ?_ | refine gd3 ?_ ?_) <;> (first | exact @False.elim _ | intro hc)))
    refine x_clr (q := q) (off := kk) (n := d.length - kk) (cap := d.length - kk) (cs := e.map vint) (t := 3) vw vw rfl (by rw [g30.out]; have := b20.out; omega) ?_
    have hsp : splice (e.map vint) kk (List.flatten (List.replicate (d.length - kk) [V.lit (.int .i64 0)])) = (cmpU d d.length ++ List.replicate (d.length - kk) default).map vint := by
      have h9 : List.flatten (List.replicate (d.length - kk) [V.lit (.int .i64 0)]) = (List.replicate (d.length - kk) (default : Int)).map vint := by
        rw [map_vint]
        exact rep_flat (enc := fun x : Int => [vint x]) default _
      rw [h9, splice_tailI _ _ _ (by rw [List.length_replicate, hel0.out]; have := b20.out; omega), hI0.out.low]
    replace hsp := Hid.mk hsp
    repeat' (with_reducible first | refine x_ops ?_ | simp only [go_sem, Nat.reduceAdd, Nat.reduceEqDiff, Nat.reduceLT, Nat.reduceLeDiff, Nat.reduceMul, Nat.reduceSub, Nat.reducePow, Nat.reduceDiv, Nat.reduceMod, Nat.reduceBEq, Int.reduceBEq, Int.reduceLT, reduceIte, tIs, tBs, tPs, s1, s2, *] | ((first | refine gd1 ?_ ?_ | refine gd2 ?_ ?_ | refine gd3 ?_ ?_) <;> (first | exact @False.elim _ | intro hc)))
    refine finS_ret vv ⟨?_, ⟨fun j hj hjq => ?_, ?_⟩, ?_⟩
    · rw [← hI0.out.eq]
    · exact (if_neg hjq).trans (hfr20.out j hj hjq)
    · have := hnx20.out
      first
        | (show m.next ≤ m2.next; omega)
        | (show m.next ≤ m2.next + _; omega)
    · rw [← hI0.out.eq, ← hsp.out]
      exact if_pos rfl
  have d3 : ((u + 1 : Nat) : Int) < ((d.length - (k + 1) : Nat) : Int) := by omega
  have d4 : (u : Int) < ((d.length - (k + 1) : Nat) : Int) := by omega
  have d5 : u + 1 < d.length - (k + 1) := by omega
  have d6 : u < d.length - (k + 1) := by omega
  have g1 := ints_atD (l := e) (k := k + 1 + (u + 1)) (by omega)
  have g2 := ints_atD (l := e) (k := k + 1 + u) (by omega)
  rw [hI.high (k + 1 + (u + 1)) (by omega)] at g1
  rw [hI.high (k + 1 + u) (by omega)] at g2
  have c3 : (k + 1) + (u + 1) + 1 ≤ d.length := by omega
  have c4 : (k + 1) + u + 1 ≤ d.length := by omega
  have c5 : kk + 1 ≤ d.length := by omega
  have c6 : (k + 1) + ((u + 1) + 1) ≤ d.length := by omega
  have c7 : (k + 1) + (u + 1) ≤ d.length := by omega
  have w1 := w_add1 (k := u + 1) (by have := hl0.out; omega)
  have w3 := w_add1 (k := kk) (by have := hl0.out; omega)
  have w2 : IntKind.i64.wrap (((u + 1 : Nat) : Int) - 1) = (u : Int) := by rw [IntWalk.i64_in _ (by have := hl0.out; omega)]; omega
  have hkp := keepA_of (d := d) (i := k + 1 + (u + 1)) (by omega)
  rw [show k + 1 + (u + 1) - 1 = k + 1 + u by omega] at hkp
  have hsk := hI.skip hlt2
  have hkeep := hI.keep hlt2
  have hset := splice_setI e kk (d.getD (k + 1 + (u + 1)) default) (by omega)
  have hu0 : u < d.length - (k + 1) - 1 := by omega
  have hu00 := Hid.mk hu0
  generalize d.getD (k + 1 + (u + 1)) default = x at *
  generalize d.getD (k + 1 + u) default = y at *
  have g4 := g1
  rw [show k + 1 + (u + 1) = k + (1 + (u + 1)) by omega] at g4
  have g5 := g2
  rw [show k + 1 + u = k + (1 + u) by omega] at g5
  replace hsk := Hid.mk hsk
  replace hkeep := Hid.mk hkeep
  replace hset := Hid.mk hset
  clear hlt2 hu hlt1 hkl hle hel hnx2 hfr2 hI hu0
  by_cases hxy : x = y
  · subst hxy
    have hk1 := Hid.mk (hsk.out (hkp.trans (decide_eq_false (by simp))))
    clear hkp hsk hkeep hset
    have e2 : (x != x) = false := bne_self_eq_false x
    repeat' (with_reducible first | refine x_ops ?_ | simp only [go_sem, Nat.reduceAdd, Nat.reduceEqDiff, Nat.reduceLT, Nat.reduceLeDiff, Nat.reduceMul, Nat.reduceSub, Nat.reducePow, Nat.reduceDiv, Nat.reduceMod, Nat.reduceBEq, Int.reduceBEq, Int.reduceLT, reduceIte, tIs, tBs, tPs, e2, *] | ((first | refine gd1 ?_ ?_ | refine gd2 ?_ ?_ | refine gd3 ?_ ?_) <;> (first | exact @False.elim _ | intro hc)))
    refine nx hu00.out ⟨vv, ⟨kk, e, vw, by have h := hk1.out; rwa [show k + 1 + (u + 1) + 1 = k + (1 + (u + 1 + 1)) by omega] at h, ?_⟩, ?_, fun j hj hjq => ?_⟩
    · exact ho2
    · have := hnx20.out
      first
        | (show m.next ≤ m2.next; omega)
        | (show m.next ≤ m2.next + _; omega)
    · exact hfr20.out j hj hjq
  · have e1 : (x == y) = false := by rw [beq_eq_false_iff_ne]; exact hxy
    have e2 : (x != y) = true := by rw [bne, e1]; rfl
    have hk1 := Hid.mk (hkeep.out (hkp.trans (decide_eq_true hxy)))
    clear hkp hsk hkeep hxy
    repeat' (with_reducible first | refine x_ops ?_ | simp only [go_sem, Nat.reduceAdd, Nat.reduceEqDiff, Nat.reduceLT, Nat.reduceLeDiff, Nat.reduceMul, Nat.reduceSub, Nat.reducePow, Nat.reduceDiv, Nat.reduceMod, Nat.reduceBEq, Int.reduceBEq, Int.reduceLT, reduceIte, tIs, tBs, tPs, e1, e2, *] | ((first | refine gd1 ?_ ?_ | refine gd2 ?_ ?_ | refine gd3 ?_ ?_) <;> (first | exact @False.elim _ | intro hc)))
    refine nx hu00.out ⟨vv, ⟨kk + 1, e.set kk x, vw, by have h := hk1.out; rwa [show k + 1 + (u + 1) + 1 = k + (1 + (u + 1 + 1)) by omega] at h, ?_⟩, ?_, fun j hj hjq => ?_⟩
    · rw [← hset.out]
      exact if_pos rfl
    · have := hnx20.out
      first
        | (show m.next ≤ m2.next; omega)
        | (show m.next ≤ m2.next + _; omega)
    · exact (if_neg hjq).trans (hfr20.out j hj hjq)
end Go.Proofs.YtdefefeifcdogaaGreat
namespace Go.Proofs.YtdefefeifcdogaaGreat
open Go.RowKit
set_option linter.unusedSimpArgs false
set_option linter.unusedVariables false

theorem adj_lt {α : Type} [Inhabited α] (f : α → Int) {l : List α} (h : ∀ i, i + 1 < l.length → f (l.getD i default) < f (l.getD (i + 1) default)) (i : Nat) : ∀ d, i + d + 1 < l.length → f (l.getD i default) < f (l.getD (i + d + 1) default)
  | 0, hd => h i hd
  | d + 1, hd => by
    have a := adj_lt f h i d (by omega)
    have b := h (i + d + 1) hd
    have e : i + (d + 1) + 1 = i + d + 1 + 1 := by omega
    rw [e]
    omega
theorem adj_pw {α : Type} [Inhabited α] (f : α → Int) {l : List α} (h : ∀ i, i + 1 < l.length → f (l.getD i default) < f (l.getD (i + 1) default)) : l.Pairwise fun a b => f a < f b := by
  rw [List.pairwise_iff_getElem]
  intro i j hi hj hij
  have := adj_lt f h i (j - i - 1) (by omega)
  rw [show i + (j - i - 1) + 1 = j by omega, List.getD_eq_getElem?_getD, List.getD_eq_getElem?_getD, List.getElem?_eq_getElem hi, List.getElem?_eq_getElem hj] at this
  exact this
/-- The signs of a valid column. -/
theorem clm_sgs {x : Ins} {c : Clm} (h : ClmOk x c) : c.sgs.Pairwise (fun a b => keyS a < keyS b) ∧ ∀ s ∈ c.sgs, okS s = true := by
  refine ⟨adj_pw keyS fun i hi => ?_, fun s hs => ?_⟩
  · have := h.ris
    rw [risS, Bool.and_eq_true, allB_iff] at this
    exact befS_key (this.1 i (by omega))
  · have h1 : (tkS s == 0) = false := by
      have := h.tks
      rw [List.any_eq_false] at this
      simpa using this s hs
    have h2 : tkS s ≠ 0 := by rw [beq_eq_false_iff_ne] at h1; exact h1
    have hp : 0 < tkS s := by have := (tkS_bd s).1; omega
    rw [← tkS_pos]
    exact decide_eq_true hp
theorem celL {l : List Int} {fr : Int} {tie : Bool} (h : CelOk l fr tie) : l.Pairwise (fun a b => a < b) ∧ ∀ n ∈ l, -1 ≤ n ∧ n ≤ fr := by
  have hr := risI_lt h.ris
  have hp : l.Pairwise (fun a b => a < b) := adj_pw (fun x : Int => x) hr
  refine ⟨hp, fun n hn => ?_⟩
  have h0 := risI_pos h.ris
  obtain ⟨i, hi, e⟩ := List.mem_iff_getElem.1 hn
  have e2 : l.getD i 0 = n := by rw [List.getD_eq_getElem?_getD, List.getElem?_eq_getElem hi]; exact e
  have a := rise_bd hr i hi
  have b : l.getD i 0 ≤ l.getD (l.length - 1) 0 := by
    by_cases hi2 : i = l.length - 1
    · rw [← hi2]; omega
    · have := adj_lt (fun x : Int => x) (l := l) hr i (l.length - 1 - i - 1) (by omega)
      rw [show i + (l.length - 1 - i - 1) + 1 = l.length - 1 by omega] at this
      have this : l.getD i 0 < l.getD (l.length - 1) 0 := this
      omega
  have := h.lo
  have := h.hi
  omega
theorem meetS_mx {xs ys : List Sg} (h1 : xs.Pairwise fun a b => keyS a < keyS b) (h2 : ∀ s ∈ xs, okS s = true) : meetS xs ys = mxS true xs ys := by
  refine mS_of (h1.filter _) fun x => ?_
  rw [meetS, List.mem_filter, pBo, Bool.not_true, Bool.false_and, Bool.or_false, Bool.and_eq_true, memS_iff xs]
  exact ⟨fun ⟨a, b⟩ => ⟨h2 x a, a, b⟩, fun ⟨_, a, b⟩ => ⟨a, b⟩⟩
theorem meetI_mx {xs ys : List Int} (h1 : xs.Pairwise fun a b => a < b) (h2 : ∀ s ∈ xs, -1 ≤ s ∧ s ≤ 18) : meetI xs ys = mxI true xs ys := by
  refine mI_of (h1.filter _) fun x => ?_
  rw [meetI, List.mem_filter, pBo, Bool.not_true, Bool.false_and, Bool.or_false, Bool.and_eq_true, memI_iff xs]
  exact ⟨fun ⟨a, b⟩ => ⟨h2 x a, a, b⟩, fun ⟨_, a, b⟩ => ⟨a, b⟩⟩
/-- What is sorted and freed of doubles is what is in either. -/
theorem mergeS_mx {xs ys d : List Sg} (hm : ∀ x, x ∈ d ↔ x ∈ xs ∨ x ∈ ys) (hs : ∀ i, i + 1 < d.length → keyS (d.getD i default) ≤ keyS (d.getD (i + 1) default)) (h1 : ∀ s ∈ xs, okS s = true) (h2 : ∀ s ∈ ys, okS s = true) : cmpU d d.length = mxS false xs ys := by
  obtain ⟨a, _, b⟩ := cmpU_srt keyS keyS_inj d hs d.length (Nat.le_refl _)
  refine mS_of a fun x => ?_
  rw [b, List.take_length, hm, pBo, Bool.not_false, Bool.true_and]
  constructor
  · rintro (h | h)
    · exact ⟨h1 x h, by rw [(memS_iff xs x).2 h]; cases memS ys x <;> rfl⟩
    · exact ⟨h2 x h, by rw [(memS_iff ys x).2 h]; cases memS xs x <;> rfl⟩
  · rintro ⟨_, h⟩
    rw [← memS_iff, ← memS_iff]
    revert h
    cases memS xs x <;> cases memS ys x <;> simp
theorem mergeI_mx {xs ys d : List Int} (hm : ∀ x, x ∈ d ↔ x ∈ xs ∨ x ∈ ys) (hs : ∀ i, i + 1 < d.length → d.getD i default ≤ d.getD (i + 1) default) (h1 : ∀ s ∈ xs, -1 ≤ s ∧ s ≤ 18) (h2 : ∀ s ∈ ys, -1 ≤ s ∧ s ≤ 18) : cmpU d d.length = mxI false xs ys := by
  obtain ⟨a, _, b⟩ := cmpU_srt (fun x : Int => x) (fun _ _ h => h) d hs d.length (Nat.le_refl _)
  refine mI_of a fun x => ?_
  rw [b, List.take_length, hm, pBo, Bool.not_false, Bool.true_and]
  constructor
  · rintro (h | h)
    · exact ⟨h1 x h, by rw [(memI_iff xs x).2 h]; cases memI ys x <;> rfl⟩
    · exact ⟨h2 x h, by rw [(memI_iff ys x).2 h]; cases memI xs x <;> rfl⟩
  · rintro ⟨_, h⟩
    rw [← memI_iff, ← memI_iff]
    revert h
    cases memI xs x <;> cases memI ys x <;> simp
theorem cmbL_congr {S S' : List Sg → List Sg → List Sg} {C C' : List Int → List Int → List Int} {f g : Lf}
    (hS : ∀ i, i < f.cols.length → S (f.cols.getD i default).sgs (g.cols.getD i default).sgs = S' (f.cols.getD i default).sgs (g.cols.getD i default).sgs)
    (hC : ∀ i j, i < f.cols.length → j < (f.cols.getD i default).ce.length → C ((f.cols.getD i default).ce.getD j []) ((g.cols.getD i default).ce.getD j []) = C' ((f.cols.getD i default).ce.getD j []) ((g.cols.getD i default).ce.getD j [])) : cmbL S C f g = cmbL S' C' f g := by
  unfold cmbL
  congr 1
  apply List.map_congr_left
  intro i hi
  rw [List.mem_range] at hi
  unfold cmbC
  rw [hS i hi]
  congr 1
  unfold ceK
  apply List.map_congr_left
  intro j hj
  rw [List.mem_range] at hj
  exact hC i j hi hj
/-- What is known of the columns of two leaves that fit one another. -/
structure TwoRows (f g : Lf) : Prop where
  s1 : ∀ i, i < f.cols.length → (f.cols.getD i default).sgs.Pairwise (fun a b => keyS a < keyS b) ∧ ∀ s ∈ (f.cols.getD i default).sgs, okS s = true
  s2 : ∀ i, i < f.cols.length → (g.cols.getD i default).sgs.Pairwise (fun a b => keyS a < keyS b) ∧ ∀ s ∈ (g.cols.getD i default).sgs, okS s = true
  c1 : ∀ i j, i < f.cols.length → j < (f.cols.getD i default).ce.length → ((f.cols.getD i default).ce.getD j []).Pairwise (fun a b => a < b) ∧ ∀ n ∈ (f.cols.getD i default).ce.getD j [], -1 ≤ n ∧ n ≤ 18
  c2 : ∀ i j, i < f.cols.length → j < (f.cols.getD i default).ce.length → ((g.cols.getD i default).ce.getD j []).Pairwise (fun a b => a < b) ∧ ∀ n ∈ (g.cols.getD i default).ce.getD j [], -1 ≤ n ∧ n ≤ 18
  n1 : ∀ i, i < f.cols.length → 0 < (f.cols.getD i default).sgs.length ∧ 0 < (g.cols.getD i default).sgs.length
  n2 : ∀ i j, i < f.cols.length → j < (f.cols.getD i default).ce.length → 0 < ((f.cols.getD i default).ce.getD j []).length ∧ 0 < ((g.cols.getD i default).ce.getD j []).length
theorem TwoRows.of {f g : Lf} (hf : LfSm f) (hg : LfSm g) (h : twoE f g = 0) : TwoRows f g := by
  have ok := TwoOk.of hf hg h
  obtain ⟨h1, h2, h3⟩ := twoE_zero h
  obtain ⟨q1, _, q3⟩ := lchk_zero h1
  obtain ⟨q4, _, q6⟩ := lchk_zero h2
  have hig : ∀ {i : Nat}, i < f.cols.length → i < g.cols.length := fun hi => by have := ok.w; omega
  have hjl : ∀ {i j : Nat}, i < f.cols.length → j < (f.cols.getD i default).ce.length → j < (g.cols.getD i default).ce.length := fun hi hj => by have := (ok.l _ hi).2; omega
  refine ⟨fun i hi => clm_sgs (q3 i hi).1, fun i hi => clm_sgs (q6 i (hig hi)).1, fun i j hi hj => ?_, fun i j hi hj => ?_, fun i hi => ⟨risS_pos (q3 i hi).1.ris, risS_pos (q6 i (hig hi)).1.ris⟩, fun i j hi hj => ⟨risI_pos ((q3 i hi).1.cel j hj).ris, risI_pos ((q6 i (hig hi)).1.cel j (hjl hi hj)).ris⟩⟩
  · have c := (q3 i hi).1
    have a := crs_f q1 (i := j) (by rw [← c.len]; exact hj)
    obtain ⟨u, v⟩ := celL (c.cel j hj)
    exact ⟨u, fun n hn => by have := v n hn; omega⟩
  · have c := (q6 i (hig hi)).1
    have a := crs_f q4 (i := j) (by rw [← c.len]; exact hjl hi hj)
    obtain ⟨u, v⟩ := celL (c.cel j (hjl hi hj))
    exact ⟨u, fun n hn => by have := v n hn; omega⟩
theorem mix_meet {f g : Lf} (h : TwoRows f g) : cmbL (mxS true) (mxI true) f g = cmbL meetS meetI f g :=
  cmbL_congr (fun i hi => (meetS_mx (h.s1 i hi).1 (h.s1 i hi).2).symm) fun i j hi hj => (meetI_mx (h.c1 i j hi hj).1 (h.c1 i j hi hj).2).symm
end Go.Proofs.YtdefefeifcdogaaGreat
