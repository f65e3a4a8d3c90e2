/- A valid instrument, of both. -/
import Derived.Test.YtdefefeifcdogaaGreatL4
import Derived.Test.YtdefefeifcdogaaGreatWl
import Derived.Test.YtdefefeifcdogaaGreatVr
namespace Go.Proofs.YtdefefeifcdogaaGreat
open Go.RowKit
set_option linter.unusedSimpArgs false
set_option linter.unusedVariables false

def Crs.val (c : Crs) : V := .agg c.cells
attribute [go_sem] Crs.val
theorem pure_crs (c : Crs) : c.val.pure = true := by
  rw [Crs.val, Crs.cells, V.pure]; simp only [V.pures, vint, vbool, V.pure, Bool.and_self]
def lastS (st : List Int) (k : Nat) : Int := if k = 0 then 0 else st.getD (k - 1) 0
def stB (st : List Int) : Bool := allB st.length fun i => decide (lastS st i < st.getD i 0) && decide (st.getD i 0 ≤ 127)
/-- The highest pitch of a course. -/
def topC (st : List Int) (c : Crs) : Int := c.p + (if 0 < c.f then st.getD (c.f - 1).toNat 0 else 0) + (if c.o = true then 12 else 0)
def crsE (st : List Int) (c : Crs) : Int := if c.f < 0 ∨ (st.length : Int) < c.f then 13 else if c.p < 0 ∨ 127 < c.p ∨ 127 < topC st c then 10 else 0
/-- The first error. -/
def firE {α : Type} (g : α → Int) : List α → Int
  | [] => 0
  | x :: l => if g x ≠ 0 then g x else firE g l
theorem firE_at {α : Type} [Inhabited α] {g : α → Int} : ∀ {l : List α} {k : Nat}, k < l.length → g (l.getD k default) ≠ 0 → (∀ i, i < k → g (l.getD i default) = 0) → firE g l = g (l.getD k default)
  | [], k, hk, _, _ => by simp at hk
  | x :: l, 0, _, h, _ => by rw [firE]; exact if_pos h
  | x :: l, k + 1, hk, h, hI => by
    rw [firE, if_neg (by have := hI 0 (by omega); simpa using this)]
    exact firE_at (by simpa using hk) h fun i hi => hI (i + 1) (by omega)
theorem firE_none {α : Type} [Inhabited α] {g : α → Int} : ∀ {l : List α}, (∀ i, i < l.length → g (l.getD i default) = 0) → firE g l = 0
  | [], _ => rfl
  | x :: l, hI => by
    rw [firE, if_neg (by have := hI 0 (by simp); simpa using this)]
    exact firE_none fun i hi => hI (i + 1) (by simpa using hi)
theorem firE_zero {α : Type} [Inhabited α] {g : α → Int} : ∀ {l : List α}, firE g l = 0 → ∀ i, i < l.length → g (l.getD i default) = 0
  | [], _, i, hi => by simp at hi
  | x :: l, h, i, hi => by
    rw [firE] at h
    split at h
    · rename_i h1; exact absurd h h1
    · rename_i h1
      cases i with
      | zero => simpa using h1
      | succ i => exact firE_zero h i (by simpa using hi)
/-- The first error of an instrument. -/
def chkI (x : Ins) : Int := if 14 < x.cs.length ∨ 18 < x.st.length then 2 else if x.cs.length = 0 then 11 else if stB x.st = true then firE (crsE x.st) x.cs else 11
theorem stB_all {st : List Int} (h : stB st = true) : ∀ i, i < st.length → 1 ≤ st.getD i 0 ∧ st.getD i 0 ≤ 127 ∧ (0 < i → st.getD (i - 1) 0 < st.getD i 0) := by
  have h1 : ∀ i, i < st.length → lastS st i < st.getD i 0 ∧ st.getD i 0 ≤ 127 := fun i hi => by
    rw [stB, allB_iff] at h
    simpa using h i hi
  intro i
  induction i with
  | zero => intro hi; have := h1 0 hi; rw [lastS, if_pos rfl] at this; exact ⟨by omega, this.2, fun h => by omega⟩
  | succ i ih =>
    intro hi
    have h2 := h1 (i + 1) hi
    have h3 := ih (by omega)
    rw [lastS, if_neg (by omega), Nat.add_sub_cancel] at h2
    exact ⟨by omega, h2.2, fun _ => h2.1⟩
theorem highest_fn (x : Ins) (c : Crs) (hf : 0 ≤ c.f ∧ c.f ≤ x.st.length) (hp : 0 ≤ c.p ∧ c.p ≤ 127) (hs : ∀ i, i < x.st.length → 1 ≤ x.st.getD i 0 ∧ x.st.getD i 0 ≤ 127) (hl : x.st.length ≤ 18) : Fn Tryz.prog Gd 142 [x.val, c.val] (vint (topC x.st c)) := by
  refine Fn.of_vx0 k_instrument_highest (by simp) (by rw [V.pures, pure_ins, V.pures, pure_crs]; rfl) ?_
  obtain ⟨p, f, o⟩ := c
  have hf1 : 0 ≤ f := hf.1
  have hf2 : f ≤ x.st.length := hf.2
  have hp1 : 0 ≤ p := hp.1
  have hp2 : p ≤ 127 := hp.2
  clear hf hp
  obtain ⟨n, rfl⟩ : ∃ n : Nat, f = n := ⟨f.toNat, by omega⟩
  unfold c_instrument_highest
  by_cases h0 : 0 < n
  · have c1 : (0 : Int) < (n : Int) := by omega
    have g1 := ints_at (l := x.st) (k := n - 1) (by omega)
    have c2 : ((n - 1 : Nat) : Int) < (x.st.length : Int) := by omega
    have w1 := w_sub1 (k := n) h0 (by omega)
    have h1 := hs (n - 1) (by omega)
    have hq : topC x.st ⟨p, n, o⟩ = p + x.st.getD (n - 1) 0 + (if o = true then 12 else 0) := by
      rw [topC, if_pos (by show (0 : Int) < n; omega)]
      show p + x.st.getD ((n : Int) - 1).toNat 0 + _ = _
      rw [show ((n : Int) - 1).toNat = n - 1 by omega]
    have w2 : IntKind.i64.wrap (p + x.st.getD (n - 1) 0) = p + x.st.getD (n - 1) 0 := w_in (by omega)
    have w3 : IntKind.i64.wrap (p + x.st.getD (n - 1) 0 + 12) = p + x.st.getD (n - 1) 0 + 12 := w_in (by omega)
    clear hs h1 hf1 hp1 hp2 hf2
    replace hq := Hid.mk hq
    clear h0
    cases o
    all_goals repeat' (with_reducible first | refine x_ops ?_ | refine wk ?_ | ((first | refine gd1 ?_ ?_ | refine gd2 ?_ ?_ | refine gd3 ?_ ?_) <;> (first | exact @False.elim _ | intro hc)))
    all_goals refine finV_lit vw ?_
    all_goals rw [hq.out]
    all_goals first
      | (rw [if_pos rfl]; done)
      | (rw [if_neg (by decide), Int.add_zero]; done)
      | (rw [if_pos rfl]; congr 1; omega)
  · have c1 : ¬ (0 : Int) < (n : Int) := by omega
    have hq : topC x.st ⟨p, n, o⟩ = p + (if o = true then 12 else 0) := by
      rw [topC, if_neg (by show ¬ (0 : Int) < n; omega), Int.add_zero]
    have w3 : IntKind.i64.wrap (p + 12) = p + 12 := w_in (by omega)
    clear hs hf1 hp1 hp2 hf2
    replace hq := Hid.mk hq
    clear h0
    cases o
    all_goals repeat' (with_reducible first | refine x_ops ?_ | refine wk ?_ | ((first | refine gd1 ?_ ?_ | refine gd2 ?_ ?_ | refine gd3 ?_ ?_) <;> (first | exact @False.elim _ | intro hc)))
    all_goals refine finV_lit vw ?_
    all_goals rw [hq.out]
    all_goals first
      | (rw [if_pos rfl]; done)
      | (rw [if_neg (by decide), Int.add_zero]; done)
set_option maxHeartbeats 1000000 in
theorem icheck_fn (x : Ins) : Fn Tryz.prog Gd 71 [x.val] (vint (chkI x)) := by
  refine Fn.of_vx0 k_instrument_Check (by simp) (by rw [V.pures, pure_ins]; rfl) ?_
  unfold c_instrument_Check
  by_cases h1 : 14 < x.cs.length
  · have c1 : (14 : Int) < (x.cs.length : Int) := by omega
    have hq : chkI x = 2 := by rw [chkI, if_pos (.inl h1)]
    clear h1
    repeat' (with_reducible first | refine x_ops ?_ | refine wk ?_ | ((first | refine gd1 ?_ ?_ | refine gd2 ?_ ?_ | refine gd3 ?_ ?_) <;> (first | exact @False.elim _ | intro hc)))
    exact finV_lit vv (by first | rfl | rw [hq])
  by_cases h2 : 18 < x.st.length
  · have c1 : ¬ (14 : Int) < (x.cs.length : Int) := by omega
    have c2 : (18 : Int) < (x.st.length : Int) := by omega
    have hq : chkI x = 2 := by rw [chkI, if_pos (.inr h2)]
    clear h1 h2
    repeat' (with_reducible first | refine x_ops ?_ | refine wk ?_ | ((first | refine gd1 ?_ ?_ | refine gd2 ?_ ?_ | refine gd3 ?_ ?_) <;> (first | exact @False.elim _ | intro hc)))
    exact finV_lit vv (by first | rfl | rw [hq])
  have c1 : ¬ (14 : Int) < (x.cs.length : Int) := by omega
  have c2 : ¬ (18 : Int) < (x.st.length : Int) := by omega
  by_cases h3 : x.cs.length = 0
  · have hq : chkI x = 11 := by rw [chkI, if_neg (by omega), if_pos h3]
    have c3 : ((x.cs.length : Int) == 0) = true := by rw [beq_iff_eq]; omega
    clear h1 h2 h3
    repeat' (with_reducible first | refine x_ops ?_ | refine wk ?_ | ((first | refine gd1 ?_ ?_ | refine gd2 ?_ ?_ | refine gd3 ?_ ?_) <;> (first | exact @False.elim _ | intro hc)))
    exact finV_lit vv (by first | rfl | rw [hq])
  have c3 : ((x.cs.length : Int) == 0) = false := by rw [beq_eq_false_iff_ne]; omega
  have hq : chkI x = if stB x.st = true then firE (crsE x.st) x.cs else 11 := by rw [chkI, if_neg (by omega), if_neg h3]
  replace hq := Hid.mk hq
  have hl14 : x.cs.length ≤ 14 := by omega
  have hl18 : x.st.length ≤ 18 := by omega
  clear h1 h2 h3
  replace hl14 := Hid.mk hl14
  replace hl18 := Hid.mk hl18
  repeat' (with_reducible first | refine x_ops ?_ | refine wk ?_ | ((first | refine gd1 ?_ ?_ | refine gd2 ?_ ?_ | refine gd3 ?_ ?_) <;> (first | exact @False.elim _ | intro hc)))
  refine x_loopF w_instrument_Check_p9 kr x.st.length (fun k t => t 25 = vint k ∧ t 3 = vint (lastS x.st k) ∧ ∀ i, i < k → lastS x.st i < x.st.getD i 0 ∧ x.st.getD i 0 ≤ 127) ?_ ?_
  · exact ⟨vv, vv, fun i h => by omega⟩
  rintro k t hk ⟨h25, h3, hI⟩
  replace hI := Hid.mk hI
  by_cases hlt : k < x.st.length
  · have g1 := ints_at (l := x.st) (k := k) hlt
    have c4 : (k : Int) < (x.st.length : Int) := by omega
    have w2 := w_add1 (k := k) (by have := hl18.out; omega)
    have hlt0 := Hid.mk hlt
    have hnext : lastS x.st (k + 1) = x.st.getD k 0 := by rw [lastS, if_neg (by omega), Nat.add_sub_cancel]
    replace hnext := Hid.mk hnext
    have bad : ¬ (lastS x.st k < x.st.getD k 0 ∧ x.st.getD k 0 ≤ 127) → (11 : Int) = chkI x := fun h => by
      rw [hq.out, if_neg]
      rw [stB, allB_iff]
      intro h'
      exact h (by simpa using h' k hlt)
    replace bad := Hid.mk bad
    clear hlt hk
    generalize hy : x.st.getD k 0 = y at *
    replace hy := Hid.mk hy
    generalize hz : lastS x.st k = z at *
    replace hz := Hid.mk hz
    repeat' (with_reducible first | refine x_ops ?_ | refine wk ?_ | ((first | refine gd1 ?_ ?_ | refine gd2 ?_ ?_ | refine gd3 ?_ ?_) <;> (first | exact @False.elim _ | intro hc)))
    all_goals first
      | (refine nf hlt0.out ⟨vv, ?_, fun i hi => ?_⟩ rfl
         · rw [hnext.out]; exact vv
         · by_cases e : i = k
           · subst e; rw [hy.out, hz.out]; omega
           · exact hI.out i (by omega))
      | (refine finV_lit vv ?_
         rw [bad.out (by omega)])
  have c4 : ¬ ((k : Int) < (x.st.length : Int)) := by omega
  have hst : stB x.st = true := by
    rw [stB, allB_iff]
    intro i hi
    simpa using hI.out i (by omega)
  have hall := stB_all hst
  replace hq : Hid (chkI x = firE (crsE x.st) x.cs) := Hid.mk (by rw [hq.out, if_pos hst])
  clear hI hlt hk hst h3
  replace hall := Hid.mk hall
  repeat' (with_reducible first | refine x_ops ?_ | refine wk ?_ | ((first | refine gd1 ?_ ?_ | refine gd2 ?_ ?_ | refine gd3 ?_ ?_) <;> (first | exact @False.elim _ | intro hc)))
  refine x_loopW w_instrument_Check_p18 kr x.cs.length (fun k t m => t 41 = vint k ∧ (m.obj 0 = some (.box [.sl x.cs.length (x.cs.flatMap Crs.cells) .no, .sl x.st.length (x.st.map vint) .no] 25) ∧ 0 < m.next) ∧ ∀ i, i < k → crsE x.st (x.cs.getD i default) = 0) ?_ ?_
  · exact ⟨vv, ⟨vv, by show 0 < 2; omega⟩, fun i h => by omega⟩
  clear c4 h25
  rintro k t m hk ⟨h41, ⟨hm, hn⟩, hI⟩
  replace hI := Hid.mk hI
  by_cases hlt : k < x.cs.length
  case neg =>
    have c4 : ¬ ((k : Int) < (x.cs.length : Int)) := by omega
    have hz : chkI x = 0 := by rw [hq.out]; exact firE_none fun i hi => hI.out i (by omega)
    clear hlt hk
    repeat' (with_reducible first | refine x_ops ?_ | refine wk ?_ | ((first | refine gd1 ?_ ?_ | refine gd2 ?_ ?_ | refine gd3 ?_ ?_) <;> (first | exact @False.elim _ | intro hc)))
    exact finV_lit vv (by first | rfl | rw [hz])
  have g1 := crs_take (l := x.cs) (k := k) hlt
  have hL := crss_len x.cs
  have c4 : (k : Int) < (x.cs.length : Int) := by omega
  have c5 : k * 3 + 3 ≤ x.cs.length * 3 := by omega
  have w2 := w_add1 (k := k) (by have := hl14.out; omega)
  have x2 : ¬ (0 : Nat) = m.next + 2 := by omega
  have hn2 := Hid.mk hn
  have hlt0 := Hid.mk hlt
  have bad : crsE x.st (x.cs.getD k default) ≠ 0 → crsE x.st (x.cs.getD k default) = chkI x := fun h => by rw [hq.out]; exact (firE_at hlt h hI.out).symm
  have step : crsE x.st (x.cs.getD k default) = 0 → ∀ i, i < k + 1 → crsE x.st (x.cs.getD i default) = 0 := fun h i hi => by
    by_cases e : i = k
    · subst e; exact h
    · exact hI.out i (by omega)
  replace bad := Hid.mk bad
  replace step := Hid.mk step
  clear hlt hk hn
  generalize x.cs.getD k default = c at *
  by_cases hf : c.f < 0 ∨ (x.st.length : Int) < c.f
  · have he : crsE x.st c = 13 := by rw [crsE, if_pos hf]
    have hz : chkI x = 13 := by rw [← bad.out (by rw [he]; decide), he]
    by_cases hf1 : c.f < 0
    · clear hf he
      repeat' (with_reducible first | refine x_ops ?_ | refine wk ?_ | ((first | refine gd1 ?_ ?_ | refine gd2 ?_ ?_ | refine gd3 ?_ ?_) <;> (first | exact @False.elim _ | intro hc)))
      exact finV_lit vv (by first | rfl | rw [hz])
    · have hf2 : (x.st.length : Int) < c.f := by omega
      clear hf he
      repeat' (with_reducible first | refine x_ops ?_ | refine wk ?_ | ((first | refine gd1 ?_ ?_ | refine gd2 ?_ ?_ | refine gd3 ?_ ?_) <;> (first | exact @False.elim _ | intro hc)))
      exact finV_lit vv (by first | rfl | rw [hz])
  have hf1 : ¬ c.f < 0 := by omega
  have hf2 : ¬ (x.st.length : Int) < c.f := by omega
  by_cases hp1 : c.p < 0
  · have he : crsE x.st c = 10 := by rw [crsE, if_neg hf, if_pos (.inl hp1)]
    have hz : chkI x = 10 := by rw [← bad.out (by rw [he]; decide), he]
    clear hf he
    repeat' (with_reducible first | refine x_ops ?_ | refine wk ?_ | ((first | refine gd1 ?_ ?_ | refine gd2 ?_ ?_ | refine gd3 ?_ ?_) <;> (first | exact @False.elim _ | intro hc)))
    exact finV_lit vv (by first | rfl | rw [hz])
  by_cases hp2 : 127 < c.p
  · have he : crsE x.st c = 10 := by rw [crsE, if_neg hf, if_pos (.inr (.inl hp2))]
    have hz : chkI x = 10 := by rw [← bad.out (by rw [he]; decide), he]
    clear hf he
    repeat' (with_reducible first | refine x_ops ?_ | refine wk ?_ | ((first | refine gd1 ?_ ?_ | refine gd2 ?_ ?_ | refine gd3 ?_ ?_) <;> (first | exact @False.elim _ | intro hc)))
    exact finV_lit vv (by first | rfl | rw [hz])
  have H := highest_fn x c (by omega) (by omega) (fun i hi => ⟨(hall.out i hi).1, (hall.out i hi).2.1⟩) hl18.out
  by_cases ht : 127 < topC x.st c
  · have he : crsE x.st c = 10 := by rw [crsE, if_neg hf, if_pos (.inr (.inr ht))]
    have hz : chkI x = 10 := by rw [← bad.out (by rw [he]; decide), he]
    clear hf he
    repeat' (with_reducible first | refine x_ops ?_ | refine wk ?_ | (with_reducible refine xc (H) ?_) | ((first | refine gd1 ?_ ?_ | refine gd2 ?_ ?_ | refine gd3 ?_ ?_) <;> (first | exact @False.elim _ | intro hc)))
    exact finV_lit vv (by first | rfl | rw [hz])
  · have he : crsE x.st c = 0 := by rw [crsE, if_neg hf, if_neg (by omega)]
    replace he := Hid.mk he
    clear hf
    repeat' (with_reducible first | refine x_ops ?_ | refine wk ?_ | (with_reducible refine xc (H) ?_) | ((first | refine gd1 ?_ ?_ | refine gd2 ?_ ?_ | refine gd3 ?_ ?_) <;> (first | exact @False.elim _ | intro hc)))
    refine nx hlt0.out ⟨vv, ⟨?_, ?_⟩, step.out he.out⟩
    · exact (put_other _ _ (by omega)).trans ((put_other _ _ (by omega)).trans hm)
    · show 0 < m.next + 4
      omega
end Go.Proofs.YtdefefeifcdogaaGreat
