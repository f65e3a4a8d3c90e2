/- Signs: ticks of both, rising rows, what rows contain. -/
import Derived.Test.YtdefefeifcdogaaGreatL1
namespace Go.Proofs.YtdefefeifcdogaaGreat
open Go.RowKit
set_option linter.unusedSimpArgs false
set_option linter.unusedVariables false

/-- Of all numbers below n. -/
def allB (n : Nat) (p : Nat → Bool) : Bool := (List.range n).all p
theorem allB_true {n : Nat} {p : Nat → Bool} (h : ∀ i, i < n → p i = true) : allB n p = true := by
  rw [allB, List.all_eq_true]; exact fun i hi => h i (List.mem_range.1 hi)
theorem allB_false {n : Nat} {p : Nat → Bool} {i : Nat} (hi : i < n) (h : p i = false) : allB n p = false := by
  rw [allB, List.all_eq_false]; exact ⟨i, List.mem_range.2 hi, by simp [h]⟩
theorem allB_iff {n : Nat} {p : Nat → Bool} : allB n p = true ↔ ∀ i, i < n → p i = true := by
  rw [allB, List.all_eq_true]; exact ⟨fun h i hi => h i (List.mem_range.2 hi), fun h i hi => h i (List.mem_range.1 hi)⟩

/-- The ticks of a value. -/
def tk0 (v : Nat) : Int := ([0, 384, 192, 96, 48, 24, 12, 6] : List Int).getD v 0
/-- Is it a sign that is written? -/
def okS (s : Sg) : Bool := decide (1 ≤ s.v) && decide (s.v ≤ 7) && !(s.d && s.t)
/-- The ticks of a sign. -/
def tkS (s : Sg) : Int := if okS s = true then (if s.d = true then tk0 s.v.toNat / 2 * 3 else if s.t = true then tk0 s.v.toNat / 3 * 2 else tk0 s.v.toNat) else 0
theorem tk0_cases {n : Nat} (h1 : 1 ≤ n) (h7 : n ≤ 7) : tk0 n = 384 / 2 ^ (n - 1) ∧ 6 ≤ tk0 n ∧ tk0 n ≤ 384 ∧ (tk0 n).tdiv 2 = tk0 n / 2 ∧ (tk0 n).tdiv 3 = tk0 n / 3 ∧ (n < 7 → tk0 n / 2 = tk0 (n + 1)) := by
  have : n = 1 ∨ n = 2 ∨ n = 3 ∨ n = 4 ∨ n = 5 ∨ n = 6 ∨ n = 7 := by omega
  rcases this with rfl | rfl | rfl | rfl | rfl | rfl | rfl <;> decide
theorem ticks_fn (s : Sg) : Fn Tryz.prog Gd 146 [s.val] (vint (tkS s)) := by
  refine Fn.of_vx0 k_piece_Ticks (by simp) (by rw [V.pures, pure_sg]; rfl) ?_
  obtain ⟨v, d, t⟩ := s
  unfold c_piece_Ticks
  by_cases h1 : 1 ≤ v
  case neg =>
    have c1 : v < 1 := by omega
    clear h1
    repeat' (with_reducible first | refine x_ops ?_ | refine wk ?_ | ((first | refine gd1 ?_ ?_ | refine gd2 ?_ ?_ | refine gd3 ?_ ?_) <;> (first | exact @False.elim _ | intro hc)))
    refine finV_lit vv ?_
    rw [tkS, okS, show decide (1 ≤ v) = false from decide_eq_false (by omega)]; rfl
  by_cases h7 : v ≤ 7
  case neg =>
    have c1 : ¬ v < 1 := by omega
    have c2 : 7 < v := by omega
    clear h1 h7
    repeat' (with_reducible first | refine x_ops ?_ | refine wk ?_ | ((first | refine gd1 ?_ ?_ | refine gd2 ?_ ?_ | refine gd3 ?_ ?_) <;> (first | exact @False.elim _ | intro hc)))
    refine finV_lit vv ?_
    rw [tkS, okS, show decide (v ≤ 7) = false from decide_eq_false (by omega), Bool.and_false]; rfl
  obtain ⟨n, rfl⟩ : ∃ n : Nat, v = n := ⟨v.toNat, by omega⟩
  have hn1 : 1 ≤ n := by omega
  have hn7 : n ≤ 7 := by omega
  obtain ⟨q1, q2, q3, q4, q5, _⟩ := tk0_cases hn1 hn7
  have c1 : ¬ (n : Int) < 1 := by omega
  have c2 : ¬ 7 < (n : Int) := by omega
  have w1 := w_sub1 (k := n) (by omega) (by omega)
  have hm : min (n - 1) 64 = n - 1 := Nat.min_eq_left (by omega)
  have hw2 : IntKind.i64.wrap ((tk0 n).tdiv 2) = tk0 n / 2 := by rw [q4]; exact w_in (by omega)
  have hw3 : IntKind.i64.wrap ((tk0 n).tdiv 3) = tk0 n / 3 := by rw [q5]; exact w_in (by omega)
  have hw4 : IntKind.i64.wrap (tk0 n / 2 * 3) = tk0 n / 2 * 3 := w_in (by omega)
  have hw5 : IntKind.i64.wrap (tk0 n / 3 * 2) = tk0 n / 3 * 2 := w_in (by omega)
  have hok : ∀ d t, okS ⟨n, d, t⟩ = !(d && t) := fun d t => by
    rw [okS, decide_eq_true (by show (1 : Int) ≤ n; omega), decide_eq_true (by show (n : Int) ≤ 7; omega)]; rfl
  have hq : ∀ d t, tkS ⟨n, d, t⟩ = if (d && t) = true then 0 else if d = true then tk0 n / 2 * 3 else if t = true then tk0 n / 3 * 2 else tk0 n := fun d t => by
    rw [tkS, hok]; cases d <;> cases t <;> rfl
  replace hq := Hid.mk hq
  clear hok h1 h7 q2 q3 q4 q5 hn1 hn7
  rw [eq_comm] at q1
  cases d <;> cases t
  all_goals repeat' (with_reducible first | refine x_ops ?_ | refine wk ?_ | ((first | refine gd1 ?_ ?_ | refine gd2 ?_ ?_ | refine gd3 ?_ ?_) <;> (first | exact @False.elim _ | intro hc)))
  all_goals refine finV_lit vv ?_
  all_goals first
    | (rw [hq.out]; rfl)
    | (rw [hq.out, hw4]; rfl)
    | (rw [hq.out, hw5]; rfl)
theorem rright_fn (s : Sg) : Fn Tryz.prog Gd 204 [s.val] (vbool (okS s || (decide (s.v = 0) && !s.d && !s.t))) := by
  refine Fn.of_vx0 k_theorboref02_Right (by simp) (by rw [V.pures, pure_sg]; rfl) ?_
  obtain ⟨v, d, t⟩ := s
  unfold c_theorboref02_Right
  by_cases h0 : v = 0
  · subst h0
    cases d <;> cases t
    all_goals repeat' (with_reducible first | refine x_ops ?_ | refine wk ?_ | ((first | refine gd1 ?_ ?_ | refine gd2 ?_ ?_ | refine gd3 ?_ ?_) <;> (first | exact @False.elim _ | intro hc)))
    all_goals refine finV_lit vv ?_
    all_goals rfl
  · have c0 : (v == 0) = false := by rw [beq_eq_false_iff_ne]; exact h0
    have hd : decide (v = 0) = false := decide_eq_false h0
    have hq : ∀ d t, (okS ⟨v, d, t⟩ || (decide (v = 0) && !d && !t)) = (decide (1 ≤ v) && decide (v ≤ 7) && !(d && t)) := fun d t => by
      rw [hd, okS]; cases d <;> cases t <;> simp
    replace hq := Hid.mk hq
    clear h0 hd
    cases h1 : decide (1 ≤ v) <;> cases h2 : decide (v ≤ 7) <;> cases d <;> cases t
    all_goals simp only [decide_eq_true_eq, decide_eq_false_iff_not] at h1 h2
    all_goals repeat' (with_reducible first | refine x_ops ?_ | refine wk ?_ | ((first | refine gd1 ?_ ?_ | refine gd2 ?_ ?_ | refine gd3 ?_ ?_) <;> (first | exact @False.elim _ | intro hc)))
    all_goals refine finV_lit vv (congrArg Value.bool (Eq.trans ?_ (hq.out _ _).symm))
    all_goals first
      | rw [decide_eq_true h1, decide_eq_true h2]; rfl
      | rw [decide_eq_false h1, decide_eq_true h2]; rfl
      | rw [decide_eq_true h1, decide_eq_false h2]; rfl
      | rw [decide_eq_false h1, decide_eq_false h2]; rfl
theorem rticks_fn (s : Sg) : Fn Tryz.prog Gd 148 [s.val] (vint (tkS s)) := by
  refine Fn.of_vx0 k_theorboref02_Ticks (by simp) (by rw [V.pures, pure_sg]; rfl) ?_
  obtain ⟨v, d, t⟩ := s
  have R := rright_fn ⟨v, d, t⟩
  by_cases hok : okS ⟨v, d, t⟩ = true
  case neg =>
    have hok' : okS ⟨v, d, t⟩ = false := by simpa using hok
    rw [hok', Bool.false_or] at R
    unfold c_theorboref02_Ticks
    have hz : Value.int .i64 0 = Value.int .i64 (tkS ⟨v, d, t⟩) := by rw [tkS, if_neg hok]
    replace hz := Hid.mk hz
    by_cases h0 : v = 0
    · subst h0
      clear hok hok'
      cases d <;> cases t
      all_goals repeat' (with_reducible first | refine x_ops ?_ | refine wk ?_ | (with_reducible refine xc (R) ?_) | ((first | refine gd1 ?_ ?_ | refine gd2 ?_ ?_ | refine gd3 ?_ ?_) <;> (first | exact @False.elim _ | intro hc)))
      all_goals exact finV_lit vv hz.out
    · have hd : decide ((⟨v, d, t⟩ : Sg).v = 0) = false := decide_eq_false h0
      rw [hd, Bool.false_and, Bool.false_and] at R
      clear hok hok' hd
      repeat' (with_reducible first | refine x_ops ?_ | refine wk ?_ | (with_reducible refine xc (R) ?_) | ((first | refine gd1 ?_ ?_ | refine gd2 ?_ ?_ | refine gd3 ?_ ?_) <;> (first | exact @False.elim _ | intro hc)))
      all_goals exact finV_lit vv hz.out
  have hq : tkS ⟨v, d, t⟩ = if d = true then tk0 v.toNat / 2 * 3 else if t = true then tk0 v.toNat / 3 * 2 else tk0 v.toNat := by rw [tkS, if_pos hok]
  rw [hok, Bool.true_or] at R
  have hok2 := hok
  unfold okS at hok2
  simp only [Bool.and_eq_true, decide_eq_true_eq] at hok2
  obtain ⟨⟨h1, h7⟩, hdt⟩ := hok2
  obtain ⟨n, rfl⟩ : ∃ n : Nat, v = n := ⟨v.toNat, by omega⟩
  have hn1 : 1 ≤ n := by omega
  have hn7 : n ≤ 7 := by omega
  have c0 : ((n : Int) == 0) = false := by rw [beq_eq_false_iff_ne]; omega
  rw [Int.toNat_natCast] at hq
  replace hq := Hid.mk hq
  replace hdt := Hid.mk hdt
  clear hok h1 h7
  unfold c_theorboref02_Ticks
  repeat' (with_reducible first | refine x_ops ?_ | refine wk ?_ | (with_reducible refine xc (R) ?_) | ((first | refine gd1 ?_ ?_ | refine gd2 ?_ ?_ | refine gd3 ?_ ?_) <;> (first | exact @False.elim _ | intro hc)))
  refine x_loopF w_theorboref02_Ticks_p4 kr (n - 1) (fun k s => s 4 = vint ((k + 1 : Nat) : Int) ∧ s 3 = vint (tk0 (k + 1))) ?_ ?_
  · exact ⟨vv, vv⟩
  rintro k s hk ⟨h4, h3⟩
  have hk1 : k + 1 ≤ n := by omega
  by_cases hlt : k + 1 < n
  · obtain ⟨q1, q2, q3, q4, q5, q6⟩ := tk0_cases (n := k + 1) (by omega) (by omega)
    have q7 := q6 (by omega)
    have c1 : ((k + 1 : Nat) : Int) < (n : Int) := by omega
    have w2 := w_add1 (k := k + 1) (by omega)
    have hw2 : IntKind.i64.wrap ((tk0 (k + 1)).tdiv 2) = tk0 (k + 1 + 1) := by rw [q4, q7]; exact w_in (by omega)
    clear q1 q2 q3 q4 q5 q6 q7 hk
    repeat' (with_reducible first | refine x_ops ?_ | refine wk ?_ | ((first | refine gd1 ?_ ?_ | refine gd2 ?_ ?_ | refine gd3 ?_ ?_) <;> (first | exact @False.elim _ | intro hc)))
    refine nf (by omega) ⟨vv, vv⟩ rfl
  · have hkn : k + 1 = n := by omega
    have c1 : ¬ ((k + 1 : Nat) : Int) < (n : Int) := by omega
    obtain ⟨q1, q2, q3, q4, q5, q6⟩ := tk0_cases hn1 hn7
    have hw2 : IntKind.i64.wrap ((tk0 n).tdiv 2) = tk0 n / 2 := by rw [q4]; exact w_in (by omega)
    have hw3 : IntKind.i64.wrap ((tk0 n).tdiv 3) = tk0 n / 3 := by rw [q5]; exact w_in (by omega)
    have hw4 : IntKind.i64.wrap (tk0 n / 2 * 3) = tk0 n / 2 * 3 := w_in (by omega)
    have hw5 : IntKind.i64.wrap (tk0 n / 3 * 2) = tk0 n / 3 * 2 := w_in (by omega)
    rw [hkn] at h4 h3 c1
    clear q1 q2 q3 q4 q5 q6 hkn hlt hk1 hk
    cases d <;> cases t
    all_goals repeat' (with_reducible first | refine x_ops ?_ | refine wk ?_ | ((first | refine gd1 ?_ ?_ | refine gd2 ?_ ?_ | refine gd3 ?_ ?_) <;> (first | exact @False.elim _ | intro hc)))
    all_goals refine finV_lit vv ?_
    all_goals first
      | (rw [hq.out]; rfl)
      | (rw [hq.out, hw4]; rfl)
      | (rw [hq.out, hw5]; rfl)
      | (have := hdt.out; cases this)
end Go.Proofs.YtdefefeifcdogaaGreat
