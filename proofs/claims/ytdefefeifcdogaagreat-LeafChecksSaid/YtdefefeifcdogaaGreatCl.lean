/- A copy of a row that may change, in any memory: it is a new box. -/
import Derived.Test.YtdefefeifcdogaaGreatWk
import Derived.Test.YtdefefeifcdogaaGreatVr
import Derived.Test.YtdefefeifcdogaaGreatPc
namespace Go.Proofs.YtdefefeifcdogaaGreat
open Go.RowKit
set_option linter.unusedSimpArgs false
set_option linter.unusedVariables false

section
variable {P : Program} {G : Ground}
theorem x_appBr {base i : Nat} {d : Option Nat} {e : TypeId} {size bytes : Nat} {x y : Opd} {l : List VI} {s : St} {K : St → Prop} {j : Nat} {ys : List V} (hx : s.ev x = .sl 0 [] .exact) (hy : rdS s.m size (s.ev y) = some (j, ys)) (h3 : j * bytes ≤ 140737488355328) (h4 : j ≤ maxLen)
    (h : goR P G base (some (if j = 0 then ⟨putT s.t d (.sl 0 [] .exact), s.m⟩ else ⟨putT s.t d (.bsl (base + i) 0 j j), s.m.put (base + i) (.box ys e)⟩)) l (i + 1) K) : vrun P G base i (⟨d, none, .appB e size bytes, [x, y], none⟩ :: l) s K := by
  rw [vrun]
  unfold vstep VI.on
  simp only [if_true, List.map_cons, List.map_nil, hx, sem, hy]
  refine ⟨by simp, by rw [Nat.zero_add]; exact h3, by rw [Nat.zero_add]; exact h4, trivial, ?_⟩
  have hk := goR_vrun l (i + 1) _ h
  split
  · rename_i h0; rw [if_pos h0] at hk; exact hk
  · rename_i h0; rw [if_neg h0] at hk; rw [Nat.zero_add, List.nil_append]; exact hk
theorem x_eqNr {base i : Nat} {d : Option Nat} {neg : Bool} {x : Opd} {l : List VI} {s : St} {K : St → Prop} {size n : Nat} {xs : List V} (hx : rdS s.m size (s.ev x) = some (n, xs)) (h : ∀ b, (n ≠ 0 → 0 < size → b = neg) → (b = neg ∨ n = 0 ∨ size = 0) → goR P G base (some ⟨putT s.t d (vbool b), s.m⟩) l (i + 1) K) :
    vrun P G base i (⟨d, none, .eqN neg, [x], none⟩ :: l) s K := by
  rw [vrun]
  unfold vstep VI.on
  simp only [if_true, List.map_cons, List.map_nil]
  generalize s.ev x = y at hx
  unfold rdS at hx
  split at hx
  · split at hx
    · rename_i j ys k hl
      injection hx with hx
      injection hx with hx1 hx2
      subst hx1; subst hx2
      rw [sem]
      intro b hb
      refine goR_vrun l (i + 1) _ (h b (fun h1 h2 => hb fun e => ?_) ?_)
      · subst e
        have h9 := Nat.mul_pos (Nat.pos_of_ne_zero h1) h2
        simp at hl; omega
      · by_cases e : ys = []
        · subst e
          have hl : (0 : Nat) = j * size := hl
          rcases Nat.mul_eq_zero.1 hl.symm with h9 | h9
          · exact .inr (.inl h9)
          · exact .inr (.inr h9)
        · exact .inl (hb e)
    · cases hx
  · rw [sem]
    exact goR_vrun l (i + 1) _ (h neg (fun _ _ => rfl) (.inl rfl))
  · rw [sem]
    exact goR_vrun l (i + 1) _ (h neg (fun _ _ => rfl) (.inl rfl))
  · cases hx
end

theorem clone_cln (m : Mm) (y : V) (n : Nat) (xs : List V) (hr : rdS m 1 y = some (n, xs)) (hc : V.clean xs = true) (hn : n ≤ 1000000) : SFn Tryz.prog Gd 135 [y] m (BPost n xs 3 m) := by
  refine SFn.of_vxS k_slices_Clone_int_int_b (by simp) ?_
  unfold c_slices_Clone_int_int_b
  have hlen : n = 0 → xs = [] := fun e => by
    subst e
    unfold rdS at hr
    split at hr
    · split at hr
      · rename_i hl; cases hr; simpa using hl
      · cases hr
    · split at hr
      · split at hr
        · cases hr; simp
        · cases hr
      · cases hr
    · split at hr
      · split at hr
        · cases hr; simp
        · cases hr
      · cases hr
    · cases hr
  repeat' (with_reducible first | refine x_ops ?_ | refine wk ?_ | ((first | refine gd1 ?_ ?_ | refine gd2 ?_ ?_ | refine gd3 ?_ ?_) <;> (first | exact @False.elim _ | intro hc)))
  refine x_eqNr (size := 1) (n := n) (xs := xs) (by ((refine ve ?_; try exact True.intro)); exact hr) ?_
  intro b h1 h2
  cases b
  · repeat' (with_reducible first | refine x_ops ?_ | refine wk ?_ | ((first | refine gd1 ?_ ?_ | refine gd2 ?_ ?_ | refine gd3 ?_ ?_) <;> (first | exact @False.elim _ | intro hc)))
    refine x_appBr (j := n) (ys := xs) vw (by ((refine ve ?_; try exact True.intro)); exact hr) (by omega) (by unfold Go.maxLen; omega) ?_
    by_cases h0 : n = 0
    · rw [if_pos h0]
      repeat' (with_reducible first | refine x_ops ?_ | refine wk ?_ | ((first | refine gd1 ?_ ?_ | refine gd2 ?_ ?_ | refine gd3 ?_ ?_) <;> (first | exact @False.elim _ | intro hc)))
      exact finS_ret vv ⟨fun _ _ => rfl, .inl ⟨by omega, rfl⟩⟩
    · rw [if_neg h0]
      repeat' (with_reducible first | refine x_ops ?_ | refine wk ?_ | ((first | refine gd1 ?_ ?_ | refine gd2 ?_ ?_ | refine gd3 ?_ ?_) <;> (first | exact @False.elim _ | intro hc)))
      refine finS_ret vv ⟨fun q hq => ?_, .inr ⟨h0, hc, _, ?_, rfl, ?_⟩⟩
      · exact put_other _ _ (by omega)
      · omega
      · exact put_same _ _ _
  · have h0 : n = 0 := by
      rcases h2 with h2 | h2 | h2
      · cases h2
      · exact h2
      · cases h2
    repeat' (with_reducible first | refine x_ops ?_ | refine wk ?_ | ((first | refine gd1 ?_ ?_ | refine gd2 ?_ ?_ | refine gd3 ?_ ?_) <;> (first | exact @False.elim _ | intro hc)))
    exact finS_ret vv ⟨fun _ _ => rfl, .inl ⟨by omega, rfl⟩⟩
end Go.Proofs.YtdefefeifcdogaaGreat
