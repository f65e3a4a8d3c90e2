/- More steps of a walk. Nothing is proved of the program here. -/
import Derived.Test.YtdefefeifcdogaaGreatWk
set_option linter.unusedSimpArgs false
set_option linter.unusedVariables false
namespace Go.Proofs.YtdefefeifcdogaaGreat
open Go.RowKit

section
variable {P : Program} {G : Ground}
/-- A piece that goes on, or ends the function, at the end of a sequence. -/
theorem x_edT {a : VC} {Q : VX → St → Prop} {s : St} (w : Nat) (hw : inMask w a = true) {A B : Prop} {r : Nat} {v : V} (h1 : a.vx P G (EdQ s.m A B r v) s) (h2 : A → ∀ t, Q .nrm ⟨mix w t s.t, s.m⟩) (h3 : B → ∀ t, mix w t s.t r = v → Q .ret ⟨mix w t s.t, s.m⟩) : a.vx P G Q s := by
  refine vx_mono (vx_frame h1) fun e s' ⟨⟨hm, hR⟩, hf⟩ => ?_
  obtain ⟨t', m'⟩ := s'
  have hmx : mix w t' s.t = t' := (mix_of hw (t := s.t) (t0 := s.t) (t' := t') fun j hj => by rw [mix_self]; exact hf j hj).symm
  dsimp only at hm
  subst hm
  rcases hR with ⟨rfl, hA⟩ | ⟨rfl, hv, hB⟩
  · rw [← hmx]; exact h2 hA t'
  · rw [← hmx]; exact h3 hB t' (by rw [hmx]; exact hv)
end
end Go.Proofs.YtdefefeifcdogaaGreat
