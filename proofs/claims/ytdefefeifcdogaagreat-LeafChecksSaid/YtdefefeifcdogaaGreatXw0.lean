/- The look at the chapter's example: the table of the functions that it runs. -/
import Derived.Test.YtdefefeifcdogaaGreatWc1
import Derived.Test.YtdefefeifcdogaaGreatWc2
import Derived.Test.YtdefefeifcdogaaGreatWc3
import Derived.Test.YtdefefeifcdogaaGreatVx
import Derived.Test.YtdefefeifcdogaaGreatCl
import Derived.Test.YtdefefeifcdogaaGreatLC
namespace Go.Proofs.YtdefefeifcdogaaGreat
open Go.RowKit

theorem TabOk.rounds {P : Program} {G : Ground} {T : Nat → Option Fe} (hT : TabOk P G T) (bx : Nat → Bool) : TabOk P G (fun f => bif Nat.beq f yk then some (.rnd (cvCode P bx G.tab)) else T f) := by
  have key : ∀ {f x}, (bif Nat.beq f yk then some (.rnd (cvCode P bx G.tab)) else T f) = some x → x = .rnd (cvCode P bx G.tab) ∨ T f = some x := fun {f x} h => by
    cases hb : Nat.beq f yk with
    | true => rw [hb, cond_true] at h; cases h; exact .inl rfl
    | false => rw [hb, cond_false] at h; exact .inr h
  constructor
  · intro f x hx h1 h2
    rcases key hx with rfl | hx
    · exact absurd rfl (h1 _)
    · exact hT.call f x hx h1 h2
  · intro f C hx
    rcases key hx with e | hx
    · cases e; exact ⟨bx, fun _ _ => rfl⟩
    · exact hT.rnd f C hx
  · intro f d hx
    rcases key hx with e | hx
    · cases e
    · exact hT.code f d hx
  · intro f size e hx
    rcases key hx with e | hx
    · cases e
    · exact hT.cln f size e hx
  · intro f g hx
    rcases key hx with e | hx
    · cases e
    · exact hT.prim f g hx
/-- The functions' texts. -/
def wL : List (Nat × Fd) := [(149, d_149), (287, d_287), (218, d_218), (211, d_211), (182, d_182), (205, d_205), (285, d_285), (286, d_286), (342, d_342), (150, d_150), (310, d_310), (207, d_207), (75, d_75), (142, d_142), (312, d_312), (289, d_289), (154, d_154), (229, d_229), (225, d_225), (271, d_271), (280, d_280), (326, d_326), (352, d_352), (343, d_343), (153, d_153), (208, d_208), (78, d_78), (71, d_71), (212, d_212), (258, d_258), (147, d_147), (209, d_209), (210, d_210), (254, d_254), (234, d_234), (255, d_255), (311, d_311), (256, d_256), (257, d_257), (284, d_284), (334, d_334), (313, d_313), (290, d_290), (213, d_213), (185, d_185), (228, d_228), (188, d_188), (232, d_232), (253, d_253), (125, d_125), (186, d_186), (152, d_152), (206, d_206), (72, d_72), (143, d_143), (144, d_144), (203, d_203), (145, d_145), (146, d_146), (121, d_121), (151, d_151), (354, d_354), (60, d_60), (62, d_62), (27, d_27), (29, d_29), (76, d_76), (83, d_83), (155, d_155), (23, d_23), (19, d_19), (59, d_59), (336, d_336), (344, d_344), (345, d_345), (355, d_355), (20, d_20), (63, d_63), (134, d_134), (135, d_135), (61, d_61)]
theorem wL_ok : Okl Tryz.prog gtab wL := ⟨dk_149, dk_287, dk_218, dk_211, dk_182, dk_205, dk_285, dk_286, dk_342, dk_150, dk_310, dk_207, dk_75, dk_142, dk_312, dk_289, dk_154, dk_229, dk_225, dk_271, dk_280, dk_326, dk_352, dk_343, dk_153, dk_208, dk_78, dk_71, dk_212, dk_258, dk_147, dk_209, dk_210, dk_254, dk_234, dk_255, dk_311, dk_256, dk_257, dk_284, dk_334, dk_313, dk_290, dk_213, dk_185, dk_228, dk_188, dk_232, dk_253, dk_125, dk_186, dk_152, dk_206, dk_72, dk_143, dk_144, dk_203, dk_145, dk_146, dk_121, dk_151, dk_354, dk_60, dk_62, dk_27, dk_29, dk_76, dk_83, dk_155, dk_23, dk_19, dk_59, dk_336, dk_344, dk_345, dk_355, dk_20, dk_63, dk_134, dk_135, dk_61, trivial⟩
noncomputable def tabW : Nat → Option Fe := cloned [(135, 1, 3)] (fun f => bif Nat.beq f yk then some (.rnd (cvCode Tryz.prog (fun n => !([1000095].contains n)) gtab)) else lkp wL f)
theorem tabW_ok : TabOk Tryz.prog Gd tabW := TabOk.cloned ((TabOk.of_list (P := Tryz.prog) (G := Gd) (l := wL) wL_ok).rounds _) (by
  intro p hp m y n xs h1 h2 h3
  rw [List.mem_singleton] at hp
  subst hp
  exact clone_cln m y n xs h1 h2 h3)
/-- The chapter's example. -/
def exF : Lf := ⟨⟨[⟨67, 5, false⟩, ⟨62, 5, false⟩], [1, 2, 3, 4, 5]⟩, [⟨false, false, [⟨3, false, false⟩], [[0], [-1, 3]]⟩, ⟨true, false, [⟨4, false, false⟩], [[1, 2], [-1]]⟩]⟩
def exR (b : Bool) : Rls := ⟨⟨[0, 1, 2, 3], [0, 2, 3, 4], [true, false, false, false], 12, 7, 2, 3, 4, 2, 1⟩, 0, b⟩
end Go.Proofs.YtdefefeifcdogaaGreat
