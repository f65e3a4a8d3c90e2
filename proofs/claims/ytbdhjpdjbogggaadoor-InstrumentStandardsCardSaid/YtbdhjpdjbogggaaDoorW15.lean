/- Walk: Names. -/
import Derived.Test.YtbdhjpdjbogggaaDoorW10
import Derived.Test.YtbdhjpdjbogggaaDoorR15
import Derived.Test.YtbdhjpdjbogggaaDoorR10
namespace Go.Proofs.YtbdhjpdjbogggaaDoor
open Go.RowKit

set_option maxHeartbeats 4000000 in
set_option maxRecDepth 20000 in
theorem names9_any (w : World) : Calls Tryd.prog 35 #[] w (StrsRet w nmL) := by
  obtain ⟨i1, hi1, hy0, hy1, hy2⟩ := info_parts info_str
  have HII := Lib.hid hi1
  clear hi1
  go_enter Tryd.func35, Tryd.ntmps35
  go_wp2_with (first | (go_at_call 78; refine (standards_any _).mono ?_; rintro e1 w1 ⟨rfl, hb1⟩))
  go_loopw [1, 5] (fun x i wr => ∃ (k : Nat) (A : Option Addr) (c : Nat), k ≤ 9 ∧ i = .int .i64 k ∧ x = .slice A k c ∧ wr.ownsRow w1.heap.size 9 1 (.slice A k c) k ((nmL.take k).map Value.string) ∧ Below w1.heap.size w1 wr)
    (fun _ i _ => 10 - (intOf i).toNat)
  case atStart => exact ⟨0, none, 0, Nat.zero_le _, rfl, rfl, World.ownsRow_nil _ _ _ _, Below.refl _ _⟩
  case round =>
    obtain ⟨k, A, c, hk, rfl, rfl, hown, hb⟩ := hrel
    have hz := hb.size
    by_cases h9 : k = 9
    · subst h9
      go_wp2
      go_ret
      exact ⟨A, 9, c, rfl, Arr.of_own hown, hb1.trans (hb.mono hb1.size)⟩
    · have hk9 : k < 9 := by omega
      have hix := std_index k hk9
      have htk : nmL.take (k + 1) = nmL.take k ++ [nmB k] := by
        rw [List.take_succ_eq_append_getElem (by simpa [nmL] using hk9)]
        simp [nmL]
      obtain ⟨x, hx⟩ : ∃ x, x = nmB k := ⟨_, rfl⟩
      obtain ⟨y, hy⟩ : ∃ y, y = txB k := ⟨_, rfl⟩
      rw [← hx, ← hy] at hix
      rw [← hx] at htk
      have HTK := Lib.hid htk
      clear hx hy h9 htk
      go_wp2_with (at_builtin; refine wpList_append_lies _ rfl _ _ 51 rfl w1.heap.size 9 i1 _ 1 16 Tryd.underlying51 HII.out hy0 hy1 hy2 rfl (by decide) (.slice A k c) k ((nmL.take k).map Value.string) (by rfl) ((hown.alloc _).alloc _) ⟨wr.heap.size + 1, 0, none⟩ 1 1 [.string x] (by rfl) rfl (news2 _ _ _ _) (by intro u hu; simp at hu; subst hu; rfl) (by decide) (by unfold maxLen; omega) (by omega) (by simp; omega) (wr.heap.size + 1 + 1) (by simp) ?_; intro g cap w2 hown2 hgrow hat hlt2)
      go_roundw
      case rel => exact ⟨k + 1, some ⟨g, 0, none⟩, cap, by omega, by go_num, rfl, by rw [HTK.out, List.map_append]; exact hown2, below_own ((hb.alloc hz _).alloc (by simp; omega) _) (by simp; omega) hgrow (fun q hq => (hown.lt q hq).1)⟩
      case measure => simp [intOf]; omega
end Go.Proofs.YtbdhjpdjbogggaaDoor
