/- Walk of the reference: Words. -/
import Derived.Test.YtbdhjpdjbogggaaDoorW1
import Derived.Test.YtbdhjpdjbogggaaDoorW6
import Derived.Test.YtbdhjpdjbogggaaDoorKp
namespace Go.Proofs.YtbdhjpdjbogggaaDoor
open Go.RowKit

theorem info_str : (Tryd.prog.info? 9).map (fun i => (i.zero, i.size, i.bytes)) = some (some (.string ⟨#[]⟩), 1, 16) := by kernel_rfl

def attach (cur : List UInt8) : List (List UInt8) → List (List UInt8)
  | h :: t => (cur ++ h) :: t
  | [] => [cur]
theorem attach_nil (l : List (List UInt8)) (h : l ≠ []) : attach [] l = l := by
  cases l with
  | nil => exact absurd rfl h
  | cons _ _ => rfl
theorem attach_sep (c : UInt8) (cur r : List UInt8) : attach cur (splitC c (c :: r)) = cur :: attach [] (splitC c r) := by
  rw [attach_nil _ (splitC_ne c r)]
  simp [splitC, attach]
theorem attach_step (c x : UInt8) (cur r : List UInt8) (h : x ≠ c) : attach cur (splitC c (x :: r)) = attach (cur ++ [x]) (splitC c r) := by
  simp only [splitC, if_neg h]
  cases hr : splitC c r with
  | nil => exact absurd hr (splitC_ne c r)
  | cons a t => simp [attach]
theorem below_own {B : Nat} {w W W' : World} {row : Option Nat} (hb : Below B w W) (hB : B ≤ W.heap.size) (hg : W.grownBy W' row) (hr : ∀ q, row = some q → B ≤ q) : Below B w W' :=
  ⟨hg.os.trans hb.os, hg.tape.trans hb.tape, hg.output.trans hb.output, Nat.le_trans hb.size hg.size, fun q hq => (hg.block q (Nat.lt_of_lt_of_le hq hB) (fun e => by have := hr q e.symm; omega)).trans (hb.block q hq)⟩
theorem cut_snoc (l : List UInt8) (f k : Nat) (hf : f ≤ k) (hk : k < l.length) : (l.drop f).take (k + 1 - f) = (l.drop f).take (k - f) ++ [l[k]] := by
  have e : k + 1 - f = k - f + 1 := by omega
  have h : k - f < (l.drop f).length := by simp; omega
  rw [e, List.take_succ_eq_append_getElem h]
  congr 2
  rw [List.getElem_drop]
  congr 1
  omega

/-- Words: the pieces between spaces. -/
def WordsRet (w : World) (l : List (List UInt8)) (e : Ending) (w' : World) : Prop :=
  ∃ (A : Option Addr) (n c : Nat) (ws : List ByteArray), e = .returned (.slice A n c) ∧ ws.map (·.data.toList) = l ∧ Arr w' w'.heap.size 1 A n (ws.map Value.string) ∧ Below w.heap.size w w'

set_option maxHeartbeats 4000000 in
set_option maxRecDepth 100000 in
theorem rwords_any (s : ByteArray) (w : World) (hs : s.size ≤ 5000) : Calls Tryd.prog 74 #[.string s] w (WordsRet w (splitC 32 s.data.toList)) := by
  obtain ⟨i0, hi0, hz0, hz1, hz2⟩ := info_parts info_str
  have HI0 := Lib.hid hi0
  clear hi0
  go_enter Tryd.func74, Tryd.ntmps74
  go_wp2
  go_loopw [3, 4, 5] (fun v fr i wr => ∃ (k f m c : Nat) (A : Option Addr) (xs : List ByteArray), k ≤ s.size + 1 ∧ f ≤ k ∧ m ≤ k ∧ i = .int .i64 k ∧ fr = .int .i64 f ∧ v = .slice A m c ∧
      wr.ownsRow w.heap.size 9 1 (.slice A m c) m (xs.map Value.string) ∧ Below w.heap.size w wr ∧
      Hid (k ≤ s.size → splitC 32 s.data.toList = xs.map (·.data.toList) ++ attach ((s.data.toList.drop f).take (k - f)) (splitC 32 (s.data.toList.drop k))) ∧ Hid (k = s.size + 1 → splitC 32 s.data.toList = xs.map (·.data.toList)))
    (fun _ _ i _ => s.size + 1 - (intOf i).toNat)
  case atStart =>
    refine ⟨0, 0, 0, 0, none, [], Nat.zero_le _, Nat.le_refl _, Nat.le_refl _, rfl, rfl, rfl, World.ownsRow_nil _ _ _ _, Below.refl _ _, fun _ => ?_, fun h => by omega⟩
    simp only [Nat.sub_zero, List.take_zero, List.drop_zero, List.map_nil, List.nil_append]
    exact (attach_nil _ (splitC_ne _ _)).symm
  case round =>
    obtain ⟨k, f, m, c, A, xs, hk, hfk, hmk, rfl, rfl, rfl, hown, hb, HSP, HSE⟩ := hrel
    have hz := hb.size
    have hlen : s.data.toList.length = s.size := by simp
    by_cases h1 : k = s.size + 1
    · have hfin := HSE.out h1
      have HF := Lib.hid hfin
      have hgt : (s.size : Int) < (k : Int) := by omega
      clear h1 hfin
      go_wp2
      go_ret
      exact ⟨A, m, c, xs, rfl, HF.out.symm, Arr.of_own hown, hb⟩
    · have hks : k ≤ s.size := by omega
      have hsp := HSP.out hks
      by_cases h2 : k = s.size
      · have hd : s.data.toList.drop k = [] := by rw [h2]; exact List.drop_of_length_le (by simp)
        have hn : splitC 32 s.data.toList = (xs ++ [s.extract f k]).map (·.data.toList) := by
          rw [hsp, hd, List.map_append, List.map_cons, List.map_nil, Lib.extract_data]
          simp [splitC, attach]
        have HN := Lib.hid hn
        have hbe : ((k : Int) == (s.size : Int)) = true := by rw [h2]; simp
        have H2 := Lib.hid h2
        clear hn hsp h1 hlen hd h2 HSP HSE
        go_wp2_with (at_builtin; refine wpList_append_lies _ rfl _ _ 51 rfl w.heap.size 9 i0 _ 1 16 Tryd.underlying51 HI0.out hz0 hz1 hz2 rfl (by decide) (.slice A m c) m (xs.map Value.string) (by rfl) (hown.alloc _) ⟨wr.heap.size, 0, none⟩ 1 1 [.string (s.extract f k)] (by rfl) rfl (news1 _ _ _) (by intro u hu; simp at hu; subst hu; rfl) (by decide) (by unfold maxLen; omega) (by omega) (by simp; omega) (wr.heap.size + 1) (by simp) ?_; intro g cap w2 hown2 hgrow hat hlt2)
        go_roundw
        case rel => exact ⟨k + 1, k + 1, m + 1, cap, some ⟨g, 0, none⟩, xs ++ [s.extract f k], by omega, by omega, by omega, by go_num, by go_num, rfl, by rw [List.map_append]; exact hown2, below_own (hb.alloc hz _) (by simp; omega) hgrow (fun q hq => (hown.lt q hq).1), fun h => by have := H2.out; omega, fun _ => HN.out⟩
        case measure => simp [intOf]; omega
      · have hk2 : k < s.size := by omega
        have hdr := drop_str s k hk2
        have hbe : ((k : Int) == (s.size : Int)) = false := by simp; omega
        by_cases h32 : s[k] = 32
        · have hn : splitC 32 s.data.toList = (xs ++ [s.extract f k]).map (·.data.toList) ++ attach [] (splitC 32 (s.data.toList.drop (k + 1))) := by
            rw [hsp, hdr, h32, attach_sep, List.map_append, List.map_cons, List.map_nil, Lib.extract_data, List.append_assoc]; rfl
          have HN := Lib.hid hn
          have hce : (((s[k]).toNat : Int) == 32) = true := by rw [h32]; rfl
          clear hn hsp h1 hlen h2 hdr h32 HSP HSE
          go_wp2_with (at_builtin; refine wpList_append_lies _ rfl _ _ 51 rfl w.heap.size 9 i0 _ 1 16 Tryd.underlying51 HI0.out hz0 hz1 hz2 rfl (by decide) (.slice A m c) m (xs.map Value.string) (by rfl) (hown.alloc _) ⟨wr.heap.size, 0, none⟩ 1 1 [.string (s.extract f k)] (by rfl) rfl (news1 _ _ _) (by intro u hu; simp at hu; subst hu; rfl) (by decide) (by unfold maxLen; omega) (by omega) (by simp; omega) (wr.heap.size + 1) (by simp) ?_; intro g cap w2 hown2 hgrow hat hlt2)
          go_roundw
          case rel => exact ⟨k + 1, k + 1, m + 1, cap, some ⟨g, 0, none⟩, xs ++ [s.extract f k], by omega, by omega, by omega, by go_num, by go_num, rfl, by rw [List.map_append]; exact hown2, below_own (hb.alloc hz _) (by simp; omega) hgrow (fun q hq => (hown.lt q hq).1), fun _ => by rw [HN.out]; simp, fun h => by omega⟩
          case measure => simp [intOf]; omega
        · have hn : splitC 32 s.data.toList = xs.map (·.data.toList) ++ attach ((s.data.toList.drop f).take (k + 1 - f)) (splitC 32 (s.data.toList.drop (k + 1))) := by
            rw [hsp, hdr, attach_step 32 _ _ _ h32, cut_snoc _ f k hfk (by rw [hlen]; exact hk2)]; rfl
          have HN := Lib.hid hn
          have hce : (((s[k]).toNat : Int) == 32) = false := by
            rw [beq_eq_false_iff_ne]
            intro h
            exact h32 (UInt8.toNat_inj.1 (by rw [show (32 : UInt8).toNat = 32 from rfl]; omega))
          clear hn hsp h1 hlen h2 hdr h32 HSP HSE
          go_wp2
          go_roundw
          case rel => exact ⟨k + 1, f, m, c, A, xs, by omega, by omega, by omega, by go_num, rfl, rfl, hown, hb, fun _ => HN.out, fun h => by omega⟩
          case measure => simp [intOf]; omega
end Go.Proofs.YtbdhjpdjbogggaaDoor
