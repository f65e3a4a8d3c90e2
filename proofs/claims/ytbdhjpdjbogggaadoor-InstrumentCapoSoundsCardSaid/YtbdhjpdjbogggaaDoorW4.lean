/- Walks: number. -/
import Derived.Test.YtbdhjpdjbogggaaDoorBase
namespace Go.Proofs.YtbdhjpdjbogggaaDoor
open Go.RowKit

def digB (c : UInt8) : Bool := decide (48 ≤ (c.toNat : Int)) && decide ((c.toNat : Int) ≤ 57)
def decS (n : Int) (c : UInt8) : Int := 10 * n + ((c.toNat : Int) - 48)
def decL (l : List UInt8) : Int := l.foldl decS 0
def numBad (l : List UInt8) : Bool := decide (l.length < 1) || decide (3 < l.length) || (l.head? == some 48 && l != [48]) || !(l.all digB)
def numN (l : List UInt8) : Int := if numBad l then 0 else decL l
def numOk (l : List UInt8) : Bool := !numBad l

theorem take_snoc (s : ByteArray) (k : Nat) (h : k < s.size) : s.data.toList.take (k + 1) = s.data.toList.take k ++ [s[k]] := by
  rw [List.take_succ_eq_append_getElem (by simpa using h)]; rfl
theorem drop_str (s : ByteArray) (k : Nat) (h : k < s.size) : s.data.toList.drop k = s[k] :: s.data.toList.drop (k + 1) := by
  rw [List.drop_eq_getElem_cons (by simpa using h)]; rfl
theorem byte_lt (c : UInt8) : (c.toNat : Int) ≤ 255 := by have := c.toNat_lt; omega

theorem dec_snoc (l : List UInt8) (c : UInt8) : decL (l ++ [c]) = 10 * decL l + ((c.toNat : Int) - 48) := by simp [decL, List.foldl_append, decS]
theorem dig_bd {c : UInt8} (h : digB c = true) : 48 ≤ (c.toNat : Int) ∧ (c.toNat : Int) ≤ 57 := by simpa [digB] using h
theorem dec_1000 (l : List UInt8) (h : l.length ≤ 3) (hd : ∀ c ∈ l, digB c = true) : 0 ≤ decL l ∧ decL l ≤ 999 := by
  match l, h with
  | [], _ => simp [decL]
  | [a], _ => have ha := dig_bd (hd a (by simp)); simp only [decL, decS, List.foldl]; omega
  | [a, b], _ => have ha := dig_bd (hd a (by simp)); have hb := dig_bd (hd b (by simp)); simp only [decL, decS, List.foldl]; omega
  | [a, b, c], _ => have ha := dig_bd (hd a (by simp)); have hb := dig_bd (hd b (by simp)); have hc := dig_bd (hd c (by simp)); simp only [decL, decS, List.foldl]; omega
  | _ :: _ :: _ :: _ :: _, h => simp at h
theorem dig_snoc {l : List UInt8} {c : UInt8} (h : ∀ x ∈ l, digB x = true) (hc : digB c = true) : ∀ x ∈ l ++ [c], digB x = true := by
  intro x hx; simp at hx; rcases hx with hx | rfl
  · exact h x hx
  · exact hc
theorem all_bad {s : ByteArray} {k : Nat} (h : k < s.size) (hc : ¬ digB s[k] = true) : s.data.toList.all digB = false := by
  rw [Bool.eq_false_iff]; intro hall; exact hc (List.all_eq_true.1 hall _ (List.getElem_mem (l := s.data.toList) (by simpa using h)))

set_option maxHeartbeats 4000000 in
theorem number_main (s : ByteArray) (w : World) (h1 : 1 ≤ s.size) (h3 : s.size ≤ 3) (hh : (((s[0]'h1).toNat : Int) == 48) = false ∨ ((((s[0]'h1).toNat : Int) == 48) = true ∧ (s.toList == [48]) = true))
    (n : Int) (b : Bool) (hn : Hid (n = if s.data.toList.all digB then decL s.data.toList else 0)) (hb : Hid (b = s.data.toList.all digB)) :
    Calls Tryd.prog 73 #[.string s] w fun e w' => e = .returned (.tuple #[.int .i64 n, .bool b]) ∧ w = w' := by
  have d1 : decide ((s.size : Int) < 1) = false := by simp; omega
  have d2 : decide ((3 : Int) < (s.size : Int)) = false := by simp; omega
  rcases hh with hA | ⟨hB, hB'⟩
  all_goals
    go_enter Tryd.func73, Tryd.ntmps73
    go_wp2
    go_loop [4, 5] (fun m i => ∃ k : Nat, k ≤ s.size ∧ i = .int .i64 k ∧ m = .int .i64 (decL (s.data.toList.take k)) ∧ Hid (∀ c ∈ s.data.toList.take k, digB c = true)) (fun _ i => s.size - (intOf i).toNat)
    case atStart => exact ⟨0, Nat.zero_le _, rfl, rfl, fun c hc => by simp at hc⟩
    case round =>
      obtain ⟨k, hk, rfl, rfl, hdig⟩ := hrel
      have hbd := dec_1000 (s.data.toList.take k) (by simp; omega) hdig.out
      by_cases hlt : k < s.size
      · have hts := Lib.hid (take_snoc s k hlt)
        have hds := Lib.hid (drop_str s k hlt)
        obtain ⟨m, hm⟩ : ∃ m, m = decL (s.data.toList.take k) := ⟨_, rfl⟩
        rw [← hm] at hbd ⊢
        have HM := Lib.hid hm
        clear hm
        have hcb := byte_lt s[k]
        by_cases hd : digB s[k] = true
        · have hd' := hd
          simp [digB] at hd'
          have HD := Lib.hid hd
          clear hd
          obtain ⟨hd1, hd2⟩ := hd'
          go_wp2
          go_round
          case rel => exact ⟨k + 1, by omega, by go_num, by rw [hts.out, dec_snoc, ← HM.out], show ∀ c ∈ _, _ by rw [hts.out]; exact dig_snoc hdig.out HD.out⟩
          case measure => simp [intOf]; omega
        · have hall := all_bad hlt hd
          have hn0 : n = 0 := by rw [hn.out, hall]; rfl
          have hb0 : b = false := by rw [hb.out, hall]
          have HN := Lib.hid hn0
          have HB := Lib.hid hb0
          have hd' : ¬ (48 ≤ (s[k].toNat : Int) ∧ (s[k].toNat : Int) ≤ 57) := by simpa [digB] using hd
          clear hn0 hb0 hall hd
          go_wp2
          all_goals (go_ret2; exact ⟨by rw [HN.out, HB.out]; rfl, rfl⟩)
      · obtain rfl : k = s.size := by omega
        have htk : s.data.toList.take s.size = s.data.toList := List.take_of_length_le (by simp)
        have hall : s.data.toList.all digB = true := by rw [List.all_eq_true, ← htk]; exact hdig.out
        have hn0 : n = decL s.data.toList := by rw [hn.out, hall]; rfl
        have hb0 : b = true := by rw [hb.out, hall]
        have HN := Lib.hid hn0
        have HB := Lib.hid hb0
        rw [htk]
        clear hn0 hb0 hall htk hbd
        go_wp2
        go_ret2
        exact ⟨by rw [HN.out, HB.out]; rfl, rfl⟩

theorem number_any (s : ByteArray) (w : World) :
    Calls Tryd.prog 73 #[.string s] w fun e w' => e = .returned (.tuple #[.int .i64 (numN s.data.toList), .bool (numOk s.data.toList)]) ∧ w = w' := by
  have hl : s.data.toList.length = s.size := by simp
  by_cases hz : s.size < 1 ∨ 3 < s.size
  · have hbad : numBad s.data.toList = true := by simp only [numBad, hl]; rcases hz with h | h <;> simp [h]
    rw [numN, numOk, hbad]
    clear hbad hl
    go_enter Tryd.func73, Tryd.ntmps73
    go_wp2
    all_goals (go_ret2; exact ⟨rfl, rfl⟩)
  · have h1 : 1 ≤ s.size := by omega
    have hh : s.data.toList.head? = some (s[0]'h1) := by rw [List.head?_eq_getElem?, List.getElem?_eq_getElem (by rw [hl]; omega)]; rfl
    have e0 : decide (s.data.toList.length < 1) = false := decide_eq_false (by omega)
    have e3 : decide (3 < s.data.toList.length) = false := decide_eq_false (by omega)
    by_cases hb : (s.data.toList.head? == some 48 && s.data.toList != [48]) = true
    · have hbad : numBad s.data.toList = true := by simp only [numBad, hb]; simp
      rw [numN, numOk, hbad]
      simp only [hh, Bool.and_eq_true, bne_iff_ne, beq_iff_eq, Option.some.injEq] at hb
      have hA : (((s[0]'h1).toNat : Int) == 48) = true := by rw [hb.1]; rfl
      have hB : (s.toList == [48]) = false := by simp only [beq_eq_false_iff_ne]; intro h; exact hb.2 (by rw [← ByteArray.toList_eq]; exact h)
      clear hbad hl hh hb e0 e3
      go_enter Tryd.func73, Tryd.ntmps73
      go_wp2
      all_goals (go_ret2; exact ⟨rfl, rfl⟩)
    · have hnb : numBad s.data.toList = !(s.data.toList.all digB) := by simp only [numBad, e0, e3, Bool.eq_false_iff.2 hb]; simp
      refine number_main s w h1 (by omega) ?_ _ _ ?_ ?_
      · rw [hh] at hb
        by_cases h48 : s[0]'h1 = 48
        · right
          refine ⟨by rw [h48]; rfl, ?_⟩
          rw [ByteArray.toList_eq]
          simpa [h48] using hb
        · left
          simp only [beq_eq_false_iff_ne]
          intro h
          exact h48 (UInt8.toNat_inj.1 (by rw [show (48 : UInt8).toNat = 48 from rfl]; omega))
      · show numN _ = _
        rw [numN, hnb]
        cases s.data.toList.all digB <;> rfl
      · show numOk _ = _
        rw [numOk, hnb]; simp
end Go.Proofs.YtbdhjpdjbogggaaDoor
