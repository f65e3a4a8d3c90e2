/- Walks: ParseName. -/
import Derived.Test.YtbdhjpdjbogggaaDoorW1
import Derived.Test.YtbdhjpdjbogggaaDoorShelf
namespace Go.Proofs.YtbdhjpdjbogggaaDoor
open Go.RowKit

def letters : List UInt8 := [67, 68, 69, 70, 71, 65, 66]
def letOf (c : UInt8) : Int := Lib.indexByte letters c
def altA (r : List UInt8) : Int := if r.head? = some 35 then 1 else if r.head? = some 98 then -1 else 0
def altR (r : List UInt8) : List UInt8 := if r.head? = some 35 then r.drop 1 else if r.head? = some 98 then r.drop 1 else r
def octOf (r : List UInt8) : Option Int := if r = [45, 49] then some (-1) else if r.length = 1 ∧ digB (r.headD 0) = true then some (((r.headD 0).toNat : Int) - 48) else none
def pnO : List UInt8 → Option (Int × Int × Int)
  | [] => none
  | c :: r => if letOf c < 0 then none else (octOf (altR r)).map fun o => (letOf c, altA r, o)
def pnE (t : List UInt8) : Int := match pnO t with
  | none => 4
  | some (l, a, o) => if right l a o then 0 else 10
def pnV (t : List UInt8) : Int × Int × Int := match pnO t with
  | none => (0, 0, 0)
  | some (l, a, o) => if right l a o then (l, a, o) else (0, 0, 0)

/-- What is left of a text behind its first byte, as a text. -/
theorem ext1 (s : ByteArray) : (s.extract 1 s.size).data.toList = s.data.toList.drop 1 := Lib.extract_to_end s 1

set_option maxHeartbeats 8000000 in
theorem pn_pitch (s r r2 : ByteArray) (c : UInt8) (a o : Int) (w : World) (h1 : 0 < s.size) (h0 : s.toList.isEmpty = false) (hc : ∀ h : 0 < s.size, s[0]'h = c) (hl : 0 ≤ Lib.indexByte [67, 68, 69, 70, 71, 65, 66] c)
    (hr : s.extract 1 s.size = r)
    (ha : (Lib.hasPrefix r.data.toList [35] = true ∧ r.extract 1 r.size = r2 ∧ 0 < r.size ∧ a = 1) ∨ (Lib.hasPrefix r.data.toList [35] = false ∧ Lib.hasPrefix r.data.toList [98] = true ∧ r.extract 1 r.size = r2 ∧ 0 < r.size ∧ a = -1) ∨
      (Lib.hasPrefix r.data.toList [35] = false ∧ Lib.hasPrefix r.data.toList [98] = false ∧ r = r2 ∧ a = 0))
    (d : UInt8)
    (ho : ((r2.toList == [45, 49]) = true ∧ o = -1) ∨ ((r2.toList == [45, 49]) = false ∧ ((r2.size : Int) == 1) = true ∧ 0 < r2.size ∧ (∀ h : 0 < r2.size, r2[0]'h = d) ∧ 48 ≤ (d.toNat : Int) ∧ (d.toNat : Int) ≤ 57 ∧ o = (d.toNat : Int) - 48))
    (p e : Int) (HS : Hid (∀ W, Below w.heap.size w W → w.heap.size + 2 ≤ W.heap.size → Calls Tryd.prog 56 #[.agg #[.int .i64 (Lib.indexByte [67, 68, 69, 70, 71, 65, 66] c), .int .i64 a, .int .i64 o]] W fun e1 w1 =>
      e1 = .returned (.tuple #[.int .i64 p, .int .i64 e]) ∧ Below (w.heap.size + 2) W w1 ∧ Below w.heap.size w w1)) (he : Hid (e ≠ 0)) :
    Calls Tryd.prog 24 #[.string s] w fun e1 w' => e1 = .returned (.tuple #[.agg #[.int .i64 0, .int .i64 0, .int .i64 0], .int .i64 e]) ∧ Below w.heap.size w w' := by
  have hne : (e == 0) = false := by simpa using he.out
  rcases ha with ⟨p1, e2, hr0, rfl⟩ | ⟨p1, p2, e2, hr0, rfl⟩ | ⟨p1, p2, rfl, rfl⟩
  · rcases ho with ⟨q1, rfl⟩ | ⟨q1, q2, q3, q4, q5, q6, rfl⟩
    all_goals
      go_enter Tryd.func24, Tryd.ntmps24
      go_wp2_with (first
        | (go_at_call 63; refine (Tryd.strings_IndexByte _ _ _).mono ?_; rintro e w1 ⟨rfl, rfl⟩)
        | (go_at_call 64; refine (Tryd.strings_HasPrefix _ _ _).mono ?_; rintro e w1 ⟨rfl, rfl⟩)
        | (go_at_call 56; refine (HS.out _ ?_ ?_).mono ?_; (repeat (first | exact Below.refl _ _ | assumption | refine below_drewN ?_ _ | refine Below.drew ?_ | refine Below.alloc ?_ (by first | exact Nat.le_refl _ | omega | (simp; done) | (simp; omega)) _ | refine Below.setCell ?_ (by first | exact Nat.le_refl _ | (simp; done) | (simp; omega)) _)); (focus (first | (simp; done) | (simp; omega))); rintro e1 w1 ⟨rfl, hb3, hb4⟩; obtain ⟨hc3, hf3⟩ := bcell hb3; have hz3 := hb3.size; simp at hz3))
      go_region
      go_wp2_with (first
        | (go_at_call 63; refine (Tryd.strings_IndexByte _ _ _).mono ?_; rintro e w1 ⟨rfl, rfl⟩)
        | (go_at_call 64; refine (Tryd.strings_HasPrefix _ _ _).mono ?_; rintro e w1 ⟨rfl, rfl⟩)
        | (go_at_call 56; refine (HS.out _ ?_ ?_).mono ?_; (repeat (first | exact Below.refl _ _ | assumption | refine below_drewN ?_ _ | refine Below.drew ?_ | refine Below.alloc ?_ (by first | exact Nat.le_refl _ | omega | (simp; done) | (simp; omega)) _ | refine Below.setCell ?_ (by first | exact Nat.le_refl _ | (simp; done) | (simp; omega)) _)); (focus (first | (simp; done) | (simp; omega))); rintro e1 w1 ⟨rfl, hb3, hb4⟩; obtain ⟨hc3, hf3⟩ := bcell hb3; have hz3 := hb3.size; simp at hz3))
      all_goals (exact bodyPost_ret (v := .tuple #[.agg #[.int .i64 0, .int .i64 0, .int .i64 0], .int .i64 e]) (by simp only [results, Tryd.results24]; go_simp) rfl ⟨rfl, (by repeat (first | exact Below.refl _ _ | assumption | refine below_drewN ?_ _ | refine Below.drew ?_ | refine Below.alloc ?_ (by first | exact Nat.le_refl _ | omega | (simp; done) | (simp; omega)) _ | refine Below.setCell ?_ (by first | exact Nat.le_refl _ | (simp; done) | (simp; omega)) _))⟩)
  · rcases ho with ⟨q1, rfl⟩ | ⟨q1, q2, q3, q4, q5, q6, rfl⟩
    all_goals
      go_enter Tryd.func24, Tryd.ntmps24
      go_wp2_with (first
        | (go_at_call 63; refine (Tryd.strings_IndexByte _ _ _).mono ?_; rintro e w1 ⟨rfl, rfl⟩)
        | (go_at_call 64; refine (Tryd.strings_HasPrefix _ _ _).mono ?_; rintro e w1 ⟨rfl, rfl⟩)
        | (go_at_call 56; refine (HS.out _ ?_ ?_).mono ?_; (repeat (first | exact Below.refl _ _ | assumption | refine below_drewN ?_ _ | refine Below.drew ?_ | refine Below.alloc ?_ (by first | exact Nat.le_refl _ | omega | (simp; done) | (simp; omega)) _ | refine Below.setCell ?_ (by first | exact Nat.le_refl _ | (simp; done) | (simp; omega)) _)); (focus (first | (simp; done) | (simp; omega))); rintro e1 w1 ⟨rfl, hb3, hb4⟩; obtain ⟨hc3, hf3⟩ := bcell hb3; have hz3 := hb3.size; simp at hz3))
      go_region
      go_wp2_with (first
        | (go_at_call 63; refine (Tryd.strings_IndexByte _ _ _).mono ?_; rintro e w1 ⟨rfl, rfl⟩)
        | (go_at_call 64; refine (Tryd.strings_HasPrefix _ _ _).mono ?_; rintro e w1 ⟨rfl, rfl⟩)
        | (go_at_call 56; refine (HS.out _ ?_ ?_).mono ?_; (repeat (first | exact Below.refl _ _ | assumption | refine below_drewN ?_ _ | refine Below.drew ?_ | refine Below.alloc ?_ (by first | exact Nat.le_refl _ | omega | (simp; done) | (simp; omega)) _ | refine Below.setCell ?_ (by first | exact Nat.le_refl _ | (simp; done) | (simp; omega)) _)); (focus (first | (simp; done) | (simp; omega))); rintro e1 w1 ⟨rfl, hb3, hb4⟩; obtain ⟨hc3, hf3⟩ := bcell hb3; have hz3 := hb3.size; simp at hz3))
      all_goals (exact bodyPost_ret (v := .tuple #[.agg #[.int .i64 0, .int .i64 0, .int .i64 0], .int .i64 e]) (by simp only [results, Tryd.results24]; go_simp) rfl ⟨rfl, (by repeat (first | exact Below.refl _ _ | assumption | refine below_drewN ?_ _ | refine Below.drew ?_ | refine Below.alloc ?_ (by first | exact Nat.le_refl _ | omega | (simp; done) | (simp; omega)) _ | refine Below.setCell ?_ (by first | exact Nat.le_refl _ | (simp; done) | (simp; omega)) _))⟩)
  · rcases ho with ⟨q1, rfl⟩ | ⟨q1, q2, q3, q4, q5, q6, rfl⟩
    all_goals
      go_enter Tryd.func24, Tryd.ntmps24
      go_wp2_with (first
        | (go_at_call 63; refine (Tryd.strings_IndexByte _ _ _).mono ?_; rintro e w1 ⟨rfl, rfl⟩)
        | (go_at_call 64; refine (Tryd.strings_HasPrefix _ _ _).mono ?_; rintro e w1 ⟨rfl, rfl⟩)
        | (go_at_call 56; refine (HS.out _ ?_ ?_).mono ?_; (repeat (first | exact Below.refl _ _ | assumption | refine below_drewN ?_ _ | refine Below.drew ?_ | refine Below.alloc ?_ (by first | exact Nat.le_refl _ | omega | (simp; done) | (simp; omega)) _ | refine Below.setCell ?_ (by first | exact Nat.le_refl _ | (simp; done) | (simp; omega)) _)); (focus (first | (simp; done) | (simp; omega))); rintro e1 w1 ⟨rfl, hb3, hb4⟩; obtain ⟨hc3, hf3⟩ := bcell hb3; have hz3 := hb3.size; simp at hz3))
      all_goals (exact bodyPost_ret (v := .tuple #[.agg #[.int .i64 0, .int .i64 0, .int .i64 0], .int .i64 e]) (by simp only [results, Tryd.results24]; go_simp) rfl ⟨rfl, (by repeat (first | exact Below.refl _ _ | assumption | refine below_drewN ?_ _ | refine Below.drew ?_ | refine Below.alloc ?_ (by first | exact Nat.le_refl _ | omega | (simp; done) | (simp; omega)) _ | refine Below.setCell ?_ (by first | exact Nat.le_refl _ | (simp; done) | (simp; omega)) _))⟩)

set_option maxHeartbeats 8000000 in
theorem pn_good (s r r2 : ByteArray) (c : UInt8) (a o : Int) (w : World) (h1 : 0 < s.size) (h0 : s.toList.isEmpty = false) (hc : ∀ h : 0 < s.size, s[0]'h = c) (hl : 0 ≤ Lib.indexByte [67, 68, 69, 70, 71, 65, 66] c)
    (hr : s.extract 1 s.size = r)
    (ha : (Lib.hasPrefix r.data.toList [35] = true ∧ r.extract 1 r.size = r2 ∧ 0 < r.size ∧ a = 1) ∨ (Lib.hasPrefix r.data.toList [35] = false ∧ Lib.hasPrefix r.data.toList [98] = true ∧ r.extract 1 r.size = r2 ∧ 0 < r.size ∧ a = -1) ∨
      (Lib.hasPrefix r.data.toList [35] = false ∧ Lib.hasPrefix r.data.toList [98] = false ∧ r = r2 ∧ a = 0))
    (d : UInt8)
    (ho : ((r2.toList == [45, 49]) = true ∧ o = -1) ∨ ((r2.toList == [45, 49]) = false ∧ ((r2.size : Int) == 1) = true ∧ 0 < r2.size ∧ (∀ h : 0 < r2.size, r2[0]'h = d) ∧ 48 ≤ (d.toNat : Int) ∧ (d.toNat : Int) ≤ 57 ∧ o = (d.toNat : Int) - 48))
    (p : Int) (HS : Hid (∀ W, Below w.heap.size w W → w.heap.size + 2 ≤ W.heap.size → Calls Tryd.prog 56 #[.agg #[.int .i64 (Lib.indexByte [67, 68, 69, 70, 71, 65, 66] c), .int .i64 a, .int .i64 o]] W fun e1 w1 =>
      e1 = .returned (.tuple #[.int .i64 p, .int .i64 0]) ∧ Below (w.heap.size + 2) W w1 ∧ Below w.heap.size w w1)) :
    Calls Tryd.prog 24 #[.string s] w fun e1 w' => e1 = .returned (.tuple #[.agg #[.int .i64 (Lib.indexByte [67, 68, 69, 70, 71, 65, 66] c), .int .i64 a, .int .i64 o], .int .i64 0]) ∧ Below w.heap.size w w' := by
  rcases ha with ⟨p1, e2, hr0, rfl⟩ | ⟨p1, p2, e2, hr0, rfl⟩ | ⟨p1, p2, rfl, rfl⟩
  · rcases ho with ⟨q1, rfl⟩ | ⟨q1, q2, q3, q4, q5, q6, rfl⟩
    all_goals
      go_enter Tryd.func24, Tryd.ntmps24
      go_wp2_with (first
        | (go_at_call 63; refine (Tryd.strings_IndexByte _ _ _).mono ?_; rintro e w1 ⟨rfl, rfl⟩)
        | (go_at_call 64; refine (Tryd.strings_HasPrefix _ _ _).mono ?_; rintro e w1 ⟨rfl, rfl⟩)
        | (go_at_call 56; refine (HS.out _ ?_ ?_).mono ?_; (repeat (first | exact Below.refl _ _ | assumption | refine below_drewN ?_ _ | refine Below.drew ?_ | refine Below.alloc ?_ (by first | exact Nat.le_refl _ | omega | (simp; done) | (simp; omega)) _ | refine Below.setCell ?_ (by first | exact Nat.le_refl _ | (simp; done) | (simp; omega)) _)); (focus (first | (simp; done) | (simp; omega))); rintro e1 w1 ⟨rfl, hb3, hb4⟩; obtain ⟨hc3, hf3⟩ := bcell hb3; have hz3 := hb3.size; simp at hz3))
      go_region
      go_wp2_with (first
        | (go_at_call 63; refine (Tryd.strings_IndexByte _ _ _).mono ?_; rintro e w1 ⟨rfl, rfl⟩)
        | (go_at_call 64; refine (Tryd.strings_HasPrefix _ _ _).mono ?_; rintro e w1 ⟨rfl, rfl⟩)
        | (go_at_call 56; refine (HS.out _ ?_ ?_).mono ?_; (repeat (first | exact Below.refl _ _ | assumption | refine below_drewN ?_ _ | refine Below.drew ?_ | refine Below.alloc ?_ (by first | exact Nat.le_refl _ | omega | (simp; done) | (simp; omega)) _ | refine Below.setCell ?_ (by first | exact Nat.le_refl _ | (simp; done) | (simp; omega)) _)); (focus (first | (simp; done) | (simp; omega))); rintro e1 w1 ⟨rfl, hb3, hb4⟩; obtain ⟨hc3, hf3⟩ := bcell hb3; have hz3 := hb3.size; simp at hz3))
      all_goals (exact bodyPost_ret (v := .tuple #[.agg #[.int .i64 (Lib.indexByte [67, 68, 69, 70, 71, 65, 66] c), .int .i64 _, .int .i64 _], .int .i64 0]) (by simp only [results, Tryd.results24]; go_simp) rfl ⟨rfl, (by repeat (first | exact Below.refl _ _ | assumption | refine below_drewN ?_ _ | refine Below.drew ?_ | refine Below.alloc ?_ (by first | exact Nat.le_refl _ | omega | (simp; done) | (simp; omega)) _ | refine Below.setCell ?_ (by first | exact Nat.le_refl _ | (simp; done) | (simp; omega)) _))⟩)
  · rcases ho with ⟨q1, rfl⟩ | ⟨q1, q2, q3, q4, q5, q6, rfl⟩
    all_goals
      go_enter Tryd.func24, Tryd.ntmps24
      go_wp2_with (first
        | (go_at_call 63; refine (Tryd.strings_IndexByte _ _ _).mono ?_; rintro e w1 ⟨rfl, rfl⟩)
        | (go_at_call 64; refine (Tryd.strings_HasPrefix _ _ _).mono ?_; rintro e w1 ⟨rfl, rfl⟩)
        | (go_at_call 56; refine (HS.out _ ?_ ?_).mono ?_; (repeat (first | exact Below.refl _ _ | assumption | refine below_drewN ?_ _ | refine Below.drew ?_ | refine Below.alloc ?_ (by first | exact Nat.le_refl _ | omega | (simp; done) | (simp; omega)) _ | refine Below.setCell ?_ (by first | exact Nat.le_refl _ | (simp; done) | (simp; omega)) _)); (focus (first | (simp; done) | (simp; omega))); rintro e1 w1 ⟨rfl, hb3, hb4⟩; obtain ⟨hc3, hf3⟩ := bcell hb3; have hz3 := hb3.size; simp at hz3))
      go_region
      go_wp2_with (first
        | (go_at_call 63; refine (Tryd.strings_IndexByte _ _ _).mono ?_; rintro e w1 ⟨rfl, rfl⟩)
        | (go_at_call 64; refine (Tryd.strings_HasPrefix _ _ _).mono ?_; rintro e w1 ⟨rfl, rfl⟩)
        | (go_at_call 56; refine (HS.out _ ?_ ?_).mono ?_; (repeat (first | exact Below.refl _ _ | assumption | refine below_drewN ?_ _ | refine Below.drew ?_ | refine Below.alloc ?_ (by first | exact Nat.le_refl _ | omega | (simp; done) | (simp; omega)) _ | refine Below.setCell ?_ (by first | exact Nat.le_refl _ | (simp; done) | (simp; omega)) _)); (focus (first | (simp; done) | (simp; omega))); rintro e1 w1 ⟨rfl, hb3, hb4⟩; obtain ⟨hc3, hf3⟩ := bcell hb3; have hz3 := hb3.size; simp at hz3))
      all_goals (exact bodyPost_ret (v := .tuple #[.agg #[.int .i64 (Lib.indexByte [67, 68, 69, 70, 71, 65, 66] c), .int .i64 _, .int .i64 _], .int .i64 0]) (by simp only [results, Tryd.results24]; go_simp) rfl ⟨rfl, (by repeat (first | exact Below.refl _ _ | assumption | refine below_drewN ?_ _ | refine Below.drew ?_ | refine Below.alloc ?_ (by first | exact Nat.le_refl _ | omega | (simp; done) | (simp; omega)) _ | refine Below.setCell ?_ (by first | exact Nat.le_refl _ | (simp; done) | (simp; omega)) _))⟩)
  · rcases ho with ⟨q1, rfl⟩ | ⟨q1, q2, q3, q4, q5, q6, rfl⟩
    all_goals
      go_enter Tryd.func24, Tryd.ntmps24
      go_wp2_with (first
        | (go_at_call 63; refine (Tryd.strings_IndexByte _ _ _).mono ?_; rintro e w1 ⟨rfl, rfl⟩)
        | (go_at_call 64; refine (Tryd.strings_HasPrefix _ _ _).mono ?_; rintro e w1 ⟨rfl, rfl⟩)
        | (go_at_call 56; refine (HS.out _ ?_ ?_).mono ?_; (repeat (first | exact Below.refl _ _ | assumption | refine below_drewN ?_ _ | refine Below.drew ?_ | refine Below.alloc ?_ (by first | exact Nat.le_refl _ | omega | (simp; done) | (simp; omega)) _ | refine Below.setCell ?_ (by first | exact Nat.le_refl _ | (simp; done) | (simp; omega)) _)); (focus (first | (simp; done) | (simp; omega))); rintro e1 w1 ⟨rfl, hb3, hb4⟩; obtain ⟨hc3, hf3⟩ := bcell hb3; have hz3 := hb3.size; simp at hz3))
      all_goals (exact bodyPost_ret (v := .tuple #[.agg #[.int .i64 (Lib.indexByte [67, 68, 69, 70, 71, 65, 66] c), .int .i64 _, .int .i64 _], .int .i64 0]) (by simp only [results, Tryd.results24]; go_simp) rfl ⟨rfl, (by repeat (first | exact Below.refl _ _ | assumption | refine below_drewN ?_ _ | refine Below.drew ?_ | refine Below.alloc ?_ (by first | exact Nat.le_refl _ | omega | (simp; done) | (simp; omega)) _ | refine Below.setCell ?_ (by first | exact Nat.le_refl _ | (simp; done) | (simp; omega)) _))⟩)

set_option maxHeartbeats 8000000 in
theorem pn_form (s r r2 : ByteArray) (c : UInt8) (a : Int) (w : World) (h1 : 0 < s.size) (h0 : s.toList.isEmpty = false) (hc : ∀ h : 0 < s.size, s[0]'h = c) (hl : 0 ≤ Lib.indexByte [67, 68, 69, 70, 71, 65, 66] c)
    (hr : s.extract 1 s.size = r)
    (ha : (Lib.hasPrefix r.data.toList [35] = true ∧ r.extract 1 r.size = r2 ∧ 0 < r.size ∧ a = 1) ∨ (Lib.hasPrefix r.data.toList [35] = false ∧ Lib.hasPrefix r.data.toList [98] = true ∧ r.extract 1 r.size = r2 ∧ 0 < r.size ∧ a = -1) ∨
      (Lib.hasPrefix r.data.toList [35] = false ∧ Lib.hasPrefix r.data.toList [98] = false ∧ r = r2 ∧ a = 0))
    (d : UInt8)
    (ho : ((r2.toList == [45, 49]) = false ∧ ((r2.size : Int) == 1) = false) ∨ ((r2.toList == [45, 49]) = false ∧ ((r2.size : Int) == 1) = true ∧ 0 < r2.size ∧ (∀ h : 0 < r2.size, r2[0]'h = d) ∧ ((d.toNat : Int) < 48 ∨ 57 < (d.toNat : Int)))) :
    Calls Tryd.prog 24 #[.string s] w fun e1 w' => e1 = .returned (.tuple #[.agg #[.int .i64 0, .int .i64 0, .int .i64 0], .int .i64 4]) ∧ Below w.heap.size w w' := by
  rcases ha with ⟨p1, e2, hr0, rfl⟩ | ⟨p1, p2, e2, hr0, rfl⟩ | ⟨p1, p2, rfl, rfl⟩
  · rcases ho with ⟨q1, q2⟩ | ⟨q1, q2, q3, q4, q5⟩
    all_goals
      go_enter Tryd.func24, Tryd.ntmps24
      go_wp2_with (first
        | (go_at_call 63; refine (Tryd.strings_IndexByte _ _ _).mono ?_; rintro e w1 ⟨rfl, rfl⟩)
        | (go_at_call 64; refine (Tryd.strings_HasPrefix _ _ _).mono ?_; rintro e w1 ⟨rfl, rfl⟩)
        | (go_at_call 56; refine (HS.out _ ?_ ?_).mono ?_; (repeat (first | exact Below.refl _ _ | assumption | refine below_drewN ?_ _ | refine Below.drew ?_ | refine Below.alloc ?_ (by first | exact Nat.le_refl _ | omega | (simp; done) | (simp; omega)) _ | refine Below.setCell ?_ (by first | exact Nat.le_refl _ | (simp; done) | (simp; omega)) _)); (focus (first | (simp; done) | (simp; omega))); rintro e1 w1 ⟨rfl, hb3, hb4⟩; obtain ⟨hc3, hf3⟩ := bcell hb3; have hz3 := hb3.size; simp at hz3))
      go_region
      go_wp2_with (first
        | (go_at_call 63; refine (Tryd.strings_IndexByte _ _ _).mono ?_; rintro e w1 ⟨rfl, rfl⟩)
        | (go_at_call 64; refine (Tryd.strings_HasPrefix _ _ _).mono ?_; rintro e w1 ⟨rfl, rfl⟩)
        | (go_at_call 56; refine (HS.out _ ?_ ?_).mono ?_; (repeat (first | exact Below.refl _ _ | assumption | refine below_drewN ?_ _ | refine Below.drew ?_ | refine Below.alloc ?_ (by first | exact Nat.le_refl _ | omega | (simp; done) | (simp; omega)) _ | refine Below.setCell ?_ (by first | exact Nat.le_refl _ | (simp; done) | (simp; omega)) _)); (focus (first | (simp; done) | (simp; omega))); rintro e1 w1 ⟨rfl, hb3, hb4⟩; obtain ⟨hc3, hf3⟩ := bcell hb3; have hz3 := hb3.size; simp at hz3))
      all_goals (exact bodyPost_ret (v := .tuple #[.agg #[.int .i64 0, .int .i64 0, .int .i64 0], .int .i64 4]) (by simp only [results, Tryd.results24]; go_simp) rfl ⟨rfl, (by repeat (first | exact Below.refl _ _ | assumption | refine below_drewN ?_ _ | refine Below.drew ?_ | refine Below.alloc ?_ (by first | exact Nat.le_refl _ | omega | (simp; done) | (simp; omega)) _ | refine Below.setCell ?_ (by first | exact Nat.le_refl _ | (simp; done) | (simp; omega)) _))⟩)
  · rcases ho with ⟨q1, q2⟩ | ⟨q1, q2, q3, q4, q5⟩
    all_goals
      go_enter Tryd.func24, Tryd.ntmps24
      go_wp2_with (first
        | (go_at_call 63; refine (Tryd.strings_IndexByte _ _ _).mono ?_; rintro e w1 ⟨rfl, rfl⟩)
        | (go_at_call 64; refine (Tryd.strings_HasPrefix _ _ _).mono ?_; rintro e w1 ⟨rfl, rfl⟩)
        | (go_at_call 56; refine (HS.out _ ?_ ?_).mono ?_; (repeat (first | exact Below.refl _ _ | assumption | refine below_drewN ?_ _ | refine Below.drew ?_ | refine Below.alloc ?_ (by first | exact Nat.le_refl _ | omega | (simp; done) | (simp; omega)) _ | refine Below.setCell ?_ (by first | exact Nat.le_refl _ | (simp; done) | (simp; omega)) _)); (focus (first | (simp; done) | (simp; omega))); rintro e1 w1 ⟨rfl, hb3, hb4⟩; obtain ⟨hc3, hf3⟩ := bcell hb3; have hz3 := hb3.size; simp at hz3))
      go_region
      go_wp2_with (first
        | (go_at_call 63; refine (Tryd.strings_IndexByte _ _ _).mono ?_; rintro e w1 ⟨rfl, rfl⟩)
        | (go_at_call 64; refine (Tryd.strings_HasPrefix _ _ _).mono ?_; rintro e w1 ⟨rfl, rfl⟩)
        | (go_at_call 56; refine (HS.out _ ?_ ?_).mono ?_; (repeat (first | exact Below.refl _ _ | assumption | refine below_drewN ?_ _ | refine Below.drew ?_ | refine Below.alloc ?_ (by first | exact Nat.le_refl _ | omega | (simp; done) | (simp; omega)) _ | refine Below.setCell ?_ (by first | exact Nat.le_refl _ | (simp; done) | (simp; omega)) _)); (focus (first | (simp; done) | (simp; omega))); rintro e1 w1 ⟨rfl, hb3, hb4⟩; obtain ⟨hc3, hf3⟩ := bcell hb3; have hz3 := hb3.size; simp at hz3))
      all_goals (exact bodyPost_ret (v := .tuple #[.agg #[.int .i64 0, .int .i64 0, .int .i64 0], .int .i64 4]) (by simp only [results, Tryd.results24]; go_simp) rfl ⟨rfl, (by repeat (first | exact Below.refl _ _ | assumption | refine below_drewN ?_ _ | refine Below.drew ?_ | refine Below.alloc ?_ (by first | exact Nat.le_refl _ | omega | (simp; done) | (simp; omega)) _ | refine Below.setCell ?_ (by first | exact Nat.le_refl _ | (simp; done) | (simp; omega)) _))⟩)
  · rcases ho with ⟨q1, q2⟩ | ⟨q1, q2, q3, q4, q5⟩
    all_goals
      go_enter Tryd.func24, Tryd.ntmps24
      go_wp2_with (first
        | (go_at_call 63; refine (Tryd.strings_IndexByte _ _ _).mono ?_; rintro e w1 ⟨rfl, rfl⟩)
        | (go_at_call 64; refine (Tryd.strings_HasPrefix _ _ _).mono ?_; rintro e w1 ⟨rfl, rfl⟩)
        | (go_at_call 56; refine (HS.out _ ?_ ?_).mono ?_; (repeat (first | exact Below.refl _ _ | assumption | refine below_drewN ?_ _ | refine Below.drew ?_ | refine Below.alloc ?_ (by first | exact Nat.le_refl _ | omega | (simp; done) | (simp; omega)) _ | refine Below.setCell ?_ (by first | exact Nat.le_refl _ | (simp; done) | (simp; omega)) _)); (focus (first | (simp; done) | (simp; omega))); rintro e1 w1 ⟨rfl, hb3, hb4⟩; obtain ⟨hc3, hf3⟩ := bcell hb3; have hz3 := hb3.size; simp at hz3))
      all_goals (exact bodyPost_ret (v := .tuple #[.agg #[.int .i64 0, .int .i64 0, .int .i64 0], .int .i64 4]) (by simp only [results, Tryd.results24]; go_simp) rfl ⟨rfl, (by repeat (first | exact Below.refl _ _ | assumption | refine below_drewN ?_ _ | refine Below.drew ?_ | refine Below.alloc ?_ (by first | exact Nat.le_refl _ | omega | (simp; done) | (simp; omega)) _ | refine Below.setCell ?_ (by first | exact Nat.le_refl _ | (simp; done) | (simp; omega)) _))⟩)

set_option maxHeartbeats 8000000 in
theorem pn_letter (s : ByteArray) (c : UInt8) (w : World) (h1 : 0 < s.size) (h0 : s.toList.isEmpty = false) (hc : ∀ h : 0 < s.size, s[0]'h = c) (hl : Lib.indexByte [67, 68, 69, 70, 71, 65, 66] c < 0) :
    Calls Tryd.prog 24 #[.string s] w fun e1 w' => e1 = .returned (.tuple #[.agg #[.int .i64 0, .int .i64 0, .int .i64 0], .int .i64 4]) ∧ Below w.heap.size w w' := by
  go_enter Tryd.func24, Tryd.ntmps24
  go_wp2_with (go_at_call 63; refine (Tryd.strings_IndexByte _ _ _).mono ?_; rintro e w1 ⟨rfl, rfl⟩)
  exact bodyPost_ret (v := .tuple #[.agg #[.int .i64 0, .int .i64 0, .int .i64 0], .int .i64 4]) (by simp only [results, Tryd.results24]; go_simp) rfl ⟨rfl, (by repeat (first | exact Below.refl _ _ | assumption | refine below_drewN ?_ _ | refine Below.drew ?_ | refine Below.alloc ?_ (by first | exact Nat.le_refl _ | omega | (simp; done) | (simp; omega)) _ | refine Below.setCell ?_ (by first | exact Nat.le_refl _ | (simp; done) | (simp; omega)) _))⟩

theorem pn_empty (s : ByteArray) (w : World) (h0 : s.toList.isEmpty = true) :
    Calls Tryd.prog 24 #[.string s] w fun e1 w' => e1 = .returned (.tuple #[.agg #[.int .i64 0, .int .i64 0, .int .i64 0], .int .i64 4]) ∧ Below w.heap.size w w' := by
  go_enter Tryd.func24, Tryd.ntmps24
  go_wp2
  exact bodyPost_ret (v := .tuple #[.agg #[.int .i64 0, .int .i64 0, .int .i64 0], .int .i64 4]) (by simp only [results, Tryd.results24]; go_simp) rfl ⟨rfl, (by repeat (first | exact Below.refl _ _ | assumption | refine below_drewN ?_ _ | refine Below.drew ?_ | refine Below.alloc ?_ (by first | exact Nat.le_refl _ | omega | (simp; done) | (simp; omega)) _ | refine Below.setCell ?_ (by first | exact Nat.le_refl _ | (simp; done) | (simp; omega)) _))⟩
end Go.Proofs.YtbdhjpdjbogggaaDoor
