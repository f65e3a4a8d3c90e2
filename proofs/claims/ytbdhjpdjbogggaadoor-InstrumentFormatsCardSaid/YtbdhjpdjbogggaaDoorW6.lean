/- ParseName, joined. Walks: course. Plain laws on texts: splitting at one byte. Walks: Parse. Parse, joined. The standard instruments: names and texts. Walks: Standard. Standard at lute6. -/
import Derived.Test.YtbdhjpdjbogggaaDoorW5
import Derived.Test.YtbdhjpdjbogggaaDoorBase
import Derived.Test.YtbdhjpdjbogggaaDoorShelf
import Derived.Test.YtbdhjpdjbogggaaDoorW1
import Derived.Laws.Rows
import Derived.Laws.Tables
import Derived.Deep.WholeRow
namespace Go.Proofs.YtbdhjpdjbogggaaDoor
open Go.RowKit

theorem hasPrefix_one (r : List UInt8) (c : UInt8) : Lib.hasPrefix r [c] = (r.head? == some c) := by
  cases r with
  | nil => rfl
  | cons x r =>
    simp only [Lib.hasPrefix, List.isPrefixOf, List.head?_cons, Bool.and_true]
    exact BEq.comm

theorem parseName_any (s : ByteArray) (w : World) (hg : Gnd w) :
    Calls Tryd.prog 24 #[.string s] w fun e1 w' => e1 = .returned (.tuple #[.agg #[.int .i64 (pnV s.data.toList).1, .int .i64 (pnV s.data.toList).2.1, .int .i64 (pnV s.data.toList).2.2], .int .i64 (pnE s.data.toList)]) ∧ Below w.heap.size w w' := by
  cases ht : s.data.toList with
  | nil =>
    exact pn_empty s w (by rw [ByteArray.toList_eq, ht]; rfl)
  | cons c t =>
    have hsz : s.size = t.length + 1 := by have : s.data.toList.length = s.size := by simp
                                           rw [← this, ht]; rfl
    have h1 : 0 < s.size := by omega
    have h0 : s.toList.isEmpty = false := by rw [ByteArray.toList_eq, ht]; rfl
    have hc : ∀ h : 0 < s.size, s[0]'h = c := by
      intro h
      have e : s.data.toList[0]? = some (s[0]'h) := by rw [List.getElem?_eq_getElem (by simpa using h)]; rfl
      rw [ht] at e; simpa using e.symm
    by_cases hl : letOf c < 0
    · have hO : pnO (c :: t) = none := by simp only [pnO, if_pos hl]
      have hE : pnE (c :: t) = 4 := by simp only [pnE, hO]
      have hV : pnV (c :: t) = (0, 0, 0) := by simp only [pnV, hO]
      rw [hE, hV]
      exact pn_letter s c w h1 h0 hc hl
    · obtain ⟨r, hr⟩ : ∃ r, s.extract 1 s.size = r := ⟨_, rfl⟩
      have hrl : r.data.toList = t := by rw [← hr, ext1, ht]; rfl
      have hrs : r.data.toList.length = r.size := by simp
      have hl' : 0 ≤ Lib.indexByte [67, 68, 69, 70, 71, 65, 66] c := by have : ¬ Lib.indexByte letters c < 0 := hl; simp only [letters] at this; omega
      -- what follows the sign
      obtain ⟨r2, a, ha, hr2l, hae⟩ : ∃ r2 a, ((Lib.hasPrefix r.data.toList [35] = true ∧ r.extract 1 r.size = r2 ∧ 0 < r.size ∧ a = 1) ∨ (Lib.hasPrefix r.data.toList [35] = false ∧ Lib.hasPrefix r.data.toList [98] = true ∧ r.extract 1 r.size = r2 ∧ 0 < r.size ∧ a = -1) ∨
          (Lib.hasPrefix r.data.toList [35] = false ∧ Lib.hasPrefix r.data.toList [98] = false ∧ r = r2 ∧ a = 0)) ∧ r2.data.toList = altR t ∧ a = altA t := by
        by_cases h35 : t.head? = some 35
        · refine ⟨_, _, .inl ⟨by rw [hasPrefix_one, hrl]; simpa using h35, rfl, ?_, rfl⟩, ?_, ?_⟩
          · cases t with
            | nil => simp at h35
            | cons _ _ => rw [← hrs, hrl]; simp
          · rw [ext1, hrl, altR, if_pos h35]
          · rw [altA, if_pos h35]
        · by_cases h98 : t.head? = some 98
          · refine ⟨_, _, .inr (.inl ⟨by rw [hasPrefix_one, hrl]; simpa using h35, by rw [hasPrefix_one, hrl]; simpa using h98, rfl, ?_, rfl⟩), ?_, ?_⟩
            · cases t with
              | nil => simp at h98
              | cons _ _ => rw [← hrs, hrl]; simp
            · rw [ext1, hrl, altR, if_neg h35, if_pos h98]
            · rw [altA, if_neg h35, if_pos h98]
          · refine ⟨_, _, .inr (.inr ⟨by rw [hasPrefix_one, hrl]; simpa using h35, by rw [hasPrefix_one, hrl]; simpa using h98, rfl, rfl⟩), ?_, ?_⟩
            · rw [hrl, altR, if_neg h35, if_neg h98]
            · rw [altA, if_neg h35, if_neg h98]
      have hr2s : r2.data.toList.length = r2.size := by simp
      obtain ⟨d, hd⟩ : ∃ d, d = (altR t).headD 0 := ⟨_, rfl⟩
      have hd0 : ∀ h : 0 < r2.size, r2[0]'h = d := by
        intro h
        have e : r2.data.toList[0]? = some (r2[0]'h) := by rw [List.getElem?_eq_getElem (by simpa using h)]; rfl
        rw [hd, ← hr2l]
        cases hx : r2.data.toList with
        | nil => rw [hx] at e; simp at e
        | cons x y => rw [hx] at e; simpa using e.symm
      have q1 : (r2.toList == [45, 49]) = decide (altR t = [45, 49]) := by rw [ByteArray.toList_eq, hr2l]; by_cases h : altR t = [45, 49] <;> simp [h]
      cases ho : octOf (altR t) with
      | none =>
        have hO : pnO (c :: t) = none := by simp only [pnO, if_neg hl, ho, Option.map_none]
        have hE : pnE (c :: t) = 4 := by simp only [pnE, hO]
        have hV : pnV (c :: t) = (0, 0, 0) := by simp only [pnV, hO]
        rw [hE, hV]
        refine pn_form s r r2 c a w h1 h0 hc hl' hr ha d ?_
        unfold octOf at ho
        by_cases k1 : altR t = [45, 49]
        · rw [if_pos k1] at ho; cases ho
        · rw [if_neg k1] at ho
          by_cases k2 : (altR t).length = 1 ∧ digB ((altR t).headD 0) = true
          · rw [if_pos k2] at ho; cases ho
          · by_cases k3 : (altR t).length = 1
            · right
              refine ⟨by rw [q1]; simpa using k1, by rw [← hr2s, hr2l, k3]; rfl, by rw [← hr2s, hr2l, k3]; decide, hd0, ?_⟩
              have : ¬ digB d = true := fun h => k2 ⟨k3, by rw [← hd]; exact h⟩
              simp [digB] at this
              omega
            · left
              refine ⟨by rw [q1]; simpa using k1, ?_⟩
              simp only [beq_eq_false_iff_ne]
              rw [← hr2s, hr2l]; omega
      | some o =>
        have hO : pnO (c :: t) = some (letOf c, a, o) := by simp only [pnO, if_neg hl, ho, Option.map_some, hae]
        have hoo : ((r2.toList == [45, 49]) = true ∧ o = -1) ∨ ((r2.toList == [45, 49]) = false ∧ ((r2.size : Int) == 1) = true ∧ 0 < r2.size ∧ (∀ h : 0 < r2.size, r2[0]'h = d) ∧ 48 ≤ (d.toNat : Int) ∧ (d.toNat : Int) ≤ 57 ∧ o = (d.toNat : Int) - 48) := by
          unfold octOf at ho
          by_cases k1 : altR t = [45, 49]
          · rw [if_pos k1] at ho
            exact .inl ⟨by rw [q1]; simpa using k1, by injection ho with ho; exact ho.symm⟩
          · rw [if_neg k1] at ho
            by_cases k2 : (altR t).length = 1 ∧ digB ((altR t).headD 0) = true
            · rw [if_pos k2, ← hd] at ho
              have k4 := k2.2
              rw [← hd] at k4
              simp [digB] at k4
              exact .inr ⟨by rw [q1]; simpa using k1, by rw [← hr2s, hr2l, k2.1]; rfl, by rw [← hr2s, hr2l, k2.1]; decide, hd0, k4.1, k4.2, by injection ho with ho; exact ho.symm⟩
            · rw [if_neg k2] at ho; cases ho
        have hS : ∀ W, Below w.heap.size w W → w.heap.size + 2 ≤ W.heap.size → Calls Tryd.prog 56 #[.agg #[.int .i64 (Lib.indexByte [67, 68, 69, 70, 71, 65, 66] c), .int .i64 a, .int .i64 o]] W fun e1 w1 =>
            e1 = .returned (.tuple #[.int .i64 (sndP (letOf c) a o), .int .i64 (sndE (letOf c) a o)]) ∧ Below (w.heap.size + 2) W w1 ∧ Below w.heap.size w w1 := fun W hW hz =>
          (sounding_any _ _ _ W (hg.up hW)).mono fun e w1 ⟨he, hb⟩ => ⟨he, hb.mono hz, hW.trans (hb.mono hW.size)⟩
        by_cases hR : right (letOf c) a o = true
        · have hE : pnE (c :: t) = 0 := by simp only [pnE, hO, hR, if_true]
          have hV : pnV (c :: t) = (letOf c, a, o) := by simp only [pnV, hO, hR, if_true]
          rw [hE, hV]
          rw [(snd_good hR).2] at hS
          exact pn_good s r r2 c a o w h1 h0 hc hl' hr ha d hoo _ hS
        · have hR' : right (letOf c) a o = false := by simpa using hR
          have hE : pnE (c :: t) = 10 := by simp only [pnE, hO, hR']; rfl
          have hV : pnV (c :: t) = (0, 0, 0) := by simp only [pnV, hO, hR']; rfl
          rw [hE, hV]
          rw [(snd_bad hR').2] at hS
          exact pn_pitch s r r2 c a o w h1 h0 hc hl' hr ha d hoo _ 10 hS (show (10 : Int) ≠ 0 by decide)
end Go.Proofs.YtbdhjpdjbogggaaDoor
namespace Go.Proofs.YtbdhjpdjbogggaaDoor
open Go.RowKit

def crsZ : Crs := ⟨0, 0, false⟩
/-- The word of a course: the error, and the course. -/
def crsOf (t : List UInt8) : Int × Crs :=
  if (Lib.cut t [47]).2.2 = false then (4, crsZ)
  else if pnE (Lib.cut t [47]).1 = 4 then (4, crsZ)
  else if numOk (Lib.trimSuffix (Lib.cut t [47]).2.1 [43]) = false then (4, crsZ)
  else if pnE (Lib.cut t [47]).1 ≠ 0 then (pnE (Lib.cut t [47]).1, crsZ)
  else (0, ⟨pit (pnV (Lib.cut t [47]).1).1 (pnV (Lib.cut t [47]).1).2.1 (pnV (Lib.cut t [47]).1).2.2, numN (Lib.trimSuffix (Lib.cut t [47]).2.1 [43]), Lib.hasSuffix (Lib.cut t [47]).2.1 [43]⟩)

set_option maxHeartbeats 8000000 in
theorem course_out (s nm rs dg : ByteArray) (fd oc ok : Bool) (l a o e n : Int) (w : World) (m : Int) (hml : w.cell? ⟨2, 0, none⟩ = some (.int .i64 m)) (h2 : 2 < w.heap.size)
    (HC : Hid (∀ W, W.cell? ⟨2, 0, none⟩ = some (.int .i64 m) → Calls Tryd.prog 92 #[.string s, .string ⟨#[47]⟩] W fun e1 w1 => e1 = .returned (.tuple #[.string nm, .string rs, .bool fd]) ∧ ∃ n, w1 = W.drewN n))
    (HP : Hid (∀ W, Below w.heap.size w W → Calls Tryd.prog 24 #[.string nm] W fun e1 w1 => e1 = .returned (.tuple #[.agg #[.int .i64 l, .int .i64 a, .int .i64 o], .int .i64 e]) ∧ Below W.heap.size W w1))
    (HX : Hid (∀ W, Calls Tryd.prog 93 #[.string rs, .string ⟨#[43]⟩] W fun e1 w1 => e1 = .returned (.tuple #[.string dg, .bool oc]) ∧ w1 = W))
    (HN : Hid (∀ W, Calls Tryd.prog 73 #[.string dg] W fun e1 w1 => e1 = .returned (.tuple #[.int .i64 n, .bool ok]) ∧ W = w1))
    (v1 v2 : Int) (v3 : Bool) (er : Int)
    (hcase : (fd = false ∧ v1 = 0 ∧ v2 = 0 ∧ v3 = false ∧ er = 4) ∨ (fd = true ∧ (e == 4) = true ∧ v1 = 0 ∧ v2 = 0 ∧ v3 = false ∧ er = e) ∨ (fd = true ∧ (e == 4) = false ∧ ok = false ∧ v1 = 0 ∧ v2 = 0 ∧ v3 = false ∧ er = 4) ∨
      (fd = true ∧ (e == 4) = false ∧ ok = true ∧ (e == 0) = false ∧ v1 = 0 ∧ v2 = 0 ∧ v3 = false ∧ er = e)) :
    Calls Tryd.prog 72 #[.string s] w fun e1 w' => e1 = .returned (.tuple #[.agg #[.int .i64 v1, .int .i64 v2, .bool v3], .int .i64 er]) ∧ Below w.heap.size w w' := by
  have hml' : ∀ x, (w.alloc x).cell? ⟨2, 0, none⟩ = some (.int .i64 m) := fun x => (World.cell?_alloc_lt w x ⟨2, 0, none⟩ h2).trans hml
  rcases hcase with ⟨rfl, rfl, rfl, rfl, rfl⟩ | ⟨rfl, k1, rfl, rfl, rfl, rfl⟩ | ⟨rfl, k1, rfl, rfl, rfl, rfl, rfl⟩ | ⟨rfl, k1, rfl, k2, rfl, rfl, rfl, rfl⟩
  all_goals
    go_enter Tryd.func72, Tryd.ntmps72
    go_wp2_with (first
      | (go_at_call 92; refine (HC.out _ (hml' _)).mono ?_; rintro e1 w1 ⟨rfl, nd, rfl⟩)
      | (go_at_call 24; refine (lift (w := w) 1 (HP.out _ ?_) ?_ ?_).mono ?_; (repeat (first | exact Below.refl _ _ | assumption | refine below_drewN ?_ _ | refine Below.drew ?_ | refine Below.alloc ?_ (by first | exact Nat.le_refl _ | omega | (simp; done) | (simp; omega)) _ | refine Below.setCell ?_ (by first | exact Nat.le_refl _ | (simp; done) | (simp; omega)) _)); (focus (first | (simp; done) | (simp; omega) | omega)); rintro e1 w1 ⟨rfl, hb3, hb4⟩; obtain ⟨hc3, hf3⟩ := bcell hb3; have hz3 := hb3.size; (try simp at hz3); have hlt3 : w.heap.size < w1.heap.size := by omega)
      | (go_at_call 93; refine (HX.out _).mono ?_; rintro e1 w1 ⟨rfl, rfl⟩)
      | (go_at_call 73; refine (HN.out _).mono ?_; rintro e1 w1 ⟨rfl, rfl⟩))
    refine post_ret ?_ ?_ ?_; (focus rfl); (focus (simp only [results, Tryd.results72]; go_simp)); (repeat (first | exact Below.refl _ _ | assumption | refine below_drewN ?_ _ | refine Below.drew ?_ | refine Below.alloc ?_ (by first | exact Nat.le_refl _ | omega | (simp; done) | (simp; omega)) _ | refine Below.setCell ?_ (by first | exact Nat.le_refl _ | (simp; done) | (simp; omega)) _))

set_option maxHeartbeats 8000000 in
theorem course_walk (s nm rs dg : ByteArray) (fd oc ok : Bool) (l a o e n p : Int) (w : World) (m : Int) (hml : w.cell? ⟨2, 0, none⟩ = some (.int .i64 m)) (h2 : 2 < w.heap.size)
    (HC : Hid (∀ W, W.cell? ⟨2, 0, none⟩ = some (.int .i64 m) → Calls Tryd.prog 92 #[.string s, .string ⟨#[47]⟩] W fun e1 w1 => e1 = .returned (.tuple #[.string nm, .string rs, .bool fd]) ∧ ∃ n, w1 = W.drewN n))
    (HP : Hid (∀ W, Below w.heap.size w W → Calls Tryd.prog 24 #[.string nm] W fun e1 w1 => e1 = .returned (.tuple #[.agg #[.int .i64 l, .int .i64 a, .int .i64 o], .int .i64 e]) ∧ Below W.heap.size W w1))
    (HX : Hid (∀ W, Calls Tryd.prog 93 #[.string rs, .string ⟨#[43]⟩] W fun e1 w1 => e1 = .returned (.tuple #[.string dg, .bool oc]) ∧ w1 = W))
    (HN : Hid (∀ W, Calls Tryd.prog 73 #[.string dg] W fun e1 w1 => e1 = .returned (.tuple #[.int .i64 n, .bool ok]) ∧ W = w1))
    (HS : Hid (∀ W, Below w.heap.size w W → Calls Tryd.prog 56 #[.agg #[.int .i64 l, .int .i64 a, .int .i64 o]] W fun e1 w1 => e1 = .returned (.tuple #[.int .i64 p, .int .i64 0]) ∧ Below W.heap.size W w1))
    (v1 v2 : Int) (v3 : Bool) (er : Int)
    (hcase : (fd = false ∧ v1 = 0 ∧ v2 = 0 ∧ v3 = false ∧ er = 4) ∨ (fd = true ∧ (e == 4) = true ∧ v1 = 0 ∧ v2 = 0 ∧ v3 = false ∧ er = e) ∨ (fd = true ∧ (e == 4) = false ∧ ok = false ∧ v1 = 0 ∧ v2 = 0 ∧ v3 = false ∧ er = 4) ∨
      (fd = true ∧ (e == 4) = false ∧ ok = true ∧ (e == 0) = false ∧ v1 = 0 ∧ v2 = 0 ∧ v3 = false ∧ er = e) ∨ (fd = true ∧ (e == 4) = false ∧ ok = true ∧ (e == 0) = true ∧ v1 = p ∧ v2 = n ∧ v3 = oc ∧ er = 0)) :
    Calls Tryd.prog 72 #[.string s] w fun e1 w' => e1 = .returned (.tuple #[.agg #[.int .i64 v1, .int .i64 v2, .bool v3], .int .i64 er]) ∧ Below w.heap.size w w' := by
  have hml' : ∀ x, (w.alloc x).cell? ⟨2, 0, none⟩ = some (.int .i64 m) := fun x => (World.cell?_alloc_lt w x ⟨2, 0, none⟩ h2).trans hml
  rcases hcase with ⟨rfl, rfl, rfl, rfl, rfl⟩ | ⟨rfl, k1, rfl, rfl, rfl, rfl⟩ | ⟨rfl, k1, rfl, rfl, rfl, rfl, rfl⟩ | ⟨rfl, k1, rfl, k2, rfl, rfl, rfl, rfl⟩ | ⟨rfl, k1, rfl, k2, rfl, rfl, rfl, rfl⟩
  all_goals
    go_enter Tryd.func72, Tryd.ntmps72
    go_wp2_with (first
      | (go_at_call 92; refine (HC.out _ (hml' _)).mono ?_; rintro e1 w1 ⟨rfl, nd, rfl⟩)
      | (go_at_call 24; refine (lift (w := w) 1 (HP.out _ ?_) ?_ ?_).mono ?_; (repeat (first | exact Below.refl _ _ | assumption | refine below_drewN ?_ _ | refine Below.drew ?_ | refine Below.alloc ?_ (by first | exact Nat.le_refl _ | omega | (simp; done) | (simp; omega)) _ | refine Below.setCell ?_ (by first | exact Nat.le_refl _ | (simp; done) | (simp; omega)) _)); (focus (first | (simp; done) | (simp; omega) | omega)); rintro e1 w1 ⟨rfl, hb3, hb4⟩; obtain ⟨hc3, hf3⟩ := bcell hb3; have hz3 := hb3.size; (try simp at hz3); have hlt3 : w.heap.size < w1.heap.size := by omega)
      | (go_at_call 93; refine (HX.out _).mono ?_; rintro e1 w1 ⟨rfl, rfl⟩)
      | (go_at_call 73; refine (HN.out _).mono ?_; rintro e1 w1 ⟨rfl, rfl⟩)
      | (go_at_call 56; refine (lift (w := w) 1 (HS.out _ ?_) ?_ ?_).mono ?_; (repeat (first | exact Below.refl _ _ | assumption | refine below_drewN ?_ _ | refine Below.drew ?_ | refine Below.alloc ?_ (by first | exact Nat.le_refl _ | omega | (simp; done) | (simp; omega)) _ | refine Below.setCell ?_ (by first | exact Nat.le_refl _ | (simp; done) | (simp; omega)) _)); (focus (first | (simp; done) | (simp; omega) | omega)); rintro e1 w1 ⟨rfl, hb3, hb4⟩; obtain ⟨hc3, hf3⟩ := bcell hb3; have hz3 := hb3.size; (try simp at hz3); have hlt3 : w.heap.size < w1.heap.size := by omega))
    refine post_ret ?_ ?_ ?_; (focus rfl); (focus (simp only [results, Tryd.results72]; go_simp)); (repeat (first | exact Below.refl _ _ | assumption | refine below_drewN ?_ _ | refine Below.drew ?_ | refine Below.alloc ?_ (by first | exact Nat.le_refl _ | omega | (simp; done) | (simp; omega)) _ | refine Below.setCell ?_ (by first | exact Nat.le_refl _ | (simp; done) | (simp; omega)) _))

theorem sz_of {s : ByteArray} : s.data.toList.length = s.size := by simp
theorem str_of (l : List UInt8) : (⟨l.toArray⟩ : ByteArray).data.toList = l := by simp

theorem course_any (s : ByteArray) (w : World) (hg : Gnd w) (hs : s.size < 4294967281) :
    Calls Tryd.prog 72 #[.string s] w fun e1 w' => e1 = .returned (.tuple #[.agg #[.int .i64 (crsOf s.data.toList).2.p, .int .i64 (crsOf s.data.toList).2.f, .bool (crsOf s.data.toList).2.o], .int .i64 (crsOf s.data.toList).1]) ∧ Below w.heap.size w w' := by
  obtain ⟨m, hm⟩ := hg.ml
  have h2 : 2 < w.heap.size := by have := hg.sz; omega
  obtain ⟨nm, hnm⟩ : ∃ nm : ByteArray, nm = ⟨(Lib.cut s.data.toList [47]).1.toArray⟩ := ⟨_, rfl⟩
  obtain ⟨rs, hrs⟩ : ∃ rs : ByteArray, rs = ⟨(Lib.cut s.data.toList [47]).2.1.toArray⟩ := ⟨_, rfl⟩
  obtain ⟨dg, hdg⟩ : ∃ dg : ByteArray, dg = ⟨(Lib.trimSuffix rs.data.toList [43]).toArray⟩ := ⟨_, rfl⟩
  have enm : nm.data.toList = (Lib.cut s.data.toList [47]).1 := by rw [hnm, str_of]
  have ers : rs.data.toList = (Lib.cut s.data.toList [47]).2.1 := by rw [hrs, str_of]
  have edg : dg.data.toList = Lib.trimSuffix (Lib.cut s.data.toList [47]).2.1 [43] := by rw [hdg, str_of, ers]
  have hrsz : rs.size ≤ s.size := by
    rw [← sz_of, ← sz_of, ers]
    unfold Lib.cut
    split
    · simp
    · simp
  have HC : ∀ W : World, W.cell? ⟨2, 0, none⟩ = some (.int .i64 m) → Calls Tryd.prog 92 #[.string s, .string ⟨#[47]⟩] W fun e1 w1 => e1 = .returned (.tuple #[.string nm, .string rs, .bool (Lib.cut s.data.toList [47]).2.2]) ∧ ∃ n, w1 = W.drewN n := fun W hW =>
    (Tryd.strings_Cut s ⟨#[47]⟩ m W hs hW).mono fun e1 w1 ⟨he, hw⟩ => ⟨by rw [he, hnm, hrs], hw⟩
  have HP : ∀ W, Below w.heap.size w W → Calls Tryd.prog 24 #[.string nm] W fun e1 w1 => e1 = .returned (.tuple #[.agg #[.int .i64 (pnV (Lib.cut s.data.toList [47]).1).1, .int .i64 (pnV (Lib.cut s.data.toList [47]).1).2.1, .int .i64 (pnV (Lib.cut s.data.toList [47]).1).2.2], .int .i64 (pnE (Lib.cut s.data.toList [47]).1)]) ∧ Below W.heap.size W w1 := fun W hW =>
    (parseName_any nm W (hg.up hW)).mono fun e1 w1 ⟨he, hw⟩ => ⟨by rw [he, enm], hw⟩
  have HX : ∀ W, Calls Tryd.prog 93 #[.string rs, .string ⟨#[43]⟩] W fun e1 w1 => e1 = .returned (.tuple #[.string dg, .bool (Lib.hasSuffix (Lib.cut s.data.toList [47]).2.1 [43])]) ∧ w1 = W := fun W =>
    (Tryd.strings_CutSuffix rs ⟨#[43]⟩ W (by omega)).mono fun e1 w1 ⟨he, hw⟩ => ⟨by rw [he, hdg, ers], hw⟩
  have HN : ∀ W, Calls Tryd.prog 73 #[.string dg] W fun e1 w1 => e1 = .returned (.tuple #[.int .i64 (numN (Lib.trimSuffix (Lib.cut s.data.toList [47]).2.1 [43])), .bool (numOk (Lib.trimSuffix (Lib.cut s.data.toList [47]).2.1 [43]))]) ∧ W = w1 := fun W =>
    (number_any dg W).mono fun e1 w1 ⟨he, hw⟩ => ⟨by rw [he, edg], hw⟩
  have HS : pnE (Lib.cut s.data.toList [47]).1 = 0 → ∀ W, Below w.heap.size w W → Calls Tryd.prog 56 #[.agg #[.int .i64 (pnV (Lib.cut s.data.toList [47]).1).1, .int .i64 (pnV (Lib.cut s.data.toList [47]).1).2.1, .int .i64 (pnV (Lib.cut s.data.toList [47]).1).2.2]] W fun e1 w1 =>
      e1 = .returned (.tuple #[.int .i64 (pit (pnV (Lib.cut s.data.toList [47]).1).1 (pnV (Lib.cut s.data.toList [47]).1).2.1 (pnV (Lib.cut s.data.toList [47]).1).2.2), .int .i64 0]) ∧ Below W.heap.size W w1 := fun he0 W hW => by
    have hR : right (pnV (Lib.cut s.data.toList [47]).1).1 (pnV (Lib.cut s.data.toList [47]).1).2.1 (pnV (Lib.cut s.data.toList [47]).1).2.2 = true := by
      revert he0
      generalize (Lib.cut s.data.toList [47]).1 = t
      simp only [pnE, pnV]
      cases pnO t with
      | none => simp
      | some x =>
        obtain ⟨l, a, o⟩ := x
        by_cases h : right l a o = true
        · simp [h]
        · simp [h]
    exact (sounding_any _ _ _ W (hg.up hW)).mono fun e1 w1 ⟨he, hw⟩ => ⟨by rw [he, (snd_good hR).1, (snd_good hR).2], hw⟩
  generalize hl : (pnV (Lib.cut s.data.toList [47]).1).1 = l at *
  generalize ha : (pnV (Lib.cut s.data.toList [47]).1).2.1 = a at *
  generalize ho : (pnV (Lib.cut s.data.toList [47]).1).2.2 = o at *
  have hcr : crsOf s.data.toList = if (Lib.cut s.data.toList [47]).2.2 = false then (4, crsZ)
      else if pnE (Lib.cut s.data.toList [47]).1 = 4 then (4, crsZ)
      else if numOk (Lib.trimSuffix (Lib.cut s.data.toList [47]).2.1 [43]) = false then (4, crsZ)
      else if pnE (Lib.cut s.data.toList [47]).1 ≠ 0 then (pnE (Lib.cut s.data.toList [47]).1, crsZ)
      else (0, ⟨pit l a o, numN (Lib.trimSuffix (Lib.cut s.data.toList [47]).2.1 [43]), Lib.hasSuffix (Lib.cut s.data.toList [47]).2.1 [43]⟩) := by
    rw [crsOf, hl, ha, ho]
  rw [hcr]
  clear hcr hnm hrs hdg enm ers edg hrsz hl ha ho
  generalize pnE (Lib.cut s.data.toList [47]).1 = e at *
  generalize numN (Lib.trimSuffix (Lib.cut s.data.toList [47]).2.1 [43]) = n at *
  generalize numOk (Lib.trimSuffix (Lib.cut s.data.toList [47]).2.1 [43]) = ok at *
  generalize Lib.hasSuffix (Lib.cut s.data.toList [47]).2.1 [43] = oc at *
  generalize (Lib.cut s.data.toList [47]).2.2 = fd at *
  by_cases h0 : e = 0
  · have HS0 := HS h0
    cases fd
    · exact course_walk s nm rs dg _ oc ok l a o e n _ w m hm h2 HC HP HX HN HS0 _ _ _ _ (.inl ⟨rfl, rfl, rfl, rfl, rfl⟩)
    · cases ok
      · rw [if_neg (by decide), if_neg (by omega), if_pos rfl]
        exact course_walk s nm rs dg _ oc _ l a o e n _ w m hm h2 HC HP HX HN HS0 _ _ _ _ (.inr (.inr (.inl ⟨rfl, by simp; omega, rfl, rfl, rfl, rfl, rfl⟩)))
      · rw [if_neg (by decide), if_neg (by omega), if_neg (by decide), if_neg (by omega)]
        exact course_walk s nm rs dg _ oc _ l a o e n _ w m hm h2 HC HP HX HN HS0 _ _ _ _ (.inr (.inr (.inr (.inr ⟨rfl, by simp; omega, rfl, by simp; omega, rfl, rfl, rfl, rfl⟩))))
  · cases fd
    · exact course_out s nm rs dg _ oc ok l a o e n w m hm h2 HC HP HX HN _ _ _ _ (.inl ⟨rfl, rfl, rfl, rfl, rfl⟩)
    · by_cases h4 : e = 4
      · subst h4
        exact course_out s nm rs dg _ oc ok l a o 4 n w m hm h2 HC HP HX HN _ _ _ _ (.inr (.inl ⟨rfl, rfl, rfl, rfl, rfl, rfl⟩))
      · rw [if_neg (by decide), if_neg h4]
        cases ok
        · rw [if_pos rfl]
          exact course_out s nm rs dg _ oc _ l a o e n w m hm h2 HC HP HX HN _ _ _ _ (.inr (.inr (.inl ⟨rfl, by simpa using h4, rfl, rfl, rfl, rfl, rfl⟩)))
        · rw [if_neg (by decide), if_pos h0]
          exact course_out s nm rs dg _ oc _ l a o e n w m hm h2 HC HP HX HN _ _ _ _ (.inr (.inr (.inr ⟨rfl, by simpa using h4, rfl, by simpa using h0, rfl, rfl, rfl, rfl⟩)))
end Go.Proofs.YtbdhjpdjbogggaaDoor
namespace Go.Proofs.YtbdhjpdjbogggaaDoor
open Go.RowKit

def splitC (c : UInt8) : List UInt8 → List (List UInt8)
  | [] => [[]]
  | x :: r => if x = c then [] :: splitC c r else match splitC c r with
    | h :: t => (x :: h) :: t
    | [] => [[x]]

theorem splitC_ne (c : UInt8) (l : List UInt8) : splitC c l ≠ [] := by
  cases l with
  | nil => simp [splitC]
  | cons x r =>
    simp only [splitC]
    split
    · simp
    · split <;> simp

theorem splitC_miss (c : UInt8) : ∀ l : List UInt8, Lib.indexByte l c = -1 → splitC c l = [l]
  | [], _ => rfl
  | x :: r, h => by
    simp only [Lib.indexByte] at h
    by_cases hx : x = c
    · subst hx; simp at h
    · have hx' : (x == c) = false := by simpa using hx
      have hge := Lib.indexByte_ge r c
      simp only [hx'] at h
      by_cases hr : Lib.indexByte r c = -1
      · simp only [splitC, if_neg hx, splitC_miss c r hr]
      · simp [hr] at h; omega

theorem splitC_hit (c : UInt8) : ∀ (l : List UInt8) (i : Nat), Lib.indexByte l c = (i : Int) → splitC c l = l.take i :: splitC c (l.drop (i + 1))
  | [], i, h => by simp only [Lib.indexByte] at h; omega
  | x :: r, i, h => by
    simp only [Lib.indexByte] at h
    by_cases hx : x = c
    · subst hx
      simp at h
      obtain rfl : i = 0 := by omega
      simp [splitC]
    · have hx' : (x == c) = false := by simpa using hx
      have hge := Lib.indexByte_ge r c
      simp only [hx'] at h
      by_cases hr : Lib.indexByte r c = -1
      · simp [hr] at h
        try omega
      · simp [hr] at h
        obtain ⟨j, rfl⟩ : ∃ j, i = j + 1 := ⟨i - 1, by omega⟩
        have := splitC_hit c r j (by omega)
        simp only [splitC, if_neg hx, this, List.take_succ_cons, List.drop_succ_cons]

theorem splitK_C (c : UInt8) : ∀ (n : Nat) (l : List UInt8), l.length ≤ n → Lib.splitK [c] 0 (Lib.count l [c]) l = splitC c l := by
  intro n
  induction n with
  | zero =>
    intro l hl
    have : l = [] := List.eq_nil_of_length_eq_zero (by omega)
    subst this
    rfl
  | succ n ih =>
    intro l hl
    have hge := Lib.indexByte_ge l c
    by_cases hm : Lib.indexByte l c = -1
    · rw [splitC_miss c l hm, Lib.count_miss (by rw [Lib.index_one, hm])]
      rfl
    · obtain ⟨i, hi⟩ : ∃ i : Nat, Lib.indexByte l c = (i : Int) := ⟨(Lib.indexByte l c).toNat, by omega⟩
      have hi' : Lib.index l [c] = (i : Int) := by rw [Lib.index_one, hi]
      have hlen : l ≠ [] := by rintro rfl; simp only [Lib.indexByte] at hi; omega
      rw [splitC_hit c l i hi, Lib.count_hit (by simp) hi', Nat.add_comm]
      have hne : ¬ ((i : Int) == -1) = true := by simp
      simp only [Lib.splitK, hi', if_neg hne, Int.toNat_natCast, Nat.add_zero, List.length_singleton]
      rw [ih (l.drop (i + 1)) (by
        have : 0 < l.length := List.length_pos_iff.2 hlen
        simp only [List.length_drop]; omega)]

theorem split_eq (c : UInt8) (s : ByteArray) : (Lib.splitB ⟨#[c]⟩ 0 (Lib.countB s ⟨#[c]⟩) s).map (·.data.toList) = splitC c s.data.toList := by
  rw [Lib.splitB_data]
  exact splitK_C c _ _ (Nat.le_refl _)

theorem splitC_len (c : UInt8) : ∀ l : List UInt8, (splitC c l).length ≤ l.length + 1
  | [] => by simp [splitC]
  | x :: r => by
    have := splitC_len c r
    have h := splitC_ne c r
    simp only [splitC]
    split
    · simp; omega
    · split
      · rename_i h t e; rw [e] at this; simp at this ⊢; omega
      · simp
theorem splitC_part (c : UInt8) : ∀ (l : List UInt8), ∀ x ∈ splitC c l, x.length ≤ l.length
  | [], x, hx => by simp [splitC] at hx; simp [hx]
  | y :: r, x, hx => by
    have ih := splitC_part c r
    simp only [splitC] at hx
    split at hx
    · rcases List.mem_cons.1 hx with rfl | hx
      · simp
      · have := ih x hx; simp; omega
    · split at hx
      · rename_i h t e
        rcases List.mem_cons.1 hx with rfl | hx
        · have := ih h (by rw [e]; simp); simp; omega
        · have := ih x (by rw [e]; simp [hx]); simp; omega
      · simp at hx; simp [hx]

/-- The place of the first word that is x; the length, if there is none. -/
def ixOf (x : List UInt8) : List (List UInt8) → Nat
  | [] => 0
  | y :: r => if y = x then 0 else ixOf x r + 1
theorem ixOf_le (x : List UInt8) : ∀ l, ixOf x l ≤ l.length
  | [] => Nat.le_refl _
  | y :: r => by have := ixOf_le x r; simp only [ixOf]; split <;> simp; omega
theorem data_inj {a b : ByteArray} (h : a.data.toList = b.data.toList) : a = b := by
  cases a; cases b; simpa using h
theorem idxOfS_eq (x : ByteArray) (zs : List ByteArray) : Lib.idxOfS zs x = if ixOf x.data.toList (zs.map (·.data.toList)) < zs.length then (ixOf x.data.toList (zs.map (·.data.toList)) : Int) else -1 := by
  have h : ∀ (zs : List ByteArray) (i : Nat), Lib.idxFromS zs x i = if ixOf x.data.toList (zs.map (·.data.toList)) < zs.length then ((i + ixOf x.data.toList (zs.map (·.data.toList)) : Nat) : Int) else -1 := by
    intro zs
    induction zs with
    | nil => intro i; simp [Lib.idxFromS, ixOf]
    | cons z zs ih =>
      intro i
      simp only [Lib.idxFromS, List.map_cons, ixOf, List.length_cons]
      by_cases hz : z = x
      · subst hz; simp
      · have hz' : ¬ z.data.toList = x.data.toList := fun e => hz (data_inj e)
        rw [if_neg hz', if_neg hz, ih (i + 1)]
        by_cases hlt : ixOf x.data.toList (zs.map (·.data.toList)) < zs.length
        · rw [if_pos hlt, if_pos (by omega)]; omega
        · rw [if_neg hlt, if_neg (by omega)]
  have := h zs 0
  rw [Lib.idxOfS, this]
  simp
end Go.Proofs.YtbdhjpdjbogggaaDoor
namespace Go.Proofs.YtbdhjpdjbogggaaDoor
open Go.RowKit

def cErr : List (List UInt8) → Int
  | [] => 0
  | t :: r => if (crsOf t).1 = 0 then cErr r else (crsOf t).1
def cVal (l : List (List UInt8)) : List Crs := l.map fun t => (crsOf t).2
def nVal (l : List (List UInt8)) : List Int := l.map numN
/-- Parse of the words: the error. -/
def wsE (ws : List (List UInt8)) : Int :=
  if ixOf [58] ws = ws.length then 4 else if cErr (ws.take (ixOf [58] ws)) ≠ 0 then cErr (ws.take (ixOf [58] ws))
  else if (ws.drop (ixOf [58] ws + 1)).all numOk = false then 4 else chk (cVal (ws.take (ixOf [58] ws))) (nVal (ws.drop (ixOf [58] ws + 1)))
def psE (t : List UInt8) : Int := wsE (splitC 32 t)
def psC (t : List UInt8) : List Crs := if psE t = 0 then cVal ((splitC 32 t).take (ixOf [58] (splitC 32 t))) else []
def psS (t : List UInt8) : List Int := if psE t = 0 then nVal ((splitC 32 t).drop (ixOf [58] (splitC 32 t) + 1)) else []

/-- A call returns an instrument and an error. -/
def InsRet (w : World) (cs : List Crs) (ss : List Int) (er : Int) (e : Ending) (w' : World) : Prop :=
  ∃ (A C : Option Addr) (nc cc ns kc : Nat), e = .returned (.tuple #[.agg #[.slice A nc cc, .slice C ns kc], .int .i64 er]) ∧ Arr w' w'.heap.size 3 A nc (cells3 cs) ∧
    Arr w' w'.heap.size 1 C ns (ss.map (Value.int .i64)) ∧ Below w.heap.size w w'

theorem info_crs : (Tryd.prog.info? 59).map (fun i => (i.zero, i.size, i.bytes)) = some (some (.agg #[.int .i64 0, .int .i64 0, .bool false]), 3, 24) := by kernel_rfl
theorem info_int : (Tryd.prog.info? 3).map (fun i => (i.zero, i.size, i.bytes)) = some (some (.int .i64 0), 1, 8) := by kernel_rfl

/-- Growing, then an append to a row of one's own behind a new block. -/
theorem grow_own {a w w' : World} {o : Obj} {r : Nat} {row : Option Nat} (h : a.grownBy w (some r)) (h' : (w.alloc o).grownBy w' row) (hr : ∀ q, row = some q → a.heap.size ≤ q) : a.grownBy w' (some r) :=
  ⟨h'.os.trans h.os, h'.tape.trans h.tape, h'.output.trans h.output, by have := h.size; have h2 := h'.size; simp at h2; omega, fun k hk hne => by
    have h1 := h.block k hk hne
    have h2 : k < (w.alloc o).heap.size := by have := h.size; simp; omega
    have h3 := h'.block k h2 (fun e => by have := hr k e.symm; omega)
    exact (h3.trans (Below.heap_alloc w o k (by have := h.size; omega))).trans h1⟩
theorem grow_set {a w : World} {r : Nat} (h : a.grownBy w (some r)) (u : Value) (hi : Nat) : a.grownBy (w.setCell ⟨r, hi, none⟩ u) (some r) :=
  ⟨h.os, h.tape, h.output, by simpa [World.setCell] using h.size, fun k hk hne => (Below.heap_setCell w ⟨r, hi, none⟩ u k (fun e => hne (by rw [e]))).trans (h.block k hk hne)⟩
theorem cVal_snoc (l : List (List UInt8)) (x : List UInt8) : cVal (l ++ [x]) = cVal l ++ [(crsOf x).2] := by simp [cVal]
theorem nVal_snoc (l : List (List UInt8)) (x : List UInt8) : nVal (l ++ [x]) = nVal l ++ [numN x] := by simp [nVal]
theorem cells3_snoc (cs : List Crs) (c : Crs) : cells3 (cs ++ [c]) = cells3 cs ++ c.cells := by simp [cells3]

set_option maxHeartbeats 8000000 in
set_option maxRecDepth 10000 in
theorem parse_main (s : ByteArray) (ws : List ByteArray) (k nw : Nat) (w : World) (hg : Gnd w) (hnw : Hid (nw = ws.length)) (hk : k < nw) (hbig : nw ≤ 4294967296)
    (HW : Hid (∀ x ∈ ws, x.size < 4294967281))
    (HS : Hid (∀ W, Below w.heap.size w W → Calls Tryd.prog 70 #[.string s, .string ⟨#[32]⟩] W fun e1 w1 => e1 = .returned (.slice (some ⟨W.heap.size, 0, none⟩) nw nw) ∧ w1 = W.alloc (.cells (ws.map Value.string).toArray 9)))
    (HI : Hid (∀ W b, (∀ j, j < nw → W.cell? ⟨b, j, none⟩ = some (.string (ws.getD j ByteArray.empty))) → Calls Tryd.prog 71 #[.slice (some ⟨b, 0, none⟩) nw nw, .string ⟨#[58]⟩] W fun e1 w1 => e1 = .returned (.int .i64 k) ∧ w1 = W))
    (wl : List (List UInt8)) (hwl : Hid (wl = ws.map (·.data.toList)))
    (cs : List Crs) (ss : List Int) (er : Int) (hr : Hid (er = if cErr (wl.take k) ≠ 0 then cErr (wl.take k) else if (wl.drop (k + 1)).all numOk = false then 4 else chk (cVal (wl.take k)) (nVal (wl.drop (k + 1)))))
    (hcs : Hid (cs = if er = 0 then cVal (wl.take k) else [])) (hss : Hid (ss = if er = 0 then nVal (wl.drop (k + 1)) else [])) :
    Calls Tryd.prog 32 #[.string s] w (InsRet w cs ss er) := by
  obtain ⟨i0, hi0, hz0, hz1, hz2⟩ := info_parts info_crs
  obtain ⟨i1, hi1, hy0, hy1, hy2⟩ := info_parts info_int
  have HII := Lib.hid hi1
  have HI0 := Lib.hid hi0
  clear hi0 hi1
  have hsz := hg.sz
  have HG := Lib.hid hg
  clear hg
  have hkz : decide ((k : Int) < 0) = false := by simp
  go_enter Tryd.func32, Tryd.ntmps32
  go_wp2_with fail
  refine (HS.out _ ?_).mono ?_
  · (repeat (first | exact Below.refl _ _ | assumption | refine below_drewN ?_ _ | refine Below.drew ?_ | refine Below.alloc ?_ (by first | exact Nat.le_refl _ | omega | (simp; done) | (simp; omega)) _ | refine Below.setCell ?_ (by first | exact Nat.le_refl _ | (simp; done) | (simp; omega)) _))
  rintro e1 w1 ⟨rfl, rfl⟩
  go_wp2_with fail
  refine (HI.out _ _ ?_).mono ?_
  · intro j hj
    have hbk := Blk.new (w.alloc (.cells #[.slice none 0 0, .slice none 0 0] 39)) 9 (ws.map Value.string).toArray
    rw [World.size_alloc] at hbk
    rw [hbk.cell]
    have : j < ws.length := by have := hnw.out; omega
    simp [List.getElem?_map, List.getElem?_eq_getElem this, List.getD_eq_getElem?_getD]
  rintro e1 w1 ⟨rfl, rfl⟩
  go_wp2_with fail
  obtain ⟨W1, hW1⟩ : ∃ W1, W1 = ((w.alloc (Obj.cells #[Value.slice none 0 0, Value.slice none 0 0] 39)).alloc (Obj.cells (List.map Value.string ws).toArray 9)).alloc (Obj.cells #[Value.slice none 0 0, Value.slice none 0 0] 39) := ⟨_, rfl⟩
  have hres1 : Blk W1 w.heap.size 39 #[Value.slice none 0 0, Value.slice none 0 0] := by
    rw [hW1]; exact ((Blk.new w _ _).alloc _).alloc _
  have hwds1 : Blk W1 (w.heap.size + 1) 9 (List.map Value.string ws).toArray := by
    rw [hW1]
    have h := (Blk.new (w.alloc (.cells #[.slice none 0 0, .slice none 0 0] 39)) 9 (ws.map Value.string).toArray).alloc (Obj.cells #[Value.slice none 0 0, Value.slice none 0 0] 39)
    rw [World.size_alloc] at h
    exact h
  have hin1 : Blk W1 (w.heap.size + 1 + 1) 39 #[Value.slice none 0 0, Value.slice none 0 0] := by
    rw [hW1]
    have h := Blk.new ((w.alloc (.cells #[.slice none 0 0, .slice none 0 0] 39)).alloc (Obj.cells (List.map Value.string ws).toArray 9)) 39 #[Value.slice none 0 0, Value.slice none 0 0]
    simp only [World.size_alloc] at h
    exact h
  have hsz1 : W1.heap.size = w.heap.size + 1 + 1 + 1 := by rw [hW1]; simp
  have hb1 : Below w.heap.size w W1 := by rw [hW1]; repeat (first | exact Below.refl _ _ | assumption | refine below_drewN ?_ _ | refine Below.drew ?_ | refine Below.alloc ?_ (by first | exact Nat.le_refl _ | omega | (simp; done) | (simp; omega)) _ | refine Below.setCell ?_ (by first | exact Nat.le_refl _ | (simp; done) | (simp; omega)) _)
  rw [← hW1]
  have HSZ := Lib.hid hsz1
  clear hW1 hsz1
  have hwl' : wl.length = nw := by rw [hwl.out, List.length_map, hnw.out]
  have HWL := Lib.hid hwl'
  clear hwl'
  have hat : ∀ j, wl.getD j [] = (ws.getD j ByteArray.empty).data.toList := by
    intro j
    rw [hwl.out, List.getD_eq_getElem?_getD, List.getD_eq_getElem?_getD, List.getElem?_map]
    cases ws[j]? <;> rfl
  have HAT := Lib.hid hat
  clear hat
  go_loopw [27] (fun i wr => ∃ (j : Nat) (A : Option Addr) (c : Nat), j ≤ k ∧ i = .int .i64 j ∧ Blk wr (w.heap.size + 1 + 1) 39 #[.slice A j c, .slice none 0 0] ∧
      wr.ownsRow (w.heap.size + 3) 59 3 (.slice A j c) j (cells3 (cVal (wl.take j))) ∧ Below (w.heap.size + 1 + 1) W1 wr ∧ w.heap.size + 3 ≤ wr.heap.size ∧ Hid (cErr (wl.take k) = cErr ((wl.take k).drop j)))
    (fun i _ => k - (intOf i).toNat)
  case atStart => exact ⟨0, none, 0, Nat.zero_le _, rfl, hin1, World.ownsRow_nil _ _ _ _, Below.refl _ _, by have := HSZ.out; omega, rfl⟩
  case round =>
    obtain ⟨j, A, c, hj, rfl, hblk, hown, hb, hsz2, hce⟩ := hrel
    have hbw : Below w.heap.size w wr := hb1.trans (hb.mono (by omega))
    have c0 := hblk.cell 0
    have c1 := hblk.cell 1
    have fr := hblk.frozen 0
    have fr1 := hblk.frozen 1
    have r0 := (hres1.below hb (by omega)).cell 0
    have r1 := (hres1.below hb (by omega)).cell 1
    have fr2 := (hres1.below hb (by omega)).frozen 0
    have fr3 := (hres1.below hb (by omega)).frozen 1
    simp at c0 c1 r0 r1
    by_cases hlt : j < k
    · obtain ⟨x, hx⟩ : ∃ x, x = ws.getD j ByteArray.empty := ⟨_, rfl⟩
      have hjl : j < ws.length := by have := hnw.out; omega
      have hcx : wr.cell? ⟨w.heap.size + 1, j, none⟩ = some (.string x) := by
        rw [(hwds1.below hb (by omega)).cell, hx]
        simp [List.getElem?_map, List.getElem?_eq_getElem hjl, List.getD_eq_getElem?_getD]
      have hxs : x.size < 4294967281 := by
        refine HW.out x ?_
        rw [hx, List.getD_eq_getElem?_getD, List.getElem?_eq_getElem hjl]
        exact List.getElem_mem hjl
      have hwx : (wl.take k).drop j = x.data.toList :: (wl.take k).drop (j + 1) := by
        have hl : j < (wl.take k).length := by rw [List.length_take, HWL.out]; omega
        rw [drop_cons _ _ hl]
        congr 1
        rw [hx, ← HAT.out, List.getD_eq_getElem?_getD, List.getD_eq_getElem?_getD, List.getElem?_take_of_lt hlt]
        rfl
      have htk : wl.take (j + 1) = wl.take j ++ [x.data.toList] := by
        have hl : j < wl.length := by rw [HWL.out]; omega
        rw [List.take_succ_eq_append_getElem hl]
        congr 2
        have := HAT.out j
        rw [List.getD_eq_getElem?_getD, List.getElem?_eq_getElem hl] at this
        rw [hx]; exact this
      obtain ⟨⟨p, f, o⟩, hcrs⟩ : ∃ cc : Crs, cc = (crsOf x.data.toList).2 := ⟨_, rfl⟩
      obtain ⟨ce, hcerr⟩ : ∃ ce : Int, ce = (crsOf x.data.toList).1 := ⟨_, rfl⟩
      have hcall : ∀ W, Below wr.heap.size wr W → Calls Tryd.prog 72 #[.string x] W fun e1 w1 => e1 = .returned (.tuple #[.agg #[.int .i64 p, .int .i64 f, .bool o], .int .i64 ce]) ∧ Below wr.heap.size wr w1 := fun W hW =>
        (course_any x W (HG.out.up (hbw.trans (hW.mono (by omega)))) hxs).mono fun e1 w1 ⟨he, hw⟩ => ⟨by rw [he, ← hcrs, ← hcerr], hW.trans (hw.mono hW.size)⟩
      have HCALL := Lib.hid hcall
      have HX := Lib.hid hx
      have HWX := Lib.hid hwx
      have HTK := Lib.hid htk
      have HCRS := Lib.hid hcrs
      have HCERR := Lib.hid hcerr
      clear hcall hx hwx htk hcrs hcerr hwds1 hin1
      by_cases hce0 : ce = 0
      · subst hce0
        go_wp2_with (first
          | (go_at_call 72; refine (HCALL.out _ ?_).mono ?_; (repeat (first | exact Below.refl _ _ | assumption | refine below_drewN ?_ _ | refine Below.drew ?_ | refine Below.alloc ?_ (by first | exact Nat.le_refl _ | omega | (simp; done) | (simp; omega)) _ | refine Below.setCell ?_ (by first | exact Nat.le_refl _ | (simp; done) | (simp; omega)) _)); rintro e1 w1 ⟨rfl, hb3⟩; have hz3 := hb3.size; have l2 : w.heap.size + 1 + 1 < w1.heap.size := (by omega); have l0 : w.heap.size < w1.heap.size := (by omega); have hbk1 := hblk.below hb3 (by omega); have hrs1 := hres1.below (hb.trans (hb3.mono (by omega))) (by omega); have d0 := hbk1.cell 0; have d1 := hbk1.cell 1; have e0 := hrs1.cell 0; have e1 := hrs1.cell 1; have f0 := hbk1.frozen 0; have f1 := hbk1.frozen 1; have f2 := hrs1.frozen 0; have f3 := hrs1.frozen 1; simp at d0 d1 e0 e1)
          | (at_builtin; refine wpList_append_lies _ rfl _ _ 36 rfl (w.heap.size + 3) 59 i0 _ 3 24 Tryd.underlying36 HI0.out hz0 hz1 hz2 rfl (by decide) (.slice A j c) j (cells3 (cVal (wl.take j))) (by rfl) (((own_up hown hb3 (Nat.le_refl _)).alloc _).alloc _) ⟨w1.heap.size + 1, 0, none⟩ 1 1 [.int .i64 p, .int .i64 f, .bool o] (by rfl) rfl (news2 _ _ _ _) (by intro u hu; simp at hu; rcases hu with rfl | rfl | rfl <;> rfl) (by decide) (by unfold maxLen; omega) (by omega) (by simp; omega) (w1.heap.size + 1 + 1) (by simp) ?_; intro g cap w2 hown2 hgrow hat hlt; have hbk2 := Blk.grown ((hbk1.alloc _).alloc _) hgrow (own_ne hown (b := w.heap.size + 1 + 1) (by omega)); have g0 := hbk2.cell 0; have g1 := hbk2.frozen 0; simp at g0))
        have hbA : Below (w.heap.size + 1 + 1) W1 w1 := hb.trans (hb3.mono (by omega))
        go_roundw
        case rel =>
          refine ⟨j + 1, some ⟨g, 0, none⟩, cap, by omega, by go_num, ?_, ?_, ?_, ?_, ?_⟩
          · have := hbk2.set_ 0 (Value.slice (some ⟨g, 0, none⟩) (j + 1) cap); simpa using this
          · rw [HTK.out, cVal_snoc, ← HCRS.out, cells3_snoc]
            exact own_far hown2 (p := ⟨w.heap.size + 1 + 1, 0, none⟩) (by show w.heap.size + 1 + 1 < w.heap.size + 3; omega) _
          · exact (((hbA.alloc (by omega) _).alloc (by simp; omega) _).grown hgrow (by simp; omega) (fun k' hk' => by have := (hown.lt k' hk').1; omega)).setCell (p := ⟨w.heap.size + 1 + 1, 0, none⟩) (Nat.le_refl _) _
          · have := hgrow.size; simp at this ⊢; omega
          · show cErr _ = _
            rw [hce.out, HWX.out, cErr, if_pos HCERR.out.symm]
        case measure => simp [intOf]; omega
      · have hce1 : (ce == 0) = false := by simpa using hce0
        have hfin : er = ce ∧ cs = [] ∧ ss = [] := by
          have h1 : cErr (wl.take k) = ce := by rw [hce.out, HWX.out, cErr, ← HCERR.out, if_neg hce0]
          have h2 : er = ce := by rw [hr.out, h1, if_pos hce0]
          exact ⟨h2, by rw [hcs.out, if_neg (by rw [h2]; exact hce0)], by rw [hss.out, if_neg (by rw [h2]; exact hce0)]⟩
        have HF := Lib.hid hfin
        clear hfin hce0
        go_wp2_with (first
          | (go_at_call 72; refine (HCALL.out _ ?_).mono ?_; (repeat (first | exact Below.refl _ _ | assumption | refine below_drewN ?_ _ | refine Below.drew ?_ | refine Below.alloc ?_ (by first | exact Nat.le_refl _ | omega | (simp; done) | (simp; omega)) _ | refine Below.setCell ?_ (by first | exact Nat.le_refl _ | (simp; done) | (simp; omega)) _)); rintro e1 w1 ⟨rfl, hb3⟩; have hz3 := hb3.size; have l2 : w.heap.size + 1 + 1 < w1.heap.size := (by omega); have l0 : w.heap.size < w1.heap.size := (by omega); have hbk1 := hblk.below hb3 (by omega); have hrs1 := hres1.below (hb.trans (hb3.mono (by omega))) (by omega); have d0 := hbk1.cell 0; have d1 := hbk1.cell 1; have e0 := hrs1.cell 0; have e1 := hrs1.cell 1; have f0 := hbk1.frozen 0; have f1 := hbk1.frozen 1; have f2 := hrs1.frozen 0; have f3 := hrs1.frozen 1; simp at d0 d1 e0 e1))
        have hbB := hbw.trans (hb3.mono (by omega))
        refine bodyPost_ret (v := .tuple #[.agg #[.slice none 0 0, .slice none 0 0], .int .i64 ce]) (by simp only [results, Tryd.results32]; go_simp) rfl ?_
        obtain ⟨q1, q2, q3⟩ := HF.out
        subst q1 q2 q3
        exact ⟨none, none, 0, 0, 0, 0, rfl, Arr.nil_ _ _, Arr.nil_ _ _, (by repeat (first | exact Below.refl _ _ | assumption | refine below_drewN ?_ _ | refine Below.drew ?_ | refine Below.alloc ?_ (by first | exact Nat.le_refl _ | omega | (simp; done) | (simp; omega)) _ | refine Below.setCell ?_ (by first | exact Nat.le_refl _ | (simp; done) | (simp; omega)) _))⟩
    · obtain rfl : j = k := by omega
      have hce0 : cErr (wl.take j) = 0 := by rw [hce.out, List.drop_of_length_le (by rw [List.length_take, HWL.out]; omega)]; rfl
      have HC0 := Lib.hid hce0
      clear hce0 hlt
      obtain ⟨wo, rfl⟩ : ∃ wo : World, wo = wr := ⟨_, rfl⟩
      by_cases hlast : nw = j + 1
      · subst hlast
        go_wp2_with fail
        go_loopw [52] (fun i w2 => ∃ (m : Nat) (C : Option Addr) (c2 : Nat), m ≤ 0 ∧ i = .int .i64 m ∧ Blk w2 (w.heap.size + 1 + 1) 39 #[.slice A j c, .slice C m c2] ∧
          w2.ownsRow wo.heap.size 3 1 (.slice C m c2) m ((nVal ((wl.drop (j + 1)).take m)).map (Value.int .i64)) ∧ wo.grownBy w2 (some (w.heap.size + 1 + 1)) ∧ Hid ((wl.drop (j + 1)).all numOk = ((wl.drop (j + 1)).drop m).all numOk))
        (fun i _ => 0 - (intOf i).toNat)
        case atStart => exact ⟨0, none, 0, Nat.zero_le _, rfl, hblk, World.ownsRow_nil _ _ _ _, World.grownBy.refl _ _, rfl⟩
        case round =>
          obtain ⟨m, C, c2, hm, rfl, hblk2, hown2, hgr, hal⟩ := hrel
          obtain rfl : m = 0 := by omega
          have hall : (wl.drop (j + 1)).all numOk = true := by rw [hal.out, List.drop_of_length_le (by rw [List.length_drop, HWL.out]; omega)]; rfl
          have htk : (wl.drop (j + 1)).take 0 = wl.drop (j + 1) := List.take_of_length_le (by rw [List.length_drop, HWL.out]; omega)
          rw [htk] at hown2
          have here : er = chk (cVal (wl.take j)) (nVal (wl.drop (j + 1))) := by rw [hr.out, HC0.out, hall]; rfl
          have hownA := hown.kept hgr (.inr (fun e => own_ne hown (b := w.heap.size + 1 + 1) (by omega) e.symm))
          have hA2 : Arr wr wr.heap.size 3 A j (cells3 (cVal (wl.take j))) := Arr.of_own hownA
          have hC2 : Arr wr wr.heap.size 1 C 0 ((nVal (wl.drop (j + 1))).map (Value.int .i64)) := Arr.of_own hown2
          have hbw2 : Below w.heap.size w wr := hbw.trans ⟨hgr.os, hgr.tape, hgr.output, hgr.size, fun q hq => hgr.block q (by omega) (fun e => by injection e; omega)⟩
          have hzz : w.heap.size + 3 ≤ wr.heap.size := by have := hgr.size; omega
          have c0' := hblk2.cell 0
          have c1' := hblk2.cell 1
          simp at c0' c1'
          have rr := Blk.grown (hres1.below hb (by omega)) hgr (by intro e; injection e; omega)
          have hcall : ∀ W, Below wr.heap.size wr W → Calls Tryd.prog 30 #[.agg #[.slice A j c, .slice C 0 c2]] W fun e1 w1 => e1 = .returned (.int .i64 er) ∧ Below wr.heap.size wr w1 := fun W hW =>
            (check_any A C j c 0 c2 _ _ W (hA2.up hW) (hC2.up hW)).mono fun e1 w1 ⟨he, hw⟩ => ⟨by rw [he, ← here], hW.trans (hw.mono hW.size)⟩
          have HCALL := Lib.hid hcall
          have HERE := Lib.hid here
          clear hcall here hres1 hwds1 hin1 hall htk
          have harm : ∀ w1, Below wr.heap.size wr w1 → (w1.cell? ⟨w.heap.size + 1 + 1, 0, none⟩ = some (.slice A j c) ∧ w1.cell? ⟨w.heap.size + 1 + 1, 1, none⟩ = some (.slice C 0 c2)) ∧ (w1.cell? ⟨w.heap.size, 0, none⟩ = some (.slice none 0 0) ∧ w1.cell? ⟨w.heap.size, 1, none⟩ = some (.slice none 0 0) ∧ w1.frozen? ⟨w.heap.size, 0, none⟩ = false ∧ w1.frozen? ⟨w.heap.size, 1, none⟩ = false) := by
            intro w1 hb3
            have k1 := hblk2.below hb3 (by omega)
            have k2 := rr.below hb3 (by omega)
            have d0 := k1.cell 0
            have d1 := k1.cell 1
            have e0 := k2.cell 0
            have e1 := k2.cell 1
            simp at d0 d1 e0 e1
            exact ⟨⟨d0, d1⟩, e0, e1, k2.frozen 0, k2.frozen 1⟩
          have HARM := Lib.hid harm
          clear harm
          by_cases her : er = 0
          · have hcs1 : cs = cVal (wl.take j) := by rw [hcs.out, if_pos her]
            have hss1 : ss = nVal (wl.drop (j + 1)) := by rw [hss.out, if_pos her]
            rw [← hcs1] at hownA
            rw [← hss1] at hown2
            clear hcs1 hss1 hA2 hC2
            subst her
            go_wp2_with (go_at_call 30; refine (HCALL.out _ ?_).mono ?_; (repeat (first | exact Below.refl _ _ | assumption | refine below_drewN ?_ _ | refine Below.drew ?_ | refine Below.alloc ?_ (by first | exact Nat.le_refl _ | omega | (simp; done) | (simp; omega)) _ | refine Below.setCell ?_ (by first | exact Nat.le_refl _ | (simp; done) | (simp; omega)) _)); rintro e1 w1 ⟨rfl, hb3⟩; obtain ⟨⟨d0, d1⟩, d2, d3, d4, d5⟩ := HARM.out w1 hb3)
            refine bodyPost_ret (v := .tuple #[.agg #[.slice A j c, .slice C 0 c2], .int .i64 0]) (by simp only [results, Tryd.results32]; go_simp) rfl ?_
            have hA3 := own_up hownA hb3 (Nat.le_refl _)
            have hC3 := own_up hown2 hb3 (Nat.le_refl _)
            exact ⟨A, C, j, c, 0, c2, rfl, Arr.of_own (own_far (own_far hA3 (p := ⟨w.heap.size, 0, none⟩) (by show w.heap.size < _; omega) _) (p := ⟨w.heap.size, 1, none⟩) (by show w.heap.size < _; omega) _),
              Arr.of_own (own_far (own_far hC3 (p := ⟨w.heap.size, 0, none⟩) (by show w.heap.size < _; omega) _) (p := ⟨w.heap.size, 1, none⟩) (by show w.heap.size < _; omega) _),
              ((hbw2.trans (hb3.mono (by omega))).setCell (p := ⟨w.heap.size, 0, none⟩) (Nat.le_refl _) _).setCell (p := ⟨w.heap.size, 1, none⟩) (Nat.le_refl _) _⟩
          · have her1 : (er == 0) = false := by simpa using her
            have hcs1 : cs = [] := by rw [hcs.out, if_neg her]
            have hss1 : ss = [] := by rw [hss.out, if_neg her]
            have HCS := Lib.hid hcs1
            have HSS := Lib.hid hss1
            clear hcs1 hss1 her
            go_wp2_with (go_at_call 30; refine (HCALL.out _ ?_).mono ?_; (repeat (first | exact Below.refl _ _ | assumption | refine below_drewN ?_ _ | refine Below.drew ?_ | refine Below.alloc ?_ (by first | exact Nat.le_refl _ | omega | (simp; done) | (simp; omega)) _ | refine Below.setCell ?_ (by first | exact Nat.le_refl _ | (simp; done) | (simp; omega)) _)); rintro e1 w1 ⟨rfl, hb3⟩; obtain ⟨⟨d0, d1⟩, d2, d3, d4, d5⟩ := HARM.out w1 hb3)
            have hbB := hbw2.trans (hb3.mono (by omega))
            refine bodyPost_ret (v := .tuple #[.agg #[.slice none 0 0, .slice none 0 0], .int .i64 er]) (by simp only [results, Tryd.results32]; go_simp) rfl ?_
            rw [HCS.out, HSS.out]
            exact ⟨none, none, 0, 0, 0, 0, rfl, Arr.nil_ _ _, Arr.nil_ _ _, (by repeat (first | exact Below.refl _ _ | assumption | refine below_drewN ?_ _ | refine Below.drew ?_ | refine Below.alloc ?_ (by first | exact Nat.le_refl _ | omega | (simp; done) | (simp; omega)) _ | refine Below.setCell ?_ (by first | exact Nat.le_refl _ | (simp; done) | (simp; omega)) _))⟩
      · have hl1 : j + 1 < nw := by omega
        have hl2 : ¬ nw = j + 1 := hlast
        go_wp2_with fail
        go_loopw [52] (fun i w2 => ∃ (m : Nat) (C : Option Addr) (c2 : Nat), m ≤ (nw - (j + 1)) ∧ i = .int .i64 m ∧ Blk w2 (w.heap.size + 1 + 1) 39 #[.slice A j c, .slice C m c2] ∧
          w2.ownsRow wo.heap.size 3 1 (.slice C m c2) m ((nVal ((wl.drop (j + 1)).take m)).map (Value.int .i64)) ∧ wo.grownBy w2 (some (w.heap.size + 1 + 1)) ∧ Hid ((wl.drop (j + 1)).all numOk = ((wl.drop (j + 1)).drop m).all numOk))
        (fun i _ => (nw - (j + 1)) - (intOf i).toNat)
        case atStart => exact ⟨0, none, 0, Nat.zero_le _, rfl, hblk, World.ownsRow_nil _ _ _ _, World.grownBy.refl _ _, rfl⟩
        case round =>
          obtain ⟨m, C, c2, hm, rfl, hblk2, hown2, hgr, hal⟩ := hrel
          by_cases hlt : m < nw - (j + 1)
          · have hjl : j + 1 + m < ws.length := by have := hnw.out; omega
            obtain ⟨x, hx⟩ : ∃ x, x = ws.getD (j + 1 + m) ByteArray.empty := ⟨_, rfl⟩
            have hcx : wr.cell? ⟨w.heap.size + 1, j + 1 + m, none⟩ = some (.string x) := by
              rw [(Blk.grown (hwds1.below hb (by omega)) hgr (by intro e; injection e; omega)).cell, hx]
              simp [List.getElem?_map, List.getElem?_eq_getElem hjl, List.getD_eq_getElem?_getD]
            have hdl : m < (wl.drop (j + 1)).length := by rw [List.length_drop, HWL.out]; omega
            have hdd : (wl.drop (j + 1)).getD m [] = x.data.toList := by
              have h := HAT.out (j + 1 + m)
              rw [← hx] at h
              rw [← h, List.getD_eq_getElem?_getD, List.getD_eq_getElem?_getD, List.getElem?_drop]
            have hwx : (wl.drop (j + 1)).drop m = x.data.toList :: (wl.drop (j + 1)).drop (m + 1) := by
              rw [drop_cons _ _ hdl]
              congr 1
            have htk : (wl.drop (j + 1)).take (m + 1) = (wl.drop (j + 1)).take m ++ [x.data.toList] := by
              rw [List.take_succ_eq_append_getElem hdl]
              congr 2
              rw [← hdd, List.getD_eq_getElem?_getD, List.getElem?_eq_getElem hdl]; rfl
            have hzz : w.heap.size + 3 ≤ wr.heap.size := by have := hgr.size; omega
            have hzo : wo.heap.size ≤ wr.heap.size := hgr.size
            have hbw2 : Below w.heap.size w wr := hbw.trans ⟨hgr.os, hgr.tape, hgr.output, hgr.size, fun q hq => hgr.block q (by omega) (fun e => by injection e; omega)⟩
            have rr := Blk.grown (hres1.below hb (by omega)) hgr (by intro e; injection e; omega)
            have s0 := hblk2.cell 0
            have s1 := hblk2.cell 1
            have s2 := rr.cell 0
            have s3 := rr.cell 1
            have s4 := hblk2.frozen 0
            have s5 := hblk2.frozen 1
            have s6 := rr.frozen 0
            have s7 := rr.frozen 1
            simp at s0 s1 s2 s3
            obtain ⟨nv, hnv⟩ : ∃ nv, nv = numN x.data.toList := ⟨_, rfl⟩
            obtain ⟨nb, hnb⟩ : ∃ nb, nb = numOk x.data.toList := ⟨_, rfl⟩
            have hcall : ∀ W, Calls Tryd.prog 73 #[.string x] W fun e1 w1 => e1 = .returned (.tuple #[.int .i64 nv, .bool nb]) ∧ W = w1 := fun W =>
              (number_any x W).mono fun e1 w1 ⟨he, hw⟩ => ⟨by rw [he, hnv, hnb], hw⟩
            have HCALL := Lib.hid hcall
            have HWX := Lib.hid hwx
            have HTK := Lib.hid htk
            have HNV := Lib.hid hnv
            have HNB := Lib.hid hnb
            clear hcall hx hdd hwx htk hnv hnb c0 c1 r0 r1 fr fr1 fr2 fr3
            cases nb
            · have h4 : er = 4 := by
                have h5 : (wl.drop (j + 1)).all numOk = false := by rw [hal.out, HWX.out, List.all_cons, ← HNB.out]; rfl
                rw [hr.out, HC0.out, h5]; rfl
              have hcs1 : cs = [] := by rw [hcs.out, if_neg (by rw [h4]; decide)]
              have hss1 : ss = [] := by rw [hss.out, if_neg (by rw [h4]; decide)]
              have HCS := Lib.hid hcs1
              have HSS := Lib.hid hss1
              have H4 := Lib.hid h4
              clear hcs1 hss1 h4
              go_wp2_with (go_at_call 73; refine (HCALL.out _).mono ?_; rintro e1 w1 ⟨rfl, rfl⟩)
              refine bodyPost_ret (v := .tuple #[.agg #[.slice none 0 0, .slice none 0 0], .int .i64 4]) (by simp only [results, Tryd.results32]; go_simp) rfl ?_
              rw [HCS.out, HSS.out, H4.out]
              exact ⟨none, none, 0, 0, 0, 0, rfl, Arr.nil_ _ _, Arr.nil_ _ _, (by repeat (first | exact Below.refl _ _ | assumption | refine below_drewN ?_ _ | refine Below.drew ?_ | refine Below.alloc ?_ (by first | exact Nat.le_refl _ | omega | (simp; done) | (simp; omega)) _ | refine Below.setCell ?_ (by first | exact Nat.le_refl _ | (simp; done) | (simp; omega)) _))⟩
            · go_wp2_with (first
                | (go_at_call 73; refine (HCALL.out _).mono ?_; rintro e1 w1 ⟨rfl, rfl⟩)
                | (at_builtin; refine wpList_append_lies _ rfl _ _ 37 rfl wo.heap.size 3 i1 _ 1 8 Tryd.underlying37 HII.out hy0 hy1 hy2 rfl (by decide) (.slice C m c2) m ((nVal ((wl.drop (j + 1)).take m)).map (Value.int .i64)) (by rfl) (hown2.alloc _) ⟨wr.heap.size, 0, none⟩ 1 1 [.int .i64 nv] (by rfl) rfl (news1 _ _ _) (by intro u hu; simp at hu; subst hu; rfl) (by decide) (by unfold maxLen; omega) (by omega) (by simp; omega) (wr.heap.size + 1) (by simp) ?_; intro g cap w2 hown3 hgrow hat hlt3; have hbk3 := Blk.grown (hblk2.alloc _) hgrow (own_ne hown2 (b := w.heap.size + 1 + 1) (by omega)); have g0 := hbk3.cell 1; have g1 := hbk3.frozen 1; simp at g0))
              go_roundw
              case rel =>
                refine ⟨m + 1, some ⟨g, 0, none⟩, cap, by omega, by go_num, ?_, ?_, ?_, ?_⟩
                · have := hbk3.set_ 1 (Value.slice (some ⟨g, 0, none⟩) (m + 1) cap); simpa using this
                · rw [HTK.out, nVal_snoc, ← HNV.out, List.map_append]
                  exact own_far hown3 (p := ⟨w.heap.size + 1 + 1, 1, none⟩) (by show w.heap.size + 1 + 1 < wo.heap.size; omega) _
                · have k1 : wo.grownBy w2 (some (w.heap.size + 1 + 1)) := grow_own hgr hgrow (fun q hq => (hown2.lt q hq).1)
                  exact grow_set k1 _ _
                · show (wl.drop (j + 1)).all numOk = _
                  rw [hal.out, HWX.out, List.all_cons, ← HNB.out, Bool.true_and]
              case measure => simp [intOf]; omega
          have hmm : m = nw - (j + 1) := by omega
          subst hmm
          have hall : (wl.drop (j + 1)).all numOk = true := by rw [hal.out, List.drop_of_length_le (by rw [List.length_drop, HWL.out]; omega)]; rfl
          have htk : (wl.drop (j + 1)).take (nw - (j + 1)) = wl.drop (j + 1) := List.take_of_length_le (by rw [List.length_drop, HWL.out]; omega)
          rw [htk] at hown2
          have here : er = chk (cVal (wl.take j)) (nVal (wl.drop (j + 1))) := by rw [hr.out, HC0.out, hall]; rfl
          have hownA := hown.kept hgr (.inr (fun e => own_ne hown (b := w.heap.size + 1 + 1) (by omega) e.symm))
          have hA2 : Arr wr wr.heap.size 3 A j (cells3 (cVal (wl.take j))) := Arr.of_own hownA
          have hC2 : Arr wr wr.heap.size 1 C (nw - (j + 1)) ((nVal (wl.drop (j + 1))).map (Value.int .i64)) := Arr.of_own hown2
          have hbw2 : Below w.heap.size w wr := hbw.trans ⟨hgr.os, hgr.tape, hgr.output, hgr.size, fun q hq => hgr.block q (by omega) (fun e => by injection e; omega)⟩
          have hzz : w.heap.size + 3 ≤ wr.heap.size := by have := hgr.size; omega
          have c0' := hblk2.cell 0
          have c1' := hblk2.cell 1
          simp at c0' c1'
          have rr := Blk.grown (hres1.below hb (by omega)) hgr (by intro e; injection e; omega)
          have hcall : ∀ W, Below wr.heap.size wr W → Calls Tryd.prog 30 #[.agg #[.slice A j c, .slice C (nw - (j + 1)) c2]] W fun e1 w1 => e1 = .returned (.int .i64 er) ∧ Below wr.heap.size wr w1 := fun W hW =>
            (check_any A C j c (nw - (j + 1)) c2 _ _ W (hA2.up hW) (hC2.up hW)).mono fun e1 w1 ⟨he, hw⟩ => ⟨by rw [he, ← here], hW.trans (hw.mono hW.size)⟩
          have HCALL := Lib.hid hcall
          have HERE := Lib.hid here
          clear hcall here hres1 hwds1 hin1 hall htk
          have harm : ∀ w1, Below wr.heap.size wr w1 → (w1.cell? ⟨w.heap.size + 1 + 1, 0, none⟩ = some (.slice A j c) ∧ w1.cell? ⟨w.heap.size + 1 + 1, 1, none⟩ = some (.slice C (nw - (j + 1)) c2)) ∧ (w1.cell? ⟨w.heap.size, 0, none⟩ = some (.slice none 0 0) ∧ w1.cell? ⟨w.heap.size, 1, none⟩ = some (.slice none 0 0) ∧ w1.frozen? ⟨w.heap.size, 0, none⟩ = false ∧ w1.frozen? ⟨w.heap.size, 1, none⟩ = false) := by
            intro w1 hb3
            have k1 := hblk2.below hb3 (by omega)
            have k2 := rr.below hb3 (by omega)
            have d0 := k1.cell 0
            have d1 := k1.cell 1
            have e0 := k2.cell 0
            have e1 := k2.cell 1
            simp at d0 d1 e0 e1
            exact ⟨⟨d0, d1⟩, e0, e1, k2.frozen 0, k2.frozen 1⟩
          have HARM := Lib.hid harm
          clear harm
          by_cases her : er = 0
          · have hcs1 : cs = cVal (wl.take j) := by rw [hcs.out, if_pos her]
            have hss1 : ss = nVal (wl.drop (j + 1)) := by rw [hss.out, if_pos her]
            rw [← hcs1] at hownA
            rw [← hss1] at hown2
            clear hcs1 hss1 hA2 hC2
            subst her
            go_wp2_with (go_at_call 30; refine (HCALL.out _ ?_).mono ?_; (repeat (first | exact Below.refl _ _ | assumption | refine below_drewN ?_ _ | refine Below.drew ?_ | refine Below.alloc ?_ (by first | exact Nat.le_refl _ | omega | (simp; done) | (simp; omega)) _ | refine Below.setCell ?_ (by first | exact Nat.le_refl _ | (simp; done) | (simp; omega)) _)); rintro e1 w1 ⟨rfl, hb3⟩; obtain ⟨⟨d0, d1⟩, d2, d3, d4, d5⟩ := HARM.out w1 hb3)
            refine bodyPost_ret (v := .tuple #[.agg #[.slice A j c, .slice C (nw - (j + 1)) c2], .int .i64 0]) (by simp only [results, Tryd.results32]; go_simp) rfl ?_
            have hA3 := own_up hownA hb3 (Nat.le_refl _)
            have hC3 := own_up hown2 hb3 (Nat.le_refl _)
            exact ⟨A, C, j, c, (nw - (j + 1)), c2, rfl, Arr.of_own (own_far (own_far hA3 (p := ⟨w.heap.size, 0, none⟩) (by show w.heap.size < _; omega) _) (p := ⟨w.heap.size, 1, none⟩) (by show w.heap.size < _; omega) _),
              Arr.of_own (own_far (own_far hC3 (p := ⟨w.heap.size, 0, none⟩) (by show w.heap.size < _; omega) _) (p := ⟨w.heap.size, 1, none⟩) (by show w.heap.size < _; omega) _),
              ((hbw2.trans (hb3.mono (by omega))).setCell (p := ⟨w.heap.size, 0, none⟩) (Nat.le_refl _) _).setCell (p := ⟨w.heap.size, 1, none⟩) (Nat.le_refl _) _⟩
          · have her1 : (er == 0) = false := by simpa using her
            have hcs1 : cs = [] := by rw [hcs.out, if_neg her]
            have hss1 : ss = [] := by rw [hss.out, if_neg her]
            have HCS := Lib.hid hcs1
            have HSS := Lib.hid hss1
            clear hcs1 hss1 her
            go_wp2_with (go_at_call 30; refine (HCALL.out _ ?_).mono ?_; (repeat (first | exact Below.refl _ _ | assumption | refine below_drewN ?_ _ | refine Below.drew ?_ | refine Below.alloc ?_ (by first | exact Nat.le_refl _ | omega | (simp; done) | (simp; omega)) _ | refine Below.setCell ?_ (by first | exact Nat.le_refl _ | (simp; done) | (simp; omega)) _)); rintro e1 w1 ⟨rfl, hb3⟩; obtain ⟨⟨d0, d1⟩, d2, d3, d4, d5⟩ := HARM.out w1 hb3)
            have hbB := hbw2.trans (hb3.mono (by omega))
            refine bodyPost_ret (v := .tuple #[.agg #[.slice none 0 0, .slice none 0 0], .int .i64 er]) (by simp only [results, Tryd.results32]; go_simp) rfl ?_
            rw [HCS.out, HSS.out]
            exact ⟨none, none, 0, 0, 0, 0, rfl, Arr.nil_ _ _, Arr.nil_ _ _, (by repeat (first | exact Below.refl _ _ | assumption | refine below_drewN ?_ _ | refine Below.drew ?_ | refine Below.alloc ?_ (by first | exact Nat.le_refl _ | omega | (simp; done) | (simp; omega)) _ | refine Below.setCell ?_ (by first | exact Nat.le_refl _ | (simp; done) | (simp; omega)) _))⟩
end Go.Proofs.YtbdhjpdjbogggaaDoor
namespace Go.Proofs.YtbdhjpdjbogggaaDoor
open Go.RowKit

set_option maxHeartbeats 2000000 in
theorem parse_none (s : ByteArray) (ws : List ByteArray) (nw : Nat) (w : World)
    (HS : Hid (∀ W, Below w.heap.size w W → Calls Tryd.prog 70 #[.string s, .string ⟨#[32]⟩] W fun e1 w1 => e1 = .returned (.slice (some ⟨W.heap.size, 0, none⟩) nw nw) ∧ w1 = W.alloc (.cells (ws.map Value.string).toArray 9)))
    (HI : Hid (∀ W b, (∀ j, j < nw → W.cell? ⟨b, j, none⟩ = some (.string (ws.getD j ByteArray.empty))) → Calls Tryd.prog 71 #[.slice (some ⟨b, 0, none⟩) nw nw, .string ⟨#[58]⟩] W fun e1 w1 => e1 = .returned (.int .i64 (-1)) ∧ w1 = W)) (hnw : Hid (nw = ws.length)) :
    Calls Tryd.prog 32 #[.string s] w (InsRet w [] [] 4) := by
  go_enter Tryd.func32, Tryd.ntmps32
  go_wp2_with fail
  refine (HS.out _ ?_).mono ?_
  · (repeat (first | exact Below.refl _ _ | assumption | refine below_drewN ?_ _ | refine Below.drew ?_ | refine Below.alloc ?_ (by first | exact Nat.le_refl _ | omega | (simp; done) | (simp; omega)) _ | refine Below.setCell ?_ (by first | exact Nat.le_refl _ | (simp; done) | (simp; omega)) _))
  rintro e1 w1 ⟨rfl, rfl⟩
  go_wp2_with fail
  refine (HI.out _ _ ?_).mono ?_
  · intro j hj
    have hbk := Blk.new (w.alloc (.cells #[.slice none 0 0, .slice none 0 0] 39)) 9 (ws.map Value.string).toArray
    rw [World.size_alloc] at hbk
    rw [hbk.cell]
    have : j < ws.length := by have := hnw.out; omega
    simp [List.getElem?_map, List.getElem?_eq_getElem this, List.getD_eq_getElem?_getD]
  rintro e1 w1 ⟨rfl, rfl⟩
  go_wp2
  refine bodyPost_ret (v := .tuple #[.agg #[.slice none 0 0, .slice none 0 0], .int .i64 4]) (by simp only [results, Tryd.results32]; go_simp) rfl ?_
  exact ⟨none, none, 0, 0, 0, 0, rfl, Arr.nil_ _ _, Arr.nil_ _ _, (by repeat (first | exact Below.refl _ _ | assumption | refine below_drewN ?_ _ | refine Below.drew ?_ | refine Below.alloc ?_ (by first | exact Nat.le_refl _ | omega | (simp; done) | (simp; omega)) _ | refine Below.setCell ?_ (by first | exact Nat.le_refl _ | (simp; done) | (simp; omega)) _))⟩

theorem parse_any (s : ByteArray) (w : World) (hg : Gnd w) (hs : s.size < 4294967281) :
    Calls Tryd.prog 32 #[.string s] w (InsRet w (psC s.data.toList) (psS s.data.toList) (psE s.data.toList)) := by
  obtain ⟨ws, hws⟩ : ∃ ws, ws = Lib.splitB ⟨#[32]⟩ 0 (Lib.countB s ⟨#[32]⟩) s := ⟨_, rfl⟩
  have hwl : ws.map (·.data.toList) = splitC 32 s.data.toList := by rw [hws]; exact split_eq 32 s
  have hlen : ws.length = Lib.countB s ⟨#[32]⟩ + 1 := by rw [hws]; exact Lib.splitB_all ⟨#[32]⟩ (by decide) 0 _ s rfl
  have hlen2 : ws.length = (splitC 32 s.data.toList).length := by rw [← hwl, List.length_map]
  have hbig : ws.length ≤ 4294967296 := by have := splitC_len 32 s.data.toList; rw [sz_of] at this; omega
  obtain ⟨m, hm⟩ := hg.ml
  have h2 : 2 < w.heap.size := by have := hg.sz; omega
  have HS : ∀ W, Below w.heap.size w W → Calls Tryd.prog 70 #[.string s, .string ⟨#[32]⟩] W fun e1 w1 => e1 = .returned (.slice (some ⟨W.heap.size, 0, none⟩) ws.length ws.length) ∧ w1 = W.alloc (.cells (ws.map Value.string).toArray 9) := fun W hW =>
    (Tryd.strings_Split s ⟨#[32]⟩ m W hs ((hW.cell (p := ⟨2, 0, none⟩) h2).trans hm) (by decide)).mono fun e1 w1 ⟨he, hw⟩ => ⟨by rw [he, hlen], by rw [hw, hws]⟩
  have hsz : ∀ x ∈ ws, x.size < 4294967281 := by
    intro x hx
    have h := splitC_part 32 s.data.toList x.data.toList (by rw [← hwl]; exact List.mem_map_of_mem hx)
    rw [sz_of, sz_of] at h
    omega
  have HI : ∀ W b, (∀ j, j < ws.length → W.cell? ⟨b, j, none⟩ = some (.string (ws.getD j ByteArray.empty))) → Calls Tryd.prog 71 #[.slice (some ⟨b, 0, none⟩) ws.length ws.length, .string ⟨#[58]⟩] W fun e1 w1 => e1 = .returned (.int .i64 (Lib.idxOfS ws ⟨#[58]⟩)) ∧ w1 = W := fun W b hc =>
    (Tryd.slices_Index_string b 0 ws.length ws.length ws ⟨#[58]⟩ W (Nat.le_refl _) (by omega) (by simpa using hc)).mono fun e1 w1 ⟨he, hw⟩ => ⟨by rw [he, List.take_length], hw⟩
  have hix := idxOfS_eq ⟨#[58]⟩ ws
  rw [hwl] at hix
  have e58 : (⟨#[58]⟩ : ByteArray).data.toList = [58] := rfl
  rw [e58] at hix
  have hle := ixOf_le [58] (splitC 32 s.data.toList)
  by_cases hk : ixOf [58] (splitC 32 s.data.toList) < ws.length
  · rw [if_pos hk] at hix
    rw [hix] at HI
    have hE : psE s.data.toList = if cErr ((splitC 32 s.data.toList).take (ixOf [58] (splitC 32 s.data.toList))) ≠ 0 then cErr ((splitC 32 s.data.toList).take (ixOf [58] (splitC 32 s.data.toList)))
        else if ((splitC 32 s.data.toList).drop (ixOf [58] (splitC 32 s.data.toList) + 1)).all numOk = false then 4 else chk (cVal ((splitC 32 s.data.toList).take (ixOf [58] (splitC 32 s.data.toList)))) (nVal ((splitC 32 s.data.toList).drop (ixOf [58] (splitC 32 s.data.toList) + 1))) := by
      rw [psE, wsE, if_neg (by omega)]
    exact parse_main s ws _ _ w hg rfl hk hbig hsz HS HI _ hwl.symm _ _ _ hE rfl rfl
  · rw [if_neg hk] at hix
    rw [hix] at HI
    have hE : psE s.data.toList = 4 := by rw [psE, wsE, if_pos (by omega)]
    have hC : psC s.data.toList = [] := by rw [psC, if_neg (by rw [hE]; decide)]
    have hS : psS s.data.toList = [] := by rw [psS, if_neg (by rw [hE]; decide)]
    rw [hC, hS, hE]
    exact parse_none s ws _ w HS HI rfl
end Go.Proofs.YtbdhjpdjbogggaaDoor
namespace Go.Proofs.YtbdhjpdjbogggaaDoor
open Go.RowKit

def stdNames : List (List UInt8) := [[108, 117, 116, 101, 54], [108, 117, 116, 101, 55], [108, 117, 116, 101, 49, 48], [98, 97, 114, 111, 113, 117, 101, 49, 51], [116, 104, 101, 111, 114, 98, 111, 49, 52], [118, 105, 104, 117, 101, 108, 97, 54], [103, 117, 105, 116, 97, 114, 52], [103, 117, 105, 116, 97, 114, 53], [99, 105, 116, 116, 101, 114, 110, 52]]
def stdTexts : List (List UInt8) := [
  [71, 52, 47, 56, 32, 68, 52, 47, 56, 32, 65, 51, 47, 56, 32, 70, 51, 47, 56, 43, 32, 67, 51, 47, 56, 43, 32, 71, 50, 47, 56, 43, 32, 58, 32, 49, 32, 50, 32, 51, 32, 52, 32, 53, 32, 54, 32, 55, 32, 56],
  [71, 52, 47, 56, 32, 68, 52, 47, 56, 32, 65, 51, 47, 56, 32, 70, 51, 47, 56, 43, 32, 67, 51, 47, 56, 43, 32, 71, 50, 47, 56, 43, 32, 68, 50, 47, 56, 43, 32, 58, 32, 49, 32, 50, 32, 51, 32, 52, 32, 53, 32, 54, 32, 55, 32, 56],
  [71, 52, 47, 56, 32, 68, 52, 47, 56, 32, 65, 51, 47, 56, 32, 70, 51, 47, 56, 32, 67, 51, 47, 56, 43, 32, 71, 50, 47, 56, 43, 32, 70, 50, 47, 56, 43, 32, 69, 98, 50, 47, 56, 43, 32, 68, 50, 47, 56, 43, 32, 67, 50, 47, 56, 43, 32, 58, 32, 49, 32, 50, 32, 51, 32, 52, 32, 53, 32, 54, 32, 55, 32, 56],
  [70, 52, 47, 57, 32, 68, 52, 47, 57, 32, 65, 51, 47, 57, 32, 70, 51, 47, 57, 32, 68, 51, 47, 57, 32, 65, 50, 47, 57, 43, 32, 71, 50, 47, 57, 43, 32, 70, 50, 47, 57, 43, 32, 69, 50, 47, 48, 43, 32, 68, 50, 47, 48, 43, 32, 67, 50, 47, 48, 43, 32, 66, 49, 47, 48, 43, 32, 65, 49, 47, 48, 43, 32, 58, 32, 49, 32, 50, 32, 51, 32, 52, 32, 53, 32, 54, 32, 55, 32, 56, 32, 57],
  [65, 51, 47, 56, 32, 69, 51, 47, 56, 32, 66, 51, 47, 56, 32, 71, 51, 47, 56, 32, 68, 51, 47, 56, 32, 65, 50, 47, 56, 32, 71, 50, 47, 48, 32, 70, 50, 47, 48, 32, 69, 50, 47, 48, 32, 68, 50, 47, 48, 32, 67, 50, 47, 48, 32, 66, 49, 47, 48, 32, 65, 49, 47, 48, 32, 71, 49, 47, 48, 32, 58, 32, 49, 32, 50, 32, 51, 32, 52, 32, 53, 32, 54, 32, 55, 32, 56],
  [71, 52, 47, 49, 48, 32, 68, 52, 47, 49, 48, 32, 65, 51, 47, 49, 48, 32, 70, 51, 47, 49, 48, 32, 67, 51, 47, 49, 48, 32, 71, 50, 47, 49, 48, 32, 58, 32, 49, 32, 50, 32, 51, 32, 52, 32, 53, 32, 54, 32, 55, 32, 56, 32, 57, 32, 49, 48],
  [65, 52, 47, 56, 32, 69, 52, 47, 56, 32, 67, 52, 47, 56, 32, 71, 51, 47, 56, 43, 32, 58, 32, 49, 32, 50, 32, 51, 32, 52, 32, 53, 32, 54, 32, 55, 32, 56],
  [69, 52, 47, 56, 32, 66, 51, 47, 56, 32, 71, 51, 47, 56, 32, 68, 52, 47, 56, 32, 65, 51, 47, 56, 32, 58, 32, 49, 32, 50, 32, 51, 32, 52, 32, 53, 32, 54, 32, 55, 32, 56],
  [69, 52, 47, 57, 32, 68, 52, 47, 57, 32, 71, 51, 47, 57, 32, 66, 51, 47, 57, 32, 58, 32, 50, 32, 51, 32, 52, 32, 53, 32, 55, 32, 57, 32, 49, 48, 32, 49, 49, 32, 49, 50]]
def strV (l : List UInt8) : Value := .string ⟨l.toArray⟩
def stdV : Value := .agg #[
  .string ⟨#[108, 117, 116, 101, 54]⟩,
  .string ⟨#[71, 52, 47, 56, 32, 68, 52, 47, 56, 32, 65, 51, 47, 56, 32, 70, 51, 47, 56, 43, 32, 67, 51, 47, 56, 43, 32, 71, 50, 47, 56, 43, 32, 58, 32, 49, 32, 50, 32, 51, 32, 52, 32, 53, 32, 54, 32, 55, 32, 56]⟩,
  .string ⟨#[108, 117, 116, 101, 55]⟩,
  .string ⟨#[71, 52, 47, 56, 32, 68, 52, 47, 56, 32, 65, 51, 47, 56, 32, 70, 51, 47, 56, 43, 32, 67, 51, 47, 56, 43, 32, 71, 50, 47, 56, 43, 32, 68, 50, 47, 56, 43, 32, 58, 32, 49, 32, 50, 32, 51, 32, 52, 32, 53, 32, 54, 32, 55, 32, 56]⟩,
  .string ⟨#[108, 117, 116, 101, 49, 48]⟩,
  .string ⟨#[71, 52, 47, 56, 32, 68, 52, 47, 56, 32, 65, 51, 47, 56, 32, 70, 51, 47, 56, 32, 67, 51, 47, 56, 43, 32, 71, 50, 47, 56, 43, 32, 70, 50, 47, 56, 43, 32, 69, 98, 50, 47, 56, 43, 32, 68, 50, 47, 56, 43, 32, 67, 50, 47, 56, 43, 32, 58, 32, 49, 32, 50, 32, 51, 32, 52, 32, 53, 32, 54, 32, 55, 32, 56]⟩,
  .string ⟨#[98, 97, 114, 111, 113, 117, 101, 49, 51]⟩,
  .string ⟨#[70, 52, 47, 57, 32, 68, 52, 47, 57, 32, 65, 51, 47, 57, 32, 70, 51, 47, 57, 32, 68, 51, 47, 57, 32, 65, 50, 47, 57, 43, 32, 71, 50, 47, 57, 43, 32, 70, 50, 47, 57, 43, 32, 69, 50, 47, 48, 43, 32, 68, 50, 47, 48, 43, 32, 67, 50, 47, 48, 43, 32, 66, 49, 47, 48, 43, 32, 65, 49, 47, 48, 43, 32, 58, 32, 49, 32, 50, 32, 51, 32, 52, 32, 53, 32, 54, 32, 55, 32, 56, 32, 57]⟩,
  .string ⟨#[116, 104, 101, 111, 114, 98, 111, 49, 52]⟩,
  .string ⟨#[65, 51, 47, 56, 32, 69, 51, 47, 56, 32, 66, 51, 47, 56, 32, 71, 51, 47, 56, 32, 68, 51, 47, 56, 32, 65, 50, 47, 56, 32, 71, 50, 47, 48, 32, 70, 50, 47, 48, 32, 69, 50, 47, 48, 32, 68, 50, 47, 48, 32, 67, 50, 47, 48, 32, 66, 49, 47, 48, 32, 65, 49, 47, 48, 32, 71, 49, 47, 48, 32, 58, 32, 49, 32, 50, 32, 51, 32, 52, 32, 53, 32, 54, 32, 55, 32, 56]⟩,
  .string ⟨#[118, 105, 104, 117, 101, 108, 97, 54]⟩,
  .string ⟨#[71, 52, 47, 49, 48, 32, 68, 52, 47, 49, 48, 32, 65, 51, 47, 49, 48, 32, 70, 51, 47, 49, 48, 32, 67, 51, 47, 49, 48, 32, 71, 50, 47, 49, 48, 32, 58, 32, 49, 32, 50, 32, 51, 32, 52, 32, 53, 32, 54, 32, 55, 32, 56, 32, 57, 32, 49, 48]⟩,
  .string ⟨#[103, 117, 105, 116, 97, 114, 52]⟩,
  .string ⟨#[65, 52, 47, 56, 32, 69, 52, 47, 56, 32, 67, 52, 47, 56, 32, 71, 51, 47, 56, 43, 32, 58, 32, 49, 32, 50, 32, 51, 32, 52, 32, 53, 32, 54, 32, 55, 32, 56]⟩,
  .string ⟨#[103, 117, 105, 116, 97, 114, 53]⟩,
  .string ⟨#[69, 52, 47, 56, 32, 66, 51, 47, 56, 32, 71, 51, 47, 56, 32, 68, 52, 47, 56, 32, 65, 51, 47, 56, 32, 58, 32, 49, 32, 50, 32, 51, 32, 52, 32, 53, 32, 54, 32, 55, 32, 56]⟩,
  .string ⟨#[99, 105, 116, 116, 101, 114, 110, 52]⟩,
  .string ⟨#[69, 52, 47, 57, 32, 68, 52, 47, 57, 32, 71, 51, 47, 57, 32, 66, 51, 47, 57, 32, 58, 32, 50, 32, 51, 32, 52, 32, 53, 32, 55, 32, 57, 32, 49, 48, 32, 49, 49, 32, 49, 50]⟩]

set_option maxHeartbeats 4000000 in
set_option maxRecDepth 100000 in
theorem std_code (a0 a1 a2 a3 a4 a5 a6 a7 a8 a9 a10 a11 a12 a13 a14 a15 a16 a17 : ByteArray) (w : World) : Code.wp Tryd.prog
    ((Code.region 0 #[{ dst := some 0, op := Op.alloc 94, type := 0, pos := "instrument.go:33", after := #[], guard := none }] false).seq
      ((Code.region 1 #[
        { dst := some 1, op := Op.build 93 #[(0, (Operand.const (Value.string a0))), (1, (Operand.const (Value.string a1)))], type := 93, pos := "instrument.go:34", after := #[], guard := none },
        { dst := some 2, op := Op.build 93 #[(0, (Operand.const (Value.string a2))), (1, (Operand.const (Value.string a3)))], type := 93, pos := "instrument.go:34", after := #[], guard := none },
        { dst := some 3, op := Op.build 93 #[(0, (Operand.const (Value.string a4))), (1, (Operand.const (Value.string a5)))], type := 93, pos := "instrument.go:34", after := #[], guard := none },
        { dst := some 4, op := Op.build 93 #[(0, (Operand.const (Value.string a6))), (1, (Operand.const (Value.string a7)))], type := 93, pos := "instrument.go:34", after := #[], guard := none },
        { dst := some 5, op := Op.build 93 #[(0, (Operand.const (Value.string a8))), (1, (Operand.const (Value.string a9)))], type := 93, pos := "instrument.go:34", after := #[], guard := none },
        { dst := some 6, op := Op.build 93 #[(0, (Operand.const (Value.string a10))), (1, (Operand.const (Value.string a11)))], type := 93, pos := "instrument.go:34", after := #[], guard := none },
        { dst := some 7, op := Op.build 93 #[(0, (Operand.const (Value.string a12))), (1, (Operand.const (Value.string a13)))], type := 93, pos := "instrument.go:34", after := #[], guard := none },
        { dst := some 8, op := Op.build 93 #[(0, (Operand.const (Value.string a14))), (1, (Operand.const (Value.string a15)))], type := 93, pos := "instrument.go:34", after := #[], guard := none },
        { dst := some 9, op := Op.build 93 #[(0, (Operand.const (Value.string a16))), (1, (Operand.const (Value.string a17)))], type := 93, pos := "instrument.go:34", after := #[], guard := none },
        { dst := some 10, op := Op.build 94 #[(0, Operand.tmp 1), (1, Operand.tmp 2), (2, Operand.tmp 3), (3, Operand.tmp 4), (4, Operand.tmp 5), (5, Operand.tmp 6), (6, Operand.tmp 7), (7, Operand.tmp 8), (8, Operand.tmp 9)], type := 94, pos := "instrument.go:34", after := #[{ on := 0, ground := Ground.data }, { on := 1, ground := Ground.data }, { on := 2, ground := Ground.data }, { on := 3, ground := Ground.data }, { on := 4, ground := Ground.data }, { on := 5, ground := Ground.data }, { on := 6, ground := Ground.data }, { on := 7, ground := Ground.data }, { on := 8, ground := Ground.data }], guard := none }, { dst := none, op := Op.store 94 (Operand.tmp 0) (Operand.tmp 10), type := 0, pos := "instrument.go:34", after := #[{ on := 9, ground := Ground.data }, { on := 0, ground := Ground.phase }, { on := 1, ground := Ground.phase }, { on := 2, ground := Ground.phase }, { on := 3, ground := Ground.phase }, { on := 4, ground := Ground.phase }, { on := 5, ground := Ground.phase }, { on := 6, ground := Ground.phase }, { on := 7, ground := Ground.phase }, { on := 8, ground := Ground.phase }, { on := 9, ground := Ground.phase }], guard := none }] false).seq Code.ret))
    (bodyPost Tryd.prog Tryd.f78 fun e w' => e = Ending.returned (.agg #[.string a0, .string a1, .string a2, .string a3, .string a4, .string a5, .string a6, .string a7, .string a8, .string a9, .string a10, .string a11, .string a12, .string a13, .string a14, .string a15, .string a16, .string a17]) ∧ Below w.heap.size w w')
    { tmps := #[undef, undef, undef, undef, undef, undef, undef, undef, undef, undef, undef], defers := [] } w := by
  iterate 41 go_step
  refine wpList_store_row ?_ 94 (.tmp 0) (.tmp 10) ?_ w.heap.size #[.string a0, .string a1, .string a2, .string a3, .string a4, .string a5, .string a6, .string a7, .string a8, .string a9, .string a10, .string a11, .string a12, .string a13, .string a14, .string a15, .string a16, .string a17] ?_ ?_ 94 #[.string ⟨#[]⟩, .string ⟨#[]⟩, .string ⟨#[]⟩, .string ⟨#[]⟩, .string ⟨#[]⟩, .string ⟨#[]⟩, .string ⟨#[]⟩, .string ⟨#[]⟩, .string ⟨#[]⟩, .string ⟨#[]⟩, .string ⟨#[]⟩, .string ⟨#[]⟩, .string ⟨#[]⟩, .string ⟨#[]⟩, .string ⟨#[]⟩, .string ⟨#[]⟩, .string ⟨#[]⟩, .string ⟨#[]⟩] (heap_alloc_new _ _) ?_ ?_ ?_ ?_
  · rfl
  · rfl
  · rfl
  · rfl
  · kernel_rfl
  · rfl
  · simp [Value.oneCell']
  rw [World.setRow_alloc_new]
  refine wpList_nil ?_
  go_step
  go_step
  go_step
  refine bodyPost_ret (v := (.agg #[.string a0, .string a1, .string a2, .string a3, .string a4, .string a5, .string a6, .string a7, .string a8, .string a9, .string a10, .string a11, .string a12, .string a13, .string a14, .string a15, .string a16, .string a17])) ?_ rfl ⟨rfl, (by repeat (first | exact Below.refl _ _ | assumption | refine below_drewN ?_ _ | refine Below.drew ?_ | refine Below.alloc ?_ (by first | exact Nat.le_refl _ | omega | (simp; done) | (simp; omega)) _ | refine Below.setCell ?_ (by first | exact Nat.le_refl _ | (simp; done) | (simp; omega)) _))⟩
  refine results_cell_row (d := _) rfl _ _ w.heap.size 94 _ _ rfl (heap_alloc_new _ _) rfl rfl (by kernel_rfl)

theorem standards_any (w : World) : Calls Tryd.prog 78 #[] w fun e w' => e = .returned stdV ∧ Below w.heap.size w w' := by
  go_enter Tryd.func78, Tryd.ntmps78
  exact std_code _ _ _ _ _ _ _ _ _ _ _ _ _ _ _ _ _ _ w
end Go.Proofs.YtbdhjpdjbogggaaDoor
namespace Go.Proofs.YtbdhjpdjbogggaaDoor
open Go.RowKit

theorem Arr.set_slice {w : World} {B size n : Nat} {A : Option Addr} {xs : List Value} (h : Arr w B size A n xs) (hx : ∀ u ∈ xs, ∀ a k c, u ≠ .slice a k c)
    {q o : Nat} {a : Option Addr} {k c : Nat} (hs : w.cell? ⟨q, o, none⟩ = some (.slice a k c)) (v : Value) : Arr (w.setCell ⟨q, o, none⟩ v) B size A n xs :=
  ⟨h.1, fun hn => by
    obtain ⟨b, o2, e, hlt, hc⟩ := h.2 hn
    refine ⟨b, o2, e, hlt, fun j u hu => ?_⟩
    have h1 := hc j u hu
    rw [World.cell?_setCell_other _ _ _ _ (fun e2 => by
      rw [← e2, hs] at h1
      exact hx u (List.mem_of_getElem? hu) a k c (Option.some.inj h1).symm), h1]⟩

theorem cells3_noslice (cs : List Crs) : ∀ u ∈ cells3 cs, ∀ a k c, u ≠ .slice a k c := by
  intro u hu a k c e
  subst e
  simp [cells3] at hu
  obtain ⟨x, _, hx⟩ := hu
  simp [Crs.cells] at hx
theorem ints_noslice (ss : List Int) : ∀ u ∈ ss.map (Value.int .i64), ∀ a k c, u ≠ .slice a k c := by
  intro u hu a k c e
  subst e
  simp at hu

def nmB (i : Nat) : ByteArray := ⟨(stdNames.getD i []).toArray⟩
def txB (i : Nat) : ByteArray := ⟨(stdTexts.getD i []).toArray⟩

set_option maxRecDepth 100000 in
theorem std_index (i : Nat) (hi : i < 9) (w : World) : (Instr.index 94 stdV (.int .i64 (i : Int))).run Tryd.prog w = .ok (.agg #[.string (nmB i), .string (txB i)]) w := by
  have h : i = 0 ∨ i = 1 ∨ i = 2 ∨ i = 3 ∨ i = 4 ∨ i = 5 ∨ i = 6 ∨ i = 7 ∨ i = 8 := by omega
  clear hi
  rcases h with rfl | rfl | rfl | rfl | rfl | rfl | rfl | rfl | rfl
  all_goals rfl

/-- The index of a name among the standard ones (9: none). -/
def stI (t : List UInt8) : Nat := stdNames.findIdx (fun x => decide (x = t))
def stC (t : List UInt8) : List Crs := if stI t < 9 then psC (stdTexts.getD (stI t) []) else []
def stS (t : List UInt8) : List Int := if stI t < 9 then psS (stdTexts.getD (stI t) []) else []
def stE (t : List UInt8) : Int := if stI t < 9 then psE (stdTexts.getD (stI t) []) else 3

theorem nmB_ne {t : List UInt8} {i : Nat} (h9 : stI t < 9) (hi : i = stI t) : (nmB i).data.toList = t := by
  subst hi
  have h := List.findIdx_getElem (p := fun x => decide (x = t)) (xs := stdNames) (w := by exact h9)
  unfold nmB
  rw [List.getD_eq_getElem?_getD, List.getElem?_eq_getElem (by exact h9)]
  exact of_decide_eq_true h
theorem nmB_before {t : List UInt8} {i : Nat} (hi : i < stI t) (h9 : i < 9) : (nmB i).data.toList ≠ t := by
  have h := List.not_of_lt_findIdx (p := fun x => decide (x = t)) (xs := stdNames) (i := i) (by exact hi)
  unfold nmB
  rw [List.getD_eq_getElem?_getD, List.getElem?_eq_getElem (by exact h9)]
  have h2 := of_decide_eq_false h
  exact h2
theorem stI_le (t : List UInt8) : stI t ≤ 9 := List.findIdx_le_length
theorem txB_size (i : Nat) : (txB i).size < 4294967281 := by
  by_cases h9 : i < 9
  · have h : i = 0 ∨ i = 1 ∨ i = 2 ∨ i = 3 ∨ i = 4 ∨ i = 5 ∨ i = 6 ∨ i = 7 ∨ i = 8 := by omega
    rcases h with rfl | rfl | rfl | rfl | rfl | rfl | rfl | rfl | rfl <;> decide
  · unfold txB
    rw [List.getD_eq_getElem?_getD, List.getElem?_eq_none (by have : stdTexts.length = 9 := rfl; omega)]
    decide

set_option maxHeartbeats 4000000 in
set_option maxRecDepth 20000 in
theorem standard_any (nm : ByteArray) (w : World) (hg : Gnd w) : Calls Tryd.prog 37 #[.string nm] w (InsRet w (stC nm.data.toList) (stS nm.data.toList) (stE nm.data.toList)) := by
  have hle := stI_le nm.data.toList
  obtain ⟨q, hq⟩ : ∃ q, q = stI nm.data.toList := ⟨_, rfl⟩
  rw [← hq] at hle
  have hcall : ∀ W, Below w.heap.size w W → Calls Tryd.prog 32 #[.string (txB q)] W (InsRet W (psC (stdTexts.getD q [])) (psS (stdTexts.getD q [])) (psE (stdTexts.getD q []))) := fun W hW => by
    have h := parse_any (txB q) W (hg.up hW) (txB_size q)
    simpa [txB] using h
  obtain ⟨pc, hpc⟩ : ∃ pc, pc = psC (stdTexts.getD q []) := ⟨_, rfl⟩
  obtain ⟨ps, hps⟩ : ∃ ps, ps = psS (stdTexts.getD q []) := ⟨_, rfl⟩
  obtain ⟨pe, hpe⟩ : ∃ pe, pe = psE (stdTexts.getD q []) := ⟨_, rfl⟩
  rw [← hpc, ← hps, ← hpe] at hcall
  have HPC := Lib.hid hpc
  have HPS := Lib.hid hps
  have HPE := Lib.hid hpe
  have HCALL := Lib.hid hcall
  have HQ := Lib.hid hq
  clear hcall hg hq hpc hps hpe
  go_enter Tryd.func37, Tryd.ntmps37
  go_wp2_with (first | (go_at_call 78; refine (standards_any _).mono ?_; rintro e1 w1 ⟨rfl, hb1⟩; have hz1 := hb1.size; (try simp at hz1); have hc1 := (bcell hb1).1; have hf1 := (bcell hb1).2))
  rw [World.size_alloc] at hb1 hc1 hf1
  have hb1' := below_box hb1
  have d0 : w1.cell? ⟨w.heap.size, 0, none⟩ = some (.slice none 0 0) := by rw [hc1 _ _ (by simp)]; simp [go_sem]
  have d1 : w1.cell? ⟨w.heap.size, 1, none⟩ = some (.slice none 0 0) := by rw [hc1 _ _ (by simp)]; simp [go_sem]
  have f0 : w1.frozen? ⟨w.heap.size, 0, none⟩ = false := by rw [hf1 _ _ (by simp)]; simp [go_sem]
  have f1 : w1.frozen? ⟨w.heap.size, 1, none⟩ = false := by rw [hf1 _ _ (by simp)]; simp [go_sem]
  clear hc1 hf1 hb1
  go_loopw [7] (fun i wr => ∃ k : Nat, k ≤ q ∧ i = .int .i64 k ∧ Below w1.heap.size w1 wr)
    (fun i _ => 10 - (intOf i).toNat)
  case atStart => exact ⟨0, Nat.zero_le _, rfl, Below.refl _ _⟩
  case round =>
    obtain ⟨k, hk, rfl, hb⟩ := hrel
    have hbs := hb.size
    have e0 := ((bcell hb).1 w.heap.size 0 (by omega)).trans d0
    have e1 := ((bcell hb).1 w.heap.size 1 (by omega)).trans d1
    have g0 := ((bcell hb).2 w.heap.size 0 (by omega)).trans f0
    have g1 := ((bcell hb).2 w.heap.size 1 (by omega)).trans f1
    clear d0 d1 f0 f1
    by_cases h9 : k = 9
    · subst h9
      have hqq : q = 9 := by omega
      have HQ9 := Lib.hid hqq
      clear hqq
      go_wp2
      refine bodyPost_ret (v := .tuple #[.agg #[.slice none 0 0, .slice none 0 0], .int .i64 3]) (by simp only [results, Tryd.results37]; go_simp) rfl ?_
      rw [stC, stS, stE, ← HQ.out, HQ9.out]
      refine ⟨none, none, 0, 0, 0, 0, rfl, Arr.nil_ _ _, Arr.nil_ _ _, ?_⟩
      refine Below.trans (hb1'.trans (hb.mono (by omega))) ?_
      (repeat (first | exact Below.refl _ _ | assumption | refine below_drewN ?_ _ | refine Below.drew ?_ | refine Below.alloc ?_ (by first | exact Nat.le_refl _ | omega | (simp; done) | (simp; omega)) _ | refine Below.setCell ?_ (by first | exact Nat.le_refl _ | (simp; done) | (simp; omega)) _))
    · have hk9 : k < 9 := by omega
      have hix := std_index k hk9
      obtain ⟨x, hx⟩ : ∃ x, x = nmB k := ⟨_, rfl⟩
      obtain ⟨y, hy⟩ : ∃ y, y = txB k := ⟨_, rfl⟩
      rw [← hx, ← hy] at hix
      have HX := Lib.hid hx
      have HY := Lib.hid hy
      clear hx hy h9
      by_cases hqk : k = q
      · have hxn : x = nm := by
          have h := nmB_ne (t := nm.data.toList) (i := k) (by rw [← HQ.out]; omega) (by rw [← HQ.out]; exact hqk)
          rw [HX.out]
          exact ByteArray.ext (Array.toList_inj.1 h)
        have hyt : y = txB q := by rw [HY.out, hqk]
        subst hxn
        subst hyt
        have hbw : Below w.heap.size w wr := hb1'.trans (hb.mono (by omega))
        have hq9 : q < 9 := by omega
        have HQK := Lib.hid hqk
        clear hqk
        go_wp2_with (first | (go_at_call 32; refine (HCALL.out _ ?_).mono ?_; (repeat (first | exact Below.refl _ _ | assumption | refine below_drewN ?_ _ | refine Below.drew ?_ | refine Below.alloc ?_ (by first | exact Nat.le_refl _ | omega | (simp; done) | (simp; omega)) _ | refine Below.setCell ?_ (by first | exact Nat.le_refl _ | (simp; done) | (simp; omega)) _)); rintro e2 w2 ⟨A, C, n1, c1, n2, c2, rfl, hA, hC, hb3⟩; rw [World.size_alloc] at hb3; have hz3 := hb3.size; (try simp at hz3); have i0 := ((bcell hb3).1 w.heap.size 0 (by omega)).trans ((World.cell?_alloc_lt _ _ _ (by show w.heap.size < wr.heap.size; omega)).trans e0); have i1 := ((bcell hb3).1 w.heap.size 1 (by omega)).trans ((World.cell?_alloc_lt _ _ _ (by show w.heap.size < wr.heap.size; omega)).trans e1); have j0 := ((bcell hb3).2 w.heap.size 0 (by omega)).trans ((World.frozen?_alloc_past _ _ _ (by show w.heap.size < wr.heap.size; omega)).trans g0); have j1 := ((bcell hb3).2 w.heap.size 1 (by omega)).trans ((World.frozen?_alloc_past _ _ _ (by show w.heap.size < wr.heap.size; omega)).trans g1)))
        refine bodyPost_ret (v := .tuple #[.agg #[.slice A n1 c1, .slice C n2 c2], .int .i64 pe]) (by simp only [results, Tryd.results37]; go_simp) rfl ?_
        rw [stC, stS, stE, ← HQ.out, if_pos (by omega), if_pos (by omega), if_pos (by omega), ← HPC.out, ← HPS.out, ← HPE.out]
        have hi1 : (w2.setCell ⟨w.heap.size, 0, none⟩ (.slice A n1 c1)).cell? ⟨w.heap.size, 1, none⟩ = some (.slice none 0 0) := by
          exact (World.cell?_setCell_other _ _ _ _ (by simp)).trans i1
        refine ⟨A, C, n1, c1, n2, c2, rfl, ?_, ?_, ?_⟩
        · rw [World.size_setCell, World.size_setCell]
          exact (hA.set_slice (cells3_noslice pc) i0 _).set_slice (cells3_noslice pc) hi1 _
        · rw [World.size_setCell, World.size_setCell]
          exact (hC.set_slice (ints_noslice ps) i0 _).set_slice (ints_noslice ps) hi1 _
        · have hb4 : Below w.heap.size w w2 := (hbw.alloc (hbw.size) _).trans (hb3.mono (by omega))
          (repeat (first | exact Below.refl _ _ | assumption | refine below_drewN ?_ _ | refine Below.drew ?_ | refine Below.alloc ?_ (by first | exact Nat.le_refl _ | omega | (simp; done) | (simp; omega)) _ | refine Below.setCell ?_ (by first | exact Nat.le_refl _ | (simp; done) | (simp; omega)) _))
      · have hne : (x.toList == nm.toList) = false := by
          have h := nmB_before (t := nm.data.toList) (i := k) (by rw [← HQ.out]; omega) hk9
          rw [ByteArray.toList_eq, ByteArray.toList_eq, HX.out]
          exact beq_eq_false_iff_ne.2 h
        go_wp2
        go_roundw
        case rel => exact ⟨k + 1, by omega, by go_num, hb.alloc hb.size _⟩
        case measure => simp [intOf]; omega
end Go.Proofs.YtbdhjpdjbogggaaDoor
namespace Go.Proofs.YtbdhjpdjbogggaaDoor
open Go.RowKit

def luteC : List Crs := [⟨67, 8, false⟩, ⟨62, 8, false⟩, ⟨57, 8, false⟩, ⟨53, 8, true⟩, ⟨48, 8, true⟩, ⟨43, 8, true⟩]
def luteS : List Int := [1, 2, 3, 4, 5, 6, 7, 8]
def luteT : List UInt8 := [108, 117, 116, 101, 54]
theorem lute_e : stE luteT = 0 := by decide +kernel
theorem lute_c : stC luteT = luteC := by decide +kernel
theorem lute_s : stS luteT = luteS := by decide +kernel

theorem std_lute (w : World) (hg : Gnd w) : Calls Tryd.prog 37 #[.string ⟨#[108, 117, 116, 101, 54]⟩] w (InsRet w luteC luteS 0) := by
  have h := standard_any ⟨luteT.toArray⟩ w hg
  rw [show (⟨luteT.toArray⟩ : ByteArray).data.toList = luteT from rfl, lute_e, lute_c, lute_s] at h
  exact h
end Go.Proofs.YtbdhjpdjbogggaaDoor
