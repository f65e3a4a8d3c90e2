/- Walks: course. -/
import Derived.Test.YtbdhjpdjbogggaaDoorW6
namespace Go.Proofs.YtbdhjpdjbogggaaDoor
open Go.RowKit

def crsZ : Crs := ⟨0, 0, false⟩
/-- The word of a course: the error, and the course. -/
def crsOf (t : List UInt8) : Int × Crs :=
  if (Lib.cut t [47]).2.2 = false then (4, crsZ)
  else if pnE (Lib.cut t [47]).1 = 4 then (4, crsZ)
  else if numOk (Lib.trimSuffix (Lib.cut t [47]).2.1 [43]) = false then (4, crsZ)
  else if pnE (Lib.cut t [47]).1 ≠ 0 then (pnE (Lib.cut t [47]).1, crsZ)
  else (0, ⟨pit (pnV (Lib.cut t [47]).1).1 (pnV (Lib.cut t [47]).1).2.1 (pnV (Lib.cut t [47]).1).2.2, numN (Lib.trimSuffix (Lib.cut t [47]).2.1 [43]), Lib.hasSuffix (Lib.cut t [47]).2.1 [43]⟩)

set_option maxHeartbeats 8000000 in
theorem course_out (s nm rs dg : ByteArray) (fd oc ok : Bool) (l a o e n : Int) (w : World) (m : Int) (hml : w.cell? ⟨2, 0, none⟩ = some (.int .i64 m)) (h2 : 2 < w.heap.size)
    (HC : Hid (∀ W, W.cell? ⟨2, 0, none⟩ = some (.int .i64 m) → Calls Tryd.prog 92 #[.string s, .string ⟨#[47]⟩] W fun e1 w1 => e1 = .returned (.tuple #[.string nm, .string rs, .bool fd]) ∧ ∃ n, w1 = W.drewN n))
    (HP : Hid (∀ W, Below w.heap.size w W → Calls Tryd.prog 24 #[.string nm] W fun e1 w1 => e1 = .returned (.tuple #[.agg #[.int .i64 l, .int .i64 a, .int .i64 o], .int .i64 e]) ∧ Below W.heap.size W w1))
    (HX : Hid (∀ W, Calls Tryd.prog 93 #[.string rs, .string ⟨#[43]⟩] W fun e1 w1 => e1 = .returned (.tuple #[.string dg, .bool oc]) ∧ w1 = W))
    (HN : Hid (∀ W, Calls Tryd.prog 73 #[.string dg] W fun e1 w1 => e1 = .returned (.tuple #[.int .i64 n, .bool ok]) ∧ W = w1))
    (v1 v2 : Int) (v3 : Bool) (er : Int)
    (hcase : (fd = false ∧ v1 = 0 ∧ v2 = 0 ∧ v3 = false ∧ er = 4) ∨ (fd = true ∧ (e == 4) = true ∧ v1 = 0 ∧ v2 = 0 ∧ v3 = false ∧ er = e) ∨ (fd = true ∧ (e == 4) = false ∧ ok = false ∧ v1 = 0 ∧ v2 = 0 ∧ v3 = false ∧ er = 4) ∨
      (fd = true ∧ (e == 4) = false ∧ ok = true ∧ (e == 0) = false ∧ v1 = 0 ∧ v2 = 0 ∧ v3 = false ∧ er = e)) :
    Calls Tryd.prog 72 #[.string s] w fun e1 w' => e1 = .returned (.tuple #[.agg #[.int .i64 v1, .int .i64 v2, .bool v3], .int .i64 er]) ∧ Below w.heap.size w w' := by
  have hml' : ∀ x, (w.alloc x).cell? ⟨2, 0, none⟩ = some (.int .i64 m) := fun x => (World.cell?_alloc_lt w x ⟨2, 0, none⟩ h2).trans hml
  rcases hcase with ⟨rfl, rfl, rfl, rfl, rfl⟩ | ⟨rfl, k1, rfl, rfl, rfl, rfl⟩ | ⟨rfl, k1, rfl, rfl, rfl, rfl, rfl⟩ | ⟨rfl, k1, rfl, k2, rfl, rfl, rfl, rfl⟩
  all_goals
    go_enter Tryd.func72, Tryd.ntmps72
    go_wp2_with (first
      | (go_at_call 92; refine (HC.out _ (hml' _)).mono ?_; rintro e1 w1 ⟨rfl, nd, rfl⟩)
      | (go_at_call 24; refine (lift (w := w) 1 (HP.out _ ?_) ?_ ?_).mono ?_; (repeat (first | exact Below.refl _ _ | assumption | refine below_drewN ?_ _ | refine Below.drew ?_ | refine Below.alloc ?_ (by first | exact Nat.le_refl _ | omega | (simp; done) | (simp; omega)) _ | refine Below.setCell ?_ (by first | exact Nat.le_refl _ | (simp; done) | (simp; omega)) _)); (focus (first | (simp; done) | (simp; omega) | omega)); rintro e1 w1 ⟨rfl, hb3, hb4⟩; obtain ⟨hc3, hf3⟩ := bcell hb3; have hz3 := hb3.size; (try simp at hz3); have hlt3 : w.heap.size < w1.heap.size := by omega)
      | (go_at_call 93; refine (HX.out _).mono ?_; rintro e1 w1 ⟨rfl, rfl⟩)
      | (go_at_call 73; refine (HN.out _).mono ?_; rintro e1 w1 ⟨rfl, rfl⟩))
    refine post_ret ?_ ?_ ?_; (focus rfl); (focus (simp only [results, Tryd.results72]; go_simp)); (repeat (first | exact Below.refl _ _ | assumption | refine below_drewN ?_ _ | refine Below.drew ?_ | refine Below.alloc ?_ (by first | exact Nat.le_refl _ | omega | (simp; done) | (simp; omega)) _ | refine Below.setCell ?_ (by first | exact Nat.le_refl _ | (simp; done) | (simp; omega)) _))

set_option maxHeartbeats 8000000 in
theorem course_walk (s nm rs dg : ByteArray) (fd oc ok : Bool) (l a o e n p : Int) (w : World) (m : Int) (hml : w.cell? ⟨2, 0, none⟩ = some (.int .i64 m)) (h2 : 2 < w.heap.size)
    (HC : Hid (∀ W, W.cell? ⟨2, 0, none⟩ = some (.int .i64 m) → Calls Tryd.prog 92 #[.string s, .string ⟨#[47]⟩] W fun e1 w1 => e1 = .returned (.tuple #[.string nm, .string rs, .bool fd]) ∧ ∃ n, w1 = W.drewN n))
    (HP : Hid (∀ W, Below w.heap.size w W → Calls Tryd.prog 24 #[.string nm] W fun e1 w1 => e1 = .returned (.tuple #[.agg #[.int .i64 l, .int .i64 a, .int .i64 o], .int .i64 e]) ∧ Below W.heap.size W w1))
    (HX : Hid (∀ W, Calls Tryd.prog 93 #[.string rs, .string ⟨#[43]⟩] W fun e1 w1 => e1 = .returned (.tuple #[.string dg, .bool oc]) ∧ w1 = W))
    (HN : Hid (∀ W, Calls Tryd.prog 73 #[.string dg] W fun e1 w1 => e1 = .returned (.tuple #[.int .i64 n, .bool ok]) ∧ W = w1))
    (HS : Hid (∀ W, Below w.heap.size w W → Calls Tryd.prog 56 #[.agg #[.int .i64 l, .int .i64 a, .int .i64 o]] W fun e1 w1 => e1 = .returned (.tuple #[.int .i64 p, .int .i64 0]) ∧ Below W.heap.size W w1))
    (v1 v2 : Int) (v3 : Bool) (er : Int)
    (hcase : (fd = false ∧ v1 = 0 ∧ v2 = 0 ∧ v3 = false ∧ er = 4) ∨ (fd = true ∧ (e == 4) = true ∧ v1 = 0 ∧ v2 = 0 ∧ v3 = false ∧ er = e) ∨ (fd = true ∧ (e == 4) = false ∧ ok = false ∧ v1 = 0 ∧ v2 = 0 ∧ v3 = false ∧ er = 4) ∨
      (fd = true ∧ (e == 4) = false ∧ ok = true ∧ (e == 0) = false ∧ v1 = 0 ∧ v2 = 0 ∧ v3 = false ∧ er = e) ∨ (fd = true ∧ (e == 4) = false ∧ ok = true ∧ (e == 0) = true ∧ v1 = p ∧ v2 = n ∧ v3 = oc ∧ er = 0)) :
    Calls Tryd.prog 72 #[.string s] w fun e1 w' => e1 = .returned (.tuple #[.agg #[.int .i64 v1, .int .i64 v2, .bool v3], .int .i64 er]) ∧ Below w.heap.size w w' := by
  have hml' : ∀ x, (w.alloc x).cell? ⟨2, 0, none⟩ = some (.int .i64 m) := fun x => (World.cell?_alloc_lt w x ⟨2, 0, none⟩ h2).trans hml
  rcases hcase with ⟨rfl, rfl, rfl, rfl, rfl⟩ | ⟨rfl, k1, rfl, rfl, rfl, rfl⟩ | ⟨rfl, k1, rfl, rfl, rfl, rfl, rfl⟩ | ⟨rfl, k1, rfl, k2, rfl, rfl, rfl, rfl⟩ | ⟨rfl, k1, rfl, k2, rfl, rfl, rfl, rfl⟩
  all_goals
    go_enter Tryd.func72, Tryd.ntmps72
    go_wp2_with (first
      | (go_at_call 92; refine (HC.out _ (hml' _)).mono ?_; rintro e1 w1 ⟨rfl, nd, rfl⟩)
      | (go_at_call 24; refine (lift (w := w) 1 (HP.out _ ?_) ?_ ?_).mono ?_; (repeat (first | exact Below.refl _ _ | assumption | refine below_drewN ?_ _ | refine Below.drew ?_ | refine Below.alloc ?_ (by first | exact Nat.le_refl _ | omega | (simp; done) | (simp; omega)) _ | refine Below.setCell ?_ (by first | exact Nat.le_refl _ | (simp; done) | (simp; omega)) _)); (focus (first | (simp; done) | (simp; omega) | omega)); rintro e1 w1 ⟨rfl, hb3, hb4⟩; obtain ⟨hc3, hf3⟩ := bcell hb3; have hz3 := hb3.size; (try simp at hz3); have hlt3 : w.heap.size < w1.heap.size := by omega)
      | (go_at_call 93; refine (HX.out _).mono ?_; rintro e1 w1 ⟨rfl, rfl⟩)
      | (go_at_call 73; refine (HN.out _).mono ?_; rintro e1 w1 ⟨rfl, rfl⟩)
      | (go_at_call 56; refine (lift (w := w) 1 (HS.out _ ?_) ?_ ?_).mono ?_; (repeat (first | exact Below.refl _ _ | assumption | refine below_drewN ?_ _ | refine Below.drew ?_ | refine Below.alloc ?_ (by first | exact Nat.le_refl _ | omega | (simp; done) | (simp; omega)) _ | refine Below.setCell ?_ (by first | exact Nat.le_refl _ | (simp; done) | (simp; omega)) _)); (focus (first | (simp; done) | (simp; omega) | omega)); rintro e1 w1 ⟨rfl, hb3, hb4⟩; obtain ⟨hc3, hf3⟩ := bcell hb3; have hz3 := hb3.size; (try simp at hz3); have hlt3 : w.heap.size < w1.heap.size := by omega))
    refine post_ret ?_ ?_ ?_; (focus rfl); (focus (simp only [results, Tryd.results72]; go_simp)); (repeat (first | exact Below.refl _ _ | assumption | refine below_drewN ?_ _ | refine Below.drew ?_ | refine Below.alloc ?_ (by first | exact Nat.le_refl _ | omega | (simp; done) | (simp; omega)) _ | refine Below.setCell ?_ (by first | exact Nat.le_refl _ | (simp; done) | (simp; omega)) _))

theorem sz_of {s : ByteArray} : s.data.toList.length = s.size := by simp
theorem str_of (l : List UInt8) : (⟨l.toArray⟩ : ByteArray).data.toList = l := by simp

theorem course_any (s : ByteArray) (w : World) (hg : Gnd w) (hs : s.size < 4294967281) :
    Calls Tryd.prog 72 #[.string s] w fun e1 w' => e1 = .returned (.tuple #[.agg #[.int .i64 (crsOf s.data.toList).2.p, .int .i64 (crsOf s.data.toList).2.f, .bool (crsOf s.data.toList).2.o], .int .i64 (crsOf s.data.toList).1]) ∧ Below w.heap.size w w' := by
  obtain ⟨m, hm⟩ := hg.ml
  have h2 : 2 < w.heap.size := by have := hg.sz; omega
  obtain ⟨nm, hnm⟩ : ∃ nm : ByteArray, nm = ⟨(Lib.cut s.data.toList [47]).1.toArray⟩ := ⟨_, rfl⟩
  obtain ⟨rs, hrs⟩ : ∃ rs : ByteArray, rs = ⟨(Lib.cut s.data.toList [47]).2.1.toArray⟩ := ⟨_, rfl⟩
  obtain ⟨dg, hdg⟩ : ∃ dg : ByteArray, dg = ⟨(Lib.trimSuffix rs.data.toList [43]).toArray⟩ := ⟨_, rfl⟩
  have enm : nm.data.toList = (Lib.cut s.data.toList [47]).1 := by rw [hnm, str_of]
  have ers : rs.data.toList = (Lib.cut s.data.toList [47]).2.1 := by rw [hrs, str_of]
  have edg : dg.data.toList = Lib.trimSuffix (Lib.cut s.data.toList [47]).2.1 [43] := by rw [hdg, str_of, ers]
  have hrsz : rs.size ≤ s.size := by
    rw [← sz_of, ← sz_of, ers]
    unfold Lib.cut
    split
    · simp
    · simp
  have HC : ∀ W : World, W.cell? ⟨2, 0, none⟩ = some (.int .i64 m) → Calls Tryd.prog 92 #[.string s, .string ⟨#[47]⟩] W fun e1 w1 => e1 = .returned (.tuple #[.string nm, .string rs, .bool (Lib.cut s.data.toList [47]).2.2]) ∧ ∃ n, w1 = W.drewN n := fun W hW =>
    (Tryd.strings_Cut s ⟨#[47]⟩ m W hs hW).mono fun e1 w1 ⟨he, hw⟩ => ⟨by rw [he, hnm, hrs], hw⟩
  have HP : ∀ W, Below w.heap.size w W → Calls Tryd.prog 24 #[.string nm] W fun e1 w1 => e1 = .returned (.tuple #[.agg #[.int .i64 (pnV (Lib.cut s.data.toList [47]).1).1, .int .i64 (pnV (Lib.cut s.data.toList [47]).1).2.1, .int .i64 (pnV (Lib.cut s.data.toList [47]).1).2.2], .int .i64 (pnE (Lib.cut s.data.toList [47]).1)]) ∧ Below W.heap.size W w1 := fun W hW =>
    (parseName_any nm W (hg.up hW)).mono fun e1 w1 ⟨he, hw⟩ => ⟨by rw [he, enm], hw⟩
  have HX : ∀ W, Calls Tryd.prog 93 #[.string rs, .string ⟨#[43]⟩] W fun e1 w1 => e1 = .returned (.tuple #[.string dg, .bool (Lib.hasSuffix (Lib.cut s.data.toList [47]).2.1 [43])]) ∧ w1 = W := fun W =>
    (Tryd.strings_CutSuffix rs ⟨#[43]⟩ W (by omega)).mono fun e1 w1 ⟨he, hw⟩ => ⟨by rw [he, hdg, ers], hw⟩
  have HN : ∀ W, Calls Tryd.prog 73 #[.string dg] W fun e1 w1 => e1 = .returned (.tuple #[.int .i64 (numN (Lib.trimSuffix (Lib.cut s.data.toList [47]).2.1 [43])), .bool (numOk (Lib.trimSuffix (Lib.cut s.data.toList [47]).2.1 [43]))]) ∧ W = w1 := fun W =>
    (number_any dg W).mono fun e1 w1 ⟨he, hw⟩ => ⟨by rw [he, edg], hw⟩
  have HS : pnE (Lib.cut s.data.toList [47]).1 = 0 → ∀ W, Below w.heap.size w W → Calls Tryd.prog 56 #[.agg #[.int .i64 (pnV (Lib.cut s.data.toList [47]).1).1, .int .i64 (pnV (Lib.cut s.data.toList [47]).1).2.1, .int .i64 (pnV (Lib.cut s.data.toList [47]).1).2.2]] W fun e1 w1 =>
      e1 = .returned (.tuple #[.int .i64 (pit (pnV (Lib.cut s.data.toList [47]).1).1 (pnV (Lib.cut s.data.toList [47]).1).2.1 (pnV (Lib.cut s.data.toList [47]).1).2.2), .int .i64 0]) ∧ Below W.heap.size W w1 := fun he0 W hW => by
    have hR : right (pnV (Lib.cut s.data.toList [47]).1).1 (pnV (Lib.cut s.data.toList [47]).1).2.1 (pnV (Lib.cut s.data.toList [47]).1).2.2 = true := by
      revert he0
      generalize (Lib.cut s.data.toList [47]).1 = t
      simp only [pnE, pnV]
      cases pnO t with
      | none => simp
      | some x =>
        obtain ⟨l, a, o⟩ := x
        by_cases h : right l a o = true
        · simp [h]
        · simp [h]
    exact (sounding_any _ _ _ W (hg.up hW)).mono fun e1 w1 ⟨he, hw⟩ => ⟨by rw [he, (snd_good hR).1, (snd_good hR).2], hw⟩
  generalize hl : (pnV (Lib.cut s.data.toList [47]).1).1 = l at *
  generalize ha : (pnV (Lib.cut s.data.toList [47]).1).2.1 = a at *
  generalize ho : (pnV (Lib.cut s.data.toList [47]).1).2.2 = o at *
  have hcr : crsOf s.data.toList = if (Lib.cut s.data.toList [47]).2.2 = false then (4, crsZ)
      else if pnE (Lib.cut s.data.toList [47]).1 = 4 then (4, crsZ)
      else if numOk (Lib.trimSuffix (Lib.cut s.data.toList [47]).2.1 [43]) = false then (4, crsZ)
      else if pnE (Lib.cut s.data.toList [47]).1 ≠ 0 then (pnE (Lib.cut s.data.toList [47]).1, crsZ)
      else (0, ⟨pit l a o, numN (Lib.trimSuffix (Lib.cut s.data.toList [47]).2.1 [43]), Lib.hasSuffix (Lib.cut s.data.toList [47]).2.1 [43]⟩) := by
    rw [crsOf, hl, ha, ho]
  rw [hcr]
  clear hcr hnm hrs hdg enm ers edg hrsz hl ha ho
  generalize pnE (Lib.cut s.data.toList [47]).1 = e at *
  generalize numN (Lib.trimSuffix (Lib.cut s.data.toList [47]).2.1 [43]) = n at *
  generalize numOk (Lib.trimSuffix (Lib.cut s.data.toList [47]).2.1 [43]) = ok at *
  generalize Lib.hasSuffix (Lib.cut s.data.toList [47]).2.1 [43] = oc at *
  generalize (Lib.cut s.data.toList [47]).2.2 = fd at *
  by_cases h0 : e = 0
  · have HS0 := HS h0
    cases fd
    · exact course_walk s nm rs dg _ oc ok l a o e n _ w m hm h2 HC HP HX HN HS0 _ _ _ _ (.inl ⟨rfl, rfl, rfl, rfl, rfl⟩)
    · cases ok
      · rw [if_neg (by decide), if_neg (by omega), if_pos rfl]
        exact course_walk s nm rs dg _ oc _ l a o e n _ w m hm h2 HC HP HX HN HS0 _ _ _ _ (.inr (.inr (.inl ⟨rfl, by simp; omega, rfl, rfl, rfl, rfl, rfl⟩)))
      · rw [if_neg (by decide), if_neg (by omega), if_neg (by decide), if_neg (by omega)]
        exact course_walk s nm rs dg _ oc _ l a o e n _ w m hm h2 HC HP HX HN HS0 _ _ _ _ (.inr (.inr (.inr (.inr ⟨rfl, by simp; omega, rfl, by simp; omega, rfl, rfl, rfl, rfl⟩))))
  · cases fd
    · exact course_out s nm rs dg _ oc ok l a o e n w m hm h2 HC HP HX HN _ _ _ _ (.inl ⟨rfl, rfl, rfl, rfl, rfl⟩)
    · by_cases h4 : e = 4
      · subst h4
        exact course_out s nm rs dg _ oc ok l a o 4 n w m hm h2 HC HP HX HN _ _ _ _ (.inr (.inl ⟨rfl, rfl, rfl, rfl, rfl, rfl⟩))
      · rw [if_neg (by decide), if_neg h4]
        cases ok
        · rw [if_pos rfl]
          exact course_out s nm rs dg _ oc _ l a o e n w m hm h2 HC HP HX HN _ _ _ _ (.inr (.inr (.inl ⟨rfl, by simpa using h4, rfl, rfl, rfl, rfl, rfl⟩)))
        · rw [if_neg (by decide), if_pos h0]
          exact course_out s nm rs dg _ oc _ l a o e n w m hm h2 HC HP HX HN _ _ _ _ (.inr (.inr (.inr ⟨rfl, by simpa using h4, rfl, by simpa using h0, rfl, rfl, rfl, rfl⟩)))
end Go.Proofs.YtbdhjpdjbogggaaDoor
