/- Grips are read from their text, in plain terms: word by word, line by line; that the program's reading and the reference's are one. Nothing is run here. -/
import Derived.Test.YtgabmmdllcbkoaaGreatDoorDA
set_option linter.unusedSimpArgs false
set_option linter.unusedVariables false
namespace Go.Proofs.YtgabmmdllcbkoaaGreatDoor
open Go.RowKit

theorem wtx_cons (g : Grip) (l : List Grip) : wtx (g :: l) = gtx g ++ wtx l := by rw [wtx, List.flatMap_cons]; rfl
theorem wtx_append (a b : List Grip) : wtx (a ++ b) = wtx a ++ wtx b := by rw [wtx, List.flatMap_append]; rfl
theorem fgx_len {f : Int} (h : okF f) : (fgx f).length ≤ 3 := by
  have := (it_at (f := f) (by have := h.1; omega) (by have := h.2; omega)).1
  simp only [fgx, List.length_cons]; omega
theorem fgs_len : ∀ {l : List Int}, (∀ f ∈ l, okF f) → (l.flatMap fgx).length ≤ l.length * 3
  | [], _ => by simp
  | f :: l, h => by
    have h1 := fgx_len (h f (List.mem_cons_self ..))
    have h2 := fgs_len (l := l) fun x hx => h x (List.mem_cons_of_mem _ hx)
    rw [List.flatMap_cons, List.length_append, List.length_cons]; omega
theorem gtx_len {g : Grip} (h : okW g) : (gtx g).length ≤ 45 := by
  have h1 := (it_at (f := g.pos) (by have := h.1.1; omega) h.1.2).1
  have h2 := fgs_len h.2.2
  have h3 := h.2.1
  simp only [gtx, List.length_append, List.length_cons, List.length_nil]; omega
theorem wtx_len : ∀ {l : List Grip}, allW l → (wtx l).length ≤ l.length * 45
  | [], _ => by simp [wtx]
  | g :: l, h => by
    have h1 := gtx_len (h g (List.mem_cons_self ..))
    have h2 := wtx_len (l := l) fun x hx => h x (List.mem_cons_of_mem _ hx)
    rw [wtx_cons, List.length_append, List.length_cons]; omega
theorem gtx_ne (g : Grip) : gtx g ≠ [] := by simp [gtx]

/-! ### Words -/
def wordN (w : List UInt8) (most : Nat) : Int :=
  match (List.range most).find? fun (n : Nat) => decide (Lib.itoa ((n : Int) + 1) = w) with
  | some n => (n : Int) + 1
  | none => 0
theorem wordN_cases (w : List UInt8) (most : Nat) : (wordN w most = 0 ∧ ∀ n : Int, 1 ≤ n → n ≤ most → Lib.itoa n ≠ w) ∨ (1 ≤ wordN w most ∧ wordN w most ≤ most ∧ Lib.itoa (wordN w most) = w) := by
  unfold wordN
  cases h : (List.range most).find? fun (n : Nat) => decide (Lib.itoa ((n : Int) + 1) = w) with
  | none =>
    rw [List.find?_eq_none] at h
    refine .inl ⟨rfl, fun n h1 h2 e => ?_⟩
    have := h (n - 1).toNat (List.mem_range.2 (by omega))
    rw [show (((n - 1).toNat : Nat) : Int) + 1 = n by omega] at this
    simp [e] at this
  | some n =>
    have h1 := List.find?_some h
    have h2 := List.mem_range.1 (List.mem_of_find?_eq_some h)
    refine .inr ⟨by show (1 : Int) ≤ (n : Int) + 1; omega, by show (n : Int) + 1 ≤ most; omega, by simpa using h1⟩
theorem wordN_at {w : List UInt8} {most : Nat} {n : Int} (hm : most ≤ 18) (h1 : 1 ≤ n) (h2 : n ≤ most) (e : Lib.itoa n = w) : wordN w most = n := by
  rcases wordN_cases w most with ⟨_, h⟩ | ⟨a, b, c⟩
  · exact absurd e (h n h1 h2)
  · exact it_inj (by omega) (by omega) (c.trans e.symm)

/-! ### A line -/
def stepW : Option Grip → List UInt8 → Option Grip
  | none, w => if wordN w 18 = 0 then none else some ⟨wordN w 18, []⟩
  | some g, w => if wordN w 4 = 0 ∨ g.fingers.length = 14 then none else some ⟨g.pos, g.fingers ++ [wordN w 4]⟩
def goW : Option Grip → List UInt8 → List UInt8 → Option Grip
  | st, cur, [] => stepW st cur
  | st, cur, x :: r => if x = 32 then (stepW st cur).bind fun g => goW (some g) [] r else goW st (cur ++ [x]) r
def lineG (s : List UInt8) : Option Grip := goW none [] s
/-- A line, without its end. -/
def gln (g : Grip) : List UInt8 := Lib.itoa g.pos ++ g.fingers.flatMap fgx
theorem gtx_gln (g : Grip) : gtx g = gln g ++ [10] := rfl

theorem goW_some : ∀ {r cur : List UInt8} {g0 g : Grip}, okW g0 → goW (some g0) cur r = some g → okW g ∧ ∃ fs, g = ⟨g0.pos, g0.fingers ++ fs⟩ ∧ 32 :: (cur ++ r) = fs.flatMap fgx := by
  have step : ∀ {cur : List UInt8} {g0 g : Grip}, okW g0 → stepW (some g0) cur = some g → okW g ∧ ∃ f, g = ⟨g0.pos, g0.fingers ++ [f]⟩ ∧ cur = Lib.itoa f := by
    intro cur g0 g h0 h
    simp only [stepW] at h
    split at h
    · cases h
    · rename_i hh
      cases h
      rcases wordN_cases cur 4 with ⟨a, _⟩ | ⟨a, b, c⟩
      · exact absurd (.inl a) hh
      · refine ⟨⟨h0.1, ?_, fun f hf => ?_⟩, _, rfl, c.symm⟩
        · have := h0.2.1
          simp only [List.length_append, List.length_cons, List.length_nil]
          have : g0.fingers.length ≠ 14 := fun e => hh (.inr e)
          omega
        · rcases List.mem_append.1 hf with hf | hf
          · exact h0.2.2 f hf
          · rw [List.mem_singleton.1 hf]; exact ⟨a, b⟩
  intro r
  induction r with
  | nil =>
    intro cur g0 g h0 h
    obtain ⟨h1, f, rfl, rfl⟩ := step h0 h
    exact ⟨h1, [f], rfl, by simp [fgx]⟩
  | cons x r ih =>
    intro cur g0 g h0 h
    simp only [goW] at h
    split at h
    · rename_i hx
      subst hx
      rw [Option.bind_eq_some_iff] at h
      obtain ⟨g1, hs, h⟩ := h
      obtain ⟨h1, f, rfl, rfl⟩ := step h0 hs
      obtain ⟨h2, fs, rfl, e⟩ := ih h1 h
      refine ⟨h2, f :: fs, by simp, ?_⟩
      rw [List.flatMap_cons, ← e]; simp [fgx]
    · obtain ⟨h2, fs, e1, e⟩ := ih h0 h
      exact ⟨h2, fs, e1, by rw [← e]; simp⟩
theorem goW_none : ∀ {r cur : List UInt8} {g : Grip}, goW none cur r = some g → okW g ∧ cur ++ r = gln g := by
  have step : ∀ {cur : List UInt8} {g : Grip}, stepW none cur = some g → okW g ∧ g.fingers = [] ∧ cur = Lib.itoa g.pos := by
    intro cur g h
    simp only [stepW] at h
    split at h
    · cases h
    · rename_i hh
      cases h
      rcases wordN_cases cur 18 with ⟨a, _⟩ | ⟨a, b, c⟩
      · exact absurd a hh
      · exact ⟨⟨⟨a, b⟩, by simp, fun f hf => by simp at hf⟩, rfl, c.symm⟩
  intro r
  induction r with
  | nil =>
    intro cur g h
    obtain ⟨h1, h2, h3⟩ := step h
    exact ⟨h1, by rw [gln, h2, h3]; rfl⟩
  | cons x r ih =>
    intro cur g h
    simp only [goW] at h
    split at h
    · rename_i hx
      subst hx
      rw [Option.bind_eq_some_iff] at h
      obtain ⟨g1, hs, h⟩ := h
      obtain ⟨h1, h2, h3⟩ := step hs
      obtain ⟨h4, fs, rfl, e⟩ := goW_some h1 h
      refine ⟨h4, ?_⟩
      rw [gln, h3, h2, List.nil_append, ← e]; rfl
    · obtain ⟨h2, e⟩ := ih h
      exact ⟨h2, by rw [← e]; simp⟩
theorem goW_word {st : Option Grip} {r : List UInt8} : ∀ {u cur : List UInt8}, ¬ (32 : UInt8) ∈ u → goW st cur (u ++ 32 :: r) = (stepW st (cur ++ u)).bind fun g => goW (some g) [] r
  | [], cur, _ => by rw [List.nil_append, goW, if_pos rfl, List.append_nil]
  | x :: u, cur, h => by
    have hx : x ≠ 32 := fun e => h (by simp [e])
    rw [List.cons_append, goW, if_neg hx, goW_word fun e => h (by simp [e])]
    simp
theorem goW_last {st : Option Grip} : ∀ {u cur : List UInt8}, ¬ (32 : UInt8) ∈ u → goW st cur u = stepW st (cur ++ u)
  | [], cur, _ => by rw [goW, List.append_nil]
  | x :: u, cur, h => by
    have hx : x ≠ 32 := fun e => h (by simp [e])
    rw [goW, if_neg hx, goW_last fun e => h (by simp [e])]
    simp
theorem goW_fs : ∀ {fs : List Int} {st : Option Grip} {u : List UInt8} {g0 : Grip}, (∀ f ∈ fs, okF f) → g0.fingers.length + fs.length ≤ 14 → ¬ (32 : UInt8) ∈ u → stepW st u = some g0 → goW st [] (u ++ fs.flatMap fgx) = some ⟨g0.pos, g0.fingers ++ fs⟩
  | [], st, u, g0, _, _, hu, hs => by rw [List.flatMap_nil, List.append_nil, goW_last hu, List.nil_append, hs, List.append_nil]
  | f :: fs, st, u, g0, hf, hl, hu, hs => by
    have h1 := hf f (List.mem_cons_self ..)
    have hi := it_at (f := f) (by have := h1.1; omega) (by have := h1.2; omega)
    have e : u ++ (f :: fs).flatMap fgx = u ++ 32 :: (Lib.itoa f ++ fs.flatMap fgx) := by simp [fgx]
    rw [List.length_cons] at hl
    have hw := wordN_at (w := Lib.itoa f) (most := 4) (by decide) h1.1 h1.2 rfl
    rw [e, goW_word hu, List.nil_append, hs, Option.bind_some, goW_fs (g0 := ⟨g0.pos, g0.fingers ++ [f]⟩) (fun x hx => hf x (List.mem_cons_of_mem _ hx)) (by simp; omega) hi.2.2.2.1]
    · simp
    · simp only [stepW, hw]
      rw [if_neg]
      rintro (h | h)
      · have := h1.1; omega
      · omega
theorem lineG_gln {g : Grip} (h : okW g) : lineG (gln g) = some g := by
  have hi := it_at (f := g.pos) (by have := h.1.1; omega) h.1.2
  have hw := wordN_at (w := Lib.itoa g.pos) (most := 18) (by decide) h.1.1 h.1.2 rfl
  have := goW_fs (fs := g.fingers) (st := none) (u := Lib.itoa g.pos) (g0 := ⟨g.pos, []⟩) h.2.2 (by have := h.2.1; simpa using this) hi.2.2.2.1 (by
    simp only [stepW, hw]
    rw [if_neg]
    have := h.1.1; omega)
  rw [lineG, gln, this]; simp
theorem lineG_some {s : List UInt8} {g : Grip} (h : lineG s = some g) : okW g ∧ s = gln g := goW_none h

/-! ### All lines -/
def goL : List Grip → List UInt8 → List UInt8 → List Grip × Int
  | acc, cur, [] => if cur = [] then (acc, 0) else ([], 4)
  | acc, cur, x :: r => if x = 10 then match lineG cur with
      | some g => goL (acc ++ [g]) [] r
      | none => ([], 4)
    else goL acc (cur ++ [x]) r
theorem goL_cases : ∀ (r acc cur), goL acc cur r = ([], 4) ∨ ∃ l, goL acc cur r = (acc ++ l, 0) ∧ cur ++ r = wtx l ∧ allW l := by
  intro r
  induction r with
  | nil =>
    intro acc cur
    simp only [goL]
    split
    · rename_i h; subst h
      exact .inr ⟨[], by simp, rfl, fun g hg => by cases hg⟩
    · exact .inl rfl
  | cons x r ih =>
    intro acc cur
    simp only [goL]
    split
    · rename_i h; subst h
      cases hl : lineG cur with
      | none => exact .inl rfl
      | some g =>
        obtain ⟨hg, rfl⟩ := lineG_some hl
        rcases ih (acc ++ [g]) [] with h | ⟨l, h, e, hw⟩
        · exact .inl h
        · refine .inr ⟨g :: l, by show goL (acc ++ [g]) [] r = _; rw [h]; simp, ?_, fun y hy => ?_⟩
          · rw [wtx_cons, ← e, gtx_gln]; simp
          · rcases List.mem_cons.1 hy with rfl | hy
            · exact hg
            · exact hw y hy
    · rcases ih acc (cur ++ [x]) with h | ⟨l, h, e, hw⟩
      · exact .inl h
      · exact .inr ⟨l, h, by rw [← e]; simp, hw⟩
theorem goL_line {acc : List Grip} {r : List UInt8} : ∀ {u cur : List UInt8}, ¬ (10 : UInt8) ∈ u → goL acc cur (u ++ 10 :: r) = match lineG (cur ++ u) with
      | some g => goL (acc ++ [g]) [] r
      | none => ([], 4)
  | [], cur, _ => by rw [List.nil_append, goL, if_pos rfl, List.append_nil]
  | x :: u, cur, h => by
    have hx : x ≠ 10 := fun e => h (by simp [e])
    rw [List.cons_append, goL, if_neg hx, goL_line fun e => h (by simp [e])]
    simp
theorem fgs_no10 : ∀ {l : List Int}, (∀ f ∈ l, okF f) → ¬ (10 : UInt8) ∈ l.flatMap fgx
  | [], _, h => by simp at h
  | f :: l, hf, h => by
    have h1 := hf f (List.mem_cons_self ..)
    have hi := it_at (f := f) (by have := h1.1; omega) (by have := h1.2; omega)
    rw [List.flatMap_cons, List.mem_append, fgx, List.mem_cons] at h
    rcases h with (h | h) | h
    · cases h
    · exact hi.2.2.1 h
    · exact fgs_no10 (fun x hx => hf x (List.mem_cons_of_mem _ hx)) h
theorem gln_no10 {g : Grip} (h : okW g) : ¬ (10 : UInt8) ∈ gln g := by
  have hi := it_at (f := g.pos) (by have := h.1.1; omega) h.1.2
  rw [gln, List.mem_append]
  rintro (e | e)
  · exact hi.2.2.1 e
  · exact fgs_no10 h.2.2 e
theorem goL_wtx : ∀ {l : List Grip} {acc : List Grip}, allW l → goL acc [] (wtx l) = (acc ++ l, 0)
  | [], acc, _ => by rw [wtx, List.flatMap_nil, goL, if_pos rfl, List.append_nil]
  | g :: l, acc, h => by
    have hg := h g (List.mem_cons_self ..)
    rw [wtx_cons, gtx_gln, List.append_assoc, List.singleton_append, goL_line (gln_no10 hg), List.nil_append, lineG_gln hg]
    show goL (acc ++ [g]) [] (wtx l) = _
    rw [goL_wtx fun x hx => h x (List.mem_cons_of_mem _ hx)]
    simp

/-! ### How many lines -/
def nl : List UInt8 → Nat
  | [] => 0
  | [_] => 1
  | x :: y :: r => (if x = 10 then 1 else 0) + nl (y :: r)
/-- The lines; behind the last end there is none. -/
def lnsP (s : List UInt8) : List (List UInt8) := if (splitC 10 s).getLastD [] = [] then (splitC 10 s).dropLast else splitC 10 s
theorem lnsP_cons_nl {s : List UInt8} : lnsP (10 :: s) = [] :: lnsP s ∨ s = [] := by
  cases h : splitC 10 s with
  | nil => exact absurd h (splitC_ne _ _)
  | cons a t =>
    have e : splitC 10 (10 :: s) = [] :: a :: t := by rw [splitC, if_pos rfl, h]
    left
    rw [lnsP, lnsP, e, h]
    show (if (a :: t).getLastD [] = [] then _ else _) = _
    split
    · rfl
    · rfl
theorem lnsP_len : ∀ s : List UInt8, (lnsP s).length = nl s
  | [] => rfl
  | [x] => by
    by_cases hx : x = 10
    · subst hx; rfl
    · have e : splitC 10 [x] = [[x]] := by rw [splitC, if_neg hx]; rfl
      rw [lnsP, e]; rfl
  | x :: y :: r => by
    have ih := lnsP_len (y :: r)
    rw [nl, ← ih]
    by_cases hx : x = 10
    · subst hx
      rcases lnsP_cons_nl (s := y :: r) with h | h
      · rw [h, List.length_cons, if_pos rfl, Nat.add_comm]
      · cases h
    · rw [if_neg hx, Nat.zero_add]
      cases h : splitC 10 (y :: r) with
      | nil => exact absurd h (splitC_ne _ _)
      | cons a t =>
        have e : splitC 10 (x :: y :: r) = (x :: a) :: t := by rw [splitC, if_neg hx, h]
        rw [lnsP, lnsP, e, h]
        cases t with
        | nil =>
          have ha : a ≠ [] := by
            rintro rfl
            simp only [splitC] at h
            split at h
            · simp at h
              exact absurd h (splitC_ne _ _)
            · split at h <;> simp at h
          show (if (x :: a) = [] then _ else _ : List (List UInt8)).length = (if a = [] then _ else _ : List (List UInt8)).length
          rw [if_neg (by simp), if_neg ha]; rfl
        | cons b t =>
          show (if (b :: t).getLastD [] = [] then _ else _ : List (List UInt8)).length = (if (b :: t).getLastD [] = [] then _ else _ : List (List UInt8)).length
          split <;> rfl
theorem lnsP_wtx : ∀ {l : List Grip}, allW l → lnsP (wtx l) = l.map gln
  | [], _ => rfl
  | g :: l, h => by
    have hg := h g (List.mem_cons_self ..)
    have ih := lnsP_wtx (l := l) fun x hx => h x (List.mem_cons_of_mem _ hx)
    rw [wtx_cons, gtx_gln, List.append_assoc, List.singleton_append, List.map_cons, ← ih, lnsP, splitC_cons _ _ _ (gln_no10 hg), lnsP]
    cases hs : splitC 10 (wtx l) with
    | nil => exact absurd hs (splitC_ne _ _)
    | cons a t =>
      show (if (a :: t).getLastD [] = [] then _ else _) = _
      split <;> rfl
theorem nl_wtx {l : List Grip} (h : allW l) : nl (wtx l) = l.length := by rw [← lnsP_len, lnsP_wtx h, List.length_map]

/-! ### The program's reading -/
def atoiO (w : List UInt8) : Option Int := match Lib.atoiAll w with | .ok v => some v | _ => none
/-- A grip of numbers. -/
def ofNs : List Int → Grip
  | [] => noG
  | n :: r => ⟨n, r⟩
def lineA (s : List UInt8) : Option Grip := ((splitC 32 s).mapM atoiO).map ofNs
theorem splitW : ∀ {fs : List Int} {u : List UInt8}, (∀ f ∈ fs, okF f) → ¬ (32 : UInt8) ∈ u → splitC 32 (u ++ fs.flatMap fgx) = u :: fs.map Lib.itoa
  | [], u, _, hu => by rw [List.flatMap_nil, List.append_nil, splitC_self _ _ hu]; rfl
  | f :: fs, u, hf, hu => by
    have h1 := hf f (List.mem_cons_self ..)
    have hi := it_at (f := f) (by have := h1.1; omega) (by have := h1.2; omega)
    have e : u ++ (f :: fs).flatMap fgx = u ++ 32 :: (Lib.itoa f ++ fs.flatMap fgx) := by simp [fgx]
    rw [e, splitC_cons _ _ _ hu, splitW (fun x hx => hf x (List.mem_cons_of_mem _ hx)) hi.2.2.2.1]; rfl
theorem atoi_it {f : Int} (h0 : 0 ≤ f) (h1 : f ≤ 18) : atoiO (Lib.itoa f) = some f := by rw [atoiO, (it_at h0 h1).2.2.2.2.1]
theorem atoi_fs : ∀ {fs : List Int}, (∀ f ∈ fs, okF f) → (fs.map Lib.itoa).mapM atoiO = some fs
  | [], _ => rfl
  | f :: fs, hf => by
    have h1 := hf f (List.mem_cons_self ..)
    rw [List.map_cons, List.mapM_cons, atoi_it (by have := h1.1; omega) (by have := h1.2; omega), atoi_fs fun x hx => hf x (List.mem_cons_of_mem _ hx)]; rfl
theorem lineA_gln {g : Grip} (h : okW g) : lineA (gln g) = some g := by
  have hi := it_at (f := g.pos) (by have := h.1.1; omega) h.1.2
  rw [lineA, gln, splitW h.2.2 hi.2.2.2.1, List.mapM_cons, atoi_it (by have := h.1.1; omega) h.1.2, atoi_fs h.2.2]; rfl
theorem linesA_wtx : ∀ {l : List Grip}, allW l → (l.map gln).mapM lineA = some l
  | [], _ => rfl
  | g :: l, h => by
    rw [List.map_cons, List.mapM_cons, lineA_gln (h g (List.mem_cons_self ..)), linesA_wtx fun x hx => h x (List.mem_cons_of_mem _ hx)]; rfl
def bigS (s : List UInt8) : Prop := 65536 < s.length ∨ 400 < nl s
instance (s : List UInt8) : Decidable (bigS s) := by unfold bigS; infer_instance
/-- What the reference's Read answers. -/
def rdR (s : List UInt8) : List Grip × Int := if bigS s then ([], 2) else goL [] [] s
/-- What the program's Read answers. -/
def rdP (s : List UInt8) : List Grip × Int :=
  if bigS s then ([], 2) else match (lnsP s).mapM lineA with
    | none => ([], 4)
    | some l => if wrR l = (s, 0) then (l, 0) else ([], 4)
theorem wrR_ok {l : List Grip} {s : List UInt8} (h : wrR l = (s, 0)) : l.length ≤ 400 ∧ allW l ∧ s = wtx l := by
  unfold wrR at h
  split at h
  · simp at h
  · split at h
    · rename_i h1 h2
      exact ⟨by omega, h2, by simp at h; exact h.symm⟩
    · simp at h
theorem wrR_of {l : List Grip} (h : l.length ≤ 400) (hw : allW l) : wrR l = (wtx l, 0) := by rw [wrR, if_neg (by omega), if_pos hw]
theorem rd_eq (s : List UInt8) : rdP s = rdR s := by
  unfold rdP rdR
  split
  · rfl
  · rename_i hb
    rcases goL_cases s [] [] with h | ⟨l, h, e, hw⟩
    · rw [h]
      split
      · rfl
      · rename_i l hl
        rw [if_neg]
        intro hr
        obtain ⟨_, hw, rfl⟩ := wrR_ok hr
        rw [goL_wtx hw] at h
        simp at h
    · rw [h]
      rw [List.nil_append] at e
      subst e
      have hn := nl_wtx hw
      have : l.length ≤ 400 := by
        rcases Nat.lt_or_ge 400 l.length with h4 | h4
        · exact absurd (.inr (by omega)) hb
        · exact h4
      rw [lnsP_wtx hw, linesA_wtx hw]
      show (if wrR l = (wtx l, 0) then (l, (0 : Int)) else ([], 4)) = _
      rw [if_pos (wrR_of this hw), List.nil_append]
theorem rd_wtx {l : List Grip} (h : l.length ≤ 400) (hw : allW l) : rdR (wtx l) = (l, 0) := by
  have h1 := wtx_len hw
  rw [rdR, if_neg, goL_wtx hw, List.nil_append]
  rintro (h2 | h2)
  · omega
  · rw [nl_wtx hw] at h2; omega
theorem rd_ok {s : List UInt8} (h : (rdR s).2 = 0) : wrR (rdR s).1 = (s, 0) := by
  have e : rdR s = rdP s := (rd_eq s).symm
  rw [e] at h ⊢
  unfold rdP at h ⊢
  split at h
  · simp at h
  · rename_i hb
    rw [if_neg hb]
    split at h
    · simp at h
    · split at h
      · rename_i hr; rw [if_pos hr]; exact hr
      · simp at h
theorem rd_len (s : List UInt8) : (rdR s).1.length ≤ 400 ∧ ∀ g ∈ (rdR s).1, g.fingers.length ≤ 14 := by
  unfold rdR
  split
  · exact ⟨by simp, fun g hg => by simp at hg⟩
  · rename_i hb
    rcases goL_cases s [] [] with h | ⟨l, h, e, hw⟩
    · rw [h]; exact ⟨by simp, fun g hg => by simp at hg⟩
    · rw [h]
      rw [List.nil_append] at e
      subst e
      refine ⟨?_, fun g hg => (hw g (by simpa using hg)).2.1⟩
      rw [List.nil_append]
      have hn := nl_wtx hw
      rcases Nat.lt_or_ge 400 l.length with h4 | h4
      · exact absurd (.inr (by omega)) hb
      · exact h4
end Go.Proofs.YtgabmmdllcbkoaaGreatDoor
