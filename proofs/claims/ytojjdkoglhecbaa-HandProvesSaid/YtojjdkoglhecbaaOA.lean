/- All frets and positions raised: plain. rest and chosen of the laws, on values. The law HandRaised, on values. -/
import Derived.Test.YtojjdkoglhecbaaLA
import Derived.Test.YtojjdkoglhecbaaNA
import Derived.Test.YtojjdkoglhecbaaP7
namespace Go.Proofs.Ytojjdkoglhecbaa
open Go.RowKit

/-- Raised by n frets. -/
def upP (n : Int) (p : Int × Int) : Int × Int := (p.1, p.2 + n)
def upC (n : Int) (c : Chord) : Chord := ⟨c.down.map (upP n), c.held, c.opn⟩
def upG (n : Int) (g : Grip) : Grip := ⟨g.pos + n, g.fingers⟩
section
variable {n : Int}
theorem up_len (c : Chord) : (upC n c).down.length = c.down.length := List.length_map _
theorem up_get {l : List (Int × Int)} {i : Nat} (hi : i < l.length) : (l.map (upP n)).getD i (0, 0) = upP n (l.getD i (0, 0)) := by
  rw [List.getD_eq_getElem?_getD, List.getElem?_map, List.getD_eq_getElem?_getD, List.getElem?_eq_getElem hi]; rfl
theorem up_get1 (l : List (Int × Int)) (i : Nat) : ((l.map (upP n)).getD i (0, 0)).1 = (l.getD i (0, 0)).1 := by
  rw [List.getD_eq_getElem?_getD, List.getElem?_map, List.getD_eq_getElem?_getD]
  cases l[i]? <;> rfl
theorem up_at {c : Chord} {i : Nat} (hi : i < c.down.length) : (upC n c).down.getD i (0, 0) = upP n (c.down.getD i (0, 0)) := up_get hi
theorem up_at1 (c : Chord) (i : Nat) : ((upC n c).down.getD i (0, 0)).1 = (c.down.getD i (0, 0)).1 := up_get1 _ _
theorem fI_up (l : List (Int × Int)) (co : Int) : fI (l.map (upP n)) co = fI l co := by
  induction l with
  | nil => rfl
  | cons p l ih => rw [List.map_cons, fI, fI, ih]; rfl
theorem chord_up {c : Chord} (hc : ChordOk c) (h0 : 0 ≤ n) (hf : ∀ i, i < c.down.length → (c.down.getD i (0, 0)).2 + n ≤ 18) : ChordOk (upC n c) := by
  refine ⟨fun i hi => ?_, fun i hi => ?_, hc.rh, hc.ro, fun i hi => ?_, fun i hi => ?_⟩
  · rw [up_len] at hi
    rw [up_at1, up_at hi]
    have := hc.each i hi
    have := hf i hi
    exact ⟨by omega, by show 1 ≤ (c.down.getD i (0, 0)).2 + n ∧ _; exact ⟨by omega, this⟩⟩
  · rw [up_len] at hi
    rw [up_at1, up_at1]; exact hc.rise i hi
  · rw [up_len]
    show fI (c.down.map (upP n)) _ < _
    rw [fI_up]; exact hc.held i hi
  · rw [up_len]
    have := hc.opn i hi
    refine ⟨this.1, ?_⟩
    show fI (c.down.map (upP n)) _ = _
    rw [fI_up]; exact this.2
theorem chs_up (l : List Chord) (k : Nat) : (l.map (upC n)).getD k noC = upC n (l.getD k noC) := by
  rw [List.getD_eq_getElem?_getD, List.getElem?_map, List.getD_eq_getElem?_getD]
  cases l[k]? <;> rfl
theorem gs_up {l : List Grip} {k : Nat} (hk : k < l.length) : (l.map (upG n)).getD k noG = upG n (l.getD k noG) := by
  rw [List.getD_eq_getElem?_getD, List.getElem?_map, List.getD_eq_getElem?_getD, List.getElem?_eq_getElem hk]; rfl
theorem seq_up {l : List Chord} (hs : SeqOk l) (h0 : 0 ≤ n) (hf : ∀ k, k < l.length → ∀ i, i < (l.getD k noC).down.length → ((l.getD k noC).down.getD i (0, 0)).2 + n ≤ 18) : SeqOk (l.map (upC n)) := by
  intro k hk
  rw [List.length_map] at hk
  rw [chs_up, chs_up]
  obtain ⟨h1, h2⟩ := hs k hk
  refine ⟨chord_up h1 h0 (hf k hk), fun hk0 q hq => ?_⟩
  have hfo := h2 hk0
  have f1 := fol_found h1 hfo hq
  have f2 := h1.held q hq
  have := hfo q hq
  show ((l.getD (k - 1) noC).down.map (upP n)).getD (fI _ _) (0, 0) = ((l.getD k noC).down.map (upP n)).getD (fI _ _) (0, 0)
  show ((l.getD (k - 1) noC).down.map (upP n)).getD (fI ((l.getD (k - 1) noC).down.map (upP n)) ((l.getD k noC).held.getD q 0)) (0, 0) = ((l.getD k noC).down.map (upP n)).getD (fI ((l.getD k noC).down.map (upP n)) ((l.getD k noC).held.getD q 0)) (0, 0)
  rw [fI_up, fI_up, up_get f1, up_get f2]
  exact congrArg (upP n) this
theorem agr_up (a b : Int × Int) (f g : Int) : agrB (upP n a) (upP n b) f g = agrB a b f g := by
  unfold agrB upP
  simp only [Int.add_lt_add_iff_right]
theorem rch_up (h : Hand) (pos : Int) (f : Nat) (fret : Int) : rchB h (pos + n) f (fret + n) = rchB h pos f fret := by
  unfold rchB
  congr 1 <;> (apply decide_eq_decide.2; omega)
theorem fit_up {h : Hand} {c : Chord} {g : Grip} (hf : FitG h c g) (h0 : 0 ≤ n) (ht : g.pos + n ≤ h.top) : FitG h (upC n c) (upG n g) := by
  have hp := hf.pos
  refine ⟨⟨by show 1 ≤ g.pos + n; omega, ht⟩, by rw [up_len]; exact hf.len, fun i hi => ?_, fun i hi => ?_, fun i hi k hk => ?_, fun f hff => ?_⟩
  · rw [up_len] at hi; exact hf.fin i hi
  · rw [up_len] at hi
    rw [up_at hi]
    have := hf.rch i hi
    exact (rch_up h g.pos _ _).trans this
  · rw [up_len] at hi
    rw [up_at hi, up_at (by omega : k < c.down.length), agr_up]
    exact hf.agr i hi k hk
  · intro h1 h2
    have hs := hf.spn f hff h1 h2
    obtain ⟨l1, l2, _⟩ := lsF_ok h1
    have hlen := hf.len
    have e1 : fsF g.fingers f < c.down.length := by rw [← hlen]; exact h1
    have e2 : lsF g.fingers f < c.down.length := by rw [← hlen]; exact l2
    show h.barre.getD f false = true ∧ _
    rw [show (upG n g).fingers = g.fingers from rfl, up_at e1, up_at e2]
    refine ⟨hs.1, ?_, ?_, fun j hj1 hj2 => ?_⟩
    · show _ + n = _ + n
      rw [hs.2.1]
    · exact hs.2.2.1
    · have hj : j < c.down.length := by omega
      rw [up_at hj]
      have := hs.2.2.2 j hj1 hj2
      show ¬ _ + n < _ + n
      omega
theorem dist_up (a b : Int) : dist (a + n) (b + n) = dist a b := by unfold dist; split <;> split <;> omega
theorem both_up (a b : Chord) : bothD (upC n a) (upC n b) ↔ bothD a b := by unfold bothD; rw [up_len, up_len]
theorem held_up (a b : Chord) (g k : Grip) : HeldOk (upC n a) (upG n g) (upC n b) (upG n k) ↔ HeldOk a g b k := by
  unfold HeldOk
  show (∀ q, q < b.held.length → g.fingers.getD (fI (a.down.map (upP n)) (b.held.getD q 0)) 0 = k.fingers.getD (fI (b.down.map (upP n)) (b.held.getD q 0)) 0) ↔ _
  simp only [fI_up]
theorem step_up (h : Hand) (a b : Chord) (g k : Grip) : StepOk h (upC n a) (upG n g) (upC n b) (upG n k) ↔ StepOk h a g b k := by
  unfold StepOk
  rw [held_up, both_up, show dist (upG n g).pos (upG n k).pos = dist g.pos k.pos from dist_up _ _]
theorem plU_up (d : List (Int × Int)) (fg : List Int) (v : Int) : ∀ {k : Nat}, k ≤ d.length → plU (d.map (upP n)) fg v k = (plU d fg v k).map (upP n)
  | 0, _ => rfl
  | k + 1, hk => by
    rw [plU, plU, plU_up d fg v (by omega), up_get (by omega)]
    split
    · rw [List.map_append]; rfl
    · rfl
theorem plF_up (c : Chord) (g : Grip) (f : Nat) : plF (upC n c) (upG n g) f = (plF c g f).map (upP n) := by
  unfold plF
  rw [up_len]
  exact plU_up _ _ _ (Nat.le_refl _)
theorem gI_map {α β : Type} (p : β → Bool) (f : α → β) (l : List α) : gI p (l.map f) = gI (fun x => p (f x)) l := by
  induction l with
  | nil => rfl
  | cons x l ih => rw [List.map_cons, gI, gI, ih]
theorem upP_inj (x y : Int × Int) : upP n x = upP n y ↔ x = y := by
  unfold upP
  constructor
  · intro e
    obtain ⟨a, b⟩ := x; obtain ⟨c, d⟩ := y
    injection e with e1 e2
    simp only at e1 e2
    rw [e1, show b = d by omega]
  · intro e; rw [e]
theorem mem_up (x : Int × Int) (l : List (Int × Int)) : memB (upP n x) (l.map (upP n)) = memB x l := by
  unfold memB
  rw [gI_map, List.length_map]
  simp only [upP_inj]
theorem cmn_up (a b : List (Int × Int)) : cmnB (a.map (upP n)) (b.map (upP n)) = cmnB a b := by
  unfold cmnB
  rw [gI_map, List.length_map]
  simp only [mem_up]
theorem ownT_up (h : Hand) (c : Chord) (g : Grip) (k : Nat) : ownT h (upC n c) (upG n g) k = ownT h c g k := by
  unfold ownT
  rw [plF_up, List.length_map]
  split
  · rfl
  · rename_i h0
    rw [up_get (by omega)]
    show _ + h.stretch * dist (_ + n) (g.pos + n + ((k + 1 : Nat) : Int) - 1) = _
    rw [show g.pos + n + ((k + 1 : Nat) : Int) - 1 = (g.pos + ((k + 1 : Nat) : Int) - 1) + n by omega, dist_up]
theorem ownU_up (h : Hand) (c : Chord) (g : Grip) : ∀ k, ownU h (upC n c) (upG n g) k = ownU h c g k
  | 0 => rfl
  | k + 1 => by rw [ownU, ownU, ownU_up h c g k, ownT_up]
theorem ownC_up (h : Hand) (c : Chord) (g : Grip) : ownC h (upC n c) (upG n g) = ownC h c g := ownU_up h c g _
theorem slU_up (h : Hand) (a b : Chord) (g k : Grip) : ∀ f, slU h (upC n a) (upG n g) (upC n b) (upG n k) f = slU h a g b k f
  | 0 => rfl
  | f + 1 => by
    rw [slU, slU, slU_up h a b g k f]
    unfold slT
    rw [plF_up, plF_up, cmn_up, List.length_map, List.length_map]
theorem stepC_up (h : Hand) (a b : Chord) (g k : Grip) : stepC h (upC n a) (upG n g) (upC n b) (upG n k) = stepC h a g b k := by
  unfold stepC
  rw [show dist (upG n g).pos (upG n k).pos = dist g.pos k.pos from dist_up _ _, slU_up]
  simp only [both_up]
theorem prC_up {h : Hand} {l : List Chord} {g : List Grip} {k : Nat} (hk : k < g.length) : prC h (l.map (upC n)) (g.map (upG n)) k = prC h l g k := by
  unfold prC
  rw [chs_up, chs_up, gs_up hk, gs_up (by omega : k - 1 < g.length), ownC_up, stepC_up]
theorem prOk_up {h : Hand} {l : List Chord} {g : List Grip} {k : Nat} (hp : PrOk h l g k) (h0 : 0 ≤ n) (hk : k < g.length) (ht : (g.getD k noG).pos + n ≤ h.top) : PrOk h (l.map (upC n)) (g.map (upG n)) k := by
  unfold PrOk
  rw [chs_up, chs_up, gs_up hk, gs_up (by omega : k - 1 < g.length), step_up]
  exact ⟨fit_up hp.1 h0 ht, hp.2⟩
end
/-- A fingering that is valid. -/
theorem val_ok {h : Hand} {l : List Chord} {g : List Grip} (hv : (valR h l g).2.2 = 0) : bothE h l = 0 ∧ g.length = l.length ∧ (∀ k, k < l.length → PrOk h l g k) ∧ valR h l g = (smI (prL h l g l.length) l.length, 0, 0) := by
  have key : ∀ c, cosR h l g = c → c.2.2 = 0 → bothE h l = 0 ∧ g.length = l.length ∧ prN h l g l.length = l.length ∧ c = (prL h l g l.length, 0, 0) := by
    intro c hc h0
    subst hc
    rw [cosR] at h0 ⊢
    by_cases h1 : bothE h l = 0
    · rw [if_pos h1] at h0 ⊢
      by_cases h2 : g.length = l.length
      · rw [if_pos h2] at h0 ⊢
        by_cases h3 : prN h l g l.length = l.length
        · rw [if_pos h3]; exact ⟨h1, h2, h3, rfl⟩
        · rw [if_neg h3] at h0; cases h0
      · rw [if_neg h2] at h0; cases h0
    · rw [if_neg h1] at h0; exact absurd h0 h1
  obtain ⟨h1, h2, h3, h4⟩ := key _ rfl hv
  refine ⟨h1, h2, prN_ok h3, ?_⟩
  unfold valR
  rw [h4, prL_len]
theorem val_is {h : Hand} {l : List Chord} {g : List Grip} (h1 : bothE h l = 0) (h2 : g.length = l.length) (h3 : ∀ k, k < l.length → PrOk h l g k) : valR h l g = (smI (prL h l g l.length) l.length, 0, 0) := by
  have e : cosR h l g = (prL h l g l.length, 0, 0) := by rw [cosR, if_pos h1, if_pos h2, if_pos (prN_all h3)]
  unfold valR
  rw [e, prL_len]
theorem both_is {h : Hand} {l : List Chord} (h1 : HandOk h) (h2 : l.length ≤ 400) (h3 : SeqOk l) : bothE h l = 0 := by
  have e1 : chkE h = 0 := by rw [chkE, if_pos h1]
  rw [bothE, if_pos e1, seqE, if_neg (by omega), if_pos (by simpa using h3)]
/-- What is raised is valid at the same cost. -/
theorem val_up {n : Int} {h : Hand} {l : List Chord} {g : List Grip} (hv : (valR h l g).2.2 = 0) (h0 : 0 ≤ n) (hf : ∀ k, k < l.length → ∀ i, i < (l.getD k noC).down.length → ((l.getD k noC).down.getD i (0, 0)).2 + n ≤ 18)
    (ht : ∀ k, k < l.length → (g.getD k noG).pos + n ≤ h.top) : valR h (l.map (upC n)) (g.map (upG n)) = ((valR h l g).1, 0, 0) := by
  obtain ⟨h1, h2, h3, h4⟩ := val_ok hv
  obtain ⟨a1, a2, a3⟩ := both_ok h1
  rw [val_is (both_is a1 (by rw [List.length_map]; exact a2) (seq_up a3 h0 hf)) (by rw [List.length_map, List.length_map, h2]) fun k hk => by
    rw [List.length_map] at hk
    exact prOk_up (h3 k hk) h0 (by omega) (ht k hk), h4, List.length_map]
  have e : prL h (l.map (upC n)) (g.map (upG n)) l.length = prL h l g l.length := by
    unfold prL
    exact List.map_congr_left fun k hk => prC_up (by rw [h2]; exact List.mem_range.1 hk)
  rw [e]
end Go.Proofs.Ytojjdkoglhecbaa
namespace Go.Proofs.Ytojjdkoglhecbaa
open Go.RowKit
set_option linter.unusedSimpArgs false
set_option linter.unusedVariables false

/-- A number modulo n. -/
def rsI (a n : Int) : Int := (a.tmod n + n).tmod n
theorem rs_bound {n : Int} (a : Int) (h : 0 < n) : 0 ≤ rsI a n ∧ rsI a n < n := by
  have := Int.lt_tmod_of_pos a h
  exact ⟨Int.tmod_nonneg _ (by omega), Int.tmod_lt_of_pos _ h⟩
theorem rest_fn (a n : Int) (h : 0 < n) (h2 : n ≤ 4611686018427387904) : Fn Try.prog Gd 30 [vint a, vint n] (vint (rsI a n)) := by
  refine Fn.of_vx0 k_theorbolaw06_rest (by simp) rfl ?_
  have h3 := Int.lt_tmod_of_pos a h
  have h4 := Int.tmod_lt_of_pos a h
  have w1 : IntKind.i64.wrap (a.tmod n + n) = a.tmod n + n := w_in (by omega)
  have n0 : ¬ n = 0 := by omega
  unfold c_theorbolaw06_rest rsI
  repeat' (with_reducible first | refine x_ops ?_ | refine wk ?_ | ((first | refine gd1 ?_ ?_ | refine gd2 ?_ ?_ | refine gd3 ?_ ?_) <;> (first | exact @False.elim _ | intro hc)))
  exact finV_lit vv rfl

/-- The grip of a chord that is chosen. -/
noncomputable def chG (h : Hand) (l : List Chord) (picks : List Int) (k : Nat) : Grip :=
  (grR h (l.getD k noC)).1.getD (rsI (if 0 < picks.length then picks.getD (k % picks.length) 0 else 0) ((grR h (l.getD k noC)).1.length : Int)).toNat noG
noncomputable def chU (h : Hand) (l : List Chord) (picks : List Int) (k : Nat) : List Grip := (List.range k).map (chG h l picks)
theorem chU_len (h : Hand) (l : List Chord) (picks : List Int) (k : Nat) : (chU h l picks k).length = k := by simp [chU]
theorem chU_succ (h : Hand) (l : List Chord) (picks : List Int) (k : Nat) : chU h l picks (k + 1) = chU h l picks k ++ [chG h l picks k] := by simp [chU, List.range_succ]
open Classical in
/-- What chosen answers. -/
noncomputable def choL (h : Hand) (l : List Chord) (picks : List Int) : List Grip :=
  if ∀ k, k < l.length → 0 < (grR h (l.getD k noC)).1.length then chU h l picks l.length else []
theorem choL_all {h : Hand} {l : List Chord} {picks : List Int} (ha : ∀ k, k < l.length → 0 < (grR h (l.getD k noC)).1.length) : choL h l picks = chU h l picks l.length := by rw [choL, if_pos ha]
theorem choL_none {h : Hand} {l : List Chord} {picks : List Int} {k : Nat} (hk : k < l.length) (h0 : (grR h (l.getD k noC)).1.length = 0) : choL h l picks = [] := by rw [choL, if_neg fun ha => Nat.ne_of_gt (ha k hk) h0]
theorem chG_mem {h : Hand} {l : List Chord} {picks : List Int} {k : Nat} (h0 : 0 < (grR h (l.getD k noC)).1.length) : chG h l picks k ∈ (grR h (l.getD k noC)).1 := by
  have hb := rs_bound (if 0 < picks.length then picks.getD (k % picks.length) 0 else 0) (n := ((grR h (l.getD k noC)).1.length : Int)) (by omega)
  have hlt : (rsI (if 0 < picks.length then picks.getD (k % picks.length) 0 else 0) ((grR h (l.getD k noC)).1.length : Int)).toNat < (grR h (l.getD k noC)).1.length := by omega
  rw [chG]
  have gen : ∀ (L : List Grip) (j : Nat), j < L.length → L.getD j noG ∈ L := fun L j hj => by
    rw [List.getD_eq_getElem?_getD, List.getElem?_eq_getElem hj]
    exact List.getElem_mem _
  exact gen _ _ hlt
theorem choL_fits {h : Hand} {l : List Chord} (hl : Fits l) (hl4 : l.length ≤ 4398046511103) (picks : List Int) : FitsG (choL h l picks) := by
  by_cases ha : ∀ k, k < l.length → 0 < (grR h (l.getD k noC)).1.length
  · rw [choL_all ha]
    refine ⟨by rw [chU_len]; omega, fun g hg => ?_⟩
    obtain ⟨k, hk, rfl⟩ := List.mem_map.1 hg
    exact (grR_fits h _ (hl.at k)).2 _ (chG_mem (ha k (List.mem_range.1 hk)))
  · rw [choL, if_neg ha]; exact ⟨by simp, fun g hg => by cases hg⟩

set_option maxHeartbeats 2000000 in
theorem chosen_fn (h : Hand) (l : List Chord) (hl : Fits l) (hl4 : l.length ≤ 4398046511103) (picks : List Int) (hp : picks.length ≤ 17592186044416) : Fn Try.prog Gd 55 [h.val, tCs l, tIs picks] (tGs (choL h l picks)) := by
  refine Fn.of_vx0 k_theorbolaw06_chosen (by simp) (by rw [V.pures, pure_hand, V.pures, pure_tCs, V.pures, pure_tIs]; rfl) ?_
  unfold c_theorbolaw06_chosen Hand.val tCs tGs tIs
  repeat' (with_reducible first | refine x_ops ?_ | refine wk ?_ | ((first | refine gd1 ?_ ?_ | refine gd2 ?_ ?_ | refine gd3 ?_ ?_) <;> (first | exact @False.elim _ | intro hc)))
  refine x_loopW w_theorbolaw06_chosen_p9 (by kernel_rfl) l.length (fun k t m => t 8 = vint (k : Int) ∧ (∃ tok, t 7 = .sl k ((chU h l picks k).flatMap Grip.cells) tok ∧ Apb m tok k 53 2) ∧
    m.obj 0 = some (.box [tIs h.low, tIs h.high, tBs h.barre, vint h.top, vint h.jump, vint h.shift, vint h.lift, vint h.bar, vint h.stretch, vint h.slide] 25) ∧ 0 < m.next ∧ ∀ i, i < k → 0 < (grR h (l.getD i noC)).1.length) ?_ ?_
  · exact ⟨vv, ⟨.exact, vv, .inl rfl⟩, vv, by ((refine ve ?_; try exact True.intro)); try omega, fun i h => by omega⟩
  rintro k t m hk ⟨h8, ⟨tok, h7, hap⟩, hm, hn, hI⟩
  replace hI := Hid.mk hI
  by_cases hlt : k < l.length
  case neg =>
    have hkl : k = l.length := by omega
    subst hkl
    have c1 : ¬ (l.length : Int) < (l.length : Int) := by omega
    rw [choL_all hI.out]
    have e5 := Hid.mk (chU_len h l picks l.length)
    generalize chU h l picks l.length = L at *
    clear hap
    repeat' (with_reducible first | refine x_ops ?_ | refine wk ?_ | ((first | refine gd1 ?_ ?_ | refine gd2 ?_ ?_ | refine gd3 ?_ ?_) <;> (first | exact @False.elim _ | intro hc)))
    exact finV_ret vv (by rw [e5.out]; exact .sl _ _ _)
  have c1 : (k : Int) < (l.length : Int) := by omega
  have g1 := chs_take hlt
  have g2 := chs_len l
  have c3 : k * 3 + 3 ≤ l.length * 3 := by omega
  have w2 := w_add1 (k := k) (by omega)
  have C1 := Grips_fn h (l.getD k noC) (hl.at k)
  have hal := grR_fits h (l.getD k noC) (hl.at k)
  have cG : Hid (chG h l picks k = (grR h (l.getD k noC)).1.getD (rsI (if 0 < picks.length then picks.getD (k % picks.length) 0 else 0) ((grR h (l.getD k noC)).1.length : Int)).toNat noG) := ⟨rfl⟩
  have cN : Hid ((grR h (l.getD k noC)).1.length = 0 → choL h l picks = []) := ⟨choL_none hlt⟩
  have cA : Hid (0 < (grR h (l.getD k noC)).1.length → ∀ i, i < k + 1 → 0 < (grR h (l.getD i noC)).1.length) := ⟨fun h0 i hi => by
    by_cases e : i = k
    · subst e; exact h0
    · exact hI.out i (by omega)⟩
  unfold Hand.val Chord.val Chord.cells at C1
  generalize l.getD k noC = cb at *
  generalize grR h cb = gr at *
  obtain ⟨G, ge⟩ := gr
  dsimp only at C1 hal cG cN cA
  unfold tGs at C1
  have hG1 := hal.1
  by_cases h0 : G.length = 0
  · have e1 : ((G.length : Int) == 0) = true := by rw [h0]; rfl
    rw [cN.out h0]
    clear h0 hap
    repeat' (with_reducible first | refine x_ops ?_ | refine wk ?_ | (with_reducible refine xc (C1) ?_) | ((first | refine gd1 ?_ ?_ | refine gd2 ?_ ?_ | refine gd3 ?_ ?_) <;> (first | exact @False.elim _ | intro hc)))
    exact finV_ret vv (.sl _ _ _)
  have e1 : ((G.length : Int) == 0) = false := by rw [beq_eq_false_iff_ne]; omega
  have hA := Hid.mk (cA.out (by omega))
  have gG := gs_len G
  replace hlt := Hid.mk hlt
  by_cases hp0 : 0 < picks.length
  · rw [if_pos hp0] at cG
    have c4 : (0 : Int) < (picks.length : Int) := by omega
    have g5 := ints_at (l := picks) (k := k % picks.length) (Nat.mod_lt _ hp0)
    have c5 : ((k % picks.length : Nat) : Int) < (picks.length : Int) := by have := Nat.mod_lt k hp0; omega
    have n0 : ¬ (picks.length : Int) = 0 := by omega
    have tm : (k : Int).tmod (picks.length : Int) = ((k % picks.length : Nat) : Int) := rfl
    have RS := rest_fn (picks.getD (k % picks.length) 0) (G.length : Int) (by omega) (by omega)
    have hb := rs_bound (picks.getD (k % picks.length) 0) (n := (G.length : Int)) (by omega)
    generalize picks.getD (k % picks.length) 0 = pk at *
    obtain ⟨r, hr⟩ : ∃ r : Nat, rsI pk (G.length : Int) = (r : Int) := ⟨_, (Int.toNat_of_nonneg hb.1).symm⟩
    rw [hr] at RS cG hb
    rw [Int.toNat_natCast] at cG
    have c6 : (r : Int) < (G.length : Int) := hb.2
    have g6 := gs_take (l := G) (k := r) (by omega)
    have c7 : r * 2 + 2 ≤ G.length * 2 := by omega
    clear hb hr h0
    repeat' (with_reducible first | refine x_ops ?_ | refine wk ?_ | (with_reducible refine xc (C1) ?_) | (with_reducible refine xc (RS) ?_) | ((first | refine gd1 ?_ ?_ | refine gd2 ?_ ?_ | refine gd3 ?_ ?_) <;> (first | exact @False.elim _ | intro hc)))
    refine x_appb (xs := (chU h l picks k).flatMap Grip.cells) (ys := Grip.cells (G.getD r noG)) vw (by unfold Grip.cells; exact vw) (hap.mono (fun _ _ _ => rfl) (Nat.le_add_right _ _)) (by rw [gs_len, chU_len]) rfl (by omega) (by unfold Go.maxLen; omega) (by show m.next + 9 < m.next + 11; omega) ?_
    intro tok' m' hap' hn' hbox hobj
    have ho := hbox 0 _ _ hm (by show ¬ 0 = m.next + 9; omega)
    replace hn' : m'.next = m.next + 11 := hn'
    have hn2 : 0 < m'.next := by omega
    clear hbox hobj hap
    repeat' (with_reducible first | refine x_ops ?_ | refine wk ?_ | ((first | refine gd1 ?_ ?_ | refine gd2 ?_ ?_ | refine gd3 ?_ ?_) <;> (first | exact @False.elim _ | intro hc)))
    exact nx hlt.out ⟨vv, ⟨tok', by rw [chU_succ, cG.out, List.flatMap_append]; ((refine ve ?_; try exact True.intro)); simp, hap'.mono (fun _ _ _ => rfl) (Nat.le_of_eq hn')⟩, ho, by ((refine ve ?_; try exact True.intro)); omega, hA.out⟩
  · have c4 : ¬ (0 : Int) < (picks.length : Int) := by omega
    rw [if_neg hp0] at cG
    have RS := rest_fn 0 (G.length : Int) (by omega) (by omega)
    have hb := rs_bound 0 (n := (G.length : Int)) (by omega)
    obtain ⟨r, hr⟩ : ∃ r : Nat, rsI 0 (G.length : Int) = (r : Int) := ⟨_, (Int.toNat_of_nonneg hb.1).symm⟩
    rw [hr] at RS cG hb
    rw [Int.toNat_natCast] at cG
    have c6 : (r : Int) < (G.length : Int) := hb.2
    have g6 := gs_take (l := G) (k := r) (by omega)
    have c7 : r * 2 + 2 ≤ G.length * 2 := by omega
    clear hb hr h0
    repeat' (with_reducible first | refine x_ops ?_ | refine wk ?_ | (with_reducible refine xc (C1) ?_) | (with_reducible refine xc (RS) ?_) | ((first | refine gd1 ?_ ?_ | refine gd2 ?_ ?_ | refine gd3 ?_ ?_) <;> (first | exact @False.elim _ | intro hc)))
    refine x_appb (xs := (chU h l picks k).flatMap Grip.cells) (ys := Grip.cells (G.getD r noG)) vw (by unfold Grip.cells; exact vw) (hap.mono (fun _ _ _ => rfl) (Nat.le_add_right _ _)) (by rw [gs_len, chU_len]) rfl (by omega) (by unfold Go.maxLen; omega) (by show m.next + 9 < m.next + 11; omega) ?_
    intro tok' m' hap' hn' hbox hobj
    have ho := hbox 0 _ _ hm (by show ¬ 0 = m.next + 9; omega)
    replace hn' : m'.next = m.next + 11 := hn'
    have hn2 : 0 < m'.next := by omega
    clear hbox hobj hap
    repeat' (with_reducible first | refine x_ops ?_ | refine wk ?_ | ((first | refine gd1 ?_ ?_ | refine gd2 ?_ ?_ | refine gd3 ?_ ?_) <;> (first | exact @False.elim _ | intro hc)))
    exact nx hlt.out ⟨vv, ⟨tok', by rw [chU_succ, cG.out, List.flatMap_append]; ((refine ve ?_; try exact True.intro)); simp, hap'.mono (fun _ _ _ => rfl) (Nat.le_of_eq hn')⟩, ho, by ((refine ve ?_; try exact True.intro)); omega, hA.out⟩
end Go.Proofs.Ytojjdkoglhecbaa
namespace Go.Proofs.Ytojjdkoglhecbaa
open Go.RowKit
set_option linter.unusedSimpArgs false
set_option linter.unusedVariables false

theorem take_getD {α : Type} {l : List α} {i : Nat} (d : α) (hi : i < l.length) : l.take (i + 1) = l.take i ++ [l.getD i d] := by
  rw [List.take_succ_eq_append_getElem hi, List.getD_eq_getElem?_getD, List.getElem?_eq_getElem hi]; rfl
theorem chs_at {l : List Chord} {k j : Nat} (h : k < l.length) (hj : j < 3) : (l.flatMap Chord.cells)[k * 3 + j]? = (l.getD k noC).cells[j]? := flat_at chs_l noC h hj
theorem pls_cells (p : Int × Int) : plE p = [vint p.1, vint p.2] := rfl
/-- Two rows of different things are two rows. -/
theorem Apb.ne {m : Mm} {k k' : Tok} {n n' : Nat} {e e' : TypeId} {z z' : Nat} (h : Apb m k n e z) (h' : Apb m k' n' e' z') (he : e ≠ e') : ∀ q, k = .own q → k' ≠ .own q := by
  rintro q rfl rfl
  rcases h with h | ⟨t, h1, _, h2⟩
  · cases h
  · rcases h' with h | ⟨t', h3, _, h4⟩
    · cases h
    · injection h1 with h1; injection h3 with h3
      subst h1; subst h3
      rw [h2] at h4
      injection h4 with h4
      injection h4 with _ h4
      exact he h4
/-- What is left of a row by another one's growth. -/
theorem Apb.keep {m m' : Mm} {k : Tok} {n : Nat} {e : TypeId} {z : Nat} (h : Apb m k n e z) (hn : m.next ≤ m'.next) (ho : ∀ q, q < m.next → k = .own q → m'.obj q = m.obj q) : Apb m' k n e z := by
  rcases h with h | ⟨t, h1, h2, h3⟩
  · exact .inl h
  · exact .inr ⟨t, h1, Nat.lt_of_lt_of_le h2 hn, (ho t h2 h1).trans h3⟩
theorem Apb.box {m : Mm} {k : Tok} {n : Nat} {e : TypeId} {z : Nat} (h : Apb m k n e z) {q : Nat} {cs : List V} {t : TypeId} (hq : m.obj q = some (.box cs t)) : k ≠ .own q := by
  rintro rfl
  rcases h with h | ⟨t, h1, _, h3⟩
  · cases h
  · injection h1 with h1; subst h1; rw [hq] at h3; cases h3

set_option maxHeartbeats 4000000 in
theorem raised_tail (h : Hand) (l : List Chord) (hl : Fits l) (h64 : l.length ≤ 64) (G : List Grip) (hG : FitsG G) (by_ : Int) {t : Nat → V} {m : Mm} (h2 : t 2 = vint by_) (h7 : t 7 = .ptr 7 0) (h8 : t 8 = .sl l.length (l.flatMap Chord.cells) .no) (h9 : ∃ k, t 9 = .sl G.length (G.flatMap Grip.cells) k)
    (o7 : m.obj 7 = some (.box [tIs h.low, tIs h.high, tBs h.barre, vint h.top, vint h.jump, vint h.shift, vint h.lift, vint h.bar, vint h.stretch, vint h.slide] 25)) (hn : 8 ≤ m.next) :
    c_theorbolaw06_HandRaised_p30.vx Try.prog Gd (FinV [.t 6] (vbool true)) ⟨t, m⟩ := by
  obtain ⟨k9, h9⟩ := h9
  unfold c_theorbolaw06_HandRaised_p30
  have C1 := valid_fn h l hl G hG
  have W := works_fn
  have hval := Hid.mk (fun hv => val_ok (h := h) (l := l) (g := G) hv)
  unfold Hand.val tCs tGs at C1
  obtain ⟨v, hv⟩ : ∃ v, v = valR h l G := ⟨_, rfl⟩
  rw [← hv] at C1
  replace hv := Hid.mk hv
  obtain ⟨v1, v2, v3⟩ := v
  dsimp only at C1
  by_cases h0 : v3 = 0
  case neg =>
    have e1 : (v3 == 0) = false := by simpa using h0
    clear h0
    repeat' (with_reducible first | refine x_ops ?_ | refine wk ?_ | (with_reducible refine xc (C1) ?_) | (with_reducible refine xc (W) ?_) | ((first | refine gd1 ?_ ?_ | refine gd2 ?_ ?_ | refine gd3 ?_ ?_) <;> (first | exact @False.elim _ | intro hc)))
    exact finV_dry rfl vv
  subst h0
  have hv3 : (valR h l G).2.2 = 0 := by rw [← hv.out]
  obtain ⟨hb, hlen, hpr, _⟩ := hval.out hv3
  obtain ⟨hk, _, hseq⟩ := both_ok hb
  have htop := hk.top
  have hnb := rs_bound by_ (n := 18) (by omega)
  have RS := rest_fn by_ 18 (by omega) (by omega)
  obtain ⟨n, hne⟩ : ∃ n, n = rsI by_ 18 := ⟨_, rfl⟩
  rw [← hne] at RS hnb
  have e1 : ((G.length : Int) == (l.length : Int)) = true := by rw [hlen]; simp
  have hlen0 := Hid.mk hlen
  have hv30 := Hid.mk hv3
  have hpr0 := Hid.mk hpr
  have hseq0 := Hid.mk hseq
  have hb0 := Hid.mk hb
  clear hlen hv3 hpr hseq hb hval hne
  have C2 := fun l' g' hl' hg' => valid_fn h l' hl' g' hg'
  unfold Hand.val tCs tGs at C2
  repeat' (with_reducible first | refine x_ops ?_ | refine wk ?_ | (with_reducible refine xc (C1) ?_) | (with_reducible refine xc (RS) ?_) | ((first | refine gd1 ?_ ?_ | refine gd2 ?_ ?_ | refine gd3 ?_ ?_) <;> (first | exact @False.elim _ | intro hc)))
  clear e1
  refine x_loopW w_theorbolaw06_HandRaised_p20 (by kernel_rfl) l.length (fun i t m => t 15 = vint (i : Int) ∧ (∃ tk1, t 13 = .sl i (((l.take i).map (upC n)).flatMap Chord.cells) tk1 ∧ Apb m tk1 i 47 3) ∧ (∃ tk2, t 14 = .sl i (((G.take i).map (upG n)).flatMap Grip.cells) tk2 ∧ Apb m tk2 i 53 2) ∧
    m.obj 7 = some (.box [tIs h.low, tIs h.high, tBs h.barre, vint h.top, vint h.jump, vint h.shift, vint h.lift, vint h.bar, vint h.stretch, vint h.slide] 25) ∧ 8 ≤ m.next ∧
    (∀ k, k < i → (∀ j, j < (l.getD k noC).down.length → ((l.getD k noC).down.getD j (0, 0)).2 + n ≤ 18) ∧ (G.getD k noG).pos + n ≤ h.top)) ?_ ?_
  · exact ⟨vv, ⟨.exact, vv, .inl rfl⟩, ⟨.exact, vv, .inl rfl⟩, vw, by ((refine ve ?_; try exact True.intro)); exact hn, fun i h => by omega⟩
  clear o7 hn
  rintro i ti mi hi ⟨h15, ⟨tk1, h13, ha1⟩, ⟨tk2, h14, ha2⟩, o7, hn, hI⟩
  replace hI := Hid.mk hI
  have ha10 := Hid.mk ha1
  have ha20 := Hid.mk ha2
  clear ha1 ha2
  by_cases hlt : i < l.length
  case neg =>
    have hil : i = l.length := by omega
    subst hil
    have c1 : ¬ (l.length : Int) < (l.length : Int) := by omega
    have n7 : 7 < mi.next := by omega
    have hfl : Fits (l.map (upC n)) := ⟨by rw [List.length_map]; exact hl.1, fun c hc => by
      obtain ⟨c', hc', rfl⟩ := List.mem_map.1 hc
      have := hl.2 c' hc'
      exact ⟨by rw [up_len]; exact this.1, this.2⟩⟩
    have hfg : FitsG (G.map (upG n)) := ⟨by rw [List.length_map]; exact hG.1, fun c hc => by
      obtain ⟨c', hc', rfl⟩ := List.mem_map.1 hc
      exact hG.2 c' hc'⟩
    have C3 := C2 _ _ hfl hfg
    have VU := val_up hv30.out hnb.1 (fun k hk => (hI.out k hk).1) (fun k hk => (hI.out k hk).2)
    rw [VU, ← hv.out] at C3
    have hlg := hlen0.out
    rw [List.take_of_length_le (Nat.le_refl _)] at h13
    rw [← hlg, List.take_of_length_le (Nat.le_refl _)] at h14
    rw [List.length_map, List.length_map] at C3
    dsimp only at C3
    have hx : (v1 == v1) = true := by simp
    clear VU hlg hi hlt C2 C1
    repeat' (with_reducible first | refine x_ops ?_ | refine wk ?_ | (with_reducible refine xc (C3) ?_) | (with_reducible refine xc (W) ?_) | ((first | refine gd1 ?_ ?_ | refine gd2 ?_ ?_ | refine gd3 ?_ ?_) <;> (first | exact @False.elim _ | intro hc)))
    exact finV_dry rfl vv
  have c1 : (i : Int) < (l.length : Int) := by omega
  have hiG : i < G.length := by rw [hlen0.out]; exact hlt
  have cG : (i : Int) < (G.length : Int) := by omega
  have hpos := (hpr0.out i hlt).1.pos
  have hSi := (hseq0.out i hlt).1
  have gA0 := chs_at (j := 0) hlt (by decide)
  have gA1 := chs_at (j := 1) hlt (by decide)
  have gA2 := chs_at (j := 2) hlt (by decide)
  rw [Nat.add_zero] at gA0
  have gL := chs_len l
  have gB0 := gs_at0 hiG
  have gB1 := gs_at1 hiG
  have gG := gs_len G
  have tkL := Hid.mk (take_getD noC hlt)
  have tkG := Hid.mk (take_getD noG hiG)
  have w2 := w_add1 (k := i) (by omega)
  have hI2 : Hid (∀ c g, l.getD i noC = c → G.getD i noG = g → (∀ j, j < c.down.length → (c.down.getD j (0, 0)).2 + n ≤ 18) → g.pos + n ≤ h.top → ∀ k, k < i + 1 → (∀ j, j < (l.getD k noC).down.length → ((l.getD k noC).down.getD j (0, 0)).2 + n ≤ 18) ∧ (G.getD k noG).pos + n ≤ h.top) := ⟨fun c g h1 h2 h3 h4 k hk => by
    by_cases e : k = i
    · subst e; rw [h1, h2]; exact ⟨h3, h4⟩
    · exact hI.out k (by omega)⟩
  have hI3 := Hid.mk (hI2.out _ _ rfl rfl)
  have hfc := hl.at i
  clear hI2
  generalize l.getD i noC = c at *
  generalize G.getD i noG = g at *
  rw [show c.cells[0]? = some (tPs c.down) from rfl] at gA0
  rw [show c.cells[1]? = some (tIs c.held) from rfl] at gA1
  rw [show c.cells[2]? = some (tIs c.opn) from rfl] at gA2
  have h14 := chord_len hSi
  have hfr := Hid.mk fun j (hj : j < c.down.length) => (hSi.each j hj).2
  replace hlt := Hid.mk hlt
  have x7 : ¬ 7 = mi.next + 11 := by omega
  clear hSi hfc hiG C1 C2
  repeat' (with_reducible first | refine x_ops ?_ | refine wk ?_ | ((first | refine gd1 ?_ ?_ | refine gd2 ?_ ?_ | refine gd3 ?_ ?_) <;> (first | exact @False.elim _ | intro hc)))
  refine x_loopW w_theorbolaw06_HandRaised_p11 (by kernel_rfl) c.down.length (fun j t m' => t 86 = vint (j : Int) ∧ (∃ tk3, m'.obj (mi.next + 11) = some (.box [.sl j (((c.down.take j).map (upP n)).flatMap plE) tk3, tIs c.held, tIs c.opn] 47) ∧ Apb m' tk3 j 92 2) ∧ (Apb m' tk1 i 47 3 ∧ Apb m' tk2 i 53 2) ∧
    m'.obj 7 = some (.box [tIs h.low, tIs h.high, tBs h.barre, vint h.top, vint h.jump, vint h.shift, vint h.lift, vint h.bar, vint h.stretch, vint h.slide] 25) ∧ mi.next + 13 ≤ m'.next ∧ ∀ j', j' < j → (c.down.getD j' (0, 0)).2 + n ≤ 18) ?_ ?_
  · exact ⟨vv, ⟨.exact, vv, .inl rfl⟩, ⟨ha10.out.keep (by simp only [put_next]; omega) (fun q hq _ => by (simp only [put_obj]; repeat rw [if_neg (by omega)])), ha20.out.keep (by simp only [put_next]; omega) (fun q hq _ => by (simp only [put_obj]; repeat rw [if_neg (by omega)]))⟩, vw, by simp only [put_next]; omega, fun j hj => by omega⟩
  clear o7 x7 ha10 ha20
  rintro j tj mj hj ⟨h86, ⟨tk3, oX, ha3⟩, ⟨ha1, ha2⟩, o7, hnj, hJ⟩
  replace hJ := Hid.mk hJ
  have ha10 := Hid.mk ha1
  have ha20 := Hid.mk ha2
  have ha30 := Hid.mk ha3
  clear ha1 ha2 ha3
  have gD := pls_len c.down
  by_cases hjt : j < c.down.length
  · have c3 : (j : Int) < (c.down.length : Int) := by omega
    have g3 := pls_take hjt
    have c4 : j * 2 + 2 ≤ c.down.length * 2 := by omega
    have w3 := w_add1 (k := j) (by omega)
    have hf := hfr.out j hjt
    have tkD := Hid.mk (take_getD (0, 0) hjt)
    have hJ2 : Hid ((c.down.getD j (0, 0)).2 + n ≤ 18 → ∀ j', j' < j + 1 → (c.down.getD j' (0, 0)).2 + n ≤ 18) := ⟨fun hh j' hj' => by
      by_cases e : j' = j
      · subst e; exact hh
      · exact hJ.out j' (by omega)⟩
    generalize c.down.getD j (0, 0) = p at *
    have w4 : IntKind.i64.wrap (p.2 + n) = p.2 + n := w_in (by omega)
    have xX : ¬ mi.next + 11 = mj.next + 2 := by omega
    have x7 : ¬ 7 = mj.next + 2 := by omega
    have xY : ¬ mj.next + 2 = mi.next + 11 := by omega
    by_cases h18 : 18 < p.2 + n
    · clear hf
      repeat' (with_reducible first | refine x_ops ?_ | refine wk ?_ | (with_reducible refine xc (W) ?_) | ((first | refine gd1 ?_ ?_ | refine gd2 ?_ ?_ | refine gd3 ?_ ?_) <;> (first | exact @False.elim _ | intro hc)))
      exact finV_dry rfl vv
    have hJ3 := Hid.mk (hJ2.out (by omega))
    have lj : ((c.down.take j).map (upP n)).length = j := by rw [List.length_map, List.length_take]; omega
    have lj2 := Hid.mk lj
    clear hf lj
    repeat' (with_reducible first | refine x_ops ?_ | refine wk ?_ | ((first | refine gd1 ?_ ?_ | refine gd2 ?_ ?_ | refine gd3 ?_ ?_) <;> (first | exact @False.elim _ | intro hc)))
    refine x_appc (xs := ((c.down.take j).map (upP n)).flatMap plE) (ys := plE (upP n p)) vw (by unfold plE upP; exact vw) (ha30.out.keep (by simp only [put_next]; omega) (fun q hq _ => by (simp only [put_obj]; repeat rw [if_neg (by omega)]))) (by rw [pls_len, lj2.out]) rfl (by omega) (by unfold Go.maxLen; omega) (by simp only [put_next]; omega) ?_
    intro k' m' hap' hn' hkeep hown
    replace hn' : m'.next = mj.next + 17 := hn'
    have kX : ∀ q, q < mj.next → tk3 ≠ .own q → m'.obj q = mj.obj q := fun q hq hne => (hkeep q (by omega) hne).trans (by (simp only [put_obj]; repeat rw [if_neg (by omega)]))
    have pX := (kX _ (by omega) (ha30.out.box oX)).trans oX
    have p7 := (kX 7 (by omega) (ha30.out.box o7)).trans o7
    have q1 := Hid.mk (ha10.out.keep (m' := m') (by omega) fun q hq e => kX q hq (ha10.out.ne ha30.out (by decide) q e))
    have q2 := Hid.mk (ha20.out.keep (m' := m') (by omega) fun q hq e => kX q hq (ha20.out.ne ha30.out (by decide) q e))
    have hap0 := Hid.mk hap'
    have z7 : ¬ 7 = mi.next + 11 := by omega
    replace hn' := Hid.mk hn'
    clear hkeep hown kX hap' oX o7
    repeat' (with_reducible first | refine x_ops ?_ | refine wk ?_ | ((first | refine gd1 ?_ ?_ | refine gd2 ?_ ?_ | refine gd3 ?_ ?_) <;> (first | exact @False.elim _ | intro hc)))
    refine nx hjt ⟨vv, ⟨k', ?_, hap0.out.put pX⟩, ⟨q1.out.put pX, q2.out.put pX⟩, vw, by have := hn'.out; simp only [put_next]; omega, hJ3.out⟩
    rw [tkD.out, List.map_append, List.flatMap_append]
    exact vv
  have n7 : 7 < mj.next := by omega
  have hje : j = c.down.length := by omega
  subst hje
  have c3 : ¬ (c.down.length : Int) < (c.down.length : Int) := by omega
  have w4 : IntKind.i64.wrap (g.pos + n) = g.pos + n := w_in (by omega)
  by_cases ht : h.top < g.pos + n
  · clear hpos htop
    repeat' (with_reducible first | refine x_ops ?_ | refine wk ?_ | (with_reducible refine xc (W) ?_) | ((first | refine gd1 ?_ ?_ | refine gd2 ?_ ?_ | refine gd3 ?_ ?_) <;> (first | exact @False.elim _ | intro hc)))
    exact finV_dry rfl vv
  have hI4 := Hid.mk (hI3.out (fun j hj => hJ.out j hj) (by omega))
  rw [List.take_of_length_le (Nat.le_refl _)] at oX
  have hlm : (c.down.map (upP n)).length = c.down.length := List.length_map _
  have l1 : ((l.take i).map (upC n)).length = i := by rw [List.length_map, List.length_take]; have := hlt.out; omega
  have l2 : ((G.take i).map (upG n)).length = i := by rw [List.length_map, List.length_take]; have := hlt.out; have := hlen0.out; omega
  have l10 := Hid.mk l1
  have l20 := Hid.mk l2
  replace hlm := Hid.mk hlm
  clear hj hjt hpos htop l1 l2
  repeat' (with_reducible first | refine x_ops ?_ | refine wk ?_ | ((first | refine gd1 ?_ ?_ | refine gd2 ?_ ?_ | refine gd3 ?_ ?_) <;> (first | exact @False.elim _ | intro hc)))
  refine x_appc (xs := ((l.take i).map (upC n)).flatMap Chord.cells) (ys := Chord.cells (upC n c)) vw (by unfold Chord.cells upC tPs; rw [hlm.out]; exact vw) (ha10.out.keep (by simp only [put_next]; omega) (fun q hq _ => rfl)) (by rw [chs_len, l10.out]) rfl (by omega) (by unfold Go.maxLen; omega) (by simp only [put_next]; omega) ?_
  intro k1 m1 hb1 hm1 hkeep1 hown1
  replace hm1 : m1.next = mj.next + 5 := hm1
  have kX : ∀ q, q < mj.next → tk1 ≠ .own q → m1.obj q = mj.obj q := fun q hq hne => hkeep1 q (by omega) hne
  have p7 := (kX 7 (by omega) (ha10.out.box o7)).trans o7
  have q2 := Hid.mk (ha20.out.keep (m' := m1) (by omega) fun q hq e => kX q hq (ha20.out.ne ha10.out (by decide) q e))
  have hb10 := Hid.mk hb1
  clear hkeep1 hown1 kX hb1 o7 oX
  repeat' (with_reducible first | refine x_ops ?_ | refine wk ?_ | ((first | refine gd1 ?_ ?_ | refine gd2 ?_ ?_ | refine gd3 ?_ ?_) <;> (first | exact @False.elim _ | intro hc)))
  refine x_appc (xs := ((G.take i).map (upG n)).flatMap Grip.cells) (ys := Grip.cells (upG n g)) vw (by unfold Grip.cells upG; exact vw) (q2.out.keep (by simp only [put_next]; omega) (fun q hq _ => rfl)) (by rw [gs_len, l20.out]) rfl (by omega) (by unfold Go.maxLen; omega) (by simp only [put_next]; omega) ?_
  intro k2 m2 hb2 hm2 hkeep2 hown2
  have kX : ∀ q, q < m1.next → tk2 ≠ .own q → m2.obj q = m1.obj q := fun q hq hne => hkeep2 q (by omega) hne
  have hm22 : m1.next ≤ m2.next := by rw [hm2]; simp only [put_next]; omega
  have p72 := (kX 7 (by omega) (q2.out.box p7)).trans p7
  have q1 := Hid.mk (hb10.out.keep (m' := m2) hm22 fun q hq e => kX q hq (hb10.out.ne q2.out (by decide) q e))
  have hb20 := Hid.mk hb2
  have hn2 : 8 ≤ m2.next := by omega
  clear hkeep2 hown2 kX hb2 p7 hm2
  repeat' (with_reducible first | refine x_ops ?_ | refine wk ?_ | ((first | refine gd1 ?_ ?_ | refine gd2 ?_ ?_ | refine gd3 ?_ ?_) <;> (first | exact @False.elim _ | intro hc)))
  exact nx hlt.out ⟨vv, ⟨k1, by rw [tkL.out, List.map_append, List.flatMap_append]; ((refine ve ?_; try exact True.intro)); simp, q1.out⟩, ⟨k2, by rw [tkG.out, List.map_append, List.flatMap_append]; ((refine ve ?_; try exact True.intro)); simp, hb20.out⟩, p72, hn2, hI4.out⟩
/-- A choice: picks, or grips. -/
def choV (picks : List Int) (g : List Grip) : V := .agg [tIs picks, tGs g]
set_option maxHeartbeats 2000000 in
theorem handraised_fn (h : Hand) (l : List Chord) (hl : Fits l) (picks : List Int) (hp : picks.length ≤ 17592186044416) (g : List Grip) (hg : FitsG g) (by_ : Int) : Fn Try.prog Gd 16 [srV h l, choV picks g, vint by_] (vbool true) := by
  refine Fn.of_vx0 k_theorbolaw06_HandRaised (by simp) (by rw [V.pures, pure_sr, choV]; simp only [V.pures, V.pure, pure_tIs, pure_tGs]; rfl) ?_
  have W := works_fn
  unfold c_theorbolaw06_HandRaised srV choV tCs tGs tIs
  by_cases h64 : l.length ≤ 64
  case neg =>
    have c1 : (64 : Int) < (l.length : Int) := by omega
    repeat' (with_reducible first | refine x_ops ?_ | refine wk ?_ | (with_reducible refine xc (W) ?_) | ((first | refine gd1 ?_ ?_ | refine gd2 ?_ ?_ | refine gd3 ?_ ?_) <;> (first | exact @False.elim _ | intro hc)))
    exact finV_dry rfl vv
  have c1 : ¬ (64 : Int) < (l.length : Int) := by omega
  by_cases hg64 : g.length ≤ 64
  case neg =>
    have c2 : (64 : Int) < (g.length : Int) := by omega
    repeat' (with_reducible first | refine x_ops ?_ | refine wk ?_ | (with_reducible refine xc (W) ?_) | ((first | refine gd1 ?_ ?_ | refine gd2 ?_ ?_ | refine gd3 ?_ ?_) <;> (first | exact @False.elim _ | intro hc)))
    exact finV_dry rfl vv
  have c2 : ¬ (64 : Int) < (g.length : Int) := by omega
  by_cases hp0 : 0 < picks.length
  · have c3 : (0 : Int) < (picks.length : Int) := by omega
    have C1 := chosen_fn h l hl (by omega) picks hp
    have hcf := choL_fits (h := h) hl (by omega) picks
    unfold Hand.val tCs tIs tGs at C1
    generalize choL h l picks = G at *
    repeat' (with_reducible first | refine x_ops ?_ | refine wk ?_ | (with_reducible refine xc (C1) ?_) | ((first | refine gd1 ?_ ?_ | refine gd2 ?_ ?_ | refine gd3 ?_ ?_) <;> (first | exact @False.elim _ | intro hc)))
    exact raised_tail h l hl h64 G hcf by_ vv vv vv ⟨_, vv⟩ vv (by ((refine ve ?_; try exact True.intro)); try omega)
  · have c3 : ¬ (0 : Int) < (picks.length : Int) := by omega
    repeat' (with_reducible first | refine x_ops ?_ | refine wk ?_ | ((first | refine gd1 ?_ ?_ | refine gd2 ?_ ?_ | refine gd3 ?_ ?_) <;> (first | exact @False.elim _ | intro hc)))
    exact raised_tail h l hl h64 g hg by_ vv vv vv ⟨_, vv⟩ vv (by ((refine ve ?_; try exact True.intro)); try omega)
end Go.Proofs.Ytojjdkoglhecbaa
