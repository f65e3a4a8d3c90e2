/- What each grip's node lists, in plain terms: all ways to the end, in order. Nothing is run here. The reference's first, run: lists of tails are merged. Tails, as the reference's search makes them: values, and what is left where only the first few are kept. Nothing is run here. How many fingerings there are, in plain terms: counted up to a bound. Nothing is run here. Functions of the program, as code on values by numbers: printed by a program from the program that was given, and held against it here. The reference's search, run: the list of the tails of a grip by way of another. The program's Count, run. Where a node stands: what it has found, and what is in its queue, in plain terms. Nothing is run here. Where nodes stand at first: the first ways, in plain terms. Nothing is run here. The lister in memory, with nodes that have found some ways: what it means, and what may change beside it. Nothing is run here. The lister, run: what is due in a node goes into its queue. The lister, run: a node finds one more way. The lister, run: get, for any rank. The lister, run: the node of a grip, which may be there. The lister, run: get, from any chord on. The reference's search, run: a fingering out of a tail. The lister, run: get, from the beginning; what a call from a chord on leaves of the whole. -/
import Derived.Test.YtojjdkoglhecbaaG0
import Derived.Test.YtojjdkoglhecbaaWk
import Derived.Test.YtojjdkoglhecbaaWB03
import Derived.Test.YtojjdkoglhecbaaWB04
import Derived.Test.YtojjdkoglhecbaaXw
import Derived.Test.YtojjdkoglhecbaaWB06
import Derived.Test.YtojjdkoglhecbaaWB07
set_option linter.unusedSimpArgs false
set_option linter.unusedVariables false
namespace Go.Proofs.Ytojjdkoglhecbaa
open Go.RowKit

/-- The own cost of a grip, and the step between two, by numbers. -/
noncomputable def owG (h : Hand) (l : List Chord) (Gs : List (List Grip)) (i k : Nat) : Int := ownC h (l.getD i noC) ((Gs.getD i []).getD k noG)
noncomputable def stG (h : Hand) (l : List Chord) (Gs : List (List Grip)) (i k m : Nat) : Int × Bool := stepR h (l.getD i noC) ((Gs.getD i []).getD k noG) (l.getD (i + 1) noC) ((Gs.getD (i + 1) []).getD m noG)
noncomputable def tlD (h : Hand) (l : List Chord) (Gs : List (List Grip)) : Nat → Nat → Nat → List Way
  | 0, i, k => [(owG h l Gs i k, -1, 0)]
  | d + 1, i, k => mrg (Gs.getD (i + 1) []).length fun m => if (stG h l Gs i k m).2 = true then (tlD h l Gs d (i + 1) m).map fun w => owG h l Gs i k + (stG h l Gs i k m).1 + w.1 else []
/-- What the grip k of the chord i lists. -/
noncomputable def tl (h : Hand) (l : List Chord) (Gs : List (List Grip)) (i k : Nat) : List Way := tlD h l Gs (l.length - 1 - i) i k
/-- The costs by way of the grip m. -/
noncomputable def tlC (h : Hand) (l : List Chord) (Gs : List (List Grip)) (i k m : Nat) : List Int := if (stG h l Gs i k m).2 = true then (tl h l Gs (i + 1) m).map fun w => owG h l Gs i k + (stG h l Gs i k m).1 + w.1 else []
/-- What the beginning lists. -/
noncomputable def rtC (h : Hand) (l : List Chord) (Gs : List (List Grip)) (k : Nat) : List Int := (tl h l Gs 0 k).map (·.1)
noncomputable def rtT (h : Hand) (l : List Chord) (Gs : List (List Grip)) : List Way := mrg (Gs.getD 0 []).length (rtC h l Gs)
section
variable {h : Hand} {l : List Chord} {Gs : List (List Grip)}
theorem tl_last {i k : Nat} (hi : i + 1 = l.length) : tl h l Gs i k = [(owG h l Gs i k, -1, 0)] := by rw [tl, show l.length - 1 - i = 0 by omega, tlD]
theorem tl_s {i k : Nat} (hi : i + 1 < l.length) : tl h l Gs i k = mrg (Gs.getD (i + 1) []).length (tlC h l Gs i k) := by
  rw [tl, show l.length - 1 - i = (l.length - 1 - (i + 1)) + 1 by omega, tlD]; rfl
theorem stp_of {i k m : Nat} (hs : (stG h l Gs i k m).2 = true) : StepOk h (l.getD i noC) (grp Gs i k) (l.getD (i + 1) noC) (grp Gs (i + 1) m) := by
  refine Classical.byContradiction fun hc => ?_
  rw [stG, show stepR h (l.getD i noC) ((Gs.getD i []).getD k noG) (l.getD (i + 1) noC) ((Gs.getD (i + 1) []).getD m noG) = (0, false) from stepR_no hc] at hs
  cases hs
theorem asc_map {L : List Way} {x : Int} (h : Asc (L.map (·.1))) : Asc (L.map fun w => x + w.1) := by
  intro i j hij hj
  rw [List.length_map] at hj
  have h1 := h i j hij (by rw [List.length_map]; exact hj)
  rw [List.getD_eq_getElem?_getD, List.getD_eq_getElem?_getD, List.getElem?_map, List.getElem?_map, List.getElem?_eq_getElem (by omega), List.getElem?_eq_getElem hj] at h1 ⊢
  simp only [Option.map_some, Option.getD_some] at h1 ⊢
  omega
theorem asc_nil : Asc [] := fun i j _ hj => by simp at hj
theorem tl_asc {i k : Nat} (hi : i < l.length) : Asc ((tl h l Gs i k).map (·.1)) := by
  by_cases e : i + 1 = l.length
  · rw [tl_last e]
    intro a b hab hb
    simp at hb
    have : a = b := by omega
    subst this; exact Int.le_refl _
  · rw [tl_s (by omega)]; exact mrg_asc
theorem tlC_asc {i k m : Nat} (hi : i + 1 < l.length) : Asc (tlC h l Gs i k m) := by
  rw [tlC]; split
  · exact asc_map (tl_asc hi)
  · exact asc_nil
theorem rtC_asc (hl : 0 < l.length) {k : Nat} : Asc (rtC h l Gs k) := tl_asc hl
theorem getD_mapW {L : List Way} {f : Way → Int} {r : Nat} (hr : r < L.length) : (L.map f).getD r 0 = f (L.getD r noW) := by
  rw [List.getD_eq_getElem?_getD, List.getElem?_map, List.getD_eq_getElem?_getD, List.getElem?_eq_getElem hr]; rfl
theorem tlC_at {i k m r : Nat} (hs : (stG h l Gs i k m).2 = true) (hr : r < (tl h l Gs (i + 1) m).length) : (tlC h l Gs i k m).getD r 0 = owG h l Gs i k + (stG h l Gs i k m).1 + ((tl h l Gs (i + 1) m).getD r noW).1 := by
  rw [tlC, if_pos hs, getD_mapW hr]
theorem tlC_len {i k m : Nat} : (tlC h l Gs i k m).length = if (stG h l Gs i k m).2 = true then (tl h l Gs (i + 1) m).length else 0 := by
  rw [tlC]; split
  · rw [List.length_map]
  · rfl
theorem mem_nthW {L : List Way} {j : Nat} (hj : j < L.length) : L.getD j noW ∈ L := by
  rw [List.getD_eq_getElem?_getD, List.getElem?_eq_getElem hj]; exact List.getElem_mem hj
/-- The costs are small; the next grip and its rank are there. -/
theorem tl_ok (hn : NetOk h l Gs) : ∀ d i, l.length - 1 - i = d → i < l.length → ∀ k, k < (Gs.getD i []).length → ∀ w ∈ tl h l Gs i k, 0 ≤ w.1 ∧ w.1 ≤ 509000 * (l.length - i : Nat) ∧
    (i + 1 = l.length → w = (owG h l Gs i k, -1, 0)) ∧ (i + 1 < l.length → ∃ m r : Nat, m < (Gs.getD (i + 1) []).length ∧ (stG h l Gs i k m).2 = true ∧ r < (tl h l Gs (i + 1) m).length ∧ w = (owG h l Gs i k + (stG h l Gs i k m).1 + ((tl h l Gs (i + 1) m).getD r noW).1, (m : Int), (r : Int))) := by
  intro d
  induction d with
  | zero =>
    intro i hd hi k hk w hw
    have e : i + 1 = l.length := by omega
    rw [tl_last e, List.mem_singleton] at hw
    have ho := own_bound hn.hk (hn.seq i hi).1 (hn.grip hi hk).1
    subst hw
    refine ⟨?_, ?_, fun _ => rfl, fun h1 => by omega⟩
    · exact ho.1
    · have := ho.2; show owG h l Gs i k ≤ _; unfold owG; omega
  | succ d ih =>
    intro i hd hi k hk w hw
    have hi1 : i + 1 < l.length := by omega
    rw [tl_s hi1, mem_mrg] at hw
    obtain ⟨m, r, hm, hr, rfl⟩ := hw
    have hs : (stG h l Gs i k m).2 = true := by
      rw [tlC_len] at hr
      split at hr
      · assumption
      · omega
    have hr1 : r < (tl h l Gs (i + 1) m).length := by rw [tlC_len, if_pos hs] at hr; exact hr
    have ho := own_bound hn.hk (hn.seq i hi).1 (hn.grip hi hk).1
    have hst := stepB hn hi1 hk hm
    have hw := ih (i + 1) (by omega) hi1 m hm _ (mem_nthW hr1)
    rw [tlC_at hs hr1]
    refine ⟨?_, ?_, fun h1 => by omega, fun _ => ⟨m, r, hm, hs, hr1, rfl⟩⟩
    · have := ho.1; have := hst.1; have := hw.1; dsimp only; unfold owG stG; omega
    · have := ho.2; have := hst.2; have := hw.2.1; dsimp only; unfold owG stG; omega
/-- The first one has the least cost; there is none where there is no way. -/
theorem tl_first (hn : NetOk h l Gs) : ∀ d i, l.length - 1 - i = d → i < l.length → ∀ k, k < (Gs.getD i []).length → (tl h l Gs i k = [] ↔ lst h l Gs i k = -1) ∧ (tl h l Gs i k ≠ [] → ((tl h l Gs i k).getD 0 noW).1 = lst h l Gs i k) := by
  intro d
  induction d with
  | zero =>
    intro i hd hi k hk
    have e : i + 1 = l.length := by omega
    rw [tl_last e, lst_last e hk]
    have ho := lst_own hn hi hk
    refine ⟨⟨(fun h1 => by cases h1), fun h1 => by omega⟩, fun _ => rfl⟩
  | succ d ih =>
    intro i hd hi k hk
    have hi1 : i + 1 < l.length := by omega
    have hne : tl h l Gs i k ≠ [] → 0 < (tl h l Gs i k).length := List.length_pos_iff.2
    have key : ∀ m, m < (Gs.getD (i + 1) []).length → StepOk h (l.getD i noC) (grp Gs i k) (l.getD (i + 1) noC) (grp Gs (i + 1) m) → ¬ lst h l Gs (i + 1) m = -1 →
        (tlC h l Gs i k m).length ≠ 0 ∧ (tlC h l Gs i k m).getD 0 0 = ownC h (l.getD i noC) (grp Gs i k) + stepC h (l.getD i noC) (grp Gs i k) (l.getD (i + 1) noC) (grp Gs (i + 1) m) + lst h l Gs (i + 1) m := by
      intro m hm hs hN
      have h1 := ih (i + 1) (by omega) hi1 m hm
      have h2 : tl h l Gs (i + 1) m ≠ [] := fun e => hN (h1.1.1 e)
      have h3 := List.length_pos_iff.2 h2
      have hst : stG h l Gs i k m = (stepC h (l.getD i noC) (grp Gs i k) (l.getD (i + 1) noC) (grp Gs (i + 1) m), true) := by rw [stG]; exact stepR_ok hs
      have hs2 : (stG h l Gs i k m).2 = true := by rw [hst]
      rw [tlC_len, if_pos hs2]
      refine ⟨by omega, ?_⟩
      rw [tlC_at hs2 h3, h1.2 h2, hst]; rfl
    have h0 := grd_0 (n := (Gs.getD (i + 1) []).length) (c := tlC h l Gs i k)
    have hmore := grd_more (n := (Gs.getD (i + 1) []).length) (c := tlC h l Gs i k) (fun m _ => tlC_asc hi1) h0
    rw [← tl_s hi1] at hmore
    replace hmore := Hid.mk hmore
    have back : ∀ m, m < (Gs.getD (i + 1) []).length → 0 < (tlC h l Gs i k m).length → StepOk h (l.getD i noC) (grp Gs i k) (l.getD (i + 1) noC) (grp Gs (i + 1) m) ∧ ¬ lst h l Gs (i + 1) m = -1 := by
      intro m hm hlen
      rw [tlC_len] at hlen
      split at hlen
      case isFalse => omega
      rename_i hs
      have h1 := ih (i + 1) (by omega) hi1 m hm
      refine ⟨stp_of hs, fun e => ?_⟩
      rw [h1.1.2 e] at hlen
      simp at hlen
    have fwd : 0 < (tl h l Gs i k).length → ¬ lst h l Gs i k = -1 := fun hp => by
      obtain ⟨m, hm, ha⟩ := hmore.out.1 hp
      obtain ⟨b1, b2⟩ := back m hm ha
      exact (lst_ub hn hi1 hk hm b2 b1).1
    refine ⟨⟨fun e => ?_, fun e => ?_⟩, fun hne' => ?_⟩
    · refine Classical.byContradiction fun hN => ?_
      obtain ⟨q, q1, q2, q3, q4⟩ := lst_eq hn hi1 hk hN
      have := hmore.out.2 ⟨q, q1, by have := (key q q1 q3 q2).1; show 0 < (tlC h l Gs i k q).length; omega⟩
      rw [e] at this
      simp at this
    · refine Classical.byContradiction fun hne' => ?_
      exact fwd (hne hne') e
    · have hp := hne hne'
      have hN := fwd hp
      obtain ⟨q, q1, q2, q3, q4⟩ := lst_eq hn hi1 hk hN
      have kq := key q q1 q3 q2
      have hp' := hp
      rw [tl_s hi1] at hp' ⊢
      obtain ⟨m, m1, m2, m3, _⟩ := grd_next (fun m _ => tlC_asc hi1) h0 hp'
      have m2' : 0 < (tlC h l Gs i k m).length := m2
      obtain ⟨b1, b2⟩ := back m m1 m2'
      have km := key m m1 b1 b2
      have hub := (lst_ub hn hi1 hk m1 b2 b1).2
      have hq := grd_hd h0 hp' q1 (by show 0 < (tlC h l Gs i k q).length; omega)
      rw [m3, lexW_iff] at hq
      rw [m3]
      unfold hdG at hq ⊢
      dsimp only at hq ⊢
      rw [km.2, kq.2] at hq
      rw [km.2]
      omega
end
end Go.Proofs.Ytojjdkoglhecbaa
namespace Go.Proofs.Ytojjdkoglhecbaa
open Go.RowKit

theorem x_genT {P : Program} {G : Ground} {a : VC} {Q : VX → St → Prop} {s : St} (F : (Nat → V) → Mm → Prop) (h0 : F s.t s.m) (h : ∀ t m, F t m → a.vx P G Q ⟨t, m⟩) : a.vx P G Q s := h s.t s.m h0
section
variable {c : Nat → List Int} {a : Nat → Nat} {i : Nat}
end
end Go.Proofs.Ytojjdkoglhecbaa
namespace Go.Proofs.Ytojjdkoglhecbaa
open Go.RowKit

section
variable {h : Hand} {l : List Chord} {Gs : List (List Grip)}
/-- The grips of the ways from a grip on. -/
noncomputable def pthD (h : Hand) (l : List Chord) (Gs : List (List Grip)) : Nat → Nat → Nat → Nat → List Nat
  | 0, i, k, r => [k]
  | d + 1, i, k, r => k :: pthD h l Gs d (i + 1) ((tl h l Gs i k).getD r noW).2.1.toNat ((tl h l Gs i k).getD r noW).2.2.toNat
noncomputable def pth (h : Hand) (l : List Chord) (Gs : List (List Grip)) (i k r : Nat) : List Nat := pthD h l Gs (l.length - 1 - i) i k r
/-- By their grips. -/
def grps (Gs : List (List Grip)) : Nat → List Nat → List Grip
  | _, [] => []
  | i, k :: ks => grp Gs i k :: grps Gs (i + 1) ks
theorem pth_last {i k r : Nat} (hi : i + 1 = l.length) : pth h l Gs i k r = [k] := by rw [pth, show l.length - 1 - i = 0 by omega, pthD]
theorem pth_s {i k r : Nat} (hi : i + 1 < l.length) : pth h l Gs i k r = k :: pth h l Gs (i + 1) ((tl h l Gs i k).getD r noW).2.1.toNat ((tl h l Gs i k).getD r noW).2.2.toNat := by
  rw [pth, show l.length - 1 - i = (l.length - 1 - (i + 1)) + 1 by omega, pthD]; rfl
/-- A fingering: its grips and its cost. -/
noncomputable def fgW (h : Hand) (l : List Chord) (Gs : List (List Grip)) (w : Way) : List Grip × Int := (grps Gs 0 (pth h l Gs 0 w.2.1.toNat w.2.2.toNat), w.1)
/-- The first q fingerings. -/
noncomputable def fgL (h : Hand) (l : List Chord) (Gs : List (List Grip)) (q : Nat) : List (List Grip × Int) := if l.length = 0 then [([], 0)] else ((rtT h l Gs).take q).map (fgW h l Gs)
noncomputable def fgC (f : List Grip × Int) : List V := [tGs f.1, vint f.2]
noncomputable def tFs (L : List (List Grip × Int)) : V := .sl L.length (L.flatMap fgC) .no
end
end Go.Proofs.Ytojjdkoglhecbaa
namespace Go.Proofs.Ytojjdkoglhecbaa
open Go.RowKit

def capI (x : Int) : Int := if 1099511627776 < x then 1099511627776 else x
def cnS (f : Nat → Int) : Nat → Int
  | 0 => 0
  | j + 1 => capI (cnS f j + f j)
theorem capI_add {a b : Int} (ha : 0 ≤ a) (hb : 0 ≤ b) : capI (capI a + capI b) = capI (a + b) := by
  unfold capI; repeat' split
  all_goals omega
theorem capI_ok {a : Int} (ha : 0 ≤ a) : 0 ≤ capI a ∧ capI a ≤ 1099511627776 := by
  unfold capI; split <;> omega
theorem cnS_sum {f : Nat → Int} {g : Nat → Nat} {n : Nat} (hf : ∀ m, m < n → f m = capI (g m)) : ∀ j, j ≤ n → cnS f j = capI (((List.range j).map g).sum : Nat) := by
  intro j
  induction j with
  | zero => intro _; rfl
  | succ j ih =>
    intro hj
    rw [cnS, ih (by omega), hf j (by omega), capI_add (by omega) (by omega), List.range_succ, List.map_append, List.sum_append]
    simp
theorem cnS_ok {f : Nat → Int} {n : Nat} (hf : ∀ m, m < n → 0 ≤ f m) : ∀ j, j ≤ n → 0 ≤ cnS f j ∧ cnS f j ≤ 1099511627776 := by
  intro j
  induction j with
  | zero => intro _; rw [cnS]; decide
  | succ j ih => intro hj; have := ih (by omega); have := hf j (by omega); exact capI_ok (by omega)
/-- How many ways there are from a grip. -/
noncomputable def cn (h : Hand) (l : List Chord) (Gs : List (List Grip)) (i k : Nat) : Int := capI ((tl h l Gs i k).length : Nat)
noncomputable def cnF (h : Hand) (l : List Chord) (Gs : List (List Grip)) (i k m : Nat) : Int := if (stG h l Gs i k m).2 = true then cn h l Gs (i + 1) m else 0
noncomputable def cnR (h : Hand) (l : List Chord) (Gs : List (List Grip)) (i : Nat) : List Int := (List.range (Gs.getD i []).length).map (cn h l Gs i)
noncomputable def cnT (h : Hand) (l : List Chord) (Gs : List (List Grip)) : Int := if l.length = 0 then 1 else capI ((rtT h l Gs).length : Nat)
/-- What Count answers. -/
noncomputable def cntR (h : Hand) (l : List Chord) : Int × Int := if wvE h l = 0 then (cnT h l (tabG h l), 0) else (0, wvE h l)
section
variable {h : Hand} {l : List Chord} {Gs : List (List Grip)}
theorem cn_ok (i k : Nat) : 0 ≤ cn h l Gs i k ∧ cn h l Gs i k ≤ 1099511627776 := capI_ok (by omega)
theorem cnF_ok (i k m : Nat) : 0 ≤ cnF h l Gs i k m ∧ cnF h l Gs i k m ≤ 1099511627776 := by
  rw [cnF]; split
  · exact cn_ok _ _
  · decide
theorem cnR_len (i : Nat) : (cnR h l Gs i).length = (Gs.getD i []).length := by rw [cnR, List.length_map, List.length_range]
theorem cnR_at {i k : Nat} (hk : k < (Gs.getD i []).length) : (cnR h l Gs i).getD k 0 = cn h l Gs i k := by
  rw [cnR, List.getD_eq_getElem?_getD, List.getElem?_map, List.getElem?_range hk]; rfl
theorem cn_last {i k : Nat} (hi : i + 1 = l.length) : cn h l Gs i k = 1 := by rw [cn, tl_last hi]; rfl
theorem cn_s {i k : Nat} (hi : i + 1 < l.length) : cn h l Gs i k = cnS (cnF h l Gs i k) (Gs.getD (i + 1) []).length := by
  rw [cnS_sum (g := fun m => (tlC h l Gs i k m).length) (n := (Gs.getD (i + 1) []).length) ?_ _ (Nat.le_refl _), cn, tl_s hi, mrg_len]
  intro m _
  rw [cnF, tlC_len]
  split
  · rfl
  · rfl
theorem cn_t (hl : 0 < l.length) : cnT h l Gs = cnS (cn h l Gs 0) (Gs.getD 0 []).length := by
  rw [cnS_sum (g := fun m => (rtC h l Gs m).length) (n := (Gs.getD 0 []).length) ?_ _ (Nat.le_refl _), cnT, if_neg (by omega), rtT, mrg_len]
  intro m _
  rw [cn, rtC, List.length_map]
theorem cn_none (hn : NetOk h l Gs) {i m : Nat} (hi : i < l.length) (hm : m < (Gs.getD i []).length) (h1 : (rsT h l Gs i).getD m 0 = -1) : cn h l Gs i m = 0 := by
  rw [cn, (tl_first hn _ i rfl hi m hm).1.2 h1]; rfl
theorem cnF_none (hn : NetOk h l Gs) {i k m : Nat} (hi : i + 1 < l.length) (hm : m < (Gs.getD (i + 1) []).length) (h1 : (rsT h l Gs (i + 1)).getD m 0 = -1 ∨ (stG h l Gs i k m).2 = false) : cnF h l Gs i k m = 0 := by
  rw [cnF]
  rcases h1 with h1 | h1
  · rw [cn_none hn hi hm h1]; split <;> rfl
  · rw [h1]; rfl
theorem cnS_skip {f : Nat → Int} {n j : Nat} (hf : ∀ m, m < n → 0 ≤ f m) (hj : j < n) (h0 : f j = 0) : cnS f (j + 1) = cnS f j := by
  have := cnS_ok hf j (by omega)
  rw [cnS, h0, Int.add_zero, capI, if_neg (by omega)]
end
end Go.Proofs.Ytojjdkoglhecbaa
namespace Go.Proofs.Ytojjdkoglhecbaa
open Go.RowKit
set_option maxRecDepth 100000

abbrev c_hand_Count_p1 : VC := (.seq (.ops 0 [oo 24 .mv [.t 7], oo 4 .mv [kk 0], oo 5 .mv [.t 24]]) .ret)
abbrev c_hand_Count_p2 : VC := (.seq (.ops 0 [oo 4 .mv [kk 1], oo 5 .mv [kk 0]]) .ret)
abbrev c_hand_Count_p3 : VC := (.ops 0 [⟨none, none, (.st 1), [.t 12, kk 1], none⟩])
abbrev c_hand_Count_p4 : VC := (.ops 5 [oo 56 .mv [.t 10], oo 57 .ld1 [.t 12], oo 58 (.mksl 1 1 [li 0] [(0, 1)]) [.t 57], oo 59 (.app 3 1 8) [.t 56, .t 58], oo 10 .mv [.t 59]])
abbrev c_hand_Count_p5 : VC := (.seq (.ops 0 [oo 51 .mv [.t 6], oo 52 .mv [.t 9], oo 53 .mv [.t 11], oo 54 (.mkfn 89) [.t 12, .t 8], oo 55 (.call 88) [.t 51, .t 52, .t 53, .t 54]]) c_hand_Count_p4)
abbrev c_hand_Count_p6 : VC := (.seq (.seq (.ops 0 [oo 46 .mv [.t 9], oo 47 .mv [.t 1], oo 48 .len [.t 47], oo 49 (.bin .sub) [.t 48, kk 1], oo 50 (.bin .eql) [.t 46, .t 49]]) (.cond (.t 50) c_hand_Count_p3 .skip)) c_hand_Count_p5)
def c_hand_Count_p7 : VC := (.seq (.ops 2 [oo 12 (.alloc 3 [li 0]) [], ⟨none, none, (.st 1), [.t 12, kk 0], none⟩]) c_hand_Count_p6)
abbrev c_hand_Count_p8 : VC := (.ops 0 [oo 60 (.bin .add) [.t 43, kk 1], oo 43 .mv [.t 60]])
abbrev c_hand_Count_p9 : VC := (.seq (.block 3 (.seq (.ops 0 [oo 45 .mv [.t 43], oo 11 .mv [.t 45]]) c_hand_Count_p7)) c_hand_Count_p8)
abbrev c_hand_Count_p10 : VC := (.seq (.ops 0 [oo 44 (.bin .lss) [.t 43, .t 42]]) (.seq (.cond (.t 44) .skip (.exit 2)) c_hand_Count_p9))
@[go_sem] abbrev w_hand_Count_p10 : Nat := 2305834213120678912
abbrev c_hand_Count_p12 : VC := (.ops 0 [oo 61 .mv [.t 10], ⟨none, none, (.st 1), [.t 8, .t 61], none⟩])
abbrev c_hand_Count_p13 : VC := (.seq (.seq (.ops 0 [oo 35 .mv [.t 6], oo 36 .nilck [.t 35], oo 37 (.fldA 11) [.t 36], oo 38 .ld1 [.t 37], oo 39 .mv [.t 9], oo 40 (.ixA 1) [.t 38, .t 39], oo 41 .ld1 [.t 40], oo 42 .len [.t 41], oo 43 .mv [kk 0]]) (.block 2 (.loop c_hand_Count_p10))) c_hand_Count_p12)
abbrev c_hand_Count_p14 : VC := (.ops 0 [oo 33 .mv [.t 9], oo 34 (.bin .sub) [.t 33, kk 1], oo 9 .mv [.t 34]])
abbrev c_hand_Count_p15 : VC := (.seq (.block 1 (.seq (.ops 0 [oo 10 .mv [(.c (.sl 0 [] .exact))]]) c_hand_Count_p13)) c_hand_Count_p14)
abbrev c_hand_Count_p16 : VC := (.seq (.seq (.ops 0 [oo 31 .mv [.t 9], oo 32 (.bin .geq) [.t 31, kk 0]]) (.cond (.t 32) .skip (.exit 0))) c_hand_Count_p15)
@[go_sem] abbrev w_hand_Count_p16 : Nat := 4611686016279911936
abbrev c_hand_Count_p18 : VC := (.ops 0 [oo 68 .mv [.t 13], oo 69 .mv [.t 15], oo 70 (.bin .add) [.t 68, .t 69], oo 71 .mn [.t 70, kk 1099511627776], oo 13 .mv [.t 71]])
abbrev c_hand_Count_p19 : VC := (.ops 0 [oo 72 (.bin .add) [.t 64, kk 1], oo 64 .mv [.t 72]])
abbrev c_hand_Count_p20 : VC := (.seq (.block 5 (.seq (.ops 0 [oo 66 (.ixA 1) [.t 62, .t 64], oo 67 .ld1 [.t 66], oo 15 .mv [.t 67]]) c_hand_Count_p18)) c_hand_Count_p19)
abbrev c_hand_Count_p21 : VC := (.seq (.ops 0 [oo 65 (.bin .lss) [.t 64, .t 63]]) (.seq (.cond (.t 65) .skip (.exit 4)) c_hand_Count_p20))
@[go_sem] abbrev w_hand_Count_p21 : Nat := 9426286221665580916736
abbrev c_hand_Count_p23 : VC := (.seq (.ops 0 [oo 73 .mv [.t 13], oo 4 .mv [.t 73], oo 5 .mv [kk 0]]) .ret)
abbrev c_hand_Count_p24 : VC := (.seq (.seq (.ops 0 [oo 62 .ld1 [.t 8], oo 63 .len [.t 62], oo 64 .mv [kk 0]]) (.block 4 (.loop c_hand_Count_p21))) c_hand_Count_p23)
def c_hand_Count_p25 : VC := (.seq (.ops 0 [oo 13 .mv [kk 0]]) c_hand_Count_p24)
abbrev c_hand_Count_p26 : VC := (.seq (.seq (.ops 0 [oo 28 .mv [.t 1], oo 29 .len [.t 28], oo 30 (.bin .sub) [.t 29, kk 1], oo 9 .mv [.t 30]]) (.block 0 (.loop c_hand_Count_p16))) c_hand_Count_p25)
abbrev c_hand_Count_p27 : VC := (.seq (.ops 1 [⟨(some 8), none, (.alloc 22 [(.sl 0 [] .exact)]), [], none⟩]) c_hand_Count_p26)
abbrev c_hand_Count_p28 : VC := (.seq (.seq (.ops 0 [oo 25 .mv [.t 1], oo 26 .len [.t 25], oo 27 (.bin .eql) [.t 26, kk 0]]) (.cond (.t 27) c_hand_Count_p2 .skip)) c_hand_Count_p27)
abbrev c_hand_Count_p29 : VC := (.seq (.seq (.ops 0 [oo 22 .mv [.t 7], oo 23 (.bin .neq) [.t 22, kk 0]]) (.cond (.t 23) c_hand_Count_p1 .skip)) c_hand_Count_p28)
abbrev c_hand_Count_p30 : VC := (.seq (.ops 0 [oo 17 (.ldA 10) [.t 2], oo 18 .mv [.t 1], oo 19 (.call 69) [.t 17, .t 18], oo 16 .mv [.t 19], oo 20 (.ext 0) [.t 16], oo 21 (.ext 1) [.t 16], oo 6 .mv [.t 20], oo 7 .mv [.t 21]]) c_hand_Count_p29)
def c_hand_Count : VC := (.seq (.ops 3 [oo 2 (.box 25) [.t 0], oo 4 .mv [kk 0], oo 5 .mv [kk 0]]) c_hand_Count_p30)
theorem k_hand_Count : Comp Try.prog nobx gtab 53 74 c_hand_Count [.t 4, .t 5] := ⟨⟨Try.f53, _, Try.func53, rfl, rfl, kr, kr⟩⟩
def c_hand_Count_1 : VC := (.ops 0 [od 6 .ld1 [.t 2] [], od 7 .ld1 [.t 3] [], oo 8 .mv [.t 0], oo 9 (.ixA 1) [.t 7, .t 8], od 10 .ld1 [.t 9] [1, 2, 3], oo 11 (.bin .add) [.t 6, .t 10], oo 12 .mn [.t 11, kk 1099511627776], ⟨none, none, (.st 1), [.t 2, .t 12], none⟩])
theorem k_hand_Count_1 : Comp Try.prog nobx gtab 89 13 c_hand_Count_1 [] := ⟨⟨Try.f89, _, Try.func89, rfl, rfl, kr, kr⟩⟩
abbrev c_theorboref06_Count_p1 : VC := (.seq (.ops 0 [oo 25 .mv [.t 7], oo 4 .mv [kk 0], oo 5 .mv [.t 25]]) .ret)
abbrev c_theorboref06_Count_p2 : VC := (.ops 0 [od 57 (.ldA 10) [.t 2] [], oo 58 .mv [.t 1], oo 59 .mv [.t 9], oo 60 (.ixA 3) [.t 58, .t 59], od 61 (.ldA 3) [.t 60] [1, 2, 3], oo 62 .mv [.t 6], oo 63 .mv [.t 9], oo 64 (.ixA 1) [.t 62, .t 63], od 65 .ld1 [.t 64] [5, 6, 7], oo 66 .mv [.t 11], oo 67 (.ixA 2) [.t 65, .t 66], od 68 (.ldA 2) [.t 67] [5, 6, 7, 8, 9, 10], oo 69 .mv [.t 1], oo 70 .mv [.t 9], oo 71 (.bin .add) [.t 70, kk 1], oo 72 (.ixA 3) [.t 69, .t 71], od 73 (.ldA 3) [.t 72] [12, 13, 14, 15], oo 74 .mv [.t 6], oo 75 .mv [.t 9], oo 76 (.bin .add) [.t 75, kk 1], oo 77 (.ixA 1) [.t 74, .t 76], od 78 .ld1 [.t 77] [17, 18, 19, 20], oo 79 .mv [.t 13], oo 80 (.ixA 2) [.t 78, .t 79], od 81 (.ldA 2) [.t 80] [17, 18, 19, 20, 21, 22, 23], oo 82 (.call 84) [.t 57, .t 61, .t 68, .t 73, .t 81], oo 56 .mv [.t 82], oo 83 (.ext 0) [.t 56], oo 84 (.ext 1) [.t 56], oo 14 .mv [.t 84]])
abbrev c_theorboref06_Count_p3 : VC := (.ops 0 [oo 86 .mv [.t 12], oo 87 .mv [.t 8], oo 88 .mv [.t 13], oo 89 (.ixA 1) [.t 87, .t 88], oo 90 .ld1 [.t 89], oo 91 (.bin .add) [.t 86, .t 90], oo 92 .mn [.t 91, kk 1099511627776], oo 12 .mv [.t 92]])
abbrev c_theorboref06_Count_p4 : VC := (.seq (.ops 0 [oo 85 .mv [.t 14]]) (.cond (.t 85) c_theorboref06_Count_p3 .skip))
abbrev c_theorboref06_Count_p5 : VC := (.seq (.seq (.ops 0 [oo 54 .mv [.t 14], oo 55 (.un .not) [.t 54]]) (.cond (.t 55) c_theorboref06_Count_p2 .skip)) c_theorboref06_Count_p4)
abbrev c_theorboref06_Count_p6 : VC := (.ops 0 [oo 47 .mv [.t 13], oo 48 (.bin .add) [.t 47, kk 1], oo 13 .mv [.t 48]])
abbrev c_theorboref06_Count_p7 : VC := (.seq (.block 5 (.seq (.ops 0 [oo 49 .mv [.t 9], oo 50 .mv [.t 1], oo 51 .len [.t 50], oo 52 (.bin .sub) [.t 51, kk 1], oo 53 (.bin .eql) [.t 49, .t 52], oo 14 .mv [.t 53]]) c_theorboref06_Count_p5)) c_theorboref06_Count_p6)
abbrev c_theorboref06_Count_p8 : VC := (.seq (.seq (.ops 0 [oo 43 .mv [.t 13], oo 44 .mv [.t 8], oo 45 .len [.t 44], oo 46 (.bin .lss) [.t 43, .t 45]]) (.cond (.t 46) .skip (.exit 4))) c_theorboref06_Count_p7)
@[go_sem] abbrev w_theorboref06_Count_p8 : Nat := 9903520314283033403100000256
def c_theorboref06_Count_p10 : VC := (.ops 5 [oo 93 .mv [.t 10], oo 94 .mv [.t 12], oo 95 (.mksl 1 1 [li 0] [(0, 1)]) [.t 94], oo 96 (.app 3 1 8) [.t 93, .t 95], oo 10 .mv [.t 96]])
def c_theorboref06_Count_p11 : VC := (.seq (.seq (.ops 0 [oo 13 .mv [kk 0]]) (.block 4 (.loop c_theorboref06_Count_p8))) c_theorboref06_Count_p10)
abbrev c_theorboref06_Count_p12 : VC := (.ops 0 [oo 41 .mv [.t 11], oo 42 (.bin .add) [.t 41, kk 1], oo 11 .mv [.t 42]])
abbrev c_theorboref06_Count_p13 : VC := (.seq (.block 3 (.seq (.ops 0 [oo 12 .mv [kk 0]]) c_theorboref06_Count_p11)) c_theorboref06_Count_p12)
abbrev c_theorboref06_Count_p14 : VC := (.seq (.seq (.ops 0 [oo 34 .mv [.t 11], oo 35 .mv [.t 6], oo 36 .mv [.t 9], oo 37 (.ixA 1) [.t 35, .t 36], oo 38 .ld1 [.t 37], oo 39 .len [.t 38], oo 40 (.bin .lss) [.t 34, .t 39]]) (.cond (.t 40) .skip (.exit 2))) c_theorboref06_Count_p13)
@[go_sem] abbrev w_theorboref06_Count_p14 : Nat := 158456325028528675169908063232
abbrev c_theorboref06_Count_p16 : VC := (.ops 0 [oo 97 .mv [.t 10], oo 8 .mv [.t 97]])
abbrev c_theorboref06_Count_p17 : VC := (.seq (.seq (.ops 0 [oo 11 .mv [kk 0]]) (.block 2 (.loop c_theorboref06_Count_p14))) c_theorboref06_Count_p16)
abbrev c_theorboref06_Count_p18 : VC := (.ops 0 [oo 32 .mv [.t 9], oo 33 (.bin .sub) [.t 32, kk 1], oo 9 .mv [.t 33]])
abbrev c_theorboref06_Count_p19 : VC := (.seq (.block 1 (.seq (.ops 0 [oo 10 .mv [(.c (.sl 0 [] .exact))]]) c_theorboref06_Count_p17)) c_theorboref06_Count_p18)
abbrev c_theorboref06_Count_p20 : VC := (.seq (.seq (.ops 0 [oo 30 .mv [.t 9], oo 31 (.bin .geq) [.t 30, kk 0]]) (.cond (.t 31) .skip (.exit 0))) c_theorboref06_Count_p19)
@[go_sem] abbrev w_theorboref06_Count_p20 : Nat := 316912650057057350373102092032
abbrev c_theorboref06_Count_p22 : VC := (.ops 0 [oo 102 .mv [.t 16], oo 103 (.bin .add) [.t 102, kk 1], oo 16 .mv [.t 103]])
abbrev c_theorboref06_Count_p23 : VC := (.seq (.block 7 (.ops 0 [oo 104 .mv [.t 15], oo 105 .mv [.t 8], oo 106 .mv [.t 16], oo 107 (.ixA 1) [.t 105, .t 106], oo 108 .ld1 [.t 107], oo 109 (.bin .add) [.t 104, .t 108], oo 110 .mn [.t 109, kk 1099511627776], oo 15 .mv [.t 110]])) c_theorboref06_Count_p22)
abbrev c_theorboref06_Count_p24 : VC := (.seq (.seq (.ops 0 [oo 98 .mv [.t 16], oo 99 .mv [.t 8], oo 100 .len [.t 99], oo 101 (.bin .lss) [.t 98, .t 100]]) (.cond (.t 101) .skip (.exit 6))) c_theorboref06_Count_p23)
@[go_sem] abbrev w_theorboref06_Count_p24 : Nat := 2595831516617356756914873988907008
abbrev c_theorboref06_Count_p26 : VC := (.seq (.ops 0 [oo 111 .mv [.t 15], oo 4 .mv [.t 111], oo 5 .mv [kk 0]]) .ret)
abbrev c_theorboref06_Count_p27 : VC := (.seq (.seq (.ops 0 [oo 16 .mv [kk 0]]) (.block 6 (.loop c_theorboref06_Count_p24))) c_theorboref06_Count_p26)
def c_theorboref06_Count_p28 : VC := (.seq (.ops 0 [oo 15 .mv [kk 0]]) c_theorboref06_Count_p27)
abbrev c_theorboref06_Count_p29 : VC := (.seq (.seq (.ops 0 [oo 27 .mv [.t 1], oo 28 .len [.t 27], oo 29 (.bin .sub) [.t 28, kk 1], oo 9 .mv [.t 29]]) (.block 0 (.loop c_theorboref06_Count_p20))) c_theorboref06_Count_p28)
abbrev c_theorboref06_Count_p30 : VC := (.seq (.ops 0 [oo 26 (.mksl 1 1 [li 0] [(0, 1)]) [kk 1], oo 8 .mv [.t 26]]) c_theorboref06_Count_p29)
abbrev c_theorboref06_Count_p31 : VC := (.seq (.seq (.ops 0 [oo 23 .mv [.t 7], oo 24 (.bin .neq) [.t 23, kk 0]]) (.cond (.t 24) c_theorboref06_Count_p1 .skip)) c_theorboref06_Count_p30)
abbrev c_theorboref06_Count_p32 : VC := (.seq (.ops 0 [oo 18 (.ldA 10) [.t 2], oo 19 .mv [.t 1], oo 20 (.call 76) [.t 18, .t 19], oo 17 .mv [.t 20], oo 21 (.ext 0) [.t 17], oo 22 (.ext 1) [.t 17], oo 6 .mv [.t 21], oo 7 .mv [.t 22]]) c_theorboref06_Count_p31)
def c_theorboref06_Count : VC := (.seq (.ops 3 [oo 2 (.box 25) [.t 0], oo 4 .mv [kk 0], oo 5 .mv [kk 0]]) c_theorboref06_Count_p32)
theorem k_theorboref06_Count : Comp Try.prog nobx gtab 54 112 c_theorboref06_Count [.t 4, .t 5] := ⟨⟨Try.f54, _, Try.func54, rfl, rfl, kr, kr⟩⟩
abbrev c_theorbolaw06_HandCounts_p1 : VC := (.seq (.ops 0 [oo 18 (.call 28) [], oo 2 .mv [.t 18]]) .ret)
abbrev c_theorbolaw06_HandCounts_p2 : VC := (.seq (.ops 0 [oo 2 .mv [(.c (.lit (.bool false)))]]) .ret)
abbrev c_theorbolaw06_HandCounts_p3 : VC := (.seq (.ops 0 [oo 2 .mv [(.c (.lit (.bool false)))]]) .ret)
abbrev c_theorbolaw06_HandCounts_p4 : VC := (.seq (.ops 0 [oo 59 .mv [.t 10], oo 60 (.bin .neq) [.t 59, kk 0], oo 61 .mv [.t 60], og 62 61 false .mv [.t 9], og 63 61 false .len [.t 62], og 64 61 false .mv [.t 5], og 65 61 false .mn [.t 64, kk 64], og 66 61 false (.bin .eql) [.t 63, .t 65], oo 67 .pick [.t 61, (.c (.lit (.bool true))), .t 66], oo 68 .mv [.t 67], og 69 68 true (.call 28) [], oo 70 .pick [.t 68, .t 69, (.c (.lit (.bool false)))], oo 2 .mv [.t 70]]) .ret)
abbrev c_theorbolaw06_HandCounts_p5 : VC := (.seq (.seq (.ops 0 [oo 45 .mv [.t 6], oo 46 (.bin .eql) [.t 45, kk 0], oo 47 .mv [.t 46], og 48 47 true .mv [.t 10], og 49 47 true (.bin .neq) [.t 48, kk 0], oo 50 .pick [.t 47, .t 49, (.c (.lit (.bool false)))], oo 51 .mv [.t 50], og 52 51 true .mv [.t 10], og 53 51 true (.bin .neq) [.t 52, kk 62], og 54 51 true .mv [.t 53], og 55 54 false .mv [.t 5], og 56 54 false (.bin .neq) [.t 55, kk 0], og 57 51 true .pick [.t 54, (.c (.lit (.bool true))), .t 56], oo 58 .pick [.t 51, .t 57, (.c (.lit (.bool false)))]]) (.cond (.t 58) c_theorbolaw06_HandCounts_p3 .skip)) c_theorbolaw06_HandCounts_p4)
abbrev c_theorbolaw06_HandCounts_p6 : VC := (.seq (.ops 0 [oo 40 (.ldA 10) [.t 3], oo 41 .mv [.t 4], oo 42 (.call 37) [.t 40, .t 41, kk 64], oo 39 .mv [.t 42], oo 43 (.ext 0) [.t 39], oo 44 (.ext 1) [.t 39], oo 9 .mv [.t 43], oo 10 .mv [.t 44]]) c_theorbolaw06_HandCounts_p5)
abbrev c_theorbolaw06_HandCounts_p7 : VC := (.seq (.seq (.ops 0 [oo 31 .mv [.t 5], oo 32 .mv [.t 7], oo 33 (.bin .neq) [.t 31, .t 32], oo 34 .mv [.t 33], og 35 34 false .mv [.t 6], og 36 34 false .mv [.t 8], og 37 34 false (.bin .neq) [.t 35, .t 36], oo 38 .pick [.t 34, (.c (.lit (.bool true))), .t 37]]) (.cond (.t 38) c_theorbolaw06_HandCounts_p2 .skip)) c_theorbolaw06_HandCounts_p6)
abbrev c_theorbolaw06_HandCounts_p8 : VC := (.seq (.ops 0 [oo 26 (.ldA 10) [.t 3], oo 27 .mv [.t 4], oo 28 (.call 54) [.t 26, .t 27], oo 25 .mv [.t 28], oo 29 (.ext 0) [.t 25], oo 30 (.ext 1) [.t 25], oo 7 .mv [.t 29], oo 8 .mv [.t 30]]) c_theorbolaw06_HandCounts_p7)
abbrev c_theorbolaw06_HandCounts_p9 : VC := (.seq (.ops 0 [oo 20 (.ldA 10) [.t 3], oo 21 .mv [.t 4], oo 22 (.call 53) [.t 20, .t 21], oo 19 .mv [.t 22], oo 23 (.ext 0) [.t 19], oo 24 (.ext 1) [.t 19], oo 5 .mv [.t 23], oo 6 .mv [.t 24]]) c_theorbolaw06_HandCounts_p8)
abbrev c_theorbolaw06_HandCounts_p10 : VC := (.seq (.seq (.ops 0 [oo 15 (.ldA 10) [.t 3], oo 16 .mv [.t 4], oo 17 (.call 29) [.t 15, .t 16]]) (.cond (.t 17) c_theorbolaw06_HandCounts_p1 .skip)) c_theorbolaw06_HandCounts_p9)
abbrev c_theorbolaw06_HandCounts_p11 : VC := (.seq (.ops 7 [oo 11 (.fldA 0) [.t 1], od 12 (.ldA 10) [.t 11] [0], oo 13 (.fldA 10) [.t 1], od 14 .ld1 [.t 13] [2], ⟨(some 3), none, (.alloc 25 [(.sl 0 [] .exact), (.sl 0 [] .exact), (.sl 0 [] .exact), li 0, li 0, li 0, li 0, li 0, li 0, li 0]), [], (some [])⟩, ⟨none, none, (.st 10), [.t 3, .t 12], (some [4])⟩, oo 4 .mv [.t 14]]) c_theorbolaw06_HandCounts_p10)
def c_theorbolaw06_HandCounts : VC := (.seq (.ops 2 [oo 1 (.box 35) [.t 0], oo 2 .mv [(.c (.lit (.bool false)))]]) c_theorbolaw06_HandCounts_p11)
theorem k_theorbolaw06_HandCounts : Comp Try.prog nobx gtab 14 71 c_theorbolaw06_HandCounts [.t 2] := ⟨⟨Try.f14, _, Try.func14, rfl, rfl, kr, kr⟩⟩
end Go.Proofs.Ytojjdkoglhecbaa
namespace Go.Proofs.Ytojjdkoglhecbaa
open Go.RowKit

/-- Nothing old is changed; or at most the row of this token. -/
def Kf (M M' : Mm) : Prop := M.next ≤ M'.next ∧ ∀ q, q < M.next → M'.obj q = M.obj q
def Kt (tok : Tok) (M M' : Mm) : Prop := M.next ≤ M'.next ∧ ∀ q, q < M.next → tok ≠ .own q → M'.obj q = M.obj q
theorem Kf.refl (M : Mm) : Kf M M := ⟨Nat.le_refl _, fun _ _ => rfl⟩
theorem Kf.trans {M M1 M2 : Mm} (h : Kf M M1) (k : Kf M1 M2) : Kf M M2 := ⟨Nat.le_trans h.1 k.1, fun q hq => (k.2 q (Nat.lt_of_lt_of_le hq h.1)).trans (h.2 q hq)⟩
theorem Kt.box {tok : Tok} {M M' : Mm} (h : Kt tok M M') {n : Nat} {e : TypeId} {z : Nat} (ha : Apb M tok n e z) {q : Nat} (hq : q < M.next) {cs : List V} {ty : TypeId} (ho : M.obj q = some (.box cs ty)) : M'.obj q = some (.box cs ty) := by
  rw [h.2 q hq, ho]
  rintro rfl
  rcases ha with h1 | ⟨t, h1, _, h3⟩
  · cases h1
  · injection h1 with h1; subst h1; rw [ho] at h3; cases h3
theorem apbT_box {m : Mm} {k : Tok} {n : Nat} {e : TypeId} {z : Nat} (h : Apb m k n e z) {q : Nat} {cs : List V} {t : TypeId} (hq : m.obj q = some (.box cs t)) : k ≠ .own q := by
  rintro rfl
  rcases h with h | ⟨t, h1, _, h3⟩
  · cases h
  · injection h1 with h1; subst h1; rw [hq] at h3; cases h3
section
variable {P : Program} {G : Ground}
/-- A slice that may grow does. -/
theorem x_appg {base i : Nat} {d : Option Nat} {e : TypeId} {size bytes : Nat} {x y : Opd} {l : List VI} {s : St} {K : St → Prop} {n j : Nat} {xs ys : List V} {k k2 : Tok} (hx : s.ev x = .sl n xs k) (hy : s.ev y = .sl j ys k2) (hap : Apb s.m k n e size)
    (h1 : xs.length = n * size) (h2 : ys.length = j * size) (h3 : (n + j) * bytes ≤ 140737488355328) (h4 : n + j ≤ maxLen) (h0 : base + i < s.m.next)
    (h : ∀ k' m', Apb m' k' (n + j) e size → (∀ q, k' = .own q → k = .own q ∨ q = base + i) → m'.next = s.m.next → (∀ q, q ≠ base + i → k ≠ .own q → m'.obj q = s.m.obj q) → goR P G base (some ⟨putT s.t d (.sl (n + j) (xs ++ ys) k'), m'⟩) l (i + 1) K) :
    vrun P G base i (⟨d, none, .app e size bytes, [x, y], none⟩ :: l) s K := by
  rw [vrun]
  unfold vstep VI.on
  simp only [if_true, List.map_cons, List.map_nil, hx, hy, sem]
  refine ⟨h1, h2, h3, h4, ?_⟩
  rcases hap with rfl | ⟨t, rfl, ht, ho⟩
  · exact goR_vrun l (i + 1) _ (h _ _ (.inr ⟨base + i, rfl, h0, if_pos rfl⟩) (fun q e => .inr (by injection e with e; exact e.symm)) rfl (fun q hne _ => if_neg hne))
  · simp only [ho]
    exact ⟨rfl, trivial, trivial, trivial, goR_vrun l (i + 1) _ (h _ _ (.inr ⟨t, rfl, ht, if_pos rfl⟩) (fun q e => .inl e) rfl (fun q _ hne => if_neg fun e => hne (by rw [e])))⟩
end
end Go.Proofs.Ytojjdkoglhecbaa
namespace Go.Proofs.Ytojjdkoglhecbaa
open Go.RowKit

theorem capI_if (x : Int) : (if (1099511627776 : Int) < x then (1099511627776 : Int) else x) = capI x := rfl
set_option maxHeartbeats 1000000 in
/-- What Count does at a way. -/
theorem count1_sfn {sb bb : Nat} {s st : Int} {j : Nat} {L : List Int} {tk : Tok} {M : Mm} (h1 : M.obj sb = some (.box [vint s] 3)) (h2 : M.obj bb = some (.box [.sl L.length (L.map vint) tk] 22)) (n1 : sb < M.next) (n2 : bb < M.next)
    (hj : j < L.length) (hL : L.length ≤ 200) (hs : 0 ≤ s ∧ s ≤ 1099511627776) (hv : 0 ≤ L.getD j 0 ∧ L.getD j 0 ≤ 1099511627776) :
    SFn Try.prog Gd 89 [vint j, vint st, .ptr sb 0, .ptr bb 0] M fun r M' => r = .tup [] ∧ M' = M.put sb (.box [vint (capI (s + L.getD j 0))] 3) := by
  refine SFn.of_vxS k_hand_Count_1 (by simp) ?_
  unfold c_hand_Count_1
  have c2 : (j : Int) < (L.length : Int) := by omega
  have w2 : IntKind.i64.wrap (s + L.getD j 0) = s + L.getD j 0 := w_in (by omega)
  have g1 := ints_at hj
  rw [← capI_if]
  clear hj hs hv
  generalize L.getD j 0 = nj at *
  by_cases hc : 1099511627776 < s + nj
  · rw [if_pos hc]
    repeat' (with_reducible first | refine x_ops ?_ | refine wk ?_ | ((first | refine gd1 ?_ ?_ | refine gd2 ?_ ?_ | refine gd3 ?_ ?_) <;> (first | exact @False.elim _ | intro hc)))
    exact ⟨.inl rfl, .tup [], vv, rfl, vv⟩
  · rw [if_neg hc]
    repeat' (with_reducible first | refine x_ops ?_ | refine wk ?_ | ((first | refine gd1 ?_ ?_ | refine gd2 ?_ ?_ | refine gd3 ?_ ?_) <;> (first | exact @False.elim _ | intro hc)))
    exact ⟨.inl rfl, .tup [], vv, rfl, vv⟩

/-- How far the ways from a grip are counted. -/
def CnJ (M : Mm) (sb : Nat) (v : Nat → Int) (j : Nat) (M' : Mm) : Prop := M.next ≤ M'.next ∧ (∀ q, q < M.next → q ≠ sb → M'.obj q = M.obj q) ∧ M'.obj sb = some (.box [vint (v j)] 3)
theorem ints_take {l : List Int} {k : Nat} (hk : k < l.length) : (l.take (k + 1)).map vint = (l.take k).map vint ++ [vint (l.getD k 0)] := by
  rw [List.take_succ_eq_append_getElem hk, List.map_append, List.getD_eq_getElem?_getD, List.getElem?_eq_getElem hk]; rfl

set_option maxHeartbeats 4000000 in
/-- The ways from a grip, counted into a box. -/
theorem count_ways {h : Hand} {l : List Chord} {Gs : List (List Grip)} (hn : NetOk h l Gs) {i k : Nat} (hi : i < l.length) (hk : k < (Gs.getD i []).length) {sb bb : Nat} {bv : V} {M : Mm} (o1 : M.obj sb = some (.box [vint (if i + 1 = l.length then 1 else 0)] 3)) (o2 : M.obj bb = some (.box [bv] 22))
    (hbv : i + 1 < l.length → ∃ tk, bv = .sl (Gs.getD (i + 1) []).length ((cnR h l Gs (i + 1)).map vint) tk) (n1 : sb < M.next) (n2 : bb < M.next) (hne : bb ≠ sb) :
    SFn Try.prog Gd 88 [netE h l Gs, vint i, vint k, .fn 89 [.ptr sb 0, .ptr bb 0]] M fun r M' => r = .tup [] ∧ M.next ≤ M'.next ∧ (∀ q, q < M.next → q ≠ sb → M'.obj q = M.obj q) ∧ M'.obj sb = some (.box [vint (cn h l Gs i k)] 3) := by
  let v : Nat → Int := fun j => if i + 1 = l.length then 1 else cnS (cnF h l Gs i k) j
  have hJ0 : CnJ M sb v 0 M := ⟨Nat.le_refl _, fun _ _ _ => rfl, by rw [o1]; show _ = some (AObj.box [vint (if i + 1 = l.length then _ else _)] _); split <;> rfl⟩
  have hcnt := hn.cnt (i + 1)
  have W := ways_sfnE hn hi hk 89 [.ptr sb 0, .ptr bb 0] kr (CnJ M sb v) M hJ0 (fun j _ => ⟨M.put sb (.box [vint (v j)] 3), Nat.le_refl _, fun q _ hq => if_neg hq, if_pos rfl⟩) ?_ ?_
  · refine W.mono ?_
    rintro r M' ⟨h1, h2, h3, h4⟩
    refine ⟨h1, h2, h3, ?_⟩
    rw [h4]
    by_cases e : i + 1 = l.length
    · show some (AObj.box [vint (if i + 1 = l.length then _ else _)] _) = _
      rw [if_pos e, cn_last e]
    · show some (AObj.box [vint (if i + 1 = l.length then _ else _)] _) = _
      rw [if_neg e, if_neg e, cn_s (by omega), rsT_len (by omega)]
  · rintro j M' ⟨h1, h2, h3⟩ hi1 hj hN hst
    have hl1 := rsT_len (h := h) (Gs := Gs) hi1
    have hj2 : j < (Gs.getD (i + 1) []).length := by omega
    obtain ⟨tk, rfl⟩ := hbv hi1
    have e : ¬ i + 1 = l.length := by omega
    have hv : v j = cnS (cnF h l Gs i k) j := if_neg e
    have hv1 : v (j + 1) = capI (cnS (cnF h l Gs i k) j + cnF h l Gs i k j) := if_neg e
    have hf : cnF h l Gs i k j = (cnR h l Gs (i + 1)).getD j 0 := by
      rw [cnF, if_pos (show (stG h l Gs i k j).2 = true from hst), cnR_at hj2]
    have hb := cnS_ok (f := cnF h l Gs i k) (n := (Gs.getD (i + 1) []).length) (fun m _ => (cnF_ok i k m).1) j (by omega)
    have hc := cn_ok (h := h) (l := l) (Gs := Gs) (i + 1) j
    rw [← cnR_at hj2] at hc
    have hL := cnR_len (h := h) (l := l) (Gs := Gs) (i + 1)
    rw [← hL] at o2 hj2 hcnt
    refine (count1_sfn (s := v j) h3 ((h2 bb n2 hne).trans o2) (by omega) (by omega) hj2 hcnt (by rw [hv]; exact hb) hc).mono ?_
    rintro r M2 ⟨rfl, rfl⟩
    refine ⟨rfl, h1, fun q hq hqs => (put_other _ _ hqs).trans (h2 q hq hqs), ?_⟩
    rw [put_same, hv1, hv, hf]
  · rintro j M' ⟨h1, h2, h3⟩ hi1 hj hsk
    refine ⟨h1, h2, ?_⟩
    have hl1 := rsT_len (h := h) (Gs := Gs) hi1
    have e : ¬ i + 1 = l.length := by omega
    rw [h3]
    show some (AObj.box [vint (if i + 1 = l.length then _ else _)] _) = some (AObj.box [vint (if i + 1 = l.length then _ else _)] _)
    rw [if_neg e, if_neg e, cnS_skip (n := (Gs.getD (i + 1) []).length) (fun m _ => (cnF_ok i k m).1) (by omega) (cnF_none hn hi1 (by omega) hsk)]

set_option maxHeartbeats 4000000 in
/-- The count of a grip. -/
theorem count_elem {h : Hand} {l : List Chord} {Gs : List (List Grip)} (hn : NetOk h l Gs) {i k : Nat} (hi : i < l.length) (hk : k < (Gs.getD i []).length) {bb : Nat} {bv : V} {M : Mm} {tok : Tok} {t : Nat → V}
    (s1 : t 1 = .sl l.length (l.flatMap Chord.cells) .no) (s6 : t 6 = netE h l Gs) (s8 : t 8 = .ptr bb 0) (s9 : t 9 = vint i) (s10 : t 10 = .sl k (((cnR h l Gs i).take k).map vint) tok) (s11 : t 11 = vint k)
    (hap : Apb M tok k 3 1) (o2 : M.obj bb = some (.box [bv] 22)) (n2 : bb < M.next) (hbv : i + 1 < l.length → ∃ tk, bv = .sl (Gs.getD (i + 1) []).length ((cnR h l Gs (i + 1)).map vint) tk) :
    (c_hand_Count_p7).vx Try.prog Gd (fun e s' => e = .nrm ∧ (∃ tok', s'.t 10 = .sl (k + 1) (((cnR h l Gs i).take (k + 1)).map vint) tok' ∧ Apb s'.m tok' (k + 1) 3 1) ∧ s'.m.obj bb = some (.box [bv] 22) ∧ M.next ≤ s'.m.next) ⟨t, M⟩ := by
  have h4 := hn.len
  have hcnt := hn.cnt i
  have W := fun (M1 : Mm) (sb : Nat) o1 o2 n1 n2 hne => count_ways hn hi hk (sb := sb) (bb := bb) (bv := bv) (M := M1) o1 o2 hbv n1 n2 hne
  have hlen := cnR_len (h := h) (l := l) (Gs := Gs) i
  have htk := ints_take (l := cnR h l Gs i) (k := k) (by omega)
  rw [cnR_at hk] at htk
  have hxl : (((cnR h l Gs i).take k).map vint).length = k := by rw [List.length_map, List.length_take]; omega
  have w1 : IntKind.i64.wrap ((l.length : Int) - 1) = (l.length : Int) - 1 := w_in (by omega)
  have x1 : ¬ bb = M.next := by omega
  have x2 : ¬ M.next = bb := by omega
  generalize cn h l Gs i k = ck at *
  generalize ((cnR h l Gs i).take k).map vint = xs at *
  replace W := Hid.mk W
  replace htk := Hid.mk htk
  replace hap := Hid.mk hap
  replace hcnt := Hid.mk hcnt
  replace hk := Hid.mk hk
  clear hn hbv hlen
  unfold c_hand_Count_p7
  have fin : ∀ (M1 : Mm), M1.next = M.next + 2 → (∀ q, q < M.next → M1.obj q = M.obj q) → M1.obj M.next = some (.box [vint (if i + 1 = l.length then 1 else 0)] 3) →
      SFn Try.prog Gd 88 [netE h l Gs, vint i, vint k, .fn 89 [.ptr M.next 0, .ptr bb 0]] M1 fun r M' => r = .tup [] ∧ M1.next ≤ M'.next ∧ (∀ q, q < M1.next → q ≠ M.next → M'.obj q = M1.obj q) ∧ M'.obj M.next = some (.box [vint ck] 3) := by
    intro M1 hn1 hf1 ho1
    exact W.out M1 M.next ho1 ((hf1 bb n2).trans o2) (by omega) (by omega) x1
  replace fin := Hid.mk fin
  have finE : ∀ (M1 : Mm), ∃ (r : V) (M' : Mm), r = .tup [] ∧ M1.next ≤ M'.next ∧ (∀ q, q < M1.next → q ≠ M.next → M'.obj q = M1.obj q) ∧ M'.obj M.next = some (.box [vint ck] 3) := fun M1 => ⟨_, M1.put M.next (.box [vint ck] 3), rfl, Nat.le_refl _, fun q _ hq => put_other _ _ hq, put_same _ _ _⟩
  replace finE := Hid.mk finE
  by_cases hlast : i + 1 = l.length
  · have e1 : ((i : Int) == (l.length : Int) - 1) = true := by rw [beq_iff_eq]; omega
    have hl9 := Hid.mk hlast
    clear hlast
    repeat' (with_reducible first | refine x_ops ?_ | refine wk ?_ | ((first | refine gd1 ?_ ?_ | refine gd2 ?_ ?_ | refine gd3 ?_ ?_) <;> (first | exact @False.elim _ | intro hc)))
    refine x_scallR [netE h l Gs, vint i, vint k, .fn 89 [.ptr M.next 0, .ptr bb 0]] vw (fin.out _ rfl (fun q hq => (put_other _ _ (by omega)).trans ((put_other _ _ (by omega)).trans (put_other _ _ (by omega)))) (by rw [if_pos hl9.out]; exact put_same _ _ _)) (finE.out _) ?_
    rintro r M2 ⟨rfl, h2, f2, b2⟩
    have h2' : M.next + 2 ≤ M2.next := h2
    have f3 : ∀ q, q < M.next → M2.obj q = M.obj q := fun q hq => (f2 q (by show q < M.next + 2; omega) (by omega)).trans ((put_other _ _ (by omega)).trans ((put_other _ _ (by omega)).trans (put_other _ _ (by omega))))
    have lb : M.next < M2.next := by omega
    have hap2 : Apb M2 tok k 3 1 := hap.out.mono (fun t ht _ => f3 t ht) (by omega)
    have hnt : tok ≠ .own bb := fun e => by
      rcases hap.out with h9 | ⟨tr, h9, _, h8⟩
      · rw [h9] at e; cases e
      · rw [h9] at e; injection e with e; rw [e, o2] at h8; cases h8
    have ob := (f3 bb n2).trans o2
    replace hap2 := Hid.mk hap2
    replace ob := Hid.mk ob
    replace hnt := Hid.mk hnt
    clear f2 h2 f3
    repeat' (with_reducible first | refine x_ops ?_ | refine wk ?_ | ((first | refine gd1 ?_ ?_ | refine gd2 ?_ ?_ | refine gd3 ?_ ?_) <;> (first | exact @False.elim _ | intro hc)))
    refine x_appg (n := k) (xs := xs) (ys := [vint ck]) (k := tok) vw vw (hap2.out.mono (fun _ _ _ => rfl) (by show M2.next ≤ M2.next + 5; omega)) (hxl.trans (Nat.mul_one k).symm) rfl (by have := hk.out; have := hcnt.out; omega) (by unfold Go.maxLen; have := hk.out; have := hcnt.out; omega) (by show M2.next + 3 < M2.next + 5; omega) ?_
    intro k' m' ha hk' hn' hf'
    have hn2 : m'.next = M2.next + 5 := hn'
    have ob2 := (hf' bb (by show ¬ bb = M2.next + 3; omega) hnt.out).trans ob.out
    replace ha := Hid.mk ha
    replace ob2 := Hid.mk ob2
    clear hf' hk' hn'
    repeat' (with_reducible first | refine x_ops ?_ | refine wk ?_ | ((first | refine gd1 ?_ ?_ | refine gd2 ?_ ?_ | refine gd3 ?_ ?_) <;> (first | exact @False.elim _ | intro hc)))
    exact ⟨⟨k', by rw [htk.out]; rfl, ha.out⟩, ob2.out, by show M.next ≤ M2.next + 5; omega⟩
  · have e1 : ((i : Int) == (l.length : Int) - 1) = false := by rw [beq_eq_false_iff_ne]; omega
    have hl9 := Hid.mk hlast
    clear hlast
    repeat' (with_reducible first | refine x_ops ?_ | refine wk ?_ | ((first | refine gd1 ?_ ?_ | refine gd2 ?_ ?_ | refine gd3 ?_ ?_) <;> (first | exact @False.elim _ | intro hc)))
    refine x_scallR [netE h l Gs, vint i, vint k, .fn 89 [.ptr M.next 0, .ptr bb 0]] vw (fin.out _ rfl (fun q hq => (put_other _ _ (by omega)).trans (put_other _ _ (by omega))) (by rw [if_neg hl9.out]; exact put_same _ _ _)) (finE.out _) ?_
    rintro r M2 ⟨rfl, h2, f2, b2⟩
    have h2' : M.next + 2 ≤ M2.next := h2
    have f3 : ∀ q, q < M.next → M2.obj q = M.obj q := fun q hq => (f2 q (by show q < M.next + 2; omega) (by omega)).trans ((put_other _ _ (by omega)).trans (put_other _ _ (by omega)))
    have lb : M.next < M2.next := by omega
    have hap2 : Apb M2 tok k 3 1 := hap.out.mono (fun t ht _ => f3 t ht) (by omega)
    have hnt : tok ≠ .own bb := fun e => by
      rcases hap.out with h9 | ⟨tr, h9, _, h8⟩
      · rw [h9] at e; cases e
      · rw [h9] at e; injection e with e; rw [e, o2] at h8; cases h8
    have ob := (f3 bb n2).trans o2
    replace hap2 := Hid.mk hap2
    replace ob := Hid.mk ob
    replace hnt := Hid.mk hnt
    clear f2 h2 f3
    repeat' (with_reducible first | refine x_ops ?_ | refine wk ?_ | ((first | refine gd1 ?_ ?_ | refine gd2 ?_ ?_ | refine gd3 ?_ ?_) <;> (first | exact @False.elim _ | intro hc)))
    refine x_appg (n := k) (xs := xs) (ys := [vint ck]) (k := tok) vw vw (hap2.out.mono (fun _ _ _ => rfl) (by show M2.next ≤ M2.next + 5; omega)) (hxl.trans (Nat.mul_one k).symm) rfl (by have := hk.out; have := hcnt.out; omega) (by unfold Go.maxLen; have := hk.out; have := hcnt.out; omega) (by show M2.next + 3 < M2.next + 5; omega) ?_
    intro k' m' ha hk' hn' hf'
    have hn2 : m'.next = M2.next + 5 := hn'
    have ob2 := (hf' bb (by show ¬ bb = M2.next + 3; omega) hnt.out).trans ob.out
    replace ha := Hid.mk ha
    replace ob2 := Hid.mk ob2
    clear hf' hk' hn'
    repeat' (with_reducible first | refine x_ops ?_ | refine wk ?_ | ((first | refine gd1 ?_ ?_ | refine gd2 ?_ ?_ | refine gd3 ?_ ?_) <;> (first | exact @False.elim _ | intro hc)))
    exact ⟨⟨k', by rw [htk.out]; rfl, ha.out⟩, ob2.out, by show M.next ≤ M2.next + 5; omega⟩

set_option maxHeartbeats 2000000 in
/-- The sum over the first chord's grips. -/
theorem count_end {L : List Int} {bb : Nat} {tk : Tok} {M : Mm} {t : Nat → V} (hL : L.length ≤ 200) (hv : ∀ j, j < L.length → 0 ≤ L.getD j 0 ∧ L.getD j 0 ≤ 1099511627776) (s8 : t 8 = .ptr bb 0) (o2 : M.obj bb = some (.box [.sl L.length (L.map vint) tk] 22)) (n2 : bb < M.next) :
    (c_hand_Count_p25).vx Try.prog Gd (FinV [.t 4, .t 5] (.tup [vint (cnS (fun j => L.getD j 0) L.length), vint 0])) ⟨t, M⟩ := by
  unfold c_hand_Count_p25
  replace hv := Hid.mk hv
  repeat' (with_reducible first | refine x_ops ?_ | refine wk ?_ | ((first | refine gd1 ?_ ?_ | refine gd2 ?_ ?_ | refine gd3 ?_ ?_) <;> (first | exact @False.elim _ | intro hc)))
  refine x_loopW w_hand_Count_p21 kr L.length (fun k t M' => t 64 = vint (k : Int) ∧ t 13 = vint (cnS (fun j => L.getD j 0) k)) ⟨vv, vv⟩ ?_
  rintro k t1 M1 hk ⟨h64, h13⟩
  by_cases hkl : k < L.length
  case neg =>
    have hke : k = L.length := by omega
    subst hke
    have c1 : ¬ (L.length : Int) < (L.length : Int) := by omega
    repeat' (with_reducible first | refine x_ops ?_ | refine wk ?_ | ((first | refine gd1 ?_ ?_ | refine gd2 ?_ ?_ | refine gd3 ?_ ?_) <;> (first | exact @False.elim _ | intro hc)))
    exact finV_dry rfl vw
  have c1 : (k : Int) < (L.length : Int) := by omega
  have g1 := ints_at hkl
  have w1 := w_add1 (k := k) (by omega)
  have hb := cnS_ok (f := fun j => L.getD j 0) (n := L.length) (fun m hm => (hv.out m hm).1) k hk
  have hb2 := hv.out k hkl
  have hsv : cnS (fun j => L.getD j 0) (k + 1) = capI (cnS (fun j => L.getD j 0) k + L.getD k 0) := rfl
  have w2 : IntKind.i64.wrap (cnS (fun j => L.getD j 0) k + L.getD k 0) = cnS (fun j => L.getD j 0) k + L.getD k 0 := w_in (by omega)
  rw [← capI_if] at hsv
  replace hsv := Hid.mk hsv
  replace hkl := Hid.mk hkl
  generalize hS : cnS (fun j => L.getD j 0) k = S at *
  clear hb hb2 hS
  by_cases hc : 1099511627776 < S + L.getD k 0
  · have h9 := hsv.out
    rw [if_pos hc] at h9
    replace h9 := Hid.mk h9
    repeat' (with_reducible first | refine x_ops ?_ | refine wk ?_ | ((first | refine gd1 ?_ ?_ | refine gd2 ?_ ?_ | refine gd3 ?_ ?_) <;> (first | exact @False.elim _ | intro hc)))
    exact nx hkl.out ⟨vv, by rw [h9.out]; exact vv⟩
  · have h9 := hsv.out
    rw [if_neg hc] at h9
    replace h9 := Hid.mk h9
    repeat' (with_reducible first | refine x_ops ?_ | refine wk ?_ | ((first | refine gd1 ?_ ?_ | refine gd2 ?_ ?_ | refine gd3 ?_ ?_) <;> (first | exact @False.elim _ | intro hc)))
    exact nx hkl.out ⟨vv, by rw [h9.out]; exact vv⟩

set_option maxHeartbeats 4000000 in
theorem Count_fn (h : Hand) (l : List Chord) (hl : Fits l) : Fn Try.prog Gd 53 [h.val, tCs l] (.tup [vint (cntR h l).1, vint (cntR h l).2]) := by
  refine Fn.of_vx0 k_hand_Count (by simp) (by rw [V.pures, pure_hand, V.pures, pure_tCs]; rfl) ?_
  have C1 := weave_fn h l hl
  unfold wvR at C1
  rw [cntR]
  unfold c_hand_Count
  by_cases hw : wvE h l = 0
  case neg =>
    rw [if_neg hw] at C1 ⊢
    have e1 : (wvE h l == 0) = false := by rw [beq_eq_false_iff_ne]; exact hw
    clear hw
    unfold Hand.val tCs at C1 ⊢
    dsimp only
    repeat' (with_reducible first | refine x_ops ?_ | refine wk ?_ | (with_reducible refine xc (C1) ?_) | ((first | refine gd1 ?_ ?_ | refine gd2 ?_ ?_ | refine gd3 ?_ ?_) <;> (first | exact @False.elim _ | intro hc)))
    exact finV_dry rfl vv
  rw [if_pos hw] at C1 ⊢
  have hn := wv_net hl hw
  have h4 := hn.len
  have hgl := hn.gl
  generalize tabG h l = Gs at *
  dsimp only
  by_cases h0 : l.length = 0
  · rw [cnT, if_pos h0]
    have e1 : ((l.length : Int) == 0) = true := by rw [beq_iff_eq]; omega
    unfold netE netC Hand.val tCs at C1
    unfold Hand.val tCs
    clear hw hn h0
    repeat' (with_reducible first | refine x_ops ?_ | refine wk ?_ | (with_reducible refine xc (C1) ?_) | ((first | refine gd1 ?_ ?_ | refine gd2 ?_ ?_ | refine gd3 ?_ ?_) <;> (first | exact @False.elim _ | intro hc)))
    exact finV_dry rfl vv
  have e1 : ((l.length : Int) == 0) = false := by rw [beq_eq_false_iff_ne]; omega
  have w1 : IntKind.i64.wrap ((l.length : Int) - 1) = (l.length : Int) - 1 := w_in (by omega)
  rw [cn_t (by omega)]
  have hne : netE h l Gs = .ept [.sl h.low.length (h.low.map vint) .no, .sl h.high.length (h.high.map vint) .no, .sl h.barre.length (h.barre.map vbool) .no, .lit (.int .i64 h.top), .lit (.int .i64 h.jump), .lit (.int .i64 h.shift), .lit (.int .i64 h.lift), .lit (.int .i64 h.bar), .lit (.int .i64 h.stretch), .lit (.int .i64 h.slide),
    .sl l.length (l.flatMap Chord.cells) .no, .sl Gs.length (Gs.map tGs) .no, .sl (owA h l Gs).length ((owA h l Gs).map tIs) .no, .sl (rsA h l Gs).length ((rsA h l Gs).map tIs) .no] 0 := rfl
  rw [hgl] at hne
  generalize hNE : netE h l Gs = NE at *
  unfold Hand.val tCs at C1 ⊢
  replace hn := Hid.mk hn
  replace hNE := Hid.mk hNE
  replace hne := Hid.mk hne
  replace h0 := Hid.mk h0
  replace hgl := Hid.mk hgl
  clear hw
  repeat' (with_reducible first | refine x_ops ?_ | refine wk ?_ | (with_reducible refine xc (C1) ?_) | ((first | refine gd1 ?_ ?_ | refine gd2 ?_ ?_ | refine gd3 ?_ ?_) <;> (first | exact @False.elim _ | intro hc)))
  clear C1
  refine x_genT (fun t M => t 1 = .sl l.length (l.flatMap Chord.cells) .no ∧ t 6 = NE ∧ t 9 = vint ((l.length : Int) - 1) ∧ ∃ bb, t 8 = .ptr bb 0 ∧ M.obj bb = some (.box [.sl 0 [] .exact] 22) ∧ bb < M.next) ⟨vv, vv, vv, _, vv, (by ((refine ve ?_; try exact True.intro))), by first | exact (show 3 < 4 by decide) | exact (by decide)⟩ ?_
  rintro t0 M0' ⟨a1, a6, a9, bb, a8, ho, hlt⟩
  clear e1
  refine x_loopW w_hand_Count_p16 kr l.length (fun x t M => t 9 = vint ((l.length : Int) - 1 - x) ∧ bb < M.next ∧ ∃ bv, M.obj bb = some (.box [bv] 22) ∧ (0 < x → ∃ tk, bv = .sl (Gs.getD (l.length - x) []).length ((cnR h l Gs (l.length - x)).map vint) tk)) ⟨by simpa using a9, hlt, _, ho, fun h9 => by omega⟩ ?_
  clear a9 ho hlt w1
  rintro x t M hx ⟨h9, hlt, bv, ho, hbv⟩
  by_cases hxl : x < l.length
  case neg =>
    have hxe : x = l.length := by omega
    subst hxe
    have c1 : ¬ (0 : Int) ≤ (l.length : Int) - 1 - (l.length : Int) := by omega
    obtain ⟨tk, rfl⟩ := hbv (by have := h0.out; omega)
    rw [Nat.sub_self, ← cnR_len (h := h) (l := l)] at ho
    have hcnt := hn.out.cnt 0
    have hfin : cnS (fun j => (cnR h l Gs 0).getD j 0) (cnR h l Gs 0).length = cnS (cn h l Gs 0) (Gs.getD 0 []).length := by
      rw [cnR_len]
      have : ∀ j, j ≤ (Gs.getD 0 []).length → cnS (fun j => (cnR h l Gs 0).getD j 0) j = cnS (cn h l Gs 0) j := by
        intro j
        induction j with
        | zero => intro _; rfl
        | succ j ih => intro hj; rw [cnS, cnS, ih (by omega), cnR_at (by omega)]
      exact this _ (Nat.le_refl _)
    have E := fun t (s8 : t 8 = .ptr bb 0) => count_end (t := t) (L := cnR h l Gs 0) (by rw [cnR_len]; exact hcnt) (fun j hj => by rw [cnR_len] at hj; rw [cnR_at hj]; exact cn_ok _ _) s8 ho hlt
    rw [hfin] at E
    replace E := Hid.mk E
    clear hfin hcnt hbv hxl hx ho
    repeat' (with_reducible first | refine x_ops ?_ | refine wk ?_ | ((first | refine gd1 ?_ ?_ | refine gd2 ?_ ?_ | refine gd3 ?_ ?_) <;> (first | exact @False.elim _ | intro hc)))
    exact E.out _ vw
  obtain ⟨i, hi⟩ : ∃ i : Nat, i + 1 + x = l.length := ⟨l.length - 1 - x, by omega⟩
  have ei : (l.length : Int) - 1 - (x : Int) = (i : Int) := by omega
  rw [ei] at h9
  have hil : i < l.length := by omega
  have hbv2 : i + 1 < l.length → ∃ tk, bv = .sl (Gs.getD (i + 1) []).length ((cnR h l Gs (i + 1)).map vint) tk := fun h1 => by
    have := hbv (by omega)
    rwa [show l.length - x = i + 1 by omega] at this
  have c0 : (0 : Int) ≤ (i : Int) := by omega
  have c1 : (i : Int) < (l.length : Int) := by omega
  have g1 := gss_at' (l := Gs) (k := i) (by rw [hgl.out]; exact hil)
  have hcnt := hn.out.cnt i
  have hne1 := hne.out
  have hgl1 := hgl.out
  replace hi := Hid.mk hi
  replace ho := Hid.mk ho
  replace hbv2 := Hid.mk hbv2
  replace ei := Hid.mk ei
  clear hbv hx
  repeat' (with_reducible first | refine x_ops ?_ | refine wk ?_ | ((first | refine gd1 ?_ ?_ | refine gd2 ?_ ?_ | refine gd3 ?_ ?_) <;> (first | exact @False.elim _ | intro hc)))
  refine x_genT (fun t M' => (t 1 = .sl l.length (l.flatMap Chord.cells) .no ∧ t 6 = NE ∧ t 8 = .ptr bb 0 ∧ t 9 = vint i) ∧ (t 10 = .sl 0 [] .exact ∧ t 42 = vint (Gs.getD i []).length ∧ t 43 = vint 0) ∧ M'.obj bb = some (.box [bv] 22) ∧ bb < M'.next) ⟨⟨vw, vw, vw, vw⟩, ⟨vw, vw, vw⟩, ho.out, hlt⟩ ?_
  clear a1 a6 a8 h9 ho hlt hne1 hgl1 g1 c0
  rintro t2 M2 ⟨⟨a1, a6, a8, a9⟩, ⟨a10, a42, a43⟩, ho, hlt⟩
  refine x_loopW w_hand_Count_p10 kr (Gs.getD i []).length (fun k t M' => t 43 = vint (k : Int) ∧ (∃ tok, t 10 = .sl k (((cnR h l Gs i).take k).map vint) tok ∧ Apb M' tok k 3 1) ∧ M'.obj bb = some (.box [bv] 22) ∧ bb < M'.next) ⟨a43, ⟨.exact, a10, .inl rfl⟩, ho, hlt⟩ ?_
  clear a43 a10 ho hlt
  rintro k t3 M3 hk ⟨h43, ⟨tok, h10, hap⟩, ho, hlt⟩
  by_cases hkl : k < (Gs.getD i []).length
  case neg =>
    have hke : k = (Gs.getD i []).length := by omega
    subst hke
    have c2 : ¬ ((Gs.getD i []).length : Int) < ((Gs.getD i []).length : Int) := by omega
    have htk : (cnR h l Gs i).take (Gs.getD i []).length = cnR h l Gs i := List.take_of_length_le (by rw [cnR_len]; exact Nat.le_refl _)
    rw [htk] at h10
    have w1 : IntKind.i64.wrap ((i : Int) - 1) = (i : Int) - 1 := w_in (by omega)
    have ex : (i : Int) - 1 = (l.length : Int) - 1 - ((x + 1 : Nat) : Int) := by have := hi.out; omega
    have el : l.length - (x + 1) = i := by have := hi.out; omega
    replace hxl := Hid.mk hxl
    replace ex := Hid.mk ex
    replace el := Hid.mk el
    clear htk hkl hk hap hcnt
    repeat' (with_reducible first | refine x_ops ?_ | refine wk ?_ | ((first | refine gd1 ?_ ?_ | refine gd2 ?_ ?_ | refine gd3 ?_ ?_) <;> (first | exact @False.elim _ | intro hc)))
    exact nx hxl.out ⟨by rw [← ex.out]; exact vw, hlt, _, put_same _ _ _, fun _ => ⟨tok, by rw [el.out]⟩⟩
  have c2 : (k : Int) < ((Gs.getD i []).length : Int) := by omega
  have w1 := w_add1 (k := k) (by omega)
  have E := fun t (s1 : t 1 = _) (s6 : t 6 = _) (s8 : t 8 = _) (s9 : t 9 = _) (s10 : t 10 = _) (s11 : t 11 = vint k) => count_elem (t := t) hn.out hil hkl s1 s6 s8 s9 s10 s11 hap ho hlt hbv2.out
  rw [hNE.out] at E
  replace E := Hid.mk E
  replace hkl := Hid.mk hkl
  clear hap ho hk
  repeat' (with_reducible first | refine x_ops ?_ | refine wk ?_ | ((first | refine gd1 ?_ ?_ | refine gd2 ?_ ?_ | refine gd3 ?_ ?_) <;> (first | exact @False.elim _ | intro hc)))
  refine x_sum 1152851135862674432 kr (R := fun e t m' => e = .nrm ∧ (∃ tok', t 10 = .sl (k + 1) (((cnR h l Gs i).take (k + 1)).map vint) tok' ∧ Apb m' tok' (k + 1) 3 1) ∧ m'.obj bb = some (.box [bv] 22) ∧ M3.next ≤ m'.next) (E.out _ vw vw vw vw vw vw) ?_
  rintro e t4 M4 ⟨rfl, ⟨tok4, h104, hap4⟩, ho4, hn4⟩
  have hl4 : bb < M4.next := by omega
  replace hap4 := Hid.mk hap4
  replace ho4 := Hid.mk ho4
  clear E
  repeat' (with_reducible first | refine x_ops ?_ | refine wk ?_ | ((first | refine gd1 ?_ ?_ | refine gd2 ?_ ?_ | refine gd3 ?_ ?_) <;> (first | exact @False.elim _ | intro hc)))
  exact nx hkl.out ⟨vw, ⟨tok4, vw, hap4.out⟩, ho4.out, hl4⟩
end Go.Proofs.Ytojjdkoglhecbaa
namespace Go.Proofs.Ytojjdkoglhecbaa
open Go.RowKit

/-- A queue of the heads of lists, after j have been taken; where one is due, that of the list of the last one taken is not in it. -/
structure BagI (n : Nat) (c : Nat → List Int) (j : Nat) (due : Bool) (W : List Way) : Prop where
  len : W.length + (if due = true then 1 else 0) ≤ n
  nd : W.Nodup
  pos : due = true → 0 < j
  grd : ∃ a, Grd n c j a ∧ ∀ w, w ∈ W ↔ ∃ m, m < n ∧ a m < (c m).length ∧ w = hdG c a m ∧ (due = true → (m : Int) ≠ ((mrg n c).getD (j - 1) noW).2.1)
section
variable {n : Nat} {c : Nat → List Int}
theorem bag_le {j : Nat} {due : Bool} {W : List Way} (h : BagI n c j due W) : j ≤ (mrg n c).length := by obtain ⟨a, h1, _⟩ := h.grd; exact h1.le
theorem bag_end (hs : ∀ m, m < n → Asc (c m)) {j : Nat} (h : BagI n c j false []) : j = (mrg n c).length := by
  obtain ⟨a, h1, h2⟩ := h.grd
  have h3 := h1.le
  rcases Nat.lt_or_ge j (mrg n c).length with h4 | h4
  · obtain ⟨m, h5, h6⟩ := (grd_more hs h1).1 h4
    exact absurd ((h2 _).2 ⟨m, h5, h6, rfl, fun e => by cases e⟩) (by simp)
  · omega
theorem bag_pop (hs : ∀ m, m < n → Asc (c m)) {j : Nat} {W W' : List Way} {w : Way} (h : BagI n c j false W) (hw : w ∈ W) (hm : ∀ x ∈ W, befW x w = false) (hp : (w :: W').Perm W) :
    j < (mrg n c).length ∧ (mrg n c).getD j noW = w ∧ BagI n c (j + 1) true W' ∧ 0 ≤ w.2.1 := by
  obtain ⟨a, h1, h2⟩ := h.grd
  obtain ⟨m, m1, m2, rfl, _⟩ := (h2 _).1 hw
  obtain ⟨h3, h4, h5⟩ := grd_pick hs h1 m1 m2 fun x x1 x2 => hm _ ((h2 _).2 ⟨x, x1, x2, rfl, fun e => by cases e⟩)
  have hnd : (hdG c a m :: W').Nodup := hp.nodup_iff.2 h.nd
  have hl := hp.length_eq
  have hlen := h.len
  rw [List.length_cons] at hl
  rw [if_neg (by simp)] at hlen
  refine ⟨h3, h4, ⟨by rw [if_pos rfl]; omega, (List.nodup_cons.1 hnd).2, fun _ => by omega, _, h5, fun w => ?_⟩, by show (0 : Int) ≤ (m : Int); omega⟩
  rw [show j + 1 - 1 = j by omega, h4]
  have hmem : w ∈ W' ↔ w ∈ W ∧ w ≠ hdG c a m := by
    rw [← hp.mem_iff, List.mem_cons]
    constructor
    · intro hw'
      exact ⟨.inr hw', fun e => by subst e; exact (List.nodup_cons.1 hnd).1 hw'⟩
    · rintro ⟨hw' | hw', hne⟩
      · exact absurd hw' hne
      · exact hw'
  rw [hmem, h2]
  constructor
  · rintro ⟨⟨x, x1, x2, rfl, _⟩, hne⟩
    have hxm : x ≠ m := fun e => hne (by rw [e])
    refine ⟨x, x1, by rw [if_neg hxm]; exact x2, by unfold hdG; dsimp only; rw [if_neg hxm], fun _ e => hxm ?_⟩
    unfold hdG at e
    dsimp only at e
    omega
  · rintro ⟨x, x1, x2, rfl, hne⟩
    have hxm : x ≠ m := fun e => hne rfl (by subst e; rfl)
    rw [if_neg hxm] at x2
    refine ⟨⟨x, x1, x2, by unfold hdG; dsimp only; rw [if_neg hxm], fun e => by cases e⟩, fun e => hxm ?_⟩
    have h9 : ((x : Nat) : Int) = (m : Int) := congrArg (fun w : Way => w.2.1) e
    omega
/-- The one that is due: the next of the list that the last one came from. -/
theorem bag_due (hs : ∀ m, m < n → Asc (c m)) {j : Nat} {W : List Way} (h : BagI n c j true W) : ∃ m r : Nat, 0 < j ∧ r < j ∧ m < n ∧ r < (c m).length ∧ (mrg n c).getD (j - 1) noW = ((c m).getD r 0, (m : Int), (r : Int)) ∧
    (r + 1 < (c m).length → BagI n c j false (W ++ [((c m).getD (r + 1) 0, (m : Int), ((r + 1 : Nat) : Int))])) ∧ (¬ r + 1 < (c m).length → BagI n c j false W) := by
  obtain ⟨a, h1, h2⟩ := h.grd
  have hj := h.pos rfl
  have hjl := h1.le
  have hlen := h.len
  rw [if_pos rfl] at hlen
  obtain ⟨m, r, m1, m2, m3⟩ := mem_mrg.1 (mrg_mem_at (n := n) (c := c) (j := j - 1) (by omega))
  -- a m is one more than r
  have ha : a m = r + 1 := by
    have e1 := (h1.has m r m1 m2).1 (mem_take_at.2 ⟨j - 1, by omega, by omega, m3.symm⟩)
    have h3 := h1.al m m1
    rcases Nat.lt_or_ge (r + 1) (a m) with h4 | h4
    · have h5 := (h1.has m (r + 1) m1 (by omega)).2 h4
      rw [mem_take_at] at h5
      obtain ⟨i, i1, i2, i3⟩ := h5
      have h6 := hs m m1 r (r + 1) (by omega) (by omega)
      rcases Nat.lt_or_ge i (j - 1) with h7 | h7
      · have h8 := (mrg_at (n := n) (c := c) h7 (by omega)).1
        rw [← i3, m3, lexW_iff] at h8
        dsimp only at h8
        omega
      · have : i = j - 1 := by omega
        subst this
        rw [m3, Prod.mk.injEq, Prod.mk.injEq] at i3
        omega
    · omega
  rw [m3] at h2
  dsimp only at h2
  refine ⟨m, r, hj, by have := h1.aj m; omega, m1, m2, m3, fun h3 => ⟨?_, ?_, (fun e => by cases e), a, h1, fun w => ?_⟩, fun h3 => ⟨by rw [if_neg (by simp)]; omega, h.nd, (fun e => by cases e), a, h1, fun w => ?_⟩⟩
  · rw [if_neg (by simp), List.length_append]; simp; omega
  · rw [List.nodup_append]
    refine ⟨h.nd, by simp, fun x hx y hy e => ?_⟩
    rw [List.mem_singleton] at hy
    subst hy
    obtain ⟨x', x1, x2, x3, x4⟩ := (h2 _).1 hx
    rw [e, hdG, Prod.mk.injEq, Prod.mk.injEq] at x3
    exact x4 rfl x3.2.1.symm
  · rw [List.mem_append, List.mem_singleton, h2]
    constructor
    · rintro (⟨x, x1, x2, x3, x4⟩ | rfl)
      · exact ⟨x, x1, x2, x3, fun e => by cases e⟩
      · exact ⟨m, m1, by omega, by rw [hdG, ha], fun e => by cases e⟩
    · rintro ⟨x, x1, x2, x3, _⟩
      by_cases e : x = m
      · subst e
        right
        rw [x3, hdG, ha]
      · exact .inl ⟨x, x1, x2, x3, fun _ e' => e (by omega)⟩
  · rw [h2]
    constructor
    · rintro ⟨x, x1, x2, x3, x4⟩; exact ⟨x, x1, x2, x3, fun e => by cases e⟩
    · rintro ⟨x, x1, x2, x3, _⟩
      refine ⟨x, x1, x2, x3, fun _ e' => ?_⟩
      have : x = m := by omega
      subst this
      omega
end
end Go.Proofs.Ytojjdkoglhecbaa
namespace Go.Proofs.Ytojjdkoglhecbaa
open Go.RowKit

section
variable {h : Hand} {l : List Chord} {Gs : List (List Grip)}
theorem wayL_nd {i k : Nat} : ∀ j, (wayL h l Gs i k j).Nodup
  | 0 => List.nodup_nil
  | j + 1 => by
    rw [wayL]
    split
    · exact wayL_nd j
    · rw [List.nodup_append]
      refine ⟨wayL_nd j, by simp, fun x hx y hy e => ?_⟩
      rw [List.mem_singleton] at hy
      obtain ⟨q, hq, _, _, hw⟩ := wayL_mem hx
      rw [e, hy, Prod.mk.injEq, Prod.mk.injEq] at hw
      omega
theorem rtL_nd : ∀ j, (rtL h l Gs j).Nodup
  | 0 => List.nodup_nil
  | j + 1 => by
    rw [rtL]
    split
    · exact rtL_nd j
    · rw [List.nodup_append]
      refine ⟨rtL_nd j, by simp, fun x hx y hy e => ?_⟩
      rw [List.mem_singleton] at hy
      obtain ⟨q, hq, _, hw⟩ := rtL_mem hx
      rw [e, hy, Prod.mk.injEq, Prod.mk.injEq] at hw
      omega
theorem tl_pos (hn : NetOk h l Gs) {i k : Nat} (hi : i < l.length) (hk : k < (Gs.getD i []).length) : (0 < (tl h l Gs i k).length ↔ ¬ lst h l Gs i k = -1) ∧ (0 < (tl h l Gs i k).length → ((tl h l Gs i k).getD 0 noW).1 = lst h l Gs i k) := by
  have h1 := tl_first hn _ i rfl hi k hk
  rw [List.length_pos_iff]
  exact ⟨not_congr h1.1, h1.2⟩
theorem bag_way (hn : NetOk h l Gs) {i k : Nat} (hi : i + 1 < l.length) (hk : k < (Gs.getD i []).length) : BagI (Gs.getD (i + 1) []).length (tlC h l Gs i k) 0 false (wayF h l Gs i k) := by
  have hT := rsT_len (h := h) (Gs := Gs) hi
  have e : wayF h l Gs i k = wayL h l Gs i k (Gs.getD (i + 1) []).length := by rw [wayF, wayB, if_neg (by omega), if_neg (by omega), List.nil_append, hT]
  rw [e]
  refine ⟨?_, wayL_nd _, (fun e => by cases e), _, grd_0, fun w => ?_⟩
  · rw [if_neg (by simp)]; exact wayL_len _ _ _ _ _ _
  constructor
  · intro hw
    obtain ⟨q, q1, q2, q3, rfl⟩ := wayL_mem hw
    have hp := tl_pos hn (i := i + 1) hi q1
    have hs : (stG h l Gs i k q).2 = true := q3
    have hp1 := hp.1.2 q2
    refine ⟨q, q1, by rw [tlC_len, if_pos hs]; exact hp1, ?_, fun e => by cases e⟩
    rw [hdG, tlC_at hs hp1, hp.2 hp1]; rfl
  · rintro ⟨q, q1, q2, rfl, _⟩
    rw [tlC_len] at q2
    split at q2
    case isFalse => omega
    rename_i hs
    have hp := tl_pos hn (i := i + 1) hi q1
    have h2 := wayL_has (h := h) (l := l) (Gs := Gs) (k := k) (hp.1.1 q2) (stp_of hs) q1
    rw [hdG, tlC_at hs q2, hp.2 q2]
    have e2 : stG h l Gs i k q = (stepC h (l.getD i noC) (grp Gs i k) (l.getD (i + 1) noC) (grp Gs (i + 1) q), true) := by rw [stG]; exact stepR_ok (stp_of hs)
    rw [e2]
    exact h2
theorem bag_root (hn : NetOk h l Gs) (hl : 0 < l.length) : BagI (Gs.getD 0 []).length (rtC h l Gs) 0 false (rtL h l Gs (rsT h l Gs 0).length) := by
  have hT := rsT_len (h := h) (Gs := Gs) hl
  rw [hT]
  refine ⟨?_, rtL_nd _, (fun e => by cases e), _, grd_0, fun w => ?_⟩
  · rw [if_neg (by simp)]; exact rtL_len _ _ _ _
  constructor
  · intro hw
    obtain ⟨q, q1, q2, rfl⟩ := rtL_mem hw
    have hp := tl_pos hn (i := 0) hl q1
    have hp1 := hp.1.2 q2
    refine ⟨q, q1, by rw [rtC, List.length_map]; exact hp1, ?_, fun e => by cases e⟩
    rw [hdG, rtC, getD_mapW hp1, hp.2 hp1]; rfl
  · rintro ⟨q, q1, q2, rfl, _⟩
    rw [rtC, List.length_map] at q2
    have hp := tl_pos hn (i := 0) hl q1
    have h2 := rtL_has (h := h) (l := l) (Gs := Gs) q1 (hp.1.1 q2)
    rw [hdG, rtC, getD_mapW q2, hp.2 q2]
    exact h2

/-- WHERE A LIST OF WAYS STANDS, as the code sees it: T is what it lists in all, sub what lies behind. -/
structure LsI (T : List Way) (sub : Nat → List Way) (cnt : Nat) (I : Nat → Bool → List Way → Prop) : Prop where
  le : ∀ j due W, I j due W → j ≤ T.length ∧ W.length ≤ 201
  num : ∀ w ∈ T, 0 ≤ w.1 ∧ w.1 ≤ 300000000
  snum : ∀ m, m < cnt → ∀ w ∈ sub m, 0 ≤ w.1 ∧ w.1 ≤ 300000000
  due : ∀ j W, I j true W → ∃ m r : Nat, 0 < j ∧ r < j ∧ m < cnt ∧ r < (sub m).length ∧ T.getD (j - 1) noW = ((T.getD (j - 1) noW).1, (m : Int), (r : Int)) ∧
    (r + 1 < (sub m).length → I j false (W ++ [((T.getD (j - 1) noW).1 + ((sub m).getD (r + 1) noW).1 - ((sub m).getD r noW).1, (m : Int), ((r + 1 : Nat) : Int))])) ∧ (¬ r + 1 < (sub m).length → I j false W)
  pop : ∀ j W W' w, I j false W → w ∈ W → (∀ x ∈ W, befW x w = false) → (w :: W').Perm W → j < T.length ∧ T.getD j noW = w ∧ I (j + 1) (!(w.2.1 == -1)) W'
  fin : ∀ j, I j false [] → j = T.length

theorem bag_i {n : Nat} {c : Nat → List Int} {sub : Nat → List Way} (hs : ∀ m, m < n → Asc (c m)) (hnum : ∀ w ∈ mrg n c, 0 ≤ w.1 ∧ w.1 ≤ 300000000) (hsub : ∀ m, m < n → ∀ w ∈ sub m, 0 ≤ w.1 ∧ w.1 ≤ 300000000) (hn : n ≤ 201)
    (hc : ∀ m, m < n → (c m).length ≤ (sub m).length ∧ (0 < (c m).length → (c m).length = (sub m).length) ∧ ∃ x, ∀ r, r < (c m).length → (c m).getD r 0 = x + ((sub m).getD r noW).1) : LsI (mrg n c) sub n (BagI n c) := by
  refine ⟨fun j due W h => ⟨bag_le h, by have := h.len; split at this <;> omega⟩, hnum, hsub, fun j W h => ?_, fun j W W' w h hw hm hp => ?_, fun j h => bag_end hs h⟩
  · obtain ⟨m, r, h1, h1', h2, h3, h4, h5, h6⟩ := bag_due hs h
    obtain ⟨k1, k2, x, k3⟩ := hc m h2
    have k4 := k2 (by omega)
    refine ⟨m, r, h1, h1', h2, by omega, by rw [h4], fun h7 => ?_, fun h7 => h6 (by omega)⟩
    have h8 := h5 (by omega)
    rw [h4]
    dsimp only
    rw [k3 r h3, show x + ((sub m).getD r noW).1 + ((sub m).getD (r + 1) noW).1 - ((sub m).getD r noW).1 = x + ((sub m).getD (r + 1) noW).1 by omega, ← k3 (r + 1) (by omega)]
    exact h8
  · obtain ⟨h1, h2, h3, h4⟩ := bag_pop hs h hw hm hp
    refine ⟨h1, h2, ?_⟩
    rw [show (!(w.2.1 == -1)) = true by rw [Bool.not_eq_true', beq_eq_false_iff_ne]; omega]
    exact h3
/-- Where the node of the grip k of the chord i stands. -/
def NdI (h : Hand) (l : List Chord) (Gs : List (List Grip)) (i k : Nat) (j : Nat) (due : Bool) (W : List Way) : Prop :=
  if i + 1 = l.length then due = false ∧ ((j = 0 ∧ W = [(owG h l Gs i k, -1, 0)]) ∨ (j = 1 ∧ W = [])) else BagI (Gs.getD (i + 1) []).length (tlC h l Gs i k) j due W
theorem tl_num (hn : NetOk h l Gs) {i k : Nat} (hi : i < l.length) (hk : k < (Gs.getD i []).length) : ∀ w ∈ tl h l Gs i k, 0 ≤ w.1 ∧ w.1 ≤ 300000000 := fun w hw => by
  have h1 := tl_ok hn _ i rfl hi k hk w hw
  have := hn.len
  have h2 := h1.2.1
  exact ⟨h1.1, by omega⟩
theorem ndI_ls (hn : NetOk h l Gs) {i k : Nat} (hi : i < l.length) (hk : k < (Gs.getD i []).length) : LsI (tl h l Gs i k) (fun m => tl h l Gs (i + 1) m) (if i + 1 = l.length then 0 else (Gs.getD (i + 1) []).length) (NdI h l Gs i k) := by
  by_cases e : i + 1 = l.length
  · have hnum := tl_num hn hi hk
    rw [if_pos e]
    rw [tl_last e] at hnum ⊢
    have hI : NdI h l Gs i k = fun j due W => due = false ∧ ((j = 0 ∧ W = [(owG h l Gs i k, -1, 0)]) ∨ (j = 1 ∧ W = [])) := by
      funext j due W; rw [NdI, if_pos e]
    rw [hI]
    refine ⟨?_, hnum, fun m hm => by omega, ?_, ?_, ?_⟩
    · rintro j due W ⟨_, ⟨rfl, rfl⟩ | ⟨rfl, rfl⟩⟩ <;> simp
    · rintro j W ⟨h1, _⟩; cases h1
    · rintro j W W' w ⟨_, ⟨rfl, rfl⟩ | ⟨rfl, rfl⟩⟩ hw hm hp
      · rw [List.mem_singleton] at hw
        subst hw
        have hl := hp.length_eq
        have hW : W' = [] := List.eq_nil_of_length_eq_zero (by simpa using hl)
        subst hW
        exact ⟨by simp, rfl, rfl, .inr ⟨rfl, rfl⟩⟩
      · cases hw
    · rintro j ⟨_, ⟨rfl, h1⟩ | ⟨rfl, _⟩⟩
      · cases h1
      · rfl
  · have hi1 : i + 1 < l.length := by omega
    have hnum := tl_num hn hi hk
    rw [if_neg e]
    rw [tl_s hi1] at hnum ⊢
    have hI : NdI h l Gs i k = BagI (Gs.getD (i + 1) []).length (tlC h l Gs i k) := by funext j due W; rw [NdI, if_neg e]
    rw [hI]
    refine bag_i (fun m _ => tlC_asc hi1) hnum (fun m hm => tl_num hn hi1 hm) (by have := hn.cnt (i + 1); omega) fun m hm => ?_
    rw [tlC_len]
    refine ⟨by split <;> omega, (fun h0 => by
      split at h0
      · rename_i hs; rw [if_pos hs]
      · omega), owG h l Gs i k + (stG h l Gs i k m).1, fun r hr => ?_⟩
    split at hr
    · rename_i hs
      exact tlC_at hs hr
    · omega
theorem ndI_0 (hn : NetOk h l Gs) {i k : Nat} (hi : i < l.length) (hk : k < (Gs.getD i []).length) : NdI h l Gs i k 0 false (wayF h l Gs i k) := by
  by_cases e : i + 1 = l.length
  · rw [NdI, if_pos e]
    refine ⟨rfl, .inl ⟨rfl, ?_⟩⟩
    rw [wayF, wayB, if_pos e, if_pos e, wayL, List.append_nil]; rfl
  · rw [NdI, if_neg e]
    exact bag_way hn (by omega) hk
theorem rt_num (hn : NetOk h l Gs) (hl : 0 < l.length) : ∀ w ∈ rtT h l Gs, 0 ≤ w.1 ∧ w.1 ≤ 300000000 := fun w hw => by
  obtain ⟨m, r, m1, m2, rfl⟩ := mem_mrg.1 hw
  rw [rtC, List.length_map] at m2
  rw [rtC, getD_mapW m2]
  have := tl_num hn hl m1 _ (mem_nthW m2)
  exact this
theorem rtI_ls (hn : NetOk h l Gs) (hl : 0 < l.length) : LsI (rtT h l Gs) (fun m => tl h l Gs 0 m) (Gs.getD 0 []).length (BagI (Gs.getD 0 []).length (rtC h l Gs)) := by
  refine bag_i (fun m _ => rtC_asc hl) (rt_num hn hl) (fun m hm => tl_num hn hl hm) (by have := hn.cnt 0; omega) fun m hm => ?_
  rw [rtC, List.length_map]
  refine ⟨Nat.le_refl _, fun _ => rfl, 0, fun r hr => ?_⟩
  rw [getD_mapW hr]; omega
/-- A state does not hang on the order of the queue. -/
theorem bag_perm {n : Nat} {c : Nat → List Int} {j : Nat} {due : Bool} {W W' : List Way} (h : BagI n c j due W) (hp : W'.Perm W) : BagI n c j due W' := by
  obtain ⟨a, h1, h2⟩ := h.grd
  exact ⟨by rw [hp.length_eq]; exact h.len, hp.nodup_iff.2 h.nd, h.pos, a, h1, fun w => by rw [hp.mem_iff]; exact h2 w⟩
theorem ndI_perm {i k j : Nat} {due : Bool} {W W' : List Way} (hI : NdI h l Gs i k j due W) (hp : W'.Perm W) : NdI h l Gs i k j due W' := by
  rw [NdI] at hI ⊢
  split at hI
  · rename_i e
    rw [if_pos e]
    obtain ⟨h1, ⟨h2, h3⟩ | ⟨h2, h3⟩⟩ := hI
    · subst h3
      exact ⟨h1, .inl ⟨h2, List.perm_singleton.1 hp⟩⟩
    · subst h3
      exact ⟨h1, .inr ⟨h2, List.perm_nil.1 hp⟩⟩
  · rename_i e
    rw [if_neg e]; exact bag_perm hI hp
end
end Go.Proofs.Ytojjdkoglhecbaa
namespace Go.Proofs.Ytojjdkoglhecbaa
open Go.RowKit

/-- Whose a number is: of the node of a grip, or nobody's. -/
abbrev Own := Nat → Option (Nat × Nat)
/-- A node in memory. -/
structure NdS (T : List Way) (I : Nat → Bool → List Way → Prop) (own : Own) (o : Option (Nat × Nat)) (nb : Nat) (M : Mm) (j : Nat) (due : Bool) (H : List Way) (tok : Tok) (v : V) : Prop where
  box : M.obj nb = some (.box [.sl j (wyC (T.take j)) tok, v, .fn 110 [], vbool due] 159)
  lt : nb < M.next
  ow : own nb = o
  q : QV M v H
  hp : HpOk H
  st : I j due H
  qo : ∀ q n, v = .gsl q n 3 → own q = o
  ap : Apb M tok j 154 3
  ao : ∀ q, tok = .own q → own q = o
theorem NdS.vlt {T : List Way} {I : Nat → Bool → List Way → Prop} {own : Own} {o : Option (Nat × Nat)} {nb : Nat} {M : Mm} {j : Nat} {due : Bool} {H : List Way} {tok : Tok} {v : V} (h : NdS T I own o nb M j due H tok v) {q n : Nat} (e : v = .gsl q n 3) : q < M.next ∧ n = H.length ∧ ∃ cs, M.obj q = some (.box cs 154) := by
  rcases h.q with ⟨h1, _⟩ | ⟨id, R, h1, h2, h3⟩
  · rw [h1] at e; cases e
  · rw [h1] at e; injection e with e1 e2; subst e1; exact ⟨h2, e2.symm, _, h3⟩
theorem NdS.tlt {T : List Way} {I : Nat → Bool → List Way → Prop} {own : Own} {o : Option (Nat × Nat)} {nb : Nat} {M : Mm} {j : Nat} {due : Bool} {H : List Way} {tok : Tok} {v : V} (h : NdS T I own o nb M j due H tok v) {q : Nat} (e : tok = .own q) : q < M.next ∧ M.obj q = some (.row j 154 3) := by
  rcases h.ap with h1 | ⟨t, h1, h2, h3⟩
  · rw [h1] at e; cases e
  · rw [h1] at e; injection e with e; subst e; exact ⟨h2, h3⟩
/-- It stays, where its own numbers stay. -/
theorem NdS.keep {T : List Way} {I : Nat → Bool → List Way → Prop} {own own' : Own} {o : Option (Nat × Nat)} {nb : Nat} {M M' : Mm} {j : Nat} {due : Bool} {H : List Way} {tok : Tok} {v : V} (h : NdS T I own o nb M j due H tok v) (hn : M.next ≤ M'.next) (ho : ∀ q, q < M.next → own' q = own q)
    (hf : ∀ q, q < M.next → own q = o → (q = nb ∨ (∃ n, v = .gsl q n 3) ∨ tok = .own q) → M'.obj q = M.obj q) : NdS T I own' o nb M' j due H tok v where
  box := (hf nb h.lt h.ow (.inl rfl)).trans h.box
  lt := Nat.lt_of_lt_of_le h.lt hn
  ow := (ho nb h.lt).trans h.ow
  q := h.q.mono hn fun q n e => hf q (h.vlt e).1 (h.qo q n e) (.inr (.inl ⟨n, e⟩))
  hp := h.hp
  st := h.st
  qo := fun q n e => (ho q (h.vlt e).1).trans (h.qo q n e)
  ap := by
    rcases h.ap with h1 | ⟨t, h1, h2, h3⟩
    · exact .inl h1
    · exact .inr ⟨t, h1, Nat.lt_of_lt_of_le h2 hn, (hf t h2 (h.ao t h1) (.inr (.inr h1))).trans h3⟩
  ao := fun q e => (ho q (h.tlt e).1).trans (h.ao q e)
/-- What a row of nodes has at a grip: no node, or its. -/
def NdAt (h : Hand) (l : List Chord) (Gs : List (List Grip)) (own : Own) (y k : Nat) (M : Mm) (x : V) : Prop :=
  x = .lit (.pointer none) ∨ ∃ nb j due H tok v, x = .ptr nb 0 ∧ NdS (tl h l Gs y k) (NdI h l Gs y k) own (some (y, k)) nb M j due H tok v
theorem NdAt.keep {h : Hand} {l : List Chord} {Gs : List (List Grip)} {own own' : Own} {y k : Nat} {M M' : Mm} {x : V} (ha : NdAt h l Gs own y k M x) (hn : M.next ≤ M'.next) (ho : ∀ q, q < M.next → own' q = own q) (hf : ∀ q, q < M.next → own q = some (y, k) → M'.obj q = M.obj q) : NdAt h l Gs own' y k M' x := by
  rcases ha with ha | ⟨nb, j, due, H, tok, v, e, hs⟩
  · exact .inl ha
  · exact .inr ⟨nb, j, due, H, tok, v, e, hs.keep hn ho fun q hq hqo _ => hf q hq hqo⟩
/-- A lister in memory, from the chord i on. -/
structure LsG (h : Hand) (l : List Chord) (Gs : List (List Grip)) (tb nq rt : Nat) (rs : List Nat) (i : Nat) (own : Own) (M : Mm) : Prop where
  tbo : M.obj tb = some (.box [netE h l Gs, .gsl nq l.length 1, .ptr rt 0] 162)
  nqo : M.obj nq = some (.box (rwN rs Gs) 163)
  row : ∀ y, i ≤ y → y < l.length → ∃ R : List V, M.obj (rs.getD y 0) = some (.box R 150) ∧ R.length = (Gs.getD y []).length ∧ ∀ k, k < (Gs.getD y []).length → ∃ x, R[k]? = some x ∧ NdAt h l Gs own y k M x
  inj : ∀ y z, y < z → z < l.length → rs.getD y 0 < rs.getD z 0
  ltt : tb < M.next
  ltn : nq < M.next
  ltr : ∀ y, y < l.length → rs.getD y 0 < M.next
  ot : own tb = none
  on : own nq = none
  oy : ∀ y, y < l.length → own (rs.getD y 0) = none
  cl : ∀ q, M.next ≤ q → own q = none
theorem LsG.keep {h : Hand} {l : List Chord} {Gs : List (List Grip)} {tb nq rt : Nat} {rs : List Nat} {i j : Nat} {own own' : Own} {M M' : Mm} (hL : LsG h l Gs tb nq rt rs i own M) (hij : i ≤ j) (hn : M.next ≤ M'.next) (ho : ∀ q, q < M.next → own' q = own q) (hcl : ∀ q, M'.next ≤ q → own' q = none)
    (h1 : M'.obj tb = M.obj tb) (h2 : M'.obj nq = M.obj nq) (h3 : ∀ y, j ≤ y → y < l.length → M'.obj (rs.getD y 0) = M.obj (rs.getD y 0)) (h4 : ∀ q y k, q < M.next → own q = some (y, k) → j ≤ y → M'.obj q = M.obj q) : LsG h l Gs tb nq rt rs j own' M' where
  tbo := h1.trans hL.tbo
  nqo := h2.trans hL.nqo
  row := fun y hy hyl => by
    obtain ⟨R, r1, r2, r3⟩ := hL.row y (by omega) hyl
    refine ⟨R, (h3 y hy hyl).trans r1, r2, fun k hk => ?_⟩
    obtain ⟨x, x1, x2⟩ := r3 k hk
    exact ⟨x, x1, x2.keep hn ho fun q hq hqo => h4 q y k hq hqo hy⟩
  inj := hL.inj
  ltt := Nat.lt_of_lt_of_le hL.ltt hn
  ltn := Nat.lt_of_lt_of_le hL.ltn hn
  ltr := fun y hy => Nat.lt_of_lt_of_le (hL.ltr y hy) hn
  ot := (ho tb hL.ltt).trans hL.ot
  on := (ho nq hL.ltn).trans hL.on
  oy := fun y hy => (ho _ (hL.ltr y hy)).trans (hL.oy y hy)
  cl := hcl
/-- What a call from the chord i on may change. -/
def FgL (rs : List Nat) (n : Nat) (own : Own) (i : Nat) (M M' : Mm) : Prop :=
  M.next ≤ M'.next ∧ ∀ q, q < M.next → (∀ y k, own q = some (y, k) → y < i) → (∀ y, i ≤ y → y < n → q ≠ rs.getD y 0) → M'.obj q = M.obj q
/-- What get gives of a list. -/
def GtR (T : List Way) (r : Nat) : V := if r < T.length then .tup [.agg [vint (T.getD r noW).1, vint (T.getD r noW).2.1, vint (T.getD r noW).2.2], vbool true] else .tup [.agg [vint 0, vint 0, vint 0], vbool false]
/-- What get leaves. -/
def GpPost (h : Hand) (l : List Chord) (Gs : List (List Grip)) (tb nq rt : Nat) (rs : List Nat) (T : List Way) (i r : Nat) (own : Own) (M : Mm) (res : V) (M' : Mm) : Prop :=
  res = GtR T r ∧ ∃ own', (∀ q, q < M.next → own' q = own q) ∧ LsG h l Gs tb nq rt rs i own' M' ∧ FgL rs l.length own i M M'
theorem gpPost_ex {h : Hand} {l : List Chord} {Gs : List (List Grip)} {tb nq rt : Nat} {rs : List Nat} (T : List Way) {i : Nat} (r : Nat) {own : Own} {M : Mm} (hL : LsG h l Gs tb nq rt rs i own M) : ∃ res M', GpPost h l Gs tb nq rt rs T i r own M res M' :=
  ⟨_, M, rfl, own, fun _ _ => rfl, hL, Nat.le_refl _, fun _ _ _ _ => rfl⟩
/-- The contract of get from the chord i on. -/
def GetOk (h : Hand) (l : List Chord) (Gs : List (List Grip)) (tb nq rt : Nat) (rs : List Nat) (i cnt : Nat) (sub : Nat → List Way) : Prop :=
  ∀ (k r : Nat) (own : Own) (M : Mm), k < cnt → r ≤ 100 → LsG h l Gs tb nq rt rs i own M → SFn Try.prog Gd 112 [.ptr tb 0, vint i, vint k, vint r] M (GpPost h l Gs tb nq rt rs (sub k) i r own M)
/-- From state to state of a node. -/
structure Trn (rs : List Nat) (n lv nb : Nat) (own : Own) (M : Mm) (tok : Tok) (v : V) (own' : Own) (M' : Mm) (tok' : Tok) (v' : V) : Prop where
  nx : M.next ≤ M'.next
  ow : ∀ q, q < M.next → own' q = own q
  fr : ∀ q, q < M.next → q ≠ nb → (∀ n, v ≠ .gsl q n 3) → tok ≠ .own q → (∀ y k, own q = some (y, k) → y < lv) → (∀ y, lv ≤ y → y < n → q ≠ rs.getD y 0) → M'.obj q = M.obj q
  vn : ∀ q n, v' = .gsl q n 3 → (∃ n', v = .gsl q n' 3) ∨ M.next ≤ q
  tn : ∀ q, tok' = .own q → tok = .own q ∨ M.next ≤ q
theorem Trn.refl (rs : List Nat) (n lv nb : Nat) (own : Own) (M : Mm) (tok : Tok) (v : V) : Trn rs n lv nb own M tok v own M tok v :=
  ⟨Nat.le_refl _, fun _ _ => rfl, fun _ _ _ _ _ _ _ => rfl, fun q n e => .inl ⟨n, e⟩, fun _ e => .inl e⟩
theorem Trn.trans {rs : List Nat} {n lv nb : Nat} {own own1 own2 : Own} {M M1 M2 : Mm} {tok tok1 tok2 : Tok} {v v1 v2 : V} (h : Trn rs n lv nb own M tok v own1 M1 tok1 v1) (k : Trn rs n lv nb own1 M1 tok1 v1 own2 M2 tok2 v2) : Trn rs n lv nb own M tok v own2 M2 tok2 v2 where
  nx := Nat.le_trans h.nx k.nx
  ow := fun q hq => (k.ow q (Nat.lt_of_lt_of_le hq h.nx)).trans (h.ow q hq)
  fr := fun q hq h1 h2 h3 h4 h5 => (k.fr q (Nat.lt_of_lt_of_le hq h.nx) h1 (fun n e => (h.vn q n e).elim (fun ⟨n', e'⟩ => h2 n' e') (fun h6 => by omega)) (fun e => (h.tn q e).elim h3 (fun h6 => by omega)) (fun y k e => h4 y k (by rw [← h.ow q hq]; exact e)) h5).trans (h.fr q hq h1 h2 h3 h4 h5)
  vn := fun q n e => (k.vn q n e).elim (fun ⟨n', e'⟩ => h.vn q n' e') (fun h6 => .inr (Nat.le_trans h.nx h6))
  tn := fun q e => (k.tn q e).elim (fun e' => h.tn q e') (fun h6 => .inr (Nat.le_trans h.nx h6))
end Go.Proofs.Ytojjdkoglhecbaa
namespace Go.Proofs.Ytojjdkoglhecbaa
open Go.RowKit
set_option maxRecDepth 100000

abbrev c_hand_lister_get_b_p1 : VC := (.ops 0 [oo 24 .mv [.t 0], oo 25 .mv [.t 1], oo 26 .mv [.t 2], oo 27 (.call 134) [.t 24, .t 25, .t 26], oo 10 .mv [.t 27]])
abbrev c_hand_lister_get_b_p2 : VC := (.ops 0 [oo 75 .mv [.t 10], oo 76 .nilck [.t 75], oo 77 (.fldA 1) [.t 76], oo 78 (.fldA 0) [.t 11], od 79 .ld1 [.t 78] [3], oo 80 (.fldA 0) [.t 14], od 81 .ld1 [.t 80] [5], oo 82 (.bin .add) [.t 79, .t 81], oo 83 (.fldA 0) [.t 12], od 84 .ld1 [.t 83] [8], oo 85 (.bin .sub) [.t 82, .t 84], oo 86 (.fldA 1) [.t 11], od 87 .ld1 [.t 86] [11], oo 88 (.fldA 2) [.t 11], od 89 .ld1 [.t 88] [13], oo 90 (.bin .add) [.t 89, kk 1], oo 91 (.build [li 0, li 0, li 0] [(0, 1), (1, 1), (2, 1)]) [.t 85, .t 87, .t 90], oo 92 (.call 111) [.t 77, .t 91]])
def c_hand_lister_get_b_p3 : VC := (.seq (.ops 0 [oo 74 .mv [.t 15]]) (.cond (.t 74) c_hand_lister_get_b_p2 .skip))
def c_hand_lister_get_b_p4 : VC := (.ops 0 [oo 93 .mv [.t 10], oo 94 .nilck [.t 93], oo 95 (.fldA 3) [.t 94], ⟨none, none, (.st 1), [.t 95, (.c (.lit (.bool false)))], none⟩])
def c_hand_lister_get_b_p5 : VC := (.seq (.seq (.ops 15 [oo 63 .mv [.t 0], oo 64 .mv [.t 1], oo 65 (.bin .add) [.t 64, kk 1], oo 66 (.fldA 1) [.t 11], oo 67 .ld1 [.t 66], oo 68 (.fldA 2) [.t 11], oo 69 .ld1 [.t 68], oo 70 (.bin .add) [.t 69, kk 1], oo 71 (.call 112) [.t 63, .t 65, .t 67, .t 70], oo 62 .mv [.t 71], oo 72 (.ext 0) [.t 62], oo 73 (.ext 1) [.t 62], oo 14 (.alloc 154 [li 0, li 0, li 0]) [], ⟨none, none, (.st 3), [.t 14, .t 72], none⟩, oo 15 .mv [.t 73]]) c_hand_lister_get_b_p3) c_hand_lister_get_b_p4)
def c_hand_lister_get_b_p6 : VC := (.seq (.ops 14 [oo 52 .mv [.t 0], oo 53 .mv [.t 1], oo 54 (.bin .add) [.t 53, kk 1], oo 55 (.fldA 1) [.t 11], oo 56 .ld1 [.t 55], oo 57 (.fldA 2) [.t 11], oo 58 .ld1 [.t 57], oo 59 (.call 112) [.t 52, .t 54, .t 56, .t 58], oo 51 .mv [.t 59], oo 60 (.ext 0) [.t 51], oo 61 (.ext 1) [.t 51], oo 12 (.alloc 154 [li 0, li 0, li 0]) [], ⟨none, none, (.st 3), [.t 12, .t 60], none⟩, oo 13 .mv [.t 61]]) c_hand_lister_get_b_p5)
def c_hand_lister_get_b_p7 : VC := (.seq (.ops 14 [oo 39 .mv [.t 10], oo 40 .nilck [.t 39], oo 41 (.fldA 0) [.t 40], od 42 .ld1 [.t 41] [0, 1, 2], oo 43 .mv [.t 10], oo 44 .nilck [.t 43], oo 45 (.fldA 0) [.t 44], od 46 .ld1 [.t 45] [4, 5, 6], oo 47 .len [.t 46], oo 48 (.bin .sub) [.t 47, kk 1], oo 49 (.ixA 3) [.t 42, .t 48], od 50 (.ldA 3) [.t 49] [0, 1, 2, 3, 4, 5, 6, 7, 8, 9, 10], od 11 (.alloc 154 [li 0, li 0, li 0]) [] [], ⟨none, none, (.st 3), [.t 11, .t 50], none⟩]) c_hand_lister_get_b_p6)
abbrev c_hand_lister_get_b_p8 : VC := (.seq (.ops 0 [oo 105 (.build [li 0, li 0, li 0] []) [], ⟨none, none, (.st 3), [.t 8, .t 105], none⟩, oo 9 .mv [(.c (.lit (.bool false)))]]) .ret)
abbrev c_hand_lister_get_b_p9 : VC := (.ops 0 [oo 116 .mv [.t 10], oo 117 (.fldA 1) [.t 16], oo 118 .ld1 [.t 117], oo 119 (.bin .neq) [.t 118, kk (-1)], oo 120 .nilck [.t 116], oo 121 (.fldA 3) [.t 120], ⟨none, none, (.st 1), [.t 121, .t 119], none⟩])
abbrev c_hand_lister_get_b_p10 : VC := (.seq (.ops 11 [oo 106 .mv [.t 10], oo 107 .mv [.t 10], oo 108 .nilck [.t 107], oo 109 (.fldA 0) [.t 108], od 110 .ld1 [.t 109] [1, 2, 3], od 111 (.ldA 3) [.t 16] [], oo 112 (.mksl 1 3 [li 0, li 0, li 0] [(0, 3)]) [.t 111], oo 113 (.app 154 3 24) [.t 110, .t 112], oo 114 .nilck [.t 106], oo 115 (.fldA 0) [.t 114], ⟨none, none, (.st 1), [.t 115, .t 113], none⟩]) c_hand_lister_get_b_p9)
def c_hand_lister_get_b_p11 : VC := (.seq (.seq (.ops 0 [oo 103 .mv [.t 17], oo 104 (.un .not) [.t 103]]) (.cond (.t 104) c_hand_lister_get_b_p8 .skip)) c_hand_lister_get_b_p10)
def c_hand_lister_get_b_p12 : VC := (.seq (.ops 10 [oo 97 .mv [.t 10], oo 98 .nilck [.t 97], oo 99 (.fldA 1) [.t 98], oo 100 (.call 135) [.t 99], oo 96 .mv [.t 100], oo 101 (.ext 0) [.t 96], oo 102 (.ext 1) [.t 96], oo 16 (.alloc 154 [li 0, li 0, li 0]) [], ⟨none, none, (.st 3), [.t 16, .t 101], none⟩, oo 17 .mv [.t 102]]) c_hand_lister_get_b_p11)
abbrev c_hand_lister_get_b_p13 : VC := (.block 1 (.seq (.seq (.ops 0 [oo 35 .mv [.t 10], oo 36 .nilck [.t 35], oo 37 (.fldA 3) [.t 36], oo 38 .ld1 [.t 37]]) (.cond (.t 38) c_hand_lister_get_b_p7 .skip)) c_hand_lister_get_b_p12))
abbrev c_hand_lister_get_b_p14 : VC := (.seq (.seq (.ops 0 [oo 28 .mv [.t 10], oo 29 .nilck [.t 28], oo 30 (.fldA 0) [.t 29], oo 31 .ld1 [.t 30], oo 32 .len [.t 31], oo 33 .mv [.t 3], oo 34 (.bin .leq) [.t 32, .t 33]]) (.cond (.t 34) .skip (.exit 0))) c_hand_lister_get_b_p13)
@[go_sem] abbrev w_hand_lister_get_b_p14 : Nat := 5316911983139663491615228240853203456
abbrev c_hand_lister_get_b_p16 : VC := (.seq (.ops 0 [oo 122 .mv [.t 10], oo 123 .nilck [.t 122], oo 124 (.fldA 0) [.t 123], oo 125 .ld1 [.t 124], oo 126 .mv [.t 3], oo 127 (.ixA 3) [.t 125, .t 126], oo 128 (.ldA 3) [.t 127], ⟨none, none, (.st 3), [.t 8, .t 128], none⟩, oo 9 .mv [(.c (.lit (.bool true)))]]) .ret)
def c_hand_lister_get_b_p17 : VC := (.seq (.block 0 (.loop c_hand_lister_get_b_p14)) c_hand_lister_get_b_p16)
abbrev c_hand_lister_get_b_p18 : VC := (.seq (.seq (.ops 0 [oo 22 .mv [.t 1], oo 23 (.bin .geq) [.t 22, kk 0]]) (.cond (.t 23) c_hand_lister_get_b_p1 .skip)) c_hand_lister_get_b_p17)
abbrev c_hand_lister_get_b_p19 : VC := (.seq (.ops 0 [oo 18 .mv [.t 0], oo 19 .nilck [.t 18], oo 20 (.fldA 2) [.t 19], oo 21 .ld1 [.t 20], oo 10 .mv [.t 21]]) c_hand_lister_get_b_p18)
def c_hand_lister_get_b : VC := (.seq (.ops 2 [oo 8 (.alloc 154 [li 0, li 0, li 0]) [], oo 9 .mv [(.c (.lit (.bool false)))]]) c_hand_lister_get_b_p19)
theorem k_hand_lister_get_b : Comp Try.prog (fun n => [999998].contains n) gtab 112 129 c_hand_lister_get_b [(.c 8 3 true), .t 9] := ⟨⟨Try.f112, _, Try.func112, rfl, rfl, kr, kr⟩⟩
abbrev c_hand_lister_fingering_b_p1 : VC := (.seq (.ops 0 [⟨(some 18), none, (.build [(.sl 0 [] .exact), li 0] []), [], none⟩, oo 19 .mv [.t 1], oo 20 (.bin .eql) [.t 19, kk 0], ⟨none, none, (.st 2), [.t 4, .t 18], none⟩, oo 5 .mv [.t 20]]) .ret)
abbrev c_hand_lister_fingering_b_p2 : VC := (.seq (.ops 0 [⟨(some 29), none, (.build [(.sl 0 [] .exact), li 0] []), [], none⟩, ⟨none, none, (.st 2), [.t 4, .t 29], none⟩, oo 5 .mv [(.c (.lit (.bool false)))]]) .ret)
abbrev c_hand_lister_fingering_b_p3 : VC := (.ops 0 [oo 70 .mv [.t 0], oo 71 .mv [.t 7], oo 72 (.fldA 1) [.t 6], oo 73 .ld1 [.t 72], oo 74 (.fldA 2) [.t 6], oo 75 .ld1 [.t 74], oo 76 (.call 112) [.t 70, .t 71, .t 73, .t 75], oo 69 .mv [.t 76], oo 77 (.ext 0) [.t 69], oo 78 (.ext 1) [.t 69], ⟨none, none, (.st 3), [.t 6, .t 77], none⟩])
abbrev c_hand_lister_fingering_b_p4 : VC := (.seq (.ops 12 [oo 58 (.fldA 0) [.t 4], od 59 .ld1 [.t 58] [0], oo 60 (.fldA 0) [.t 8], od 61 .ld1 [.t 60] [2], oo 62 (.fldA 1) [.t 8], od 63 .ld1 [.t 62] [4], od 64 (.call 106) [.t 63] [4, 5], ⟨(some 65), none, (.build [li 0, (.sl 0 [] .exact)] [(0, 1), (1, 1)]), [.t 61, .t 64], none⟩, ⟨(some 66), none, (.mksl 1 2 [li 0, (.sl 0 [] .exact)] [(0, 2)]), [.t 65], none⟩, oo 67 (.app 53 2 32) [.t 59, .t 66], oo 68 (.fldA 0) [.t 4], ⟨none, none, (.st 1), [.t 68, .t 67], none⟩]) c_hand_lister_fingering_b_p3)
abbrev c_hand_lister_fingering_b_p5 : VC := (.seq (.ops 16 [oo 44 .mv [.t 0], oo 45 .nilck [.t 44], oo 46 (.fldA 0) [.t 45], od 47 .ld1 [.t 46] [0, 1, 2], oo 48 .nilck [.t 47], oo 49 (.fldA 11) [.t 48], od 50 .ld1 [.t 49] [0, 1, 2, 3, 4, 5], oo 51 .mv [.t 7], oo 52 (.ixA 1) [.t 50, .t 51], od 53 .ld1 [.t 52] [0, 1, 2, 3, 4, 5, 6, 7, 8], oo 54 (.fldA 1) [.t 6], od 55 .ld1 [.t 54] [10], oo 56 (.ixA 2) [.t 53, .t 55], od 57 (.ldA 2) [.t 56] [0, 1, 2, 3, 4, 5, 6, 7, 8, 9, 10, 11, 12], ⟨(some 8), none, (.alloc 53 [li 0, (.sl 0 [] .exact)]), [], (some [])⟩, ⟨none, none, (.st 2), [.t 8, .t 57], none⟩]) c_hand_lister_fingering_b_p4)
abbrev c_hand_lister_fingering_b_p6 : VC := (.ops 0 [oo 79 (.bin .add) [.t 41, kk 1], oo 41 .mv [.t 79]])
abbrev c_hand_lister_fingering_b_p7 : VC := (.seq (.block 1 (.seq (.ops 0 [oo 43 .mv [.t 41], oo 7 .mv [.t 43]]) c_hand_lister_fingering_b_p5)) c_hand_lister_fingering_b_p6)
abbrev c_hand_lister_fingering_b_p8 : VC := (.seq (.cond (.t 42) .skip (.exit 0)) c_hand_lister_fingering_b_p7)
abbrev c_hand_lister_fingering_b_p9 : VC := (.seq (.ops 0 [oo 42 (.bin .lss) [.t 41, .t 40]]) c_hand_lister_fingering_b_p8)
@[go_sem] abbrev w_hand_lister_fingering_b_p9 : Nat := 1208925819612430151451008
abbrev c_hand_lister_fingering_b_p11 : VC := (.seq (.ops 0 [oo 80 (.ldA 2) [.t 4], ⟨none, none, (.st 2), [.t 4, .t 80], none⟩, oo 5 .mv [(.c (.lit (.bool true)))]]) .ret)
abbrev c_hand_lister_fingering_b_p12 : VC := (.seq (.seq (.ops 0 [oo 33 .mv [.t 0], oo 34 .nilck [.t 33], oo 35 (.fldA 0) [.t 34], oo 36 .ld1 [.t 35], oo 37 .nilck [.t 36], oo 38 (.fldA 10) [.t 37], oo 39 .ld1 [.t 38], oo 40 .len [.t 39], oo 41 .mv [kk 0]]) (.block 0 (.loop c_hand_lister_fingering_b_p9))) c_hand_lister_fingering_b_p11)
abbrev c_hand_lister_fingering_b_p13 : VC := (.seq (.ops 0 [oo 30 (.fldA 0) [.t 6], oo 31 .ld1 [.t 30], oo 32 (.fldA 1) [.t 4], ⟨none, none, (.st 1), [.t 32, .t 31], none⟩]) c_hand_lister_fingering_b_p12)
abbrev c_hand_lister_fingering_b_p14 : VC := (.seq (.seq (.ops 0 [oo 27 .mv [.t 5], oo 28 (.un .not) [.t 27]]) (.cond (.t 28) c_hand_lister_fingering_b_p2 .skip)) c_hand_lister_fingering_b_p13)
abbrev c_hand_lister_fingering_b_p15 : VC := (.seq (.ops 9 [oo 22 .mv [.t 0], oo 23 .mv [.t 1], oo 24 (.call 112) [.t 22, kk (-1), kk 0, .t 23], oo 21 .mv [.t 24], oo 25 (.ext 0) [.t 21], oo 26 (.ext 1) [.t 21], oo 6 (.alloc 154 [li 0, li 0, li 0]) [], ⟨none, none, (.st 3), [.t 6, .t 25], none⟩, oo 5 .mv [.t 26]]) c_hand_lister_fingering_b_p14)
abbrev c_hand_lister_fingering_b_p16 : VC := (.seq (.seq (.ops 0 [oo 9 .mv [.t 0], oo 10 .nilck [.t 9], oo 11 (.fldA 0) [.t 10], oo 12 .ld1 [.t 11], oo 13 .nilck [.t 12], oo 14 (.fldA 10) [.t 13], oo 15 .ld1 [.t 14], oo 16 .len [.t 15], oo 17 (.bin .eql) [.t 16, kk 0]]) (.cond (.t 17) c_hand_lister_fingering_b_p1 .skip)) c_hand_lister_fingering_b_p15)
def c_hand_lister_fingering_b : VC := (.seq (.ops 2 [⟨(some 4), none, (.alloc 40 [(.sl 0 [] .exact), li 0]), [], none⟩, oo 5 .mv [(.c (.lit (.bool false)))]]) c_hand_lister_fingering_b_p16)
theorem k_hand_lister_fingering_b : Comp Try.prog (fun n => [999998].contains n) gtab 75 81 c_hand_lister_fingering_b [(.c 4 2 true), .t 5] := ⟨⟨Try.f75, _, Try.func75, rfl, rfl, kr, kr⟩⟩
end Go.Proofs.Ytojjdkoglhecbaa
namespace Go.Proofs.Ytojjdkoglhecbaa
open Go.RowKit

section
variable {h : Hand} {l : List Chord} {Gs : List (List Grip)} {tb nq rt lv nb j : Nat} {rs : List Nat} {own : Own} {o : Option (Nat × Nat)} {T : List Way} {I : Nat → Bool → List Way → Prop} {due : Bool} {H : List Way} {tok : Tok} {v : V} {M : Mm}
/-- More numbers are set aside, new boxes are made: nothing is lost. -/
theorem LsG.up {M' : Mm} (hL : LsG h l Gs tb nq rt rs lv own M) (hn : M.next ≤ M'.next) (hf : ∀ q, q < M.next → M'.obj q = M.obj q) : LsG h l Gs tb nq rt rs lv own M' :=
  hL.keep (Nat.le_refl _) hn (fun _ _ => rfl) (fun q hq => hL.cl q (Nat.le_trans hn hq)) (hf _ hL.ltt) (hf _ hL.ltn) (fun y _ hy => hf _ (hL.ltr y hy)) fun q _ _ hq _ _ => hf q hq
theorem NdS.up {M' : Mm} (hs : NdS T I own o nb M j due H tok v) (hn : M.next ≤ M'.next) (hf : ∀ q, q < M.next → M'.obj q = M.obj q) : NdS T I own o nb M' j due H tok v := hs.keep hn (fun _ _ => rfl) fun q hq _ _ => hf q hq
/-- The rows of nodes are none of a node's numbers. -/
theorem LsG.nrs (hL : LsG h l Gs tb nq rt rs lv own M) (hs : NdS T I own o nb M j due H tok v) {q : Nat} (hq : q = nb ∨ (∃ n, v = .gsl q n 3) ∨ tok = .own q) : ∀ y, lv ≤ y → y < l.length → q ≠ rs.getD y 0 := by
  intro y hy hyl
  obtain ⟨R, r1, _⟩ := hL.row y hy hyl
  rcases hq with rfl | ⟨n, e⟩ | e
  · exact ne_type hs.box r1 (by decide)
  · obtain ⟨_, _, cs, h1⟩ := hs.vlt e
    exact ne_type h1 r1 (by decide)
  · intro e2
    have := (hs.tlt e).2
    rw [e2, r1] at this
    cases this
/-- A call from the next chord on leaves a node as it is. -/
theorem nd_call {res : V} {T' : List Way} {r : Nat} {M' : Mm} (ho : ∀ y k, o = some (y, k) → y < lv) (hL : LsG h l Gs tb nq rt rs lv own M) (hs : NdS T I own o nb M j due H tok v) (hp : GpPost h l Gs tb nq rt rs T' lv r own M res M') :
    ∃ own', LsG h l Gs tb nq rt rs lv own' M' ∧ NdS T I own' o nb M' j due H tok v ∧ Trn rs l.length lv nb own M tok v own' M' tok v ∧ ∀ q cs t, q < M.next → own q = none → M.obj q = some (.box cs t) → t ≠ 150 → M'.obj q = some (.box cs t) := by
  obtain ⟨_, own', h1, h2, h3, h4⟩ := hp
  refine ⟨own', h2, hs.keep h3 h1 fun q hq hqo hqc => h4 q hq (fun y k e => ho y k (by rw [← hqo]; exact e)) (hL.nrs hs hqc), ⟨h3, h1, fun q hq _ _ _ h5 h6 => h4 q hq h5 h6, fun q n e => .inl ⟨n, e⟩, fun _ e => .inl e⟩, fun q cs t hq hqo hb ht => ?_⟩
  refine (h4 q hq (fun y k e => by rw [hqo] at e; cases e) fun y hy hyl => ?_).trans hb
  obtain ⟨R, r1, _⟩ := hL.row y hy hyl
  exact ne_type hb r1 ht
/-- A push to a node's queue. -/
theorem nd_push {w : Way} {r : V} {M' : Mm} (ho : ∀ y k, o = some (y, k) → y < lv) (hL : LsG h l Gs tb nq rt rs lv own M) (hs : NdS T I own o nb M j true H tok v) (hp : PshPost M nb (.sl j (wyC (T.take j)) tok) v (vbool true) H w r M') :
    r = .tup [] ∧ M.next ≤ M'.next ∧ (∀ q, q < M.next → q ≠ nb → (∀ n, v ≠ .gsl q n 3) → M'.obj q = M.obj q) ∧ ∃ id H', M.next ≤ id ∧ id < M'.next ∧ H'.Perm (H ++ [w]) ∧ H'.length = H.length + 1 ∧ HpOk H' ∧ M'.obj id = some (.box (wyC H') 154) ∧ M'.obj nb = some (.box [.sl j (wyC (T.take j)) tok, .gsl id (H.length + 1) 3, .fn 110 [], vbool true] 159) := by
  obtain ⟨p0, p1, id, H', p2, p3, p4, p5, p6, p7, p8, p9⟩ := hp
  exact ⟨p0, p1, p9, id, H', p2, p4, p8, p6, p7, p5, p3⟩
open Classical in
/-- New numbers are the node's own. -/
noncomputable def ownNew (n0 : Nat) (o : Option (Nat × Nat)) (own : Own) (tok' : Tok) (v' : V) : Own := fun q => if n0 ≤ q ∧ ((∃ n, v' = .gsl q n 3) ∨ tok' = .own q) then o else own q
/-- A node whose queue and marks have turned. -/
theorem nd_turn {M' : Mm} {j' : Nat} {due' : Bool} {H' : List Way} {tok' : Tok} {v' : V} (ho : ∀ y k, o = some (y, k) → y < lv) (hL : LsG h l Gs tb nq rt rs lv own M) (hs : NdS T I own o nb M j due H tok v)
    (hn : M.next ≤ M'.next)
    (hf : ∀ q, q < M.next → q ≠ nb → (∀ n, v ≠ .gsl q n 3) → tok ≠ .own q → M'.obj q = M.obj q)
    (hb : M'.obj nb = some (.box [.sl j' (wyC (T.take j')) tok', v', .fn 110 [], vbool due'] 159)) (hq : QV M' v' H') (hp : HpOk H') (hI : I j' due' H') (hap : Apb M' tok' j' 154 3)
    (hv : ∀ q n, v' = .gsl q n 3 → (∃ n', v = .gsl q n' 3) ∨ M.next ≤ q) (ht : ∀ q, tok' = .own q → tok = .own q ∨ M.next ≤ q) :
    LsG h l Gs tb nq rt rs lv (ownNew M.next o own tok' v') M' ∧ NdS T I (ownNew M.next o own tok' v') o nb M' j' due' H' tok' v' ∧ Trn rs l.length lv nb own M tok v (ownNew M.next o own tok' v') M' tok' v' := by
  have hold : ∀ q, q < M.next → ownNew M.next o own tok' v' q = own q := fun q hq => if_neg (fun h => by omega)
  have hvl : ∀ q n, v' = .gsl q n 3 → q < M'.next := fun q n e => by
    rcases hq with ⟨h1, _⟩ | ⟨id, R, h1, h2, _⟩
    · rw [h1] at e; cases e
    · rw [h1] at e; injection e with e; subst e; exact h2
  have htl : ∀ q, tok' = .own q → q < M'.next := fun q e => by
    rcases hap with h1 | ⟨t, h1, h2, _⟩
    · rw [h1] at e; cases e
    · rw [h1] at e; injection e with e; subst e; exact h2
  have hne : ∀ q, own q ≠ o ∨ (q ≠ nb ∧ (∀ n, v ≠ .gsl q n 3) ∧ tok ≠ .own q) → q < M.next → M'.obj q = M.obj q := fun q h hq => by
    rcases h with h | ⟨h1, h2, h3⟩
    · exact hf q hq (fun e => h (by rw [e]; exact hs.ow)) (fun n e => h (hs.qo q n e)) (fun e => h (hs.ao q e))
    · exact hf q hq h1 h2 h3
  have htb : M'.obj tb = M.obj tb := hne tb (.inr ⟨(ne_type hs.box hL.tbo (by decide)).symm, fun n e => by
    obtain ⟨_, _, cs, h1⟩ := hs.vlt e; exact ne_type h1 hL.tbo (by decide) rfl, fun e => by have := (hs.tlt e).2; rw [hL.tbo] at this; cases this⟩) hL.ltt
  have hnq : M'.obj nq = M.obj nq := hne nq (.inr ⟨(ne_type hs.box hL.nqo (by decide)).symm, fun n e => by
    obtain ⟨_, _, cs, h1⟩ := hs.vlt e; exact ne_type h1 hL.nqo (by decide) rfl, fun e => by have := (hs.tlt e).2; rw [hL.nqo] at this; cases this⟩) hL.ltn
  refine ⟨hL.keep (Nat.le_refl _) hn hold (fun q hq => ?_) htb hnq (fun y hy hyl => hne _ (.inr ⟨fun e => hL.nrs hs (.inl e) y hy hyl rfl, fun n e => hL.nrs hs (.inr (.inl ⟨n, e⟩)) y hy hyl rfl, fun e => hL.nrs hs (.inr (.inr e)) y hy hyl rfl⟩) (hL.ltr y hyl)) (fun q y k hq hqo hy => hne q (.inl (fun e => by have := ho y k (e.symm.trans hqo); omega)) hq), ⟨hb, Nat.lt_of_lt_of_le hs.lt hn, (hold nb hs.lt).trans hs.ow, hq, hp, hI, fun q n e => ?_, hap, fun q e => ?_⟩, ⟨hn, hold, fun q hq h1 h2 h3 _ _ => hf q hq h1 h2 h3, hv, ht⟩⟩
  · refine (if_neg (fun h9 => ?_)).trans (hL.cl q (Nat.le_trans hn hq))
    rcases h9.2 with ⟨n, e⟩ | e
    · have := hvl q n e; omega
    · have := htl q e; omega
  · rcases hv q n e with ⟨n', e'⟩ | h9
    · rw [hold q (hs.vlt e').1]; exact hs.qo q n' e'
    · exact if_pos ⟨h9, .inl ⟨n, e⟩⟩
  · rcases ht q e with e' | h9
    · rw [hold q (hs.tlt e').1]; exact hs.ao q e'
    · exact if_pos ⟨h9, .inr e⟩
/-- A box of the call's own is written. -/
theorem LsG.put {own0 : Own} {M0 : Mm} (hL0 : LsG h l Gs tb nq rt rs lv own0 M0) (hL : LsG h l Gs tb nq rt rs lv own M) {b : Nat} (hb : M0.next ≤ b) (hbo : own b = none) (a : AObj) : LsG h l Gs tb nq rt rs lv own (M.put b a) :=
  hL.keep (Nat.le_refl _) (Nat.le_refl _) (fun _ _ => rfl) hL.cl (put_other _ _ (by have := hL0.ltt; omega)) (put_other _ _ (by have := hL0.ltn; omega)) (fun y _ hy => put_other _ _ (by have := hL0.ltr y hy; omega)) fun q y k _ hq _ => put_other _ _ (fun e => by subst e; rw [hbo] at hq; cases hq)
theorem NdS.put {own0 : Own} {M0 : Mm} {j0 : Nat} {due0 : Bool} {H0 : List Way} (hs0 : NdS T I own0 o nb M0 j0 due0 H0 tok v) (hs : NdS T I own o nb M j due H tok v) {b : Nat} (hb : M0.next ≤ b) (a : AObj) : NdS T I own o nb (M.put b a) j due H tok v :=
  hs.keep (Nat.le_refl _) (fun _ _ => rfl) fun q _ _ hq => put_other _ _ (by
    rcases hq with rfl | ⟨n, e⟩ | e
    · have := hs0.lt; omega
    · have := (hs0.vlt e).1; omega
    · have := (hs0.tlt e).1; omega)
theorem Trn.put {own' : Own} {M' : Mm} {tok' : Tok} {v' : V} {n : Nat} (ht : Trn rs n lv nb own M tok v own' M' tok' v') {b : Nat} (hb : M.next ≤ b) (a : AObj) : Trn rs n lv nb own M tok v own' (M'.put b a) tok' v' :=
  ⟨ht.nx, ht.ow, fun q hq h1 h2 h3 h4 h5 => (put_other _ _ (by omega)).trans (ht.fr q hq h1 h2 h3 h4 h5), ht.vn, ht.tn⟩
end
end Go.Proofs.Ytojjdkoglhecbaa
namespace Go.Proofs.Ytojjdkoglhecbaa
open Go.RowKit

/-- What stands behind it. -/
def GdEnd (h : Hand) (l : List Chord) (Gs : List (List Grip)) (tb nq rt : Nat) (rs : List Nat) (lv : Nat) (T : List Way) (I : Nat → Bool → List Way → Prop) (o : Option (Nat × Nat)) (nb j : Nat) (own : Own) (tok : Tok) (v : V) (M M' : Mm) : Prop :=
  ∃ own' H' v', LsG h l Gs tb nq rt rs lv own' M' ∧ NdS T I own' o nb M' j false H' tok v' ∧ Trn rs l.length lv nb own M tok v own' M' tok v'

set_option maxHeartbeats 4000000 in
theorem get_due {h : Hand} {l : List Chord} {Gs : List (List Grip)} {tb nq rt lv nb j cnt : Nat} {rs : List Nat} {own : Own} {o : Option (Nat × Nat)} {T : List Way} {sub : Nat → List Way} {I : Nat → Bool → List Way → Prop} {H : List Way} {tok : Tok} {v : V} {M : Mm} {t : Nat → V} {iz : Int}
    (hI : LsI T sub cnt I) (hIp : ∀ j due W W', I j due W → W'.Perm W → I j due W') (ho : ∀ y k, o = some (y, k) → y < lv) (GS : GetOk h l Gs tb nq rt rs lv cnt sub) (hL : LsG h l Gs tb nq rt rs lv own M) (hs : NdS T I own o nb M j true H tok v) (hj : j ≤ 100) (hr : ∀ m, m < cnt → (sub m).length ≤ 1000000 ∨ True)
    (s0 : t 0 = .ptr tb 0) (s1 : t 1 = vint iz) (hz : iz + 1 = (lv : Int)) (hlv : lv ≤ 1000) (s10 : t 10 = .ptr nb 0) :
    (c_hand_lister_get_b_p7).vx Try.prog Gd (fun e s' => e = .nrm ∧ GdEnd h l Gs tb nq rt rs lv T I o nb j own tok v M s'.m) ⟨t, M⟩ := by
  obtain ⟨m, r, hj0, hrj, hm, hr0, hT, hyes, hno⟩ := hI.due j H hs.st
  have hbox := hs.box
  have hlt := hs.lt
  have hjT := (hI.le j true H hs.st).1
  have hHl := (hI.le j true H hs.st).2
  have hTj : (T.take j).getD (j - 1) noW = T.getD (j - 1) noW := by rw [List.getD_eq_getElem?_getD, List.getElem?_take, if_pos (by omega), List.getD_eq_getElem?_getD]
  have hTl : (T.take j).length = j := by rw [List.length_take]; omega
  have g1 := wyC_at (L := T.take j) (i := j - 1) (by omega)
  rw [hTj, hT] at g1
  dsimp only at g1
  have g2 := wyC_len (T.take j)
  rw [hTl] at g2
  have hnT := hI.num _ (mem_nthW (j := j - 1) (by omega))
  have hnS := hI.snum m hm _ (mem_nthW hr0)
  have w1 : IntKind.i64.wrap ((j : Int) - 1) = ((j - 1 : Nat) : Int) := by rw [w_in (by omega)]; omega
  have c1 : ((j - 1 : Nat) : Int) < (j : Int) := by omega
  have c2 : (j - 1) * 3 + 3 ≤ j * 3 := by omega
  have wz : IntKind.i64.wrap (iz + 1) = (lv : Int) := by rw [hz, w_in (by omega)]
  generalize hx : (T.getD (j - 1) noW).1 = x at *
  unfold c_hand_lister_get_b_p7
  have hL0 := Hid.mk hL
  have hs0 := Hid.mk hs
  replace hyes := Hid.mk hyes
  replace hno := Hid.mk hno
  replace hT := Hid.mk hT
  replace hz := Hid.mk hz
  clear hL hs hr hTj hTl
  repeat' (with_reducible first | refine x_ops ?_ | refine wk ?_ | ((first | refine gd1 ?_ ?_ | refine gd2 ?_ ?_ | refine gd3 ?_ ?_) <;> (first | exact @False.elim _ | intro hc)))
  refine x_genM (fun t' M1 => (t' 0 = .ptr tb 0 ∧ t' 1 = vint iz ∧ t' 10 = .ptr nb 0) ∧ M.next ≤ M1.next ∧ (∀ q, q < M.next → M1.obj q = M.obj q) ∧ ∃ wb, t' 11 = .ptr wb 0 ∧ M.next ≤ wb ∧ wb < M1.next ∧ M1.obj wb = some (.box [vint x, vint (m : Int), vint (r : Int)] 154))
    ⟨⟨vw, vw, vw⟩, by show M.next ≤ M.next + 14; omega, fun q hq => (put_other _ _ (by omega)).trans (put_other _ _ (by omega)), M.next + 12, vv, by omega, by show M.next + 12 < M.next + 14; omega, put_same _ _ _⟩ ?_
  clear s0 s1 s10 g1 g2 w1 c1 c2 hbox
  rintro t1 M1 ⟨⟨s0, s1, s10⟩, hn1, hf1, wb, s11, hwb0, hwb1, owb⟩
  have hL1 := hL0.out.up hn1 hf1
  have hs1 := hs0.out.up hn1 hf1
  have howb : own wb = none := hL0.out.cl wb hwb0
  have hT1 : Trn rs l.length lv nb own M tok v own M1 tok v := ⟨hn1, fun _ _ => rfl, fun q hq _ _ _ _ _ => hf1 q hq, fun q n e => .inl ⟨n, e⟩, fun _ e => .inl e⟩
  have hL1c := hL1.up (M' := ⟨M1.obj, M1.next + 14⟩) (Nat.le_add_right _ _) fun _ _ => rfl
  have hs1c := hs1.up (M' := ⟨M1.obj, M1.next + 14⟩) (Nat.le_add_right _ _) fun _ _ => rfl
  have G1 := GS m r own ⟨M1.obj, M1.next + 14⟩ hm (by omega) hL1c
  have G1e := gpPost_ex (tb := tb) (nq := nq) (rt := rt) (sub m) r hL1c
  unfold c_hand_lister_get_b_p6
  replace hL1 := Hid.mk hL1
  replace hs1 := Hid.mk hs1
  replace hL1c := Hid.mk hL1c
  replace hs1c := Hid.mk hs1c
  replace hT1 := Hid.mk hT1
  replace hf1 := Hid.mk hf1
  have owb0 := Hid.mk owb
  repeat' (with_reducible first | refine x_ops ?_ | refine wk ?_ | ((first | refine gd1 ?_ ?_ | refine gd2 ?_ ?_ | refine gd3 ?_ ?_) <;> (first | exact @False.elim _ | intro hc)))
  refine x_scallR [.ptr tb 0, vint (lv : Int), vint (m : Int), vint (r : Int)] vw G1 G1e ?_
  rintro res M2 hp2
  have hres := hp2.1
  obtain ⟨own2, hL2, hs2, hT2, hfr2⟩ := nd_call ho hL1c.out hs1c.out hp2
  rw [GtR, if_pos hr0] at hres
  subst hres
  have owb2 := hfr2 wb _ _ (by show wb < M1.next + 14; omega) howb owb0.out (by decide)
  have hn2 : M1.next + 14 ≤ M2.next := hT2.nx
  have howb2 : own2 wb = none := (hT2.ow wb (by show wb < M1.next + 14; omega)).trans howb
  have hoxb2 : own2 (M1.next + 11) = none := (hT2.ow _ (by show M1.next + 11 < M1.next + 14; omega)).trans (hL0.out.cl _ (by omega))
  have hTa : Trn rs l.length lv nb own M tok v own2 M2 tok v := (⟨Nat.le_trans hT1.out.nx (Nat.le_add_right _ 14), hT1.out.ow, hT1.out.fr, hT1.out.vn, hT1.out.tn⟩ : Trn rs l.length lv nb own M tok v own ⟨M1.obj, M1.next + 14⟩ tok v).trans hT2
  generalize hwr : (sub m).getD r noW = wr at *
  obtain ⟨cr, mr, rr⟩ := wr
  dsimp only at hnS
  replace hT1 := Hid.mk hT1.out
  replace hTa := Hid.mk hTa
  replace hL2 := Hid.mk hL2
  replace hs2 := Hid.mk hs2
  replace hwr := Hid.mk hwr
  clear G1 G1e hp2 hfr2 hT2 owb
  have hxbm : M1.next + 11 < M2.next := by omega
  have hxbw : ¬ M1.next + 11 = wb := by omega
  repeat' (with_reducible first | refine x_ops ?_ | refine wk ?_ | ((first | refine gd1 ?_ ?_ | refine gd2 ?_ ?_ | refine gd3 ?_ ?_) <;> (first | exact @False.elim _ | intro hc)))
  refine x_genM (fun t' M3 => (t' 0 = .ptr tb 0 ∧ t' 1 = vint iz ∧ t' 10 = .ptr nb 0 ∧ t' 11 = .ptr wb 0) ∧ LsG h l Gs tb nq rt rs lv own2 M3 ∧ NdS T I own2 o nb M3 j true H tok v ∧ Trn rs l.length lv nb own M tok v own2 M3 tok v ∧ wb < M3.next ∧ M3.obj wb = some (.box [vint x, vint (m : Int), vint (r : Int)] 154) ∧
      ∃ xb, t' 12 = .ptr xb 0 ∧ M.next ≤ xb ∧ xb < M3.next ∧ own2 xb = none ∧ M3.obj xb = some (.box [vint cr, vint mr, vint rr] 154))
    ⟨⟨vw, vw, vw, vw⟩, hL0.out.put (hL0.out.put hL2.out (by omega) hoxb2 _) (by omega) hoxb2 _, hs0.out.put (hs0.out.put hs2.out (by omega) _) (by omega) _, (hTa.out.put (by omega) _).put (by omega) _, by show wb < M2.next; omega, (put_other _ _ (by omega)).trans ((put_other _ _ (by omega)).trans owb2), M1.next + 11, vv, by omega, hxbm, hoxb2, put_same _ _ _⟩ ?_
  clear s0 s1 s10 s11 owb0 owb2 hL1 hs1 hL1c hs1c hT1 hf1 hTa hL2 hs2 hxbm hxbw hoxb2 hn2
  rintro t3 M3 ⟨⟨s0, s1, s10, s11⟩, hL3, hs3, hT3, hwb3, owb3, xb, s12, hxb0, hxb3, hoxb, oxb3⟩
  have hn3 := hT3.nx
  have hL3c := hL3.up (M' := ⟨M3.obj, M3.next + 15⟩) (Nat.le_add_right _ _) fun _ _ => rfl
  have hs3c := hs3.up (M' := ⟨M3.obj, M3.next + 15⟩) (Nat.le_add_right _ _) fun _ _ => rfl
  have G2 := GS m (r + 1) own2 ⟨M3.obj, M3.next + 15⟩ hm (by omega) hL3c
  have G2e := gpPost_ex (tb := tb) (nq := nq) (rt := rt) (sub m) (r + 1) hL3c
  have wr1 := w_add1 (k := r) (by omega)
  unfold c_hand_lister_get_b_p5
  replace hL3 := Hid.mk hL3
  replace hs3 := Hid.mk hs3
  replace hL3c := Hid.mk hL3c
  replace hs3c := Hid.mk hs3c
  replace hT3 := Hid.mk hT3
  have owb30 := Hid.mk owb3
  have oxb30 := Hid.mk oxb3
  repeat' (with_reducible first | refine x_ops ?_ | refine wk ?_ | ((first | refine gd1 ?_ ?_ | refine gd2 ?_ ?_ | refine gd3 ?_ ?_) <;> (first | exact @False.elim _ | intro hc)))
  refine x_scallR [.ptr tb 0, vint (lv : Int), vint (m : Int), vint ((r + 1 : Nat) : Int)] vw G2 G2e ?_
  rintro res M4 hp4
  have hres := hp4.1
  obtain ⟨own4, hL4, hs4, hT4, hfr4⟩ := nd_call ho hL3c.out hs3c.out hp4
  have owb4 := hfr4 wb _ _ (by show wb < M3.next + 15; omega) howb2 owb30.out (by decide)
  have oxb4 := hfr4 xb _ _ (by show xb < M3.next + 15; omega) hoxb oxb30.out (by decide)
  have hn4 : M3.next + 15 ≤ M4.next := hT4.nx
  have hoyb4 : own4 (M3.next + 12) = none := (hT4.ow _ (by show M3.next + 12 < M3.next + 15; omega)).trans (hL3.out.cl _ (by omega))
  have hTb : Trn rs l.length lv nb own M tok v own4 M4 tok v := (⟨Nat.le_trans hT3.out.nx (Nat.le_add_right _ 15), hT3.out.ow, hT3.out.fr, hT3.out.vn, hT3.out.tn⟩ : Trn rs l.length lv nb own M tok v own2 ⟨M3.obj, M3.next + 15⟩ tok v).trans hT4
  have hybm : M3.next + 12 < M4.next := by omega
  have hnyw : ¬ M3.next + 12 = wb := by omega
  have hnyx : ¬ M3.next + 12 = xb := by omega
  have hnyn : ¬ M3.next + 12 = nb := by omega
  have hnwn : ¬ wb = nb := by omega
  replace hTb := Hid.mk hTb
  replace hL4 := Hid.mk hL4
  replace hs4 := Hid.mk hs4
  clear G2 G2e hfr4 hT4 owb3 oxb3 hp4
  obtain ⟨b, cn, mn, rn, hb, rfl, hbn⟩ : ∃ (b : Bool) (cn mn rn : Int), (b = decide (r + 1 < (sub m).length)) ∧ res = .tup [.agg [vint cn, vint mn, vint rn], vbool b] ∧ (r + 1 < (sub m).length → cn = ((sub m).getD (r + 1) noW).1) := by
    rw [hres, GtR]
    by_cases hr1 : r + 1 < (sub m).length
    · rw [if_pos hr1]; exact ⟨true, _, _, _, by simp [hr1], rfl, fun _ => rfl⟩
    · rw [if_neg hr1]; exact ⟨false, 0, 0, 0, by simp [hr1], rfl, fun h => absurd h hr1⟩
  replace hbn := Hid.mk hbn
  replace hb := Hid.mk hb
  clear hres
  repeat' (with_reducible first | refine x_ops ?_ | refine wk ?_ | ((first | refine gd1 ?_ ?_ | refine gd2 ?_ ?_ | refine gd3 ?_ ?_) <;> (first | exact @False.elim _ | intro hc)))
  refine x_genM (fun t' M5 => (t' 10 = .ptr nb 0 ∧ t' 11 = .ptr wb 0 ∧ t' 12 = .ptr xb 0 ∧ t' 15 = vbool b) ∧ LsG h l Gs tb nq rt rs lv own4 M5 ∧ NdS T I own4 o nb M5 j true H tok v ∧ Trn rs l.length lv nb own M tok v own4 M5 tok v ∧ (wb < M5.next ∧ M5.obj wb = some (.box [vint x, vint (m : Int), vint (r : Int)] 154)) ∧ (xb < M5.next ∧ M5.obj xb = some (.box [vint cr, vint mr, vint rr] 154)) ∧
      ∃ yb, t' 14 = .ptr yb 0 ∧ yb < M5.next ∧ M5.obj yb = some (.box [vint cn, vint mn, vint rn] 154))
    ⟨⟨vw, vw, vw, vv⟩, hL0.out.put (hL0.out.put hL4.out (by omega) hoyb4 _) (by omega) hoyb4 _, hs0.out.put (hs0.out.put hs4.out (by omega) _) (by omega) _, (hTb.out.put (by omega) _).put (by omega) _, ⟨by show wb < M4.next; omega, (put_other _ _ (by omega)).trans ((put_other _ _ (by omega)).trans owb4)⟩, ⟨by show xb < M4.next; omega, (put_other _ _ (by omega)).trans ((put_other _ _ (by omega)).trans oxb4)⟩, M3.next + 12, vv, hybm, put_same _ _ _⟩ ?_
  clear s0 s1 s10 s11 s12 owb30 oxb30 owb4 oxb4 hL3 hs3 hL3c hs3c hT3 hL4 hs4 hTb hoyb4 hybm hnyw hnyx hnyn hnwn hn4 hn3 hwb3 hxb3
  rintro t5 M5 ⟨⟨s10, s11, s12, s15⟩, hL5, hs5, hT5, ⟨hwb5, owb⟩, ⟨hxb5, oxb⟩, yb, s14, hyb5, oyb⟩
  have hlt5 := hs5.lt
  have onb5 := hs5.box
  have hQ5 := hs5.q
  have hH5 := hs5.hp
  have hrow : ∀ (M' : Mm), M5.next ≤ M'.next → (∀ q, q < M5.next → q ≠ nb → (∀ n, v ≠ .gsl q n 3) → M'.obj q = M5.obj q) → Apb M' tok j 154 3 := fun M' h1 h2 => hs5.ap.mono (fun q hq ho => h2 q hq (fun e => by subst e; rw [onb5] at ho; cases ho) (fun n e => by obtain ⟨_, _, cs, h9⟩ := hs5.vlt e; rw [h9] at ho; cases ho)) h1
  have hL50 := Hid.mk hL5
  have hs50 := Hid.mk hs5
  have hT50 := Hid.mk hT5
  replace hrow := Hid.mk hrow
  have onb50 := Hid.mk onb5
  unfold c_hand_lister_get_b_p3
  clear hL5 hs5 hT5
  cases b
  case false =>
    have hr1 : ¬ r + 1 < (sub m).length := by have := hb.out; simpa using this
    have hI2 := hno.out hr1
    replace hQ5 := Hid.mk hQ5
    replace hI2 := Hid.mk hI2
    clear hr1 hbn
    repeat' (with_reducible first | refine x_ops ?_ | refine wk ?_ | ((first | refine gd1 ?_ ?_ | refine gd2 ?_ ?_ | refine gd3 ?_ ?_) <;> (first | exact @False.elim _ | intro hc)))
    unfold c_hand_lister_get_b_p4
    repeat' (with_reducible first | refine x_ops ?_ | refine wk ?_ | ((first | refine gd1 ?_ ?_ | refine gd2 ?_ ?_ | refine gd3 ?_ ?_) <;> (first | exact @False.elim _ | intro hc)))
    have h9 := nd_turn ho hL50.out hs50.out (M' := M5.put nb (.box [.sl j (wyC (T.take j)) tok, v, .fn 110 [], vbool false] 159)) (j' := j) (due' := false) (H' := H) (tok' := tok) (v' := v) (Nat.le_refl _) (fun q _ hq _ _ => put_other _ _ hq) (put_same _ _ _)
      (hQ5.out.mono (Nat.le_refl _) fun q n e => put_other _ _ (by obtain ⟨_, _, cs, h9⟩ := hs50.out.vlt e; exact ne_type h9 onb50.out (by decide))) hs50.out.hp hI2.out (hrow.out _ (Nat.le_refl _) fun q _ hq _ => put_other _ _ hq) (fun q n e => .inl ⟨n, e⟩) (fun q e => .inl e)
    exact ⟨_, H, v, h9.1, h9.2.1, hT50.out.trans h9.2.2⟩
  have hr1 : r + 1 < (sub m).length := by have := hb.out; simpa using this
  have hcn := hbn.out hr1
  have hI2 := hyes.out hr1
  rw [← hcn] at hI2
  have hnC := hI.snum m hm _ (mem_nthW hr1)
  rw [← hcn] at hnC
  have w5 : IntKind.i64.wrap (x + cn) = x + cn := w_in (by omega)
  have w6 : IntKind.i64.wrap (x + cn - cr) = x + cn - cr := w_in (by omega)
  have PS := push_psh (w := (x + cn - cr, (m : Int), ((r + 1 : Nat) : Int))) onb5 hlt5 hQ5 hH5 (by omega)
  have PE := PshPost.some (fv := .sl j (wyC (T.take j)) tok) (v := v) (dv := vbool true) (H := H) (x + cn - cr, (m : Int), ((r + 1 : Nat) : Int)) hlt5 hH5
  dsimp only at PS hI2
  replace hI2 := Hid.mk hI2
  replace hcn := Hid.mk hcn
  clear hr1 hbn hnC
  repeat' (with_reducible first | refine x_ops ?_ | refine wk ?_ | ((first | refine gd1 ?_ ?_ | refine gd2 ?_ ?_ | refine gd3 ?_ ?_) <;> (first | exact @False.elim _ | intro hc)))
  refine x_scallR [.ptr nb 1, .agg [vint (x + cn - cr), vint (m : Int), vint ((r + 1 : Nat) : Int)]] vw PS PE ?_
  rintro r6 M6 hP
  obtain ⟨rfl, p1, p2, id, H', p3, p4, p5, p6, p7, p8, p9⟩ := nd_push ho hL50.out hs50.out hP
  have hnb6 : nb < M6.next := by omega
  have hid : id ≠ nb := by omega
  replace p2 := Hid.mk p2
  replace p8 := Hid.mk p8
  clear PS PE hP owb oxb oyb onb5
  repeat' (with_reducible first | refine x_ops ?_ | refine wk ?_ | ((first | refine gd1 ?_ ?_ | refine gd2 ?_ ?_ | refine gd3 ?_ ?_) <;> (first | exact @False.elim _ | intro hc)))
  unfold c_hand_lister_get_b_p4
  repeat' (with_reducible first | refine x_ops ?_ | refine wk ?_ | ((first | refine gd1 ?_ ?_ | refine gd2 ?_ ?_ | refine gd3 ?_ ?_) <;> (first | exact @False.elim _ | intro hc)))
  have h9 := nd_turn ho hL50.out hs50.out (M' := M6.put nb (.box [.sl j (wyC (T.take j)) tok, .gsl id (H.length + 1) 3, .fn 110 [], vbool false] 159)) (j' := j) (due' := false) (H' := H') (tok' := tok) (v' := .gsl id (H.length + 1) 3) p1 (fun q hq h1 h2 _ => (put_other _ _ h1).trans (p2.out q hq h1 h2)) (put_same _ _ _)
    (.inr ⟨id, [], by rw [p6], p4, by rw [List.append_nil]; exact (put_other _ _ hid).trans p8.out⟩) p7 (hIp _ _ _ _ hI2.out p5) (hrow.out _ p1 fun q hq h1 h2 => (put_other _ _ h1).trans (p2.out q hq h1 h2)) (fun q n e => by injection e with e; subst e; exact .inr p3) (fun q e => .inl e)
  exact ⟨_, H', .gsl id (H.length + 1) 3, h9.1, h9.2.1, hT50.out.trans h9.2.2⟩
end Go.Proofs.Ytojjdkoglhecbaa
namespace Go.Proofs.Ytojjdkoglhecbaa
open Go.RowKit

/-- What stands behind it. -/
def GpEnd (h : Hand) (l : List Chord) (Gs : List (List Grip)) (tb nq rt : Nat) (rs : List Nat) (lv : Nat) (T : List Way) (I : Nat → Bool → List Way → Prop) (o : Option (Nat × Nat)) (nb rb j : Nat) (own : Own) (tok : Tok) (v : V) (M : Mm) (e : VX) (s' : St) : Prop :=
  (e = .nrm ∧ j < T.length ∧ ∃ own' due' H' tok' v', LsG h l Gs tb nq rt rs lv own' s'.m ∧ NdS T I own' o nb s'.m (j + 1) due' H' tok' v' ∧ Trn rs l.length lv nb own M tok v own' s'.m tok' v') ∨
  (e = .ret ∧ j = T.length ∧ s'.t 8 = .ptr rb 0 ∧ s'.t 9 = vbool false ∧ ∃ Mx, s'.m = Mx.put rb (.box [vint 0, vint 0, vint 0] 154) ∧ LsG h l Gs tb nq rt rs lv own Mx ∧ Trn rs l.length lv nb own M tok v own Mx tok v ∧ ∃ H, NdS T I own o nb Mx j false H tok v)

set_option maxHeartbeats 4000000 in
theorem get_popG {h : Hand} {l : List Chord} {Gs : List (List Grip)} {tb nq rt lv nb rb j cnt : Nat} {rs : List Nat} {own : Own} {o : Option (Nat × Nat)} {T : List Way} {sub : Nat → List Way} {I : Nat → Bool → List Way → Prop} {H : List Way} {tok : Tok} {v : V} {M : Mm} {t : Nat → V} {y0 y1 y2 : V}
    (hI : LsI T sub cnt I) (ho : ∀ y k, o = some (y, k) → y < lv) (hL : LsG h l Gs tb nq rt rs lv own M) (hs : NdS T I own o nb M j false H tok v) (hj : j ≤ 100)
    (s8 : t 8 = .ptr rb 0) (orb : M.obj rb = some (.box [y0, y1, y2] 154)) (lrb : rb < M.next) (nrb : ∀ n, v ≠ .gsl rb n 3) (s10 : t 10 = .ptr nb 0) :
    (c_hand_lister_get_b_p12).vx Try.prog Gd (GpEnd h l Gs tb nq rt rs lv T I o nb rb j own tok v M) ⟨t, M⟩ := by
  have hbox := hs.box
  have hlt := hs.lt
  have hQ := hs.q
  have hH := hs.hp
  have hle := hI.le j false H hs.st
  have hrn : rb ≠ nb := fun e => by subst e; exact ne_type orb hbox (by decide) rfl
  unfold c_hand_lister_get_b_p12
  have hL0 := Hid.mk hL
  have hs0 := Hid.mk hs
  have hbox0 := Hid.mk hbox
  by_cases hHe : H = []
  · subst hHe
    have hjT := hI.fin j hs.st
    have PN := pop_none (M := ⟨M.obj, M.next + 10⟩) (nb := nb) hbox (by show nb < M.next + 10; omega) (hQ.mono (by show M.next ≤ M.next + 10; omega) (fun _ _ _ => rfl))
    have x2 : ¬ rb = M.next + 7 := by omega
    replace hjT := Hid.mk hjT
    replace hQ := Hid.mk hQ
    clear hL hs
    repeat' (with_reducible first | refine x_ops ?_ | refine wk ?_ | ((first | refine gd1 ?_ ?_ | refine gd2 ?_ ?_ | refine gd3 ?_ ?_) <;> (first | exact @False.elim _ | intro hc)))
    refine x_scallR [.ptr nb 1] vw PN ⟨_, ⟨M.obj, M.next + 10⟩, rfl, Nat.le_refl _, fun _ _ => rfl⟩ ?_
    rintro r m2 ⟨rfl, p1, p2⟩
    have p1' : M.next + 10 ≤ m2.next := p1
    have q1 := (p2 rb (by show rb < M.next + 10; omega)).trans orb
    have p2' : ∀ q, q < M.next → m2.obj q = M.obj q := fun q hq => p2 q (by show q < M.next + 10; omega)
    have hrb2 : rb < m2.next := by omega
    replace p2' := Hid.mk p2'
    clear p2 PN p1 orb hbox
    repeat' (with_reducible first | refine x_ops ?_ | refine wk ?_ | ((first | refine gd1 ?_ ?_ | refine gd2 ?_ ?_ | refine gd3 ?_ ?_) <;> (first | exact @False.elim _ | intro hc)))
    unfold c_hand_lister_get_b_p11
    repeat' (with_reducible first | refine x_ops ?_ | refine wk ?_ | ((first | refine gd1 ?_ ?_ | refine gd2 ?_ ?_ | refine gd3 ?_ ?_) <;> (first | exact @False.elim _ | intro hc)))
    have hLu := hL0.out.up (M' := m2) (by omega) p2'.out
    have hbo := hL0.out.cl (M.next + 7) (by omega)
    have hTu : Trn rs l.length lv nb own M tok v own m2 tok v := ⟨by omega, fun _ _ => rfl, fun q hq _ _ _ _ _ => p2'.out q hq, fun q n e => .inl ⟨n, e⟩, fun _ e => .inl e⟩
    exact .inr ⟨rfl, hjT.out, vw, vv, _, rfl, hL0.out.put (hL0.out.put hLu (by omega) hbo _) (by omega) hbo _, (hTu.put (by omega) _).put (by omega) _, [], hs0.out.put (hs0.out.put (hs0.out.up (by omega) p2'.out) (by omega) _) (by omega) _⟩
  have h0 : 0 < H.length := List.length_pos_iff.2 hHe
  obtain ⟨id, R, rfl, hid, ho2⟩ : ∃ id R, v = .gsl id H.length 3 ∧ id < M.next ∧ M.obj id = some (.box (wyC (H ++ R)) 154) := by
    rcases hQ with ⟨_, h1⟩ | h1
    · exact absurd h1 hHe
    · exact h1
  have PP := pop_sfn (M := ⟨M.obj, M.next + 10⟩) (nb := nb) (id := id) (dv := vbool false) (H := H) (R := R) hbox (by show nb < M.next + 10; omega) (by show id < M.next + 10; omega) ho2 h0 hH (by omega)
  have hni := ne_type hbox ho2 (by decide)
  have PE : ∃ (r : V) (M' : Mm), r = V.tup [.agg [vint (H.getD 0 noW).1, vint (H.getD 0 noW).2.1, vint (H.getD 0 noW).2.2], vbool true] ∧ (⟨M.obj, M.next + 10⟩ : Mm).next ≤ M'.next ∧ ∃ H' R', M'.obj nb = some (.box [.sl j (wyC (T.take j)) tok, .gsl id (H.length - 1) 3, .fn 110 [], vbool false] 159) ∧
      M'.obj id = some (.box (wyC (H' ++ R')) 154) ∧ H'.length = H.length - 1 ∧ HpOk H' ∧ (H.getD 0 noW :: H').Perm H ∧ ∀ q, q < (⟨M.obj, M.next + 10⟩ : Mm).next → q ≠ nb → q ≠ id → M'.obj q = (⟨M.obj, M.next + 10⟩ : Mm).obj q := by
    obtain ⟨L, h1, h2⟩ := heap_ex (hdW H)
    exact ⟨_, ((⟨M.obj, M.next + 10⟩ : Mm).put id (.box (wyC (L ++ [])) 154)).put nb (.box [.sl j (wyC (T.take j)) tok, .gsl id (H.length - 1) 3, .fn 110 [], vbool false] 159), rfl, Nat.le_refl _, L, [], put_same _ _ _, (put_other _ _ (fun e => hni e.symm)).trans (put_same _ _ _),
      h2.length_eq.trans (hdW_len H), h1, (List.Perm.cons _ h2).trans (hdW_perm h0), fun q hq hqn hqi => (put_other _ _ hqn).trans (put_other _ _ hqi)⟩
  have hmin := heap_min hH (.refl H) hHe
  have hpop := fun W' hp => hI.pop j H W' (H.getD 0 noW) hs.st hmin.1 hmin.2 hp
  have hrow := hs.ap
  have hlo := hs.ao
  generalize H.getD 0 noW = w at *
  obtain ⟨wc, wn, wr⟩ := w
  dsimp only at *
  have hri : rb ≠ id := fun e => nrb H.length (by rw [e])
  replace hpop := Hid.mk hpop
  replace hmin := Hid.mk hmin
  replace hrow := Hid.mk hrow
  replace hlo := Hid.mk hlo
  have ho20 := Hid.mk ho2
  clear hL hs hQ
  repeat' (with_reducible first | refine x_ops ?_ | refine wk ?_ | ((first | refine gd1 ?_ ?_ | refine gd2 ?_ ?_ | refine gd3 ?_ ?_) <;> (first | exact @False.elim _ | intro hc)))
  refine x_scallR [.ptr nb 1] vw PP PE ?_
  rintro r m2 ⟨rfl, p1, H', R', p3, p4, p5, p6, p7, p8⟩
  have p1' : M.next + 10 ≤ m2.next := p1
  obtain ⟨hjl, hTj, hst⟩ := hpop.out H' p7
  have hnb2 : nb < m2.next := by omega
  have x7 : ¬ M.next + 7 = nb := by omega
  have x8 : M.next + 7 < m2.next := by omega
  have fr : ∀ q, q < M.next → q ≠ nb → q ≠ id → m2.obj q = M.obj q := fun q hq h1 h2 => p8 q (by show q < M.next + 10; omega) h1 h2
  replace fr := Hid.mk fr
  replace p4 := Hid.mk p4
  replace p7 := Hid.mk p7
  replace hst := Hid.mk hst
  replace hTj := Hid.mk hTj
  clear p8 PP PE hbox ho2 orb
  have p3' := Hid.mk p3
  clear p3
  repeat' (with_reducible first | refine x_ops ?_ | refine wk ?_ | ((first | refine gd1 ?_ ?_ | refine gd2 ?_ ?_ | refine gd3 ?_ ?_) <;> (first | exact @False.elim _ | intro hc)))
  refine x_genM (fun t' M3 => (t' 10 = .ptr nb 0 ∧ t' 17 = vbool true) ∧ M.next ≤ M3.next ∧ M3.obj nb = some (.box [.sl j (wyC (T.take j)) tok, .gsl id (H.length - 1) 3, .fn 110 [], vbool false] 159) ∧ M3.obj id = some (.box (wyC (H' ++ R')) 154) ∧ (∀ q, q < M.next → q ≠ nb → q ≠ id → M3.obj q = M.obj q) ∧
      ∃ sb, t' 16 = .ptr sb 0 ∧ M.next ≤ sb ∧ sb < M3.next ∧ M3.obj sb = some (.box [vint wc, vint wn, vint wr] 154))
    ⟨⟨vw, vv⟩, by show M.next ≤ m2.next; omega, (put_other _ _ (by omega)).trans ((put_other _ _ (by omega)).trans p3'.out), (put_other _ _ (by omega)).trans ((put_other _ _ (by omega)).trans p4.out), fun q hq h1 h2 => (put_other _ _ (by omega)).trans ((put_other _ _ (by omega)).trans (fr.out q hq h1 h2)), M.next + 7, vv, by omega, x8, put_same _ _ _⟩ ?_
  clear s8 s10 p3' p4 fr x7 x8 hnb2 p1 p1'
  rintro t3 M3 ⟨⟨s10, s17⟩, hn3, onb, oid, fr, sb, s16, hsb0, hsb3, osb⟩
  have hnb3 : nb < M3.next := by omega
  have hid3 : id < M3.next := by omega
  have hnbt : tok ≠ .own nb := apbT_box hrow.out hbox0.out
  have hidt : tok ≠ .own id := apbT_box hrow.out ho20.out
  have hsbt : tok ≠ .own sb := fun e => by have := (hs0.out.tlt e).1; omega
  have hrow3 : Apb M3 tok j 154 3 := hrow.out.mono (fun q hq ho => fr q hq (fun e => by subst e; rw [hbox0.out] at ho; cases ho) (fun e => by subst e; rw [ho20.out] at ho; cases ho)) hn3
  have hwl : (wyC (T.take j)).length = j * 3 := by rw [wyC_len, List.length_take, Nat.min_eq_left hle.1]
  have hwt : wyC (T.take (j + 1)) = wyC (T.take j) ++ [vint wc, vint wn, vint wr] := by
    have e1 : (T)[j]? = some (wc, wn, wr) := by
      have := hTj.out
      rw [List.getD_eq_getElem?_getD, List.getElem?_eq_getElem hjl] at this
      rw [List.getElem?_eq_getElem hjl]; exact congrArg some this
    rw [List.take_add_one, e1, wyC_app]; rfl
  replace hwt := Hid.mk hwt
  replace hrow3 := Hid.mk hrow3
  replace fr := Hid.mk fr
  have onb0 := Hid.mk onb
  have oid0 := Hid.mk oid
  have osb0 := Hid.mk osb
  unfold c_hand_lister_get_b_p11
  repeat' (with_reducible first | refine x_ops ?_ | refine wk ?_ | ((first | refine gd1 ?_ ?_ | refine gd2 ?_ ?_ | refine gd3 ?_ ?_) <;> (first | exact @False.elim _ | intro hc)))
  refine x_appg (xs := wyC (T.take j)) (ys := [vint wc, vint wn, vint wr]) (k := tok) vw vw (hrow3.out.mono (fun _ _ _ => rfl) (Nat.le_add_right _ _)) hwl rfl (by omega) (by unfold Go.maxLen; omega) (by show M3.next + 7 < M3.next + 11; omega) ?_
  intro tok2 M4 hap4 htk4 hn4 hf4
  have hn4' : M4.next = M3.next + 11 := hn4
  have onb4 := (hf4 nb (by show ¬ nb = M3.next + 7; omega) hnbt).trans onb0.out
  have oid4 := (hf4 id (by show ¬ id = M3.next + 7; omega) hidt).trans oid0.out
  have osb4 := (hf4 sb (by show ¬ sb = M3.next + 7; omega) hsbt).trans osb0.out
  have fr4 : ∀ q, q < M.next → q ≠ nb → q ≠ id → tok ≠ .own q → M4.obj q = M.obj q := fun q hq h1 h2 h3 => (hf4 q (by show ¬ q = M3.next + 7; omega) h3).trans (fr.out q hq h1 h2)
  have htk5 : ∀ q, tok2 = .own q → tok = .own q ∨ M.next ≤ q := fun q e => (htk4 q e).imp (fun h => h) fun h => by have h9 : q = M3.next + 7 := h; omega
  have hnb4 : nb < M4.next := by omega
  have hsb4 : sb < M4.next := by omega
  have hsn : ¬ sb = nb := by omega
  replace fr4 := Hid.mk fr4
  replace htk5 := Hid.mk htk5
  replace hap4 := Hid.mk hap4
  have onb40 := Hid.mk onb4
  replace oid4 := Hid.mk oid4
  clear hf4 htk4 hn4 onb oid osb
  repeat' (with_reducible first | refine x_ops ?_ | refine wk ?_ | ((first | refine gd1 ?_ ?_ | refine gd2 ?_ ?_ | refine gd3 ?_ ?_) <;> (first | exact @False.elim _ | intro hc)))
  have e5 : ∀ q, q ≠ nb → ((⟨(M4.put nb (.box [.sl (j + 1) (wyC (T.take j) ++ [vint wc, vint wn, vint wr]) tok2, .gsl id (H.length - 1) 3, .fn 110 [], vbool false] 159)).obj, M3.next + 11⟩ : Mm).put nb (.box [.sl (j + 1) (wyC (T.take (j + 1))) tok2, .gsl id (H.length - 1) 3, .fn 110 [], vbool (!(wn == -1))] 159)).obj q = M4.obj q := fun q hq => (put_other _ _ hq).trans (put_other _ _ hq)
  have h9 := nd_turn ho hL0.out hs0.out (M' := ((⟨(M4.put nb (.box [.sl (j + 1) (wyC (T.take j) ++ [vint wc, vint wn, vint wr]) tok2, .gsl id (H.length - 1) 3, .fn 110 [], vbool false] 159)).obj, M3.next + 11⟩ : Mm).put nb (.box [.sl (j + 1) (wyC (T.take (j + 1))) tok2, .gsl id (H.length - 1) 3, .fn 110 [], vbool (!(wn == -1))] 159)))
    (j' := j + 1) (due' := !(wn == -1)) (H' := H') (tok' := tok2) (v' := .gsl id (H.length - 1) 3) (by show M.next ≤ M3.next + 11; omega) (fun q hq h1 h2 h3 => (e5 q h1).trans (fr4.out q hq h1 (fun e => h2 H.length (by rw [e])) h3)) (put_same _ _ _)
    (.inr ⟨id, R', by rw [p5], by show id < M3.next + 11; omega, (e5 id (fun e => hni e.symm)).trans oid4.out⟩) p6 hst.out (hap4.out.mono (fun q hq ho => e5 q (fun e => by subst e; rw [onb40.out] at ho; cases ho)) (by rw [hn4']; exact Nat.le_refl _)) (fun q n e => by injection e with e; subst e; exact .inl ⟨_, rfl⟩) htk5.out
  rw [hwt.out] at h9
  exact .inl ⟨rfl, hjl, _, !(wn == -1), H', tok2, .gsl id (H.length - 1) 3, h9⟩
end Go.Proofs.Ytojjdkoglhecbaa
namespace Go.Proofs.Ytojjdkoglhecbaa
open Go.RowKit

/-- What get leaves, of a node. -/
def GtEndG (h : Hand) (l : List Chord) (Gs : List (List Grip)) (tb nq rt : Nat) (rs : List Nat) (lv : Nat) (T : List Way) (I : Nat → Bool → List Way → Prop) (o : Option (Nat × Nat)) (nb rb r : Nat) (own : Own) (tok : Tok) (v : V) (M : Mm) (e : VX) (s' : St) : Prop :=
  e = .ret ∧ s'.t 8 = .ptr rb 0 ∧ ∃ (a b c : V) (ok : Bool) (own' : Own) (Mx : Mm) (j : Nat) (due : Bool) (H : List Way) (tok' : Tok) (v' : V), s'.t 9 = vbool ok ∧ GtR T r = .tup [.agg [a, b, c], vbool ok] ∧ s'.m = Mx.put rb (.box [a, b, c] 154) ∧ LsG h l Gs tb nq rt rs lv own' Mx ∧
    Trn rs l.length lv nb own M tok v own' Mx tok' v' ∧ NdS T I own' o nb Mx j due H tok' v'

set_option maxHeartbeats 4000000 in
theorem get_tailG {h : Hand} {l : List Chord} {Gs : List (List Grip)} {tb nq rt lv nb rb j0 cnt r : Nat} {rs : List Nat} {own : Own} {o : Option (Nat × Nat)} {T : List Way} {sub : Nat → List Way} {I : Nat → Bool → List Way → Prop} {due : Bool} {H : List Way} {tok : Tok} {v : V} {M : Mm} {t : Nat → V} {y0 y1 y2 : V} {iz : Int}
    (hI : LsI T sub cnt I) (hIp : ∀ j due W W', I j due W → W'.Perm W → I j due W') (ho : ∀ y k, o = some (y, k) → y < lv) (GS : GetOk h l Gs tb nq rt rs lv cnt sub) (hL : LsG h l Gs tb nq rt rs lv own M) (hs : NdS T I own o nb M j0 due H tok v) (hr : r ≤ 100)
    (s0 : t 0 = .ptr tb 0) (s1 : t 1 = vint iz) (hz : iz + 1 = (lv : Int)) (hlv : lv ≤ 1000) (s3 : t 3 = vint r) (s8 : t 8 = .ptr rb 0) (s10 : t 10 = .ptr nb 0)
    (orb : M.obj rb = some (.box [y0, y1, y2] 154)) (lrb : rb < M.next) (nrb : ∀ n, v ≠ .gsl rb n 3) (onr : own rb = none) :
    (c_hand_lister_get_b_p17).vx Try.prog Gd (GtEndG h l Gs tb nq rt rs lv T I o nb rb r own tok v M) ⟨t, M⟩ := by
  have hrn : rb ≠ nb := fun e => by subst e; exact ne_type orb hs.box (by decide) rfl
  have hrt : tok ≠ .own rb := fun e => by have := (hs.tlt e).2; rw [orb] at this; cases this
  have hry : ∀ y, lv ≤ y → y < l.length → rb ≠ rs.getD y 0 := fun y hy hyl => by
    obtain ⟨R, r1, _⟩ := hL.row y hy hyl
    exact ne_type orb r1 (by decide)
  unfold c_hand_lister_get_b_p17
  refine x_seq ?_
  refine x_block ?_
  refine x_loopW w_hand_lister_get_b_p14 kr (r + 1 - j0) (fun k t M' => ∃ own' due' H' tok' v', LsG h l Gs tb nq rt rs lv own' M' ∧ NdS T I own' o nb M' (j0 + k) due' H' tok' v' ∧ Trn rs l.length lv nb own M tok v own' M' tok' v') ⟨own, due, H, tok, v, hL, hs, Trn.refl _ _ _ _ _ _ _ _⟩ ?_
  have hL0 := Hid.mk hL
  have hs0 := Hid.mk hs
  clear hL hs
  rintro k t2 M' hk ⟨own', due', H', tok', v', hL', hs', hT'⟩
  have hbox := hs'.box
  have hlt := hs'.lt
  have hjT := (hI.le _ due' H' hs'.st).1
  have orb' := (hT'.fr rb lrb hrn nrb hrt (fun y k e => by rw [onr] at e; cases e) hry).trans orb
  have lrb' : rb < M'.next := Nat.lt_of_lt_of_le lrb hT'.nx
  have nrb' : ∀ n, v' ≠ .gsl rb n 3 := fun n e => (hT'.vn rb n e).elim (fun ⟨n', e'⟩ => nrb n' e') (fun h9 => by omega)
  generalize hje : j0 + k = j at *
  by_cases hjr : j ≤ r
  case neg =>
    have c1 : ¬ (j : Int) ≤ (r : Int) := by omega
    have c2 : (r : Int) < (j : Int) := by omega
    have hTr : (T.take j).getD r noW = T.getD r noW := by rw [List.getD_eq_getElem?_getD, List.getElem?_take, if_pos (by omega), List.getD_eq_getElem?_getD]
    have hTl : (T.take j).length = j := by rw [List.length_take]; omega
    have g1 := wyC_at (L := T.take j) (i := r) (by omega)
    have g2 := wyC_len (T.take j)
    rw [hTr] at g1
    rw [hTl] at g2
    have c3 : r * 3 + 3 ≤ j * 3 := by omega
    have hR : GtR T r = .tup [.agg [vint (T.getD r noW).1, vint (T.getD r noW).2.1, vint (T.getD r noW).2.2], vbool true] := by rw [GtR, if_pos (by omega)]
    replace hR := Hid.mk hR
    have hL'0 := Hid.mk hL'
    have hs'0 := Hid.mk hs'
    have hT'0 := Hid.mk hT'
    clear hL' hs' hT' hTr hTl hjr
    generalize T.getD r noW = w at *
    obtain ⟨wc, wn, wr⟩ := w
    dsimp only at *
    repeat' (with_reducible first | refine x_ops ?_ | refine wk ?_ | ((first | refine gd1 ?_ ?_ | refine gd2 ?_ ?_ | refine gd3 ?_ ?_) <;> (first | exact @False.elim _ | intro hc)))
    exact ⟨rfl, vw, vint wc, vint wn, vint wr, true, own', M', j, due', H', tok', v', vv, hR.out, rfl, hL'0.out, hT'0.out, hs'0.out⟩
  have c1 : (j : Int) ≤ (r : Int) := by omega
  have hkN : k < r + 1 - j0 := by omega
  have fin : ∀ (t6 : Nat → V) (M6 : Mm) (own6 : Own) (H6 : List Way) (v6 : V) (Q' : VX → St → Prop), LsG h l Gs tb nq rt rs lv own6 M6 → NdS T I own6 o nb M6 j false H6 tok' v6 → Trn rs l.length lv nb own M tok v own6 M6 tok' v6 → t6 8 = .ptr rb 0 → t6 10 = .ptr nb 0 →
      (∀ t7 M7, (∃ own' due' H' tok' v', LsG h l Gs tb nq rt rs lv own' M7 ∧ NdS T I own' o nb M7 (j0 + (k + 1)) due' H' tok' v' ∧ Trn rs l.length lv nb own M tok v own' M7 tok' v') → Q' .nrm ⟨mix 5316911903911500977350890647577625088 t7 t6, M7⟩) →
      (∀ t7 M7, GtEndG h l Gs tb nq rt rs lv T I o nb rb r own tok v M .ret ⟨mix 5316911903911500977350890647577625088 t7 t6, M7⟩ → Q' .ret ⟨mix 5316911903911500977350890647577625088 t7 t6, M7⟩) →
      (c_hand_lister_get_b_p12).vx Try.prog Gd Q' ⟨t6, M6⟩ := by
    intro t6 M6 own6 H6 v6 Q' hL6 hs6 hT6 f8 f10 q1 q2
    have orb6 := (hT6.fr rb lrb hrn nrb hrt (fun y k e => by rw [onr] at e; cases e) hry).trans orb
    have nrb6 : ∀ n, v6 ≠ .gsl rb n 3 := fun n e => (hT6.vn rb n e).elim (fun ⟨n', e'⟩ => nrb n' e') (fun h9 => by omega)
    refine x_sum 5316911903911500977350890647577625088 ?_ (R := fun e t m => GpEnd h l Gs tb nq rt rs lv T I o nb rb j own6 tok' v6 M6 e ⟨t, m⟩) (get_popG hI ho hL6 hs6 (by omega) f8 orb6 (Nat.lt_of_lt_of_le lrb hT6.nx) nrb6 f10) ?_
    · kernel_rfl
    rintro e t7 M7 (⟨rfl, _, own7, due7, H7, tok7, v7, hL7, hs7, hT7⟩ | ⟨rfl, hjT', g8, g9, Mx, rfl, hLx, hTx, Hx, hsx⟩)
    · exact q1 t7 M7 ⟨own7, due7, H7, tok7, v7, hL7, by rw [show j0 + (k + 1) = j + 1 by omega]; exact hs7, hT6.trans hT7⟩
    · have g8' : t7 8 = .ptr rb 0 := g8
      have g9' : t7 9 = vbool false := g9
      refine q2 t7 _ ⟨rfl, ?_, vint 0, vint 0, vint 0, false, own6, Mx, j, false, Hx, tok', v6, ?_, ?_, rfl, hLx, hT6.trans hTx, hsx⟩
      · exact vw
      · exact vw
      · rw [GtR, if_neg (by omega)]
  have hL'0 := Hid.mk hL'
  have hs'0 := Hid.mk hs'
  have hT'0 := Hid.mk hT'
  replace fin := Hid.mk fin
  cases due'
  case false =>
    clear hL' hs' hT' orb'
    repeat' (with_reducible first | refine x_ops ?_ | refine wk ?_ | ((first | refine gd1 ?_ ?_ | refine gd2 ?_ ?_ | refine gd3 ?_ ?_) <;> (first | exact @False.elim _ | intro hc)))
    refine fin.out _ M' own' H' v' _ hL'0.out hs'0.out hT'0.out ?_ ?_ ?_ ?_
    · exact vw
    · exact vw
    · intro t7 M7 hx
      have hx0 := Hid.mk hx
      clear hx
      repeat' (with_reducible first | refine x_ops ?_ | refine wk ?_ | ((first | refine gd1 ?_ ?_ | refine gd2 ?_ ?_ | refine gd3 ?_ ?_) <;> (first | exact @False.elim _ | intro hc)))
      exact nx hkN hx0.out
    · intro t7 M7 hx
      have hx0 := Hid.mk hx
      clear hx
      repeat' (with_reducible first | refine x_ops ?_ | refine wk ?_ | ((first | refine gd1 ?_ ?_ | refine gd2 ?_ ?_ | refine gd3 ?_ ?_) <;> (first | exact @False.elim _ | intro hc)))
      exact hx0.out
  clear hL' hs' hT' orb'
  repeat' (with_reducible first | refine x_ops ?_ | refine wk ?_ | ((first | refine gd1 ?_ ?_ | refine gd2 ?_ ?_ | refine gd3 ?_ ?_) <;> (first | exact @False.elim _ | intro hc)))
  refine x_sum 79228162514264337043788199936 ?_ (R := fun e t m => e = .nrm ∧ GdEnd h l Gs tb nq rt rs lv T I o nb j own' tok' v' M' m) (get_due hI hIp ho GS hL'0.out hs'0.out (by omega) (fun _ _ => .inr trivial) ?_ (iz := iz) ?_ hz hlv ?_) ?_
  · kernel_rfl
  · exact vw
  · exact vw
  · exact vw
  rintro e t6 M6 ⟨rfl, own6, H6, v6, hL6, hs6, hT6⟩
  have hT66 := hT'0.out.trans hT6
  replace hL6 := Hid.mk hL6
  replace hs6 := Hid.mk hs6
  replace hT66 := Hid.mk hT66
  clear hT6 hbox
  repeat' (with_reducible first | refine x_ops ?_ | refine wk ?_ | ((first | refine gd1 ?_ ?_ | refine gd2 ?_ ?_ | refine gd3 ?_ ?_) <;> (first | exact @False.elim _ | intro hc)))
  refine fin.out _ M6 own6 H6 v6 _ hL6.out hs6.out hT66.out ?_ ?_ ?_ ?_
  · exact vw
  · exact vw
  · intro t7 M7 hx
    have hx0 := Hid.mk hx
    clear hx
    repeat' (with_reducible first | refine x_ops ?_ | refine wk ?_ | ((first | refine gd1 ?_ ?_ | refine gd2 ?_ ?_ | refine gd3 ?_ ?_) <;> (first | exact @False.elim _ | intro hc)))
    exact nx hkN hx0.out
  · intro t7 M7 hx
    have hx0 := Hid.mk hx
    clear hx
    repeat' (with_reducible first | refine x_ops ?_ | refine wk ?_ | ((first | refine gd1 ?_ ?_ | refine gd2 ?_ ?_ | refine gd3 ?_ ?_) <;> (first | exact @False.elim _ | intro hc)))
    exact hx0.out
end Go.Proofs.Ytojjdkoglhecbaa
namespace Go.Proofs.Ytojjdkoglhecbaa
open Go.RowKit

open Classical in
/-- The numbers of a new node are its own. -/
noncomputable def ownNd (n0 : Nat) (o : Option (Nat × Nat)) (own : Own) (nb : Nat) (v : V) : Own := fun q => if n0 ≤ q ∧ (q = nb ∨ ∃ n, v = .gsl q n 3) then o else own q
/-- A node is put into its row. -/
theorem nd_new {h : Hand} {l : List Chord} {Gs : List (List Grip)} (hn : NetOk h l Gs) {tb nq rt i k nb : Nat} {rs : List Nat} {own : Own} {M M' : Mm} {R : List V} {v : V} {H : List Way} (hi : i < l.length) (hk : k < (Gs.getD i []).length)
    (hL : LsG h l Gs tb nq rt rs i own M) (oR : M.obj (rs.getD i 0) = some (.box R 150)) (hRl : R.length = (Gs.getD i []).length) (hRk : ∀ k, k < (Gs.getD i []).length → ∃ x, R[k]? = some x ∧ NdAt h l Gs own i k M x) (hnx : M.next ≤ M'.next)
    (hnb : M.next ≤ nb ∧ nb < M'.next) (hfr : ∀ q, q < M.next → q ≠ rs.getD i 0 → M'.obj q = M.obj q) (oR' : M'.obj (rs.getD i 0) = some (.box (R.set k (.ptr nb 0)) 150))
    (hb : M'.obj nb = some (.box [.sl 0 [] .exact, v, .fn 110 [], vbool false] 159)) (hq : QV M' v H) (hp : HpOk H) (hw : H.Perm (wayF h l Gs i k)) (hid : ∀ q n, v = .gsl q n 3 → M.next ≤ q) :
    LsG h l Gs tb nq rt rs i (ownNd M.next (some (i, k)) own nb v) M' ∧ NdS (tl h l Gs i k) (NdI h l Gs i k) (ownNd M.next (some (i, k)) own nb v) (some (i, k)) nb M' 0 false H .exact v ∧ (∀ q, q < M.next → ownNd M.next (some (i, k)) own nb v q = own q) := by
  have hold : ∀ q, q < M.next → ownNd M.next (some (i, k)) own nb v q = own q := fun q hq => if_neg (fun h => by omega)
  have hvl : ∀ q n, v = .gsl q n 3 → q < M'.next := fun q n e => by
    rcases hq with ⟨h1, _⟩ | ⟨id, R, h1, h2, _⟩
    · rw [h1] at e; cases e
    · rw [h1] at e; injection e with e; subst e; exact h2
  have hsN : NdS (tl h l Gs i k) (NdI h l Gs i k) (ownNd M.next (some (i, k)) own nb v) (some (i, k)) nb M' 0 false H .exact v :=
    ⟨hb, hnb.2, if_pos ⟨hnb.1, .inl rfl⟩, hq, hp, ndI_perm (ndI_0 hn hi hk) hw, fun q n e => if_pos ⟨hid q n e, .inr ⟨n, e⟩⟩, .inl rfl, fun q e => by cases e⟩
  have hoR : own (rs.getD i 0) = none := hL.oy i hi
  refine ⟨⟨(hfr tb hL.ltt (ne_type hL.tbo oR (by decide))).trans hL.tbo, (hfr nq hL.ltn (ne_type hL.nqo oR (by decide))).trans hL.nqo, fun y hy hyl => ?_, hL.inj, Nat.lt_of_lt_of_le hL.ltt hnx, Nat.lt_of_lt_of_le hL.ltn hnx, fun y hy => Nat.lt_of_lt_of_le (hL.ltr y hy) hnx, (hold _ hL.ltt).trans hL.ot, (hold _ hL.ltn).trans hL.on, fun y hy => (hold _ (hL.ltr y hy)).trans (hL.oy y hy), fun q hq' => ?_⟩, hsN, hold⟩
  · by_cases e : y = i
    · subst e
      refine ⟨_, oR', by rw [List.length_set]; exact hRl, fun k' hk' => ?_⟩
      by_cases e2 : k = k'
      · subst e2
        exact ⟨.ptr nb 0, by rw [List.getElem?_set_self (by omega)], .inr ⟨nb, 0, false, H, .exact, v, rfl, hsN⟩⟩
      · obtain ⟨x, x1, x2⟩ := hRk k' hk'
        exact ⟨x, by rw [List.getElem?_set_ne e2]; exact x1, x2.keep hnx hold fun q hq hqo => hfr q hq (fun e3 => by rw [e3, hoR] at hqo; cases hqo)⟩
    · obtain ⟨R2, r1, r2, r3⟩ := hL.row y hy hyl
      have hne : rs.getD y 0 ≠ rs.getD i 0 := by have := hL.inj i y (by omega) hyl; omega
      refine ⟨R2, (hfr _ (hL.ltr y hyl) hne).trans r1, r2, fun k' hk' => ?_⟩
      obtain ⟨x, x1, x2⟩ := r3 k' hk'
      exact ⟨x, x1, x2.keep hnx hold fun q hq hqo => hfr q hq (fun e3 => by rw [e3, hoR] at hqo; cases hqo)⟩
  · refine (if_neg (fun h9 => ?_)).trans (hL.cl q (Nat.le_trans hnx hq'))
    rcases h9.2 with e | ⟨n, e⟩
    · omega
    · have := hvl q n e; omega
/-- What node leaves. -/
def NgPost (h : Hand) (l : List Chord) (Gs : List (List Grip)) (tb nq rt : Nat) (rs : List Nat) (i k : Nat) (own : Own) (M : Mm) (r : V) (M' : Mm) : Prop :=
  M.next ≤ M'.next ∧ (∀ q, q < M.next → q ≠ rs.getD i 0 → M'.obj q = M.obj q) ∧ ∃ own' nb j due H tok v, r = .ptr nb 0 ∧ (∀ q, q < M.next → own' q = own q) ∧ LsG h l Gs tb nq rt rs i own' M' ∧ NdS (tl h l Gs i k) (NdI h l Gs i k) own' (some (i, k)) nb M' j due H tok v ∧
    ∃ R, M'.obj (rs.getD i 0) = some (.box R 150) ∧ R[k]? = some (.ptr nb 0)
theorem ngPost_ex {h : Hand} {l : List Chord} {Gs : List (List Grip)} (hn : NetOk h l Gs) {tb nq rt i k : Nat} {rs : List Nat} {own : Own} {M : Mm} (hi : i < l.length) (hk : k < (Gs.getD i []).length) (hL : LsG h l Gs tb nq rt rs i own M) : ∃ r M', NgPost h l Gs tb nq rt rs i k own M r M' := by
  obtain ⟨R, r1, r2, r3⟩ := hL.row i (Nat.le_refl _) hi
  obtain ⟨x, x1, hx | ⟨nb, j, due, H, tok, v, rfl, hs⟩⟩ := r3 k hk
  · obtain ⟨L, h1, h2⟩ := heap_ex (wayF h l Gs i k)
    have hlt := hL.ltr i hi
    have hN := nd_new hn hi hk hL r1 r2 r3 (M' := (((⟨M.obj, M.next + 2⟩ : Mm).put M.next (.box [.sl 0 [] .exact, .gsl (M.next + 1) L.length 3, .fn 110 [], vbool false] 159)).put (M.next + 1) (.box (wyC L) 154)).put (rs.getD i 0) (.box (R.set k (.ptr M.next 0)) 150)) (nb := M.next) (v := .gsl (M.next + 1) L.length 3) (H := L)
      (by show M.next ≤ M.next + 2; omega) ⟨Nat.le_refl _, by show M.next < M.next + 2; omega⟩ (fun q hq hqr => (put_other _ _ hqr).trans ((put_other _ _ (by omega)).trans (put_other _ _ (by omega)))) (put_same _ _ _) ((put_other _ _ (by omega)).trans ((put_other _ _ (by omega)).trans (put_same _ _ _)))
      (.inr ⟨M.next + 1, [], rfl, by show M.next + 1 < M.next + 2; omega, by rw [List.append_nil]; exact (put_other _ _ (by omega)).trans (put_same _ _ _)⟩) h1 h2 (fun q n e => by injection e with e; omega)
    exact ⟨.ptr M.next 0, (((⟨M.obj, M.next + 2⟩ : Mm).put M.next (.box [.sl 0 [] .exact, .gsl (M.next + 1) L.length 3, .fn 110 [], vbool false] 159)).put (M.next + 1) (.box (wyC L) 154)).put (rs.getD i 0) (.box (R.set k (.ptr M.next 0)) 150), by show M.next ≤ M.next + 2; omega, fun q hq hqr => (put_other _ _ hqr).trans ((put_other _ _ (by omega)).trans (put_other _ _ (by omega))), _, M.next, 0, false, L, .exact, _, rfl, hN.2.2, hN.1, hN.2.1, R.set k (.ptr M.next 0), put_same _ _ _, by rw [List.getElem?_set_self (by omega)]⟩
  · exact ⟨_, M, Nat.le_refl _, fun _ _ _ => rfl, own, nb, j, due, H, tok, v, rfl, fun _ _ => rfl, hL, hs, R, r1, x1⟩
end Go.Proofs.Ytojjdkoglhecbaa
namespace Go.Proofs.Ytojjdkoglhecbaa
open Go.RowKit

set_option maxHeartbeats 4000000 in
theorem nodeG_sfn {h : Hand} {l : List Chord} {Gs : List (List Grip)} (hn : NetOk h l Gs) {i k : Nat} (hi : i < l.length) (hk : k < (Gs.getD i []).length) {M : Mm} {tb nq rt : Nat} {rs : List Nat} {own : Own} (hL : LsG h l Gs tb nq rt rs i own M) :
    SFn Try.prog Gd 134 [.ptr tb 0, vint i, vint k] M (NgPost h l Gs tb nq rt rs i k own M) := by
  refine SFn.of_vxS k_hand_lister_node (by simp) ?_
  obtain ⟨R, o3, hRl, hRk⟩ := hL.row i (Nat.le_refl _) hi
  have o1 := hL.tbo
  have o2 := hL.nqo
  have l1 := hL.ltt
  have l2 := hL.ltn
  have l3 := hL.ltr i hi
  have gl := hn.gl
  have r1 := rwN_at (rs := rs) (Gs := Gs) (y := i) (by omega)
  have r3 := hRl
  have c1 : (i : Int) < (l.length : Int) := by omega
  have c2 : (k : Int) < ((Gs.getD i []).length : Int) := by omega
  have hne : ∀ q j, q < M.next → (q = M.next + j) = False := fun q j hq => by simp; omega
  have hne0 : ∀ q, q < M.next → (q = M.next) = False := fun q hq => by simp; omega
  have hlt : ∀ q j, q < M.next → (q < M.next + j) = True := fun q j hq => by simp; omega
  have hnf : ∀ q j, q < M.next → (M.next + j = q) = False := fun q j hq => by simp; omega
  have hnf0 : ∀ q, q < M.next → (M.next = q) = False := fun q hq => by simp; omega
  have zp : ∀ n k : Nat, (n < n + k) = (0 < k) := fun n k => by simp
  have n1 := ne_type o1 o2 (by decide)
  have n2 := ne_type o3 o1 (by decide)
  have n3 := ne_type o3 o2 (by decide)
  have n1' := n1.symm
  have n2' := n2.symm
  have n3' := n3.symm
  have k1 : k + 1 ≤ (Gs.getD i []).length := hk
  generalize hre : rs.getD i 0 = ri at *
  replace hre := Hid.mk hre
  have hL0 := Hid.mk hL
  have hR0 := Hid.mk o3
  have hRk0 := Hid.mk hRk
  unfold c_hand_lister_node
  obtain ⟨x, r2, hx⟩ := hRk k hk
  clear hL hRk
  rcases hx with rfl | ⟨nb, j, due, H, tok, v, rfl, hs⟩
  case inr =>
    have hfin : NgPost h l Gs tb nq rt rs i k own M (.ptr nb 0) ((((⟨M.obj, M.next + 4⟩ : Mm).put M.next (.box [.ptr tb 0] 110)).put (M.next + 1) (.box [vint i] 3)).put (M.next + 2) (.box [vint k] 3)) := by
      have hf : ∀ q, q < M.next → ((((⟨M.obj, M.next + 4⟩ : Mm).put M.next (.box [.ptr tb 0] 110)).put (M.next + 1) (.box [vint i] 3)).put (M.next + 2) (.box [vint k] 3)).obj q = M.obj q := fun q hq => (put_other _ _ (by omega)).trans ((put_other _ _ (by omega)).trans (put_other _ _ (by omega)))
      have hnx : M.next ≤ ((((⟨M.obj, M.next + 4⟩ : Mm).put M.next (.box [.ptr tb 0] 110)).put (M.next + 1) (.box [vint i] 3)).put (M.next + 2) (.box [vint k] 3)).next := by show M.next ≤ M.next + 4; omega
      exact ⟨hnx, fun q hq _ => hf q hq, own, nb, j, due, H, tok, v, rfl, fun _ _ => rfl, hL0.out.up hnx hf, hs.up hnx hf, R, by rw [hre.out]; exact (hf ri l3).trans hR0.out, r2⟩
    replace hfin := Hid.mk hfin
    repeat' (with_reducible first | refine x_ops ?_ | refine wk ?_ | ((first | refine gd1 ?_ ?_ | refine gd2 ?_ ?_ | refine gd3 ?_ ?_) <;> (first | exact @False.elim _ | intro hc)))
    exact ⟨.inr rfl, .ptr nb 0, vw, hfin.out⟩
  repeat' (with_reducible first | refine x_ops ?_ | refine wk ?_ | ((first | refine gd1 ?_ ?_ | refine gd2 ?_ ?_ | refine gd3 ?_ ?_) <;> (first | exact @False.elim _ | intro hc)))
  have hset := set_eq (L := R) (i := k) (by rw [hRl]; exact hk) (.ptr (M.next + 6) 0)
  have hget : ((R).set k (.ptr (M.next + 6) 0))[k]? = some (.ptr (M.next + 6) 0) := List.getElem?_set_self (by rw [hRl]; exact hk)
  refine x_genM (fun t M5 => (t 3 = .ptr M.next 0 ∧ t 4 = .ptr (M.next + 1) 0 ∧ t 5 = .ptr (M.next + 2) 0 ∧ t 7 = .ptr (M.next + 7) 0) ∧ M5.next = M.next + 9 ∧ M5.obj M.next = some (.box [.ptr tb 0] 110) ∧ M5.obj (M.next + 1) = some (.box [vint i] 3) ∧ M5.obj (M.next + 2) = some (.box [vint k] 3) ∧
    M5.obj (M.next + 6) = some (.box [.sl 0 [] .exact, .sl 0 [] .exact, .fn 110 [], vbool false] 159) ∧ M5.obj (M.next + 7) = some (.box [.ptr (M.next + 6) 0] 150) ∧ M5.obj ri = some (.box ((R).set k (.ptr (M.next + 6) 0)) 150) ∧ ∀ q, q < M.next → q ≠ ri → M5.obj q = M.obj q)
    ⟨⟨vv, vv, vv, vv⟩, rfl, ?_, ?_, ?_, ?_, ?_, ?_, fun q hq hqr => ?_⟩ ?_
  · simp only [put_obj]; repeat rw [if_neg (by omega)]
    rw [if_pos True.intro]
  · simp only [put_obj]; repeat rw [if_neg (by omega)]
    rw [if_pos True.intro]; rfl
  · simp only [put_obj]; repeat rw [if_neg (by omega)]
    rw [if_pos True.intro]; rfl
  · simp only [put_obj]; repeat rw [if_neg (by omega)]
    rw [if_pos True.intro]; rfl
  · simp only [put_obj]; repeat rw [if_neg (by omega)]
    rw [if_pos True.intro]
  · refine (put_same _ _ _).trans ?_
    rw [hset]; simp
  · simp only [put_obj]; repeat rw [if_neg (by omega)]
  rintro t5 M5 ⟨⟨s3, s4, s5, s7⟩, m0, m1, m2, m3, m4, m5, m6, m7⟩
  have q1 := (m7 tb l1 n2').trans o1
  have q2 := (m7 nq l2 n3').trans o2
  have NF := node_fill hn hi hk (M := M5) (nb := M.next + 6) (tb := tb) (xb := M.next + 7) (tp := M.next) (ib := M.next + 1) (kb := M.next + 2) (nv := .gsl nq l.length 1) (rv := .ptr rt 0) (t := t5) s3 s4 s5 s7 m5 m1 m2 m3 q1 (by omega) (by omega) (by omega) (by omega) (by omega) ⟨by omega, by omega, by omega, by omega, by omega⟩ m4 (by omega)
  with_reducible refine x_sum 590295810354410684416 ?hw (R := fun e t m' => e = .nrm ∧ NdM M5 (M.next + 6) (wayF h l Gs i k) m') NF ?h2
  case hw => kernel_rfl
  rintro e t6 M6 ⟨rfl, k0, ⟨v, H, k2, k3, k4, k5, k6⟩, k7⟩
  have p1 := (k7 M.next (by omega) (by omega)).trans m1
  have p2 := (k7 (M.next + 1) (by omega) (by omega)).trans m2
  have p3 := (k7 (M.next + 2) (by omega) (by omega)).trans m3
  have p4 := (k7 tb (by omega) (by omega)).trans q1
  have p5 := (k7 nq (by omega) (by omega)).trans q2
  have p6 := (k7 ri (by omega) (by omega)).trans m6
  have y1 : M.next < M6.next := by omega
  have y2 : M.next + 1 < M6.next := by omega
  have y3 : M.next + 2 < M6.next := by omega
  have y4 : tb < M6.next := by omega
  have y5 : nq < M6.next := by omega
  have y6 : ri < M6.next := by omega
  have fr : ∀ q, q < M.next → q ≠ ri → M6.obj q = M.obj q := fun q hq hqr => (k7 q (by omega) (by omega)).trans (m7 q hq hqr)
  have ids : ∀ q n, v = .gsl q n 3 → M.next ≤ q := fun q n e => by have := k6 q n e; omega
  have hN := nd_new hn hi hk hL0.out (by rw [hre.out]; exact hR0.out) hRl hRk0.out (M' := M6) (nb := M.next + 6) (v := v) (H := H) (by omega) ⟨by omega, by omega⟩ (fun q hq hqr => fr q hq (by rw [← hre.out]; exact hqr)) (by rw [hre.out]; exact p6) k2 k3 k4 k5 ids
  have hfin : NgPost h l Gs tb nq rt rs i k own M (.ptr (M.next + 6) 0) M6 := ⟨by omega, fun q hq hqr => fr q hq (by rw [← hre.out]; exact hqr), _, M.next + 6, 0, false, H, .exact, v, rfl, hN.2.2, hN.1, hN.2.1, _, by rw [hre.out]; exact p6, hget⟩
  replace hfin := Hid.mk hfin
  clear fr ids k2 m0 k7 k6 m1 m2 m3 m4 m5 m6 m7 q1 q2 o1 o2 o3 hset NF hne hne0 hlt hnf hnf0 hN
  repeat' (with_reducible first | refine x_ops ?_ | refine wk ?_ | ((first | refine gd1 ?_ ?_ | refine gd2 ?_ ?_ | refine gd3 ?_ ?_) <;> (first | exact @False.elim _ | intro hc)))
  exact ⟨.inr rfl, .ptr (M.next + 6) 0, vv, hfin.out⟩
end Go.Proofs.Ytojjdkoglhecbaa
namespace Go.Proofs.Ytojjdkoglhecbaa
open Go.RowKit

theorem gtEndG_fin {h : Hand} {l : List Chord} {Gs : List (List Grip)} {tb nq rt : Nat} {rs : List Nat} {lv : Nat} {T : List Way} {I : Nat → Bool → List Way → Prop} {o : Option (Nat × Nat)} {nb rb r : Nat} {own : Own} {tok : Tok} {v : V} {M : Mm} {e : VX} {s : St} {Post : V → Mm → Prop}
    (hE : GtEndG h l Gs tb nq rt rs lv T I o nb rb r own tok v M e s) (hp : Post (GtR T r) s.m) : FinS [.c 8 3 true, .t 9] Post e s := by
  obtain ⟨rfl, h8, a, b, c, ok, own', Mx, j, due, H, tok', v', h9, hR, hm, _⟩ := hE
  refine ⟨.inr rfl, GtR T r, ?_, hp⟩
  have ho : s.m.obj rb = some (.box [a, b, c] 154) := by rw [hm]; exact put_same _ _ _
  simp only [resV, resAll, resOne, h8, ho, h9]
  rw [hR]; rfl

/-- A node of the chord i has gone on: the lister from i on. -/
theorem ls_back {h : Hand} {l : List Chord} {Gs : List (List Grip)} {tb nq rt i k nb : Nat} {rs : List Nat} {own2 own3 : Own} {M2 Mx : Mm} {j j3 : Nat} {due due3 : Bool} {H H3 : List Way} {tok tok3 : Tok} {v v3 : V} {R : List V} (hi : i < l.length) (hk : k < (Gs.getD i []).length)
    (hL2 : LsG h l Gs tb nq rt rs i own2 M2) (hs2 : NdS (tl h l Gs i k) (NdI h l Gs i k) own2 (some (i, k)) nb M2 j due H tok v) (hT : Trn rs l.length (i + 1) nb own2 M2 tok v own3 Mx tok3 v3) (hLx : LsG h l Gs tb nq rt rs (i + 1) own3 Mx)
    (hsx : NdS (tl h l Gs i k) (NdI h l Gs i k) own3 (some (i, k)) nb Mx j3 due3 H3 tok3 v3) (hR : M2.obj (rs.getD i 0) = some (.box R 150)) (hRk : R[k]? = some (.ptr nb 0)) : LsG h l Gs tb nq rt rs i own3 Mx := by
  have hor := hL2.oy i hi
  have hne : ∀ q, q < M2.next → own2 q ≠ some (i, k) → (∀ y k', own2 q = some (y, k') → y < i + 1) → (∀ y, i + 1 ≤ y → y < l.length → q ≠ rs.getD y 0) → Mx.obj q = M2.obj q := fun q hq h1 h2 h3 =>
    hT.fr q hq (fun e => h1 (by rw [e]; exact hs2.ow)) (fun n e => h1 (hs2.qo q n e)) (fun e => h1 (hs2.ao q e)) h2 h3
  have oRx : Mx.obj (rs.getD i 0) = some (.box R 150) := (hne _ (hL2.ltr i hi) (by rw [hor]; intro e; cases e) (fun y k' e => by rw [hor] at e; cases e) (fun y hy hyl => by have := hL2.inj i y (by omega) hyl; omega)).trans hR
  refine ⟨hLx.tbo, hLx.nqo, fun y hy hyl => ?_, hLx.inj, hLx.ltt, hLx.ltn, hLx.ltr, hLx.ot, hLx.on, hLx.oy, hLx.cl⟩
  by_cases e : y = i
  · subst e
    obtain ⟨R', r1, r2, r3⟩ := hL2.row y (Nat.le_refl _) hyl
    have hRR : R' = R := by rw [hR] at r1; injection r1 with r1; injection r1 with r1; exact r1.symm
    subst hRR
    refine ⟨R', oRx, r2, fun k' hk' => ?_⟩
    by_cases e2 : k' = k
    · subst e2
      exact ⟨_, hRk, .inr ⟨nb, j3, due3, H3, tok3, v3, rfl, hsx⟩⟩
    · obtain ⟨x, x1, x2⟩ := r3 k' hk'
      refine ⟨x, x1, x2.keep hT.nx hT.ow fun q hq hqo => hne q hq (by rw [hqo]; intro e3; injection e3 with e3; injection e3 with _ e3; exact e2 e3) (fun y' k2 e3 => by rw [hqo] at e3; injection e3 with e3; injection e3 with e3 _; omega) (fun y' hy' hyl' e3 => by
        rw [e3, hL2.oy y' hyl'] at hqo; cases hqo)⟩
  · exact hLx.row y (by omega) hyl

set_option maxHeartbeats 4000000 in
theorem get_sfnG {h : Hand} {l : List Chord} {Gs : List (List Grip)} (hn : NetOk h l Gs) {tb nq rt : Nat} {rs : List Nat} {i : Nat} (hi : i < l.length)
    (GS : GetOk h l Gs tb nq rt rs (i + 1) (if i + 1 = l.length then 0 else (Gs.getD (i + 1) []).length) (fun m => tl h l Gs (i + 1) m)) : GetOk h l Gs tb nq rt rs i (Gs.getD i []).length (fun m => tl h l Gs i m) := by
  intro k r own M hk hr hL
  refine SFn.of_vxS k_hand_lister_get_b (by simp) ?_
  have o1 := hL.tbo
  have l1 := hL.ltt
  have x0 : ¬ tb = M.next := by omega
  have low : ∀ a : AObj, ∀ q, q < M.next → ((⟨M.obj, M.next + 2⟩ : Mm).put M.next a).obj q = M.obj q := fun a q hq => put_other _ _ (by omega)
  have hL1 : LsG h l Gs tb nq rt rs i own ((⟨M.obj, M.next + 2⟩ : Mm).put M.next (.box [vint 0, vint 0, vint 0] 154)) := hL.up (by show M.next ≤ M.next + 2; omega) (low _)
  have NS := nodeG_sfn hn hi hk hL1
  have NE := ngPost_ex hn hi hk hL1
  have h4 := hn.len
  unfold c_hand_lister_get_b
  have hL0 := Hid.mk hL
  replace low := Hid.mk low
  clear hL hL1
  repeat' (with_reducible first | refine x_ops ?_ | refine wk ?_ | ((first | refine gd1 ?_ ?_ | refine gd2 ?_ ?_ | refine gd3 ?_ ?_) <;> (first | exact @False.elim _ | intro hc)))
  refine x_scallR [.ptr tb 0, vint i, vint k] vw NS NE ?_
  rintro res M2 ⟨p0, p1, own2, nb, j, due, H, tok, v, rfl, p2, p3, p4, R, p5, p6⟩
  clear NS NE
  repeat' (with_reducible first | refine x_ops ?_ | refine wk ?_ | ((first | refine gd1 ?_ ?_ | refine gd2 ?_ ?_ | refine gd3 ?_ ?_) <;> (first | exact @False.elim _ | intro hc)))
  have p0' : M.next + 2 ≤ M2.next := p0
  have hor : own2 M.next = none := (p2 M.next (by show M.next < M.next + 2; omega)).trans (hL0.out.cl _ (Nat.le_refl _))
  have hrb : M2.obj M.next = some (.box [vint 0, vint 0, vint 0] 154) := (p1 M.next (by show M.next < M.next + 2; omega) (by have := hL0.out.ltr i hi; omega)).trans (put_same _ _ _)
  have hL2 : LsG h l Gs tb nq rt rs (i + 1) own2 M2 := p3.keep (Nat.le_succ _) (Nat.le_refl _) (fun _ _ => rfl) p3.cl rfl rfl (fun _ _ _ => rfl) fun _ _ _ _ _ _ => rfl
  refine vx_mono (get_tailG (nb := nb) (rb := M.next) (r := r) (iz := (i : Int)) (ndI_ls hn hi hk) (fun j due W W' h1 h2 => ndI_perm h1 h2) (fun y k e => by injection e with e; injection e with e; omega) GS hL2 p4 (by omega) vw vw (by omega) (by omega) vw vw vw hrb (by omega) (fun n e => by have := p4.qo _ _ e; rw [hor] at this; cases this) hor) fun e s' hE => gtEndG_fin hE ?_
  obtain ⟨_, _, a, b, c, ok, own3, Mx, j3, due3, H3, tok3, v3, _, _, hm, hLx, hTx, hsx⟩ := hE
  have hLi := ls_back hi hk p3 p4 hTx hLx hsx p5 p6
  have hor3 : own3 M.next = none := (hTx.ow _ (by omega)).trans hor
  rw [hm]
  refine ⟨rfl, own3, fun q hq => (hTx.ow q (by omega)).trans (p2 q (by show q < M.next + 2; omega)), hL0.out.put hLi (Nat.le_refl _) hor3 _, by have := hTx.nx; show M.next ≤ Mx.next; omega, fun q hq h1 h2 => ?_⟩
  have hq2 : own2 q = own q := p2 q (by show q < M.next + 2; omega)
  have hno : own2 q ≠ some (i, k) := fun e => by have := h1 i k (by rw [← hq2]; exact e); omega
  refine (put_other _ _ (by omega)).trans ((hTx.fr q (by omega) (fun e => hno (by rw [e]; exact p4.ow)) (fun n e => hno (p4.qo q n e)) (fun e => hno (p4.ao q e)) (fun y k' e => by have := h1 y k' (by rw [← hq2]; exact e); omega) (fun y hy hyl => h2 y (by omega) hyl)).trans ((p1 q (by show q < M.next + 2; omega) (h2 i (Nat.le_refl _) hi)).trans (low.out _ q hq)))
/-- From any chord on. -/
theorem get_all {h : Hand} {l : List Chord} {Gs : List (List Grip)} (hn : NetOk h l Gs) (tb nq rt : Nat) (rs : List Nat) : ∀ d i, l.length - 1 - i = d → i < l.length → GetOk h l Gs tb nq rt rs i (Gs.getD i []).length (fun m => tl h l Gs i m) := by
  intro d
  induction d with
  | zero =>
    intro i hd hi
    refine get_sfnG hn hi ?_
    rw [if_pos (by omega)]
    intro k r own M hk
    omega
  | succ d ih =>
    intro i hd hi
    refine get_sfnG hn hi ?_
    rw [if_neg (by omega)]
    exact ih (i + 1) (by omega) (by omega)
end Go.Proofs.Ytojjdkoglhecbaa
namespace Go.Proofs.Ytojjdkoglhecbaa
open Go.RowKit

theorem tl_at {h : Hand} {l : List Chord} {Gs : List (List Grip)} (hn : NetOk h l Gs) {i k r : Nat} (hi : i + 1 < l.length) (hk : k < (Gs.getD i []).length) (hr : r < (tl h l Gs i k).length) : ∃ m s : Nat, m < (Gs.getD (i + 1) []).length ∧ s < (tl h l Gs (i + 1) m).length ∧ (tl h l Gs i k).getD r noW = (((tl h l Gs i k).getD r noW).1, (m : Int), (s : Int)) := by
  obtain ⟨_, _, _, h4⟩ := tl_ok hn _ i rfl (by omega) k hk _ (mem_nthW hr)
  obtain ⟨m, s, h5, _, h6, h7⟩ := h4 hi
  exact ⟨m, s, h5, h6, by rw [h7]⟩
end Go.Proofs.Ytojjdkoglhecbaa
namespace Go.Proofs.Ytojjdkoglhecbaa
open Go.RowKit

theorem grd_ex {n : Nat} {c : Nat → List Int} (hs : ∀ m, m < n → Asc (c m)) : ∀ j, j ≤ (mrg n c).length → ∃ a, Grd n c j a
  | 0, _ => ⟨_, grd_0⟩
  | j + 1, h => by
    obtain ⟨a, h1⟩ := grd_ex hs j (by omega)
    obtain ⟨m, _, _, _, h2⟩ := grd_next hs h1 (by omega)
    exact ⟨_, h2⟩
/-- A rank is not greater than the place. -/
theorem mrg_rank {n : Nat} {c : Nat → List Int} (hs : ∀ m, m < n → Asc (c m)) {j : Nat} (hj : j < (mrg n c).length) : ((mrg n c).getD j noW).2.2 ≤ (j : Int) := by
  obtain ⟨a, h1⟩ := grd_ex hs j (by omega)
  obtain ⟨m, _, _, h2, _⟩ := grd_next hs h1 hj
  have := h1.aj m
  rw [h2, hdG]
  dsimp only
  omega
theorem tl_rank {h : Hand} {l : List Chord} {Gs : List (List Grip)} {i k r : Nat} (hi : i + 1 < l.length) (hr : r < (tl h l Gs i k).length) : ((tl h l Gs i k).getD r noW).2.2 ≤ (r : Int) := by
  rw [tl_s hi] at hr ⊢
  exact mrg_rank (fun m _ => tlC_asc hi) hr
theorem rt_rank {h : Hand} {l : List Chord} {Gs : List (List Grip)} {r : Nat} (hl : 0 < l.length) (hr : r < (rtT h l Gs).length) : ((rtT h l Gs).getD r noW).2.2 ≤ (r : Int) := mrg_rank (fun m _ => rtC_asc hl) hr

/-- The whole, behind a call from the chord i on. -/
theorem ls_lift {h : Hand} {l : List Chord} {Gs : List (List Grip)} {tb nq rt i : Nat} {rs : List Nat} {own own' : Own} {M M' : Mm} (hL : LsG h l Gs tb nq rt rs 0 own M) (ho : ∀ q, q < M.next → own' q = own q) (hL' : LsG h l Gs tb nq rt rs i own' M') (hf : FgL rs l.length own i M M') : LsG h l Gs tb nq rt rs 0 own' M' := by
  refine ⟨hL'.tbo, hL'.nqo, fun y _ hyl => ?_, hL'.inj, hL'.ltt, hL'.ltn, hL'.ltr, hL'.ot, hL'.on, hL'.oy, hL'.cl⟩
  by_cases e : i ≤ y
  · exact hL'.row y e hyl
  · obtain ⟨R, r1, r2, r3⟩ := hL.row y (Nat.zero_le _) hyl
    refine ⟨R, (hf.2 _ (hL.ltr y hyl) (fun y' k e2 => by rw [hL.oy y hyl] at e2; cases e2) (fun y' hy' hyl' => by have := hL.inj y y' (by omega) hyl'; omega)).trans r1, r2, fun k hk => ?_⟩
    obtain ⟨x, x1, x2⟩ := r3 k hk
    refine ⟨x, x1, x2.keep hf.1 ho fun q hq hqo => hf.2 q hq (fun y' k' e2 => by rw [hqo] at e2; injection e2 with e2; injection e2 with e2 _; omega) (fun y' hy' hyl' e2 => by rw [e2, hL.oy y' hyl'] at hqo; cases hqo)⟩
/-- A lister, as a whole. -/
structure LiS (h : Hand) (l : List Chord) (Gs : List (List Grip)) (tb nq rt : Nat) (rs : List Nat) (own : Own) (tok : Tok) (v : V) (M : Mm) : Prop where
  ls : LsG h l Gs tb nq rt rs 0 own M
  nd : ∃ j due H, NdS (rtT h l Gs) (BagI (Gs.getD 0 []).length (rtC h l Gs)) own none rt M j due H tok v
/-- It goes on. -/
def LiT (h : Hand) (l : List Chord) (Gs : List (List Grip)) (tb nq rt : Nat) (rs : List Nat) (own : Own) (tok : Tok) (v : V) (M M' : Mm) : Prop :=
  ∃ own' tok' v', LiS h l Gs tb nq rt rs own' tok' v' M' ∧ Trn rs l.length 0 rt own M tok v own' M' tok' v'
/-- What get leaves, of a chord on, for the whole. -/
theorem li_get {h : Hand} {l : List Chord} {Gs : List (List Grip)} {tb nq rt i r : Nat} {rs : List Nat} {own : Own} {tok : Tok} {v : V} {M : Mm} {T' : List Way} {res : V} {M' : Mm} (hS : LiS h l Gs tb nq rt rs own tok v M) (hp : GpPost h l Gs tb nq rt rs T' i r own M res M') :
    ∃ own', LiS h l Gs tb nq rt rs own' tok v M' ∧ Trn rs l.length 0 rt own M tok v own' M' tok v := by
  obtain ⟨_, own', h1, h2, h3⟩ := hp
  obtain ⟨j, due, H, hs⟩ := hS.nd
  have hk : ∀ q, q < M.next → own q = none → (∀ y, 0 ≤ y → y < l.length → q ≠ rs.getD y 0) → M'.obj q = M.obj q := fun q hq ho hy => h3.2 q hq (fun y k e => by rw [ho] at e; cases e) fun y _ hyl => hy y (Nat.zero_le _) hyl
  refine ⟨own', ⟨ls_lift hS.ls h1 h2 h3, j, due, H, hs.keep h3.1 h1 fun q hq hqo hqc => hk q hq hqo (hS.ls.nrs hs hqc)⟩, ⟨h3.1, h1, fun q hq _ _ _ h4 h5 => hk q hq (by
    cases ho : own q with
    | none => rfl
    | some x => obtain ⟨y, k⟩ := x; have := h4 y k ho; omega) h5, fun q n e => .inl ⟨n, e⟩, fun q e => .inl e⟩⟩

/-- What get leaves, from the beginning. -/
def GrPost (h : Hand) (l : List Chord) (Gs : List (List Grip)) (tb nq rt : Nat) (rs : List Nat) (r : Nat) (own : Own) (tok : Tok) (v : V) (M : Mm) (res : V) (M' : Mm) : Prop := res = GtR (rtT h l Gs) r ∧ LiT h l Gs tb nq rt rs own tok v M M'
theorem grPost_ex {h : Hand} {l : List Chord} {Gs : List (List Grip)} {tb nq rt : Nat} {rs : List Nat} (r : Nat) {own : Own} {tok : Tok} {v : V} {M : Mm} (hS : LiS h l Gs tb nq rt rs own tok v M) : ∃ res M', GrPost h l Gs tb nq rt rs r own tok v M res M' := ⟨_, M, rfl, own, tok, v, hS, Trn.refl _ _ _ _ _ _ _ _⟩

set_option maxHeartbeats 4000000 in
theorem get_root {h : Hand} {l : List Chord} {Gs : List (List Grip)} (hn : NetOk h l Gs) (hl : 0 < l.length) {tb nq rt r : Nat} {rs : List Nat} {own : Own} {tok : Tok} {v : V} {M : Mm} (hS : LiS h l Gs tb nq rt rs own tok v M) (hr : r ≤ 100) :
    SFn Try.prog Gd 112 [.ptr tb 0, vint (-1), vint 0, vint r] M (GrPost h l Gs tb nq rt rs r own tok v M) := by
  refine SFn.of_vxS k_hand_lister_get_b (by simp) ?_
  obtain ⟨hL, j, due, H, hs⟩ := hS
  have o1 := hL.tbo
  have l1 := hL.ltt
  have x0 : ¬ tb = M.next := by omega
  have c1 : ¬ (0 : Int) ≤ -1 := by decide
  have low : ∀ a : AObj, ∀ q, q < M.next → ((⟨M.obj, M.next + 2⟩ : Mm).put M.next a).obj q = M.obj q := fun a q hq => put_other _ _ (by omega)
  have GS := get_all hn tb nq rt rs _ 0 rfl hl
  unfold c_hand_lister_get_b
  have hL0 := Hid.mk hL
  have hs0 := Hid.mk hs
  replace low := Hid.mk low
  clear hL hs
  repeat' (with_reducible first | refine x_ops ?_ | refine wk ?_ | ((first | refine gd1 ?_ ?_ | refine gd2 ?_ ?_ | refine gd3 ?_ ?_) <;> (first | exact @False.elim _ | intro hc)))
  have hL2 : LsG h l Gs tb nq rt rs 0 own ((⟨M.obj, M.next + 2⟩ : Mm).put M.next (.box [vint 0, vint 0, vint 0] 154)) := hL0.out.up (by show M.next ≤ M.next + 2; omega) (low.out _)
  have hs2 : NdS (rtT h l Gs) (BagI (Gs.getD 0 []).length (rtC h l Gs)) own none rt ((⟨M.obj, M.next + 2⟩ : Mm).put M.next (.box [vint 0, vint 0, vint 0] 154)) j due H tok v := hs0.out.up (by show M.next ≤ M.next + 2; omega) (low.out _)
  have hor := hL0.out.cl M.next (Nat.le_refl _)
  refine vx_mono (get_tailG (nb := rt) (rb := M.next) (r := r) (iz := -1) (lv := 0) (rtI_ls hn hl) (fun j due W W' h1 h2 => bag_perm h1 h2) (fun y k e => by cases e) GS hL2 hs2 (by omega) vw vw (by omega) (by omega) vw vw vw (put_same _ _ _) (by show M.next < M.next + 2; omega) (fun n e => by have := (hs0.out.vlt e).1; omega) hor) fun e s' hE => gtEndG_fin hE ?_
  obtain ⟨_, _, a, b, c, ok, own3, Mx, j3, due3, H3, tok3, v3, _, _, hm, hLx, hTx, hsx⟩ := hE
  have hor3 : own3 M.next = none := (hTx.ow _ (by show M.next < M.next + 2; omega)).trans hor
  have hTM : Trn rs l.length 0 rt own M tok v own3 Mx tok3 v3 := (⟨by show M.next ≤ M.next + 2; omega, fun _ _ => rfl, fun q hq _ _ _ _ _ => low.out _ q hq, fun q n e => .inl ⟨n, e⟩, fun q e => .inl e⟩ : Trn rs l.length 0 rt own M tok v own ((⟨M.obj, M.next + 2⟩ : Mm).put M.next (.box [vint 0, vint 0, vint 0] 154)) tok v).trans hTx
  rw [hm]
  refine ⟨rfl, own3, tok3, v3, ⟨hL0.out.put hLx (Nat.le_refl _) hor3 _, j3, due3, H3, ?_⟩, hTM.put (Nat.le_refl _) _⟩
  refine hsx.keep (Nat.le_refl _) (fun _ _ => rfl) fun q hq hqo hqc => put_other _ _ ?_
  rcases hqc with rfl | ⟨n, e⟩ | e
  · have := hs0.out.lt; omega
  · rcases hTx.vn q n e with ⟨n', e'⟩ | h9
    · have := (hs0.out.vlt e').1; omega
    · have h8 : M.next + 2 ≤ q := h9; omega
  · rcases hTx.tn q e with e' | h9
    · have := (hs0.out.tlt e').1; omega
    · have h8 : M.next + 2 ≤ q := h9; omega
end Go.Proofs.Ytojjdkoglhecbaa
