/- Rows of signs and of numbers in order: plain. Valid rows are in order; Meet picks what is in both: plain. The plain law of LeafOnly: the leaf of a piece has one completion. The plain law of LeafOnly, the rest. Functions of the program, as code on values by numbers: printed by a program from the program that was given, and held against it here. Join of both, if their rows are joined by some functions. The law LeafBoth, if Join is what it should be and the plain law holds. Meet and Join of valid leaves are valid leaves or empty; what is read from them: plain. Two rows put together in a new one, in the model's own terms. A call that writes one row of plain cells in place, on values; a call that gives a new block. A new block as a box of a call's own; a row of which less is said. The sorts of the library at this program: what stands where (the kit's command's words, plain). Calls that only compute, in the model's own terms: they draw and lay new blocks, and nothing else. The order of signs and of numbers, in the model's own terms; rows are sorted in place. Two rows put together, on values: a box of its own. Neighbours that are the same become one, in place: plain. Neighbours that are the same become one: Compact, walked. Neighbours that are the same become one: Compact of numbers, walked. Two rows merged, of the program; Join's closures. -/
import Derived.Test.YtdefefeifcdogaaGreatG0
import Derived.Test.YtdefefeifcdogaaGreatWk
import Derived.Test.YtdefefeifcdogaaGreatR03
import Derived.Test.YtdefefeifcdogaaGreatR04
import Derived.Test.YtdefefeifcdogaaGreatChecked
import Derived.Test.YtdefefeifcdogaaGreatVg
import Derived.Shelf.Spec.SlicesGrow
import Derived.ArgAppend
import Derived.WalkKit
import Derived.OwnWalk
import Derived.Lib.Hide
import Derived.Deep.LoopGhost
import Derived.Test.YtdefefeifcdogaaGreatVt
import Derived.Sort.Grow
import Derived.Shelf.GgSortFunc.RowK
import Derived.Shelf.GgSortFunc.InsertionK
import Derived.Laws.AppendOwn
import Derived.Shelf.SlSortCmp.WholeK
import Derived.Shelf.SlSortCmp.Whole1
set_option linter.unusedSimpArgs false
set_option linter.unusedVariables false
namespace Go.Proofs.YtdefefeifcdogaaGreat
open Go.RowKit
set_option linter.unusedSimpArgs false
set_option linter.unusedVariables false

/-! ### Two rows in strict order with the same elements are one -/
theorem srt_uniq {α : Type} (f : α → Int) : ∀ (l1 l2 : List α), l1.Pairwise (fun a b => f a < f b) → l2.Pairwise (fun a b => f a < f b) → (∀ x, x ∈ l1 ↔ x ∈ l2) → l1 = l2
  | [], [], _, _, _ => rfl
  | [], y :: l2, _, _, h => absurd ((h y).2 (List.mem_cons_self ..)) (by simp)
  | x :: l1, [], _, _, h => absurd ((h x).1 (List.mem_cons_self ..)) (by simp)
  | x :: l1, y :: l2, h1, h2, h => by
    rw [List.pairwise_cons] at h1 h2
    have e : x = y := by
      rcases List.mem_cons.1 ((h x).1 (List.mem_cons_self ..)) with e | hx
      · exact e
      · rcases List.mem_cons.1 ((h y).2 (List.mem_cons_self ..)) with e | hy
        · exact e.symm
        · have a := h1.1 y hy
          have b := h2.1 x hx
          omega
    subst e
    rw [srt_uniq f l1 l2 h1.2 h2.2]
    intro z
    constructor
    · intro hz
      rcases List.mem_cons.1 ((h z).1 (List.mem_cons_of_mem _ hz)) with e | h3
      · subst e; have := h1.1 z hz; omega
      · exact h3
    · intro hz
      rcases List.mem_cons.1 ((h z).2 (List.mem_cons_of_mem _ hz)) with e | h3
      · subst e; have := h2.1 z hz; omega
      · exact h3

/-! ### Neighbours that are the same are one -/
section
variable {α : Type} [Inhabited α] [DecidableEq α]
def keepA (d : List α) (i : Nat) : Bool := decide (i = 0) || decide (d.getD i default ≠ d.getD (i - 1) default)
def cmpU (d : List α) : Nat → List α
  | 0 => []
  | k + 1 => cmpU d k ++ if keepA d k = true then [d.getD k default] else []
theorem cmpU_all (d : List α) : ∀ k, k ≤ d.length → (∀ i, i < k → keepA d i = true) → cmpU d k = d.take k
  | 0, _, _ => by simp [cmpU]
  | k + 1, hk, h => by
    rw [cmpU, cmpU_all d k (by omega) (fun i hi => h i (by omega)), if_pos (h k (by omega)), List.take_add_one, List.getElem?_eq_getElem (by omega : k < d.length), List.getD_eq_getElem?_getD, List.getElem?_eq_getElem (by omega : k < d.length)]
    rfl
theorem cmpU_srt (f : α → Int) (inj : ∀ a b, f a = f b → a = b) (d : List α) (hs : ∀ i, i + 1 < d.length → f (d.getD i default) ≤ f (d.getD (i + 1) default)) :
    ∀ k, k ≤ d.length → (cmpU d k).Pairwise (fun a b => f a < f b) ∧ (∀ x ∈ cmpU d k, f x ≤ f (d.getD (k - 1) default)) ∧ ∀ x, x ∈ cmpU d k ↔ x ∈ d.take k
  | 0, _ => by simp [cmpU]
  | k + 1, hk => by
    obtain ⟨h1, h2, h3⟩ := cmpU_srt f inj d hs k (by omega)
    have ht : d.take (k + 1) = d.take k ++ [d.getD k default] := by
      rw [List.take_add_one, List.getElem?_eq_getElem (by omega : k < d.length), List.getD_eq_getElem?_getD, List.getElem?_eq_getElem (by omega : k < d.length)]
      rfl
    rw [ht, Nat.add_sub_cancel]
    rcases Nat.eq_zero_or_pos k with h0 | h0
    · subst h0
      simp [cmpU, keepA]
    · have hlt := hs (k - 1) (by omega)
      rw [Nat.sub_add_cancel h0] at hlt
      by_cases hkp : keepA d k = true
      · rw [cmpU, if_pos hkp]
        have hne : d.getD k default ≠ d.getD (k - 1) default := by
          rw [keepA, Bool.or_eq_true, decide_eq_true_iff, decide_eq_true_iff] at hkp
          rcases hkp with h | h
          · omega
          · exact h
        have hlt2 : f (d.getD (k - 1) default) < f (d.getD k default) := by
          rcases Int.lt_or_eq_of_le hlt with h | h
          · exact h
          · exact absurd (inj _ _ h).symm hne
        refine ⟨?_, ?_, ?_⟩
        · rw [List.pairwise_append]
          refine ⟨h1, by simp, fun a ha b hb => ?_⟩
          rw [List.mem_singleton] at hb
          subst hb
          have := h2 a ha
          omega
        · intro x hx
          rw [List.mem_append, List.mem_singleton] at hx
          rcases hx with hx | rfl
          · have := h2 x hx; omega
          · omega
        · intro x
          rw [List.mem_append, List.mem_append, h3]
      · rw [cmpU, if_neg hkp, List.append_nil]
        have heq : d.getD k default = d.getD (k - 1) default := by
          rw [keepA, Bool.or_eq_true, decide_eq_true_iff, decide_eq_true_iff] at hkp
          exact Classical.byContradiction fun h => hkp (.inr h)
        refine ⟨h1, fun x hx => ?_, fun x => ?_⟩
        · rw [heq]; exact h2 x hx
        · rw [h3, List.mem_append, List.mem_singleton]
          constructor
          · exact .inl
          · rintro (h | rfl)
            · exact h
            · rw [heq]
              have hl : k - 1 < (d.take k).length := by rw [List.length_take]; omega
              have : d.getD (k - 1) default = (d.take k)[k - 1] := by
                rw [List.getD_eq_getElem?_getD, List.getElem?_eq_getElem (by omega : k - 1 < d.length), List.getElem_take]; rfl
              rw [this]
              exact List.getElem_mem hl
end

/-! ### Signs -/
theorem keyS_inj (a b : Sg) (h : keyS a = keyS b) : a = b := by
  obtain ⟨v, d, t⟩ := a
  obtain ⟨v', d', t'⟩ := b
  unfold keyS at h
  dsimp only at h
  cases d <;> cases t <;> cases d' <;> cases t' <;> simp at h ⊢ <;> omega
theorem befS_iff (a b : Sg) : befS a b = true ↔ keyS a < keyS b := by
  refine ⟨befS_key, fun h => ?_⟩
  obtain ⟨v, d, t⟩ := a
  obtain ⟨v', d', t'⟩ := b
  unfold keyS at h
  unfold befS
  dsimp only at h ⊢
  by_cases hv : v = v'
  · subst hv
    cases d <;> cases t <;> cases d' <;> cases t' <;> simp at h ⊢ <;> omega
  · rw [if_pos hv, decide_eq_true_iff]
    cases d <;> cases t <;> cases d' <;> cases t' <;> simp at h <;> omega
/-- All valid signs in order. -/
def okL : List Sg := ([1, 2, 3, 4, 5, 6, 7] : List Int).flatMap fun v => [⟨v, false, false⟩, ⟨v, false, true⟩, ⟨v, true, false⟩]
theorem okL_srt : okL.Pairwise fun a b => keyS a < keyS b := by
  have h : decide (okL.Pairwise fun a b => keyS a < keyS b) = true := by kernel_rfl
  exact of_decide_eq_true h
theorem okS_cases {s : Sg} (h : okS s = true) : s ∈ okL := by
  obtain ⟨v, d, t⟩ := s
  rw [okS, Bool.and_eq_true, Bool.and_eq_true, decide_eq_true_iff, decide_eq_true_iff] at h
  obtain ⟨⟨h1, h2⟩, h3⟩ := h
  have hv : v = 1 ∨ v = 2 ∨ v = 3 ∨ v = 4 ∨ v = 5 ∨ v = 6 ∨ v = 7 := by dsimp only at h1 h2; omega
  rcases hv with rfl | rfl | rfl | rfl | rfl | rfl | rfl <;> cases d <;> cases t <;> first
    | (cases h3; done)
    | simp [okL]
theorem mem_okL (s : Sg) : s ∈ okL ↔ okS s = true := by
  refine ⟨fun h => ?_, okS_cases⟩
  have h2 : okL.all okS = true := by kernel_rfl
  exact List.all_eq_true.1 h2 s h
theorem memS_iff (l : List Sg) (s : Sg) : memS l s = true ↔ s ∈ l := by
  rw [memS, List.any_eq_true]
  constructor
  · rintro ⟨y, hy, e⟩
    rw [decide_eq_true_iff] at e
    exact e ▸ hy
  · exact fun h => ⟨s, h, decide_eq_true rfl⟩
theorem memI_iff (l : List Int) (s : Int) : memI l s = true ↔ s ∈ l := by
  rw [memI, List.any_eq_true]
  constructor
  · rintro ⟨y, hy, e⟩
    rw [decide_eq_true_iff] at e
    exact e ▸ hy
  · exact fun h => ⟨s, h, decide_eq_true rfl⟩
/-- The valid signs of some kind, in order. -/
def mS (p : Sg → Bool) : List Sg := okL.filter p
theorem mS_srt (p : Sg → Bool) : (mS p).Pairwise fun a b => keyS a < keyS b := okL_srt.filter _
theorem mem_mS (p : Sg → Bool) (x : Sg) : x ∈ mS p ↔ okS x = true ∧ p x = true := by rw [mS, List.mem_filter, mem_okL]
theorem mS_of {p : Sg → Bool} {L : List Sg} (h1 : L.Pairwise fun a b => keyS a < keyS b) (h2 : ∀ x, x ∈ L ↔ okS x = true ∧ p x = true) : L = mS p :=
  srt_uniq keyS _ _ h1 (mS_srt p) fun x => by rw [h2, mem_mS]
theorem mS_len (p : Sg → Bool) : (mS p).length ≤ 21 := by
  have h : okL.length = 21 := by kernel_rfl
  have h2 : (mS p).length ≤ okL.length := List.length_filter_le ..
  omega
/-- The numbers of some kind, in order. -/
def okI : List Int := (List.range 20).map fun (i : Nat) => (i : Int) - 1
def mI (p : Int → Bool) : List Int := okI.filter p
theorem okI_srt : okI.Pairwise fun a b => a < b := by
  have h : decide (okI.Pairwise fun a b => a < b) = true := by kernel_rfl
  exact of_decide_eq_true h
theorem mem_okI (n : Int) : n ∈ okI ↔ -1 ≤ n ∧ n ≤ 18 := by
  rw [okI, List.mem_map]
  constructor
  · rintro ⟨i, hi, rfl⟩
    rw [List.mem_range] at hi
    omega
  · rintro ⟨h1, h2⟩
    exact ⟨(n + 1).toNat, List.mem_range.2 (by omega), by omega⟩
theorem mem_mI (p : Int → Bool) (x : Int) : x ∈ mI p ↔ (-1 ≤ x ∧ x ≤ 18) ∧ p x = true := by rw [mI, List.mem_filter, mem_okI]
theorem mI_of {p : Int → Bool} {L : List Int} (h1 : L.Pairwise fun a b => a < b) (h2 : ∀ x, x ∈ L ↔ (-1 ≤ x ∧ x ≤ 18) ∧ p x = true) : L = mI p :=
  srt_uniq (fun x => x) _ _ h1 (okI_srt.filter _) fun x => by rw [h2, mem_mI]
theorem mI_len (p : Int → Bool) : (mI p).length ≤ 20 := by
  have h : okI.length = 20 := by kernel_rfl
  have h2 : (mI p).length ≤ okI.length := List.length_filter_le ..
  omega

/-! ### An element goes into its place -/
section
variable {α : Type} (f : α → Int)
end
/-! ### What Meet and Join pick -/
def pBo (b : Bool) (x y : Bool) : Bool := (x && y) || (!b && (x || y))
def mxS (b : Bool) (xs ys : List Sg) : List Sg := mS fun s => pBo b (memS xs s) (memS ys s)
def mxI (b : Bool) (xs ys : List Int) : List Int := mI fun n => pBo b (memI xs n) (memI ys n)
end Go.Proofs.YtdefefeifcdogaaGreat
namespace Go.Proofs.YtdefefeifcdogaaGreat
open Go.RowKit
set_option linter.unusedSimpArgs false
set_option linter.unusedVariables false

theorem adj_lt {α : Type} [Inhabited α] (f : α → Int) {l : List α} (h : ∀ i, i + 1 < l.length → f (l.getD i default) < f (l.getD (i + 1) default)) (i : Nat) : ∀ d, i + d + 1 < l.length → f (l.getD i default) < f (l.getD (i + d + 1) default)
  | 0, hd => h i hd
  | d + 1, hd => by
    have a := adj_lt f h i d (by omega)
    have b := h (i + d + 1) hd
    have e : i + (d + 1) + 1 = i + d + 1 + 1 := by omega
    rw [e]
    omega
theorem adj_pw {α : Type} [Inhabited α] (f : α → Int) {l : List α} (h : ∀ i, i + 1 < l.length → f (l.getD i default) < f (l.getD (i + 1) default)) : l.Pairwise fun a b => f a < f b := by
  rw [List.pairwise_iff_getElem]
  intro i j hi hj hij
  have := adj_lt f h i (j - i - 1) (by omega)
  rw [show i + (j - i - 1) + 1 = j by omega, List.getD_eq_getElem?_getD, List.getD_eq_getElem?_getD, List.getElem?_eq_getElem hi, List.getElem?_eq_getElem hj] at this
  exact this
/-- The signs of a valid column. -/
theorem clm_sgs {x : Ins} {c : Clm} (h : ClmOk x c) : c.sgs.Pairwise (fun a b => keyS a < keyS b) ∧ ∀ s ∈ c.sgs, okS s = true := by
  refine ⟨adj_pw keyS fun i hi => ?_, fun s hs => ?_⟩
  · have := h.ris
    rw [risS, Bool.and_eq_true, allB_iff] at this
    exact befS_key (this.1 i (by omega))
  · have h1 : (tkS s == 0) = false := by
      have := h.tks
      rw [List.any_eq_false] at this
      simpa using this s hs
    have h2 : tkS s ≠ 0 := by rw [beq_eq_false_iff_ne] at h1; exact h1
    have hp : 0 < tkS s := by have := (tkS_bd s).1; omega
    rw [← tkS_pos]
    exact decide_eq_true hp
theorem celL {l : List Int} {fr : Int} {tie : Bool} (h : CelOk l fr tie) : l.Pairwise (fun a b => a < b) ∧ ∀ n ∈ l, -1 ≤ n ∧ n ≤ fr := by
  have hr := risI_lt h.ris
  have hp : l.Pairwise (fun a b => a < b) := adj_pw (fun x : Int => x) hr
  refine ⟨hp, fun n hn => ?_⟩
  have h0 := risI_pos h.ris
  obtain ⟨i, hi, e⟩ := List.mem_iff_getElem.1 hn
  have e2 : l.getD i 0 = n := by rw [List.getD_eq_getElem?_getD, List.getElem?_eq_getElem hi]; exact e
  have a := rise_bd hr i hi
  have b : l.getD i 0 ≤ l.getD (l.length - 1) 0 := by
    by_cases hi2 : i = l.length - 1
    · rw [← hi2]; omega
    · have := adj_lt (fun x : Int => x) (l := l) hr i (l.length - 1 - i - 1) (by omega)
      rw [show i + (l.length - 1 - i - 1) + 1 = l.length - 1 by omega] at this
      have this : l.getD i 0 < l.getD (l.length - 1) 0 := this
      omega
  have := h.lo
  have := h.hi
  omega
/-- What is sorted and freed of doubles is what is in either. -/
theorem mergeS_mx {xs ys d : List Sg} (hm : ∀ x, x ∈ d ↔ x ∈ xs ∨ x ∈ ys) (hs : ∀ i, i + 1 < d.length → keyS (d.getD i default) ≤ keyS (d.getD (i + 1) default)) (h1 : ∀ s ∈ xs, okS s = true) (h2 : ∀ s ∈ ys, okS s = true) : cmpU d d.length = mxS false xs ys := by
  obtain ⟨a, _, b⟩ := cmpU_srt keyS keyS_inj d hs d.length (Nat.le_refl _)
  refine mS_of a fun x => ?_
  rw [b, List.take_length, hm, pBo, Bool.not_false, Bool.true_and]
  constructor
  · rintro (h | h)
    · exact ⟨h1 x h, by rw [(memS_iff xs x).2 h]; cases memS ys x <;> rfl⟩
    · exact ⟨h2 x h, by rw [(memS_iff ys x).2 h]; cases memS xs x <;> rfl⟩
  · rintro ⟨_, h⟩
    rw [← memS_iff, ← memS_iff]
    revert h
    cases memS xs x <;> cases memS ys x <;> simp
theorem mergeI_mx {xs ys d : List Int} (hm : ∀ x, x ∈ d ↔ x ∈ xs ∨ x ∈ ys) (hs : ∀ i, i + 1 < d.length → d.getD i default ≤ d.getD (i + 1) default) (h1 : ∀ s ∈ xs, -1 ≤ s ∧ s ≤ 18) (h2 : ∀ s ∈ ys, -1 ≤ s ∧ s ≤ 18) : cmpU d d.length = mxI false xs ys := by
  obtain ⟨a, _, b⟩ := cmpU_srt (fun x : Int => x) (fun _ _ h => h) d hs d.length (Nat.le_refl _)
  refine mI_of a fun x => ?_
  rw [b, List.take_length, hm, pBo, Bool.not_false, Bool.true_and]
  constructor
  · rintro (h | h)
    · exact ⟨h1 x h, by rw [(memI_iff xs x).2 h]; cases memI ys x <;> rfl⟩
    · exact ⟨h2 x h, by rw [(memI_iff ys x).2 h]; cases memI xs x <;> rfl⟩
  · rintro ⟨_, h⟩
    rw [← memI_iff, ← memI_iff]
    revert h
    cases memI xs x <;> cases memI ys x <;> simp
/-- What is known of the columns of two leaves that fit one another. -/
structure TwoRows (f g : Lf) : Prop where
  s1 : ∀ i, i < f.cols.length → (f.cols.getD i default).sgs.Pairwise (fun a b => keyS a < keyS b) ∧ ∀ s ∈ (f.cols.getD i default).sgs, okS s = true
  s2 : ∀ i, i < f.cols.length → (g.cols.getD i default).sgs.Pairwise (fun a b => keyS a < keyS b) ∧ ∀ s ∈ (g.cols.getD i default).sgs, okS s = true
  c1 : ∀ i j, i < f.cols.length → j < (f.cols.getD i default).ce.length → ((f.cols.getD i default).ce.getD j []).Pairwise (fun a b => a < b) ∧ ∀ n ∈ (f.cols.getD i default).ce.getD j [], -1 ≤ n ∧ n ≤ 18
  c2 : ∀ i j, i < f.cols.length → j < (f.cols.getD i default).ce.length → ((g.cols.getD i default).ce.getD j []).Pairwise (fun a b => a < b) ∧ ∀ n ∈ (g.cols.getD i default).ce.getD j [], -1 ≤ n ∧ n ≤ 18
  n1 : ∀ i, i < f.cols.length → 0 < (f.cols.getD i default).sgs.length ∧ 0 < (g.cols.getD i default).sgs.length
  n2 : ∀ i j, i < f.cols.length → j < (f.cols.getD i default).ce.length → 0 < ((f.cols.getD i default).ce.getD j []).length ∧ 0 < ((g.cols.getD i default).ce.getD j []).length
theorem TwoRows.of {f g : Lf} (hf : LfSm f) (hg : LfSm g) (h : twoE f g = 0) : TwoRows f g := by
  have ok := TwoOk.of hf hg h
  obtain ⟨h1, h2, h3⟩ := twoE_zero h
  obtain ⟨q1, _, q3⟩ := lchk_zero h1
  obtain ⟨q4, _, q6⟩ := lchk_zero h2
  have hig : ∀ {i : Nat}, i < f.cols.length → i < g.cols.length := fun hi => by have := ok.w; omega
  have hjl : ∀ {i j : Nat}, i < f.cols.length → j < (f.cols.getD i default).ce.length → j < (g.cols.getD i default).ce.length := fun hi hj => by have := (ok.l _ hi).2; omega
  refine ⟨fun i hi => clm_sgs (q3 i hi).1, fun i hi => clm_sgs (q6 i (hig hi)).1, fun i j hi hj => ?_, fun i j hi hj => ?_, fun i hi => ⟨risS_pos (q3 i hi).1.ris, risS_pos (q6 i (hig hi)).1.ris⟩, fun i j hi hj => ⟨risI_pos ((q3 i hi).1.cel j hj).ris, risI_pos ((q6 i (hig hi)).1.cel j (hjl hi hj)).ris⟩⟩
  · have c := (q3 i hi).1
    have a := crs_f q1 (i := j) (by rw [← c.len]; exact hj)
    obtain ⟨u, v⟩ := celL (c.cel j hj)
    exact ⟨u, fun n hn => by have := v n hn; omega⟩
  · have c := (q6 i (hig hi)).1
    have a := crs_f q4 (i := j) (by rw [← c.len]; exact hjl hi hj)
    obtain ⟨u, v⟩ := celL (c.cel j (hjl hi hj))
    exact ⟨u, fun n hn => by have := v n hn; omega⟩
end Go.Proofs.YtdefefeifcdogaaGreat
namespace Go.Proofs.YtdefefeifcdogaaGreat
open Go.RowKit
set_option linter.unusedSimpArgs false
set_option linter.unusedVariables false

theorem numC_miss {l : List Stp} {c : Int} : ∀ {m : Nat}, (∀ j, j < m → (l.getD j default).co ≠ c) → numC l c m = -1
  | 0, _ => rfl
  | m + 1, h => by rw [numC, if_neg (h m (by omega))]; exact numC_miss fun j hj => h j (by omega)
theorem numC_hit {l : List Stp} {c : Int} {j : Nat} (hc : (l.getD j default).co = c) : ∀ {m : Nat}, j < m → (∀ j', j < j' → j' < m → (l.getD j' default).co ≠ c) → numC l c m = (l.getD j default).fr
  | 0, h, _ => by omega
  | m + 1, h, hh => by
    by_cases e : j = m
    · subst e; rw [numC, if_pos hc]
    · rw [numC, if_neg (hh m (by omega) (by omega))]; exact numC_hit hc (by omega) fun j' h1 h2 => hh j' h1 (by omega)
/-- Stops in rising order of courses 1 to n, frets from 0. -/
structure StOk (n : Nat) (l : List Stp) : Prop where
  r : ∀ j, j < l.length → 1 ≤ (l.getD j default).co ∧ (l.getD j default).co ≤ n
  f : ∀ j, j < l.length → 0 ≤ (l.getD j default).fr
  s : ∀ j, j + 1 < l.length → (l.getD j default).co < (l.getD (j + 1) default).co
theorem StOk.lt {n : Nat} {l : List Stp} (h : StOk n l) {j : Nat} : ∀ {j' : Nat}, j < j' → j' < l.length → (l.getD j default).co < (l.getD j' default).co
  | 0, h1, _ => by omega
  | j' + 1, h1, h2 => by
    by_cases e : j = j'
    · subst e; exact h.s j h2
    · have := h.lt (j := j) (j' := j') (by omega) (by omega)
      have := h.s j' h2
      omega
theorem celO_at {l : List Stp} {n i : Nat} (h : i < n) : (celO l n).getD i [] = [numC l ((i + 1 : Nat) : Int) l.length] := by
  rw [celO, List.getD_eq_getElem?_getD, List.getElem?_map, List.getElem?_range h]; rfl
theorem EvOk.stOk {p : Pce} {i : Nat} {x : Evt} (h : EvOk p i x) : StOk p.ins.cs.length x.ss where
  r j hj := (stp_zero (h.st j hj)).1
  f j hj := (stp_zero (h.st j hj)).2.1.1
  s j hj := by have := (stp_zero (h.st (j + 1) hj)).2.2.1; rw [lstC_succ] at this; exact this
/-- The event i of a piece in plain. -/
def plnX (p : Pce) (i : Nat) : Evt := { p.es.getD i default with sg := frc p.es (i + 1) }
end Go.Proofs.YtdefefeifcdogaaGreat
namespace Go.Proofs.YtdefefeifcdogaaGreat
open Go.RowKit
set_option linter.unusedSimpArgs false
set_option linter.unusedVariables false

theorem okS_of {s : Sg} (h : rgtS s = true) (hv : s.v ≠ 0) : 0 < tkS s := by
  rw [rgtS, Bool.or_eq_true] at h
  rcases h with h | h
  · rw [← tkS_pos] at h; exact of_decide_eq_true h
  · rw [Bool.and_eq_true, Bool.and_eq_true, decide_eq_true_iff] at h; exact absurd h.1.1 hv
theorem tkS_zero {s : Sg} (hv : s.v = 0) : ¬ 0 < tkS s := by
  intro h
  have := tkS_pos s
  rw [decide_eq_true h, okS, hv] at this
  cases this
theorem frc_ok {p : Pce} (ok : PcOk p) : ∀ i, i < p.es.length → rgtS (frc p.es (i + 1)) = true ∧ (frc p.es (i + 1)).v ≠ 0 ∧ tkS (frc p.es (i + 1)) = frcT p.es (i + 1)
  | i, hi => by
    have ev := ok.e i hi
    by_cases hv : (p.es.getD i default).sg.v ≠ 0
    · have e1 : frc p.es (i + 1) = (p.es.getD i default).sg := if_pos hv
      have e2 : frcT p.es (i + 1) = tkS (p.es.getD i default).sg := if_pos (okS_of ev.sg hv)
      rw [e1, e2]; exact ⟨ev.sg, hv, rfl⟩
    · have e1 : frc p.es (i + 1) = frc p.es i := if_neg hv
      have e2 : frcT p.es (i + 1) = frcT p.es i := if_neg (tkS_zero (by omega))
      rw [e1, e2]
      cases i with
      | zero => exact absurd (by omega) (ev.s0 rfl)
      | succ i => exact frc_ok ok i (by omega)
theorem clmO_ok {p : Pce} (ok : PcOk p) {i : Nat} (hi : i < p.es.length) : ClmOk p.ins (clmO p.ins.cs.length (plnX p i)) := by
  obtain ⟨h1, h2, h3⟩ := frc_ok ok i hi
  have ev := ok.e i hi
  have so := ev.stOk
  rw [clmO_ce]
  refine ⟨celO_len _ _, rfl, ?_, fun j hj => ?_⟩
  · have h4 := okS_of h1 h2
    show ((tkS (frc p.es (i + 1)) == 0) || false) = false
    rw [Bool.or_false, beq_eq_false_iff_ne]; omega
  · have hj' : j < p.ins.cs.length := by
      have : j < (celO (plnX p i).ss p.ins.cs.length).length := hj
      rwa [celO_len] at this
    show CelOk ((celO (plnX p i).ss p.ins.cs.length).getD j []) _ _
    rw [celO_at hj']
    have hf : 0 ≤ (p.ins.cs.getD j default).f := by
      have := (chkI_small ok.i).2.2.2.2 j hj'
      unfold crsE at this
      split at this
      · cases this
      · omega
    by_cases hc : ∃ k, k < (plnX p i).ss.length ∧ ((plnX p i).ss.getD k default).co = ((j + 1 : Nat) : Int)
    · obtain ⟨k, hk, hck⟩ := hc
      have e : numC (plnX p i).ss ((j + 1 : Nat) : Int) (plnX p i).ss.length = ((plnX p i).ss.getD k default).fr := numC_hit hck hk fun j' g1 g2 => by have := so.lt g1 g2; have h : ((plnX p i).ss.getD k default).co < ((plnX p i).ss.getD j' default).co := this; omega
      rw [e]
      have hs := (stp_zero (ev.st k hk)).2.1
      have hck' : ((p.es.getD i default).ss.getD k default).co = ((j + 1 : Nat) : Int) := hck
      rw [hck', show (((j + 1 : Nat) : Int) - 1).toNat = j from by omega] at hs
      refine ⟨rfl, ?_, ?_, fun ht => ?_⟩
      · show -1 ≤ ((p.es.getD i default).ss.getD k default).fr; omega
      · exact hs.2
      · have h5 := (ev.tie ht).1
        have hk' : k < (p.es.getD i default).ss.length := hk
        omega
    · have e : numC (plnX p i).ss ((j + 1 : Nat) : Int) (plnX p i).ss.length = -1 := numC_miss fun k hk h => hc ⟨k, hk, h⟩
      rw [e]
      refine ⟨rfl, ?_, ?_, fun ht => ?_⟩
      · show (-1 : Int) ≤ -1; omega
      · show (-1 : Int) ≤ _; omega
      · show (-1 : Int) ≤ -1; omega
theorem cols_at {p : Pce} {i : Nat} (hi : i < p.es.length) : (lfO p).cols.getD i default = clmO p.ins.cs.length (plnX p i) := by
  have h2 : i < (plnP p).es.length := by rw [plnP, plnE_len]; exact hi
  have e2 : (lfO p).cols.getD i default = clmO p.ins.cs.length ((plnP p).es.getD i default) := getDmap _ h2
  have e3 : (plnP p).es.getD i default = plnX p i := plnE_at hi
  rw [e2, e3]
end Go.Proofs.YtdefefeifcdogaaGreat
namespace Go.Proofs.YtdefefeifcdogaaGreat
open Go.RowKit
set_option maxRecDepth 100000

abbrev c_leaf_Join_p1 : VC := (.seq (.ops 0 [⟨(some 13), none, (.build [(.sl 0 [] .exact), (.sl 0 [] .exact), (.sl 0 [] .exact)] []), [], none⟩, oo 14 .mv [.t 6], ⟨none, none, (.st 3), [.t 4, .t 13], none⟩, oo 5 .mv [.t 14]]) .ret)
abbrev c_leaf_Join_p2 : VC := (.seq (.ops 0 [oo 11 .mv [.t 6], oo 12 (.bin .neq) [.t 11, kk 0]]) (.cond (.t 12) c_leaf_Join_p1 .skip))
abbrev c_leaf_Join_p3 : VC := (.seq (.ops 0 [oo 18 (.ldA 3) [.t 7], ⟨none, none, (.st 3), [.t 4, .t 18], none⟩, oo 5 .mv [kk 0]]) .ret)
abbrev c_leaf_Join_p4 : VC := (.seq (.ops 5 [oo 15 (.ldA 3) [.t 2], oo 16 (.ldA 3) [.t 3], oo 17 (.call 89) [.t 15, .t 16, (.c (.fn 116 [])), (.c (.fn 119 []))], ⟨(some 7), none, (.alloc 28 [(.sl 0 [] .exact), (.sl 0 [] .exact), (.sl 0 [] .exact)]), [], none⟩, ⟨none, none, (.st 3), [.t 7, .t 17], none⟩]) c_leaf_Join_p3)
abbrev c_leaf_Join_p5 : VC := (.seq (.seq (.ops 0 [oo 8 (.ldA 3) [.t 2], oo 9 (.ldA 3) [.t 3], oo 10 (.call 87) [.t 8, .t 9], oo 6 .mv [.t 10]]) c_leaf_Join_p2) c_leaf_Join_p4)
def c_leaf_Join : VC := (.seq (.ops 4 [oo 2 (.box 28) [.t 0], oo 3 (.box 28) [.t 1], ⟨(some 4), none, (.alloc 28 [(.sl 0 [] .exact), (.sl 0 [] .exact), (.sl 0 [] .exact)]), [], none⟩, oo 5 .mv [kk 0]]) c_leaf_Join_p5)
theorem k_leaf_Join : Comp Tryz.prog nobx gtab 51 19 c_leaf_Join [(.c 4 3 true), .t 5] := ⟨⟨Tryz.f51, _, Tryz.func51, rfl, rfl, kr, kr⟩⟩
abbrev c_leaf_Join_1_p1 : VC := (.seq (.ops 0 [oo 5 .mv [.t 0], oo 6 .mv [.t 1], oo 7 (.call 117) [.t 5, .t 6, (.c (.fn 118 []))], oo 4 .mv [.t 7]]) .ret)
def c_leaf_Join_1 : VC := (.seq (.ops 0 [oo 4 .mv [(.c (.sl 0 [] .exact))]]) c_leaf_Join_1_p1)
theorem k_leaf_Join_1 : Comp Tryz.prog nobx gtab 116 8 c_leaf_Join_1 [.t 4] := ⟨⟨Tryz.f116, _, Tryz.func116, rfl, rfl, kr, kr⟩⟩
abbrev c_leaf_Join_2_p1 : VC := (.seq (.ops 0 [oo 5 .mv [.t 0], oo 6 .mv [.t 1], oo 7 (.call 120) [.t 5, .t 6, (.c (.fn 121 []))], oo 4 .mv [.t 7]]) .ret)
def c_leaf_Join_2 : VC := (.seq (.ops 0 [oo 4 .mv [(.c (.sl 0 [] .exact))]]) c_leaf_Join_2_p1)
theorem k_leaf_Join_2 : Comp Tryz.prog nobx gtab 119 8 c_leaf_Join_2 [.t 4] := ⟨⟨Tryz.f119, _, Tryz.func119, rfl, rfl, kr, kr⟩⟩
abbrev c_theorbolaw10_LeafBoth_p1 : VC := (.seq (.ops 0 [oo 31 (.call 19) [], oo 6 .mv [.t 31]]) .ret)
abbrev c_theorbolaw10_LeafBoth_p2 : VC := (.seq (.ops 0 [oo 50 (.call 19) [], oo 6 .mv [.t 50]]) .ret)
abbrev c_theorbolaw10_LeafBoth_p3 : VC := (.seq (.ops 0 [oo 6 .mv [(.c (.lit (.bool false)))]]) .ret)
abbrev c_theorbolaw10_LeafBoth_p4 : VC := (.seq (.ops 0 [oo 71 .mv [.t 11], oo 72 .mv [.t 71], og 73 72 true .mv [.t 13], oo 74 .pick [.t 72, .t 73, (.c (.lit (.bool false)))], oo 75 (.un .not) [.t 74], oo 76 .mv [.t 75], og 77 76 true (.call 19) [], oo 78 .pick [.t 76, .t 77, (.c (.lit (.bool false)))], oo 6 .mv [.t 78]]) .ret)
abbrev c_theorbolaw10_LeafBoth_p5 : VC := (.seq (.ops 0 [oo 85 .mv [.t 8], oo 86 (.bin .eql) [.t 85, kk 0], oo 87 .mv [.t 86], og 88 87 true .mv [.t 12], og 89 87 true (.bin .eql) [.t 88, kk 0], oo 90 .pick [.t 87, .t 89, (.c (.lit (.bool false)))], oo 91 .mv [.t 90], og 92 91 true .mv [.t 16], og 93 91 true .mv [.t 11], og 94 91 true .mv [.t 93], og 95 94 true .mv [.t 13], og 96 91 true .pick [.t 94, .t 95, (.c (.lit (.bool false)))], og 97 91 true (.eqB false) [.t 92, .t 96], oo 98 .pick [.t 91, .t 97, (.c (.lit (.bool false)))], oo 99 .mv [.t 98], og 100 99 true (.call 19) [], oo 101 .pick [.t 99, .t 100, (.c (.lit (.bool false)))], oo 6 .mv [.t 101]]) .ret)
abbrev c_theorbolaw10_LeafBoth_p6 : VC := (.seq (.ops 0 [oo 80 (.ldA 3) [.t 7], oo 81 (.ldA 3) [.t 5], oo 82 (.call 41) [.t 80, .t 81], oo 79 .mv [.t 82], oo 83 (.ext 0) [.t 79], oo 84 (.ext 1) [.t 79], oo 16 .mv [.t 83], oo 12 .mv [.t 84]]) c_theorbolaw10_LeafBoth_p5)
abbrev c_theorbolaw10_LeafBoth_p7 : VC := (.seq (.seq (.ops 0 [oo 69 .mv [.t 8], oo 70 (.bin .eql) [.t 69, kk 102]]) (.cond (.t 70) c_theorbolaw10_LeafBoth_p4 .skip)) c_theorbolaw10_LeafBoth_p6)
abbrev c_theorbolaw10_LeafBoth_p8 : VC := (.seq (.seq (.ops 0 [oo 57 .mv [.t 12], oo 58 (.bin .neq) [.t 57, kk 0], oo 59 .mv [.t 58], og 60 59 false .mv [.t 11], og 61 59 false .mv [.t 60], og 62 61 false .mv [.t 13], og 63 59 false .pick [.t 61, (.c (.lit (.bool true))), .t 62], og 64 59 false .mv [.t 63], og 65 64 true .mv [.t 15], og 66 64 true (.un .not) [.t 65], og 67 59 false .pick [.t 64, .t 66, (.c (.lit (.bool false)))], oo 68 .pick [.t 59, (.c (.lit (.bool true))), .t 67]]) (.cond (.t 68) c_theorbolaw10_LeafBoth_p3 .skip)) c_theorbolaw10_LeafBoth_p7)
abbrev c_theorbolaw10_LeafBoth_p9 : VC := (.seq (.ops 0 [oo 52 (.ldA 3) [.t 9], oo 53 (.ldA 3) [.t 5], oo 54 (.call 41) [.t 52, .t 53], oo 51 .mv [.t 54], oo 55 (.ext 0) [.t 51], oo 56 (.ext 1) [.t 51], oo 15 .mv [.t 55], oo 12 .mv [.t 56]]) c_theorbolaw10_LeafBoth_p8)
abbrev c_theorbolaw10_LeafBoth_p10 : VC := (.seq (.seq (.ops 0 [oo 44 .mv [.t 12], oo 45 (.bin .neq) [.t 44, kk 0], oo 46 .mv [.t 45], og 47 46 false .mv [.t 14], og 48 46 false (.bin .neq) [.t 47, kk 0], oo 49 .pick [.t 46, (.c (.lit (.bool true))), .t 48]]) (.cond (.t 49) c_theorbolaw10_LeafBoth_p2 .skip)) c_theorbolaw10_LeafBoth_p9)
abbrev c_theorbolaw10_LeafBoth_p11 : VC := (.seq (.ops 0 [oo 39 (.ldA 3) [.t 4], oo 40 (.ldA 3) [.t 5], oo 41 (.call 41) [.t 39, .t 40], oo 38 .mv [.t 41], oo 42 (.ext 0) [.t 38], oo 43 (.ext 1) [.t 38], oo 13 .mv [.t 42], oo 14 .mv [.t 43]]) c_theorbolaw10_LeafBoth_p10)
abbrev c_theorbolaw10_LeafBoth_p12 : VC := (.seq (.ops 0 [oo 33 (.ldA 3) [.t 3], oo 34 (.ldA 3) [.t 5], oo 35 (.call 41) [.t 33, .t 34], oo 32 .mv [.t 35], oo 36 (.ext 0) [.t 32], oo 37 (.ext 1) [.t 32], oo 11 .mv [.t 36], oo 12 .mv [.t 37]]) c_theorbolaw10_LeafBoth_p11)
abbrev c_theorbolaw10_LeafBoth_p13 : VC := (.seq (.seq (.ops 0 [oo 29 .mv [.t 10], oo 30 (.bin .neq) [.t 29, kk 0]]) (.cond (.t 30) c_theorbolaw10_LeafBoth_p1 .skip)) c_theorbolaw10_LeafBoth_p12)
abbrev c_theorbolaw10_LeafBoth_p14 : VC := (.seq (.ops 9 [oo 24 (.ldA 3) [.t 3], oo 25 (.ldA 3) [.t 4], oo 26 (.call 51) [.t 24, .t 25], oo 23 .mv [.t 26], oo 27 (.ext 0) [.t 23], oo 28 (.ext 1) [.t 23], ⟨(some 9), none, (.alloc 28 [(.sl 0 [] .exact), (.sl 0 [] .exact), (.sl 0 [] .exact)]), [], none⟩, ⟨none, none, (.st 3), [.t 9, .t 27], none⟩, oo 10 .mv [.t 28]]) c_theorbolaw10_LeafBoth_p13)
abbrev c_theorbolaw10_LeafBoth_p15 : VC := (.seq (.ops 9 [oo 18 (.ldA 3) [.t 3], oo 19 (.ldA 3) [.t 4], oo 20 (.call 38) [.t 18, .t 19], oo 17 .mv [.t 20], oo 21 (.ext 0) [.t 17], oo 22 (.ext 1) [.t 17], ⟨(some 7), none, (.alloc 28 [(.sl 0 [] .exact), (.sl 0 [] .exact), (.sl 0 [] .exact)]), [], none⟩, ⟨none, none, (.st 3), [.t 7, .t 21], none⟩, oo 8 .mv [.t 22]]) c_theorbolaw10_LeafBoth_p14)
def c_theorbolaw10_LeafBoth : VC := (.seq (.ops 4 [oo 3 (.box 28) [.t 0], oo 4 (.box 28) [.t 1], oo 5 (.box 49) [.t 2], oo 6 .mv [(.c (.lit (.bool false)))]]) c_theorbolaw10_LeafBoth_p15)
theorem k_theorbolaw10_LeafBoth : Comp Tryz.prog nobx gtab 15 102 c_theorbolaw10_LeafBoth [.t 6] := ⟨⟨Tryz.f15, _, Tryz.func15, rfl, rfl, kr, kr⟩⟩
end Go.Proofs.YtdefefeifcdogaaGreat
namespace Go.Proofs.YtdefefeifcdogaaGreat
open Go.RowKit
set_option linter.unusedSimpArgs false
set_option linter.unusedVariables false

/-- What Join answers. -/
noncomputable def joiR (S : List Sg → List Sg → List Sg) (C : List Int → List Int → List Int) (f g : Lf) : Lf × Int := if twoE f g ≠ 0 then (noL, twoE f g) else (cmbL S C f g, 0)
set_option maxHeartbeats 1000000 in
theorem join_fn (f g : Lf) (hf : LfSm f) (hg : LfSm g) (S : List Sg → List Sg → List Sg) (C : List Int → List Int → List Int)
    (hS : twoE f g = 0 → ∀ i, i < f.cols.length → Fn Tryz.prog Gd 116 [tL Sg.cells (f.cols.getD i default).sgs, tL Sg.cells (g.cols.getD i default).sgs] (tL Sg.cells (S (f.cols.getD i default).sgs (g.cols.getD i default).sgs)))
    (hC : twoE f g = 0 → ∀ i j, i < f.cols.length → j < (f.cols.getD i default).ce.length → Fn Tryz.prog Gd 119 [tIs ((f.cols.getD i default).ce.getD j []), tIs ((g.cols.getD i default).ce.getD j [])] (tIs (C ((f.cols.getD i default).ce.getD j []) ((g.cols.getD i default).ce.getD j [])))) :
    Fn Tryz.prog Gd 51 [f.val, g.val] (.tup [(joiR S C f g).1.val, vint (joiR S C f g).2]) := by
  refine Fn.of_vx0 k_leaf_Join (by simp) (by rw [V.pures, pure_lf, V.pures, pure_lf]; rfl) ?_
  have A := both_fn f g hf hg
  unfold c_leaf_Join
  by_cases h0 : twoE f g = 0
  case neg =>
    have c1 : (twoE f g == 0) = false := by rw [beq_eq_false_iff_ne]; exact h0
    rw [show joiR S C f g = (noL, twoE f g) from if_pos h0]
    clear h0 hf hg hS hC
    generalize twoE f g = e at *
    obtain ⟨⟨fc, fst⟩, fl⟩ := f
    obtain ⟨⟨gc, gst⟩, gl⟩ := g
    repeat' (with_reducible first | refine x_ops ?_ | refine wk ?_ | (with_reducible refine xc (A) ?_) | ((first | refine gd1 ?_ ?_ | refine gd2 ?_ ?_ | refine gd3 ?_ ?_) <;> (first | exact @False.elim _ | intro hc)))
    refine finV_ret vv ?_
    exact .tup (.cons (.agg (.cons (.sl _ _ _) (.cons (.sl _ _ _) (.cons (.sl _ _ _) .nil)))) (.cons (.lit _) .nil))
  have ok := TwoOk.of hf hg h0
  have CB := combine_fn f g S C (f1 := 116) (f2 := 119) kr kr ok.n ok.w ok.c ok.s (hS h0) (hC h0) ok.l
  rw [show joiR S C f g = (cmbL S C f g, 0) from by rw [joiR, if_neg (by omega)]]
  rw [h0] at A
  clear h0 hf hg ok hS hC
  generalize cmbL S C f g = m at *
  obtain ⟨⟨fc, fst⟩, fl⟩ := f
  obtain ⟨⟨gc, gst⟩, gl⟩ := g
  obtain ⟨⟨mc, mst⟩, ml⟩ := m
  repeat' (with_reducible first | refine x_ops ?_ | refine wk ?_ | (with_reducible refine xc (A) ?_) | (with_reducible refine xc (CB) ?_) | ((first | refine gd1 ?_ ?_ | refine gd2 ?_ ?_ | refine gd3 ?_ ?_) <;> (first | exact @False.elim _ | intro hc)))
  refine finV_ret vv ?_
  exact .tup (.cons (.agg (.cons (.sl _ _ _) (.cons (.sl _ _ _) (.cons (.sl _ _ _) .nil)))) (.cons (.lit _) .nil))
end Go.Proofs.YtdefefeifcdogaaGreat
namespace Go.Proofs.YtdefefeifcdogaaGreat
open Go.RowKit
set_option linter.unusedSimpArgs false
set_option linter.unusedVariables false

/-- Is a piece read from a leaf (both valid)? -/
def rb (f : Lf) (p : Pce) : Bool := shpB f (lfO p) && insB (lfO p) f
theorem rdsR_ok {f : Lf} {p : Pce} (h : lchk f = 0) (hp : chkP p = 0) : rdsR f p = (rb f p, 0) := by rw [rdsR, if_neg (by omega), if_neg (by omega)]; rfl
set_option maxHeartbeats 2000000 in
theorem leafboth_fn (W : Fn Tryz.prog Gd 19 [] (vbool true)) (f g : Lf) (p : Pce) (hf : LfSm f) (hg : LfSm g) (hp : PcSm p) (S : List Sg → List Sg → List Sg) (C : List Int → List Int → List Int)
    (J1 : Fn Tryz.prog Gd 51 [f.val, g.val] (.tup [(joiR S C f g).1.val, vint (joiR S C f g).2]))
    (hm : LfSm (metR f g).1) (hj : LfSm (joiR S C f g).1)
    (PL : twoE f g = 0 → chkP p = 0 → ∃ z, rdsR (joiR S C f g).1 p = (z, 0) ∧ ((rb f p || rb g p) = true → z = true) ∧ (((metR f g).2 = 102 ∧ (rb f p && rb g p) = false) ∨ ((metR f g).2 = 0 ∧ rdsR (metR f g).1 p = (rb f p && rb g p, 0)))) :
    Fn Tryz.prog Gd 15 [f.val, g.val, p.val] (vbool true) := by
  refine Fn.of_vx0 k_theorbolaw10_LeafBoth (by simp) (by rw [V.pures, pure_lf, V.pures, pure_lf, V.pures, pure_pce]; rfl) ?_
  have M := meet_fn f g hf hg
  have R1 := reads_fn f p hf hp
  have R2 := reads_fn g p hg hp
  have R3 := reads_fn (joiR S C f g).1 p hj hp
  have R4 := reads_fn (metR f g).1 p hm hp
  unfold c_theorbolaw10_LeafBoth
  by_cases h0 : twoE f g = 0
  case neg =>
    have c1 : (twoE f g == 0) = false := by rw [beq_eq_false_iff_ne]; exact h0
    rw [show joiR S C f g = (noL, twoE f g) from if_pos h0] at J1
    rw [show metR f g = (noL, twoE f g) from if_pos h0] at M
    clear R1 R2 R3 R4 PL h0 hf hg hp hm hj
    generalize twoE f g = e at *
    obtain ⟨⟨fc, fst⟩, fl⟩ := f
    obtain ⟨⟨gc, gst⟩, gl⟩ := g
    obtain ⟨⟨pc, pst⟩, pl⟩ := p
    repeat' (with_reducible first | refine x_ops ?_ | refine wk ?_ | (with_reducible refine xc (M) ?_) | (with_reducible refine xc (J1) ?_) | (with_reducible refine xc (W) ?_) | ((first | refine gd1 ?_ ?_ | refine gd2 ?_ ?_ | refine gd3 ?_ ?_) <;> (first | exact @False.elim _ | intro hc)))
    exact finV_lit vv rfl
  obtain ⟨q1, q2, _⟩ := twoE_zero h0
  have hj2 : (joiR S C f g).2 = 0 := by rw [joiR, if_neg (by omega)]
  rw [hj2] at J1
  by_cases h1 : chkP p = 0
  case neg =>
    have c1 : (chkP p == 0) = false := by rw [beq_eq_false_iff_ne]; exact h1
    rw [show rdsR f p = (false, chkP p) from by rw [rdsR, if_neg (by omega), if_pos h1]] at R1
    rw [show rdsR g p = (false, chkP p) from by rw [rdsR, if_neg (by omega), if_pos h1]] at R2
    clear R3 R4 PL h0 h1 hf hg hp hm hj q1 q2 hj2
    generalize chkP p = e at *
    generalize (joiR S C f g).1 = j at *
    generalize metR f g = m at *
    obtain ⟨⟨⟨mc, mst⟩, ml⟩, me⟩ := m
    obtain ⟨⟨jc, jst⟩, jl⟩ := j
    obtain ⟨⟨fc, fst⟩, fl⟩ := f
    obtain ⟨⟨gc, gst⟩, gl⟩ := g
    obtain ⟨⟨pc, pst⟩, pl⟩ := p
    repeat' (with_reducible first | refine x_ops ?_ | refine wk ?_ | (with_reducible refine xc (M) ?_) | (with_reducible refine xc (J1) ?_) | (with_reducible refine xc (R1) ?_) | (with_reducible refine xc (R2) ?_) | (with_reducible refine xc (W) ?_) | ((first | refine gd1 ?_ ?_ | refine gd2 ?_ ?_ | refine gd3 ?_ ?_) <;> (first | exact @False.elim _ | intro hc)))
    exact finV_lit vv rfl
  obtain ⟨z, hz, hxz, hmm⟩ := PL h0 h1
  rw [rdsR_ok q1 h1] at R1
  rw [rdsR_ok q2 h1] at R2
  rw [hz] at R3
  generalize rb f p = x at *
  generalize rb g p = y at *
  clear hz PL h0 h1 hf hg hp hm hj q1 q2 hj2
  generalize (joiR S C f g).1 = j at *
  generalize rdsR (metR f g).1 p = r4 at *
  generalize metR f g = m at *
  obtain ⟨⟨⟨mc, mst⟩, ml⟩, me⟩ := m
  obtain ⟨⟨jc, jst⟩, jl⟩ := j
  obtain ⟨⟨fc, fst⟩, fl⟩ := f
  obtain ⟨⟨gc, gst⟩, gl⟩ := g
  obtain ⟨⟨pc, pst⟩, pl⟩ := p
  dsimp only at hmm
  rcases hmm with ⟨rfl, hxy⟩ | ⟨rfl, rfl⟩
  · cases x <;> cases y <;> cases z <;> first
      | (exact absurd (hxz rfl) (by decide))
      | (exact absurd hxy (by decide))
      | (clear hxz hxy
         repeat' (with_reducible first | refine x_ops ?_ | refine wk ?_ | (with_reducible refine xc (M) ?_) | (with_reducible refine xc (J1) ?_) | (with_reducible refine xc (R1) ?_) | (with_reducible refine xc (R2) ?_) | (with_reducible refine xc (R3) ?_) | (with_reducible refine xc (W) ?_) | ((first | refine gd1 ?_ ?_ | refine gd2 ?_ ?_ | refine gd3 ?_ ?_) <;> (first | exact @False.elim _ | intro hc)))
         exact finV_lit vv rfl)
  · obtain ⟨w, hw⟩ : ∃ w, (x && y) = w := ⟨_, rfl⟩
    rw [hw] at R4
    dsimp only at R4
    have d : ∀ a b : Bool, (a == b) = decide (a = b) := by intro a b; cases a <;> cases b <;> rfl
    cases x <;> cases y <;> cases z <;> first
      | (exact absurd (hxz rfl) (by decide))
      | (clear hxz d
         have hw2 : w = true := hw.symm
         subst hw2
         clear hw
         repeat' (with_reducible first | refine x_ops ?_ | refine wk ?_ | (with_reducible refine xc (M) ?_) | (with_reducible refine xc (J1) ?_) | (with_reducible refine xc (R1) ?_) | (with_reducible refine xc (R2) ?_) | (with_reducible refine xc (R3) ?_) | (with_reducible refine xc (R4) ?_) | (with_reducible refine xc (W) ?_) | ((first | refine gd1 ?_ ?_ | refine gd2 ?_ ?_ | refine gd3 ?_ ?_) <;> (first | exact @False.elim _ | intro hc)))
         exact finV_lit vv rfl)
      | (clear hxz d
         have hw2 : w = false := hw.symm
         subst hw2
         clear hw
         repeat' (with_reducible first | refine x_ops ?_ | refine wk ?_ | (with_reducible refine xc (M) ?_) | (with_reducible refine xc (J1) ?_) | (with_reducible refine xc (R1) ?_) | (with_reducible refine xc (R2) ?_) | (with_reducible refine xc (R3) ?_) | (with_reducible refine xc (R4) ?_) | (with_reducible refine xc (W) ?_) | ((first | refine gd1 ?_ ?_ | refine gd2 ?_ ?_ | refine gd3 ?_ ?_) <;> (first | exact @False.elim _ | intro hc)))
         exact finV_lit vv rfl)
end Go.Proofs.YtdefefeifcdogaaGreat
namespace Go.Proofs.YtdefefeifcdogaaGreat
open Go.RowKit
set_option linter.unusedSimpArgs false
set_option linter.unusedVariables false

theorem subS_mem (a b : List Sg) : subS a b = true ↔ ∀ x ∈ a, x ∈ b := by
  rw [subS, Bool.not_eq_true', List.any_eq_false]
  constructor
  · intro h x hx
    rw [← memS_iff]
    have := h x hx
    simpa using this
  · intro h x hx
    rw [(memS_iff b x).2 (h x hx)]
    simp
theorem subI_mem (a b : List Int) : subI a b = true ↔ ∀ x ∈ a, x ∈ b := by
  rw [subI, Bool.not_eq_true', List.any_eq_false]
  constructor
  · intro h x hx
    rw [← memI_iff]
    have := h x hx
    simpa using this
  · intro h x hx
    rw [(memI_iff b x).2 (h x hx)]
    simp
theorem insB_iff (f g : Lf) : insB f g = true ↔ ∀ i, i < f.cols.length → (∀ x ∈ (f.cols.getD i default).sgs, x ∈ (g.cols.getD i default).sgs) ∧ ∀ j, j < (f.cols.getD i default).ce.length → ∀ x ∈ (f.cols.getD i default).ce.getD j [], x ∈ (g.cols.getD i default).ce.getD j [] := by
  rw [insB, allB_iff]
  constructor
  · intro h i hi
    have := h i hi
    rw [insC, Bool.and_eq_true, subS_mem, allB_iff] at this
    exact ⟨this.1, fun j hj => (subI_mem _ _).1 (this.2 j hj)⟩
  · intro h i hi
    rw [insC, Bool.and_eq_true, subS_mem, allB_iff]
    exact ⟨(h i hi).1, fun j hj => (subI_mem _ _).2 ((h i hi).2 j hj)⟩
theorem shpB_iff (f g : Lf) : shpB f g = true ↔ f.ins = g.ins ∧ f.cols.length = g.cols.length ∧ ∀ i, i < f.cols.length → (f.cols.getD i default).bar = (g.cols.getD i default).bar ∧ (f.cols.getD i default).tie = (g.cols.getD i default).tie := by
  rw [shpB, eqC, Bool.and_eq_true, Bool.and_eq_true, decide_eq_true_iff, decide_eq_true_iff, allB_iff]
  constructor
  · rintro ⟨a, b, c⟩
    refine ⟨a, b, fun i hi => ?_⟩
    have := c i hi
    rw [shpC, Bool.and_eq_true, beq_iff_eq, beq_iff_eq] at this
    exact this
  · rintro ⟨a, b, c⟩
    refine ⟨a, b, fun i hi => ?_⟩
    rw [shpC, Bool.and_eq_true, beq_iff_eq, beq_iff_eq]
    exact c i hi
theorem getI_mem {l : List Int} {k : Nat} (h : k < l.length) : l.getD k 0 ∈ l := by
  rw [List.getD_eq_getElem?_getD, List.getElem?_eq_getElem h]
  exact List.getElem_mem h
theorem cel_of {l : List Int} {fr : Int} {tie : Bool} (h1 : l.Pairwise fun a b => a < b) (h0 : 0 < l.length) (h2 : ∀ n ∈ l, -1 ≤ n ∧ n ≤ fr ∧ (tie = true → n ≤ -1)) : CelOk l fr tie := by
  refine ⟨?_, (h2 _ (getI_mem h0)).1, (h2 _ (getI_mem (by omega))).2.1, (h2 _ (getI_mem (by omega))).2.2⟩
  rw [risI, Bool.and_eq_true, allB_iff]
  refine ⟨fun i hi => decide_eq_true ?_, decide_eq_true h0⟩
  have := List.pairwise_iff_getElem.1 h1 i (i + 1) (by omega) (by omega) (by omega)
  rw [List.getD_eq_getElem?_getD, List.getD_eq_getElem?_getD, List.getElem?_eq_getElem (by omega : i < l.length), List.getElem?_eq_getElem (by omega : i + 1 < l.length)]
  exact this
theorem celT {l : List Int} {fr : Int} {tie : Bool} (h : CelOk l fr tie) : ∀ n ∈ l, -1 ≤ n ∧ n ≤ fr ∧ (tie = true → n ≤ -1) := by
  intro n hn
  obtain ⟨a, b⟩ := (celL h).2 n hn
  refine ⟨a, b, fun ht => ?_⟩
  have h3 : CelOk l (-1) tie := ⟨h.ris, h.lo, h.ti ht, h.ti⟩
  exact ((celL h3).2 n hn).2
theorem clm_of {x : Ins} {c : Clm} (hl : c.ce.length = x.cs.length) (h1 : c.sgs.Pairwise fun a b => keyS a < keyS b) (h0 : 0 < c.sgs.length) (h2 : ∀ s ∈ c.sgs, okS s = true) (h3 : ∀ i, i < c.ce.length → CelOk (c.ce.getD i []) (x.cs.getD i default).f c.tie) : ClmOk x c := by
  refine ⟨hl, ?_, ?_, h3⟩
  · rw [risS, Bool.and_eq_true, allB_iff]
    refine ⟨fun i hi => ?_, decide_eq_true h0⟩
    rw [befS_iff]
    have := List.pairwise_iff_getElem.1 h1 i (i + 1) (by omega) (by omega) (by omega)
    rw [List.getD_eq_getElem?_getD, List.getD_eq_getElem?_getD, List.getElem?_eq_getElem (by omega : i < c.sgs.length), List.getElem?_eq_getElem (by omega : i + 1 < c.sgs.length)]
    exact this
  · rw [List.any_eq_false]
    intro s hs
    have := h2 s hs
    rw [← tkS_pos] at this
    have := of_decide_eq_true this
    simp
    omega
theorem ceK_at (C : List Int → List Int → List Int) (a b : List (List Int)) {k j : Nat} (h : j < k) : (ceK C a b k).getD j [] = C (a.getD j []) (b.getD j []) := by
  rw [List.getD_eq_getElem?_getD, ceK, List.getElem?_map, List.getElem?_range h]; rfl
/-- The rows that are made are valid. -/
structure CmbOk (S : List Sg → List Sg → List Sg) (C : List Int → List Int → List Int) (f g : Lf) : Prop where
  s : ∀ i, i < f.cols.length → (S (f.cols.getD i default).sgs (g.cols.getD i default).sgs).Pairwise (fun a b => keyS a < keyS b) ∧ 0 < (S (f.cols.getD i default).sgs (g.cols.getD i default).sgs).length ∧ ∀ s ∈ S (f.cols.getD i default).sgs (g.cols.getD i default).sgs, okS s = true
  c : ∀ i j, i < f.cols.length → j < (f.cols.getD i default).ce.length → CelOk (C ((f.cols.getD i default).ce.getD j []) ((g.cols.getD i default).ce.getD j [])) (f.ins.cs.getD j default).f (f.cols.getD i default).tie
theorem cmb_lchk {S : List Sg → List Sg → List Sg} {C : List Int → List Int → List Int} {f g : Lf} (h : lchk f = 0) (hc : CmbOk S C f g) : lchk (cmbL S C f g) = 0 := by
  obtain ⟨h1, h2, h3⟩ := lchk_zero h
  have e1 : (cmbL S C f g).ins = f.ins := rfl
  rw [lchk, e1, cmbL_len, if_neg (by omega), if_neg (by omega), if_pos]
  intro i hi
  rw [cmbL_len] at hi
  rw [e1, cmbL_at S C f g hi]
  obtain ⟨c1, c2⟩ := h3 i hi
  obtain ⟨s1, s2, s3⟩ := hc.s i hi
  refine ⟨clm_of ?_ s1 s2 s3 fun j hj => ?_, c2⟩
  · show (ceK _ _ _ _).length = _
    rw [ceK_len, c1.len]
  · have hj2 : j < (f.cols.getD i default).ce.length := by
      have : j < (ceK C (f.cols.getD i default).ce (g.cols.getD i default).ce (f.cols.getD i default).ce.length).length := hj
      rwa [ceK_len] at this
    show CelOk ((ceK _ _ _ _).getD j []) _ _
    rw [ceK_at C _ _ hj2]
    exact hc.c i j hi hj2
theorem cmb_shp (S : List Sg → List Sg → List Sg) (C : List Int → List Int → List Int) (f g q : Lf) : shpB (cmbL S C f g) q = shpB f q := by
  rw [Bool.eq_iff_iff, shpB_iff, shpB_iff, cmbL_len]
  refine and_congr Iff.rfl (and_congr Iff.rfl (forall_congr' fun i => ?_))
  constructor
  · intro h hi
    have := h hi
    rw [cmbL_at S C f g hi] at this
    exact this
  · intro h hi
    rw [cmbL_at S C f g hi]
    exact h hi
theorem two_shp {f g : Lf} (h : shpB f g = true) (q : Lf) : shpB g q = shpB f q := by
  rw [shpB_iff] at h
  obtain ⟨h1, h2, h3⟩ := h
  rw [Bool.eq_iff_iff, shpB_iff, shpB_iff, h1, h2]
  refine and_congr Iff.rfl (and_congr Iff.rfl (forall_congr' fun i => ?_))
  constructor
  · intro h hi
    obtain ⟨a, b⟩ := h3 i (by omega)
    rw [a, b]
    exact h hi
  · intro h hi
    obtain ⟨a, b⟩ := h3 i (by omega)
    rw [← a, ← b]
    exact h hi
/-- The columns of a piece's leaf are not empty. -/
theorem lfO_rows {p : Pce} (ok : PcOk p) {i : Nat} (hi : i < (lfO p).cols.length) : ∃ s, s ∈ ((lfO p).cols.getD i default).sgs := by
  rw [colsO_len] at hi
  rw [cols_at hi]
  exact ⟨_, List.mem_singleton.2 rfl⟩
theorem lfO_cell {p : Pce} (ok : PcOk p) {i j : Nat} (hi : i < (lfO p).cols.length) (hj : j < ((lfO p).cols.getD i default).ce.length) : ∃ n, n ∈ ((lfO p).cols.getD i default).ce.getD j [] := by
  rw [colsO_len] at hi
  rw [cols_at hi] at hj ⊢
  have h1 := (clmO_ok ok hi).cel j hj
  exact ⟨_, getI_mem (risI_pos h1.ris)⟩
theorem both_read {f g : Lf} (hf : LfSm f) (hg : LfSm g) (h : twoE f g = 0) {p : Pce} (ok : PcOk p) :
    ((metR f g).2 = 102 ∧ (rb f p && rb g p) = false) ∨ ((metR f g).2 = 0 ∧ lchk (metR f g).1 = 0 ∧ rb (metR f g).1 p = (rb f p && rb g p)) := by
  have T := TwoRows.of hf hg h
  have K := TwoOk.of hf hg h
  obtain ⟨h1, h2, h3⟩ := twoE_zero h
  obtain ⟨q1, _, q3⟩ := lchk_zero h1
  -- what is read from both
  have hrd : (rb f p && rb g p) = (shpB f (lfO p) && insB (lfO p) (cmbL meetS meetI f g)) := by
    rw [rb, rb, two_shp h3]
    cases hs : shpB f (lfO p)
    · rfl
    rw [Bool.true_and, Bool.true_and, Bool.true_and]
    obtain ⟨s1, s2, s3⟩ := (shpB_iff _ _).1 hs
    rw [Bool.eq_iff_iff, Bool.and_eq_true, insB_iff, insB_iff, insB_iff]
    have hce : ∀ {i : Nat}, i < (lfO p).cols.length → ((lfO p).cols.getD i default).ce.length = (f.cols.getD i default).ce.length := fun {i} hi => by
      rw [lfO_ce hi, (q3 i (by omega)).1.len, s1]; rfl
    constructor
    · rintro ⟨a, b⟩ i hi
      have hif : i < f.cols.length := by omega
      rw [cmbL_at _ _ f g hif]
      refine ⟨fun x hx => ?_, fun j hj x hx => ?_⟩
      · show x ∈ meetS _ _
        rw [meetS, List.mem_filter, memS_iff]
        exact ⟨(a i hi).1 x hx, (b i hi).1 x hx⟩
      · show x ∈ (ceK _ _ _ _).getD j []
        rw [ceK_at _ _ _ (by rw [← hce hi]; exact hj), meetI, List.mem_filter, memI_iff]
        exact ⟨(a i hi).2 j hj x hx, (b i hi).2 j hj x hx⟩
    · intro c
      have c' : ∀ i, i < (lfO p).cols.length → (∀ x ∈ ((lfO p).cols.getD i default).sgs, x ∈ (f.cols.getD i default).sgs ∧ x ∈ (g.cols.getD i default).sgs) ∧ ∀ j, j < ((lfO p).cols.getD i default).ce.length → ∀ x ∈ ((lfO p).cols.getD i default).ce.getD j [], x ∈ (f.cols.getD i default).ce.getD j [] ∧ x ∈ (g.cols.getD i default).ce.getD j [] := by
        intro i hi
        have hif : i < f.cols.length := by omega
        have := c i hi
        rw [cmbL_at _ _ f g hif] at this
        refine ⟨fun x hx => ?_, fun j hj x hx => ?_⟩
        · have a : x ∈ meetS (f.cols.getD i default).sgs (g.cols.getD i default).sgs := this.1 x hx
          rw [meetS, List.mem_filter, memS_iff] at a
          exact a
        · have a : x ∈ (ceK meetI (f.cols.getD i default).ce (g.cols.getD i default).ce (f.cols.getD i default).ce.length).getD j [] := this.2 j hj x hx
          rw [ceK_at _ _ _ (by rw [← hce hi]; exact hj), meetI, List.mem_filter, memI_iff] at a
          exact a
      exact ⟨fun i hi => ⟨fun x hx => ((c' i hi).1 x hx).1, fun j hj x hx => ((c' i hi).2 j hj x hx).1⟩, fun i hi => ⟨fun x hx => ((c' i hi).1 x hx).2, fun j hj x hx => ((c' i hi).2 j hj x hx).2⟩⟩
  by_cases he : (cmbL meetS meetI f g).cols.any emC = true
  · left
    refine ⟨by rw [metR, if_neg (by omega), if_pos he], ?_⟩
    rw [hrd, Bool.eq_false_iff]
    intro hc
    rw [Bool.and_eq_true, shpB_iff, insB_iff] at hc
    obtain ⟨⟨s1, s2, s3⟩, hc⟩ := hc
    obtain ⟨c, hcm, hce⟩ := List.any_eq_true.1 he
    obtain ⟨i, hi, e⟩ := List.mem_iff_getElem.1 hcm
    have hi2 : i < f.cols.length := by rwa [cmbL_len] at hi
    have hip : i < (lfO p).cols.length := by omega
    have e2 : (cmbL meetS meetI f g).cols.getD i default = c := by rw [List.getD_eq_getElem?_getD, List.getElem?_eq_getElem hi]; exact e
    have hq := hc i hip
    rw [e2] at hq
    rw [emC, Bool.or_eq_true, decide_eq_true_iff] at hce
    rcases hce with h0 | h0
    · obtain ⟨s, hs⟩ := lfO_rows ok hip
      have := hq.1 s hs
      rw [List.length_eq_zero_iff.1 h0] at this
      cases this
    · obtain ⟨l, hl, hle⟩ := List.any_eq_true.1 h0
      obtain ⟨j, hj, e3⟩ := List.mem_iff_getElem.1 hl
      have e4 : c.ce.getD j [] = l := by rw [List.getD_eq_getElem?_getD, List.getElem?_eq_getElem hj]; exact e3
      have hcl : c.ce.length = (f.cols.getD i default).ce.length := by
        rw [← e2, cmbL_at _ _ f g hi2]
        show (ceK _ _ _ _).length = _
        rw [ceK_len]
      have hjp : j < ((lfO p).cols.getD i default).ce.length := by
        rw [lfO_ce hip]
        have := (q3 i hi2).1.len
        rw [s1] at this
        have t2 : (lfO p).ins.cs.length = p.ins.cs.length := rfl
        omega
      obtain ⟨n, hn⟩ := lfO_cell ok hip hjp
      have := hq.2 j hjp n hn
      rw [e4, List.length_eq_zero_iff.1 (of_decide_eq_true hle)] at this
      cases this
  · right
    have hm : metR f g = (cmbL meetS meetI f g, 0) := by rw [metR, if_neg (by omega), if_neg he]
    rw [hm]
    have hne : ∀ i, i < f.cols.length → emC (cmbC meetS meetI (f.cols.getD i default) (g.cols.getD i default)) = false := fun i hi => by
      have h9 : (cmbL meetS meetI f g).cols.any emC = false := by rw [Bool.eq_false_iff]; exact he
      rw [List.any_eq_false] at h9
      rw [← cmbL_at _ _ f g hi, Bool.eq_false_iff]
      refine h9 _ ?_
      rw [List.getD_eq_getElem?_getD, List.getElem?_eq_getElem (by rw [cmbL_len]; exact hi)]
      exact List.getElem_mem _
    refine ⟨rfl, cmb_lchk h1 ⟨fun i hi => ⟨(T.s1 i hi).1.filter _, ?_, fun s hs => (T.s1 i hi).2 s (List.mem_filter.1 hs).1⟩, fun i j hi hj => ?_⟩, ?_⟩
    · have := hne i hi
      rw [emC, Bool.or_eq_false_iff, decide_eq_false_iff_not] at this
      exact Nat.pos_of_ne_zero this.1
    · have := hne i hi
      rw [emC, Bool.or_eq_false_iff, List.any_eq_false] at this
      have h5 := this.2 (meetI ((f.cols.getD i default).ce.getD j []) ((g.cols.getD i default).ce.getD j [])) (List.mem_map.2 ⟨j, List.mem_range.2 hj, rfl⟩)
      refine cel_of ((T.c1 i j hi hj).1.filter _) ?_ fun n hn => celT ((q3 i hi).1.cel j hj) n (List.mem_filter.1 hn).1
      rw [emI, decide_eq_true_iff] at h5
      exact Nat.pos_of_ne_zero h5
    · show (shpB (cmbL meetS meetI f g) (lfO p) && insB (lfO p) (cmbL meetS meetI f g)) = _
      rw [cmb_shp, hrd]
theorem mxS_srt (b : Bool) (xs ys : List Sg) : (mxS b xs ys).Pairwise (fun a b => keyS a < keyS b) ∧ ∀ s ∈ mxS b xs ys, okS s = true := ⟨mS_srt _, fun s hs => ((mem_mS _ s).1 hs).1⟩
theorem join_read {f g : Lf} (hf : LfSm f) (hg : LfSm g) (h : twoE f g = 0) {p : Pce} (ok : PcOk p) :
    lchk (cmbL (mxS false) (mxI false) f g) = 0 ∧ ((rb f p || rb g p) = true → rb (cmbL (mxS false) (mxI false) f g) p = true) := by
  have T := TwoRows.of hf hg h
  have K := TwoOk.of hf hg h
  obtain ⟨h1, h2, h3⟩ := twoE_zero h
  obtain ⟨q1, _, q3⟩ := lchk_zero h1
  obtain ⟨q4, _, q6⟩ := lchk_zero h2
  obtain ⟨t1, t2, t3⟩ := (shpB_iff _ _).1 h3
  have memS0 : ∀ {xs ys : List Sg} {s : Sg}, okS s = true → (s ∈ xs ∨ s ∈ ys) → s ∈ mxS false xs ys := fun {xs ys s} ho hs => by
    rw [mxS, mem_mS, pBo, Bool.not_false, Bool.true_and]
    refine ⟨ho, ?_⟩
    rcases hs with hs | hs
    · rw [(memS_iff xs s).2 hs]; cases memS ys s <;> rfl
    · rw [(memS_iff ys s).2 hs]; cases memS xs s <;> rfl
  have memI0 : ∀ {xs ys : List Int} {s : Int}, -1 ≤ s ∧ s ≤ 18 → (s ∈ xs ∨ s ∈ ys) → s ∈ mxI false xs ys := fun {xs ys s} ho hs => by
    rw [mxI, mem_mI, pBo, Bool.not_false, Bool.true_and]
    refine ⟨ho, ?_⟩
    rcases hs with hs | hs
    · rw [(memI_iff xs s).2 hs]; cases memI ys s <;> rfl
    · rw [(memI_iff ys s).2 hs]; cases memI xs s <;> rfl
  have ofI : ∀ {xs ys : List Int} {s : Int}, s ∈ mxI false xs ys → s ∈ xs ∨ s ∈ ys := fun {xs ys s} hs => by
    rw [mxI, mem_mI, pBo, Bool.not_false, Bool.true_and] at hs
    have := hs.2
    rw [← memI_iff, ← memI_iff]
    revert this
    cases memI xs s <;> cases memI ys s <;> simp
  constructor
  · refine cmb_lchk h1 ⟨fun i hi => ⟨(mxS_srt _ _ _).1, ?_, (mxS_srt _ _ _).2⟩, fun i j hi hj => ?_⟩
    · have h0 := (T.n1 i hi).1
      have hm : (f.cols.getD i default).sgs[0] ∈ (f.cols.getD i default).sgs := List.getElem_mem h0
      exact List.length_pos_of_mem (memS0 (ys := (g.cols.getD i default).sgs) ((T.s1 i hi).2 _ hm) (.inl hm))
    · have hig : i < g.cols.length := by omega
      have hjg : j < (g.cols.getD i default).ce.length := by have := (K.l i hi).2; omega
      have h0 := (T.n2 i j hi hj).1
      have hm : ((f.cols.getD i default).ce.getD j [])[0] ∈ (f.cols.getD i default).ce.getD j [] := List.getElem_mem h0
      refine cel_of (by rw [mxI, mI]; exact okI_srt.filter _) (List.length_pos_of_mem (memI0 (ys := (g.cols.getD i default).ce.getD j []) ((T.c1 i j hi hj).2 _ hm) (.inl hm))) fun n hn => ?_
      rcases ofI hn with hn | hn
      · exact celT ((q3 i hi).1.cel j hj) n hn
      · have a := celT ((q6 i hig).1.cel j hjg) n hn
        rw [t1, (t3 i hi).2]
        exact a
  · intro hr
    rw [Bool.or_eq_true] at hr
    have hs : shpB f (lfO p) = true := by
      rcases hr with hr | hr
      · rw [rb, Bool.and_eq_true] at hr; exact hr.1
      · rw [rb, two_shp h3, Bool.and_eq_true] at hr; exact hr.1
    show (shpB (cmbL _ _ f g) (lfO p) && insB (lfO p) (cmbL _ _ f g)) = true
    rw [cmb_shp, hs, Bool.true_and, insB_iff]
    obtain ⟨s1, s2, s3⟩ := (shpB_iff _ _).1 hs
    intro i hi
    have hif : i < f.cols.length := by omega
    have hce : ((lfO p).cols.getD i default).ce.length = (f.cols.getD i default).ce.length := by
      rw [lfO_ce hi, (q3 i hif).1.len, s1]; rfl
    have hq : (∀ x ∈ ((lfO p).cols.getD i default).sgs, x ∈ (f.cols.getD i default).sgs ∨ x ∈ (g.cols.getD i default).sgs) ∧ ∀ j, j < ((lfO p).cols.getD i default).ce.length → ∀ x ∈ ((lfO p).cols.getD i default).ce.getD j [], x ∈ (f.cols.getD i default).ce.getD j [] ∨ x ∈ (g.cols.getD i default).ce.getD j [] := by
      rcases hr with hr | hr
      · rw [rb, Bool.and_eq_true, insB_iff] at hr
        have := hr.2 i hi
        exact ⟨fun x hx => .inl (this.1 x hx), fun j hj x hx => .inl (this.2 j hj x hx)⟩
      · rw [rb, Bool.and_eq_true, insB_iff] at hr
        have := hr.2 i hi
        exact ⟨fun x hx => .inr (this.1 x hx), fun j hj x hx => .inr (this.2 j hj x hx)⟩
    rw [cmbL_at _ _ f g hif]
    refine ⟨fun x hx => ?_, fun j hj x hx => ?_⟩
    · show x ∈ mxS false _ _
      have a := hq.1 x hx
      exact memS0 (by rcases a with a | a; exact (T.s1 i hif).2 x a; exact (T.s2 i hif).2 x a) a
    · show x ∈ (ceK _ _ _ _).getD j []
      have hjf : j < (f.cols.getD i default).ce.length := by rw [← hce]; exact hj
      rw [ceK_at _ _ _ hjf]
      have a := hq.2 j hj x hx
      exact memI0 (by rcases a with a | a; exact (T.c1 i j hif hjf).2 x a; exact (T.c2 i j hif hjf).2 x a) a
/-- The plain law. -/
theorem both_plain {f g : Lf} (hf : LfSm f) (hg : LfSm g) {p : Pce} (h : twoE f g = 0) (hp : chkP p = 0) :
    ∃ z, rdsR (joiR (mxS false) (mxI false) f g).1 p = (z, 0) ∧ ((rb f p || rb g p) = true → z = true) ∧ (((metR f g).2 = 102 ∧ (rb f p && rb g p) = false) ∨ ((metR f g).2 = 0 ∧ rdsR (metR f g).1 p = (rb f p && rb g p, 0))) := by
  have ok := PcOk.of hp
  have hj : (joiR (mxS false) (mxI false) f g).1 = cmbL (mxS false) (mxI false) f g := by rw [joiR, if_neg (by omega)]
  obtain ⟨a, b⟩ := join_read hf hg h ok
  refine ⟨rb (cmbL (mxS false) (mxI false) f g) p, ?_, b, ?_⟩
  · rw [hj, rdsR_ok a hp]
  · rcases both_read hf hg h ok with c | ⟨c, d, e⟩
    · exact .inl c
    · exact .inr ⟨c, by rw [rdsR_ok d hp, e]⟩
end Go.Proofs.YtdefefeifcdogaaGreat
namespace Go.Proofs.YtdefefeifcdogaaGreat
open Go.Shelf Go.RowKit

/-- An append where there is room. -/
theorem wpList_room {P : Program} (w : World) {ops : Array Oper} {rest : List Oper} {o : Oper} {a : Act} {Q : Exit → Act → World → Prop}
    (hg : o.guard = none) (s x : Operand) (t : TypeId) (hop : o.op = Op.call { callee := Callee.builtin Builtin.append, args := #[s, x], argTypes := #[t, t] })
    (e : TypeId) (i : TypeInfo) (size : Nat) (h1 : P.underlying t = some (.slice e)) (h2 : P.info? e = some i) (h4 : i.size = size)
    (b off n cap : Nat) (hs : a.eval s = .slice (some ⟨b, off, none⟩) n cap)
    (ad : Addr) (m c : Nat) (news : List Value) (hx : a.eval x = .slice (some ad) m c) (hn : news.length = m * size) (hc : ∀ j u, news[j]? = some u → w.cell? (ad.add j) = some u) (h1c : ∀ u ∈ news, u.oneCell' = true)
    (hr : n + m ≤ cap) (hspare : ∀ j, j < news.length → (w.cell? ⟨b, off + n * size + j, none⟩).isSome = true ∧ w.frozen? ⟨b, off + n * size + j, none⟩ = false)
    (hroom : wpList P ops Q rest (a.put o.dst (.slice (some ⟨b, off, none⟩) (n + m) cap)) (w.setCells b (off + n * size) news)) :
    wpList P ops Q (o :: rest) a w := by
  refine wpList_plain hg fun K hK' => ?_
  subst h4
  have hrun := run_append_room_cells (P := P) w t o.type e i h1 h2 b off n cap ad m c news hn hc h1c hr (fun j hj => (hspare j hj).1) (fun j hj => (hspare j hj).2)
  unfold Oper.wp
  simp [execOp, hop, resolve, invoke, builtin, hs, hx, hrun, Result.andThen]
  exact hK' _ _ hroom
theorem frozen_of_row {w : World} {b : Nat} {c : Array Value} {t : TypeId} (h : w.heap[b]? = some (.cells c t (0, 0))) (o : Nat) : w.frozen? ⟨b, o, none⟩ = false := by simp [World.frozen?, h]
def lGrowS_ren : Go.Shelf.Ren := ⟨fun | 4 => 223 | n => n, fun | 22 => 81 | 25 => 110 | n => n, fun | n => n⟩
theorem lGrowS : Go.Proofs.Lays8.n4 Tryz.prog lGrowS_ren := {
  mixed := by kernel_rfl
  f4 := ⟨Tryz.f223.name, by decide, Tryz.func223.trans (congrArg some (by kernel_rfl))⟩
  t0 := Tryz.underlying0
  a0 := Tryz.isAgg0
  z0 := Tryz.sizeOf0
  v0 := Tryz.zeroValue0
  t3 := Tryz.underlying3
  a3 := Tryz.isAgg3
  z3 := Tryz.sizeOf3
  v3 := Tryz.zeroValue3
  t4 := Tryz.underlying4
  a4 := Tryz.isAgg4
  z4 := Tryz.sizeOf4
  v4 := Tryz.zeroValue4
  t9 := Tryz.underlying9
  a9 := Tryz.isAgg9
  z9 := Tryz.sizeOf9
  v9 := Tryz.zeroValue9
  t20 := Tryz.underlying20
  a20 := Tryz.isAgg20
  z20 := Tryz.sizeOf20
  v20 := Tryz.zeroValue20
  t22 := Tryz.underlying81
  a22 := Tryz.isAgg81
  z22 := Tryz.sizeOf81
  v22 := Tryz.zeroValue81 }
set_option maxRecDepth 100000 in
set_option maxHeartbeats 4000000 in
theorem concatS_any (w : World) (b o cap : Nat) (a1 a2 : Addr) (n1 c1 n2 c2 : Nat) (xs ys : List Value) (h0 : w.cell? ⟨b, o, none⟩ = some (.slice (some a1) n1 c1)) (h1 : w.cell? ⟨b, o + 1, none⟩ = some (.slice (some a2) n2 c2))
    (p1 : 0 < n1) (p2 : 0 < n2) (q1 : n1 ≤ 1000) (q2 : n2 ≤ 1000) (l1 : xs.length = n1 * 3) (l2 : ys.length = n2 * 3) (hx : ∀ (j : Nat) (u : Value), xs[j]? = some u → w.cell? (a1.add j) = some u) (hy : ∀ (j : Nat) (u : Value), ys[j]? = some u → w.cell? (a2.add j) = some u)
    (ox : ∀ u ∈ xs, u.oneCell' = true) (oy : ∀ u ∈ ys, u.oneCell' = true) :
    Calls Tryz.prog 175 #[.slice (some ⟨b, o, none⟩) 2 cap] w fun e w' => ∃ (g cap' : Nat) (cur : Array Value), e = .returned (.slice (some ⟨g, 0, none⟩) (n1 + n2) cap') ∧ w.heap.size ≤ g ∧ n1 + n2 ≤ cap' ∧ Below w.heap.size w w' ∧ w.drawn ≤ w'.drawn ∧ w'.heap[g]? = some (.cells cur 110 (0, 0)) ∧ cur.toList.take ((n1 + n2) * 3) = xs ++ ys := by
  obtain ⟨ti, hi, hz, hs1, hby⟩ := info_parts (P := Tryz.prog) (e := 110) (z := (Value.agg #[.int .i64 0, .bool false, .bool false])) (size := 3) (bytes := 16) (by kernel_rfl)
  -- the new row
  have hgc : n1 + n2 ≤ grownCap w (n1 + n2) 0 110 := grownCap_ge _ _ _ _
  have hG := Any8.slices_Grow_grow lGrowS ti (Value.agg #[.int .i64 0, .bool false, .bool false]) hi hz (by rw [hs1]; decide) none 0 0 (n1 + n2) [] w (Nat.le_refl _) (by omega) (by rw [hby]; omega) (by omega) (by simp) (fun _ => rfl) (fun a h => by cases h)
  rw [Nat.zero_add, Nat.sub_zero] at hG
  have hcsz : (#[] ++ Builtin.zeroCells ((Value.agg #[.int .i64 0, .bool false, .bool false])).cells (n1 + n2) ++ Builtin.zeroCells ((Value.agg #[.int .i64 0, .bool false, .bool false])).cells (grownCap w (n1 + n2) 0 110 - (n1 + n2))).size = grownCap w (n1 + n2) 0 110 * 3 := by
    rw [Array.size_append, Array.size_append, size_zeroCells, size_zeroCells]
    show 0 + (n1 + n2) * 3 + (grownCap w (n1 + n2) 0 110 - (n1 + n2)) * 3 = _
    omega
  change Calls Tryz.prog 223 #[.slice none 0 0, .int .i64 ((n1 + n2 : Nat) : Int)] w (fun e w' => e = .returned (.slice (some ⟨w.heap.size, 0, none⟩) 0 (grownCap w (n1 + n2) 0 110)) ∧ w' = w.drew.alloc (.cells (#[] ++ Builtin.zeroCells ((Value.agg #[.int .i64 0, .bool false, .bool false])).cells (n1 + n2) ++ Builtin.zeroCells ((Value.agg #[.int .i64 0, .bool false, .bool false])).cells (grownCap w (n1 + n2) 0 110 - (n1 + n2))) 110)) at hG
  generalize grownCap w (n1 + n2) 0 110 = gc at *
  generalize (#[] ++ Builtin.zeroCells ((Value.agg #[.int .i64 0, .bool false, .bool false])).cells (n1 + n2) ++ Builtin.zeroCells ((Value.agg #[.int .i64 0, .bool false, .bool false])).cells (gc - (n1 + n2))) = row at *
  have hW1 : ∀ k, k < w.heap.size → (w.drew.alloc (.cells row 110)).heap[k]? = w.heap[k]? := fun k hk => Below.heap_alloc w.drew _ k hk
  have hW1g : (w.drew.alloc (.cells row 110)).heap[w.heap.size]? = some (.cells row 110 (0, 0)) := by
    show (w.heap.push _)[w.heap.size]? = _
    rw [Array.getElem?_push, if_pos rfl]
  have hB1 : Below w.heap.size w (w.drew.alloc (.cells row 110)) := ⟨rfl, rfl, rfl, by simp, hW1⟩
  have hD1 : w.drawn ≤ (w.drew.alloc (.cells row 110)).drawn := Nat.le_succ _
  generalize (w.drew.alloc (.cells row 110)) = W1 at *
  -- the first row is laid
  obtain ⟨hS1, r1, hr1, hrl1⟩ := setCells_spec w.heap.size xs 0 W1 row 110 (0, 0) hW1g (by rw [l1, hcsz]; omega)
  have hr1s : r1.size = gc * 3 := by
    have := congrArg List.length hrl1
    simp only [List.length_append, List.length_take, List.length_drop, Array.length_toList] at this
    rw [l1, hcsz] at this
    omega
  obtain ⟨hS2, r2, hr2, hrl2⟩ := setCells_spec w.heap.size ys (n1 * 3) (W1.setCells w.heap.size 0 xs) r1 110 (0, 0) hr1 (by rw [l2, hr1s]; omega)
  have hlt : ∀ {a : Addr} {v : Value}, w.cell? a = some v → a.block < w.heap.size := fun {a v} h => by
    rcases Nat.lt_or_ge a.block w.heap.size with h1 | h1
    · exact h1
    · simp [World.cell?, Array.getElem?_eq_none h1] at h
  have keep : ∀ (W : World), (∀ k, k < w.heap.size → W.heap[k]? = w.heap[k]?) → ∀ (a : Addr) (v : Value), w.cell? a = some v → W.cell? a = some v := fun W hW a v h => by
    rw [World.cell?_of_block (w := w) (hW _ (hlt h))]; exact h
  have hW2 : ∀ k, k < w.heap.size → (W1.setCells w.heap.size 0 xs).heap[k]? = w.heap[k]? := fun k hk => (hS1.block k (by omega)).trans (hW1 k hk)
  have hW3 : ∀ k, k < w.heap.size → ((W1.setCells w.heap.size 0 xs).setCells w.heap.size (n1 * 3) ys).heap[k]? = w.heap[k]? := fun k hk => (hS2.block k (by omega)).trans (hW2 k hk)
  have fin : ∃ (g cap' : Nat) (cur : Array Value), (Ending.returned (.slice (some ⟨w.heap.size, 0, none⟩) (n1 + n2) gc)) = .returned (.slice (some ⟨g, 0, none⟩) (n1 + n2) cap') ∧ w.heap.size ≤ g ∧ n1 + n2 ≤ cap' ∧ Below w.heap.size w ((W1.setCells w.heap.size 0 xs).setCells w.heap.size (n1 * 3) ys) ∧ w.drawn ≤ ((W1.setCells w.heap.size 0 xs).setCells w.heap.size (n1 * 3) ys).drawn ∧ ((W1.setCells w.heap.size 0 xs).setCells w.heap.size (n1 * 3) ys).heap[g]? = some (.cells cur 110 (0, 0)) ∧ cur.toList.take ((n1 + n2) * 3) = xs ++ ys := by
    refine ⟨w.heap.size, gc, r2, rfl, Nat.le_refl _, hgc, ⟨hS2.os.trans (hS1.os.trans hB1.os), hS2.tape.trans (hS1.tape.trans hB1.tape), hS2.output.trans (hS1.output.trans hB1.output), by rw [hS2.size, hS1.size]; exact hB1.size, hW3⟩, Nat.le_trans hD1 (Nat.le_trans hS1.drawn hS2.drawn), hr2, ?_⟩
    have e1 : r1.toList.take (n1 * 3) = xs := by
      rw [hrl1, List.take_zero, List.nil_append, ← l1, List.take_left' rfl]
    rw [hrl2, e1]
    have e2 : (n1 + n2) * 3 = (xs ++ ys).length := by rw [List.length_append, l1, l2]; omega
    rw [e2, List.take_left' rfl]
  have a1c := keep _ hW1 _ _ h0
  have a2c := keep _ hW2 _ _ h1
  have xc := fun j u hj => keep _ hW1 _ _ (hx j u hj)
  have yc := fun j u hj => keep _ hW2 _ _ (hy j u hj)
  have sp1 : ∀ j, j < xs.length → (W1.cell? ⟨w.heap.size, 0 + 0 * 3 + j, none⟩).isSome = true ∧ W1.frozen? ⟨w.heap.size, 0 + 0 * 3 + j, none⟩ = false := fun j hj => by
    refine ⟨?_, frozen_of_row hW1g _⟩
    rw [cell_of_row W1 w.heap.size _ row 110 (0, 0) hW1g]
    simp
    omega
  have sp2 : ∀ j, j < ys.length → ((W1.setCells w.heap.size 0 xs).cell? ⟨w.heap.size, 0 + n1 * 3 + j, none⟩).isSome = true ∧ (W1.setCells w.heap.size 0 xs).frozen? ⟨w.heap.size, 0 + n1 * 3 + j, none⟩ = false := fun j hj => by
    refine ⟨?_, frozen_of_row hr1 _⟩
    rw [cell_of_row _ w.heap.size _ r1 110 (0, 0) hr1]
    simp
    omega
  have e0 : ∀ i : Nat, (⟨b, o, none⟩ : Addr).add i = ⟨b, o + i, none⟩ := fun i => by simp [Addr.add]
  replace fin := Lib.hid fin
  replace hG := Lib.hid hG
  replace sp1 := Lib.hid sp1
  replace sp2 := Lib.hid sp2
  replace xc := Lib.hid xc
  replace yc := Lib.hid yc
  replace ox := Lib.hid ox
  replace oy := Lib.hid oy
  replace l1 := Lib.hid l1
  replace l2 := Lib.hid l2
  replace hi := Lib.hid hi
  replace hs1 := Lib.hid hs1
  replace hgc := Lib.hid hgc
  clear hz hby hcsz hx hy hW1 hW1g hB1 hD1 hS1 hr1 hrl1 hr1s hS2 hr2 hrl2 hW2 hW3 hlt
  go_enter Tryz.func175, Tryz.ntmps175
  have x0 : IntKind.i64.wrap ((0 : Int) + (n1 : Int)) = (n1 : Int) := by rw [IntWalk.i64_in _ (by omega)]; omega
  have x1 : IntKind.i64.wrap ((n1 : Int) + (n2 : Int)) = ((n1 + n2 : Nat) : Int) := by rw [IntWalk.i64_in _ (by omega)]; omega
  have y0 : ¬ ((n1 : Int) < 0) := by omega
  have y1 : ¬ (((n1 + n2 : Nat) : Int) < 0) := by omega
  go_wp2
  go_loopg [3, 11] 2 (fun g s i wr => ∃ k : Nat, k ≤ 2 ∧ 2 - k ≤ g ∧ i = .int .i64 (k : Int) ∧ s = .int .i64 ((if k = 0 then 0 else if k = 1 then n1 else n1 + n2 : Nat) : Int) ∧ wr = w)
  case atStart => exact ⟨0, by omega, by omega, rfl, rfl, rfl⟩
  case round =>
    obtain ⟨k, hk, hg, rfl, rfl, rfl⟩ := hrel
    have hk3 : k = 0 ∨ k = 1 ∨ k = 2 := by omega
    rcases hk3 with rfl | rfl | rfl
    · go_wp2
      go_roundg 1
      case measure => omega
      case rel => exact ⟨1, by omega, by omega, by go_num, by go_num, rfl⟩
    · go_wp2
      go_roundg 0
      case measure => omega
      case rel => exact ⟨2, by omega, by omega, by go_num, by go_num, rfl⟩
    · go_wp2_with (go_at_call 223; refine hG.out.mono ?_; rintro e w' ⟨rfl, rfl⟩)
      generalize hB0 : wr.heap.size = B0 at *
      go_loopg [6, 27] 2 (fun g s i W => ∃ k : Nat, k ≤ 2 ∧ 2 - k ≤ g ∧ i = .int .i64 (k : Int) ∧ s = .slice (some ⟨B0, 0, none⟩) (if k = 0 then 0 else if k = 1 then n1 else n1 + n2) gc ∧ W = (if k = 0 then w' else if k = 1 then w'.setCells B0 0 xs else (w'.setCells B0 0 xs).setCells B0 (n1 * 3) ys))
      case atStart => exact ⟨0, by omega, by omega, rfl, rfl, rfl⟩
      case round =>
        obtain ⟨k, hk, hg, rfl, rfl, hW⟩ := hrel
        have hk3 : k = 0 ∨ k = 1 ∨ k = 2 := by omega
        rcases hk3 with rfl | rfl | rfl
        · replace hW : _ = w' := hW
          subst hW
          go_wp2_with (at_builtin; refine wpList_room _ rfl _ _ 81 rfl 110 ti 3 Tryz.underlying81 hi.out hs1.out B0 0 0 gc rfl a1 n1 c1 xs rfl l1.out xc.out ox.out (by have := hgc.out; omega) sp1.out ?_)
          go_roundg 1
          case measure => omega
          case rel => exact ⟨1, by omega, by omega, by go_num, by go_num, by go_num⟩
        · replace hW : _ = w'.setCells B0 0 xs := hW
          subst hW
          go_wp2_with (at_builtin; refine wpList_room _ rfl _ _ 81 rfl 110 ti 3 Tryz.underlying81 hi.out hs1.out B0 0 n1 gc rfl a2 n2 c2 ys rfl l2.out yc.out oy.out (by have := hgc.out; omega) sp2.out ?_)
          go_roundg 0
          case measure => omega
          case rel => exact ⟨2, by omega, by omega, by go_num, by go_num, by go_num⟩
        · replace hW : _ = (w'.setCells B0 0 xs).setCells B0 (n1 * 3) ys := hW
          subst hW
          go_wp2
          go_ret
          have hf := fin.out
          rw [← hB0] at hf
          rw [← hB0]
          exact hf

def lGrowI_ren : Go.Shelf.Ren := ⟨fun | 4 => 226 | n => n, fun | 22 => 23 | 25 => 3 | n => n, fun | n => n⟩
theorem lGrowI : Go.Proofs.Lays8.n4 Tryz.prog lGrowI_ren := {
  mixed := by kernel_rfl
  f4 := ⟨Tryz.f226.name, by decide, Tryz.func226.trans (congrArg some (by kernel_rfl))⟩
  t0 := Tryz.underlying0
  a0 := Tryz.isAgg0
  z0 := Tryz.sizeOf0
  v0 := Tryz.zeroValue0
  t3 := Tryz.underlying3
  a3 := Tryz.isAgg3
  z3 := Tryz.sizeOf3
  v3 := Tryz.zeroValue3
  t4 := Tryz.underlying4
  a4 := Tryz.isAgg4
  z4 := Tryz.sizeOf4
  v4 := Tryz.zeroValue4
  t9 := Tryz.underlying9
  a9 := Tryz.isAgg9
  z9 := Tryz.sizeOf9
  v9 := Tryz.zeroValue9
  t20 := Tryz.underlying20
  a20 := Tryz.isAgg20
  z20 := Tryz.sizeOf20
  v20 := Tryz.zeroValue20
  t22 := Tryz.underlying23
  a22 := Tryz.isAgg23
  z22 := Tryz.sizeOf23
  v22 := Tryz.zeroValue23 }
set_option maxRecDepth 100000 in
set_option maxHeartbeats 4000000 in
theorem concatI_any (w : World) (b o cap : Nat) (a1 a2 : Addr) (n1 c1 n2 c2 : Nat) (xs ys : List Value) (h0 : w.cell? ⟨b, o, none⟩ = some (.slice (some a1) n1 c1)) (h1 : w.cell? ⟨b, o + 1, none⟩ = some (.slice (some a2) n2 c2))
    (p1 : 0 < n1) (p2 : 0 < n2) (q1 : n1 ≤ 1000) (q2 : n2 ≤ 1000) (l1 : xs.length = n1 * 1) (l2 : ys.length = n2 * 1) (hx : ∀ (j : Nat) (u : Value), xs[j]? = some u → w.cell? (a1.add j) = some u) (hy : ∀ (j : Nat) (u : Value), ys[j]? = some u → w.cell? (a2.add j) = some u)
    (ox : ∀ u ∈ xs, u.oneCell' = true) (oy : ∀ u ∈ ys, u.oneCell' = true) :
    Calls Tryz.prog 179 #[.slice (some ⟨b, o, none⟩) 2 cap] w fun e w' => ∃ (g cap' : Nat) (cur : Array Value), e = .returned (.slice (some ⟨g, 0, none⟩) (n1 + n2) cap') ∧ w.heap.size ≤ g ∧ n1 + n2 ≤ cap' ∧ Below w.heap.size w w' ∧ w.drawn ≤ w'.drawn ∧ w'.heap[g]? = some (.cells cur 3 (0, 0)) ∧ cur.toList.take ((n1 + n2) * 1) = xs ++ ys := by
  obtain ⟨ti, hi, hz, hs1, hby⟩ := info_parts (P := Tryz.prog) (e := 3) (z := (Value.int .i64 0)) (size := 1) (bytes := 8) (by kernel_rfl)
  -- the new row
  have hgc : n1 + n2 ≤ grownCap w (n1 + n2) 0 3 := grownCap_ge _ _ _ _
  have hG := Any8.slices_Grow_grow lGrowI ti (Value.int .i64 0) hi hz (by rw [hs1]; decide) none 0 0 (n1 + n2) [] w (Nat.le_refl _) (by omega) (by rw [hby]; omega) (by omega) (by simp) (fun _ => rfl) (fun a h => by cases h)
  rw [Nat.zero_add, Nat.sub_zero] at hG
  have hcsz : (#[] ++ Builtin.zeroCells ((Value.int .i64 0)).cells (n1 + n2) ++ Builtin.zeroCells ((Value.int .i64 0)).cells (grownCap w (n1 + n2) 0 3 - (n1 + n2))).size = grownCap w (n1 + n2) 0 3 * 1 := by
    rw [Array.size_append, Array.size_append, size_zeroCells, size_zeroCells]
    show 0 + (n1 + n2) * 1 + (grownCap w (n1 + n2) 0 3 - (n1 + n2)) * 1 = _
    omega
  change Calls Tryz.prog 226 #[.slice none 0 0, .int .i64 ((n1 + n2 : Nat) : Int)] w (fun e w' => e = .returned (.slice (some ⟨w.heap.size, 0, none⟩) 0 (grownCap w (n1 + n2) 0 3)) ∧ w' = w.drew.alloc (.cells (#[] ++ Builtin.zeroCells ((Value.int .i64 0)).cells (n1 + n2) ++ Builtin.zeroCells ((Value.int .i64 0)).cells (grownCap w (n1 + n2) 0 3 - (n1 + n2))) 3)) at hG
  generalize grownCap w (n1 + n2) 0 3 = gc at *
  generalize (#[] ++ Builtin.zeroCells ((Value.int .i64 0)).cells (n1 + n2) ++ Builtin.zeroCells ((Value.int .i64 0)).cells (gc - (n1 + n2))) = row at *
  have hW1 : ∀ k, k < w.heap.size → (w.drew.alloc (.cells row 3)).heap[k]? = w.heap[k]? := fun k hk => Below.heap_alloc w.drew _ k hk
  have hW1g : (w.drew.alloc (.cells row 3)).heap[w.heap.size]? = some (.cells row 3 (0, 0)) := by
    show (w.heap.push _)[w.heap.size]? = _
    rw [Array.getElem?_push, if_pos rfl]
  have hB1 : Below w.heap.size w (w.drew.alloc (.cells row 3)) := ⟨rfl, rfl, rfl, by simp, hW1⟩
  have hD1 : w.drawn ≤ (w.drew.alloc (.cells row 3)).drawn := Nat.le_succ _
  generalize (w.drew.alloc (.cells row 3)) = W1 at *
  -- the first row is laid
  obtain ⟨hS1, r1, hr1, hrl1⟩ := setCells_spec w.heap.size xs 0 W1 row 3 (0, 0) hW1g (by rw [l1, hcsz]; omega)
  have hr1s : r1.size = gc * 1 := by
    have := congrArg List.length hrl1
    simp only [List.length_append, List.length_take, List.length_drop, Array.length_toList] at this
    rw [l1, hcsz] at this
    omega
  obtain ⟨hS2, r2, hr2, hrl2⟩ := setCells_spec w.heap.size ys (n1 * 1) (W1.setCells w.heap.size 0 xs) r1 3 (0, 0) hr1 (by rw [l2, hr1s]; omega)
  have hlt : ∀ {a : Addr} {v : Value}, w.cell? a = some v → a.block < w.heap.size := fun {a v} h => by
    rcases Nat.lt_or_ge a.block w.heap.size with h1 | h1
    · exact h1
    · simp [World.cell?, Array.getElem?_eq_none h1] at h
  have keep : ∀ (W : World), (∀ k, k < w.heap.size → W.heap[k]? = w.heap[k]?) → ∀ (a : Addr) (v : Value), w.cell? a = some v → W.cell? a = some v := fun W hW a v h => by
    rw [World.cell?_of_block (w := w) (hW _ (hlt h))]; exact h
  have hW2 : ∀ k, k < w.heap.size → (W1.setCells w.heap.size 0 xs).heap[k]? = w.heap[k]? := fun k hk => (hS1.block k (by omega)).trans (hW1 k hk)
  have hW3 : ∀ k, k < w.heap.size → ((W1.setCells w.heap.size 0 xs).setCells w.heap.size (n1 * 1) ys).heap[k]? = w.heap[k]? := fun k hk => (hS2.block k (by omega)).trans (hW2 k hk)
  have fin : ∃ (g cap' : Nat) (cur : Array Value), (Ending.returned (.slice (some ⟨w.heap.size, 0, none⟩) (n1 + n2) gc)) = .returned (.slice (some ⟨g, 0, none⟩) (n1 + n2) cap') ∧ w.heap.size ≤ g ∧ n1 + n2 ≤ cap' ∧ Below w.heap.size w ((W1.setCells w.heap.size 0 xs).setCells w.heap.size (n1 * 1) ys) ∧ w.drawn ≤ ((W1.setCells w.heap.size 0 xs).setCells w.heap.size (n1 * 1) ys).drawn ∧ ((W1.setCells w.heap.size 0 xs).setCells w.heap.size (n1 * 1) ys).heap[g]? = some (.cells cur 3 (0, 0)) ∧ cur.toList.take ((n1 + n2) * 1) = xs ++ ys := by
    refine ⟨w.heap.size, gc, r2, rfl, Nat.le_refl _, hgc, ⟨hS2.os.trans (hS1.os.trans hB1.os), hS2.tape.trans (hS1.tape.trans hB1.tape), hS2.output.trans (hS1.output.trans hB1.output), by rw [hS2.size, hS1.size]; exact hB1.size, hW3⟩, Nat.le_trans hD1 (Nat.le_trans hS1.drawn hS2.drawn), hr2, ?_⟩
    have e1 : r1.toList.take (n1 * 1) = xs := by
      rw [hrl1, List.take_zero, List.nil_append, ← l1, List.take_left' rfl]
    rw [hrl2, e1]
    have e2 : (n1 + n2) * 1 = (xs ++ ys).length := by rw [List.length_append, l1, l2]; omega
    rw [e2, List.take_left' rfl]
  have a1c := keep _ hW1 _ _ h0
  have a2c := keep _ hW2 _ _ h1
  have xc := fun j u hj => keep _ hW1 _ _ (hx j u hj)
  have yc := fun j u hj => keep _ hW2 _ _ (hy j u hj)
  have sp1 : ∀ j, j < xs.length → (W1.cell? ⟨w.heap.size, 0 + 0 * 1 + j, none⟩).isSome = true ∧ W1.frozen? ⟨w.heap.size, 0 + 0 * 1 + j, none⟩ = false := fun j hj => by
    refine ⟨?_, frozen_of_row hW1g _⟩
    rw [cell_of_row W1 w.heap.size _ row 3 (0, 0) hW1g]
    simp
    omega
  have sp2 : ∀ j, j < ys.length → ((W1.setCells w.heap.size 0 xs).cell? ⟨w.heap.size, 0 + n1 * 1 + j, none⟩).isSome = true ∧ (W1.setCells w.heap.size 0 xs).frozen? ⟨w.heap.size, 0 + n1 * 1 + j, none⟩ = false := fun j hj => by
    refine ⟨?_, frozen_of_row hr1 _⟩
    rw [cell_of_row _ w.heap.size _ r1 3 (0, 0) hr1]
    simp
    omega
  have e0 : ∀ i : Nat, (⟨b, o, none⟩ : Addr).add i = ⟨b, o + i, none⟩ := fun i => by simp [Addr.add]
  replace fin := Lib.hid fin
  replace hG := Lib.hid hG
  replace sp1 := Lib.hid sp1
  replace sp2 := Lib.hid sp2
  replace xc := Lib.hid xc
  replace yc := Lib.hid yc
  replace ox := Lib.hid ox
  replace oy := Lib.hid oy
  replace l1 := Lib.hid l1
  replace l2 := Lib.hid l2
  replace hi := Lib.hid hi
  replace hs1 := Lib.hid hs1
  replace hgc := Lib.hid hgc
  clear hz hby hcsz hx hy hW1 hW1g hB1 hD1 hS1 hr1 hrl1 hr1s hS2 hr2 hrl2 hW2 hW3 hlt
  go_enter Tryz.func179, Tryz.ntmps179
  have x0 : IntKind.i64.wrap ((0 : Int) + (n1 : Int)) = (n1 : Int) := by rw [IntWalk.i64_in _ (by omega)]; omega
  have x1 : IntKind.i64.wrap ((n1 : Int) + (n2 : Int)) = ((n1 + n2 : Nat) : Int) := by rw [IntWalk.i64_in _ (by omega)]; omega
  have y0 : ¬ ((n1 : Int) < 0) := by omega
  have y1 : ¬ (((n1 + n2 : Nat) : Int) < 0) := by omega
  go_wp2
  go_loopg [3, 11] 2 (fun g s i wr => ∃ k : Nat, k ≤ 2 ∧ 2 - k ≤ g ∧ i = .int .i64 (k : Int) ∧ s = .int .i64 ((if k = 0 then 0 else if k = 1 then n1 else n1 + n2 : Nat) : Int) ∧ wr = w)
  case atStart => exact ⟨0, by omega, by omega, rfl, rfl, rfl⟩
  case round =>
    obtain ⟨k, hk, hg, rfl, rfl, rfl⟩ := hrel
    have hk3 : k = 0 ∨ k = 1 ∨ k = 2 := by omega
    rcases hk3 with rfl | rfl | rfl
    · go_wp2
      go_roundg 1
      case measure => omega
      case rel => exact ⟨1, by omega, by omega, by go_num, by go_num, rfl⟩
    · go_wp2
      go_roundg 0
      case measure => omega
      case rel => exact ⟨2, by omega, by omega, by go_num, by go_num, rfl⟩
    · go_wp2_with (go_at_call 226; refine hG.out.mono ?_; rintro e w' ⟨rfl, rfl⟩)
      generalize hB0 : wr.heap.size = B0 at *
      go_loopg [6, 27] 2 (fun g s i W => ∃ k : Nat, k ≤ 2 ∧ 2 - k ≤ g ∧ i = .int .i64 (k : Int) ∧ s = .slice (some ⟨B0, 0, none⟩) (if k = 0 then 0 else if k = 1 then n1 else n1 + n2) gc ∧ W = (if k = 0 then w' else if k = 1 then w'.setCells B0 0 xs else (w'.setCells B0 0 xs).setCells B0 (n1 * 1) ys))
      case atStart => exact ⟨0, by omega, by omega, rfl, rfl, rfl⟩
      case round =>
        obtain ⟨k, hk, hg, rfl, rfl, hW⟩ := hrel
        have hk3 : k = 0 ∨ k = 1 ∨ k = 2 := by omega
        rcases hk3 with rfl | rfl | rfl
        · replace hW : _ = w' := hW
          subst hW
          go_wp2_with (at_builtin; refine wpList_room _ rfl _ _ 23 rfl 3 ti 1 Tryz.underlying23 hi.out hs1.out B0 0 0 gc rfl a1 n1 c1 xs rfl l1.out xc.out ox.out (by have := hgc.out; omega) sp1.out ?_)
          go_roundg 1
          case measure => omega
          case rel => exact ⟨1, by omega, by omega, by go_num, by go_num, (by first | (go_num; done) | rfl | simp)⟩
        · replace hW : _ = w'.setCells B0 0 xs := hW
          subst hW
          go_wp2_with (at_builtin; refine wpList_room _ rfl _ _ 23 rfl 3 ti 1 Tryz.underlying23 hi.out hs1.out B0 0 n1 gc rfl a2 n2 c2 ys rfl l2.out yc.out oy.out (by have := hgc.out; omega) sp2.out ?_)
          go_roundg 0
          case measure => omega
          case rel => exact ⟨2, by omega, by omega, by go_num, by go_num, (by first | (go_num; done) | rfl | simp)⟩
        · replace hW : _ = (w'.setCells B0 0 xs).setCells B0 (n1 * 1) ys := hW
          subst hW
          go_wp2
          go_ret
          have hf := fin.out
          rw [← hB0] at hf
          rw [← hB0]
          simp only [Nat.mul_one] at hf ⊢
          exact hf

end Go.Proofs.YtdefefeifcdogaaGreat
namespace Go.Proofs.YtdefefeifcdogaaGreat
open Go.RowKit
set_option linter.unusedSimpArgs false
set_option linter.unusedVariables false

theorem vrs_lit {E : Env} : ∀ {L : List Value} {cs : List Value}, VRs E (L.map V.lit) cs → cs = L ∧ ∀ u ∈ L, flat u = true
  | [], _, h => by rw [List.map_nil, VRs] at h; exact ⟨h, fun u hu => by cases hu⟩
  | v :: L, _, h => by
    rw [List.map_cons, VRs] at h
    obtain ⟨c, cs, rfl, h1, h2⟩ := h
    rw [VR] at h1
    obtain ⟨rfl, h3⟩ := h1
    obtain ⟨rfl, h4⟩ := vrs_lit h2
    refine ⟨rfl, fun u hu => ?_⟩
    rcases List.mem_cons.1 hu with rfl | h
    · exact h3
    · exact h4 u h
theorem lit_vrs {E : Env} : ∀ {L : List Value}, (∀ u ∈ L, flat u = true) → VRs E (L.map V.lit) L
  | [], _ => by rw [List.map_nil, VRs]
  | v :: L, h => by
    rw [List.map_cons, VRs]
    refine ⟨v, L, rfl, ?_, lit_vrs fun u hu => h u (List.mem_cons_of_mem _ hu)⟩
    rw [VR]
    exact ⟨rfl, h v (List.mem_cons_self ..)⟩

/-- Of all blocks that lay there only b may have changed. -/
structure RowTo (w w' : World) (b : Nat) : Prop where
  os : w'.os = w.os
  tape : w'.tape = w.tape
  output : w'.output = w.output
  drawn : w.drawn ≤ w'.drawn
  size : w.heap.size ≤ w'.heap.size
  block : ∀ k, k < w.heap.size → k ≠ b → w'.heap[k]? = w.heap[k]?

/-- What such a call leaves. -/
def RowPost (m : Mm) (i : Nat) (t : TypeId) (Q : List Value → Prop) (r : V) (m' : Mm) : Prop := r = vund ∧ ∃ L', Q L' ∧ m' = m.put i (.box (L'.map V.lit) t)
theorem row_sfn {P : Program} {G : Ground} {f : FuncId} {m : Mm} {i n : Nat} {t : TypeId} {L : List Value} {a : V} {ys : List V} {xs : List Value} (Q : List Value → Prop)
    (ha : (∃ cap, a = .bsl i 0 n cap) ∨ ∃ s, a = .gsl i n s) (hys : ∀ (E : Env) (cl : List Value), VRs E ys cl → cl = xs) (ho : m.obj i = some (.box (L.map V.lit) t))
    (H : ∀ (w : World) (b cap' : Nat) (c : Array Value), w.heap[b]? = some (.cells c t (0, 0)) → c.toList.take L.length = L → n ≤ cap' →
      Calls P f (.slice (some ⟨b, 0, none⟩) n cap' :: xs).toArray w fun e w' => e = .returned (.tuple #[]) ∧ ∃ (L' : List Value) (c2 : Array Value), Q L' ∧ L'.length = L.length ∧ (∀ u ∈ L', flat u = true) ∧ RowTo w w' b ∧ w'.heap[b]? = some (.cells c2 t (0, 0)) ∧ c2.size = c.size ∧ c2.toList.take L.length = L') :
    SFn P G f (a :: ys) m (RowPost m i t Q) := by
  intro E w cargs hG hm hv
  rw [VRs] at hv
  obtain ⟨c1, cl, e1, h1, h2⟩ := hv
  obtain ⟨b, hφ, cap', rfl, hn⟩ : ∃ b, E.φ i = some b ∧ ∃ cap', c1 = .slice (some ⟨b, 0, none⟩) n cap' ∧ n ≤ cap' := by
    rcases ha with ⟨cap, rfl⟩ | ⟨s, rfl⟩
    · rw [VR] at h1
      obtain ⟨b, hφ, cap', rfl, hn, hc⟩ := h1
      exact ⟨b, hφ, cap', rfl, Nat.le_trans hn hc⟩
    · rw [VR] at h1
      obtain ⟨b, hφ, cap', rfl, hn, _⟩ := h1
      exact ⟨b, hφ, cap', rfl, hn⟩
  obtain rfl := hys E cl h2
  obtain ⟨b', c, hφ', hh, hr, hM⟩ := hm.box i _ t ho
  rw [hφ] at hφ'
  cases hφ'
  rw [List.length_map] at hr
  obtain ⟨hcl, _⟩ := vrs_lit hr
  obtain rfl : cargs = (.slice (some ⟨b, 0, none⟩) n cap' :: cl).toArray := by apply Array.ext'; rw [e1]
  refine (H w b cap' c hh hcl hn).mono ?_
  rintro e w' ⟨rfl, L', c2, hQ, hLl, hf', hT, hc2, hsz, htk⟩
  have hblt : b < w.heap.size := (Array.getElem?_eq_some_iff.1 hh).1
  have hsb : SameBut w { w with heap := w.heap.set b (.cells c2 t (0, 0)) hblt } b := ⟨rfl, rfl, rfl, Nat.le_refl _, by simp, fun k hk => by simp [Array.getElem?_set, Ne.symm hk]⟩
  have hc1 : ({ w with heap := w.heap.set b (.cells c2 t (0, 0)) hblt } : World).heap[b]? = some (.cells c2 t (0, 0)) := by simp
  have hs1 : ({ w with heap := w.heap.set b (.cells c2 t (0, 0)) hblt } : World).heap.size = w.heap.size := by simp
  generalize ({ w with heap := w.heap.set b (.cells c2 t (0, 0)) hblt } : World) = w1 at hsb hc1 hs1
  obtain ⟨hst, hm1⟩ := hm.setBox (cs' := L'.map V.lit) ho hφ hsb hc1 (fun c0 h0 => by rw [hh] at h0; cases h0; exact hsz) (by rw [List.length_map, hLl, htk]; exact lit_vrs hf')
  have hbl : ∀ k, k < w1.heap.size → w'.heap[k]? = w1.heap[k]? := by
    intro k hk
    by_cases hkb : k = b
    · subst hkb; rw [hc1, hc2]
    · rw [hT.block k (by omega) hkb, hsb.block k hkb]
  exact ⟨_, vund, m.put i (.box (L'.map V.lit) t), E, rfl, ⟨rfl, L', hQ, rfl⟩,
    { hst with os := hT.os, tape := hT.tape, output := hT.output, drawn := hT.drawn, size := hT.size, kept := fun k hk hn => hT.block k hk fun e => hn i (.inl ⟨_, _, ho, by rw [e]; exact hφ⟩) }, hm1.grow hbl, VR_mk rfl⟩

/-! ### The library's worlds -/
theorem flat_lenK {α : Type} {enc : α → List Value} {k : Nat} (hk : ∀ x, (enc x).length = k) : ∀ l : List α, (l.flatMap enc).length = l.length * k
  | [] => by simp
  | x :: l => by rw [List.flatMap_cons, List.length_append, hk, flat_lenK hk l, List.length_cons, Nat.add_mul, Nat.one_mul]; omega
section
variable {α : Type} [Inhabited α]
theorem putCells_list (enc : α → Value) (d : Array α) (c : Array Value) (h : d.size ≤ c.size) : (Sort.putCells enc 0 d c).toList.take d.size = d.toList.map enc := by
  apply List.ext_getElem?
  intro q
  rw [List.getElem?_take]
  split
  · rename_i hq
    rw [Array.getElem?_toList, List.getElem?_map, Array.getElem?_toList, Sort.putCells, Array.getElem?_mapIdx, Array.getElem?_eq_getElem (by omega : q < c.size), Array.getElem?_eq_getElem hq, Option.map_some, Option.map_some, if_pos (by omega), Nat.sub_zero, getElem!_pos d q hq]
  · rename_i hq
    rw [List.getElem?_eq_none (by simp; omega)]
theorem putCells_size (enc : α → Value) (d : Array α) (c : Array Value) : (Sort.putCells enc 0 d c).size = c.size := by simp [Sort.putCells]
theorem putRow_to (enc : α → Value) {w : World} {b : Nat} {c : Array Value} {t : TypeId} (hh : w.heap[b]? = some (.cells c t (0, 0))) (n0 : Nat) (d : Array α) (os : Array Obj) :
    RowTo w (Sort.grow (Sort.putRow enc (Sort.ahead w n0) b 0 d) os) b ∧ (Sort.grow (Sort.putRow enc (Sort.ahead w n0) b 0 d) os).heap[b]? = some (.cells (Sort.putCells enc 0 d c) t (0, 0)) := by
  have hblt : b < w.heap.size := (Array.getElem?_eq_some_iff.1 hh).1
  refine ⟨⟨rfl, rfl, rfl, Nat.le_add_right _ _, ?_, fun k hk hkb => ?_⟩, ?_⟩
  · simp [Sort.grow, Sort.putRow, Sort.mapBlock, Sort.ahead]
  · simp only [Sort.grow, Sort.putRow, Sort.mapBlock, Sort.ahead]
    rw [Array.getElem?_append_left (by simpa using hk), Array.getElem?_modify, if_neg (Ne.symm hkb)]
  · simp only [Sort.grow, Sort.putRow, Sort.mapBlock, Sort.ahead]
    rw [Array.getElem?_append_left (by simpa using hblt), Array.getElem?_modify, if_pos rfl, hh]
    rfl
theorem holds_of (enc : α → Value) {w : World} {b : Nat} {c : Array Value} {t : TypeId} (hh : w.heap[b]? = some (.cells c t (0, 0))) (d : Array α) (hc : c.toList.take d.size = d.toList.map enc) : Sort.Holds enc w b 0 d := by
  intro j hj
  refine ⟨?_, by simp [World.frozen?, hh]⟩
  have h1 : (c.toList.take d.size)[j]? = some (enc d[j]!) := by
    rw [hc, List.getElem?_map, Array.getElem?_toList, Array.getElem?_eq_getElem hj, getElem!_pos d j hj]; rfl
  rw [List.getElem?_take, if_pos hj, Array.getElem?_toList] at h1
  rw [Nat.zero_add]
  simp [World.cell?, hh, h1]
theorem flat_getK {enc : α → List Value} {k : Nat} (hk : ∀ x, (enc x).length = k) (k0 : 0 < k) : ∀ (l : List α) (t : Nat), t < l.length * k → (l.flatMap enc)[t]? = (enc (l.getD (t / k) default))[t % k]?
  | [], t, h => by simp at h
  | x :: l, t, h => by
    rw [List.flatMap_cons]
    by_cases ht : t < k
    · rw [List.getElem?_append_left (by rw [hk]; exact ht), Nat.div_eq_of_lt ht, Nat.mod_eq_of_lt ht]; rfl
    · have h1 : t - k < l.length * k := by rw [List.length_cons, Nat.add_mul, Nat.one_mul] at h; omega
      rw [List.getElem?_append_right (by rw [hk]; omega), hk, flat_getK hk k0 l (t - k) h1, Nat.div_eq_sub_div k0 (by omega : k ≤ t), Nat.mod_eq_sub_mod (by omega : k ≤ t)]
      rfl
theorem flatK_list {enc : α → List Value} {k : Nat} (hk : ∀ x, (enc x).length = k) (k0 : 0 < k) (d : Array α) : (Sort.flatK enc k d).toList = d.toList.flatMap enc := by
  apply List.ext_getElem?
  intro q
  by_cases hq : q < d.size * k
  · rw [flat_getK hk k0 d.toList q (by simpa using hq), Array.getElem?_toList, Array.getElem?_eq_getElem (by simpa using hq)]
    have h1 := Sort.get_flatK enc k d q hq
    rw [getElem!_pos _ q (by simpa using hq)] at h1
    rw [h1]
    have h2 : q / k < d.size := (Nat.div_lt_iff_lt_mul k0).2 hq
    have h3 : q % k < k := Nat.mod_lt _ k0
    have e : d[q / k]! = d.toList.getD (q / k) default := by
      rw [getElem!_pos d _ h2, List.getD_eq_getElem?_getD, Array.getElem?_toList, Array.getElem?_eq_getElem h2]; rfl
    rw [e]
    have h4 : q % k < (enc (d.toList.getD (q / k) default)).length := by rw [hk]; exact h3
    rw [List.getElem?_eq_getElem h4, List.getElem!_eq_getElem?_getD, List.getElem?_eq_getElem h4]
    rfl
  · rw [List.getElem?_eq_none (by simpa using hq), List.getElem?_eq_none (by rw [flat_lenK hk]; simpa using hq)]
end
end Go.Proofs.YtdefefeifcdogaaGreat
namespace Go.Proofs.YtdefefeifcdogaaGreat
open Go.RowKit
set_option linter.unusedSimpArgs false
set_option linter.unusedVariables false

/-- A contract of the machine's own that gives a new block of cells. -/
theorem BFn.of_own {P : Program} {G : Ground} {f : FuncId} {args : List V} {n : Nat} {xs : List V} {t : TypeId} (h0 : n ≠ 0) (hcl : V.clean xs = true)
    (h : ∀ (m : Mm) (E : Env) (w : World) (cargs : Array Value), MemR E m w → VRs E args cargs.toList →
      Calls P f cargs w fun e w' => ∃ g cap cur, e = .returned (.slice (some ⟨g, 0, none⟩) n cap) ∧ w.heap.size ≤ g ∧ n ≤ cap ∧ Below w.heap.size w w' ∧ w.drawn ≤ w'.drawn ∧ w'.heap[g]? = some (.cells cur t (0, 0)) ∧ ∀ E' : Env, VRs E' xs (cur.toList.take xs.length)) : BFn P G f args n xs t := by
  intro m E w cargs hG hm hv
  refine (h m E w cargs hm hv).mono ?_
  rintro e w' ⟨g, cap, c, rfl, hg0, hcap, hb, hdr, hc, hx⟩
  have hg : MemR E m w' := hm.grow fun b hlt => hb.block b hlt
  have hs : Step NoX E m w E m w' := ⟨.refl E, Nat.le_refl _, fun _ _ _ => rfl, fun _ _ _ hn => ⟨fun _ => rfl, hn⟩, hb.os, hb.tape, hb.output, hdr, hb.size, fun b hlt _ => hb.block b hlt, fun i b hi _ => ⟨i, hi⟩, fun _ _ _ h => .inl h⟩
  have hf := hm.fresh m.next (Nat.le_refl _)
  have hs1 : Step NoX E ⟨m.obj, m.next + 1⟩ w E ⟨m.obj, m.next + 1⟩ w' := { hs with next := Nat.le_refl _, oldφ := fun _ _ _ => rfl, oldloc := fun _ _ _ hn => ⟨fun _ => rfl, hn⟩ }
  have hM : ∀ o, E.M g o = none := fun o => by
    cases hq : E.M g o with
    | none => rfl
    | some v => exact absurd (hm.M_lt hq) (by omega)
  obtain ⟨E', k1, k2, k3⟩ := MemR.oldBox (i := m.next) hs1 rfl (hg.skip 1) (by show m.next < m.next + 1; omega) hf.1 hf.1 hf.2.2 hf.2.1 (hx E) t hg0 hc hM (fun j hj => absurd (hm.blk_lt hj) (by omega))
  refine ⟨_, .bsl m.next 0 n n, (⟨m.obj, m.next + 1⟩ : Mm).put m.next (.box xs t), E', rfl, ⟨fun q hq => if_neg (by omega), .inr ⟨h0, hcl, m.next, Nat.le_refl _, rfl, if_pos rfl⟩⟩, ?_, k2, ⟨_, k3, cap, rfl, Nat.le_refl _, hcap⟩⟩
  refine { k1 with next := ?_, oldφ := fun i hi _ => k1.oldφ i (by show i < m.next + 1; omega) (by omega), oldloc := fun i hi _ => k1.oldloc i (by show i < m.next + 1; omega) (by omega) }
  show m.next ≤ m.next + 1
  omega
theorem At.prefix {E : Env} {b : Nat} : ∀ {xs ys : List V} {o : Nat}, At E b o (xs ++ ys) → At E b o xs
  | [], _, _, _ => by rw [At]; trivial
  | v :: xs, ys, o, h => by
    rw [List.cons_append, At] at h
    rw [At]
    exact ⟨h.1, At.prefix h.2⟩
/-- Less is said of a row that is answered. -/
theorem Fn.trim {P : Program} {G : Ground} {f : FuncId} {args : List V} {n : Nat} {xs ys : List V} (h : Fn P G f args (.sl n (xs ++ ys) .no)) : Fn P G f args (.sl n xs .no) := by
  intro m E w cargs hG hm hv
  refine (h m E w cargs hG hm hv).mono ?_
  rintro e w' ⟨v, r, m', E', he, ⟨rfl, rfl⟩, hs, hm', hr⟩
  refine ⟨v, .sl n xs .no, m', E', he, ⟨rfl, rfl⟩, hs, hm', ?_⟩
  rw [VR] at hr ⊢
  obtain ⟨A, cap, e1, hn, hk, hc, hx⟩ := hr
  refine ⟨A, cap, e1, hn, hk, ?_, ?_⟩
  · have := clean_slice hc 0 xs.length
    simpa using this
  · rcases hx with hx | ⟨b, o, e2, ha⟩
    · exact .inl (List.append_eq_nil_iff.1 hx).1
    · exact .inr ⟨b, o, e2, At.prefix ha⟩
end Go.Proofs.YtdefefeifcdogaaGreat
namespace Go.Proofs.YtdefefeifcdogaaGreat
open Go.Shelf
def lSortS_ren : Go.Shelf.Ren := ⟨fun | 6 => 176 | 15 => 225 | 14 => 224 | 28 => 270 | 29 => 271 | 20 => 262 | 21 => 263 | 22 => 264 | 23 => 265 | 24 => 266 | 25 => 267 | 26 => 268 | 27 => 269 | 46 => 318 | 47 => 319 | 48 => 320 | 49 => 321 | 50 => 322 | 57 => 347 | n => n, fun | 22 => 81 | 24 => 110 | 25 => 167 | 3 => 3 | 39 => 283 | 0 => 0 | 53 => 340 | 55 => 342 | 4 => 4 | 46 => 334 | 45 => 333 | 50 => 212 | 5 => 5 | 9 => 9 | 66 => 389 | 70 => 393 | 76 => 411 | 77 => 412 | n => n, fun | n => n⟩
theorem lSortS : Go.Proofs.SlLaysF0.n6 Tryz.prog lSortS_ren := {
  mixed := by kernel_rfl
  f6 := ⟨Tryz.f176.name, by decide, Tryz.func176.trans (congrArg some (by kernel_rfl))⟩
  f14 := ⟨Tryz.f224.name, by decide, Tryz.func224.trans (congrArg some (by kernel_rfl))⟩
  f15 := Tryz.func225.trans (congrArg some (by kernel_rfl))
  f20 := ⟨Tryz.f262.name, by decide, Tryz.func262.trans (congrArg some (by kernel_rfl))⟩
  f21 := ⟨Tryz.f263.name, by decide, Tryz.func263.trans (congrArg some (by kernel_rfl))⟩
  f22 := ⟨Tryz.f264.name, by decide, Tryz.func264.trans (congrArg some (by kernel_rfl))⟩
  f23 := ⟨Tryz.f265.name, by decide, Tryz.func265.trans (congrArg some (by kernel_rfl))⟩
  f24 := ⟨Tryz.f266.name, by decide, Tryz.func266.trans (congrArg some (by kernel_rfl))⟩
  f25 := ⟨Tryz.f267.name, by decide, Tryz.func267.trans (congrArg some (by kernel_rfl))⟩
  f26 := ⟨Tryz.f268.name, by decide, Tryz.func268.trans (congrArg some (by kernel_rfl))⟩
  f27 := ⟨Tryz.f269.name, by decide, Tryz.func269.trans (congrArg some (by kernel_rfl))⟩
  f28 := Tryz.func270.trans (congrArg some (by kernel_rfl))
  f29 := Tryz.func271.trans (congrArg some (by kernel_rfl))
  f46 := ⟨Tryz.f318.name, by decide, Tryz.func318.trans (congrArg some (by kernel_rfl))⟩
  f47 := Tryz.func319.trans (congrArg some (by kernel_rfl))
  f48 := Tryz.func320.trans (congrArg some (by kernel_rfl))
  f49 := ⟨Tryz.f321.name, by decide, Tryz.func321.trans (congrArg some (by kernel_rfl))⟩
  f50 := ⟨Tryz.f322.name, by decide, Tryz.func322.trans (congrArg some (by kernel_rfl))⟩
  f57 := ⟨Tryz.f347.name, by decide, Tryz.func347.trans (congrArg some (by kernel_rfl))⟩
  t0 := Tryz.underlying0
  a0 := Tryz.isAgg0
  z0 := Tryz.sizeOf0
  v0 := Tryz.zeroValue0
  t3 := Tryz.underlying3
  a3 := Tryz.isAgg3
  z3 := Tryz.sizeOf3
  v3 := Tryz.zeroValue3
  t4 := Tryz.underlying4
  a4 := Tryz.isAgg4
  z4 := Tryz.sizeOf4
  v4 := Tryz.zeroValue4
  t5 := Tryz.underlying5
  a5 := Tryz.isAgg5
  z5 := Tryz.sizeOf5
  v5 := Tryz.zeroValue5
  t9 := Tryz.underlying9
  a9 := Tryz.isAgg9
  z9 := Tryz.sizeOf9
  v9 := Tryz.zeroValue9
  t22 := Tryz.underlying81
  a22 := Tryz.isAgg81
  z22 := Tryz.sizeOf81
  v22 := Tryz.zeroValue81
  t25 := Tryz.underlying167
  a25 := Tryz.isAgg167
  z25 := Tryz.sizeOf167
  v25 := Tryz.zeroValue167
  t39 := Tryz.underlying283
  a39 := Tryz.isAgg283
  z39 := Tryz.sizeOf283
  v39 := Tryz.zeroValue283
  t45 := Tryz.underlying333
  a45 := Tryz.isAgg333
  z45 := Tryz.sizeOf333
  v45 := Tryz.zeroValue333
  t46 := Tryz.underlying334
  a46 := Tryz.isAgg334
  z46 := Tryz.sizeOf334
  v46 := Tryz.zeroValue334
  t50 := Tryz.underlying212
  a50 := Tryz.isAgg212
  z50 := Tryz.sizeOf212
  v50 := Tryz.zeroValue212
  t53 := Tryz.underlying340
  a53 := Tryz.isAgg340
  z53 := Tryz.sizeOf340
  v53 := Tryz.zeroValue340
  t55 := Tryz.underlying342
  a55 := Tryz.isAgg342
  z55 := Tryz.sizeOf342
  v55 := Tryz.zeroValue342
  t66 := Tryz.underlying389
  a66 := Tryz.isAgg389
  z66 := Tryz.sizeOf389
  v66 := Tryz.zeroValue389
  t70 := Tryz.underlying393
  a70 := Tryz.isAgg393
  z70 := Tryz.sizeOf393
  v70 := Tryz.zeroValue393
  t76 := Tryz.underlying411
  a76 := Tryz.isAgg411
  z76 := Tryz.sizeOf411
  v76 := Tryz.zeroValue411
  t77 := Tryz.underlying412
  a77 := Tryz.isAgg412
  z77 := Tryz.sizeOf412
  v77 := Tryz.zeroValue412 }
def lSortI_ren : Go.Shelf.Ren := ⟨fun | 6 => 180 | 15 => 225 | 14 => 227 | 28 => 270 | 29 => 271 | 20 => 272 | 21 => 273 | 22 => 274 | 23 => 275 | 24 => 276 | 25 => 277 | 26 => 278 | 27 => 279 | 46 => 323 | 47 => 319 | 48 => 320 | 49 => 324 | 50 => 325 | 57 => 348 | n => n, fun | 22 => 23 | 24 => 3 | 25 => 75 | 3 => 3 | 39 => 283 | 0 => 0 | 53 => 340 | 55 => 342 | 4 => 4 | 46 => 334 | 45 => 333 | 50 => 212 | 5 => 5 | 9 => 9 | 66 => 389 | 70 => 393 | 76 => 411 | 77 => 412 | n => n, fun | n => n⟩
theorem lSortI : Go.Proofs.SlLaysF.n6 Tryz.prog lSortI_ren := {
  mixed := by kernel_rfl
  f6 := ⟨Tryz.f180.name, by decide, Tryz.func180.trans (congrArg some (by kernel_rfl))⟩
  f14 := ⟨Tryz.f227.name, by decide, Tryz.func227.trans (congrArg some (by kernel_rfl))⟩
  f15 := Tryz.func225.trans (congrArg some (by kernel_rfl))
  f20 := ⟨Tryz.f272.name, by decide, Tryz.func272.trans (congrArg some (by kernel_rfl))⟩
  f21 := ⟨Tryz.f273.name, by decide, Tryz.func273.trans (congrArg some (by kernel_rfl))⟩
  f22 := ⟨Tryz.f274.name, by decide, Tryz.func274.trans (congrArg some (by kernel_rfl))⟩
  f23 := ⟨Tryz.f275.name, by decide, Tryz.func275.trans (congrArg some (by kernel_rfl))⟩
  f24 := ⟨Tryz.f276.name, by decide, Tryz.func276.trans (congrArg some (by kernel_rfl))⟩
  f25 := ⟨Tryz.f277.name, by decide, Tryz.func277.trans (congrArg some (by kernel_rfl))⟩
  f26 := ⟨Tryz.f278.name, by decide, Tryz.func278.trans (congrArg some (by kernel_rfl))⟩
  f27 := ⟨Tryz.f279.name, by decide, Tryz.func279.trans (congrArg some (by kernel_rfl))⟩
  f28 := Tryz.func270.trans (congrArg some (by kernel_rfl))
  f29 := Tryz.func271.trans (congrArg some (by kernel_rfl))
  f46 := ⟨Tryz.f323.name, by decide, Tryz.func323.trans (congrArg some (by kernel_rfl))⟩
  f47 := Tryz.func319.trans (congrArg some (by kernel_rfl))
  f48 := Tryz.func320.trans (congrArg some (by kernel_rfl))
  f49 := ⟨Tryz.f324.name, by decide, Tryz.func324.trans (congrArg some (by kernel_rfl))⟩
  f50 := ⟨Tryz.f325.name, by decide, Tryz.func325.trans (congrArg some (by kernel_rfl))⟩
  f57 := ⟨Tryz.f348.name, by decide, Tryz.func348.trans (congrArg some (by kernel_rfl))⟩
  t0 := Tryz.underlying0
  a0 := Tryz.isAgg0
  z0 := Tryz.sizeOf0
  v0 := Tryz.zeroValue0
  t3 := Tryz.underlying3
  a3 := Tryz.isAgg3
  z3 := Tryz.sizeOf3
  v3 := Tryz.zeroValue3
  t4 := Tryz.underlying4
  a4 := Tryz.isAgg4
  z4 := Tryz.sizeOf4
  v4 := Tryz.zeroValue4
  t5 := Tryz.underlying5
  a5 := Tryz.isAgg5
  z5 := Tryz.sizeOf5
  v5 := Tryz.zeroValue5
  t9 := Tryz.underlying9
  a9 := Tryz.isAgg9
  z9 := Tryz.sizeOf9
  v9 := Tryz.zeroValue9
  t22 := Tryz.underlying23
  a22 := Tryz.isAgg23
  z22 := Tryz.sizeOf23
  v22 := Tryz.zeroValue23
  a24 := Tryz.isAgg3
  z24 := Tryz.sizeOf3
  t25 := Tryz.underlying75
  a25 := Tryz.isAgg75
  z25 := Tryz.sizeOf75
  v25 := Tryz.zeroValue75
  t39 := Tryz.underlying283
  a39 := Tryz.isAgg283
  z39 := Tryz.sizeOf283
  v39 := Tryz.zeroValue283
  t45 := Tryz.underlying333
  a45 := Tryz.isAgg333
  z45 := Tryz.sizeOf333
  v45 := Tryz.zeroValue333
  t46 := Tryz.underlying334
  a46 := Tryz.isAgg334
  z46 := Tryz.sizeOf334
  v46 := Tryz.zeroValue334
  t50 := Tryz.underlying212
  a50 := Tryz.isAgg212
  z50 := Tryz.sizeOf212
  v50 := Tryz.zeroValue212
  t53 := Tryz.underlying340
  a53 := Tryz.isAgg340
  z53 := Tryz.sizeOf340
  v53 := Tryz.zeroValue340
  t55 := Tryz.underlying342
  a55 := Tryz.isAgg342
  z55 := Tryz.sizeOf342
  v55 := Tryz.zeroValue342
  t66 := Tryz.underlying389
  a66 := Tryz.isAgg389
  z66 := Tryz.sizeOf389
  v66 := Tryz.zeroValue389
  t70 := Tryz.underlying393
  a70 := Tryz.isAgg393
  z70 := Tryz.sizeOf393
  v70 := Tryz.zeroValue393
  t76 := Tryz.underlying411
  a76 := Tryz.isAgg411
  z76 := Tryz.sizeOf411
  v76 := Tryz.zeroValue411
  t77 := Tryz.underlying412
  a77 := Tryz.isAgg412
  z77 := Tryz.sizeOf412
  v77 := Tryz.zeroValue412 }
end Go.Proofs.YtdefefeifcdogaaGreat
namespace Go.Proofs.YtdefefeifcdogaaGreat
open Go.RowKit
set_option linter.unusedSimpArgs false
set_option linter.unusedVariables false

theorem grow_of {w w' : World} (hb : Below w.heap.size w w') (hd : w.drawn ≤ w'.drawn) : ∃ (q : Nat) (os : Array Obj), w' = Sort.grow (w.drewN q) os := by
  refine ⟨w'.drawn - w.drawn, w'.heap.extract w.heap.size w'.heap.size, ?_⟩
  obtain ⟨h1, h2, h3, h4, h5⟩ := hb
  obtain ⟨heap', tape', drawn', os', output'⟩ := w'
  obtain ⟨heap, tape, drawn, os, output⟩ := w
  dsimp only at h1 h2 h3 h4 h5 hd
  subst h1
  subst h2
  subst h3
  have e1 : heap' = heap ++ heap'.extract heap.size heap'.size := by
    apply Array.ext_getElem?
    intro k
    by_cases hk : k < heap.size
    · rw [Array.getElem?_append_left hk, h5 k hk]
    · rw [Array.getElem?_append_right (by omega), Array.getElem?_extract]
      by_cases hk2 : k < heap'.size
      · rw [if_pos (by omega)]
        congr 1
        omega
      · rw [if_neg (by omega), Array.getElem?_eq_none (by omega)]
  have e2 : drawn' = drawn + (drawn' - drawn) := by omega
  unfold Sort.grow World.drewN
  dsimp only
  rw [← e1, ← e2]
theorem Fn.grown {f : FuncId} {args : List V} {r : V} (h : Fn Tryz.prog Gd f args r) {w : World} {cargs : Array Value} (hv : VRs ⟨fun _ _ => none, fun _ => none, fun _ _ => none⟩ args cargs.toList) :
    Calls Tryz.prog f cargs w fun e w' => (∃ (v : Value) (E' : Env), e = .returned v ∧ VR E' r v) ∧ ∃ (q : Nat) (os : Array Obj), w' = Sort.grow (w.drewN q) os := by
  have hm : MemR ⟨fun _ _ => none, fun _ => none, fun _ _ => none⟩ ⟨fun _ => none, 0⟩ w :=
    ⟨(fun _ _ _ h => by cases h), (fun i _ => ⟨rfl, fun _ => rfl, rfl⟩), (fun i _ _ h => by cases h), (fun i _ _ _ h => by cases h), (fun i _ h => by cases h), (fun i j b h => by rcases h with ⟨_, _, h, _⟩ | ⟨_, _, _, _, h, _⟩ | ⟨_, h, _⟩ <;> cases h), (fun _ _ _ _ _ _ _ _ h => by cases h)⟩
  refine (h ⟨fun _ => none, 0⟩ _ w cargs trivial hm hv).mono ?_
  rintro e w' ⟨v, r', m', E', he, ⟨rfl, rfl⟩, hs, hm', hr⟩
  exact ⟨⟨v, E', he, hr⟩, grow_of (hs.below fun _ => rfl) hs.drawn⟩
def encS (s : Sg) : List Value := [.int .i64 s.v, .bool s.d, .bool s.t]
theorem order_i (x y : Sg) (W : World) : Calls Tryz.prog 118 #[.agg (encS x).toArray, .agg (encS y).toArray] W fun e w' => e = .returned (.int .i64 (ordS x y)) ∧ ∃ (q : Nat) (os : Array Obj), w' = Sort.grow (W.drewN q) os := by
  refine ((order_fn x y).grown (w := W) (cargs := #[.agg (encS x).toArray, .agg (encS y).toArray]) ?_).mono ?_
  · have h : ∀ s : Sg, VR ⟨fun _ _ => none, fun _ => none, fun _ _ => none⟩ s.val (.agg (encS s).toArray) := fun s => ⟨_, rfl, _, _, rfl, VR_mk rfl, _, _, rfl, VR_mk rfl, _, _, rfl, VR_mk rfl, rfl⟩
    exact ⟨_, _, rfl, h x, _, _, rfl, h y, rfl⟩
  · rintro e w' ⟨⟨v, E', rfl, h1, _⟩, h2⟩
    exact ⟨by rw [h1], h2⟩
theorem compare_i (x y : Int) (W : World) : Calls Tryz.prog 121 #[.int .i64 x, .int .i64 y] W fun e w' => e = .returned (.int .i64 (cmpI x y)) ∧ ∃ (q : Nat) (os : Array Obj), w' = Sort.grow (W.drewN q) os := by
  refine ((compare_fn x y).grown (w := W) (cargs := #[.int .i64 x, .int .i64 y]) ?_).mono ?_
  · exact ⟨_, _, rfl, VR_mk rfl, _, _, rfl, VR_mk rfl, rfl⟩
  · rintro e w' ⟨⟨v, E', rfl, h1, _⟩, h2⟩
    exact ⟨by rw [h1], h2⟩
end Go.Proofs.YtdefefeifcdogaaGreat
namespace Go.Proofs.YtdefefeifcdogaaGreat
open Go.RowKit
set_option linter.unusedSimpArgs false
set_option linter.unusedVariables false

theorem ordS_lt (a b : Sg) : decide (ordS a b < 0) = decide (keyS a < keyS b) := by
  have h := ordS_bef a b
  have h2 := befS_iff a b
  by_cases hk : keyS a < keyS b
  · rw [h2.2 hk] at h
    have : ¬ 0 ≤ ordS a b := of_decide_eq_false h
    rw [decide_eq_true hk, decide_eq_true (by omega)]
  · have h3 : befS a b = false := by rw [Bool.eq_false_iff]; exact fun e => hk (h2.1 e)
    rw [h3] at h
    have : 0 ≤ ordS a b := of_decide_eq_true h
    rw [decide_eq_false hk, decide_eq_false (by omega)]
theorem swoS : Sort.SWO (ltOf ordS) where
  irrefl x := by unfold ltOf; rw [ordS_lt]; simp
  trans x y z h1 h2 := by unfold ltOf at *; rw [ordS_lt] at *; simp at *; omega
  ntrans x y z h1 h2 := by unfold ltOf at *; rw [ordS_lt] at *; simp at *; omega
theorem cmpI_lt (a b : Int) : decide (cmpI a b < 0) = decide (a < b) := by
  unfold cmpI
  by_cases h1 : a < b
  · rw [if_pos h1]; simp [h1]
  · rw [if_neg h1]
    by_cases h2 : b < a <;> simp [h1, h2]
theorem swoI : Sort.SWO (ltOf cmpI) where
  irrefl x := by unfold ltOf; rw [cmpI_lt]; simp
  trans x y z h1 h2 := by unfold ltOf at *; rw [cmpI_lt] at *; simp at *; omega
  ntrans x y z h1 h2 := by unfold ltOf at *; rw [cmpI_lt] at *; simp at *; omega
/-- What a library's sort leaves, as a list. -/
theorem sorted_list {α : Type} [Inhabited α] {lt : α → α → Bool} {d d' : Array α} (hp : Sort.PermIn 0 d.size d d') (hs : Sort.SortedIn lt 0 d.size d') :
    d'.toList.Perm d.toList ∧ d'.size = d.size ∧ ∀ i, i + 1 < d'.toList.length → lt (d'.toList.getD (i + 1) default) (d'.toList.getD i default) = false := by
  obtain ⟨h1, _, h3⟩ := hp
  have e1 : d'.extract 0 d.size = d' := by rw [← h1, Array.extract_size]
  rw [e1, Array.extract_size] at h3
  refine ⟨h3, h1, fun i hi => ?_⟩
  rw [Array.length_toList] at hi
  have := hs i (i + 1) (Nat.zero_le _) (Nat.lt_succ_self _) (by omega)
  rw [getElem!_pos d' i (by omega), getElem!_pos d' (i + 1) hi] at this
  rw [List.getD_eq_getElem?_getD, List.getD_eq_getElem?_getD, Array.getElem?_toList, Array.getElem?_toList, Array.getElem?_eq_getElem hi, Array.getElem?_eq_getElem (by omega : i < d'.size)]
  exact this
theorem encS_cells (l : List Sg) : l.flatMap Sg.cells = (l.flatMap encS).map V.lit := by
  induction l with
  | nil => rfl
  | cons x l ih => rw [List.flatMap_cons, List.flatMap_cons, List.map_append, ih]; rfl
theorem encI_cells (l : List Int) : l.map vint = (l.map (Value.int .i64)).map V.lit := by rw [List.map_map]; rfl
theorem flat_encS (l : List Sg) : ∀ u ∈ l.flatMap encS, flat u = true := by
  intro u hu
  obtain ⟨s, _, h⟩ := List.mem_flatMap.1 hu
  simp only [encS, List.mem_cons, List.not_mem_nil, or_false] at h
  rcases h with rfl | rfl | rfl <;> rfl
/-- What the sort of a box leaves. -/
def SrtS (d : List Sg) (L : List Value) : Prop := ∃ d' : List Sg, L = d'.flatMap encS ∧ d'.Perm d ∧ ∀ i, i + 1 < d'.length → keyS (d'.getD i default) ≤ keyS (d'.getD (i + 1) default)
def SrtI (d : List Int) (L : List Value) : Prop := ∃ d' : List Int, L = d'.map (Value.int .i64) ∧ d'.Perm d ∧ ∀ i, i + 1 < d'.length → d'.getD i default ≤ d'.getD (i + 1) default
theorem sortS_sfn {m : Mm} {i : Nat} {a : V} (d : List Sg) (hl : d.length ≤ 1000000) (ha : (∃ cap, a = .bsl i 0 d.length cap) ∨ ∃ s, a = .gsl i d.length s) (ho : m.obj i = some (.box (d.flatMap Sg.cells) 110)) :
    SFn Tryz.prog Gd 176 [a, .fn 118 []] m (RowPost m i 110 (SrtS d)) := by
  rw [encS_cells] at ho
  refine row_sfn (xs := [.func (.func 118) #[] #[]]) (SrtS d) ha (fun E cl h => ?_) ho fun w b cap' c hh htk hn => ?_
  · obtain ⟨c1, l1, rfl, h1, h2⟩ := h
    obtain ⟨x, rfl, h3⟩ := h1
    obtain rfl : x = #[] := by apply Array.ext'; exact h3
    rw [show l1 = [] from h2]
  have hk : ∀ x, (encS x).length = 3 := fun _ => rfl
  have hfl := flatK_list hk (by omega) d.toArray
  have hlen : (d.flatMap encS).length = d.length * 3 := flat_lenK hk d
  have eg : ∀ args w, (callFunc 118 args).run Tryz.prog w = .ok (.enter 118 args) w := enters_of Tryz.func118 (by kernel_rfl) rfl
  have hH : Sort.HoldsK encS 3 w b 0 d.toArray := holds_of id hh _ (by rw [Sort.size_flatK, hfl, List.map_id, List.size_toArray, ← hlen]; exact htk)
  have hblk : b < w.heap.size := (Array.getElem?_eq_some_iff.1 hh).1
  have hc0 : d.length * 3 ≤ c.size := by
    have := congrArg List.length htk
    rw [List.length_take, hlen] at this
    have e := Array.length_toList (xs := c)
    omega
  refine (AnyQ.slices_SortFunc lSortS 3 Tryz.isAgg110 Tryz.sizeOf110 encS hk (fun x v hv => by simp only [encS, List.mem_cons, List.not_mem_nil, or_false] at hv; rcases hv with rfl | rfl | rfl <;> rfl) ordS swoS 118 #[] b 0 cap' d.toArray w eg (fun _ _ _ _ x y => order_i x y _) hH hblk (by rw [List.size_toArray]; omega)).mono ?_
  rintro e w' ⟨rfl, d', n0, os, hp, hs, rfl⟩
  obtain ⟨p1, p2, p3⟩ := sorted_list hp hs
  obtain ⟨r1, r2⟩ := putRow_to id hh n0 (Sort.flatK encS 3 d') os
  replace p2 : d'.size = d.length := p2
  have hfl' := flatK_list hk (by omega) d'
  have hsz : (Sort.flatK encS 3 d').size = d.length * 3 := by rw [Sort.size_flatK, p2]
  refine ⟨rfl, d'.toList.flatMap encS, _, ⟨d'.toList, rfl, p1, fun i hi => ?_⟩, by rw [flat_lenK hk, flat_lenK hk, Array.length_toList, p2], flat_encS _, r1, r2, putCells_size .., ?_⟩
  · have := p3 i hi
    unfold ltOf at this
    rw [ordS_lt, decide_eq_false_iff_not] at this
    omega
  · have := putCells_list id (Sort.flatK encS 3 d') c (by rw [hsz]; exact hc0)
    rw [hsz, hfl', List.map_id, ← hlen] at this
    exact this
theorem sortI_sfn {m : Mm} {i : Nat} {a : V} (d : List Int) (hl : d.length ≤ 1000000) (ha : (∃ cap, a = .bsl i 0 d.length cap) ∨ ∃ s, a = .gsl i d.length s) (ho : m.obj i = some (.box (d.map vint) 3)) :
    SFn Tryz.prog Gd 180 [a, .fn 121 []] m (RowPost m i 3 (SrtI d)) := by
  rw [encI_cells] at ho
  refine row_sfn (xs := [.func (.func 121) #[] #[]]) (SrtI d) ha (fun E cl h => ?_) ho fun w b cap' c hh htk hn => ?_
  · obtain ⟨c1, l1, rfl, h1, h2⟩ := h
    obtain ⟨x, rfl, h3⟩ := h1
    obtain rfl : x = #[] := by apply Array.ext'; exact h3
    rw [show l1 = [] from h2]
  rw [List.length_map] at htk
  have eg : ∀ args w, (callFunc 121 args).run Tryz.prog w = .ok (.enter 121 args) w := enters_of Tryz.func121 (by kernel_rfl) rfl
  have hH : Sort.Holds (Value.int .i64) w b 0 d.toArray := holds_of _ hh _ (by rw [List.size_toArray]; exact htk)
  have hblk : b < w.heap.size := (Array.getElem?_eq_some_iff.1 hh).1
  have hc0 : d.length ≤ c.size := by
    have := congrArg List.length htk
    rw [List.length_take, List.length_map] at this
    have e := Array.length_toList (xs := c)
    omega
  refine (Any.slices_SortFunc lSortI (Value.int .i64) (fun _ => rfl) cmpI swoI 121 #[] b 0 cap' d.toArray w eg (fun _ _ _ _ x y => compare_i x y _) hH hblk (by rw [List.size_toArray]; omega)).mono ?_
  rintro e w' ⟨rfl, d', n0, os, hp, hs, rfl⟩
  obtain ⟨p1, p2, p3⟩ := sorted_list hp hs
  obtain ⟨r1, r2⟩ := putRow_to (Value.int .i64) hh n0 d' os
  replace p2 : d'.size = d.length := p2
  refine ⟨rfl, d'.toList.map (Value.int .i64), _, ⟨d'.toList, rfl, p1, fun i hi => ?_⟩, by rw [List.length_map, List.length_map, Array.length_toList, p2], ?_, r1, r2, putCells_size .., ?_⟩
  · have := p3 i hi
    unfold ltOf at this
    rw [cmpI_lt, decide_eq_false_iff_not] at this
    omega
  · intro u hu
    obtain ⟨n, _, rfl⟩ := List.mem_map.1 hu
    rfl
  · have := putCells_list (Value.int .i64) d' c (by omega)
    rw [p2] at this
    rw [List.length_map]
    exact this
end Go.Proofs.YtdefefeifcdogaaGreat
namespace Go.Proofs.YtdefefeifcdogaaGreat
open Go.RowKit
set_option linter.unusedSimpArgs false
set_option linter.unusedVariables false

theorem row_lit {E : Env} {m : Mm} {w : World} (hm : MemR E m w) {n k size : Nat} {L : List Value} {c : Value} (hn : n = k) (h0 : L ≠ []) (hl : L.length = k * size) (h : VR E (.sl n (L.map V.lit) .no) c) :
    ∃ (a : Addr) (cap : Nat), c = .slice (some a) n cap ∧ (∀ (j : Nat) (u : Value), L[j]? = some u → w.cell? (a.add j) = some u) ∧ ∀ u ∈ L, u.oneCell' = true := by
  subst hn
  have hs : 0 < size := by
    rcases Nat.eq_zero_or_pos size with e | e
    · subst e
      rw [Nat.mul_zero] at hl
      exact absurd (List.length_eq_zero_iff.1 hl) h0
    · exact e
  obtain ⟨A, cap, cs, rfl, _, _, hcl, hvs, h5⟩ := sl_cells hm h (size := size) (by rw [List.length_map]; exact hl) hs
  obtain ⟨rfl, _⟩ := vrs_lit hvs
  have ho := hvs.ones (clean_iff.1 hcl).2
  rcases h5 with ⟨_, e⟩ | ⟨b, o, rfl, _, h5⟩
  · exact absurd e h0
  · exact ⟨_, cap, rfl, h5, ho⟩
theorem concatS_bfn (xs ys : List Sg) (p1 : 0 < xs.length) (p2 : 0 < ys.length) (q1 : xs.length ≤ 1000) (q2 : ys.length ≤ 1000) :
    BFn Tryz.prog Gd 175 [.sl 2 [.sl xs.length (xs.flatMap Sg.cells) .no, .sl ys.length (ys.flatMap Sg.cells) .no] .no] (xs.length + ys.length) ((xs ++ ys).flatMap Sg.cells) 110 := by
  have hk : ∀ x, (encS x).length = 3 := fun _ => rfl
  have l1 : (xs.flatMap encS).length = xs.length * 3 := flat_lenK hk xs
  have l2 : (ys.flatMap encS).length = ys.length * 3 := flat_lenK hk ys
  have n1 : xs.flatMap encS ≠ [] := fun h => by rw [h] at l1; simp at l1; omega
  have n2 : ys.flatMap encS ≠ [] := fun h => by rw [h] at l2; simp at l2; omega
  rw [encS_cells, encS_cells, encS_cells]
  refine BFn.of_own (by omega) ?_ fun m E w cargs hm hv => ?_
  · rw [V.clean, Bool.and_eq_true]
    constructor
    · have : ∀ l : List Value, V.pures (l.map V.lit) = true := fun l => by
        induction l with
        | nil => rw [List.map_nil, V.pures]
        | cons a l ih => rw [List.map_cons, V.pures, ih, V.pure]; rfl
      exact this _
    · rw [List.all_eq_true]
      intro v hv
      obtain ⟨u, hu, rfl⟩ := List.mem_map.1 hv
      obtain ⟨s, _, h⟩ := List.mem_flatMap.1 hu
      simp only [encS, List.mem_cons, List.not_mem_nil, or_false] at h
      rcases h with rfl | rfl | rfl <;> rfl
  rw [VRs] at hv
  obtain ⟨c1, t1, e1, h1, h2⟩ := hv
  rw [VRs] at h2
  subst h2
  rw [VR] at h1
  obtain ⟨A, cap, rfl, hcap, _, _, hx⟩ := h1
  obtain ⟨b, o, rfl, ha⟩ := hx.resolve_left (by simp)
  rw [At, At] at ha
  obtain ⟨⟨v1, hM1, hv1⟩, ⟨v2, hM2, hv2⟩, _⟩ := ha
  obtain ⟨a1, cap1, rfl, x1, o1⟩ := row_lit (k := xs.length) (size := 3) hm rfl n1 l1 hv1
  obtain ⟨a2, cap2, rfl, x2, o2⟩ := row_lit (k := ys.length) (size := 3) hm rfl n2 l2 hv2
  obtain rfl : cargs = #[.slice (some ⟨b, o, none⟩) 2 cap] := by apply Array.ext'; rw [e1]
  refine (concatS_any w b o cap a1 a2 xs.length cap1 ys.length cap2 _ _ (hm.stable _ _ _ hM1) (hm.stable _ _ _ hM2) p1 p2 q1 q2 l1 l2 x1 x2 o1 o2).mono ?_
  rintro e w' ⟨g, cap', cur, rfl, h3, h4, h5, h6, h7, h8⟩
  refine ⟨g, cap', cur, rfl, h3, h4, h5, h6, h7, fun E' => ?_⟩
  rw [List.flatMap_append, List.length_map, List.length_append, l1, l2, ← Nat.add_mul, h8]
  refine lit_vrs fun u hu => ?_
  rw [← List.flatMap_append] at hu
  exact flat_encS _ u hu
theorem concatI_bfn (xs ys : List Int) (p1 : 0 < xs.length) (p2 : 0 < ys.length) (q1 : xs.length ≤ 1000) (q2 : ys.length ≤ 1000) :
    BFn Tryz.prog Gd 179 [.sl 2 [.sl xs.length (xs.map vint) .no, .sl ys.length (ys.map vint) .no] .no] (xs.length + ys.length) ((xs ++ ys).map vint) 3 := by
  have l1 : (xs.map (Value.int .i64)).length = xs.length * 1 := by rw [List.length_map, Nat.mul_one]
  have l2 : (ys.map (Value.int .i64)).length = ys.length * 1 := by rw [List.length_map, Nat.mul_one]
  have n1 : xs.map (Value.int .i64) ≠ [] := fun h => by rw [h] at l1; simp at l1; omega
  have n2 : ys.map (Value.int .i64) ≠ [] := fun h => by rw [h] at l2; simp at l2; omega
  rw [encI_cells, encI_cells, encI_cells]
  refine BFn.of_own (by omega) ?_ fun m E w cargs hm hv => ?_
  · rw [V.clean, Bool.and_eq_true]
    constructor
    · have : ∀ l : List Value, V.pures (l.map V.lit) = true := fun l => by
        induction l with
        | nil => rw [List.map_nil, V.pures]
        | cons a l ih => rw [List.map_cons, V.pures, ih, V.pure]; rfl
      exact this _
    · rw [List.all_eq_true]
      intro v hv
      obtain ⟨u, hu, rfl⟩ := List.mem_map.1 hv
      obtain ⟨s, _, rfl⟩ := List.mem_map.1 hu
      rfl
  rw [VRs] at hv
  obtain ⟨c1, t1, e1, h1, h2⟩ := hv
  rw [VRs] at h2
  subst h2
  rw [VR] at h1
  obtain ⟨A, cap, rfl, hcap, _, _, hx⟩ := h1
  obtain ⟨b, o, rfl, ha⟩ := hx.resolve_left (by simp)
  rw [At, At] at ha
  obtain ⟨⟨v1, hM1, hv1⟩, ⟨v2, hM2, hv2⟩, _⟩ := ha
  obtain ⟨a1, cap1, rfl, x1, o1⟩ := row_lit (k := xs.length) (size := 1) hm rfl n1 l1 hv1
  obtain ⟨a2, cap2, rfl, x2, o2⟩ := row_lit (k := ys.length) (size := 1) hm rfl n2 l2 hv2
  obtain rfl : cargs = #[.slice (some ⟨b, o, none⟩) 2 cap] := by apply Array.ext'; rw [e1]
  refine (concatI_any w b o cap a1 a2 xs.length cap1 ys.length cap2 _ _ (hm.stable _ _ _ hM1) (hm.stable _ _ _ hM2) p1 p2 q1 q2 l1 l2 x1 x2 o1 o2).mono ?_
  rintro e w' ⟨g, cap', cur, rfl, h3, h4, h5, h6, h7, h8⟩
  refine ⟨g, cap', cur, rfl, h3, h4, h5, h6, h7, fun E' => ?_⟩
  rw [List.map_append, List.length_map, List.length_append, l1, l2, ← Nat.add_mul, h8]
  refine lit_vrs fun u hu => ?_
  rw [List.mem_append, List.mem_map, List.mem_map] at hu
  rcases hu with ⟨n, _, rfl⟩ | ⟨n, _, rfl⟩ <;> rfl
end Go.Proofs.YtdefefeifcdogaaGreat
namespace Go.Proofs.YtdefefeifcdogaaGreat
open Go.RowKit
set_option maxRecDepth 100000

abbrev c_slices_Compact_api_Sign_api_Sign_p1 : VC := (.seq (.ops 0 [oo 9 .mv [.t 0], oo 2 .mv [.t 9]]) .ret)
abbrev c_slices_Compact_api_Sign_api_Sign_p2 : VC := (.ops 0 [oo 52 .mv [.t 3], oo 53 (.bin .add) [.t 52, kk 1], oo 3 .mv [.t 53]])
abbrev c_slices_Compact_api_Sign_api_Sign_p3 : VC := (.seq (.ops 0 [oo 45 .mv [.t 0], oo 46 .mv [.t 3], oo 47 .mv [.t 4], oo 48 .mv [.t 5], oo 49 (.ixA 3) [.t 47, .t 48], oo 50 (.ldA 3) [.t 49], oo 51 (.ixA 3) [.t 45, .t 46], ⟨none, none, (.st 3), [.t 51, .t 50], none⟩]) c_slices_Compact_api_Sign_api_Sign_p2)
abbrev c_slices_Compact_api_Sign_api_Sign_p4 : VC := (.ops 0 [oo 33 .mv [.t 5], oo 34 (.bin .add) [.t 33, kk 1], oo 5 .mv [.t 34]])
abbrev c_slices_Compact_api_Sign_api_Sign_p5 : VC := (.seq (.block 3 (.seq (.ops 0 [oo 35 .mv [.t 4], oo 36 .mv [.t 5], oo 37 (.ixA 3) [.t 35, .t 36], od 38 (.ldA 3) [.t 37] [0, 1, 2], oo 39 .mv [.t 4], oo 40 .mv [.t 5], oo 41 (.bin .sub) [.t 40, kk 1], oo 42 (.ixA 3) [.t 39, .t 41], od 43 (.ldA 3) [.t 42] [4, 5, 6, 7], oo 44 (.eqP [(0, 0), (1, 1), (2, 1)] true) [.t 38, .t 43]]) (.cond (.t 44) c_slices_Compact_api_Sign_api_Sign_p3 .skip))) c_slices_Compact_api_Sign_api_Sign_p4)
abbrev c_slices_Compact_api_Sign_api_Sign_p6 : VC := (.seq (.seq (.ops 0 [oo 29 .mv [.t 5], oo 30 .mv [.t 4], oo 31 .len [.t 30], oo 32 (.bin .lss) [.t 29, .t 31]]) (.cond (.t 32) .skip (.exit 2))) c_slices_Compact_api_Sign_api_Sign_p5)
@[go_sem] abbrev w_slices_Compact_api_Sign_api_Sign_p6 : Nat := 18014397972611112
abbrev c_slices_Compact_api_Sign_api_Sign_p8 : VC := (.seq (.ops 0 [oo 57 .mv [.t 0], oo 58 .mv [.t 3], oo 59 (.slc 3 false true) [.t 57, .t 58], oo 2 .mv [.t 59]]) .ret)
abbrev c_slices_Compact_api_Sign_api_Sign_p9 : VC := (.seq (.ops 0 [oo 54 .mv [.t 0], oo 55 .mv [.t 3], oo 56 (.slc 3 true false) [.t 54, .t 55], ⟨none, none, (.clr 3 [li 0, (.lit (.bool false)), (.lit (.bool false))]), [.t 56], none⟩]) c_slices_Compact_api_Sign_api_Sign_p8)
abbrev c_slices_Compact_api_Sign_api_Sign_p10 : VC := (.seq (.seq (.ops 0 [oo 5 .mv [kk 1]]) (.block 2 (.loop c_slices_Compact_api_Sign_api_Sign_p6))) c_slices_Compact_api_Sign_api_Sign_p9)
abbrev c_slices_Compact_api_Sign_api_Sign_p11 : VC := (.seq (.ops 0 [oo 26 .mv [.t 0], oo 27 .mv [.t 3], oo 28 (.slc 3 true false) [.t 26, .t 27], oo 4 .mv [.t 28]]) c_slices_Compact_api_Sign_api_Sign_p10)
abbrev c_slices_Compact_api_Sign_api_Sign_p12 : VC := (.cond (.t 25) c_slices_Compact_api_Sign_api_Sign_p11 .skip)
abbrev c_slices_Compact_api_Sign_api_Sign_p13 : VC := (.ops 0 [oo 14 .mv [.t 3], oo 15 (.bin .add) [.t 14, kk 1], oo 3 .mv [.t 15]])
abbrev c_slices_Compact_api_Sign_api_Sign_p14 : VC := (.seq (.block 1 (.seq (.ops 0 [oo 16 .mv [.t 0], oo 17 .mv [.t 3], oo 18 (.ixA 3) [.t 16, .t 17], od 19 (.ldA 3) [.t 18] [0, 1, 2], oo 20 .mv [.t 0], oo 21 .mv [.t 3], oo 22 (.bin .sub) [.t 21, kk 1], oo 23 (.ixA 3) [.t 20, .t 22], od 24 (.ldA 3) [.t 23] [4, 5, 6, 7], oo 25 (.eqP [(0, 0), (1, 1), (2, 1)] false) [.t 19, .t 24]]) c_slices_Compact_api_Sign_api_Sign_p12)) c_slices_Compact_api_Sign_api_Sign_p13)
abbrev c_slices_Compact_api_Sign_api_Sign_p15 : VC := (.seq (.seq (.ops 0 [oo 10 .mv [.t 3], oo 11 .mv [.t 0], oo 12 .len [.t 11], oo 13 (.bin .lss) [.t 10, .t 12]]) (.cond (.t 13) .skip (.exit 0))) c_slices_Compact_api_Sign_api_Sign_p14)
@[go_sem] abbrev w_slices_Compact_api_Sign_api_Sign_p15 : Nat := 1152921504606846012
abbrev c_slices_Compact_api_Sign_api_Sign_p17 : VC := (.seq (.ops 0 [oo 60 .mv [.t 0], oo 2 .mv [.t 60]]) .ret)
abbrev c_slices_Compact_api_Sign_api_Sign_p18 : VC := (.seq (.seq (.ops 0 [oo 3 .mv [kk 1]]) (.block 0 (.loop c_slices_Compact_api_Sign_api_Sign_p15))) c_slices_Compact_api_Sign_api_Sign_p17)
abbrev c_slices_Compact_api_Sign_api_Sign_p19 : VC := (.seq (.seq (.ops 0 [oo 6 .mv [.t 0], oo 7 .len [.t 6], oo 8 (.bin .lss) [.t 7, kk 2]]) (.cond (.t 8) c_slices_Compact_api_Sign_api_Sign_p1 .skip)) c_slices_Compact_api_Sign_api_Sign_p18)
def c_slices_Compact_api_Sign_api_Sign : VC := (.seq (.ops 0 [oo 2 .mv [(.c (.sl 0 [] .exact))]]) c_slices_Compact_api_Sign_api_Sign_p19)
theorem k_slices_Compact_api_Sign_api_Sign : Comp Tryz.prog nobx gtab 177 61 c_slices_Compact_api_Sign_api_Sign [.t 2] := ⟨⟨Tryz.f177, _, Tryz.func177, rfl, rfl, kr, kr⟩⟩
abbrev c_slices_Compact_int_int_p1 : VC := (.seq (.ops 0 [oo 9 .mv [.t 0], oo 2 .mv [.t 9]]) .ret)
abbrev c_slices_Compact_int_int_p2 : VC := (.ops 0 [oo 52 .mv [.t 3], oo 53 (.bin .add) [.t 52, kk 1], oo 3 .mv [.t 53]])
abbrev c_slices_Compact_int_int_p3 : VC := (.seq (.ops 0 [oo 45 .mv [.t 0], oo 46 .mv [.t 3], oo 47 .mv [.t 4], oo 48 .mv [.t 5], oo 49 (.ixA 1) [.t 47, .t 48], oo 50 .ld1 [.t 49], oo 51 (.ixA 1) [.t 45, .t 46], ⟨none, none, (.st 1), [.t 51, .t 50], none⟩]) c_slices_Compact_int_int_p2)
abbrev c_slices_Compact_int_int_p4 : VC := (.ops 0 [oo 33 .mv [.t 5], oo 34 (.bin .add) [.t 33, kk 1], oo 5 .mv [.t 34]])
abbrev c_slices_Compact_int_int_p5 : VC := (.seq (.block 3 (.seq (.ops 0 [oo 35 .mv [.t 4], oo 36 .mv [.t 5], oo 37 (.ixA 1) [.t 35, .t 36], od 38 .ld1 [.t 37] [0, 1, 2], oo 39 .mv [.t 4], oo 40 .mv [.t 5], oo 41 (.bin .sub) [.t 40, kk 1], oo 42 (.ixA 1) [.t 39, .t 41], od 43 .ld1 [.t 42] [4, 5, 6, 7], oo 44 (.bin .neq) [.t 38, .t 43]]) (.cond (.t 44) c_slices_Compact_int_int_p3 .skip))) c_slices_Compact_int_int_p4)
abbrev c_slices_Compact_int_int_p6 : VC := (.seq (.seq (.ops 0 [oo 29 .mv [.t 5], oo 30 .mv [.t 4], oo 31 .len [.t 30], oo 32 (.bin .lss) [.t 29, .t 31]]) (.cond (.t 32) .skip (.exit 2))) c_slices_Compact_int_int_p5)
@[go_sem] abbrev w_slices_Compact_int_int_p6 : Nat := 18014397972611112
abbrev c_slices_Compact_int_int_p8 : VC := (.seq (.ops 0 [oo 57 .mv [.t 0], oo 58 .mv [.t 3], oo 59 (.slc 1 false true) [.t 57, .t 58], oo 2 .mv [.t 59]]) .ret)
abbrev c_slices_Compact_int_int_p9 : VC := (.seq (.ops 0 [oo 54 .mv [.t 0], oo 55 .mv [.t 3], oo 56 (.slc 1 true false) [.t 54, .t 55], ⟨none, none, (.clr 1 [li 0]), [.t 56], none⟩]) c_slices_Compact_int_int_p8)
abbrev c_slices_Compact_int_int_p10 : VC := (.seq (.seq (.ops 0 [oo 5 .mv [kk 1]]) (.block 2 (.loop c_slices_Compact_int_int_p6))) c_slices_Compact_int_int_p9)
abbrev c_slices_Compact_int_int_p11 : VC := (.seq (.ops 0 [oo 26 .mv [.t 0], oo 27 .mv [.t 3], oo 28 (.slc 1 true false) [.t 26, .t 27], oo 4 .mv [.t 28]]) c_slices_Compact_int_int_p10)
abbrev c_slices_Compact_int_int_p12 : VC := (.ops 0 [oo 14 .mv [.t 3], oo 15 (.bin .add) [.t 14, kk 1], oo 3 .mv [.t 15]])
abbrev c_slices_Compact_int_int_p13 : VC := (.seq (.block 1 (.seq (.ops 0 [oo 16 .mv [.t 0], oo 17 .mv [.t 3], oo 18 (.ixA 1) [.t 16, .t 17], od 19 .ld1 [.t 18] [0, 1, 2], oo 20 .mv [.t 0], oo 21 .mv [.t 3], oo 22 (.bin .sub) [.t 21, kk 1], oo 23 (.ixA 1) [.t 20, .t 22], od 24 .ld1 [.t 23] [4, 5, 6, 7], oo 25 (.bin .eql) [.t 19, .t 24]]) (.cond (.t 25) c_slices_Compact_int_int_p11 .skip))) c_slices_Compact_int_int_p12)
abbrev c_slices_Compact_int_int_p14 : VC := (.seq (.seq (.ops 0 [oo 10 .mv [.t 3], oo 11 .mv [.t 0], oo 12 .len [.t 11], oo 13 (.bin .lss) [.t 10, .t 12]]) (.cond (.t 13) .skip (.exit 0))) c_slices_Compact_int_int_p13)
@[go_sem] abbrev w_slices_Compact_int_int_p14 : Nat := 1152921504606846012
abbrev c_slices_Compact_int_int_p16 : VC := (.seq (.ops 0 [oo 60 .mv [.t 0], oo 2 .mv [.t 60]]) .ret)
abbrev c_slices_Compact_int_int_p17 : VC := (.seq (.seq (.ops 0 [oo 3 .mv [kk 1]]) (.block 0 (.loop c_slices_Compact_int_int_p14))) c_slices_Compact_int_int_p16)
abbrev c_slices_Compact_int_int_p18 : VC := (.seq (.seq (.ops 0 [oo 6 .mv [.t 0], oo 7 .len [.t 6], oo 8 (.bin .lss) [.t 7, kk 2]]) (.cond (.t 8) c_slices_Compact_int_int_p1 .skip)) c_slices_Compact_int_int_p17)
def c_slices_Compact_int_int : VC := (.seq (.ops 0 [oo 2 .mv [(.c (.sl 0 [] .exact))]]) c_slices_Compact_int_int_p18)
theorem k_slices_Compact_int_int : Comp Tryz.prog nobx gtab 181 61 c_slices_Compact_int_int [.t 2] := ⟨⟨Tryz.f181, _, Tryz.func181, rfl, rfl, kr, kr⟩⟩
abbrev c_leaf_merged_api_Sign_b_p1 : VC := (.seq (.ops 0 [oo 15 .mv [.t 7], oo 16 (.call 177) [.t 15], oo 6 .mv [.t 16]]) .ret)
abbrev c_leaf_merged_api_Sign_b_p2 : VC := (.seq (.ops 0 [oo 12 .mv [.t 7], oo 13 .mv [.t 2], oo 14 (.call 176) [.t 12, .t 13]]) c_leaf_merged_api_Sign_b_p1)
abbrev c_leaf_merged_api_Sign_b_p3 : VC := (.seq (.ops 5 [oo 8 .mv [.t 0], oo 9 .mv [.t 1], ⟨(some 10), none, (.mksl 2 1 [(.sl 0 [] .exact), (.sl 0 [] .exact)] [(0, 1), (1, 1)]), [.t 8, .t 9], none⟩, oo 11 (.callB 175) [.t 10], oo 7 .mv [.t 11]]) c_leaf_merged_api_Sign_b_p2)
def c_leaf_merged_api_Sign_b : VC := (.seq (.ops 0 [oo 6 .mv [(.c (.sl 0 [] .exact))]]) c_leaf_merged_api_Sign_b_p3)
theorem k_leaf_merged_api_Sign_b : Comp Tryz.prog (fun n => [11].contains n) gtab 117 17 c_leaf_merged_api_Sign_b [.t 6] := ⟨⟨Tryz.f117, _, Tryz.func117, rfl, rfl, kr, kr⟩⟩
abbrev c_leaf_merged_int_b_p1 : VC := (.seq (.ops 0 [oo 15 .mv [.t 7], oo 16 (.call 181) [.t 15], oo 6 .mv [.t 16]]) .ret)
abbrev c_leaf_merged_int_b_p2 : VC := (.seq (.ops 0 [oo 12 .mv [.t 7], oo 13 .mv [.t 2], oo 14 (.call 180) [.t 12, .t 13]]) c_leaf_merged_int_b_p1)
abbrev c_leaf_merged_int_b_p3 : VC := (.seq (.ops 5 [oo 8 .mv [.t 0], oo 9 .mv [.t 1], ⟨(some 10), none, (.mksl 2 1 [(.sl 0 [] .exact), (.sl 0 [] .exact)] [(0, 1), (1, 1)]), [.t 8, .t 9], none⟩, oo 11 (.callB 179) [.t 10], oo 7 .mv [.t 11]]) c_leaf_merged_int_b_p2)
def c_leaf_merged_int_b : VC := (.seq (.ops 0 [oo 6 .mv [(.c (.sl 0 [] .exact))]]) c_leaf_merged_int_b_p3)
theorem k_leaf_merged_int_b : Comp Tryz.prog (fun n => [11].contains n) gtab 120 17 c_leaf_merged_int_b [.t 6] := ⟨⟨Tryz.f120, _, Tryz.func120, rfl, rfl, kr, kr⟩⟩
end Go.Proofs.YtdefefeifcdogaaGreat
namespace Go.Proofs.YtdefefeifcdogaaGreat
open Go.RowKit
set_option linter.unusedSimpArgs false
set_option linter.unusedVariables false

section
variable {α : Type} {enc : α → List V} {k : Nat}
theorem splice_set (hk : ∀ x, (enc x).length = k) : ∀ (D : List α) (i : Nat) (y : α), i < D.length → splice (D.flatMap enc) (i * k) (enc y) = (D.set i y).flatMap enc
  | [], i, y, h => by simp at h
  | d :: D, 0, y, _ => by
    unfold splice
    rw [List.flatMap_cons, List.set_cons_zero, List.flatMap_cons, Nat.zero_mul, List.take_zero, hk, Nat.zero_add, List.drop_left' (hk d)]
    rfl
  | d :: D, i + 1, y, h => by
    have ih := splice_set hk D i y (by simpa using h)
    unfold splice at ih ⊢
    rw [List.flatMap_cons, List.set_cons_succ, List.flatMap_cons, ← ih]
    have h1 : (i + 1) * k = (enc d).length + i * k := by rw [hk, Nat.add_mul, Nat.one_mul]; omega
    rw [h1, List.take_length_add_append, show (enc d).length + i * k + (enc y).length = (enc d).length + (i * k + (enc y).length) by omega, List.drop_length_add_append]
    simp
theorem flat_lenV (hk : ∀ x, (enc x).length = k) : ∀ l : List α, (l.flatMap enc).length = l.length * k
  | [] => by simp
  | x :: l => by rw [List.flatMap_cons, List.length_append, hk, flat_lenV hk l, List.length_cons, Nat.add_mul, Nat.one_mul]; omega
theorem splice_tail (hk : ∀ x, (enc x).length = k) (D Z : List α) (i : Nat) (h : i + Z.length = D.length) : splice (D.flatMap enc) (i * k) (Z.flatMap enc) = (D.take i ++ Z).flatMap enc := by
  unfold splice
  have e : D.flatMap enc = (D.take i).flatMap enc ++ (D.drop i).flatMap enc := by rw [← List.flatMap_append, List.take_append_drop]
  have h1 : ((D.take i).flatMap enc).length = i * k := by rw [flat_lenV hk, List.length_take, Nat.min_eq_left (by omega)]
  have h2 : (Z.flatMap enc).length = Z.length * k := flat_lenV hk Z
  have h3 : (D.flatMap enc).length = D.length * k := flat_lenV hk D
  rw [List.drop_of_length_le (by rw [h2, h3, ← h, Nat.add_mul]; omega), List.append_nil, List.flatMap_append]
  congr 1
  rw [e, List.take_left' h1]
theorem rep_flat (z : α) (n : Nat) : List.flatten (List.replicate n (enc z)) = (List.replicate n z).flatMap enc := by
  induction n with
  | zero => rfl
  | succ n ih => rw [List.replicate_succ, List.replicate_succ, List.flatten_cons, List.flatMap_cons, ih]
end
theorem set_getD_ne {α : Type} [Inhabited α] {l : List α} {i j : Nat} {x : α} (h : i ≠ j) : (l.set i x).getD j default = l.getD j default := by
  rw [List.getD_eq_getElem?_getD, List.getElem?_set, if_neg h, ← List.getD_eq_getElem?_getD]
section
variable {α : Type} [Inhabited α] [DecidableEq α]
/-- K elements are gone through; kk of them stay. -/
structure CmpI (d e : List α) (K kk : Nat) : Prop where
  len : e.length = d.length
  le : K ≤ d.length
  eq : kk = (cmpU d K).length
  lt : kk < K
  low : e.take kk = cmpU d K
  high : ∀ i, K - 1 ≤ i → e.getD i default = d.getD i default
theorem CmpI.skip {d e : List α} {K kk : Nat} (h : CmpI d e K kk) (hK : K < d.length) (hk : keepA d K = false) : CmpI d e (K + 1) kk := by
  have hc : cmpU d (K + 1) = cmpU d K := by rw [cmpU, if_neg (by rw [hk]; simp), List.append_nil]
  exact ⟨h.len, hK, by rw [hc]; exact h.eq, by have := h.lt; omega, by rw [hc]; exact h.low, fun i hi => h.high i (by omega)⟩
theorem CmpI.keep {d e : List α} {K kk : Nat} (h : CmpI d e K kk) (hK : K < d.length) (hk : keepA d K = true) : CmpI d (e.set kk (d.getD K default)) (K + 1) (kk + 1) := by
  have hc : cmpU d (K + 1) = cmpU d K ++ [d.getD K default] := by rw [cmpU, if_pos hk]
  have hl := h.lt
  have he := h.len
  refine ⟨by rw [List.length_set]; exact h.len, hK, by rw [hc, List.length_append, ← h.eq]; rfl, by omega, ?_, fun i hi => ?_⟩
  · rw [hc, ← h.low, List.take_add_one, List.getElem?_set, if_pos rfl, if_pos (by omega)]
    congr 1
    rw [List.take_set, List.set_eq_of_length_le (by rw [List.length_take]; omega)]
  · rw [set_getD_ne (by omega)]
    exact h.high i (by omega)
theorem CmpI.start {d : List α} {k : Nat} (h1 : 1 ≤ k) (hk : k < d.length) (hall : ∀ i, i < k → keepA d i = true) (hd : keepA d k = false) : CmpI d d (k + 1) k := by
  have hc : cmpU d (k + 1) = d.take k := by rw [cmpU, if_neg (by rw [hd]; simp), List.append_nil, cmpU_all d k (by omega) hall]
  exact ⟨rfl, hk, by rw [hc, List.length_take]; omega, by omega, by rw [hc], fun _ _ => rfl⟩
theorem keepA_of {d : List α} {i : Nat} (h : 0 < i) : keepA d i = decide (d.getD i default ≠ d.getD (i - 1) default) := by
  rw [keepA, decide_eq_false (by omega), Bool.false_or]
theorem keepA_zero (d : List α) {i : Nat} (h : i < 1) : keepA d i = true := by
  rw [keepA, decide_eq_true (by omega), Bool.true_or]
end
end Go.Proofs.YtdefefeifcdogaaGreat
namespace Go.Proofs.YtdefefeifcdogaaGreat
open Go.RowKit
set_option linter.unusedSimpArgs false
set_option linter.unusedVariables false

theorem x_clr {P : Program} {G : Ground} {base i : Nat} {d : Option Nat} {xs : List Opd} {l : List VI} {s : St} {K : St → Prop} {q off n cap size : Nat} {z cs : List V} {t : TypeId} (hv : xs.map s.ev = [.bsl q off n cap]) (ho : s.m.obj q = some (.box cs t)) (hz : z.length = size) (hf : off + n * size ≤ cs.length)
    (h : goR P G base (some ⟨putT s.t d vund, s.m.put q (.box (splice cs off (List.flatten (List.replicate n z))) t)⟩) l (i + 1) K) : vrun P G base i (⟨d, none, .clr size z, xs, none⟩ :: l) s K := by
  rw [vrun]
  unfold vstep VI.on
  simp only [if_true, sem, hv, ho]
  exact ⟨⟨hz, hf⟩, goR_vrun l (i + 1) _ h⟩
theorem sgs_oneV (l : List Sg) : (l.flatMap Sg.cells).all V.one = true := by
  rw [List.all_eq_true]
  intro v hv
  obtain ⟨x, _, hx⟩ := List.mem_flatMap.1 hv
  simp only [Sg.cells, List.mem_cons, List.not_mem_nil, or_false] at hx
  rcases hx with rfl | rfl | rfl <;> rfl
theorem sg_neq {x y : Sg} (h : x ≠ y) : (x.v == y.v && (x.d == y.d && (x.t == y.t && true))) = false := by
  obtain ⟨v, d, t⟩ := x
  obtain ⟨v', d', t'⟩ := y
  have : (v == v' && (d == d' && t == t')) = false := by
    rw [Bool.eq_false_iff]
    intro e
    rw [Bool.and_eq_true, Bool.and_eq_true, beq_iff_eq, beq_iff_eq, beq_iff_eq] at e
    exact h (by rw [e.1, e.2.1, e.2.2])
  rw [Bool.and_true]
  exact this
theorem vslc_lo {size q off n cap k : Nat} (h1 : k ≤ n) (h2 : n ≤ cap) (h3 : k < cap) : vslc size true false (.bsl q off n cap) [V.lit (.int .i64 (k : Int))] = some (.bsl q (off + k * size) (n - k) (cap - k)) := by
  simp only [vslc, bnds, if_true, Bool.false_eq_true, if_false]
  rw [if_pos ⟨by omega, by omega, by omega⟩, if_pos (.inl (by omega))]
  rfl
theorem vslc_hi {size q off n cap k : Nat} (h1 : k ≤ cap) (h3 : 0 < cap) : vslc size false true (.bsl q off n cap) [V.lit (.int .i64 (k : Int))] = some (.bsl q off k cap) := by
  simp only [vslc, bnds, if_true, Bool.false_eq_true, if_false]
  rw [if_pos ⟨by omega, by omega, by omega⟩, if_pos (.inr trivial)]
  simp
/-- What Compact leaves of a row of signs. -/
def CmpPS (d : List Sg) (q : Nat) (m : Mm) (r : V) (m' : Mm) : Prop := r = .bsl q 0 (cmpU d d.length).length d.length ∧ ((∀ j, j < m.next → j ≠ q → m'.obj j = m.obj j) ∧ m.next ≤ m'.next) ∧ m'.obj q = some (.box ((cmpU d d.length ++ List.replicate (d.length - (cmpU d d.length).length) default).flatMap Sg.cells) 110)
theorem CmpPS.ne (d : List Sg) {q : Nat} (m : Mm) : ∃ r m', CmpPS d q m r m' := ⟨_, m.put q (.box ((cmpU d d.length ++ List.replicate (d.length - (cmpU d d.length).length) default).flatMap Sg.cells) 110), rfl, ⟨fun j _ hj => if_neg hj, Nat.le_refl _⟩, by exact if_pos rfl⟩
set_option maxHeartbeats 2000000 in
theorem compactS_sfn {m : Mm} {q : Nat} (d : List Sg) (hq : q < m.next) (hl : d.length ≤ 1000000) (ho : m.obj q = some (.box (d.flatMap Sg.cells) 110)) :
    SFn Tryz.prog Gd 177 [.bsl q 0 d.length d.length] m (CmpPS d q m) := by
  refine SFn.of_vxS k_slices_Compact_api_Sign_api_Sign (by simp) ?_
  unfold c_slices_Compact_api_Sign_api_Sign
  have hl0 := Hid.mk hl
  have hq0 := Hid.mk hq
  have ho0 := Hid.mk ho
  clear hl hq ho
  by_cases h2 : d.length < 2
  · have c1 : (d.length : Int) < 2 := by omega
    have he := Hid.mk (cmpU_all d d.length (Nat.le_refl _) fun i hi => by
      rcases Nat.eq_zero_or_pos i with h | h
      · exact keepA_zero d (by omega)
      · omega)
    clear h2
    repeat' (with_reducible first | refine x_ops ?_ | refine wk ?_ | ((first | refine gd1 ?_ ?_ | refine gd2 ?_ ?_ | refine gd3 ?_ ?_) <;> (first | exact @False.elim _ | intro hc)))
    refine finS_ret vv ⟨?_, ⟨fun _ _ _ => rfl, Nat.le_refl _⟩, ?_⟩
    · rw [he.out, List.take_length]
    · rw [he.out, List.take_length, Nat.sub_self, List.replicate_zero, List.append_nil]; exact ho0.out
  have c1 : ¬ (d.length : Int) < 2 := by omega
  have h20 := Hid.mk h2
  clear h2
  repeat' (with_reducible first | refine x_ops ?_ | refine wk ?_ | ((first | refine gd1 ?_ ?_ | refine gd2 ?_ ?_ | refine gd3 ?_ ?_) <;> (first | exact @False.elim _ | intro hc)))
  refine x_loopW w_slices_Compact_api_Sign_api_Sign_p15 kr (d.length - 1) (fun k t m1 => t 3 = vint ((k + 1 : Nat) : Int) ∧ (∀ i, i < k + 1 → keepA d i = true) ∧ m.next ≤ m1.next ∧ ∀ j, j < m.next → m1.obj j = m.obj j) ?_ ?_
  · exact ⟨vv, fun i hi => keepA_zero d (by omega), Nat.le_refl _, fun _ _ => rfl⟩
  rintro k t m1 hk ⟨h3, hall, hnx, hfr⟩
  have hq1 : q < m1.next := by have := hq0.out; omega
  have ho1 : m1.obj q = some (.box (d.flatMap Sg.cells) 110) := (hfr q hq0.out).trans ho0.out
  have h2 := h20.out
  by_cases hlt : k + 1 < d.length
  case neg =>
    have hkl : k + 1 = d.length := by omega
    have d1 : ¬ ((k + 1 : Nat) : Int) < (d.length : Int) := by omega
    have he := Hid.mk ((cmpU_all d d.length (Nat.le_refl _) (by rw [← hkl]; exact hall)).trans List.take_length)
    have hnx0 := Hid.mk hnx
    have hfr0 := Hid.mk hfr
    have ho10 := Hid.mk ho1
    clear hlt hk hkl hall h2 hnx hfr
    repeat' (with_reducible first | refine x_ops ?_ | refine wk ?_ | ((first | refine gd1 ?_ ?_ | refine gd2 ?_ ?_ | refine gd3 ?_ ?_) <;> (first | exact @False.elim _ | intro hc)))
    refine finS_ret vv ⟨?_, ⟨fun j hj _ => hfr0.out j hj, by have := hnx0.out; show m.next ≤ m1.next; omega⟩, ?_⟩
    · rw [he.out]
    · rw [he.out, Nat.sub_self, List.replicate_zero, List.append_nil]; exact ho10.out
  have d1 : ((k + 1 : Nat) : Int) < (d.length : Int) := by omega
  have g1 := sg_take (l := d) (k := k + 1) hlt
  have g2 := sg_take (l := d) (k := k) (by omega)
  have g3 := sgs_len d
  have c3 : (k + 1) * 3 + 3 ≤ d.length * 3 := by omega
  have c4 : k * 3 + 3 ≤ d.length * 3 := by omega
  have kd : k < d.length := by omega
  have d2 : (k : Int) < (d.length : Int) := by omega
  have w1 := w_add1 (k := k + 1) (by have := hl0.out; omega)
  have w2 : IntKind.i64.wrap (((k + 1 : Nat) : Int) - 1) = (k : Int) := by rw [IntWalk.i64_in _ (by have := hl0.out; omega)]; omega
  have hlt0 := Hid.mk hlt
  have hk0 : k < d.length - 1 := by omega
  have hk00 := Hid.mk hk0
  have hall0 := Hid.mk hall
  have hnx0 := Hid.mk hnx
  have hfr0 := Hid.mk hfr
  have hkp := keepA_of (d := d) (i := k + 1) (by omega)
  rw [Nat.add_sub_cancel] at hkp
  generalize hx : d.getD (k + 1) default = x at *
  generalize hy : d.getD k default = y at *
  replace hx := Hid.mk hx
  replace hy := Hid.mk hy
  clear hlt hk hall h2 hnx hfr hk0
  by_cases hxy : x = y
  case neg =>
    have e1 := sg_neq hxy
    have hkp1 := Hid.mk (hkp.trans (decide_eq_true hxy))
    clear hkp hxy
    obtain ⟨v, dd, tt⟩ := x
    obtain ⟨v', d', t'⟩ := y
    dsimp only at e1 g1 g2
    repeat' (with_reducible first | refine x_ops ?_ | simp only [go_sem, Nat.reduceAdd, Nat.reduceEqDiff, Nat.reduceLT, Nat.reduceLeDiff, Nat.reduceMul, Nat.reduceSub, Nat.reducePow, Nat.reduceDiv, Nat.reduceMod, Nat.reduceBEq, Int.reduceBEq, Int.reduceLT, reduceIte, tIs, tBs, tPs, e1, *] | ((first | refine gd1 ?_ ?_ | refine gd2 ?_ ?_ | refine gd3 ?_ ?_) <;> (first | exact @False.elim _ | intro hc)))
    refine nx hk00.out ⟨vv, fun i hi => ?_, ?_, fun j hj => ?_⟩
    · by_cases e : i = k + 1
      · rw [e]; exact hkp1.out
      · exact hall0.out i (by omega)
    · have := hnx0.out
      first
        | (show m.next ≤ m1.next; omega)
        | (show m.next ≤ m1.next + _; omega)
    · exact hfr0.out j hj
  subst hxy
  have hkp1 := hkp.trans (decide_eq_false (by simp))
  have hI := CmpI.start (d := d) (k := k + 1) (by omega) hlt0.out hall0.out hkp1
  replace hI := Hid.mk hI
  clear hkp hkp1
  obtain ⟨v, dd, tt⟩ := x
  dsimp only at g1 g2
  have s1 := vslc_lo (size := 3) (q := q) (off := 0) (n := d.length) (cap := d.length) (k := k + 1) (by have := hlt0.out; omega) (Nat.le_refl _) hlt0.out
  repeat' (with_reducible first | refine x_ops ?_ | simp only [go_sem, Nat.reduceAdd, Nat.reduceEqDiff, Nat.reduceLT, Nat.reduceLeDiff, Nat.reduceMul, Nat.reduceSub, Nat.reducePow, Nat.reduceDiv, Nat.reduceMod, Nat.reduceBEq, Int.reduceBEq, Int.reduceLT, reduceIte, tIs, tBs, tPs, s1, *] | ((first | refine gd1 ?_ ?_ | refine gd2 ?_ ?_ | refine gd3 ?_ ?_) <;> (first | exact @False.elim _ | intro hc)))
  refine x_loopW w_slices_Compact_api_Sign_api_Sign_p6 kr (d.length - (k + 1) - 1) (fun u t' m' => t' 5 = vint ((u + 1 : Nat) : Int) ∧ (∃ (kk : Nat) (e : List Sg), t' 3 = vint (kk : Int) ∧ CmpI d e (k + 1 + (u + 1)) kk ∧ m'.obj q = some (.box (e.flatMap Sg.cells) 110)) ∧ m.next ≤ m'.next ∧ ∀ j, j < m.next → j ≠ q → m'.obj j = m.obj j) ?_ ?_
  · exact ⟨vv, ⟨k + 1, d, vw, hI.out, ho1⟩, hnx0.out, fun j hj _ => hfr0.out j hj⟩
  clear g1 g2 g3 c3 c4 s1 ho1 hq1 h3 w1 w2 kd d1 d2 hx hy hI hall0
  rintro u t2 m2 hu ⟨h5, ⟨kk, e, h3, hI, ho2⟩, hnx2, hfr2⟩
  have hlt1 := hlt0.out
  have hkl := hI.lt
  have hle := hI.le
  have hel := hI.len
  have hq2 : q < m2.next := by have := hq0.out; omega
  have g3 := sgs_len e
  rw [hel] at g3
  have hnx20 := Hid.mk hnx2
  have hfr20 := Hid.mk hfr2
  have b1 : (kk : Int) < (d.length : Int) := by omega
  have b2 : kk < d.length := by omega
  by_cases hlt2 : k + 1 + (u + 1) < d.length
  case neg =>
    have hK : k + 1 + (u + 1) = d.length := by omega
    have d3 : ¬ ((u + 1 : Nat) : Int) < ((d.length - (k + 1) : Nat) : Int) := by omega
    have s1 := vslc_lo (size := 3) (q := q) (off := 0) (n := d.length) (cap := d.length) (k := kk) (by omega) (Nat.le_refl _) b2
    have s2 := vslc_hi (size := 3) (q := q) (off := 0) (n := d.length) (cap := d.length) (k := kk) (by omega) (by omega)
    rw [hK] at hI
    have hI0 := Hid.mk hI
    have hel0 := Hid.mk hel
    have b20 := Hid.mk b2
    have g30 := Hid.mk g3
    clear hlt2 hu hlt1 hkl hle hel hnx2 hfr2 hI hK
    repeat' (with_reducible first | refine x_ops ?_ | simp only [go_sem, Nat.reduceAdd, Nat.reduceEqDiff, Nat.reduceLT, Nat.reduceLeDiff, Nat.reduceMul, Nat.reduceSub, Nat.reducePow, Nat.reduceDiv, Nat.reduceMod, Nat.reduceBEq, Int.reduceBEq, Int.reduceLT, reduceIte, tIs, tBs, tPs, s1, s2, *] | ((first | refine gd1 ?_ ?_ | refine gd2 ?_ ?_ | refine gd3 ?_ ?_) <;> (first | exact @False.elim _ | intro hc)))
    refine x_clr (q := q) (off := kk * 3) (n := d.length - kk) (cap := d.length - kk) (cs := e.flatMap Sg.cells) (t := 110) vw vw rfl (by rw [g30.out]; have := b20.out; omega) ?_
    have hsp : splice (e.flatMap Sg.cells) (kk * 3) (List.flatten (List.replicate (d.length - kk) [V.lit (.int .i64 0), V.lit (.bool false), V.lit (.bool false)])) = (cmpU d d.length ++ List.replicate (d.length - kk) default).flatMap Sg.cells := by
      rw [show [V.lit (.int .i64 0), V.lit (.bool false), V.lit (.bool false)] = Sg.cells default from rfl, rep_flat, splice_tail sg_len _ _ _ (by rw [List.length_replicate, hel0.out]; have := b20.out; omega), hI0.out.low]
    replace hsp := Hid.mk hsp
    repeat' (with_reducible first | refine x_ops ?_ | simp only [go_sem, Nat.reduceAdd, Nat.reduceEqDiff, Nat.reduceLT, Nat.reduceLeDiff, Nat.reduceMul, Nat.reduceSub, Nat.reducePow, Nat.reduceDiv, Nat.reduceMod, Nat.reduceBEq, Int.reduceBEq, Int.reduceLT, reduceIte, tIs, tBs, tPs, s1, s2, *] | ((first | refine gd1 ?_ ?_ | refine gd2 ?_ ?_ | refine gd3 ?_ ?_) <;> (first | exact @False.elim _ | intro hc)))
    refine finS_ret vv ⟨?_, ⟨fun j hj hjq => ?_, ?_⟩, ?_⟩
    · rw [← hI0.out.eq]
    · exact (if_neg hjq).trans (hfr20.out j hj hjq)
    · have := hnx20.out
      first
        | (show m.next ≤ m2.next; omega)
        | (show m.next ≤ m2.next + _; omega)
    · rw [← hI0.out.eq, ← hsp.out]
      exact if_pos rfl
  have d3 : ((u + 1 : Nat) : Int) < ((d.length - (k + 1) : Nat) : Int) := by omega
  have d4 : (u : Int) < ((d.length - (k + 1) : Nat) : Int) := by omega
  have d5 : u + 1 < d.length - (k + 1) := by omega
  have d6 : u < d.length - (k + 1) := by omega
  have g1 := sg_take (l := e) (k := k + 1 + (u + 1)) (by omega)
  have g2 := sg_take (l := e) (k := k + 1 + u) (by omega)
  rw [hI.high (k + 1 + (u + 1)) (by omega), Nat.add_mul] at g1
  rw [hI.high (k + 1 + u) (by omega), Nat.add_mul] at g2
  have c3 : (k + 1) * 3 + (u + 1) * 3 + 3 ≤ d.length * 3 := by omega
  have c4 : (k + 1) * 3 + u * 3 + 3 ≤ d.length * 3 := by omega
  have c5 : kk * 3 + 3 ≤ d.length * 3 := by omega
  have c6 : (k + 1) * 3 + ((u + 1) * 3 + 3) ≤ d.length * 3 := by omega
  have c7 : (k + 1) * 3 + (u * 3 + 3) ≤ d.length * 3 := by omega
  have w1 := w_add1 (k := u + 1) (by have := hl0.out; omega)
  have w3 := w_add1 (k := kk) (by have := hl0.out; omega)
  have w2 : IntKind.i64.wrap (((u + 1 : Nat) : Int) - 1) = (u : Int) := by rw [IntWalk.i64_in _ (by have := hl0.out; omega)]; omega
  have hkp := keepA_of (d := d) (i := k + 1 + (u + 1)) (by omega)
  rw [show k + 1 + (u + 1) - 1 = k + 1 + u by omega] at hkp
  have hsk := hI.skip hlt2
  have hkeep := hI.keep hlt2
  have hset := splice_set sg_len e kk (d.getD (k + 1 + (u + 1)) default) (by omega)
  have hu0 : u < d.length - (k + 1) - 1 := by omega
  have hu00 := Hid.mk hu0
  generalize d.getD (k + 1 + (u + 1)) default = x at *
  generalize d.getD (k + 1 + u) default = y at *
  replace hsk := Hid.mk hsk
  replace hkeep := Hid.mk hkeep
  replace hset := Hid.mk hset
  clear hlt2 hu hlt1 hkl hle hel hnx2 hfr2 hI hu0
  by_cases hxy : x = y
  · subst hxy
    have hk1 := Hid.mk (hsk.out (hkp.trans (decide_eq_false (by simp))))
    clear hkp hsk hkeep hset
    obtain ⟨v, dd, tt⟩ := x
    dsimp only at g1 g2
    repeat' (with_reducible first | refine x_ops ?_ | refine wk ?_ | ((first | refine gd1 ?_ ?_ | refine gd2 ?_ ?_ | refine gd3 ?_ ?_) <;> (first | exact @False.elim _ | intro hc)))
    refine nx hu00.out ⟨vv, ⟨kk, e, vw, by have h := hk1.out; rwa [show k + 1 + (u + 1) + 1 = k + (1 + (u + 1 + 1)) by omega] at h, ?_⟩, ?_, fun j hj hjq => ?_⟩
    · exact ho2
    · have := hnx20.out
      first
        | (show m.next ≤ m2.next; omega)
        | (show m.next ≤ m2.next + _; omega)
    · exact hfr20.out j hj hjq
  · have e1 := sg_neq hxy
    have hk1 := Hid.mk (hkeep.out (hkp.trans (decide_eq_true hxy)))
    clear hkp hsk hkeep hxy
    obtain ⟨v, dd, tt⟩ := x
    obtain ⟨v', d', t'⟩ := y
    dsimp only at e1 g1 g2
    repeat' (with_reducible first | refine x_ops ?_ | simp only [go_sem, Nat.reduceAdd, Nat.reduceEqDiff, Nat.reduceLT, Nat.reduceLeDiff, Nat.reduceMul, Nat.reduceSub, Nat.reducePow, Nat.reduceDiv, Nat.reduceMod, Nat.reduceBEq, Int.reduceBEq, Int.reduceLT, reduceIte, tIs, tBs, tPs, e1, *] | ((first | refine gd1 ?_ ?_ | refine gd2 ?_ ?_ | refine gd3 ?_ ?_) <;> (first | exact @False.elim _ | intro hc)))
    refine nx hu00.out ⟨vv, ⟨kk + 1, e.set kk ⟨v, dd, tt⟩, vw, by have h := hk1.out; rwa [show k + 1 + (u + 1) + 1 = k + (1 + (u + 1 + 1)) by omega] at h, ?_⟩, ?_, fun j hj hjq => ?_⟩
    · rw [← hset.out]
      exact if_pos rfl
    · have := hnx20.out
      first
        | (show m.next ≤ m2.next; omega)
        | (show m.next ≤ m2.next + _; omega)
    · exact (if_neg hjq).trans (hfr20.out j hj hjq)
end Go.Proofs.YtdefefeifcdogaaGreat
namespace Go.Proofs.YtdefefeifcdogaaGreat
open Go.RowKit
set_option linter.unusedSimpArgs false
set_option linter.unusedVariables false

theorem map_vint (l : List Int) : l.map vint = l.flatMap fun x => [vint x] := by
  induction l with
  | nil => rfl
  | cons a l ih => rw [List.map_cons, List.flatMap_cons, ih]; rfl
theorem ints_atD {l : List Int} {k : Nat} (h : k < l.length) : (l.map vint)[k]? = some (V.lit (.int .i64 (l.getD k default))) := ints_at h
theorem splice_setI (D : List Int) (i : Nat) (y : Int) (h : i < D.length) : splice (D.map vint) i [vint y] = (D.set i y).map vint := by
  have := splice_set (enc := fun x => [vint x]) (k := 1) (fun _ => rfl) D i y h
  rw [Nat.mul_one] at this
  rw [map_vint, map_vint]
  exact this
theorem splice_tailI (D Z : List Int) (i : Nat) (h : i + Z.length = D.length) : splice (D.map vint) i (Z.map vint) = (D.take i ++ Z).map vint := by
  have := splice_tail (enc := fun x => [vint x]) (k := 1) (fun _ => rfl) D Z i h
  rw [Nat.mul_one] at this
  rw [map_vint, map_vint, map_vint]
  exact this
/-- What Compact leaves of a row of numbers. -/
def CmpPI (d : List Int) (q : Nat) (m : Mm) (r : V) (m' : Mm) : Prop := r = .bsl q 0 (cmpU d d.length).length d.length ∧ ((∀ j, j < m.next → j ≠ q → m'.obj j = m.obj j) ∧ m.next ≤ m'.next) ∧ m'.obj q = some (.box ((cmpU d d.length ++ List.replicate (d.length - (cmpU d d.length).length) default).map vint) 3)
theorem CmpPI.ne (d : List Int) {q : Nat} (m : Mm) : ∃ r m', CmpPI d q m r m' := ⟨_, m.put q (.box ((cmpU d d.length ++ List.replicate (d.length - (cmpU d d.length).length) default).map vint) 3), rfl, ⟨fun j _ hj => if_neg hj, Nat.le_refl _⟩, by exact if_pos rfl⟩
set_option maxHeartbeats 2000000 in
theorem compactI_sfn {m : Mm} {q : Nat} (d : List Int) (hq : q < m.next) (hl : d.length ≤ 1000000) (ho : m.obj q = some (.box (d.map vint) 3)) :
    SFn Tryz.prog Gd 181 [.bsl q 0 d.length d.length] m (CmpPI d q m) := by
  refine SFn.of_vxS k_slices_Compact_int_int (by simp) ?_
  unfold c_slices_Compact_int_int
  have hl0 := Hid.mk hl
  have hq0 := Hid.mk hq
  have ho0 := Hid.mk ho
  clear hl hq ho
  by_cases h2 : d.length < 2
  · have c1 : (d.length : Int) < 2 := by omega
    have he := Hid.mk (cmpU_all d d.length (Nat.le_refl _) fun i hi => by
      rcases Nat.eq_zero_or_pos i with h | h
      · exact keepA_zero d (by omega)
      · omega)
    clear h2
    repeat' (with_reducible first | refine x_ops ?_ | refine wk ?_ | ((first | refine gd1 ?_ ?_ | refine gd2 ?_ ?_ | refine gd3 ?_ ?_) <;> (first | exact @False.elim _ | intro hc)))
    refine finS_ret vv ⟨?_, ⟨fun _ _ _ => rfl, Nat.le_refl _⟩, ?_⟩
    · rw [he.out, List.take_length]
    · rw [he.out, List.take_length, Nat.sub_self, List.replicate_zero, List.append_nil]; exact ho0.out
  have c1 : ¬ (d.length : Int) < 2 := by omega
  have h20 := Hid.mk h2
  clear h2
  repeat' (with_reducible first | refine x_ops ?_ | refine wk ?_ | ((first | refine gd1 ?_ ?_ | refine gd2 ?_ ?_ | refine gd3 ?_ ?_) <;> (first | exact @False.elim _ | intro hc)))
  refine x_loopW w_slices_Compact_int_int_p14 kr (d.length - 1) (fun k t m1 => t 3 = vint ((k + 1 : Nat) : Int) ∧ (∀ i, i < k + 1 → keepA d i = true) ∧ m.next ≤ m1.next ∧ ∀ j, j < m.next → m1.obj j = m.obj j) ?_ ?_
  · exact ⟨vv, fun i hi => keepA_zero d (by omega), Nat.le_refl _, fun _ _ => rfl⟩
  rintro k t m1 hk ⟨h3, hall, hnx, hfr⟩
  have hq1 : q < m1.next := by have := hq0.out; omega
  have ho1 : m1.obj q = some (.box (d.map vint) 3) := (hfr q hq0.out).trans ho0.out
  have h2 := h20.out
  by_cases hlt : k + 1 < d.length
  case neg =>
    have hkl : k + 1 = d.length := by omega
    have d1 : ¬ ((k + 1 : Nat) : Int) < (d.length : Int) := by omega
    have he := Hid.mk ((cmpU_all d d.length (Nat.le_refl _) (by rw [← hkl]; exact hall)).trans List.take_length)
    have hnx0 := Hid.mk hnx
    have hfr0 := Hid.mk hfr
    have ho10 := Hid.mk ho1
    clear hlt hk hkl hall h2 hnx hfr
    repeat' (with_reducible first | refine x_ops ?_ | refine wk ?_ | ((first | refine gd1 ?_ ?_ | refine gd2 ?_ ?_ | refine gd3 ?_ ?_) <;> (first | exact @False.elim _ | intro hc)))
    refine finS_ret vv ⟨?_, ⟨fun j hj _ => hfr0.out j hj, by have := hnx0.out; show m.next ≤ m1.next; omega⟩, ?_⟩
    · rw [he.out]
    · rw [he.out, Nat.sub_self, List.replicate_zero, List.append_nil]; exact ho10.out
  have d1 : ((k + 1 : Nat) : Int) < (d.length : Int) := by omega
  have g1 := ints_atD (l := d) (k := k + 1) hlt
  have g2 := ints_atD (l := d) (k := k) (by omega)
  have g3 : (d.map vint).length = d.length := List.length_map ..
  have c3 : (k + 1) + 1 ≤ d.length := by omega
  have c4 : k + 1 ≤ d.length := by omega
  have kd : k < d.length := by omega
  have d2 : (k : Int) < (d.length : Int) := by omega
  have w1 := w_add1 (k := k + 1) (by have := hl0.out; omega)
  have w2 : IntKind.i64.wrap (((k + 1 : Nat) : Int) - 1) = (k : Int) := by rw [IntWalk.i64_in _ (by have := hl0.out; omega)]; omega
  have hlt0 := Hid.mk hlt
  have hk0 : k < d.length - 1 := by omega
  have hk00 := Hid.mk hk0
  have hall0 := Hid.mk hall
  have hnx0 := Hid.mk hnx
  have hfr0 := Hid.mk hfr
  have hkp := keepA_of (d := d) (i := k + 1) (by omega)
  rw [Nat.add_sub_cancel] at hkp
  generalize hx : d.getD (k + 1) default = x at *
  generalize hy : d.getD k default = y at *
  replace hx := Hid.mk hx
  replace hy := Hid.mk hy
  clear hlt hk hall h2 hnx hfr hk0
  by_cases hxy : x = y
  case neg =>
    have e1 : (x == y) = false := by rw [beq_eq_false_iff_ne]; exact hxy
    have e2 : (x != y) = true := by rw [bne, e1]; rfl
    have hkp1 := Hid.mk (hkp.trans (decide_eq_true hxy))
    clear hkp hxy
    repeat' (with_reducible first | refine x_ops ?_ | simp only [go_sem, Nat.reduceAdd, Nat.reduceEqDiff, Nat.reduceLT, Nat.reduceLeDiff, Nat.reduceMul, Nat.reduceSub, Nat.reducePow, Nat.reduceDiv, Nat.reduceMod, Nat.reduceBEq, Int.reduceBEq, Int.reduceLT, reduceIte, tIs, tBs, tPs, e1, e2, *] | ((first | refine gd1 ?_ ?_ | refine gd2 ?_ ?_ | refine gd3 ?_ ?_) <;> (first | exact @False.elim _ | intro hc)))
    refine nx hk00.out ⟨vv, fun i hi => ?_, ?_, fun j hj => ?_⟩
    · by_cases e : i = k + 1
      · rw [e]; exact hkp1.out
      · exact hall0.out i (by omega)
    · have := hnx0.out
      first
        | (show m.next ≤ m1.next; omega)
        | (show m.next ≤ m1.next + _; omega)
    · exact hfr0.out j hj
  subst hxy
  have hkp1 := hkp.trans (decide_eq_false (by simp))
  have hI := CmpI.start (d := d) (k := k + 1) (by omega) hlt0.out hall0.out hkp1
  replace hI := Hid.mk hI
  clear hkp hkp1
  have s1 := vslc_lo (size := 1) (q := q) (off := 0) (n := d.length) (cap := d.length) (k := k + 1) (by have := hlt0.out; omega) (Nat.le_refl _) hlt0.out
  repeat' (with_reducible first | refine x_ops ?_ | simp only [go_sem, Nat.reduceAdd, Nat.reduceEqDiff, Nat.reduceLT, Nat.reduceLeDiff, Nat.reduceMul, Nat.reduceSub, Nat.reducePow, Nat.reduceDiv, Nat.reduceMod, Nat.reduceBEq, Int.reduceBEq, Int.reduceLT, reduceIte, tIs, tBs, tPs, s1, *] | ((first | refine gd1 ?_ ?_ | refine gd2 ?_ ?_ | refine gd3 ?_ ?_) <;> (first | exact @False.elim _ | intro hc)))
  refine x_loopW w_slices_Compact_int_int_p6 kr (d.length - (k + 1) - 1) (fun u t' m' => t' 5 = vint ((u + 1 : Nat) : Int) ∧ (∃ (kk : Nat) (e : List Int), t' 3 = vint (kk : Int) ∧ CmpI d e (k + 1 + (u + 1)) kk ∧ m'.obj q = some (.box (e.map vint) 3)) ∧ m.next ≤ m'.next ∧ ∀ j, j < m.next → j ≠ q → m'.obj j = m.obj j) ?_ ?_
  · exact ⟨vv, ⟨k + 1, d, vw, hI.out, ho1⟩, hnx0.out, fun j hj _ => hfr0.out j hj⟩
  clear g1 g2 g3 c3 c4 s1 ho1 hq1 h3 w1 w2 kd d1 d2 hx hy hI hall0
  rintro u t2 m2 hu ⟨h5, ⟨kk, e, h3, hI, ho2⟩, hnx2, hfr2⟩
  have hlt1 := hlt0.out
  have hkl := hI.lt
  have hle := hI.le
  have hel := hI.len
  have hq2 : q < m2.next := by have := hq0.out; omega
  have g3 : (e.map vint).length = e.length := List.length_map ..
  rw [hel] at g3
  have hnx20 := Hid.mk hnx2
  have hfr20 := Hid.mk hfr2
  have b1 : (kk : Int) < (d.length : Int) := by omega
  have b2 : kk < d.length := by omega
  by_cases hlt2 : k + 1 + (u + 1) < d.length
  case neg =>
    have hK : k + 1 + (u + 1) = d.length := by omega
    have d3 : ¬ ((u + 1 : Nat) : Int) < ((d.length - (k + 1) : Nat) : Int) := by omega
    have s1 := vslc_lo (size := 1) (q := q) (off := 0) (n := d.length) (cap := d.length) (k := kk) (by omega) (Nat.le_refl _) b2
    have s2 := vslc_hi (size := 1) (q := q) (off := 0) (n := d.length) (cap := d.length) (k := kk) (by omega) (by omega)
    rw [hK] at hI
    have hI0 := Hid.mk hI
    have hel0 := Hid.mk hel
    have b20 := Hid.mk b2
    have g30 := Hid.mk g3
    clear hlt2 hu hlt1 hkl hle hel hnx2 hfr2 hI hK
    repeat' (with_reducible first | refine x_ops ?_ | simp only [go_sem, Nat.reduceAdd, Nat.reduceEqDiff, Nat.reduceLT, Nat.reduceLeDiff, Nat.reduceMul, Nat.reduceSub, Nat.reducePow, Nat.reduceDiv, Nat.reduceMod, Nat.reduceBEq, Int.reduceBEq, Int.reduceLT, reduceIte, tIs, tBs, tPs, s1, s2, *] | ((first | refine gd1 ?_ ?_ | refine gd2 ?_ ?_ | refine gd3 ?_ ?_) <;> (first | exact @False.elim _ | intro hc)))
    refine x_clr (q := q) (off := kk) (n := d.length - kk) (cap := d.length - kk) (cs := e.map vint) (t := 3) vw vw rfl (by rw [g30.out]; have := b20.out; omega) ?_
    have hsp : splice (e.map vint) kk (List.flatten (List.replicate (d.length - kk) [V.lit (.int .i64 0)])) = (cmpU d d.length ++ List.replicate (d.length - kk) default).map vint := by
      have h9 : List.flatten (List.replicate (d.length - kk) [V.lit (.int .i64 0)]) = (List.replicate (d.length - kk) (default : Int)).map vint := by
        rw [map_vint]
        exact rep_flat (enc := fun x : Int => [vint x]) default _
      rw [h9, splice_tailI _ _ _ (by rw [List.length_replicate, hel0.out]; have := b20.out; omega), hI0.out.low]
    replace hsp := Hid.mk hsp
    repeat' (with_reducible first | refine x_ops ?_ | simp only [go_sem, Nat.reduceAdd, Nat.reduceEqDiff, Nat.reduceLT, Nat.reduceLeDiff, Nat.reduceMul, Nat.reduceSub, Nat.reducePow, Nat.reduceDiv, Nat.reduceMod, Nat.reduceBEq, Int.reduceBEq, Int.reduceLT, reduceIte, tIs, tBs, tPs, s1, s2, *] | ((first | refine gd1 ?_ ?_ | refine gd2 ?_ ?_ | refine gd3 ?_ ?_) <;> (first | exact @False.elim _ | intro hc)))
    refine finS_ret vv ⟨?_, ⟨fun j hj hjq => ?_, ?_⟩, ?_⟩
    · rw [← hI0.out.eq]
    · exact (if_neg hjq).trans (hfr20.out j hj hjq)
    · have := hnx20.out
      first
        | (show m.next ≤ m2.next; omega)
        | (show m.next ≤ m2.next + _; omega)
    · rw [← hI0.out.eq, ← hsp.out]
      exact if_pos rfl
  have d3 : ((u + 1 : Nat) : Int) < ((d.length - (k + 1) : Nat) : Int) := by omega
  have d4 : (u : Int) < ((d.length - (k + 1) : Nat) : Int) := by omega
  have d5 : u + 1 < d.length - (k + 1) := by omega
  have d6 : u < d.length - (k + 1) := by omega
  have g1 := ints_atD (l := e) (k := k + 1 + (u + 1)) (by omega)
  have g2 := ints_atD (l := e) (k := k + 1 + u) (by omega)
  rw [hI.high (k + 1 + (u + 1)) (by omega)] at g1
  rw [hI.high (k + 1 + u) (by omega)] at g2
  have c3 : (k + 1) + (u + 1) + 1 ≤ d.length := by omega
  have c4 : (k + 1) + u + 1 ≤ d.length := by omega
  have c5 : kk + 1 ≤ d.length := by omega
  have c6 : (k + 1) + ((u + 1) + 1) ≤ d.length := by omega
  have c7 : (k + 1) + (u + 1) ≤ d.length := by omega
  have w1 := w_add1 (k := u + 1) (by have := hl0.out; omega)
  have w3 := w_add1 (k := kk) (by have := hl0.out; omega)
  have w2 : IntKind.i64.wrap (((u + 1 : Nat) : Int) - 1) = (u : Int) := by rw [IntWalk.i64_in _ (by have := hl0.out; omega)]; omega
  have hkp := keepA_of (d := d) (i := k + 1 + (u + 1)) (by omega)
  rw [show k + 1 + (u + 1) - 1 = k + 1 + u by omega] at hkp
  have hsk := hI.skip hlt2
  have hkeep := hI.keep hlt2
  have hset := splice_setI e kk (d.getD (k + 1 + (u + 1)) default) (by omega)
  have hu0 : u < d.length - (k + 1) - 1 := by omega
  have hu00 := Hid.mk hu0
  generalize d.getD (k + 1 + (u + 1)) default = x at *
  generalize d.getD (k + 1 + u) default = y at *
  have g4 := g1
  rw [show k + 1 + (u + 1) = k + (1 + (u + 1)) by omega] at g4
  have g5 := g2
  rw [show k + 1 + u = k + (1 + u) by omega] at g5
  replace hsk := Hid.mk hsk
  replace hkeep := Hid.mk hkeep
  replace hset := Hid.mk hset
  clear hlt2 hu hlt1 hkl hle hel hnx2 hfr2 hI hu0
  by_cases hxy : x = y
  · subst hxy
    have hk1 := Hid.mk (hsk.out (hkp.trans (decide_eq_false (by simp))))
    clear hkp hsk hkeep hset
    have e2 : (x != x) = false := bne_self_eq_false x
    repeat' (with_reducible first | refine x_ops ?_ | simp only [go_sem, Nat.reduceAdd, Nat.reduceEqDiff, Nat.reduceLT, Nat.reduceLeDiff, Nat.reduceMul, Nat.reduceSub, Nat.reducePow, Nat.reduceDiv, Nat.reduceMod, Nat.reduceBEq, Int.reduceBEq, Int.reduceLT, reduceIte, tIs, tBs, tPs, e2, *] | ((first | refine gd1 ?_ ?_ | refine gd2 ?_ ?_ | refine gd3 ?_ ?_) <;> (first | exact @False.elim _ | intro hc)))
    refine nx hu00.out ⟨vv, ⟨kk, e, vw, by have h := hk1.out; rwa [show k + 1 + (u + 1) + 1 = k + (1 + (u + 1 + 1)) by omega] at h, ?_⟩, ?_, fun j hj hjq => ?_⟩
    · exact ho2
    · have := hnx20.out
      first
        | (show m.next ≤ m2.next; omega)
        | (show m.next ≤ m2.next + _; omega)
    · exact hfr20.out j hj hjq
  · have e1 : (x == y) = false := by rw [beq_eq_false_iff_ne]; exact hxy
    have e2 : (x != y) = true := by rw [bne, e1]; rfl
    have hk1 := Hid.mk (hkeep.out (hkp.trans (decide_eq_true hxy)))
    clear hkp hsk hkeep hxy
    repeat' (with_reducible first | refine x_ops ?_ | simp only [go_sem, Nat.reduceAdd, Nat.reduceEqDiff, Nat.reduceLT, Nat.reduceLeDiff, Nat.reduceMul, Nat.reduceSub, Nat.reducePow, Nat.reduceDiv, Nat.reduceMod, Nat.reduceBEq, Int.reduceBEq, Int.reduceLT, reduceIte, tIs, tBs, tPs, e1, e2, *] | ((first | refine gd1 ?_ ?_ | refine gd2 ?_ ?_ | refine gd3 ?_ ?_) <;> (first | exact @False.elim _ | intro hc)))
    refine nx hu00.out ⟨vv, ⟨kk + 1, e.set kk x, vw, by have h := hk1.out; rwa [show k + 1 + (u + 1) + 1 = k + (1 + (u + 1 + 1)) by omega] at h, ?_⟩, ?_, fun j hj hjq => ?_⟩
    · rw [← hset.out]
      exact if_pos rfl
    · have := hnx20.out
      first
        | (show m.next ≤ m2.next; omega)
        | (show m.next ≤ m2.next + _; omega)
    · exact (if_neg hjq).trans (hfr20.out j hj hjq)
end Go.Proofs.YtdefefeifcdogaaGreat
namespace Go.Proofs.YtdefefeifcdogaaGreat
open Go.RowKit
set_option linter.unusedSimpArgs false
set_option linter.unusedVariables false

theorem sgs_vws {m : Mm} {S : Nat → Bool} : ∀ l : List Sg, Vws m S (l.flatMap Sg.cells) (l.flatMap Sg.cells)
  | [] => .nil
  | x :: l => by
    rw [List.flatMap_cons]
    exact .cons (.lit _) (.cons (.lit _) (.cons (.lit _) (sgs_vws l)))
theorem ints_vws {m : Mm} {S : Nat → Bool} : ∀ l : List Int, Vws m S (l.map vint) (l.map vint)
  | [] => .nil
  | x :: l => by
    rw [List.map_cons]
    exact .cons (.lit _) (ints_vws l)
theorem ints_oneV (l : List Int) : (l.map vint).all V.one = true := by
  rw [List.all_eq_true]
  intro v hv
  obtain ⟨x, _, rfl⟩ := List.mem_map.1 hv
  rfl
theorem adj_of_pw {α : Type} [Inhabited α] {f : α → Int} {l : List α} (h : l.Pairwise fun a b => f a ≤ f b) (i : Nat) (hi : i + 1 < l.length) : f (l.getD i default) ≤ f (l.getD (i + 1) default) := by
  have := List.pairwise_iff_getElem.1 h i (i + 1) (by omega) hi (by omega)
  rw [List.getD_eq_getElem?_getD, List.getD_eq_getElem?_getD, List.getElem?_eq_getElem (by omega : i < l.length), List.getElem?_eq_getElem hi]
  exact this
theorem srt_ex {α : Type} [Inhabited α] (f : α → Int) (d : List α) : ∃ d' : List α, d'.Perm d ∧ ∀ i, i + 1 < d'.length → f (d'.getD i default) ≤ f (d'.getD (i + 1) default) := by
  refine ⟨d.mergeSort fun a b => decide (f a ≤ f b), List.mergeSort_perm _ _, fun i hi => adj_of_pw ?_ i hi⟩
  have h := List.pairwise_mergeSort (le := fun a b => decide (f a ≤ f b)) (fun a b c h1 h2 => by simp at *; omega) (fun a b => by simp; omega) d
  exact h.imp fun h => of_decide_eq_true h
theorem SrtS.ne (d : List Sg) (m : Mm) (i : Nat) (t : TypeId) : ∃ r m', RowPost m i t (SrtS d) r m' := by
  obtain ⟨d', h1, h2⟩ := srt_ex keyS d
  exact ⟨_, _, rfl, _, ⟨d', rfl, h1, h2⟩, rfl⟩
theorem SrtI.ne (d : List Int) (m : Mm) (i : Nat) (t : TypeId) : ∃ r m', RowPost m i t (SrtI d) r m' := by
  obtain ⟨d', h1, h2⟩ := srt_ex (fun x : Int => x) d
  exact ⟨_, _, rfl, _, ⟨d', rfl, h1, h2⟩, rfl⟩
set_option maxHeartbeats 1000000 in
theorem mergedS_fn (xs ys : List Sg) (p1 : 0 < xs.length) (p2 : 0 < ys.length) (q1 : xs.length ≤ 1000) (q2 : ys.length ≤ 1000) (h1 : ∀ s ∈ xs, okS s = true) (h2 : ∀ s ∈ ys, okS s = true) :
    Fn Tryz.prog Gd 117 [.sl xs.length (xs.flatMap Sg.cells) .no, .sl ys.length (ys.flatMap Sg.cells) .no, .fn 118 []] (.sl (mxS false xs ys).length ((mxS false xs ys).flatMap Sg.cells) .no) := by
  refine Fn.trim (ys := (List.replicate (xs.length + ys.length - (mxS false xs ys).length) (default : Sg)).flatMap Sg.cells) ?_
  rw [← List.flatMap_append]
  refine Fn.of_vx0 k_leaf_merged_api_Sign_b (by simp) (by simp [V.pures, V.pure]) ?_
  have C := concatS_bfn xs ys p1 p2 q1 q2
  have hm : ∀ d : List Sg, d.Perm (xs ++ ys) → (∀ i, i + 1 < d.length → keyS (d.getD i default) ≤ keyS (d.getD (i + 1) default)) → cmpU d d.length = mxS false xs ys ∧ d.length = xs.length + ys.length := fun d hp hs =>
    ⟨mergeS_mx (fun x => by rw [hp.mem_iff, List.mem_append]) hs h1 h2, by rw [hp.length_eq, List.length_append]⟩
  have hn : ¬ xs.length + ys.length = 0 := by omega
  generalize hM : mxS false xs ys = M at *
  replace hm := Hid.mk hm
  have hl0 : xs.length + ys.length ≤ 1000000 := by omega
  replace hl0 := Hid.mk hl0
  clear h1 h2 p1 p2 q1 q2
  unfold c_leaf_merged_api_Sign_b
  repeat' (with_reducible first | refine x_ops ?_ | refine wk ?_ | ((first | refine gd1 ?_ ?_ | refine gd2 ?_ ?_ | refine gd3 ?_ ?_) <;> (first | exact @False.elim _ | intro hc)))
  refine x_callB none C vw ?_
  rw [if_neg hn]
  repeat' (with_reducible first | refine x_ops ?_ | refine wk ?_ | ((first | refine gd1 ?_ ?_ | refine gd2 ?_ ?_ | refine gd3 ?_ ?_) <;> (first | exact @False.elim _ | intro hc)))
  refine x_scallR [.bsl 3 0 (xs.length + ys.length) (xs.length + ys.length), .fn 118 []] vw (sortS_sfn (xs ++ ys) (by rw [List.length_append]; exact hl0.out) (.inl ⟨_, by rw [List.length_append]⟩) (by first | exact vw | exact if_pos rfl)) (SrtS.ne _ _ _ _) ?_
  rintro r m1 ⟨rfl, L, ⟨d, rfl, hp, hs⟩, rfl⟩
  obtain ⟨e1, e2⟩ := hm.out d hp hs
  rw [← encS_cells]
  repeat' (with_reducible first | refine x_ops ?_ | refine wk ?_ | ((first | refine gd1 ?_ ?_ | refine gd2 ?_ ?_ | refine gd3 ?_ ?_) <;> (first | exact @False.elim _ | intro hc)))
  refine x_scallR [.bsl 3 0 (xs.length + ys.length) (xs.length + ys.length)] vw (by rw [← e2]; exact compactS_sfn (q := 3) d (by show 3 < 5; decide) (by rw [e2]; exact hl0.out) (by first | exact vw | exact if_pos rfl)) (CmpPS.ne _ _) ?_
  rintro r m2 ⟨rfl, _, hob⟩
  rw [e1, e2] at hob
  rw [e1, e2]
  repeat' (with_reducible first | refine x_ops ?_ | refine wk ?_ | ((first | refine gd1 ?_ ?_ | refine gd2 ?_ ?_ | refine gd3 ?_ ?_) <;> (first | exact @False.elim _ | intro hc)))
  refine finV_ret vv ?_
  exact .bsl rfl hob (sgs_vws _) (sgs_oneV _)
set_option maxHeartbeats 1000000 in
theorem mergedI_fn (xs ys : List Int) (p1 : 0 < xs.length) (p2 : 0 < ys.length) (q1 : xs.length ≤ 1000) (q2 : ys.length ≤ 1000) (h1 : ∀ s ∈ xs, -1 ≤ s ∧ s ≤ 18) (h2 : ∀ s ∈ ys, -1 ≤ s ∧ s ≤ 18) :
    Fn Tryz.prog Gd 120 [.sl xs.length (xs.map vint) .no, .sl ys.length (ys.map vint) .no, .fn 121 []] (.sl (mxI false xs ys).length ((mxI false xs ys).map vint) .no) := by
  refine Fn.trim (ys := (List.replicate (xs.length + ys.length - (mxI false xs ys).length) (default : Int)).map vint) ?_
  rw [← List.map_append]
  refine Fn.of_vx0 k_leaf_merged_int_b (by simp) (by simp [V.pures, V.pure]) ?_
  have C := concatI_bfn xs ys p1 p2 q1 q2
  have hm : ∀ d : List Int, d.Perm (xs ++ ys) → (∀ i, i + 1 < d.length → d.getD i default ≤ d.getD (i + 1) default) → cmpU d d.length = mxI false xs ys ∧ d.length = xs.length + ys.length := fun d hp hs =>
    ⟨mergeI_mx (fun x => by rw [hp.mem_iff, List.mem_append]) hs h1 h2, by rw [hp.length_eq, List.length_append]⟩
  have hn : ¬ xs.length + ys.length = 0 := by omega
  generalize hM : mxI false xs ys = M at *
  replace hm := Hid.mk hm
  have hl0 : xs.length + ys.length ≤ 1000000 := by omega
  replace hl0 := Hid.mk hl0
  clear h1 h2 p1 p2 q1 q2
  unfold c_leaf_merged_int_b
  repeat' (with_reducible first | refine x_ops ?_ | refine wk ?_ | ((first | refine gd1 ?_ ?_ | refine gd2 ?_ ?_ | refine gd3 ?_ ?_) <;> (first | exact @False.elim _ | intro hc)))
  refine x_callB none C vw ?_
  rw [if_neg hn]
  repeat' (with_reducible first | refine x_ops ?_ | refine wk ?_ | ((first | refine gd1 ?_ ?_ | refine gd2 ?_ ?_ | refine gd3 ?_ ?_) <;> (first | exact @False.elim _ | intro hc)))
  refine x_scallR [.bsl 3 0 (xs.length + ys.length) (xs.length + ys.length), .fn 121 []] vw (sortI_sfn (xs ++ ys) (by rw [List.length_append]; exact hl0.out) (.inl ⟨_, by rw [List.length_append]⟩) (by first | exact vw | exact if_pos rfl)) (SrtI.ne _ _ _ _) ?_
  rintro r m1 ⟨rfl, L, ⟨d, rfl, hp, hs⟩, rfl⟩
  obtain ⟨e1, e2⟩ := hm.out d hp hs
  rw [← encI_cells]
  repeat' (with_reducible first | refine x_ops ?_ | refine wk ?_ | ((first | refine gd1 ?_ ?_ | refine gd2 ?_ ?_ | refine gd3 ?_ ?_) <;> (first | exact @False.elim _ | intro hc)))
  refine x_scallR [.bsl 3 0 (xs.length + ys.length) (xs.length + ys.length)] vw (by rw [← e2]; exact compactI_sfn (q := 3) d (by show 3 < 5; decide) (by rw [e2]; exact hl0.out) (by first | exact vw | exact if_pos rfl)) (CmpPI.ne _ _) ?_
  rintro r m2 ⟨rfl, _, hob⟩
  rw [e1, e2] at hob
  rw [e1, e2]
  repeat' (with_reducible first | refine x_ops ?_ | refine wk ?_ | ((first | refine gd1 ?_ ?_ | refine gd2 ?_ ?_ | refine gd3 ?_ ?_) <;> (first | exact @False.elim _ | intro hc)))
  refine finV_ret vv ?_
  exact .bsl rfl hob (ints_vws _) (ints_oneV _)
theorem join1_fn (xs ys : List Sg) (p1 : 0 < xs.length) (p2 : 0 < ys.length) (q1 : xs.length ≤ 1000) (q2 : ys.length ≤ 1000) (h1 : ∀ s ∈ xs, okS s = true) (h2 : ∀ s ∈ ys, okS s = true) :
    Fn Tryz.prog Gd 116 [tL Sg.cells xs, tL Sg.cells ys] (tL Sg.cells (mxS false xs ys)) := by
  refine Fn.of_vx0 k_leaf_Join_1 (by simp) (by rw [V.pures, pure_tL, V.pures, pure_tL]; rfl) ?_
  have C := mergedS_fn xs ys p1 p2 q1 q2 h1 h2
  rw [tL, tL, tL]
  generalize mxS false xs ys = M at *
  unfold c_leaf_Join_1
  repeat' (with_reducible first | refine x_ops ?_ | refine wk ?_ | (with_reducible refine xc (C) ?_) | ((first | refine gd1 ?_ ?_ | refine gd2 ?_ ?_ | refine gd3 ?_ ?_) <;> (first | exact @False.elim _ | intro hc)))
  exact finV_ret vv (.sl _ _ _)
theorem join2_fn (xs ys : List Int) (p1 : 0 < xs.length) (p2 : 0 < ys.length) (q1 : xs.length ≤ 1000) (q2 : ys.length ≤ 1000) (h1 : ∀ s ∈ xs, -1 ≤ s ∧ s ≤ 18) (h2 : ∀ s ∈ ys, -1 ≤ s ∧ s ≤ 18) :
    Fn Tryz.prog Gd 119 [tIs xs, tIs ys] (tIs (mxI false xs ys)) := by
  refine Fn.of_vx0 k_leaf_Join_2 (by simp) (by rw [V.pures, pure_tIs, V.pures, pure_tIs]; rfl) ?_
  have C := mergedI_fn xs ys p1 p2 q1 q2 h1 h2
  rw [tIs, tIs, tIs]
  generalize mxI false xs ys = M at *
  unfold c_leaf_Join_2
  repeat' (with_reducible first | refine x_ops ?_ | refine wk ?_ | (with_reducible refine xc (C) ?_) | ((first | refine gd1 ?_ ?_ | refine gd2 ?_ ?_ | refine gd3 ?_ ?_) <;> (first | exact @False.elim _ | intro hc)))
  exact finV_ret vv (.sl _ _ _)
end Go.Proofs.YtdefefeifcdogaaGreat
