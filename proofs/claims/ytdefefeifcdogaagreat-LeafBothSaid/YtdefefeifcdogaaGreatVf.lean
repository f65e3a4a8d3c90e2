/- What code leaves alone: slots that it does not write; loops with a frame. Nothing is proved of the program here. -/
import Derived.Test.YtdefefeifcdogaaGreatVe
set_option linter.unusedSimpArgs false
set_option linter.unusedVariables false
namespace Go.Proofs.YtdefefeifcdogaaGreat
open Go.RowKit

/-- A fact that the walk is not to use. -/
structure Hid (p : Prop) : Prop where
  out : p
def VI.wr (vi : VI) (j : Nat) : Bool := match vi.dst with | some d => d == j | none => false
/-- Is this slot written? -/
def VC.wr : VC → Nat → Bool
  | .ops _ l, j => l.any fun vi => vi.wr j
  | .seq a b, j => a.wr j || b.wr j
  | .cond _ a b, j => a.wr j || b.wr j
  | .block _ b, j => b.wr j
  | .loop b, j => b.wr j
  | .scope b, j => b.wr j
  | _, _ => false
/-- The slots that are written. -/
def VC.wrs : VC → List Nat
  | .ops _ l => l.filterMap (·.dst)
  | .seq a b => a.wrs ++ b.wrs
  | .cond _ a b => a.wrs ++ b.wrs
  | .block _ b => b.wrs
  | .loop b => b.wrs
  | .scope b => b.wrs
  | _ => []
theorem wr_wrs : ∀ {c : VC} {j : Nat}, c.wr j = true → j ∈ c.wrs
  | .ops _ l, j, h => by
    rw [VC.wr, List.any_eq_true] at h
    obtain ⟨vi, hv, h⟩ := h
    rw [VC.wrs, List.mem_filterMap]
    refine ⟨vi, hv, ?_⟩
    unfold VI.wr at h
    split at h
    · rename_i d hd; rw [hd, eq_of_beq h]
    · cases h
  | .seq a b, j, h => by rw [VC.wr, Bool.or_eq_true] at h; rw [VC.wrs, List.mem_append]; exact h.imp wr_wrs wr_wrs
  | .cond _ a b, j, h => by rw [VC.wr, Bool.or_eq_true] at h; rw [VC.wrs, List.mem_append]; exact h.imp wr_wrs wr_wrs
  | .block _ b, j, h => by rw [VC.wr] at h; rw [VC.wrs]; exact wr_wrs h
  | .loop b, j, h => by rw [VC.wr] at h; rw [VC.wrs]; exact wr_wrs h
  | .scope b, j, h => by rw [VC.wr] at h; rw [VC.wrs]; exact wr_wrs h
  | .skip, j, h => by simp [VC.wr] at h
  | .ret, j, h => by simp [VC.wr] at h
  | .exit _, j, h => by simp [VC.wr] at h
  | .bad, j, h => by simp [VC.wr] at h
  | .rangeF _ _ _ _ _, j, h => by simp [VC.wr] at h

section
variable {P : Program} {G : Ground}
theorem afterF_mono {i : Nat} {t : Nat → V} {Q Q' : VX → St → Prop} {m : Mm} (h : afterF i t Q m) (hk : ∀ e s', Q e s' → s'.t = t → Q' e s') : afterF i t Q' m := by
  unfold afterF at h ⊢
  split at h
  · exact hk _ _ h rfl
  · exact hk _ _ h rfl
  · exact hk _ _ h rfl
  · exact h.elim
theorem vx_mono : ∀ {c : VC} {Q Q' : VX → St → Prop} {s : St}, c.vx P G Q s → (∀ e s', Q e s' → Q' e s') → c.vx P G Q' s
  | .skip, Q, Q', s, h, hk => by rw [VC.vx] at h ⊢; exact hk _ _ h
  | .ret, Q, Q', s, h, hk => by rw [VC.vx] at h ⊢; exact hk _ _ h
  | .exit _, Q, Q', s, h, hk => by rw [VC.vx] at h ⊢; exact hk _ _ h
  | .bad, Q, Q', s, h, hk => by rw [VC.vx] at h; exact h.elim
  | .ops k l, Q, Q', s, h, hk => by
    rw [VC.vx] at h ⊢
    have gen : ∀ (l : List VI) (i base : Nat) (s : St) (K K' : St → Prop), vrun P G base i l s K → (∀ s', K s' → K' s') → vrun P G base i l s K' := by
      intro l
      induction l with
      | nil => intro i base s K K' h hk; rw [vrun] at h ⊢; exact hk _ h
      | cons vi l ih => intro i base s K K' h hk; rw [vrun] at h ⊢; exact vstep_mono h fun s' h' => ih _ _ _ _ _ h' hk
    exact gen l _ _ _ _ _ h fun s' => hk _ s'
  | .seq a b, Q, Q', s, h, hk => by
    rw [VC.vx] at h ⊢
    refine vx_mono h fun e s' h' => ?_
    cases e with
    | nrm => exact vx_mono (c := b) h' hk
    | exit i => exact hk _ _ h'
    | ret => exact hk _ _ h'
  | .cond c a b, Q, Q', s, h, hk => by
    rw [VC.vx] at h ⊢
    split at h
    · split at h
      · rename_i h1; rw [if_pos h1]; exact vx_mono h hk
      · rename_i h1; rw [if_neg h1]; exact vx_mono h hk
    · exact h
  | .block id b, Q, Q', s, h, hk => by
    rw [VC.vx] at h ⊢
    refine vx_mono h fun e s' h' => ?_
    cases e with
    | nrm => exact hk _ _ h'
    | ret => exact hk _ _ h'
    | exit i =>
      show if i = id then Q' .nrm s' else Q' (.exit i) s'
      have h' : if i = id then Q .nrm s' else Q (.exit i) s' := h'
      split at h'
      · rename_i h1; rw [if_pos h1]; exact hk _ _ h'
      · rename_i h1; rw [if_neg h1]; exact hk _ _ h'
  | .loop b, Q, Q', s, h, hk => by
    rw [VC.vx] at h ⊢
    obtain ⟨I, μ, h0, h⟩ := h
    refine ⟨I, μ, h0, fun s' hs' => vx_mono (h s' hs') fun e s2 h2 => ?_⟩
    cases e with
    | nrm => exact h2
    | exit i => exact hk _ _ h2
    | ret => exact hk _ _ h2
  | .scope b, Q, Q', s, h, hk => by rw [VC.vx] at h ⊢; exact vx_mono h hk
  | .rangeF nt f ps as bd, Q, Q', s, h, hk => by
    rw [VC.vx] at h ⊢
    split at h
    · obtain ⟨hc, Post, hS, hA⟩ := h
      exact ⟨hc, Post, hS, fun r m' hp => afterF_mono (hA r m' hp) fun e s' hq _ => hk e s' hq⟩
    · exact h.elim

theorem vstep_frame {base i : Nat} {vi : VI} {s : St} {K : St → Prop} (h : vstep P G base i vi s K) : vstep P G base i vi s fun s' => K s' ∧ ∀ j, vi.wr j = false → s'.t j = s.t j := by
  have put : ∀ (r : V) (j : Nat), vi.wr j = false → putT s.t vi.dst r j = s.t j := fun r j hj => by
    unfold VI.wr at hj
    split at hj
    · rename_i d hd
      rw [hd, putT_get, if_neg]
      rintro rfl
      simp at hj
    · rename_i hd; rw [hd]; rfl
  unfold vstep at h ⊢
  split at h
  · rename_i ho
    rw [if_pos ho]
    exact sem_mono h fun r m' hK => ⟨hK, put r⟩
  · rename_i ho
    rw [if_neg ho]
    exact ⟨h, put _⟩
theorem vrun_frame {base : Nat} : ∀ {l : List VI} {i : Nat} {s : St} {K : St → Prop}, vrun P G base i l s K → vrun P G base i l s fun s' => K s' ∧ ∀ j, (l.any fun vi => vi.wr j) = false → s'.t j = s.t j
  | [], i, s, K, h => by rw [vrun] at h ⊢; exact ⟨h, fun _ _ => rfl⟩
  | vi :: l, i, s, K, h => by
    rw [vrun] at h ⊢
    refine vstep_mono (vstep_frame h) fun s1 ⟨h1, h2⟩ => ?_
    have gen : ∀ (l : List VI) (i : Nat) (s : St) (K K' : St → Prop), vrun P G base i l s K → (∀ s', K s' → K' s') → vrun P G base i l s K' := by
      intro l
      induction l with
      | nil => intro i s K K' h hk; rw [vrun] at h ⊢; exact hk _ h
      | cons vi l ih => intro i s K K' h hk; rw [vrun] at h ⊢; exact vstep_mono h fun s' h' => ih _ _ _ _ h' hk
    refine gen _ _ _ _ _ (vrun_frame h1) fun s2 ⟨h3, h4⟩ => ⟨h3, fun j hj => ?_⟩
    rw [List.any_cons, Bool.or_eq_false_iff] at hj
    rw [h4 j hj.2, h2 j hj.1]
/-- Slots that are not written stay. -/
theorem vx_frame : ∀ {c : VC} {Q : VX → St → Prop} {s : St}, c.vx P G Q s → c.vx P G (fun e s' => Q e s' ∧ ∀ j, c.wr j = false → s'.t j = s.t j) s
  | .skip, Q, s, h => by rw [VC.vx] at h ⊢; exact ⟨h, fun _ _ => rfl⟩
  | .ret, Q, s, h => by rw [VC.vx] at h ⊢; exact ⟨h, fun _ _ => rfl⟩
  | .exit _, Q, s, h => by rw [VC.vx] at h ⊢; exact ⟨h, fun _ _ => rfl⟩
  | .bad, Q, s, h => by rw [VC.vx] at h; exact h.elim
  | .ops k l, Q, s, h => by rw [VC.vx] at h ⊢; exact vrun_frame h
  | .seq a b, Q, s, h => by
    rw [VC.vx] at h ⊢
    refine vx_mono (vx_frame h) fun e s' ⟨h1, h2⟩ => ?_
    cases e with
    | nrm =>
      refine vx_mono (vx_frame (c := b) h1) fun e s2 ⟨h3, h4⟩ => ⟨h3, fun j hj => ?_⟩
      rw [VC.wr, Bool.or_eq_false_iff] at hj
      rw [h4 j hj.2, h2 j hj.1]
    | exit i => exact ⟨h1, fun j hj => h2 j (by rw [VC.wr, Bool.or_eq_false_iff] at hj; exact hj.1)⟩
    | ret => exact ⟨h1, fun j hj => h2 j (by rw [VC.wr, Bool.or_eq_false_iff] at hj; exact hj.1)⟩
  | .cond c a b, Q, s, h => by
    rw [VC.vx] at h ⊢
    split at h
    · split at h
      · rename_i h1; rw [if_pos h1]; exact vx_mono (vx_frame h) fun e s' ⟨h2, h3⟩ => ⟨h2, fun j hj => h3 j (by rw [VC.wr, Bool.or_eq_false_iff] at hj; exact hj.1)⟩
      · rename_i h1; rw [if_neg h1]; exact vx_mono (vx_frame h) fun e s' ⟨h2, h3⟩ => ⟨h2, fun j hj => h3 j (by rw [VC.wr, Bool.or_eq_false_iff] at hj; exact hj.2)⟩
    · exact h
  | .block id b, Q, s, h => by
    rw [VC.vx] at h ⊢
    refine vx_mono (vx_frame h) fun e s' ⟨h1, h2⟩ => ?_
    cases e with
    | nrm => exact ⟨h1, h2⟩
    | ret => exact ⟨h1, h2⟩
    | exit i =>
      show if i = id then _ else _
      have h1 : if i = id then Q .nrm s' else Q (.exit i) s' := h1
      split at h1
      · rename_i h3; rw [if_pos h3]; exact ⟨h1, h2⟩
      · rename_i h3; rw [if_neg h3]; exact ⟨h1, h2⟩
  | .loop b, Q, s, h => by
    rw [VC.vx] at h ⊢
    obtain ⟨I, μ, h0, h⟩ := h
    refine ⟨fun s' => I s' ∧ ∀ j, b.wr j = false → s'.t j = s.t j, μ, ⟨h0, fun _ _ => rfl⟩, fun s' ⟨hs', hf⟩ => vx_mono (vx_frame (h s' hs')) fun e s2 ⟨h2, h3⟩ => ?_⟩
    have h4 : ∀ j, b.wr j = false → s2.t j = s.t j := fun j hj => (h3 j hj).trans (hf j hj)
    cases e with
    | nrm => exact ⟨⟨h2.1, h4⟩, h2.2⟩
    | exit i => exact ⟨h2, h4⟩
    | ret => exact ⟨h2, h4⟩
  | .scope b, Q, s, h => by rw [VC.vx] at h ⊢; exact vx_frame h
  | .rangeF nt f ps as bd, Q, s, h => by
    rw [VC.vx] at h ⊢
    split at h
    · obtain ⟨hc, Post, hS, hA⟩ := h
      exact ⟨hc, Post, hS, fun r m' hp => afterF_mono (hA r m' hp) fun e s' hq ht => ⟨hq, fun j _ => by rw [ht]⟩⟩
    · exact h.elim

/-- The slots of a mask from t, the others from t0. -/
def mix (w : Nat) (t t0 : Nat → V) : Nat → V := fun j => if w / 2 ^ j % 2 = 1 then t j else t0 j
theorem mix_get (w : Nat) (t t0 : Nat → V) (j : Nat) : mix w t t0 j = if w / 2 ^ j % 2 = 1 then t j else t0 j := rfl
def inMask (w : Nat) (c : VC) : Bool := c.wrs.all fun j => w / 2 ^ j % 2 == 1
theorem mix_self (w : Nat) (t : Nat → V) : mix w t t = t := by
  funext j
  rw [mix_get, ite_self]
theorem mix_of {w : Nat} {c : VC} (hw : inMask w c = true) {t t0 t' : Nat → V} (h : ∀ j, c.wr j = false → t' j = mix w t t0 j) : t' = mix w t' t0 := by
  funext j
  rw [mix_get]
  split
  · rfl
  · rename_i hj
    cases hc : c.wr j with
    | true =>
      have := List.all_eq_true.1 hw j (wr_wrs hc)
      exact absurd (eq_of_beq this) hj
    | false => rw [h j hc, mix_get, if_neg hj]
/-- A round is over. -/
def Nx (N : Nat) (I : Nat → (Nat → V) → Mm → Prop) (k : Nat) (s : St) : Prop := k < N ∧ I (k + 1) s.t s.m
theorem nx {N : Nat} {I : Nat → (Nat → V) → Mm → Prop} {k : Nat} {s : St} (h1 : k < N) (h2 : I (k + 1) s.t s.m) : Nx N I k s := ⟨h1, h2⟩
/-- A LOOP: at round k of at most N. Only slots of the mask w change. -/
theorem x_loopW {b : VC} {Q : VX → St → Prop} {s : St} (w : Nat) (hw : inMask w b = true) (N : Nat) (I : Nat → (Nat → V) → Mm → Prop) (h0 : I 0 s.t s.m)
    (h : ∀ k t m, k ≤ N → I k t m → b.vx P G (VX.then (Nx N I k) Q) ⟨mix w t s.t, m⟩) : (VC.loop b).vx P G Q s := by
  let R : St → Nat → Prop := fun x n => ∃ k t, x.t = mix w t s.t ∧ k ≤ N ∧ I k t x.m ∧ n = N - k
  have hl : ∀ x, ∃ k, (∃ j, R x j) → R x k ∧ ∀ m, R x m → k ≤ m := fun x => by
    by_cases hx : ∃ j, R x j
    · obtain ⟨k, h1, h2⟩ := least hx; exact ⟨k, fun _ => ⟨h1, h2⟩⟩
    · exact ⟨0, fun h => absurd h hx⟩
  obtain ⟨μ, hμ⟩ : ∃ μ : St → Nat, ∀ x, (∃ j, R x j) → R x (μ x) ∧ ∀ m, R x m → μ x ≤ m := ⟨fun x => Classical.choose (hl x), fun x => Classical.choose_spec (hl x)⟩
  refine x_loop (fun x => ∃ n, R x n) μ ⟨N, 0, s.t, (mix_self _ _).symm, Nat.zero_le _, h0, by omega⟩ ?_
  intro x hx
  obtain ⟨⟨k, t, ht, hk, hI, hn⟩, _⟩ := hμ x hx
  generalize μ x = n at hn ⊢
  obtain ⟨xt, xm⟩ := x
  dsimp only at ht hI
  subst ht
  refine vx_mono (vx_frame (h k t xm hk hI)) fun e s' ⟨h1, h2⟩ => ?_
  cases e with
  | nrm =>
    rw [then_nrm] at h1 ⊢
    have hR : R s' (N - (k + 1)) := ⟨k + 1, s'.t, mix_of hw h2, h1.1, h1.2, rfl⟩
    refine ⟨⟨_, hR⟩, ?_⟩
    have := (hμ s' ⟨_, hR⟩).2 _ hR
    have := h1.1
    omega
  | exit i => exact h1
  | ret => exact h1

/-- A round is over, memory is as it was. -/
def Nf (N : Nat) (I : Nat → (Nat → V) → Prop) (m : Mm) (k : Nat) (s : St) : Prop := k < N ∧ I (k + 1) s.t ∧ s.m = m
theorem nf {N : Nat} {I : Nat → (Nat → V) → Prop} {m : Mm} {k : Nat} {s : St} (h1 : k < N) (h2 : I (k + 1) s.t) (h3 : s.m = m) : Nf N I m k s := ⟨h1, h2, h3⟩
/-- A LOOP that leaves memory alone. -/
theorem x_loopF {b : VC} {Q : VX → St → Prop} {s : St} (w : Nat) (hw : inMask w b = true) (N : Nat) (I : Nat → (Nat → V) → Prop) (h0 : I 0 s.t)
    (h : ∀ k t, k ≤ N → I k t → b.vx P G (VX.then (Nf N I s.m k) Q) ⟨mix w t s.t, s.m⟩) : (VC.loop b).vx P G Q s := by
  refine x_loopW w hw N (fun k t m => I k t ∧ m = s.m) ⟨h0, rfl⟩ ?_
  rintro k t m hk ⟨hI, rfl⟩
  refine vx_mono (h k t hk hI) fun e s' h' => ?_
  cases e with
  | nrm => exact ⟨h'.1, h'.2⟩
  | exit i => exact h'
  | ret => exact h'

theorem goR_guard {base : Nat} {K : St → Prop} {c : Prop} [Decidable c] {x y : Option St} {l : List VI} {i : Nat} (h1 : c → goR P G base x l i K) (h2 : ¬ c → goR P G base y l i K) : goR P G base (if c then x else y) l i K := by
  split
  · rename_i h; exact h1 h
  · rename_i h; exact h2 h
theorem vrun_guard {base : Nat} {K : St → Prop} {d : Option Nat} {g : Nat} {w : Bool} {op : VO} {args : List Opd} {md : Option (List Nat)} {l : List VI} {i : Nat} {s : St} {b : Bool} (hb : s.t g = .lit (.bool b))
    (h1 : b = w → vrun P G base i (⟨d, none, op, args, md⟩ :: l) s K) (h2 : b ≠ w → goR P G base (some ⟨putT s.t d vund, s.m⟩) l (i + 1) K) : vrun P G base i (⟨d, some (g, w), op, args, md⟩ :: l) s K := by
  by_cases h : b = w
  · have := h1 h
    rw [vrun] at this ⊢
    unfold vstep VI.on at this ⊢
    simp only [if_true, hb, onB] at this ⊢
    rw [if_pos (by simp [h])]
    exact this
  · have := goR_vrun l (i + 1) _ (h2 h)
    rw [vrun]
    unfold vstep VI.on
    simp only [hb, onB]
    rw [if_neg (by simp [h])]
    exact this
theorem finV_lit {rs : List VRes} {v w : Value} {s' : St} (h1 : resV s' rs = some (.lit v)) (h2 : v = w) : FinV rs (.lit w) .ret s' := by subst h2; exact finV_ret h1 (.lit _)
theorem finV_dry {rs : List VRes} {r : V} {s' : St} (hd : r.dry = true) (h1 : resV s' rs = some r) : FinV rs r .ret s' := finV_ret h1 (Vw.of_dry hd)
theorem w_add1 {k : Nat} (h : k ≤ 4611686018427387904) : IntKind.i64.wrap ((k : Int) + 1) = ((k + 1 : Nat) : Int) := by rw [IntWalk.i64_in _ (by omega)]; omega
theorem w_sub1 {k : Nat} (h0 : 0 < k) (h : k ≤ 4611686018427387904) : IntKind.i64.wrap ((k : Int) - 1) = ((k - 1 : Nat) : Int) := by rw [IntWalk.i64_in _ (by omega)]; omega
theorem w_in {a : Int} (h : -9223372036854775808 ≤ a ∧ a ≤ 9223372036854775807) : IntKind.i64.wrap a = a := IntWalk.i64_in _ h
end
/-! ### Rows of records -/
section
variable {α : Type}
theorem flat_len {enc : α → List V} {sz : Nat} (he : ∀ x, (enc x).length = sz) (l : List α) : (l.flatMap enc).length = l.length * sz := by
  induction l with
  | nil => simp
  | cons a l ih => rw [List.flatMap_cons, List.length_append, ih, he, List.length_cons, Nat.add_mul]; omega
theorem flat_at {enc : α → List V} {sz : Nat} (he : ∀ x, (enc x).length = sz) (d : α) : ∀ {l : List α} {k j : Nat}, k < l.length → j < sz → (l.flatMap enc)[k * sz + j]? = (enc (l.getD k d))[j]?
  | [], k, j, h, _ => by simp at h
  | a :: l, 0, j, _, hj => by rw [List.flatMap_cons, Nat.zero_mul, Nat.zero_add, List.getElem?_append_left (by rw [he]; exact hj)]; rfl
  | a :: l, k + 1, j, h, hj => by
    rw [List.flatMap_cons, List.getElem?_append_right (by rw [he, Nat.add_mul]; omega), he, show (k + 1) * sz + j - sz = k * sz + j by rw [Nat.add_mul]; omega, flat_at he d (by simpa using h) hj]
    rfl
theorem flat_take {enc : α → List V} {sz : Nat} (he : ∀ x, (enc x).length = sz) (d : α) {l : List α} {k : Nat} (h : k < l.length) : ((l.flatMap enc).drop (k * sz)).take sz = enc (l.getD k d) := by
  apply List.ext_getElem?
  intro j
  rw [List.getElem?_take]
  split
  · rename_i hj; rw [List.getElem?_drop, flat_at he d h hj]
  · rename_i hj; rw [List.getElem?_eq_none (by rw [he]; omega)]
theorem flat_clean {enc : α → List V} (he : ∀ x, V.clean (enc x) = true) (l : List α) : V.clean (l.flatMap enc) = true := by
  induction l with
  | nil => rfl
  | cons a l ih => rw [List.flatMap_cons]; exact clean_append (he a) ih
theorem flat_take_n {enc : α → List V} {sz : Nat} (he : ∀ x, (enc x).length = sz) (l : List α) (k : Nat) : (l.flatMap enc).take (k * sz) = (l.take k).flatMap enc := by
  induction l generalizing k with
  | nil => simp
  | cons a l ih =>
    cases k with
    | zero => simp
    | succ k => rw [List.flatMap_cons, List.take_succ_cons, List.flatMap_cons, List.take_append, he, List.take_of_length_le (by rw [he, Nat.add_mul]; omega), show (k + 1) * sz - sz = k * sz by rw [Nat.add_mul]; omega, ih]
end
end Go.Proofs.YtdefefeifcdogaaGreat
namespace Go.Proofs.YtdefefeifcdogaaGreat
open Go.RowKit
section
variable {P : Program} {G : Ground}
/-- A call of a function value that only computes. -/
theorem x_callvF {base i : Nat} {d : Option Nat} {x : Opd} {xs : List Opd} {l : List VI} {s : St} {K : St → Prop} {f : FuncId} {cs vs : List V} {r : V} {md : Option (List Nat)} (hx : s.ev x = .fn f cs) (hc : callable P f = true) (hf : Fn P G f vs r) (hv : V.norms (xs.map s.ev ++ cs) = vs)
    (h : goR P G base (some ⟨putT s.t d r, s.m⟩) l (i + 1) K) : vrun P G base i (⟨d, none, .callv, x :: xs, md⟩ :: l) s K := by
  rw [vrun]
  unfold vstep VI.on
  simp only [if_true, List.map_cons, hx, sem, callSem]
  have hk := goR_vrun l (i + 1) _ h
  refine ⟨hc, ?_⟩
  cases md with
  | none => exact ⟨vs, _, .inr hv.symm, hf s.m, ⟨r, s.m, rfl, rfl⟩, by rintro r' m' ⟨rfl, rfl⟩; exact hk⟩
  | some anc => exact ⟨vs, r, .inr hv.symm, fun m' _ _ => hf m', hk⟩
end
end Go.Proofs.YtdefefeifcdogaaGreat
