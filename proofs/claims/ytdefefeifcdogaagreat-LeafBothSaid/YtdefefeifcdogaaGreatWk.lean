/- The words of a walk on values, each once: what they rewrite by, and steps that find their premises by themselves. Nothing is proved of the program here. -/
import Derived.Test.YtdefefeifcdogaaGreatVf
import Derived.Test.YtdefefeifcdogaaGreatG0
set_option linter.unusedSimpArgs false
set_option linter.unusedVariables false
namespace Go.Proofs.YtdefefeifcdogaaGreat
open Go.RowKit

/-- What every walk wants, in one name. -/
theorem wsl : (∀ n : Int, n ≤ n) ∧ Int.toNat 0 = 0 ∧ (∀ n : Nat, 0 * n = 0) ∧ (∀ b : Bool, (b || false) = b) ∧ (∀ n m : Nat, n + m - n = m) ∧ (∀ n k : Nat, n ≤ n + k) ∧ (∀ n k m : Nat, m + n < m + k ↔ n < k) ∧ (∀ n k m : Nat, m + n ≤ m + k ↔ n ≤ k) ∧
    (∀ n k m : Nat, k + n - (k + m) = n - m) ∧ (∀ b : Bool, (!b) = true ↔ b = false) ∧ (∀ (p : Prop) [Decidable p], decide p = false ↔ ¬ p) ∧ (∀ (h : Decidable True), @decide True h = true) ∧ (∀ (h : Decidable False), @decide False h = false) ∧ (∀ b : Bool, (b == false) = !b) ∧ (∀ b : Bool, (b == true) = b) :=
  ⟨Int.le_refl, rfl, Nat.zero_mul, Bool.or_false, Nat.add_sub_cancel_left, Nat.le_add_right, fun _ _ _ => Nat.add_lt_add_iff_left, fun _ _ _ => Nat.add_le_add_iff_left, fun n k m => Nat.add_sub_add_left k n m, fun b => by cases b <;> simp, fun p _ => decide_eq_false_iff_not, fun h => decide_eq_true trivial, fun h => decide_eq_false id, fun b => by cases b <;> rfl, fun b => by cases b <;> rfl⟩
/-- What a test says. -/
theorem hcl : (∀ (p : Prop) [Decidable p], decide p = true ↔ p) ∧ (∀ (p : Prop) [Decidable p], decide p = false ↔ ¬ p) ∧ (∀ b : Bool, ¬ b = true ↔ b = false) ∧ (∀ (p : Prop) [Decidable p], ¬ ¬ p ↔ p) ∧ (∀ b : Bool, (!b) = true ↔ b = false) ∧ (∀ b : Bool, (!b) = false ↔ b = true) ∧ (false = true ↔ False) ∧ (true = false ↔ False) :=
  ⟨fun p _ => decide_eq_true_iff, fun p _ => decide_eq_false_iff_not, fun b => by cases b <;> simp, fun p _ => Decidable.not_not, fun b => by cases b <;> simp, fun b => by cases b <;> simp, by simp, by simp⟩
/-- A list of numbers. -/
def tIs (l : List Int) : V := .sl l.length (l.map vint) .no
/-- A list of yes and no. -/
def tBs (l : List Bool) : V := .sl l.length (l.map vbool) .no
/-- A list of places. -/
def plE (p : Int × Int) : List V := [vint p.1, vint p.2]
def tPs (l : List (Int × Int)) : V := .sl l.length (l.flatMap plE) .no

attribute [go_sem] eqOffs eqSc oo od og kk li vx_skip vx_ret vx_exit vx_seq vx_block vx_scope vx_cond vx_condT vx_condF gR_nil gR_cons VO.stops beq_self_eq_true Bool.false_beq Bool.true_beq Bool.not_true Bool.not_false Bool.false_eq_true if_false exo VI.on if_true exoOp pureSem List.map_cons List.map_nil St.ev initT Option.map_some putT_get putT_none put_obj put_next M0_next freeze_obj freeze_next List.getD_cons_zero List.getD_cons_succ List.getD_nil V.cells rdable Nat.add_assoc Nat.add_zero Nat.add_left_cancel_iff Nat.add_eq_left Nat.left_eq_add decide_true Bool.true_or ite_self onB vbinI vint vbool List.drop_zero List.take_succ_cons List.drop_succ_cons List.take_zero List.length_cons List.length_nil List.getElem?_cons_zero List.getElem?_cons_succ decide_eq_true_eq true_and and_true Nat.le_refl List.zip_cons_cons List.zip_nil_left V.pubs V.pub Option.bind_some List.all_cons List.all_nil V.one Bool.and_self List.cons_append List.nil_append then_nrm then_ret then_exit inB_nrm inB_ret inB_exit Int.toNat_natCast Int.natCast_nonneg eq_self Nat.zero_add Nat.mul_one wsl vund bne List.length_map stOk ownOk List.contains_cons List.contains_nil splice vfill mix_get ge_iff_le gt_iff_lt ite_not not_true not_false_eq_true resV resAll resOne oneOr Int.cast_ofNat_Int ne_eq

theorem q20 : ((2 : Int) = 0) = False := by simp
theorem q30 : ((3 : Int) = 0) = False := by simp
theorem q12 : ((12 : Int) = 0) = False := by simp
attribute [go_sem] q20 q30 q12
/-- By rewriting outright. -/
theorem vv {p : Prop} (h : p := by simp only [go_sem, Nat.reduceAdd, Nat.reduceEqDiff, Nat.reduceLT, Nat.reduceLeDiff, Nat.reduceMul, Nat.reduceSub, Nat.reducePow, Nat.reduceDiv, Nat.reduceMod, Nat.reduceBEq, Int.reduceBEq, Int.reduceLT, reduceIte]; first | done | rfl) : p := h
/-- The same, with all that is known. -/
theorem vw {p : Prop} (h : p := by simp only [go_sem, Nat.reduceAdd, Nat.reduceEqDiff, Nat.reduceLT, Nat.reduceLeDiff, Nat.reduceMul, Nat.reduceSub, Nat.reducePow, Nat.reduceDiv, Nat.reduceMod, Nat.reduceBEq, Int.reduceBEq, Int.reduceLT, reduceIte, V.norms, V.norm, tIs, tBs, tPs, *]; first | done | rfl) : p := h
/-- A step of rewriting. -/
theorem ve {p q : Prop} (h : q) (e : p = q := by simp only [go_sem, Nat.reduceAdd, Nat.reduceEqDiff, Nat.reduceLT, Nat.reduceLeDiff, Nat.reduceMul, Nat.reduceSub, Nat.reducePow, Nat.reduceDiv, Nat.reduceMod, Nat.reduceBEq, Int.reduceBEq, Int.reduceLT, reduceIte]; rfl) : p := e.mpr h
/-- A step of rewriting with all that is known. -/
theorem wk {p q : Prop} (h : q) (e : p = q := by simp only [go_sem, Nat.reduceAdd, Nat.reduceEqDiff, Nat.reduceLT, Nat.reduceLeDiff, Nat.reduceMul, Nat.reduceSub, Nat.reducePow, Nat.reduceDiv, Nat.reduceMod, Nat.reduceBEq, Int.reduceBEq, Int.reduceLT, reduceIte, tIs, tBs, tPs, *]; rfl) : p := e.mpr h
section
variable {P : Program} {G : Ground}
/-- A call that only computes. -/
theorem xc {base i : Nat} {d : Option Nat} {f : FuncId} {xs : List Opd} {l : List VI} {s : St} {K : St → Prop} {vs : List V} {r : V} {md : Option (List Nat)} (hf : Fn P G f vs r) (h : goR P G base (some ⟨putT s.t d r, s.m⟩) l (i + 1) K)
    (hv : V.norms (xs.map s.ev) = vs := by simp only [go_sem, Nat.reduceAdd, Nat.reduceEqDiff, Nat.reduceLT, Nat.reduceLeDiff, Nat.reduceMul, Nat.reduceSub, Nat.reducePow, Nat.reduceDiv, Nat.reduceMod, Nat.reduceBEq, Int.reduceBEq, Int.reduceLT, reduceIte, V.norms, V.norm, tIs, tBs, tPs, *]; first | done | rfl) : vrun P G base i (⟨d, none, .call f, xs, md⟩ :: l) s K := x_call md hf hv h
/-- A call of a function value that only computes. -/
theorem xcv {base i : Nat} {d : Option Nat} {x : Opd} {xs : List Opd} {l : List VI} {s : St} {K : St → Prop} {f : FuncId} {cs vs : List V} {r : V} {md : Option (List Nat)} (hf : Fn P G f vs r) (hc : callable P f = true) (h : goR P G base (some ⟨putT s.t d r, s.m⟩) l (i + 1) K)
    (hx : s.ev x = .fn f cs := by simp only [go_sem, Nat.reduceAdd, Nat.reduceEqDiff, Nat.reduceLT, Nat.reduceLeDiff, Nat.reduceMul, Nat.reduceSub, Nat.reducePow, Nat.reduceDiv, Nat.reduceMod, Nat.reduceBEq, Int.reduceBEq, Int.reduceLT, reduceIte, tIs, tBs, tPs, *]; first | done | rfl)
    (hv : V.norms (xs.map s.ev ++ cs) = vs := by simp only [go_sem, Nat.reduceAdd, Nat.reduceEqDiff, Nat.reduceLT, Nat.reduceLeDiff, Nat.reduceMul, Nat.reduceSub, Nat.reducePow, Nat.reduceDiv, Nat.reduceMod, Nat.reduceBEq, Int.reduceBEq, Int.reduceLT, reduceIte, V.norms, V.norm, tIs, tBs, tPs, *]; first | done | rfl) : vrun P G base i (⟨d, none, .callv, x :: xs, md⟩ :: l) s K := by
  rw [vrun]
  unfold vstep VI.on
  simp only [if_true, List.map_cons, hx, sem, callSem]
  have hk := goR_vrun l (i + 1) _ h
  refine ⟨hc, ?_⟩
  cases md with
  | none => exact ⟨vs, _, .inr hv.symm, hf s.m, ⟨r, s.m, rfl, rfl⟩, by rintro r' m' ⟨rfl, rfl⟩; exact hk⟩
  | some anc => exact ⟨vs, r, .inr hv.symm, fun m' _ _ => hf m', hk⟩
/-- A guarded operation. -/
theorem gd1 {base : Nat} {K : St → Prop} {d : Option Nat} {g : Nat} {w : Bool} {op : VO} {args : List Opd} {md : Option (List Nat)} {l : List VI} {i : Nat} {s : St} {b : Bool} {p1 p2 : Prop} (h1 : p1 → vrun P G base i (⟨d, none, op, args, md⟩ :: l) s K) (h2 : p2 → goR P G base (some ⟨putT s.t d vund, s.m⟩) l (i + 1) K)
    (hb : s.t g = .lit (.bool b) := by simp only [go_sem, Nat.reduceAdd, Nat.reduceEqDiff, Nat.reduceLT, Nat.reduceLeDiff, Nat.reduceMul, Nat.reduceSub, Nat.reducePow, Nat.reduceDiv, Nat.reduceMod, Nat.reduceBEq, Int.reduceBEq, Int.reduceLT, reduceIte, V.norms, V.norm]; try rfl) (e1 : (b = w) = p1 := by (try simp only [hcl, bne, eq_self, not_true, ne_eq, not_false_eq_true, reduceCtorEq]); rfl) (e2 : (b ≠ w) = p2 := by (try simp only [hcl, bne, eq_self, not_true, ne_eq, not_false_eq_true, reduceCtorEq]); rfl) :
    vrun P G base i (⟨d, some (g, w), op, args, md⟩ :: l) s K := vrun_guard hb (fun h => h1 (e1.mp h)) (fun h => h2 (e2.mp h))
/-- A test within an operation. -/
theorem gd2 {base : Nat} {K : St → Prop} {c : Prop} [Decidable c] {x y : Option St} {l : List VI} {i : Nat} {p1 p2 : Prop} (h1 : p1 → goR P G base x l i K) (h2 : p2 → goR P G base y l i K)
    (e1 : c = p1 := by (try simp only [hcl, bne, eq_self, not_true, ne_eq, not_false_eq_true, reduceCtorEq]); rfl) (e2 : (¬ c) = p2 := by (try simp only [hcl, bne, eq_self, not_true, ne_eq, not_false_eq_true, reduceCtorEq]); rfl) : goR P G base (if c then x else y) l i K := goR_guard (fun h => h1 (e1.mp h)) (fun h => h2 (e2.mp h))
/-- A test. -/
theorem gd3 {t : Bool} {a b : VC} {Q : VX → St → Prop} {s : St} {p1 p2 : Prop} (h1 : p1 → a.vx P G Q s) (h2 : p2 → b.vx P G Q s)
    (e1 : (t = true) = p1 := by (try simp only [hcl, bne, eq_self, not_true, ne_eq, not_false_eq_true, reduceCtorEq]); rfl) (e2 : (t = false) = p2 := by (try simp only [hcl, bne, eq_self, not_true, ne_eq, not_false_eq_true, reduceCtorEq]); rfl) : condR P G (.lit (.bool t)) a b Q s := x_if (fun h => h1 (e1.mp h)) (fun h => h2 (e2.mp h))
end
section
variable {P : Program} {G : Ground}
/-- What a piece of code comes to, said once. -/
theorem x_sum {a : VC} {Q : VX → St → Prop} {s : St} (w : Nat) (hw : inMask w a = true) {R : VX → (Nat → V) → Mm → Prop} (h1 : a.vx P G (fun e s' => R e s'.t s'.m) s) (h2 : ∀ e t m, R e t m → Q e ⟨mix w t s.t, m⟩) : a.vx P G Q s := by
  refine vx_mono (vx_frame h1) fun e s' ⟨hR, hf⟩ => ?_
  obtain ⟨t', m'⟩ := s'
  have := h2 e t' m' hR
  rwa [← mix_of hw (t := s.t) (t0 := s.t) (t' := t') fun j hj => by rw [mix_self]; exact hf j hj] at this
/-- It goes on behind, memory as it was. -/
def Jn (m : Mm) (R : (Nat → V) → Prop) (e : VX) (s : St) : Prop := e = .nrm ∧ s.m = m ∧ R s.t
theorem jn {m : Mm} {R : (Nat → V) → Prop} {s : St} (h1 : s.m = m) (h2 : R s.t) : Jn m R .nrm s := ⟨rfl, h1, h2⟩
/-- The same at the head of a sequence. -/
theorem x_join {a b : VC} {Q : VX → St → Prop} {s : St} (w : Nat) (hw : inMask w a = true) (R : (Nat → V) → Prop) (h1 : a.vx P G (Jn s.m R) s) (h2 : ∀ t, R t → b.vx P G Q ⟨mix w t s.t, s.m⟩) : (VC.seq a b).vx P G Q s :=
  x_seq (x_sum w hw (R := fun e t m => e = .nrm ∧ m = s.m ∧ R t) h1 fun e t m ⟨he, hm, hR⟩ => by subst he; subst hm; rw [then_nrm]; exact h2 t hR)
/-- What is not needed of the slots is forgotten. -/
theorem x_gen {a : VC} {Q : VX → St → Prop} {s : St} (F : (Nat → V) → Prop) (h0 : F s.t) (h : ∀ t, F t → a.vx P G Q ⟨t, s.m⟩) : a.vx P G Q s := h s.t h0
end
/-- A piece leaves memory as it is; it goes on, or ends the function with a value in a slot. -/
def EdQ (M : Mm) (A B : Prop) (r : Nat) (v : V) (e : VX) (s : St) : Prop := s.m = M ∧ ((e = .nrm ∧ A) ∨ (e = .ret ∧ s.t r = v ∧ B))
theorem edN {M : Mm} {A B : Prop} {r : Nat} {v : V} {s : St} (hm : s.m = M) (h : A) : EdQ M A B r v .nrm s := ⟨hm, .inl ⟨rfl, h⟩⟩
theorem edR {M : Mm} {A B : Prop} {r : Nat} {v : V} {s : St} (hm : s.m = M) (hv : s.t r = v) (h : B) : EdQ M A B r v .ret s := ⟨hm, .inr ⟨rfl, hv, h⟩⟩
section
variable {P : Program} {G : Ground}
/-- A piece at the head of a sequence that goes on, or ends the function. -/
theorem x_ed {a b : VC} {Q : VX → St → Prop} {s : St} (w : Nat) (hw : inMask w a = true) {A B : Prop} {r : Nat} {v : V} (h1 : a.vx P G (EdQ s.m A B r v) s) (h2 : A → ∀ t, b.vx P G Q ⟨mix w t s.t, s.m⟩) (h3 : B → ∀ t, mix w t s.t r = v → Q .ret ⟨mix w t s.t, s.m⟩) : (VC.seq a b).vx P G Q s := by
  refine x_seq (vx_mono (vx_frame h1) fun e s' ⟨⟨hm, hR⟩, hf⟩ => ?_)
  obtain ⟨t', m'⟩ := s'
  have hmx : mix w t' s.t = t' := (mix_of hw (t := s.t) (t0 := s.t) (t' := t') fun j hj => by rw [mix_self]; exact hf j hj).symm
  dsimp only at hm
  subst hm
  rcases hR with ⟨rfl, hA⟩ | ⟨rfl, hv, hB⟩
  · rw [then_nrm, ← hmx]; exact h2 hA t'
  · rw [then_ret, ← hmx]; exact h3 hB t' (by rw [hmx]; exact hv)
end
/-- A slot. -/
def Sl (k : Nat) (v : V) (t : Nat → V) : Prop := t k = v
end Go.Proofs.YtdefefeifcdogaaGreat
