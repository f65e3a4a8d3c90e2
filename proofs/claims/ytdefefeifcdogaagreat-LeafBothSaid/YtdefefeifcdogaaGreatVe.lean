/- Running code on values by numbers outright, by a function: what it says is what the code does. Nothing is proved of the program here. -/
import Derived.Test.YtdefefeifcdogaaGreatVt
set_option linter.unusedSimpArgs false
set_option linter.unusedVariables false
namespace Go.Proofs.YtdefefeifcdogaaGreat
open Go.RowKit
noncomputable section

/-! ### Stores by the bits of a number -/
inductive Tr (α : Type) where
  | e
  | n (v : Option α) (l r : Tr α)
def Tr.get {α : Type} (t : Tr α) : Nat → Option α :=
  Tr.rec (motive := fun _ => Nat → Option α) (fun _ => none) (fun v _ _ gl gr p => bif Nat.beq p 1 then v else bif Nat.beq (Nat.mod p 2) 0 then gl (Nat.div p 2) else gr (Nat.div p 2)) t
def Tr.set {α : Type} (k : Nat) : Tr α → Nat → Option α → Tr α :=
  Nat.rec (motive := fun _ => Tr α → Nat → Option α → Tr α) (fun t _ _ => t) (fun _ ih t p x =>
    Tr.casesOn (motive := fun _ => Tr α) t
      (bif Nat.beq p 1 then .n x .e .e else bif Nat.beq (Nat.mod p 2) 0 then .n none (ih .e (Nat.div p 2) x) .e else .n none .e (ih .e (Nat.div p 2) x))
      (fun v l r => bif Nat.beq p 1 then .n x l r else bif Nat.beq (Nat.mod p 2) 0 then .n v (ih l (Nat.div p 2) x) r else .n v l (ih r (Nat.div p 2) x))) k
theorem Tr.get_n0 {α : Type} (v : Option α) (l r : Tr α) (p : Nat) : (Tr.n v l r).get p = bif Nat.beq p 1 then v else bif Nat.beq (p % 2) 0 then l.get (p / 2) else r.get (p / 2) := rfl
theorem Tr.set_n0 {α : Type} (k : Nat) (v : Option α) (l r : Tr α) (p : Nat) (x : Option α) : Tr.set (k + 1) (.n v l r) p x = bif Nat.beq p 1 then .n x l r else bif Nat.beq (p % 2) 0 then .n v (Tr.set k l (p / 2) x) r else .n v l (Tr.set k r (p / 2) x) := rfl
theorem Tr.get_e {α : Type} (p : Nat) : (Tr.e : Tr α).get p = none := rfl
theorem Tr.get_n {α : Type} (v : Option α) (l r : Tr α) (p : Nat) : (Tr.n v l r).get p = if p = 1 then v else if p % 2 = 0 then l.get (p / 2) else r.get (p / 2) := by
  rw [Tr.get_n0]
  by_cases h : p = 1
  · subst h; rfl
  · rw [if_neg h, show Nat.beq p 1 = false from by rw [← Bool.not_eq_true]; exact fun e => h (Nat.eq_of_beq_eq_true e), cond_false]
    by_cases h2 : p % 2 = 0
    · rw [if_pos h2, h2]; rfl
    · rw [if_neg h2, show Nat.beq (p % 2) 0 = false from by rw [← Bool.not_eq_true]; exact fun e => h2 (Nat.eq_of_beq_eq_true e), cond_false]
theorem Tr.set_succ {α : Type} (k : Nat) (v : Option α) (l r : Tr α) (p : Nat) (x : Option α) : Tr.set (k + 1) (.n v l r) p x = if p = 1 then .n x l r else if p % 2 = 0 then .n v (Tr.set k l (p / 2) x) r else .n v l (Tr.set k r (p / 2) x) := by
  rw [Tr.set_n0]
  by_cases h : p = 1
  · subst h; rfl
  · rw [if_neg h, show Nat.beq p 1 = false from by rw [← Bool.not_eq_true]; exact fun e => h (Nat.eq_of_beq_eq_true e), cond_false]
    by_cases h2 : p % 2 = 0
    · rw [if_pos h2, h2]; rfl
    · rw [if_neg h2, show Nat.beq (p % 2) 0 = false from by rw [← Bool.not_eq_true]; exact fun e => h2 (Nat.eq_of_beq_eq_true e), cond_false]
theorem Tr.set_e {α : Type} (k : Nat) (p : Nat) (x : Option α) : Tr.set (k + 1) .e p x = Tr.set (k + 1) (.n none .e .e) p x := by
  rfl
theorem Tr.get_set {α : Type} : ∀ (k : Nat) (t : Tr α) (p : Nat) (x : Option α) (q : Nat), 0 < p → p < 2 ^ k → 0 < q → (Tr.set k t p x).get q = if q = p then x else t.get q
  | 0, t, p, x, q, h0, h1, h2 => by simp at h1; omega
  | k + 1, .e, p, x, q, h0, h1, h2 => by
    rw [Tr.set_e]
    have he : (Tr.n none .e .e : Tr α).get q = (Tr.e : Tr α).get q := by
      rw [Tr.get_n, Tr.get_e, Tr.get_e]
      by_cases h : q = 1
      · rw [if_pos h]
      · rw [if_neg h, ite_self]
    rw [← he]
    exact Tr.get_set.node k none .e .e p x q h0 h1 h2 (fun p x q a b c => Tr.get_set k .e p x q a b c) (fun p x q a b c => Tr.get_set k .e p x q a b c)
  | k + 1, .n v l r, p, x, q, h0, h1, h2 => Tr.get_set.node k v l r p x q h0 h1 h2 (fun p x q a b c => Tr.get_set k l p x q a b c) (fun p x q a b c => Tr.get_set k r p x q a b c)
where
  node {α : Type} (k : Nat) (v : Option α) (l r : Tr α) (p : Nat) (x : Option α) (q : Nat) (h0 : 0 < p) (h1 : p < 2 ^ (k + 1)) (h2 : 0 < q)
      (hl : ∀ (p : Nat) (x : Option α) (q : Nat), 0 < p → p < 2 ^ k → 0 < q → (Tr.set k l p x).get q = if q = p then x else l.get q)
      (hr : ∀ (p : Nat) (x : Option α) (q : Nat), 0 < p → p < 2 ^ k → 0 < q → (Tr.set k r p x).get q = if q = p then x else r.get q) :
      (Tr.set (k + 1) (.n v l r) p x).get q = if q = p then x else (Tr.n v l r).get q := by
    rw [Nat.pow_succ] at h1
    rw [Tr.set_succ]
    by_cases hp : p = 1
    · subst hp
      rw [if_pos rfl, Tr.get_n, Tr.get_n]
      split
      · rfl
      · rfl
    · rw [if_neg hp]
      by_cases he : p % 2 = 0
      · rw [if_pos he, Tr.get_n, Tr.get_n]
        by_cases hq : q = 1
        · rw [if_pos hq, if_pos hq, if_neg (by omega)]
        · rw [if_neg hq, if_neg hq]
          by_cases hqe : q % 2 = 0
          · rw [if_pos hqe, if_pos hqe, hl _ _ _ (by omega) (by omega) (by omega)]
            by_cases hpq : q = p
            · rw [if_pos hpq, if_pos (by omega)]
            · rw [if_neg hpq, if_neg (by omega)]
          · rw [if_neg hqe, if_neg hqe, if_neg (by omega)]
      · rw [if_neg he, Tr.get_n, Tr.get_n]
        by_cases hq : q = 1
        · rw [if_pos hq, if_pos hq, if_neg (by omega)]
        · rw [if_neg hq, if_neg hq]
          by_cases hqe : q % 2 = 0
          · rw [if_pos hqe, if_pos hqe, if_neg (by omega)]
          · rw [if_neg hqe, if_neg hqe, hr _ _ _ (by omega) (by omega) (by omega)]
            by_cases hpq : q = p
            · rw [if_pos hpq, if_pos (by omega)]
            · rw [if_neg hpq, if_neg (by omega)]

/-! ### The state of a run -/
structure ES where
  t : Tr V
  o : Tr AObj
  nx : Nat
def mmT (o : Tr AObj) (nx : Nat) : Mm := ⟨fun i => o.get (i + 1), nx⟩
def stT (t : Tr V) : Nat → V := fun i => (t.get (i + 1)).getD vund
def ES.st (s : ES) : St := ⟨stT s.t, mmT s.o s.nx⟩

/-- Numbers are worked out at once. -/
def now {β : Type} (v : V) (f : V → β) : β :=
  match v with
  | .lit (.int k n) => match n with
    | .ofNat m => (match m with | 0 => f (.lit (.int k (.ofNat 0))) | a + 1 => f (.lit (.int k (.ofNat (a + 1)))))
    | .negSucc m => (match m with | 0 => f (.lit (.int k (.negSucc 0))) | a + 1 => f (.lit (.int k (.negSucc (a + 1)))))
  | v => f v
theorem now_eq {β : Type} (v : V) (f : V → β) : now v f = f v := by
  unfold now
  split
  · split <;> split <;> rfl
  · rfl

def putE (t : Tr V) (d : Option Nat) (v : V) : Option (Tr V) :=
  match d with
  | none => some t
  | some n => bif Nat.ble n 4000 then some (now v fun v => Tr.set 12 t (n + 1) (some v)) else none
theorem putE_ok {t t' : Tr V} {d : Option Nat} {v : V} (h : putE t d v = some t') : stT t' = putT (stT t) d v := by
  unfold putE at h
  cases d with
  | none => cases h; rfl
  | some n =>
    simp only [now_eq] at h
    cases hb : Nat.ble n 4000 with
    | false => rw [hb] at h; cases h
    | true =>
      rw [hb] at h
      cases h
      have hn := Nat.le_of_ble_eq_true hb
      funext i
      unfold stT
      rw [putT_get, Tr.get_set _ _ _ _ _ (by omega) (by omega) (by omega)]
      by_cases hi : i = n
      · rw [if_pos hi, if_pos (by omega)]; rfl
      · rw [if_neg hi, if_neg (by omega)]

/-- Changes of the memory. -/
abbrev Upd := List (Nat × Option AObj)
def updM (m : Mm) : Upd → Mm
  | [] => m
  | (i, x) :: r => updM ⟨fun j => if j = i then x else m.obj j, m.next⟩ r
def updT (o : Tr AObj) : Upd → Option (Tr AObj)
  | [] => some o
  | (i, x) :: r => bif Nat.ble i 1000000 then updT (Tr.set 20 o (i + 1) x) r else none
theorem updT_ok : ∀ {us : Upd} {o o' : Tr AObj} (nx : Nat), updT o us = some o' → mmT o' nx = updM (mmT o nx) us
  | [], o, o', nx, h => by rw [updT] at h; cases h; rfl
  | (i, x) :: r, o, o', nx, h => by
    rw [updT] at h
    cases hb : Nat.ble i 1000000 with
    | false => rw [hb] at h; cases h
    | true =>
      rw [hb] at h
      have hn := Nat.le_of_ble_eq_true hb
      rw [updM, updT_ok nx h]
      congr 1
      unfold mmT
      simp only [Mm.mk.injEq, and_true]
      funext j
      rw [Tr.get_set _ _ _ _ _ (by omega) (by omega) (by omega)]
      by_cases hi : j = i
      · rw [if_pos hi, if_pos (by omega)]
      · rw [if_neg hi, if_neg (by omega)]
theorem updM_put (m : Mm) (i : Nat) (x : AObj) : updM m [(i, some x)] = m.put i x := rfl
theorem updM_del (m : Mm) (i j : Nat) (x : AObj) : updM m [(i, none), (j, some x)] = (m.del i).put j x := rfl

/-! ### Operations -/
def evOp (id base : Nat) (md : Option (List Nat)) (op : VO) (vals : List V) (m : Mm) : Option (V × Upd) :=
  match op with
  | .alloc t z => some (.ptr id 0, [(id, some (.box z t))])
  | .box t => match vals with | [x] => some (.ptr id 0, [(id, some (.box x.cells t))]) | _ => none
  | .mk e size bytes z => match vals with
    | [.lit (.int _ l), .lit (.int _ c)] => if 0 ≤ l ∧ l ≤ c ∧ c * bytes ≤ 140737488355328 ∧ c ≤ 140737488355328 ∧ z.length = size then some (.bsl id 0 l.toNat c.toNat, [(id, some (.box (List.flatten (List.replicate c.toNat z)) e))]) else none
    | _ => none
  | .ld1 => match vals with
    | [.ept xs o] => (xs[o]?).map fun v => (v, [])
    | [.ptr i o] => if rdable md base i = true then (match m.obj i with | some (.box cs _) => (cs[o]?).map fun v => (v, []) | _ => none) else none
    | _ => none
  | .ldA n => match vals with
    | [.ept xs o] => if o + n ≤ xs.length then some (.agg ((xs.drop o).take n), []) else none
    | [.ptr i o] => if rdable md base i = true then (match m.obj i with | some (.box cs _) => if o + n ≤ cs.length then some (.agg ((cs.drop o).take n), []) else none | _ => none) else none
    | _ => none
  | .st n => match vals with
    | [.ptr i o, v] => if stOk md base i = true then (match m.obj i with
      | some (.box cs t) => if v.cells.length = n ∧ v.cells.all V.one = true ∧ o + n ≤ cs.length then some (vund, [(i, some (.box (splice cs o v.cells) t))]) else none
      | _ => none) else none
    | _ => none
  | .app e size bytes => match vals with
    | [.sl n xs k, .sl j ys _] => match k with
      | .exact => if xs.length = n * size ∧ ys.length = j * size ∧ (n + j) * bytes ≤ 140737488355328 ∧ n + j ≤ maxLen then some (.sl (n + j) (xs ++ ys) (.own id), [(id, some (.row (n + j) e size))]) else none
      | .own t => match ownOk md base t, m.obj t with
        | true, some (.row n' e' s') => if (xs.length = n * size ∧ ys.length = j * size ∧ (n + j) * bytes ≤ 140737488355328 ∧ n + j ≤ maxLen) ∧ n' = n ∧ e' = e ∧ s' = size then some (.sl (n + j) (xs ++ ys) (.own t), [(t, some (.row (n + j) e size))]) else none
        | _, _ => none
      | .no => none
    | _ => none
  | .appM e size bytes => match md, vals with
    | none, [x, y] => match rdS m size y with
      | some (j, ys) => match x with
        | .sl n xs k => if k = .exact ∧ xs.length = n * size ∧ (n + j) * bytes ≤ 140737488355328 ∧ n + j ≤ maxLen then (if j = 0 then some (.sl n xs .exact, []) else some (.gsl id (n + j) size, [(id, some (.box (xs ++ ys) e))])) else none
        | .gsl i n s => match m.obj i with
          | some (.box cs t) => if (s = size ∧ (n + j) * bytes ≤ 140737488355328 ∧ n + j ≤ maxLen) ∧ t = e ∧ n * size ≤ cs.length ∧ (cs.take (n * size)).all V.one = true then some (.gsl id (n + j) size, [(i, none), (id, some (.box (cs.take (n * size) ++ ys) e))]) else none
          | _ => none
        | _ => none
      | none => none
    | _, _ => none
  | .appL e size bytes => match md, vals with
    | none, x :: y :: ps => bif ps.all (offP id x) then (match rdS m size y with
      | some (j, ys) => match x with
        | .sl n xs k => if k = .exact ∧ xs.length = n * size ∧ (n + j) * bytes ≤ 140737488355328 ∧ n + j ≤ maxLen then (if j = 0 then some (.sl n xs .exact, []) else some (.gsl id (n + j) size, [(id, some (.box (xs ++ ys) e))])) else none
        | .gsl i n s => match m.obj i with
          | some (.box cs t) => if (s = size ∧ (n + j) * bytes ≤ 140737488355328 ∧ n + j ≤ maxLen) ∧ t = e ∧ n * size ≤ cs.length ∧ (cs.take (n * size)).all V.one = true then some (.gsl id (n + j) size, [(i, none), (id, some (.box (cs.take (n * size) ++ ys) e))]) else none
          | _ => none
        | _ => none
      | none => none) else none
    | _, _ => none
  | .mkslB e n size z pl => if pl.length = vals.length ∧ z.length = n * size then (vfill z (pl.zip vals)).map fun cs => (.gsl id n size, [(id, some (.box cs e))]) else none
  | .eqN neg => match md, vals with
    | none, [.sl _ (_ :: _) _] => some (vbool neg, [])
    | none, [.bsl _ _ _ _] => some (vbool neg, [])
    | none, [.gsl _ _ _] => some (vbool neg, [])
    | _, _ => none
  | .appB _ _ _ | .call _ | .callv | .callB _ | .callL _ _ => none
  | .mkmap ks => if md = none then some (.mp id, [(id, some (.oth (.map ks [])))]) else none
  | .mlk ks ok => if md = none then (match vals with
    | [.mp i, key] => match m.obj i, keyOf ks key with
      | some (.oth (.map ks' es)), some k => if ks' = ks then some (mans ok (mget es k), []) else none
      | _, _ => none
    | _ => none) else none
  | .mput ks => if md = none then (match vals with
    | [.mp i, key, .lit (.int .i64 n)] => match m.obj i, keyOf ks key with
      | some (.oth (.map ks' es)), some k => if ks' = ks then some (vund, [(i, some (.oth (.map ks (mset es k n))))]) else none
      | _, _ => none
    | _ => none) else none
  | .cpy => match md, vals with
    | none, [.bsl i off n _, y] => match m.obj i, rdS m 1 y with
      | some (.box cs t), some (j, ys) => if off + n ≤ cs.length then some (vint ((min n j : Nat) : Int), [(i, some (.box (splice cs off (ys.take (min n j))) t))]) else none
      | _, _ => none
    | _, _ => none
  | .clr size z => match md, vals with
    | none, [.bsl i off n _] => match m.obj i with
      | some (.box cs t) => if z.length = size ∧ off + n * size ≤ cs.length then some (vund, [(i, some (.box (splice cs off (List.flatten (List.replicate n z))) t))]) else none
      | _ => none
    | _, _ => none
  | op => (pureSem op vals).map fun v => (v, [])
theorem evOp_sem {P : Program} {G : Ground} {id base : Nat} {md : Option (List Nat)} {op : VO} {vals : List V} {m : Mm} {K : V → Mm → Prop} {r : V} {us : Upd} (h : evOp id base md op vals m = some (r, us)) (hK : K r (updM m us)) : sem P G id base md op vals m K := by
  cases op <;> simp only [evOp] at h <;> simp only [sem]
  case alloc => cases h; exact hK
  case box => split at h <;> cases h; exact hK
  case mk =>
    split at h
    · split at h
      · rename_i hh; cases h; exact ⟨hh.1, hh.2.1, hh.2.2.1, hh.2.2.2.1, hh.2.2.2.2, hK⟩
      · cases h
    · cases h
  case ld1 =>
    split at h
    · rw [Option.map_eq_some_iff] at h
      obtain ⟨v, hv, e⟩ := h
      cases e
      simp only [hv]; exact hK
    · split at h
      · rename_i hrd
        refine ⟨hrd, ?_⟩
        split at h
        · rename_i ho
          rw [Option.map_eq_some_iff] at h
          obtain ⟨v, hv, e⟩ := h
          cases e
          simp only [ho, hv]; exact hK
        · cases h
      · cases h
    · cases h
  case ldA =>
    split at h
    · split at h
      · rename_i hl; cases h; exact ⟨hl, hK⟩
      · cases h
    · split at h
      · rename_i hrd
        refine ⟨hrd, ?_⟩
        split at h
        · rename_i ho
          split at h
          · rename_i hl; cases h; simp only [ho]; exact ⟨hl, hK⟩
          · cases h
        · cases h
      · cases h
    · cases h
  case st =>
    split at h
    · split at h
      · rename_i hok
        refine ⟨hok, ?_⟩
        split at h
        · rename_i ho
          split at h
          · rename_i hh; cases h; simp only [ho]; exact ⟨hh.1, hh.2.1, hh.2.2, hK⟩
          · cases h
        · cases h
      · cases h
    · cases h
  case mkslB =>
    split at h
    · rename_i h0
      rw [Option.map_eq_some_iff] at h
      obtain ⟨cs, hcs, e⟩ := h
      cases e
      rw [if_pos h0, hcs]; exact hK
    · cases h
  case app =>
    split at h
    · split at h
      · split at h
        · rename_i hh; cases h; exact ⟨hh.1, hh.2.1, hh.2.2.1, hh.2.2.2, hK⟩
        · cases h
      · split at h
        · rename_i hok ho
          split at h
          · rename_i hh; cases h; simp only [ho]; exact ⟨hh.1.1, hh.1.2.1, hh.1.2.2.1, hh.1.2.2.2, hok, hh.2.1, hh.2.2.1, hh.2.2.2, hK⟩
          · cases h
        · cases h
      · cases h
    · cases h
  case appM =>
    split at h
    · split at h
      · rename_i j ys hrd
        simp only [hrd]
        split at h
        · split at h
          · rename_i hh
            refine ⟨hh.1, hh.2.1, hh.2.2.1, hh.2.2.2, ?_⟩
            split at h
            · rename_i hj; cases h; rw [if_pos hj]; exact hK
            · rename_i hj; cases h; rw [if_neg hj]; exact hK
          · cases h
        · split at h
          · rename_i ho
            split at h
            · rename_i hh
              cases h
              simp only [ho]
              exact ⟨hh.1.1, hh.1.2.1, hh.1.2.2, hh.2.1, hh.2.2.1, hh.2.2.2, hK⟩
            · cases h
          · cases h
        · cases h
      · cases h
    · cases h
  case appL =>
    split at h
    · rename_i x y ps
      cases hps : ps.all (offP id x) with
      | false => rw [hps] at h; cases h
      | true =>
      rw [hps, cond_true] at h
      refine ⟨hps, ?_⟩
      split at h
      · rename_i j ys hrd
        simp only [hrd]
        split at h
        · split at h
          · rename_i hh
            refine ⟨hh.1, hh.2.1, hh.2.2.1, hh.2.2.2, ?_⟩
            split at h
            · rename_i hj; cases h; rw [if_pos hj]; exact hK
            · rename_i hj; cases h; rw [if_neg hj]; exact hK
          · cases h
        · split at h
          · rename_i ho
            split at h
            · rename_i hh
              cases h
              simp only [ho]
              exact ⟨hh.1.1, hh.1.2.1, hh.1.2.2, hh.2.1, hh.2.2.1, hh.2.2.2, hK⟩
            · cases h
          · cases h
        · cases h
      · cases h
    · cases h
  case eqN =>
    split at h
    · cases h; exact fun b hb => by rw [hb (by simp)]; exact hK
    · cases h; exact hK
    · cases h; exact hK
    · cases h
  case mkmap =>
    split at h
    · rename_i hmd; subst hmd; cases h; exact hK
    · cases h
  case mlk =>
    split at h
    · rename_i hmd
      subst hmd
      split at h
      · split at h
        · rename_i ho hk
          split at h
          · rename_i hks; cases h; simp only [ho, hk]; exact ⟨hks, hK⟩
          · cases h
        · cases h
      · cases h
    · cases h
  case mput =>
    split at h
    · rename_i hmd
      subst hmd
      split at h
      · split at h
        · rename_i ho hk
          split at h
          · rename_i hks; cases h; simp only [ho, hk]; exact ⟨hks, hK⟩
          · cases h
        · cases h
      · cases h
    · cases h
  case cpy =>
    split at h
    · split at h
      · rename_i ho hk
        split at h
        · rename_i hks; cases h; simp only [ho, hk]; exact ⟨hks, hK⟩
        · cases h
      · cases h
    · cases h
  case clr =>
    split at h
    · split at h
      · rename_i ho
        split at h
        · rename_i hks; cases h; simp only [ho]; exact ⟨hks, hK⟩
        · cases h
      · cases h
    · cases h
  all_goals first
    | (cases h; done)
    | (cases h; exact hK)
    | (rw [Option.map_eq_some_iff] at h
       obtain ⟨v, hv, e⟩ := h
       cases e
       rw [hv]; exact hK)

/-! ### Boxes read -/
def mapO (f : V → Option V) : List V → Option (List V)
  | [] => some []
  | v :: vs => match f v with | some u => (match mapO f vs with | some us => some (u :: us) | none => none) | none => none
def viewV : Nat → Mm → (Nat → Bool) → V → Option V
  | 0, _, _, _ => none
  | k + 1, m, S, v => match v with
    | .lit v => some (.lit v)
    | .agg cs => (mapO (viewV k m S) cs).map .agg
    | .tup cs => (mapO (viewV k m S) cs).map .tup
    | .sl n xs _ => some (.sl n xs .no)
    | .ptr i off => if S i = true then (match m.obj i with
      | some (.box cs _) => (mapO (viewV k m S) cs).bind fun us => if us.all V.one = true then some (.ept us off) else none
      | _ => none) else none
    | .bsl i off n _ => if S i = true then (match m.obj i with
      | some (.box cs _) => (mapO (viewV k m S) cs).bind fun us => if us.all V.one = true then some (.sl n (us.drop off) .no) else none
      | _ => none) else none
    | .gsl i n _ => if S i = true then (match m.obj i with
      | some (.box cs _) => (mapO (viewV k m S) cs).bind fun us => if us.all V.one = true then some (.sl n us .no) else none
      | _ => none) else none
    | .ept xs o => some (.ept xs o)
    | .fn f cs => (mapO (viewV k m S) cs).map (.fn f)
    | _ => none
theorem mapO_ok {m : Mm} {S : Nat → Bool} {f : V → Option V} (hf : ∀ v u, f v = some u → Vw m S v u) : ∀ (vs us : List V), mapO f vs = some us → Vws m S vs us
  | [], us, h => by rw [mapO] at h; cases h; exact .nil
  | v :: vs, us, h => by
    rw [mapO] at h
    split at h
    · rename_i u hu
      split at h
      · rename_i us' hus; cases h; exact .cons (hf _ _ hu) (mapO_ok hf _ _ hus)
      · cases h
    · cases h
theorem view_ok (m : Mm) (S : Nat → Bool) : ∀ (k : Nat) (v u : V), viewV k m S v = some u → Vw m S v u
  | 0, v, u, h => by rw [viewV] at h; cases h
  | k + 1, v, u, h => by
    have h2 := mapO_ok (view_ok m S k)
    unfold viewV at h
    split at h
    · cases h; exact .lit _
    · rw [Option.map_eq_some_iff] at h; obtain ⟨us, hu, rfl⟩ := h; exact .agg (h2 _ _ hu)
    · rw [Option.map_eq_some_iff] at h; obtain ⟨us, hu, rfl⟩ := h; exact .tup (h2 _ _ hu)
    · cases h; exact .sl _ _ _
    · split at h
      · rename_i hS
        split at h
        · rename_i ho
          rw [Option.bind_eq_some_iff] at h
          obtain ⟨us, hu, h⟩ := h
          split at h
          · rename_i ha; cases h; exact .ptr hS ho (h2 _ _ hu) ha
          · cases h
        · cases h
      · cases h
    · split at h
      · rename_i hS
        split at h
        · rename_i ho
          rw [Option.bind_eq_some_iff] at h
          obtain ⟨us, hu, h⟩ := h
          split at h
          · rename_i ha; cases h; exact .bsl hS ho (h2 _ _ hu) ha
          · cases h
        · cases h
      · cases h
    · split at h
      · rename_i hS
        split at h
        · rename_i ho
          rw [Option.bind_eq_some_iff] at h
          obtain ⟨us, hu, h⟩ := h
          split at h
          · rename_i ha; cases h; exact .gsl hS ho (h2 _ _ hu) ha
          · cases h
        · cases h
      · cases h
    · cases h; exact .ept _ _
    · rw [Option.map_eq_some_iff] at h; obtain ⟨us, hu, rfl⟩ := h; exact .fn (h2 _ _ hu)
    · cases h
/-- Boxes outside S do not matter. -/
theorem Vw.agree {m m' : Mm} {S : Nat → Bool} (h : ∀ i, S i = true → m'.obj i = m.obj i) : (∀ v u, Vw m S v u → Vw m' S v u) ∧ (∀ vs us, Vws m S vs us → Vws m' S vs us) := by
  have A : ∀ v u, Vw m S v u → Vw m' S v u := fun v u hv =>
    Vw.rec (motive_1 := fun v u _ => Vw m' S v u) (motive_2 := fun vs us _ => Vws m' S vs us) (fun v => .lit v) (fun _ h => .agg h) (fun _ h => .tup h) (fun n xs k => .sl n xs k)
      (fun hS ho _ ha h2 => .ptr hS ((h _ hS).trans ho) h2 ha) (fun hS ho _ ha h2 => .bsl hS ((h _ hS).trans ho) h2 ha) (fun hS ho _ ha h2 => .gsl hS ((h _ hS).trans ho) h2 ha) (fun xs o => .ept xs o) (fun _ h => .fn h) .nil (fun _ _ h1 h2 => .cons h1 h2) hv
  refine ⟨A, fun vs => ?_⟩
  induction vs with
  | nil => intro us h; cases h; exact .nil
  | cons v vs ih => intro us h; cases h with | cons h1 h2 => exact .cons (A _ _ h1) (ih _ h2)
mutual
theorem Vw.of_dry {m : Mm} {S : Nat → Bool} : ∀ {v : V}, v.dry = true → Vw m S v v
  | .lit _, _ => .lit _
  | .agg _, h => by rw [V.dry] at h; exact .agg (Vws.of_dry h)
  | .tup _, h => by rw [V.dry] at h; exact .tup (Vws.of_dry h)
  | .sl _ _ _, hd => by cases hd
  | .ptr _ _, hd => by cases hd
  | .bsl _ _ _ _, hd => by cases hd
  | .gsl _ _ _, hd => by cases hd
  | .ept _ _, hd => by cases hd
  | .fn _ _, hd => by cases hd
  | .mp _, hd => by cases hd
  | .yld _, hd => by cases hd
theorem Vws.of_dry {m : Mm} {S : Nat → Bool} : ∀ {v : List V}, V.drys v = true → Vws m S v v
  | [], _ => .nil
  | _ :: _, h => by rw [V.drys, Bool.and_eq_true] at h; exact .cons (Vw.of_dry h.1) (Vws.of_dry h.2)
end

mutual
theorem dry_pure : ∀ {v : V}, v.dry = true → v.pure = true
  | .lit _, _ => by rw [V.pure]
  | .agg _, h => by rw [V.dry] at h; rw [V.pure]; exact drys_pures h
  | .tup _, h => by rw [V.dry] at h; rw [V.pure]; exact drys_pures h
  | .sl _ _ _, hd => by cases hd
  | .ptr _ _, hd => by cases hd
  | .bsl _ _ _ _, hd => by cases hd
  | .gsl _ _ _, hd => by cases hd
  | .ept _ _, hd => by cases hd
  | .fn _ _, hd => by cases hd
  | .mp _, hd => by cases hd
  | .yld _, hd => by cases hd
theorem drys_pures : ∀ {v : List V}, V.drys v = true → V.pures v = true
  | [], _ => by rw [V.pures]
  | _ :: _, h => by rw [V.drys, Bool.and_eq_true] at h; rw [V.pures, dry_pure h.1, drys_pures h.2]; rfl
end
/-- Boxes are lent to a call that gives a new box of literals. -/
theorem Fn.lendB {P : Program} {G : Ground} {f : FuncId} {vs us : List V} {n size : Nat} {xs : List V} {e : TypeId} (h : SFn P G f us M0 fun r' m' => ∃ i, r' = .gsl i n size ∧ m'.obj i = some (.box xs e)) (h0 : n ≠ 0) (hd : V.drys xs = true) (h1 : xs.all V.one = true)
    {m : Mm} (S : Nat → Bool) (hv : Vws m S vs us) : SFn P G f vs m (BPost n xs e m) := by
  intro E w cargs hG hm hargs
  obtain ⟨E', hs, hm', _, hB⟩ := hm.cut S
  obtain ⟨ha, hb⟩ := hB _ _ _ hv hargs
  refine (h E'.bare w cargs (show G.ok E'.M w from G.mono _ E E' _ _ _ _ hm hs hG) hm'.hide (VRs.pureM (E := E') (E' := E'.bare) (fun _ _ _ x => x) hb ha)).mono ?_
  rintro e0 w' ⟨v, r', m2, E2, he, ⟨i, rfl, hoi⟩, hs2, hm2, hr2⟩
  have hk : ∀ b, b < w.heap.size → w'.heap[b]? = w.heap[b]? := fun b hb => hs2.kept b hb fun i => M0_blk
  rw [VR] at hr2
  obtain ⟨b, hφb, cap', e2, hn, hloc⟩ := hr2
  obtain ⟨b', c, hφ', hh, hxs, hM⟩ := hm2.box i xs e hoi
  rw [hφb] at hφ'; cases hφ'
  have hge : w.heap.size ≤ b := by
    rcases Nat.lt_or_ge b w.heap.size with hlt | hge
    · obtain ⟨j, hj⟩ := hs2.blk i b (.inl ⟨xs, e, hoi, hφb⟩) hlt
      exact absurd hj M0_blk
    · exact hge
  have hm1 : MemR E ⟨m.obj, m.next + 1⟩ w' := (hm.grow hk).skip 1
  have st0 : Step NoX E ⟨m.obj, m.next + 1⟩ w E ⟨m.obj, m.next + 1⟩ w' := ⟨.refl E, Nat.le_refl _, fun _ _ _ => rfl, fun _ _ _ h => ⟨fun _ => rfl, h⟩, hs2.os, hs2.tape, hs2.output, hs2.drawn, hs2.size, fun b hb _ => hk b hb, fun i b h _ => ⟨i, h⟩, fun _ _ _ h => .inl h⟩
  have hf := hm.fresh m.next (Nat.le_refl _)
  obtain ⟨E3, hs3, hm3, hφ3⟩ := MemR.oldBox st0 rfl hm1 (i := m.next) (Nat.lt_succ_self _) hf.1 hf.1 hf.2.2 hf.2.1 (cs := xs) (c := c) (VRs.dry hd hxs) e hge hh
    (fun o => by
      cases hM : E.M b o with
      | none => rfl
      | some v => have := hm.M_lt hM; omega)
    (fun j hj => by have := hm.blk_lt (i := j) hj; omega)
  refine ⟨v, .bsl m.next 0 n n, _, E3, he, ⟨fun q hq => if_neg (by omega), .inr ⟨h0, by rw [V.clean, drys_pures hd, h1]; rfl, m.next, Nat.le_refl _, rfl, if_pos rfl⟩⟩,
    ⟨hs3.le, Nat.le_succ _, fun i hi _ => hs3.oldφ i (by show i < m.next + 1; omega) (by omega), fun i hi _ ho => hs3.oldloc i (by show i < m.next + 1; omega) (by omega) ho, hs3.os, hs3.tape, hs3.output, hs3.drawn, hs3.size, hs3.kept, hs3.blk, hs3.newM⟩, hm3, ?_⟩
  rw [VR]
  exact ⟨b, hφ3, cap', e2, Nat.le_refl _, hn⟩
theorem Fn.lendB0 {P : Program} {G : Ground} {f : FuncId} {vs us : List V} {e : TypeId} (h : SFn P G f us M0 fun r' m' => r' = .sl 0 [] .exact) {m : Mm} (S : Nat → Bool) (hv : Vws m S vs us) : SFn P G f vs m (BPost 0 [] e m) := by
  intro E w cargs hG hm hargs
  obtain ⟨E', hs, hm', _, hB⟩ := hm.cut S
  obtain ⟨ha, hb⟩ := hB _ _ _ hv hargs
  refine (h E'.bare w cargs (show G.ok E'.M w from G.mono _ E E' _ _ _ _ hm hs hG) hm'.hide (VRs.pureM (E := E') (E' := E'.bare) (fun _ _ _ x => x) hb ha)).mono ?_
  rintro e0 w' ⟨v, r', m2, E2, he, rfl, hs2, hm2, hr2⟩
  have hk : ∀ b, b < w.heap.size → w'.heap[b]? = w.heap[b]? := fun b hb => hs2.kept b hb fun i => M0_blk
  refine ⟨v, _, m, E, he, ⟨fun _ _ => rfl, .inl ⟨rfl, rfl⟩⟩, ⟨.refl E, Nat.le_refl _, fun _ _ _ => rfl, fun _ _ _ h => ⟨fun _ => rfl, h⟩, hs2.os, hs2.tape, hs2.output, hs2.drawn, hs2.size, fun b hb _ => hk b hb, fun i b h _ => ⟨i, h⟩, fun _ _ _ h => .inl h⟩, hm.grow hk, ?_⟩
  rw [VR] at hr2 ⊢
  obtain ⟨A, cap, e1, hn, htok, hc, _⟩ := hr2
  exact ⟨A, cap, e1, hn, htok, hc, .inl rfl⟩

/-! ### Code -/
structure Fd where
  nt : Nat
  c : VC
  rs : List VRes
/-- What is known of a function: its text, or what it does outright. -/
inductive Fe where
  | code (d : Fd)
  | prim (g : List V → Tr AObj → Nat → Option (V × Tr AObj × Nat))
  | cln (size : Nat) (e : TypeId)
  | rnd (C : Nat → Code → VC)
def mkT : List V → Nat → Tr V → Option (Tr V)
  | [], _, t => some t
  | v :: vs, i, t => (putE t (some i) v).bind fun t' => mkT vs (i + 1) t'
def endB : VX → Bool
  | .nrm | .ret => true
  | .exit _ => false
def evF (T : Nat → Option Fe) (ec : VC → ES → Option (VX × ES)) (f : Nat) (vals : List V) (o : Tr AObj) (nx : Nat) : Option (V × Tr AObj × Nat) :=
  match T f with
  | none => none
  | some (.prim g) => g vals o nx
  | some (.cln _ _) => none
  | some (.rnd _) => none
  | some (.code d) => bif Nat.ble vals.length d.nt then (match mkT vals 0 .e with
    | some t => (match ec d.c ⟨t, o, nx⟩ with
      | some (e, s') => bif endB e then (match resV s'.st d.rs with | some r => some (r, s'.o, s'.nx) | none => none) else none
      | none => none)
    | none => none) else none
def seen (md : List Nat) (base : Nat) : Nat → Bool := fun i => decide (i < base) || md.contains (i - base)
/-- The cells behind a slice that may be read in this order. -/
def rdV (md : Option (List Nat)) (base : Nat) (m : Mm) (size : Nat) (y : V) : Option (Nat × List V) :=
  match y with
  | .bsl i _ _ _ => bif rdable md base i then rdS m size y else none
  | .gsl i _ _ => bif rdable md base i then rdS m size y else none
  | _ => rdS m size y
theorem rdV_rdS {md : Option (List Nat)} {base : Nat} {m : Mm} {size : Nat} {y : V} {p : Nat × List V} (h : rdV md base m size y = some p) {m' : Mm} (hm : ∀ i, rdable md base i = true → m'.obj i = m.obj i) : rdS m' size y = some p := by
  unfold rdV at h
  split at h
  · cases hr : rdable md base _ with
    | false => rw [hr] at h; cases h
    | true =>
      rw [hr, cond_true] at h
      unfold rdS at h ⊢
      simp only [hm _ hr]
      exact h
  · cases hr : rdable md base _ with
    | false => rw [hr] at h; cases h
    | true =>
      rw [hr, cond_true] at h
      unfold rdS at h ⊢
      simp only [hm _ hr]
      exact h
  · rename_i h1 h2
    cases y <;> first
      | exact absurd rfl (h1 _ _ _ _)
      | exact absurd rfl (h2 _ _ _)
      | exact h
/-- A call. -/
def evCall (T : Nat → Option Fe) (ec : VC → ES → Option (VX × ES)) (base : Nat) (md : Option (List Nat)) (f : Nat) (vals : List V) (o : Tr AObj) (nx : Nat) : Option (V × Tr AObj × Nat) :=
  match md with
  | none => evF T ec f vals o nx
  | some anc => bif V.pures (V.norms vals) then (match evF T ec f (V.norms vals) .e 0 with
    | some (r, o', nx') => (match viewV 60 (mmT o' nx') allS r with
      | some u => some (u, o, nx)
      | none => none)
    | none => none) else match mapO (viewV 60 (mmT o nx) (seen anc base)) vals with
    | some us => bif V.pures us then (match evF T ec f us .e 0 with
      | some (r, _, _) => bif r.dry then some (r, o, nx) else none
      | none => none) else none
    | none => none
/-- Where the table has how rounds are translated. -/
def yk : Nat := 4294967295
/-- Where the table has which functions copy rows. -/
def clb : Nat := 8589934592
def setP : List (Nat × V) → Tr V → Option (Tr V)
  | [], t => some t
  | (i, v) :: l, t => (putE t (some i) v).bind fun t' => setP l t'
/-- A call of yield. -/
def evY (T : Nat → Option Fe) (ec : VC → ES → Option (VX × ES)) (i : Nat) (vals : List V) (o : Tr AObj) (nx : Nat) : Option (V × Tr AObj × Nat) :=
  match T yk, o.get (i + 1) with
  | some (.rnd C), some (.oth (.loop tmps ps as bd .ready)) => bif Nat.beq vals.length ps.size && ((C tmps.length as).plain && (C tmps.length bd).plain) then
    (match (mkT tmps 0 .e).bind (setP (ps.toList.zip vals)) with
    | some t => (match ec (C tmps.length as) ⟨t, o, nx⟩ with
      | some (.nrm, s1) => (match s1.o.get (i + 1) with
        | some (.oth (.loop tm ps' as' bd' .ready)) => (match updT s1.o [(i, some (.oth (.loop tm ps' as' bd' .busy)))] with
          | some o1 => (match ec (C tmps.length bd) ⟨s1.t, o1, s1.nx⟩ with
            | some (e, s2) => (match s2.o.get (i + 1) with
              | some (.oth (.loop tm ps as bd .busy)) => (match e with
                | .nrm => (updT s2.o [(i, some (.oth (.loop tm ps as bd .ready)))]).map fun o2 => (vbool true, o2, s2.nx)
                | .ret => (updT s2.o [(i, some (.oth (.loop tm ps as bd (.done .ret))))]).map fun o2 => (vbool false, o2, s2.nx)
                | .exit id => (updT s2.o [(i, some (.oth (.loop tm ps as bd (.done (.exit id)))))]).map fun o2 => (vbool false, o2, s2.nx))
              | _ => none)
            | none => none)
          | none => none)
        | _ => none)
      | _ => none)
    | none => none) else none
  | _, _ => none
def evI (T : Nat → Option Fe) (ec : VC → ES → Option (VX × ES)) (base idx : Nat) (vi : VI) (s : ES) : Option ES :=
  match vi.on s.st with
  | false => match putE s.t vi.dst vund with | some t => some ⟨t, s.o, s.nx⟩ | none => none
  | true => match vi.op with
    | .call f => (match evCall T ec base vi.mode f (vi.args.map s.st.ev) s.o s.nx with
      | some (r, o, nx) => (match putE s.t vi.dst r with | some t => some ⟨t, o, nx⟩ | none => none)
      | none => none)
    | .callL f js => (match vi.mode, evF T ec f (vi.args.map s.st.ev) s.o s.nx with
      | none, some (r, o, nx) => bif Nat.ble s.nx nx && js.all (fun j => (s.o.get (base + j + 1)).isSome || (o.get (base + j + 1)).isNone) then (match putE s.t vi.dst r with | some t => some ⟨t, o, nx⟩ | none => none) else none
      | _, _ => none)
    | .callv => (match vi.args.map s.st.ev with
      | .fn f cs :: vs => (match evCall T ec base vi.mode f (vs ++ cs) s.o s.nx with
        | some (r, o, nx) => (match putE s.t vi.dst r with | some t => some ⟨t, o, nx⟩ | none => none)
        | none => none)
      | .yld i :: vs => (match vi.mode, evY T ec i vs s.o s.nx with
        | none, some (r, o, nx) => (match putE s.t vi.dst r with | some t => some ⟨t, o, nx⟩ | none => none)
        | _, _ => none)
      | _ => none)
    | .callB f => (match T (f + clb), vi.args.map s.st.ev with
      | some (.cln size e), [y] => (match rdV vi.mode base s.st.m size y with
        | some (n, xs) => bif V.clean xs && Nat.ble n 1000000 then (bif Nat.beq n 0 then (match putE s.t vi.dst (.sl 0 [] .exact) with | some t => some ⟨t, s.o, s.nx⟩ | none => none)
          else (match updT s.o [(base + idx, some (.box xs e))], putE s.t vi.dst (.bsl (base + idx) 0 n n) with | some o, some t => some ⟨t, o, s.nx⟩ | _, _ => none)) else none
        | none => none)
      | _, vals => (match mapO (viewV 60 s.st.m (match vi.mode with | none => allS | some anc => seen anc base)) vals with
        | some us => bif V.pures us then (match evF T ec f us .e 0 with
          | some (.sl 0 [] .exact, _, _) => (match putE s.t vi.dst (.sl 0 [] .exact) with | some t => some ⟨t, s.o, s.nx⟩ | none => none)
          | some (.gsl i n _, o', _) => (match o'.get (i + 1) with
            | some (.box xs e) => bif (!Nat.beq n 0) && (V.drys xs && xs.all V.one) then (match updT s.o [(base + idx, some (.box xs e))], putE s.t vi.dst (.bsl (base + idx) 0 n n) with | some o, some t => some ⟨t, o, s.nx⟩ | _, _ => none) else none
            | _ => none)
          | _ => none) else none
        | none => none))
    | op => (match evOp (base + idx) base vi.mode op (vi.args.map s.st.ev) s.st.m with
      | some (r, us) => (match updT s.o us, putE s.t vi.dst r with | some o, some t => some ⟨t, o, s.nx⟩ | _, _ => none)
      | none => none)
def evR (T : Nat → Option Fe) (ec : VC → ES → Option (VX × ES)) (base : Nat) : List VI → Nat → ES → Option ES
  | [], _, s => some s
  | vi :: l, i, s => match evI T ec base i vi s with
    | some s' => evR T ec base l (i + 1) s'
    | none => none
def evC (T : Nat → Option Fe) : Nat → VC → ES → Option (VX × ES)
  | 0, _, _ => none
  | n + 1, c, s => match c with
    | .skip => some (.nrm, s)
    | .ret => some (.ret, s)
    | .ops k l => match evR T (evC T n) s.nx l 0 ⟨s.t, s.o, s.nx + k⟩ with | some s' => some (.nrm, s') | none => none
    | .seq a b => match evC T n a s with
      | some (.nrm, s') => evC T n b s'
      | r => r
    | .cond c a b => match s.st.ev c with
      | .lit (.bool true) => evC T n a s
      | .lit (.bool false) => evC T n b s
      | _ => none
    | .block id b => match evC T n b s with
      | some (.exit i, s') => bif Nat.beq i id then some (.nrm, s') else some (.exit i, s')
      | r => r
    | .loop b => match evC T n b s with
      | some (.nrm, s') => evC T n (.loop b) s'
      | r => r
    | .exit id => some (.exit id, s)
    | .scope b => evC T n b s
    | .rangeF nt f ps as bd => (match s.st.ev f with
      | .fn g cs => (match updT s.o [(s.nx, some (.oth (.loop (slots nt s.st.t) ps as bd .ready)))] with
        | some o1 => (match evF T (evC T n) g (.yld s.nx :: cs) o1 (s.nx + 1) with
          | some (_, o2, nx2) => (match o2.get (s.nx + 1) with
            | some (.oth (.loop _ _ _ _ .ready)) => (updT o2 [(s.nx, none)]).map fun o3 => (.nrm, ⟨s.t, o3, nx2⟩)
            | some (.oth (.loop _ _ _ _ (.done .ret))) => (updT o2 [(s.nx, none)]).map fun o3 => (.ret, ⟨s.t, o3, nx2⟩)
            | some (.oth (.loop _ _ _ _ (.done (.exit id)))) => (updT o2 [(s.nx, none)]).map fun o3 => (.exit id, ⟨s.t, o3, nx2⟩)
            | _ => none)
          | none => none)
        | none => none)
      | _ => none)
    | .bad => none

/-! ### What it says is so -/
section
variable {P : Program} {G : Ground} {T : Nat → Option Fe}
structure TabOk (P : Program) (G : Ground) (T : Nat → Option Fe) : Prop where
  call : ∀ f x, T f = some x → (∀ C, x ≠ .rnd C) → (∀ a b, x ≠ .cln a b) → callable P f = true
  rnd : ∀ f C, T f = some (.rnd C) → ∃ bx, ∀ nt c, C nt c = cvCode P bx G.tab nt c
  code : ∀ f d, T f = some (.code d) → ∃ bx, Comp P bx G.tab f d.nt d.c d.rs
  cln : ∀ f size e, T (f + clb) = some (.cln size e) → ∀ m y n xs, rdS m size y = some (n, xs) → V.clean xs = true → n ≤ 1000000 → SFn P G f [y] m (BPost n xs e m)
  prim : ∀ f g, T f = some (.prim g) → ∀ vals o nx r o' nx', g vals o nx = some (r, o', nx') → SFn P G f vals (mmT o nx) fun r' m' => r' = r ∧ m' = mmT o' nx'
def GoodE (P : Program) (G : Ground) (ec : VC → ES → Option (VX × ES)) : Prop := ∀ c s e s', ec c s = some (e, s') → ∀ Q : VX → St → Prop, Q e s'.st → c.vx P G Q s.st

theorem mkT_ok : ∀ {vs : List V} {i : Nat} {t t' : Tr V}, mkT vs i t = some t' → ∀ j, stT t' j = if i ≤ j then (vs[j - i]?).getD (stT t j) else stT t j
  | [], i, t, t', h, j => by rw [mkT] at h; cases h; simp
  | v :: vs, i, t, t', h, j => by
    rw [mkT, Option.bind_eq_some_iff] at h
    obtain ⟨t1, h1, h2⟩ := h
    rw [mkT_ok h2 j, putE_ok h1, putT_get]
    by_cases hij : i ≤ j
    · by_cases e : j = i
      · subst e; rw [if_neg (by omega), if_pos (Nat.le_refl _), if_pos rfl, Nat.sub_self]; rfl
      · rw [if_pos (by omega), if_pos hij, if_neg e, show j - i = (j - (i + 1)) + 1 by omega, List.getElem?_cons_succ]
    · rw [if_neg (by omega), if_neg hij, if_neg (by omega)]
theorem mkT_init {vs : List V} {t : Tr V} (h : mkT vs 0 .e = some t) : stT t = initT vs := by
  funext j
  rw [mkT_ok h j, if_pos (Nat.zero_le _), Nat.sub_zero]
  unfold initT stT
  rw [Tr.get_e, List.getD_eq_getElem?_getD]
  rfl

theorem evF_ok (hT : TabOk P G T) {ec : VC → ES → Option (VX × ES)} (hec : GoodE P G ec) {f : Nat} {vals : List V} {o o' : Tr AObj} {nx nx' : Nat} {r : V} (h : evF T ec f vals o nx = some (r, o', nx')) :
    SFn P G f vals (mmT o nx) fun r' m' => r' = r ∧ m' = mmT o' nx' := by
  unfold evF at h
  split at h
  · cases h
  · rename_i g hg; exact hT.prim f g hg _ _ _ _ _ _ h
  · cases h
  · cases h
  · rename_i d hd
    cases hb : Nat.ble vals.length d.nt with
    | false => rw [hb] at h; cases h
    | true =>
      rw [hb, cond_true] at h
      split at h
      · rename_i t ht
        split at h
        · rename_i e s' he
          cases hE : endB e with
          | false => rw [hE] at h; cases h
          | true =>
            rw [hE, cond_true] at h
            split at h
            · rename_i r0 hr
              cases h
              obtain ⟨bx, hc⟩ := hT.code f d hd
              refine SFn.of_vxS hc (Nat.le_of_ble_eq_true hb) ?_
              have := hec _ _ _ _ he (FinS d.rs fun r' m' => r' = r ∧ m' = mmT s'.o s'.nx) ⟨?_, r, hr, rfl, rfl⟩
              · unfold ES.st at this
                rw [mkT_init ht] at this
                exact this
              · cases e
                · exact .inl rfl
                · cases hE
                · exact .inr rfl
            · cases h
        · cases h
      · cases h
    
theorem evCall_ok (hT : TabOk P G T) {ec : VC → ES → Option (VX × ES)} (hec : GoodE P G ec) {base : Nat} {md : Option (List Nat)} {f : Nat} {vals : List V} {o o' : Tr AObj} {nx nx' : Nat} {r : V} (h : evCall T ec base md f vals o nx = some (r, o', nx'))
    {K : V → Mm → Prop} (hK : K r (mmT o' nx')) : callSem P G base md f vals (mmT o nx) K := by
  unfold evCall at h
  unfold callSem
  cases md with
  | none => exact ⟨vals, _, .inl rfl, evF_ok hT hec h, ⟨r, _, rfl, rfl⟩, by rintro r' m' ⟨rfl, rfl⟩; exact hK⟩
  | some anc =>
    simp only at h
    cases hn : V.pures (V.norms vals) with
    | true =>
      rw [hn, cond_true] at h
      split at h
      · rename_i r0 o0 nx0 hf
        split at h
        · rename_i u hu
          cases h
          have h1 := evF_ok hT hec hf
          have h2 : Fn P G f (V.norms vals) r := Fn.of_empty hn ((show SFn P G f (V.norms vals) M0 _ from h1).mono (by rintro r' m' ⟨rfl, rfl⟩; exact view_ok _ _ _ _ _ hu))
          exact ⟨V.norms vals, r, .inr rfl, fun m' _ _ => h2 m', hK⟩
        · cases h
      · cases h
    | false =>
    rw [hn, cond_false] at h
    split at h
    · rename_i us hu
      cases hp : V.pures us with
      | false => rw [hp] at h; cases h
      | true =>
        rw [hp, cond_true] at h
        split at h
        · rename_i r0 o0 nx0 hf
          cases hd : r0.dry with
          | false => rw [hd] at h; cases h
          | true =>
            rw [hd, cond_true] at h
            cases h
            have h1 := evF_ok hT hec hf
            have h2 : Fn P G f us r := Fn.of_empty hp ((show SFn P G f us M0 _ from h1).mono (by rintro r' m' ⟨rfl, rfl⟩; exact Vw.of_dry hd))
            refine ⟨vals, r, .inl rfl, fun m' ha hn => h2.lend hd (seen anc base) ((Vw.agree (m := mmT o nx) (fun i hi => ha i ?_)).2 _ _ (mapO_ok (view_ok _ _ _) _ _ hu)), hK⟩
            unfold seen at hi
            rw [Bool.or_eq_true, decide_eq_true_eq, List.contains_iff_mem] at hi
            exact hi
        · cases h
    · cases h
theorem setP_ok : ∀ {l : List (Nat × V)} {t t' : Tr V}, setP l t = some t' → stT t' = l.foldl (fun t p => fun i => if i = p.1 then p.2 else t i) (stT t)
  | [], t, t', h => by rw [setP] at h; cases h; rfl
  | (i, v) :: l, t, t', h => by
    rw [setP, Option.bind_eq_some_iff] at h
    obtain ⟨t1, h1, h2⟩ := h
    rw [setP_ok h2, putE_ok h1, List.foldl_cons]
    rfl
theorem evF_callable (hT : TabOk P G T) {ec : VC → ES → Option (VX × ES)} {f : Nat} {vals : List V} {o : Tr AObj} {nx : Nat} {x : V × Tr AObj × Nat} (h : evF T ec f vals o nx = some x) : callable P f = true := by
  unfold evF at h
  split at h
  · cases h
  · rename_i g hg; exact hT.call f _ hg (fun C e => by cases e) fun a b e => by cases e
  · cases h
  · cases h
  · rename_i d hd; exact hT.call f _ hd (fun C e => by cases e) fun a b e => by cases e
theorem evY_ok (hT : TabOk P G T) {ec : VC → ES → Option (VX × ES)} (hec : GoodE P G ec) {i : Nat} {vals : List V} {o o' : Tr AObj} {nx nx' : Nat} {r : V} (h : evY T ec i vals o nx = some (r, o', nx')) :
    YFn P G i vals (mmT o nx) fun r' m' => r' = r ∧ m' = mmT o' nx' := by
  unfold evY at h
  split at h
  · rename_i C tmps ps as bd hC ho
    cases hb : Nat.beq vals.length ps.size && ((C tmps.length as).plain && (C tmps.length bd).plain) with
    | false => rw [hb] at h; cases h
    | true =>
      rw [hb, cond_true] at h
      rw [Bool.and_eq_true, Bool.and_eq_true] at hb
      obtain ⟨hl, pa, pb⟩ := hb
      obtain ⟨bx, hbx⟩ := hT.rnd _ _ hC
      split at h
      · rename_i t ht
        rw [Option.bind_eq_some_iff] at ht
        obtain ⟨t0, ht0, ht1⟩ := ht
        have hst : stT t = rslots tmps ps.toList vals := by rw [setP_ok ht1, mkT_init ht0]; rfl
        split at h
        · rename_i s1 h1
          split at h
          · rename_i tm ps' as' bd' ho1
            split at h
            · rename_i o1 hu1
              split at h
              · rename_i e s2 h2
                split at h
                · rename_i tm2 ps2 as2 bd2 ho2
                  refine YFn.of_vx (bx := bx) ho (Nat.eq_of_beq_eq_true hl) (hbx _ _).symm (hbx _ _).symm pa pb ?_
                  have B := hec _ _ _ _ h2 (rpost i fun r' m' => r' = r ∧ m' = mmT o' nx') ⟨tm2, ps2, as2, bd2, ho2, by
                    split at h
                    · rw [Option.map_eq_some_iff] at h
                      obtain ⟨o2, hu2, e⟩ := h
                      cases e
                      exact ⟨rfl, ((updT_ok s2.nx hu2).trans (updM_put _ _ _)).symm⟩
                    · rw [Option.map_eq_some_iff] at h
                      obtain ⟨o2, hu2, e⟩ := h
                      cases e
                      exact ⟨rfl, ((updT_ok s2.nx hu2).trans (updM_put _ _ _)).symm⟩
                    · rw [Option.map_eq_some_iff] at h
                      obtain ⟨o2, hu2, e⟩ := h
                      cases e
                      exact ⟨rfl, ((updT_ok s2.nx hu2).trans (updM_put _ _ _)).symm⟩⟩
                  have A := hec _ _ _ _ h1 (VX.then (fun s => ∃ tm ps' as' bd', s.m.obj i = some (.oth (.loop tm ps' as' bd' .ready)) ∧ (C tmps.length bd).vx P G (rpost i fun r' m' => r' = r ∧ m' = mmT o' nx') ⟨s.t, s.m.put i (.oth (.loop tm ps' as' bd' .busy))⟩) (fun _ _ => False)) ⟨tm, ps', as', bd', ho1, by
                    have e1 := (updT_ok s1.nx hu1).trans (updM_put _ _ _)
                    unfold ES.st at B ⊢
                    rw [e1] at B
                    exact B⟩
                  unfold ES.st at A
                  rw [hst] at A
                  exact A
                · cases h
              · cases h
            · cases h
          · cases h
        · cases h
      · cases h
  · cases h
theorem evI_ok (hT : TabOk P G T) {ec : VC → ES → Option (VX × ES)} (hec : GoodE P G ec) {base idx : Nat} {vi : VI} {s s' : ES} (h : evI T ec base idx vi s = some s') {K : St → Prop} (hK : K s'.st) : vstep P G base idx vi s.st K := by
  unfold evI at h
  unfold vstep
  split at h
  · rename_i ho
    rw [if_neg (by rw [ho]; exact Bool.false_ne_true)]
    split at h
    · rename_i t ht
      cases h
      have := putE_ok ht
      unfold ES.st at hK ⊢
      rw [← this]; exact hK
    · cases h
  · rename_i ho
    rw [if_pos ho]
    split at h
    · rename_i f hop
      rw [hop]
      simp only [sem]
      split at h
      · rename_i r o nx hc
        split at h
        · rename_i t ht
          cases h
          refine evCall_ok (o := s.o) (nx := s.nx) hT hec hc ?_
          have := putE_ok ht
          unfold ES.st at hK ⊢
          rw [← this]; exact hK
        · cases h
      · cases h
    · rename_i f js hop
      rw [hop]
      split at h
      · rename_i r o nx hmd hc
        rw [hmd]
        simp only [sem]
        cases hb : Nat.ble s.nx nx && js.all (fun j => (s.o.get (base + j + 1)).isSome || (o.get (base + j + 1)).isNone) with
        | false => rw [hb] at h; cases h
        | true =>
          rw [hb, cond_true] at h
          rw [Bool.and_eq_true, List.all_eq_true] at hb
          split at h
          · rename_i t ht
            cases h
            have hK2 : KeepL base js s.st.m (mmT o nx) := ⟨Nat.le_of_ble_eq_true hb.1, fun j hj _ hn => by
              have h1 := hb.2 j hj
              have hn' : s.o.get (base + j + 1) = none := hn
              rw [hn'] at h1
              show o.get (base + j + 1) = none
              cases hg : o.get (base + j + 1) with
              | none => rfl
              | some x => rw [hg] at h1; cases h1⟩
            refine ⟨_, _, .inl rfl, evF_ok (o := s.o) (nx := s.nx) hT hec hc, ⟨r, _, ⟨rfl, rfl⟩, hK2⟩, ?_⟩
            rintro r' m' ⟨rfl, rfl⟩ _
            have := putE_ok ht
            unfold ES.st at hK ⊢
            rw [← this]; exact hK
          · cases h
      · cases h
    · rename_i hop
      rw [hop]
      simp only [sem]
      split at h
      · rename_i f cs vs hv
        rw [hv]
        split at h
        · rename_i r o nx hc
          split at h
          · rename_i t ht
            cases h
            refine ⟨?_, evCall_ok (o := s.o) (nx := s.nx) hT hec hc ?_⟩
            · cases hTf : T f with
              | some x =>
                cases x with
                | rnd C =>
                  exfalso
                  unfold evCall evF at hc
                  simp only [hTf] at hc
                  split at hc
                  · cases hc
                  · cases hn : V.pures (V.norms (vs ++ cs)) <;> rw [hn] at hc
                    · rw [cond_false] at hc
                      split at hc
                      · cases hp : V.pures _ <;> rw [hp] at hc <;> cases hc
                      · cases hc
                    · cases hc
                | code d => exact hT.call _ _ hTf (fun C e => by cases e) fun a b e => by cases e
                | prim g => exact hT.call _ _ hTf (fun C e => by cases e) fun a b e => by cases e
                | cln a b =>
                  exfalso
                  unfold evCall evF at hc
                  simp only [hTf] at hc
                  split at hc
                  · cases hc
                  · cases hn : V.pures (V.norms (vs ++ cs)) <;> rw [hn] at hc
                    · rw [cond_false] at hc
                      split at hc
                      · cases hp : V.pures _ <;> rw [hp] at hc <;> cases hc
                      · cases hc
                    · cases hc
              | none =>
                exfalso
                unfold evCall evF at hc
                simp only [hTf] at hc
                split at hc
                · cases hc
                · cases hn : V.pures (V.norms (vs ++ cs)) <;> rw [hn] at hc
                  · rw [cond_false] at hc
                    split at hc
                    · cases hp : V.pures _ <;> rw [hp] at hc <;> cases hc
                    · cases hc
                  · cases hc
            · have := putE_ok ht
              unfold ES.st at hK ⊢
              rw [← this]; exact hK
          · cases h
        · cases h
      · rename_i i vs hv
        rw [hv]
        split at h
        · rename_i r o nx hmd hc
          split at h
          · rename_i t ht
            cases h
            show yldSem P G vi.mode i vs s.st.m _
            unfold yldSem
            rw [hmd]
            refine ⟨vs, _, .inl rfl, evY_ok (o := s.o) (nx := s.nx) hT hec hc, ⟨r, _, rfl, rfl⟩, ?_⟩
            rintro r' m' ⟨rfl, rfl⟩
            have := putE_ok ht
            unfold ES.st at hK ⊢
            rw [← this]; exact hK
          · cases h
        · cases h
      · cases h
    · rename_i f hop
      rw [hop]
      simp only [sem]
      split at h
      · rename_i size e y hTf hv
        rw [hv]
        split at h
        · rename_i n xs hrd
          cases hcl : V.clean xs with
          | false => rw [hcl, Bool.false_and] at h; cases h
          | true =>
            rw [hcl, Bool.true_and] at h
            cases hble : Nat.ble n 1000000 with
            | false => rw [hble] at h; cases h
            | true =>
            have hle := Nat.le_of_ble_eq_true hble
            rw [hble, cond_true] at h
            have hB : BFnM P G base vi.mode f [y] n xs e s.st.m := by
              unfold BFnM
              split
              · exact hT.cln f size e hTf _ _ _ _ (rdV_rdS hrd fun _ _ => rfl) hcl hle
              · rename_i anc hmd
                intro m' ha hn
                rw [hmd] at hrd
                exact hT.cln f size e hTf _ _ _ _ (rdV_rdS hrd fun i hi => ha i (by simpa only [rdable, Bool.or_eq_true, decide_eq_true_eq, List.contains_iff_mem] using hi)) hcl hle
            refine ⟨_, n, xs, e, .inl rfl, hB, ?_⟩
            by_cases hn : n = 0
            · subst hn
              rw [if_pos rfl]
              rw [show Nat.beq 0 0 = true from rfl, cond_true] at h
              split at h
              · rename_i t ht
                cases h
                have := putE_ok ht
                unfold ES.st at hK ⊢
                rw [← this]; exact hK
              · cases h
            · rw [if_neg hn]
              rw [show Nat.beq n 0 = false from by rw [← Bool.not_eq_true]; exact fun e => hn (Nat.eq_of_beq_eq_true e), cond_false] at h
              split at h
              · rename_i o t hu ht
                cases h
                have h1 := putE_ok ht
                have h2 := updT_ok s.nx hu
                unfold ES.st at hK ⊢
                rw [← h1, ← updM_put, ← h2]; exact hK
              · cases h
        · cases h
      · rename_i vals hne
        split at h
        · rename_i us hu
          cases hp : V.pures us with
          | false => rw [hp] at h; cases h
          | true =>
            rw [hp, cond_true] at h
            have hvw : ∀ m', (∀ i, (match vi.mode with | none => allS | some anc => seen anc base) i = true → m'.obj i = s.st.m.obj i) → Vws m' (match vi.mode with | none => allS | some anc => seen anc base) (vi.args.map s.st.ev) us :=
              fun m' hm' => (Vw.agree (m := s.st.m) hm').2 _ _ (mapO_ok (view_ok _ _ _) _ _ hu)
            have hag : ∀ anc, vi.mode = some anc → ∀ m', Agree base anc s.st.m m' → ∀ i, (match vi.mode with | none => allS | some anc => seen anc base) i = true → m'.obj i = s.st.m.obj i := fun anc ha m' hA i hi => by
              rw [ha] at hi
              refine hA i ?_
              simpa only [seen, Bool.or_eq_true, decide_eq_true_eq, List.contains_iff_mem] using hi
            have hBM : ∀ n xs e, (∀ m', Vws m' (match vi.mode with | none => allS | some anc => seen anc base) (vi.args.map s.st.ev) us → SFn P G f (vi.args.map s.st.ev) m' (BPost n xs e m')) → BFnM P G base vi.mode f (vi.args.map s.st.ev) n xs e s.st.m := fun n xs e hB => by
              unfold BFnM
              split
              · exact hB _ (hvw _ fun _ _ => rfl)
              · rename_i anc ha
                exact fun m' hA hn => hB m' (hvw m' (hag anc ha m' hA))
            split at h
            · rename_i o0 nx0 hf
              have h1 := evF_ok hT hec hf
              split at h
              · rename_i t ht
                cases h
                refine ⟨_, 0, [], 0, .inl rfl, hBM _ _ _ fun m' hv => Fn.lendB0 ((show SFn P G f us M0 _ from h1).mono (by rintro r' m' ⟨rfl, rfl⟩; rfl)) _ hv, ?_⟩
                rw [if_pos rfl]
                have := putE_ok ht
                unfold ES.st at hK ⊢
                rw [← this]; exact hK
              · cases h
            · rename_i i n sz o0 nx0 hf
              have h1 := evF_ok hT hec hf
              split at h
              · rename_i xs e hob
                cases hc : (!Nat.beq n 0) && (V.drys xs && xs.all V.one) with
                | false => rw [hc] at h; cases h
                | true =>
                  rw [hc, cond_true] at h
                  rw [Bool.and_eq_true, Bool.and_eq_true] at hc
                  have hn : n ≠ 0 := by rintro rfl; cases hc.1
                  split at h
                  · rename_i o t hu2 ht
                    cases h
                    refine ⟨_, n, xs, e, .inl rfl, hBM _ _ _ fun m' hv => Fn.lendB ((show SFn P G f us M0 _ from h1).mono (by rintro r' m' ⟨rfl, rfl⟩; exact ⟨i, rfl, hob⟩)) hn hc.2.1 hc.2.2 _ hv, ?_⟩
                    rw [if_neg hn]
                    have h1 := putE_ok ht
                    have h2 := updT_ok s.nx hu2
                    unfold ES.st at hK ⊢
                    rw [← h1, ← updM_put, ← h2]; exact hK
                  · cases h
              · cases h
            · cases h
        · cases h
    · split at h
      · rename_i r us hc
        split at h
        · rename_i o t hu ht
          cases h
          refine evOp_sem hc ?_
          have h1 := putE_ok ht
          have h2 := updT_ok s.nx hu
          unfold ES.st at hK ⊢
          show K ⟨putT (stT s.t) vi.dst r, updM (mmT s.o s.nx) us⟩
          rw [← h1, ← h2]; exact hK
        · cases h
      · cases h
theorem evR_ok (hT : TabOk P G T) {ec : VC → ES → Option (VX × ES)} (hec : GoodE P G ec) {base : Nat} : ∀ {l : List VI} {i : Nat} {s s' : ES}, evR T ec base l i s = some s' → ∀ {K : St → Prop}, K s'.st → vrun P G base i l s.st K
  | [], i, s, s', h, K, hK => by rw [evR] at h; cases h; rw [vrun]; exact hK
  | vi :: l, i, s, s', h, K, hK => by
    rw [evR] at h
    rw [vrun]
    split at h
    · rename_i s1 h1
      exact evI_ok hT hec h1 (evR_ok hT hec h hK)
    · cases h

theorem least {p : Nat → Prop} (h : ∃ n, p n) : ∃ n, p n ∧ ∀ m, p m → n ≤ m := by
  obtain ⟨n, hn⟩ := h
  induction n using Nat.strongRecOn with
  | ind n ih =>
    by_cases hx : ∃ m, m < n ∧ p m
    · obtain ⟨m, hm, hp⟩ := hx; exact ih m hm hp
    · exact ⟨n, hn, fun m hm => Nat.le_of_not_lt fun hlt => hx ⟨m, hlt, hm⟩⟩

theorem evC_ok (hT : TabOk P G T) : ∀ n, GoodE P G (evC T n) := by
  intro n
  induction n using Nat.strongRecOn with
  | ind n ih =>
  cases n with
  | zero => intro c s e s' h; rw [evC] at h; cases h
  | succ n =>
    have ihn := ih n (Nat.lt_succ_self n)
    intro c s e s' h Q hQ
    cases c with
    | skip => rw [evC] at h; cases h; rw [VC.vx]; exact hQ
    | ret => rw [evC] at h; cases h; rw [VC.vx]; exact hQ
    | exit id => rw [evC] at h; cases h; rw [VC.vx]; exact hQ
    | bad => rw [evC] at h; cases h
    | scope b => rw [evC] at h; rw [VC.vx]; exact ihn _ _ _ _ h Q hQ
    | ops k l =>
      rw [evC] at h
      rw [VC.vx]
      split at h
      · rename_i s1 h1
        cases h
        exact evR_ok (s := ⟨s.t, s.o, s.nx + k⟩) hT ihn h1 hQ
      · cases h
    | seq a b =>
      rw [evC] at h
      rw [VC.vx]
      split at h
      · rename_i s1 h1
        exact ihn _ _ _ _ h1 _ (ihn _ _ _ _ h Q hQ)
      · rename_i hne
        refine ihn _ _ _ _ h _ ?_
        cases e with
        | nrm => exact absurd h (hne s')
        | exit i => exact hQ
        | ret => exact hQ
    | cond c a b =>
      rw [evC] at h
      rw [VC.vx]
      split at h
      · rename_i hc; rw [hc]; exact ihn _ _ _ _ h Q hQ
      · rename_i hc; rw [hc]; exact ihn _ _ _ _ h Q hQ
      · cases h
    | block id b =>
      rw [evC] at h
      rw [VC.vx]
      split at h
      · rename_i i s1 h1
        refine ihn _ _ _ _ h1 _ ?_
        show if i = id then Q .nrm s1.st else Q (.exit i) s1.st
        by_cases hi : i = id
        · subst hi
          rw [if_pos rfl]
          rw [show Nat.beq i i = true from Nat.beq_refl i, cond_true] at h
          cases h; exact hQ
        · rw [if_neg hi]
          rw [show Nat.beq i id = false from by rw [← Bool.not_eq_true]; exact fun e => hi (Nat.eq_of_beq_eq_true e), cond_false] at h
          cases h; exact hQ
      · rename_i hne
        refine ihn _ _ _ _ h _ ?_
        cases e with
        | nrm => exact hQ
        | exit i => exact absurd h (hne i s')
        | ret => exact hQ
    | rangeF nt f ps as bd =>
      rw [evC] at h
      rw [VC.vx]
      split at h
      · rename_i g cs hf
        rw [hf]
        split at h
        · rename_i o1 hu1
          split at h
          · rename_i r0 o2 nx2 hF
            refine ⟨evF_callable hT hF, fun r' m' => r' = r0 ∧ m' = mmT o2 nx2, ?_, ?_⟩
            · have := evF_ok hT ihn hF
              rw [updT_ok (s.nx + 1) hu1] at this
              exact this
            · rintro r' m' ⟨rfl, rfl⟩
              unfold afterF
              split at h
              · rename_i ho2
                rw [show (mmT o2 nx2).obj s.st.m.next = o2.get (s.nx + 1) from rfl, ho2]
                rw [Option.map_eq_some_iff] at h
                obtain ⟨o3, hu3, e⟩ := h
                cases e
                unfold ES.st at hQ
                rw [updT_ok nx2 hu3] at hQ
                exact hQ
              · rename_i ho2
                rw [show (mmT o2 nx2).obj s.st.m.next = o2.get (s.nx + 1) from rfl, ho2]
                rw [Option.map_eq_some_iff] at h
                obtain ⟨o3, hu3, e⟩ := h
                cases e
                unfold ES.st at hQ
                rw [updT_ok nx2 hu3] at hQ
                exact hQ
              · rename_i ho2
                rw [show (mmT o2 nx2).obj s.st.m.next = o2.get (s.nx + 1) from rfl, ho2]
                rw [Option.map_eq_some_iff] at h
                obtain ⟨o3, hu3, e⟩ := h
                cases e
                unfold ES.st at hQ
                rw [updT_ok nx2 hu3] at hQ
                exact hQ
              · cases h
          · cases h
        · cases h
      · cases h
    | loop b =>
      rw [VC.vx]
      let R : St → Nat → Prop := fun x j => ∃ y : ES, y.st = x ∧ j ≤ n + 1 ∧ evC T j (.loop b) y = some (e, s')
      have hl : ∀ x, ∃ k, (∃ j, R x j) → R x k ∧ ∀ m, R x m → k ≤ m := fun x => by
        by_cases hx : ∃ j, R x j
        · obtain ⟨k, h1, h2⟩ := least hx; exact ⟨k, fun _ => ⟨h1, h2⟩⟩
        · exact ⟨0, fun h => absurd h hx⟩
      obtain ⟨μ, hμ⟩ : ∃ μ : St → Nat, ∀ x, (∃ j, R x j) → R x (μ x) ∧ ∀ m, R x m → μ x ≤ m := ⟨fun x => Classical.choose (hl x), fun x => Classical.choose_spec (hl x)⟩
      refine ⟨fun x => ∃ j, R x j, μ, ⟨n + 1, s, rfl, Nat.le_refl _, h⟩, fun x hx => ?_⟩
      obtain ⟨⟨y, hy, hj, hev⟩, hmin⟩ := hμ x hx
      generalize μ x = k at hj hev hmin ⊢
      cases k with
      | zero => rw [evC] at hev; cases hev
      | succ k =>
        rw [evC] at hev
        subst hy
        have ihk := ih k (by omega)
        split at hev
        · rename_i s1 h1
          refine ihk _ _ _ _ h1 _ ?_
          rw [then_nrm]
          have hR : R s1.st k := ⟨s1, rfl, by omega, hev⟩
          refine ⟨⟨k, hR⟩, ?_⟩
          exact Nat.lt_succ_of_le ((hμ _ ⟨k, hR⟩).2 k hR)
        · rename_i hne
          refine ihk _ _ _ _ hev _ ?_
          cases e with
          | nrm => exact absurd hev (hne s')
          | exit i => exact hQ
          | ret => exact hQ
/-- A call of a function on values without boxes, run outright. -/
theorem Fn.of_ev (hT : TabOk P G T) (n : Nat) {f : Nat} {vals : List V} {r : V} (hp : V.pures vals = true) (hd : r.dry = true) (h : (evF T (evC T n) f vals .e 0).map (·.1) = some r) : Fn P G f vals r := by
  rw [Option.map_eq_some_iff] at h
  obtain ⟨⟨r', o, nx⟩, h, rfl⟩ := h
  exact Fn.of_empty hp ((show SFn P G f vals M0 _ from evF_ok hT (evC_ok hT n) h).mono (by rintro r' m' ⟨rfl, rfl⟩; exact Vw.of_dry hd))
end
/-- Texts of functions, listed. -/
def lkp : List (Nat × Fd) → Nat → Option Fe
  | [], _ => none
  | (k, d) :: l, f => bif Nat.beq k f then some (.code d) else lkp l f
def Okl (P : Program) (tab : Nat → List V) : List (Nat × Fd) → Prop
  | [] => True
  | (k, d) :: l => (callable P k = true ∧ ∃ bx, Comp P bx tab k d.nt d.c d.rs) ∧ Okl P tab l
theorem lkp_ok {P : Program} {tab : Nat → List V} : ∀ {l : List (Nat × Fd)} {f : Nat} {x : Fe}, Okl P tab l → lkp l f = some x → ∃ d, x = .code d ∧ callable P f = true ∧ ∃ bx, Comp P bx tab f d.nt d.c d.rs
  | [], f, x, _, h => by rw [lkp] at h; cases h
  | (k, d) :: l, f, x, ho, h => by
    rw [lkp] at h
    rw [Okl] at ho
    cases hb : Nat.beq k f with
    | true =>
      rw [hb, cond_true] at h
      cases h
      have := Nat.eq_of_beq_eq_true hb
      subst this
      exact ⟨d, rfl, ho.1⟩
    | false => rw [hb, cond_false] at h; exact lkp_ok ho.2 h
theorem TabOk.of_list {P : Program} {G : Ground} {l : List (Nat × Fd)} (h : Okl P G.tab l) : TabOk P G (lkp l) where
  call f x hx _ _ := by obtain ⟨d, _, h1, _⟩ := lkp_ok h hx; exact h1
  rnd f C hx := by obtain ⟨d', e, _⟩ := lkp_ok h hx; cases e
  code f d hx := by obtain ⟨d', e, _, h2⟩ := lkp_ok h hx; cases e; exact h2
  cln f size e hx := by obtain ⟨d', e, _⟩ := lkp_ok h hx; cases e
  prim f g hx := by obtain ⟨d', e, _⟩ := lkp_ok h hx; cases e
/-- Texts of functions, translated where they are called. -/
def cvFd (P : Program) (bx : Nat → Nat → Bool) (tab : Nat → List V) (f : Nat) : Option Fe :=
  bif Nat.beq f yk then some (.rnd (cvCode P (bx yk) tab)) else
  match P.funcs[f]? with
  | some fn => match fn.body with
    | some code => bif callable P f then (match fn.results.toList.mapM (cvRes P fn.ntmps) with
      | some rs => some (.code ⟨fn.ntmps, cvCode P (bx f) tab fn.ntmps code, rs⟩)
      | none => none) else none
    | none => none
  | none => none
theorem TabOk.of_prog {P : Program} {G : Ground} {bx : Nat → Nat → Bool} : TabOk P G (cvFd P bx G.tab) := by
  have key : ∀ f x, cvFd P bx G.tab f = some x → x = .rnd (cvCode P (bx yk) G.tab) ∨ ∃ d, x = .code d ∧ callable P f = true ∧ ∃ bx, Comp P bx G.tab f d.nt d.c d.rs := by
    intro f x h
    unfold cvFd at h
    cases hy : Nat.beq f yk with
    | true => rw [hy, cond_true] at h; cases h; exact .inl rfl
    | false =>
    right
    rw [hy, cond_false] at h
    split at h
    · rename_i fn hfn
      split at h
      · rename_i code hco
        cases hcal : callable P f with
        | false => rw [hcal, cond_false] at h; cases h
        | true =>
          rw [hcal, cond_true] at h
          split at h
          · rename_i rs hrs
            cases h
            exact ⟨_, rfl, rfl, bx f, ⟨⟨fn, code, hfn, hco, rfl, rfl, hrs⟩⟩⟩
          · cases h
      · cases h
    · cases h
  constructor
  · intro f x hx hne
    rcases key f x hx with rfl | ⟨d, _, h1, _⟩
    · exact absurd rfl (hne _)
    · exact fun _ => h1
  · intro f C hx
    rcases key f _ hx with e | ⟨d, e, _⟩
    · cases e; exact ⟨bx yk, fun _ _ => rfl⟩
    · cases e
  · intro f d hx
    rcases key f _ hx with e | ⟨d', e, _, h2⟩
    · cases e
    · cases e; exact h2
  · intro f size e hx
    generalize f + clb = g at hx
    rcases key g _ hx with e | ⟨d', e, _⟩ <;> cases e
  · intro f g hx
    rcases key f _ hx with e | ⟨d', e, _⟩ <;> cases e
/-- Functions that copy rows, beside the others. -/
def cloned (l : List (Nat × Nat × TypeId)) (T : Nat → Option Fe) (g : Nat) : Option Fe :=
  match l.find? fun p => Nat.beq (p.1 + clb) g with
  | some p => some (.cln p.2.1 p.2.2)
  | none => T g
theorem TabOk.cloned {P : Program} {G : Ground} {T : Nat → Option Fe} (hT : TabOk P G T) {l : List (Nat × Nat × TypeId)}
    (h : ∀ p ∈ l, ∀ m y n xs, rdS m p.2.1 y = some (n, xs) → V.clean xs = true → n ≤ 1000000 → SFn P G p.1 [y] m (BPost n xs p.2.2 m)) : TabOk P G (cloned l T) := by
  have key : ∀ g x, Go.Proofs.YtdefefeifcdogaaGreat.cloned l T g = some x → (∃ p ∈ l, p.1 + clb = g ∧ x = .cln p.2.1 p.2.2) ∨ T g = some x := by
    intro g x hx
    unfold Go.Proofs.YtdefefeifcdogaaGreat.cloned at hx
    split at hx
    · rename_i p hp
      cases hx
      exact .inl ⟨p, List.mem_of_find?_eq_some hp, Nat.eq_of_beq_eq_true (by have := List.find?_some hp; exact this), rfl⟩
    · exact .inr hx
  constructor
  · intro f x hx h1 h2
    rcases key f x hx with ⟨p, _, _, e⟩ | hx
    · exact absurd e (h2 _ _)
    · exact hT.call f x hx h1 h2
  · intro f C hx
    rcases key f _ hx with ⟨p, _, _, e⟩ | hx
    · cases e
    · exact hT.rnd f C hx
  · intro f d hx
    rcases key f _ hx with ⟨p, _, _, e⟩ | hx
    · cases e
    · exact hT.code f d hx
  · intro f size e hx
    rcases key _ _ hx with ⟨p, hp, e1, e⟩ | hx
    · cases e
      have := Nat.add_right_cancel e1
      subst this
      exact h p hp
    · exact hT.cln f size e hx
  · intro f g hx
    rcases key f _ hx with ⟨p, _, _, e⟩ | hx
    · cases e
    · exact hT.prim f g hx
end
end Go.Proofs.YtdefefeifcdogaaGreat
