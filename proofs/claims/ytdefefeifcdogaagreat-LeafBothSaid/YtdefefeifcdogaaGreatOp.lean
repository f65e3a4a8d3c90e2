/- What a law's arguments are, by their types: data without addresses; from the reading to values by numbers. Nothing is proved of the program here. -/
import Derived.Test.YtdefefeifcdogaaGreatVt
import Derived.ProofKit
import Derived.OpenShut
import Derived.Deep.Slices
import Derived.SizedLaws
namespace Go.Proofs.YtdefefeifcdogaaGreat
open Go.ChangeShapes Go.WideShapes Go.ChangeAt Go.RowKit

/-- Types of plain data. -/
inductive Ty where
  | int
  | bool
  | str
  | sl (e : Ty) (b : Nat)
  | st (fs : List Ty)
/-- Plain data. -/
inductive Dt where
  | int (n : Int)
  | bool (b : Bool)
  | str (s : ByteArray)
  | sl (l : List Dt)
  | st (l : List Dt)

mutual
def Ty.size : Ty → Nat
  | .st fs => Ty.sizes fs
  | _ => 1
def Ty.sizes : List Ty → Nat
  | [] => 0
  | t :: ts => Ty.size t + Ty.sizes ts
end
mutual
def Dt.cells : Dt → List V
  | .int n => [vint n]
  | .bool b => [vbool b]
  | .str s => [.lit (.string s)]
  | .sl l => [.sl l.length (Dt.cellsL l) .no]
  | .st l => Dt.cellsL l
def Dt.cellsL : List Dt → List V
  | [] => []
  | d :: l => Dt.cells d ++ Dt.cellsL l
end
/-- The value of a datum. -/
def Dt.val : Dt → V
  | .int n => vint n
  | .bool b => vbool b
  | .str s => .lit (.string s)
  | .sl l => .sl l.length (Dt.cellsL l) .no
  | .st l => .agg (Dt.cellsL l)
mutual
def Dt.ok : Ty → Dt → Prop
  | .int, .int n => -9223372036854775808 ≤ n ∧ n ≤ 9223372036854775807
  | .bool, .bool _ => True
  | .str, .str s => s.size ≤ 140737488351232
  | .sl e b, .sl l => l.length * b ≤ 140737488351232 ∧ ∀ d ∈ l, Dt.ok e d
  | .st fs, .st l => Dt.oks fs l
  | _, _ => False
def Dt.oks : List Ty → List Dt → Prop
  | [], [] => True
  | t :: ts, d :: l => Dt.ok t d ∧ Dt.oks ts l
  | _, _ => False
end

mutual
theorem Dt.size_cells : ∀ {t : Ty} {d : Dt}, d.ok t → d.cells.length = t.size
  | .int, .int n, _ => by simp [Dt.cells, Ty.size]
  | .bool, .bool _, _ => by simp [Dt.cells, Ty.size]
  | .str, .str _, _ => by simp [Dt.cells, Ty.size]
  | .sl _ _, .sl _, _ => by simp [Dt.cells, Ty.size]
  | .st fs, .st l, h => by rw [Dt.ok] at h; rw [Dt.cells, Ty.size, Dt.size_cellsL h]
  | .int, .bool _, h => by simp [Dt.ok] at h
  | .int, .str _, h => by simp [Dt.ok] at h
  | .int, .sl _, h => by simp [Dt.ok] at h
  | .int, .st _, h => by simp [Dt.ok] at h
  | .bool, .int _, h => by simp [Dt.ok] at h
  | .bool, .str _, h => by simp [Dt.ok] at h
  | .bool, .sl _, h => by simp [Dt.ok] at h
  | .bool, .st _, h => by simp [Dt.ok] at h
  | .str, .int _, h => by simp [Dt.ok] at h
  | .str, .bool _, h => by simp [Dt.ok] at h
  | .str, .sl _, h => by simp [Dt.ok] at h
  | .str, .st _, h => by simp [Dt.ok] at h
  | .sl _ _, .int _, h => by simp [Dt.ok] at h
  | .sl _ _, .bool _, h => by simp [Dt.ok] at h
  | .sl _ _, .str _, h => by simp [Dt.ok] at h
  | .sl _ _, .st _, h => by simp [Dt.ok] at h
  | .st _, .int _, h => by simp [Dt.ok] at h
  | .st _, .bool _, h => by simp [Dt.ok] at h
  | .st _, .str _, h => by simp [Dt.ok] at h
  | .st _, .sl _, h => by simp [Dt.ok] at h
theorem Dt.size_cellsL : ∀ {ts : List Ty} {l : List Dt}, Dt.oks ts l → (Dt.cellsL l).length = Ty.sizes ts
  | [], [], _ => by simp [Dt.cellsL, Ty.sizes]
  | t :: ts, d :: l, h => by rw [Dt.oks] at h; rw [Dt.cellsL, Ty.sizes, List.length_append, Dt.size_cells h.1, Dt.size_cellsL h.2]
  | [], _ :: _, h => by simp [Dt.oks] at h
  | _ :: _, [], h => by simp [Dt.oks] at h
end

/-- Fields, one behind the other. -/
def fldsOf (P : Program) (g : TypeId → Option Ty) : List Field → Nat → Option (List Ty)
  | [], _ => some []
  | f :: fs, off => match g f.type with
    | some t => if f.offset = off ∧ P.cellsOf f.type = t.size then (fldsOf P g fs (off + t.size)).map (t :: ·) else none
    | none => none
/-- A type of the program, if it is one of plain data. -/
def tyOf (P : Program) : Nat → TypeId → Option Ty
  | 0, _ => none
  | k + 1, t => match P.underlying t with
    | some (.int .i64) => some .int
    | some .bool => some .bool
    | some .string => some .str
    | some (.slice e) => match tyOf P k e with
      | some x => if P.cellsOf e = x.size ∧ 0 < x.size then some (.sl x (P.bytesOf e)) else none
      | none => none
    | some (.array n e) => match tyOf P k e with
      | some x => if P.cellsOf e = x.size ∧ P.cellsOf t = n * x.size then some (.st (List.replicate n x)) else none
      | none => none
    | some (.struct fs) => match fldsOf P (tyOf P k) fs.toList 0 with
      | some l => if P.cellsOf t = Ty.sizes l then some (.st l) else none
      | none => none
    | _ => none

/-- All cells of a world stand. -/
def EW (w : World) : Env := ⟨fun b o => w.cell? ⟨b, o, none⟩, fun _ => none, fun _ _ => none⟩

theorem list_of {α : Type} (n : Nat) (Q : Nat → α → Prop) (h : ∀ i, i < n → ∃ x, Q i x) : ∃ l : List α, l.length = n ∧ ∀ i (hi : i < l.length), Q i l[i] := by
  induction n with
  | zero => exact ⟨[], rfl, fun i hi => absurd hi (Nat.not_lt_zero _)⟩
  | succ n ih =>
    obtain ⟨l, hl, hq⟩ := ih (fun i hi => h i (by omega))
    obtain ⟨x, hx⟩ := h n (by omega)
    refine ⟨l ++ [x], by simp [hl], fun i hi => ?_⟩
    by_cases hin : i < l.length
    · rw [List.getElem_append_left hin]; exact hq i hin
    · have : i = n := by simp at hi; omega
      subst this
      rw [List.getElem_append_right (by omega)]
      simpa [hl] using hx

theorem cellsL_append (l l' : List Dt) : Dt.cellsL (l ++ l') = Dt.cellsL l ++ Dt.cellsL l' := by
  induction l with
  | nil => rw [Dt.cellsL]; rfl
  | cons d l ih => rw [List.cons_append, Dt.cellsL, Dt.cellsL, ih, List.append_assoc]
theorem cellsL_length (k : Nat) : ∀ (l : List Dt), (∀ d ∈ l, d.cells.length = k) → (Dt.cellsL l).length = l.length * k
  | [], _ => by simp [Dt.cellsL]
  | d :: l, h => by
    rw [Dt.cellsL, List.length_append, h d (List.mem_cons_self ..), cellsL_length k l fun d hd => h d (List.mem_cons_of_mem _ hd), List.length_cons, Nat.add_mul]
    omega
theorem cellsL_get (k : Nat) (l : List Dt) (h : ∀ d ∈ l, d.cells.length = k) (i j : Nat) (hj : j < k) : (Dt.cellsL l)[i * k + j]? = (l[i]?).bind fun d => d.cells[j]? := by
  induction l generalizing i with
  | nil => simp [Dt.cellsL]
  | cons c r ih =>
    have hc := h c (List.mem_cons_self ..)
    rw [Dt.cellsL]
    cases i with
    | zero => rw [Nat.zero_mul, Nat.zero_add, List.getElem?_append_left (by omega)]; rfl
    | succ i =>
      rw [List.getElem?_append_right (by rw [hc, Nat.add_mul]; omega), hc, show (i + 1) * k + j - k = i * k + j by rw [Nat.add_mul]; omega, ih (fun d hd => h d (List.mem_cons_of_mem _ hd))]
      rfl

section
variable {P : Program} {H : Type} {enc : TypeId × Value → H} {w : World}

theorem clean_cellsL {l : List Dt} (h : ∀ d ∈ l, V.clean d.cells = true) : V.clean (Dt.cellsL l) = true := by
  induction l with
  | nil => rw [Dt.cellsL]; rfl
  | cons d l ih => rw [Dt.cellsL]; exact clean_append (h d (List.mem_cons_self ..)) (ih fun d hd => h d (List.mem_cons_of_mem _ hd))

theorem weights_all {e : TypeId} {d : DataW H} : ∀ {l : List (DataW H)}, d ∈ l → ∀ n ∈ DataW.weights P e d, n ∈ DataW.weightsAll P e l
  | [], h, _, _ => by cases h
  | x :: l, h, n, hn => by
    rw [DataW.weightsAll, List.mem_append]
    rcases List.mem_cons.1 h with rfl | h
    · exact .inl hn
    · exact .inr (weights_all h n hn)

/-- What is read is plain data. -/
theorem trod_dt : ∀ (k : Nat) (t : TypeId) (ty : Ty), tyOf P k t = some ty → ∀ (fuel : Nat) (cs : List Value) (x : DataW H × List MemPlace),
    DataW.trod enc P w 0 (fun _ => true) true fuel t cs = some x → (∀ n ∈ DataW.weights P t x.1, n ≤ reachBytes) → ∃ d : Dt, d.ok ty ∧ VRs (EW w) d.cells cs ∧ V.clean d.cells = true
  | 0, t, ty, ht, _, _, _, _, _ => by rw [tyOf] at ht; cases ht
  | k + 1, t, ty, ht, fuel, cs, x, h, hz => by
    have ih := trod_dt k
    rw [tyOf] at ht
    split at ht
    · rename_i hu
      cases ht
      obtain ⟨n, rfl, _, hw⟩ := DataW.trod_int hu h
      have hw2 : IntKind.i64.min ≤ n ∧ n ≤ IntKind.i64.max := by simpa only [Lit.wf, Bool.and_eq_true, decide_eq_true_eq] using hw
      exact ⟨.int n, by rw [Dt.ok]; exact hw2, by rw [Dt.cells, VRs]; exact ⟨_, _, rfl, VR_mk rfl, by rw [VRs]⟩, rfl⟩
    · rename_i hu
      cases ht
      obtain ⟨b, rfl, _⟩ := DataW.trod_bool hu h
      exact ⟨.bool b, by rw [Dt.ok]; trivial, by rw [Dt.cells, VRs]; exact ⟨_, _, rfl, VR_mk rfl, by rw [VRs]⟩, rfl⟩
    · rename_i hu
      cases ht
      obtain ⟨s, rfl, rfl, hl⟩ := DataW.trod_string hu h
      have hz1 := hz s.data.toList.length (by simp [DataW.weights])
      exact ⟨.str s, by rw [Dt.ok]; exact hz1, by rw [Dt.cells, VRs]; exact ⟨_, _, rfl, VR_mk rfl, by rw [VRs]⟩, rfl⟩
    · rename_i e hu
      split at ht
      · rename_i y hy
        split at ht
        · rename_i hc
          cases ht
          rcases Deep.open_slice hu h with ⟨rfl, _⟩ | ⟨a, len, cap, m, n', D, Pl, rfl, _, hl, hm, hmm, hx, hi⟩
          · refine ⟨.sl [], by rw [Dt.ok]; exact ⟨by simp, fun d hd => by cases hd⟩, ?_, rfl⟩
            rw [Dt.cells, VRs]
            refine ⟨_, _, rfl, ?_, by rw [VRs]⟩
            rw [VR]
            exact ⟨none, 0, rfl, Nat.le_refl _, trivial, rfl, .inl rfl⟩
          · rw [if_pos rfl] at hmm
            subst hmm
            subst hx
            have hz1 : len * P.bytesOf e ≤ reachBytes := by
              have := hz ((((List.range len).map D).length + ((List.range (m - len)).map fun j => D (len + j)).length) * P.bytesOf e) (by simp [DataW.weights, hu])
              refine Nat.le_trans (Nat.mul_le_mul_right _ ?_) this
              simp
            have hz2 : ∀ i, i < len → ∀ n ∈ DataW.weights P e (D i), n ≤ reachBytes := fun i hi n hn => hz n (by
              simp only [DataW.weights, hu, List.mem_cons, List.mem_append]
              refine .inr (.inl (weights_all (List.mem_map.2 ⟨i, List.mem_range.2 hi, rfl⟩) n hn)))
            have key : ∀ i, i < len → ∃ d : Dt, d.ok y ∧ V.clean d.cells = true ∧ ∀ j u, d.cells[j]? = some u → ∃ c, w.cell? (a.add (i * y.size + j)) = some c ∧ VR (EW w) u c := by
              intro i hil
              obtain ⟨cs', hcs, ht⟩ := hi i (by omega)
              rw [hc.1] at hcs
              obtain ⟨d, hd, hv, hcl⟩ := ih e y hy _ _ _ ht (hz2 i hil)
              obtain ⟨_, hlen, hat⟩ := World.cells?_some hcs
              refine ⟨d, hd, hcl, fun j u hu => ?_⟩
              obtain ⟨c, hc1, hc2⟩ := hv.get hu
              have hj : j < y.size := by have := (List.getElem?_eq_some_iff.1 hu).1; rw [Dt.size_cells hd] at this; exact this
              exact ⟨c, by rw [← Deep.add_add, hat j hj, hc1], hc2⟩
            obtain ⟨l, hll, hlq⟩ := list_of len _ key
            have hok : ∀ d ∈ l, d.ok y ∧ V.clean d.cells = true := fun d hd => by
              obtain ⟨i, hi, rfl⟩ := List.getElem_of_mem hd
              exact ⟨(hlq i hi).1, (hlq i hi).2.1⟩
            have hsz : ∀ d ∈ l, d.cells.length = y.size := fun d hd => Dt.size_cells (hok d hd).1
            have hcl := clean_cellsL fun d hd => (hok d hd).2
            refine ⟨.sl l, by rw [Dt.ok, hll]; exact ⟨hz1, fun d hd => (hok d hd).1⟩, ?_, by rw [Dt.cells]; simp [V.clean, V.pures, V.pure, V.one]⟩
            rw [Dt.cells, VRs]
            refine ⟨_, _, rfl, ?_, by rw [VRs]⟩
            rw [VR]
            refine ⟨some a, m, by rw [hll], by omega, trivial, hcl, ?_⟩
            rcases Nat.eq_zero_or_pos len with h0 | h0
            · left
              have : l = [] := List.eq_nil_of_length_eq_zero (by omega)
              rw [this, Dt.cellsL]
            · right
              have h00 : 0 < l.length := by omega
              have hd0 := Dt.size_cells (hlq 0 h00).1
              obtain ⟨c0, hc0, _⟩ := (hlq 0 h00).2.2 0 _ (List.getElem?_eq_getElem (by omega))
              rw [Nat.zero_mul, Nat.add_zero, show a.add 0 = a by simp [Addr.add]] at hc0
              have hsp := World.cell?_spot hc0
              obtain ⟨b, o, s⟩ := a
              have hs : s = none := hsp
              subst hs
              refine ⟨b, o, rfl, At.of_get fun j v hv => ?_⟩
              have hy0 := hc.2
              have hjl : j < l.length * y.size := by have := (List.getElem?_eq_some_iff.1 hv).1; rwa [cellsL_length _ _ hsz] at this
              have ej : j = j / y.size * y.size + j % y.size := by rw [Nat.mul_comm]; exact (Nat.div_add_mod j y.size).symm
              have hdiv : j / y.size < l.length := Nat.div_lt_of_lt_mul (by rw [Nat.mul_comm]; exact hjl)
              rw [ej, cellsL_get _ _ hsz _ _ (Nat.mod_lt _ hy0), List.getElem?_eq_getElem hdiv] at hv
              obtain ⟨c, hc1, hc2⟩ := (hlq _ hdiv).2.2 _ _ hv
              rw [← ej, addr_at] at hc1
              exact ⟨c, hc1, hc2⟩
        · cases ht
      · cases ht
    · rename_i n e hu
      split at ht
      · rename_i y hy
        split at ht
        · rename_i hc
          cases ht
          obtain ⟨xs, m, _, rfl, hcl, hxl, hf⟩ := DataW.trod_array hu h
          rw [hc.1] at hf
          rw [hc.2] at hcl
          have key : ∀ i, i < n → ∃ d : Dt, d.ok y ∧ VRs (EW w) d.cells ((cs.drop (i * y.size)).take y.size) ∧ V.clean d.cells = true := by
            intro i hi
            have := hf i hi
            rw [List.getElem?_eq_getElem (by omega)] at this
            refine ih e y hy _ _ _ this fun n hn => hz n ?_
            simp only [DataW.weights, hu]
            exact weights_all (List.mem_map.2 ⟨_, List.getElem_mem _, rfl⟩) n hn
          clear hf h hu hz
          have gen : ∀ (n : Nat) (cs : List Value), cs.length = n * y.size → (∀ i, i < n → ∃ d : Dt, d.ok y ∧ VRs (EW w) d.cells ((cs.drop (i * y.size)).take y.size) ∧ V.clean d.cells = true) →
              ∃ l : List Dt, Dt.oks (List.replicate n y) l ∧ VRs (EW w) (Dt.cellsL l) cs ∧ V.clean (Dt.cellsL l) = true := by
            intro n
            induction n with
            | zero =>
              intro cs hl _
              have : cs = [] := List.eq_nil_of_length_eq_zero (by omega)
              subst this
              exact ⟨[], by rw [List.replicate, Dt.oks]; trivial, by rw [Dt.cellsL, VRs], rfl⟩
            | succ n ihn =>
              intro cs hl hk
              obtain ⟨d, h1, h2, h3⟩ := hk 0 (by omega)
              obtain ⟨l, h4, h5, h6⟩ := ihn (cs.drop y.size) (by rw [List.length_drop, hl, Nat.add_mul]; omega) (fun i hi => by
                have := hk (i + 1) (by omega)
                rw [List.drop_drop, show y.size + i * y.size = (i + 1) * y.size by rw [Nat.add_mul]; omega]
                exact this)
              rw [Nat.zero_mul, List.drop_zero] at h2
              refine ⟨d :: l, by rw [List.replicate_succ, Dt.oks]; exact ⟨h1, h4⟩, ?_, by rw [Dt.cellsL]; exact clean_append h3 h6⟩
              rw [Dt.cellsL]
              have := h2.append h5
              rwa [List.take_append_drop] at this
          obtain ⟨l, h1, h2, h3⟩ := gen n cs hcl key
          exact ⟨.st l, by rw [Dt.ok]; exact h1, by rw [Dt.cells]; exact h2, by rw [Dt.cells]; exact h3⟩
        · cases ht
      · cases ht
    · rename_i fs hu
      split at ht
      · rename_i ts hts
        split at ht
        · rename_i hc
          cases ht
          obtain ⟨xs, m, _, rfl, hcl, hxl, hf⟩ := DataW.trod_struct hu h
          rw [hc] at hcl
          have gen : ∀ (l : List Field) (off : Nat) (ts : List Ty), fldsOf P (tyOf P k) l off = some ts → (∀ f ∈ l, ∃ y, DataW.trod enc P w 0 (fun _ => true) true m f.type ((cs.drop f.offset).take (P.cellsOf f.type)) = some y ∧ ∀ n ∈ DataW.weights P f.type y.1, n ≤ reachBytes) →
              off + Ty.sizes ts = cs.length → ∃ ds : List Dt, Dt.oks ts ds ∧ VRs (EW w) (Dt.cellsL ds) (cs.drop off) ∧ V.clean (Dt.cellsL ds) = true := by
            intro l
            induction l with
            | nil =>
              intro off ts he _ hl
              rw [fldsOf] at he
              cases he
              rw [Ty.sizes] at hl
              exact ⟨[], by rw [Dt.oks]; trivial, by rw [Dt.cellsL, VRs, List.drop_of_length_le (by omega)], rfl⟩
            | cons f l ihl =>
              intro off ts he hy hl
              rw [fldsOf] at he
              split at he
              · rename_i ty hty
                split at he
                · rename_i ho
                  rw [Option.map_eq_some_iff] at he
                  obtain ⟨ts', he', rfl⟩ := he
                  rw [Ty.sizes] at hl
                  obtain ⟨y, hy1, hy2⟩ := hy f (List.mem_cons_self ..)
                  rw [ho.1, ho.2] at hy1
                  obtain ⟨d, h1, h2, h3⟩ := ih _ _ hty _ _ _ hy1 hy2
                  obtain ⟨ds, h4, h5, h6⟩ := ihl _ _ he' (fun f hf => hy f (List.mem_cons_of_mem _ hf)) (by omega)
                  refine ⟨d :: ds, by rw [Dt.oks]; exact ⟨h1, h4⟩, ?_, by rw [Dt.cellsL]; exact clean_append h3 h6⟩
                  rw [Dt.cellsL]
                  have := h2.append h5
                  rwa [← List.drop_drop, List.take_append_drop] at this
                · cases he
              · cases he
          obtain ⟨ds, h1, h2, h3⟩ := gen fs.toList 0 ts hts (fun f hf' => by
            obtain ⟨i, hi, hfi⟩ := List.getElem_of_mem hf'
            have hi' : i < fs.size := by simpa using hi
            have := hf i f (by rw [Array.getElem?_eq_getElem hi']; simpa using hfi)
            rw [List.getElem?_eq_getElem (by omega)] at this
            refine ⟨_, this, fun n hn => hz n ?_⟩
            simp only [DataW.weights, hu]
            refine DataW.weights_mem_each (j := i) (t := f.type) (d := (xs[i]'(by omega)).1) ?_ ?_ n hn
            · rw [List.getElem?_map, Array.getElem?_toList, Array.getElem?_eq_getElem hi']
              simp only [Option.map_some, Option.some.injEq]
              rw [← hfi]; simp
            · rw [List.getElem?_map, List.getElem?_eq_getElem (by omega)]; rfl) (by omega)
          rw [List.drop_zero] at h2
          exact ⟨.st ds, by rw [Dt.ok]; exact h1, by rw [Dt.cells]; exact h2, by rw [Dt.cells]; exact h3⟩
        · cases ht
      · cases ht
    · cases ht

/-- An argument. -/
theorem open_dt {k : Nat} {t : TypeId} {ty : Ty} (ht : tyOf P k t = some ty) {r : Reach} {b0 : Nat} {v : Value} {d : DataW H} {p : List MemPlace} (hv : Value.okWide P w r b0 t v) (h : DataW.Trod enc P w 0 (fun _ => true) true t v d p) (hz : ∀ n ∈ DataW.weights P t d, n ≤ reachBytes) :
    ∃ x : Dt, x.ok ty ∧ VR (EW w) x.val v ∧ x.val.pure = true := by
  obtain ⟨fuel, hf⟩ := h
  obtain ⟨x, hx, hvr, hcl⟩ := trod_dt k t ty ht _ _ _ hf hz
  refine ⟨x, hx, ?_⟩
  have hp := clean_pures hcl
  have hform : (∃ l c, x = .st l ∧ v = .agg c) ∨ ((∀ l, x ≠ .st l) ∧ v.cells.toList = [v]) := by
    cases k with
    | zero => rw [tyOf] at ht; cases ht
    | succ k =>
      rw [tyOf] at ht
      split at ht
      · rename_i hu
        cases ht
        obtain ⟨n, rfl⟩ := okWide_int hu hv
        exact .inr ⟨(by rintro l rfl; simp [Dt.ok] at hx), rfl⟩
      · rename_i hu
        cases ht
        obtain ⟨n, rfl⟩ := okWide_bool hu hv
        exact .inr ⟨(by rintro l rfl; simp [Dt.ok] at hx), rfl⟩
      · rename_i hu
        cases ht
        obtain ⟨n, rfl⟩ := okWide_string hu hv
        exact .inr ⟨(by rintro l rfl; simp [Dt.ok] at hx), rfl⟩
      · rename_i e hu
        split at ht
        · split at ht <;> cases ht
          obtain ⟨a, n, c, rfl⟩ := okWide_slice hu hv
          exact .inr ⟨(by rintro l rfl; simp [Dt.ok] at hx), rfl⟩
        · cases ht
      · rename_i n e hu
        split at ht
        · split at ht <;> cases ht
          simp only [Value.okWide, hu] at hv
          obtain ⟨cs, h1, _⟩ := hv
          cases x <;> first | exact .inl ⟨_, cs, rfl, h1⟩ | (simp [Dt.ok] at hx)
        · cases ht
      · rename_i fs hu
        split at ht
        · split at ht <;> cases ht
          obtain ⟨cs, h1, _⟩ := okWide_struct hu hv
          cases x <;> first | exact .inl ⟨_, cs, rfl, h1⟩ | (simp [Dt.ok] at hx)
        · cases ht
      · cases ht
  rcases hform with ⟨l, c, rfl, rfl⟩ | ⟨hne, hc⟩
  · rw [Dt.val, VR, V.pure]
    rw [Dt.cells] at hvr hp
    exact ⟨⟨c, rfl, hvr⟩, hp⟩
  · rw [hc] at hvr
    have one : ∀ u, x.cells = [u] → VR (EW w) u v ∧ u.pure = true := fun u hu => by
      rw [hu, VRs] at hvr
      obtain ⟨c', cs', e, h1, _⟩ := hvr
      cases e
      rw [hu, V.pures, V.pures, Bool.and_true] at hp
      exact ⟨h1, hp⟩
    cases x with
    | st l => exact absurd rfl (hne l)
    | int n => exact one _ (by rw [Dt.cells, Dt.val])
    | bool n => exact one _ (by rw [Dt.cells, Dt.val])
    | str n => exact one _ (by rw [Dt.cells, Dt.val])
    | sl n => exact one _ (by rw [Dt.cells, Dt.val])
end
end Go.Proofs.YtdefefeifcdogaaGreat
