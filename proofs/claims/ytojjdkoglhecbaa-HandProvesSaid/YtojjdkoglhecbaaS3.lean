/- Laws about tables: SameTable, Changed. More arguments read: tables and changes. Heavy of the laws, on values. The law HandProves, on values. -/
import Derived.Test.YtojjdkoglhecbaaS2
import Derived.Test.YtojjdkoglhecbaaOA
import Derived.Test.YtojjdkoglhecbaaHC2
import Derived.Test.YtojjdkoglhecbaaS1
import Derived.Test.YtojjdkoglhecbaaXw
set_option linter.unusedSimpArgs false
set_option linter.unusedVariables false
namespace Go.Proofs.Ytojjdkoglhecbaa
open Go.RowKit

theorem sametable_fn (T : List (List Int)) (hT : FitsT T) : Fn Try.prog Gd 49 [tIss T, tIss T] (vbool true) := by
  refine Fn.of_vx0 k_theorbolaw06_SameTable (by simp) (by rw [V.pures, pure_tIss, V.pures, pure_tIss]; rfl) ?_
  have h1 := hT.len
  have e1 : ((T.length : Int) == (T.length : Int)) = true := by simp
  unfold c_theorbolaw06_SameTable tIss
  repeat' (with_reducible first | refine x_ops ?_ | refine wk ?_ | ((first | refine gd1 ?_ ?_ | refine gd2 ?_ ?_ | refine gd3 ?_ ?_) <;> (first | exact @False.elim _ | intro hc)))
  refine x_loopF w_theorbolaw06_SameTable_p5 kr T.length (fun k t => t 5 = vint (k : Int)) vv ?_
  rintro k t hk h5
  by_cases hlt : k < T.length
  · have g1 := iss_at' hlt
    have c2 : (k : Int) < (T.length : Int) := by omega
    have w2 := w_add1 (k := k) (by omega)
    have SI := sameints_fn (T.getD k []) (T.getD k []) (by have := hT.row _ (mem_getD [] hlt); omega)
    rw [decide_eq_true rfl] at SI
    unfold tIs at SI
    repeat' (with_reducible first | refine x_ops ?_ | refine wk ?_ | (with_reducible refine xc (SI) ?_) | ((first | refine gd1 ?_ ?_ | refine gd2 ?_ ?_ | refine gd3 ?_ ?_) <;> (first | exact @False.elim _ | intro hc)))
    exact nf hlt vv rfl
  · have hkl : k = T.length := by omega
    subst hkl
    have c1 : ¬ (T.length : Int) < (T.length : Int) := by omega
    repeat' (with_reducible first | refine x_ops ?_ | refine wk ?_ | ((first | refine gd1 ?_ ?_ | refine gd2 ?_ ?_ | refine gd3 ?_ ?_) <;> (first | exact @False.elim _ | intro hc)))
    exact finV_lit vv rfl

/-- A change. -/
def chE (c : Int × Int × Int) : List V := [vint c.1, vint c.2.1, vint c.2.2]
def tChs (cs : List (Int × Int × Int)) : V := .sl cs.length (cs.flatMap chE) .no
theorem pure_tChs (l : List (Int × Int × Int)) : (tChs l).pure = true := by rw [tChs, V.pure]; intro t h; cases h
/-- A table, changed once. -/
def chgA (T : List (List Int)) (c : Int × Int × Int) : List (List Int) :=
  if 0 < (T.getD (rsI c.1 T.length).toNat []).length then
    T.set (rsI c.1 T.length).toNat ((T.getD (rsI c.1 T.length).toNat []).set (rsI c.2.1 (T.getD (rsI c.1 T.length).toNat []).length).toNat
      (IntKind.i64.wrap ((T.getD (rsI c.1 T.length).toNat []).getD (rsI c.2.1 (T.getD (rsI c.1 T.length).toNat []).length).toNat 0 + c.2.2.tmod 10000)))
  else T
def chgU (T : List (List Int)) (cs : List (Int × Int × Int)) : Nat → List (List Int)
  | 0 => T
  | n + 1 => chgA (chgU T cs n) (cs.getD n (0, 0, 0))
/-- A table, changed. -/
def chgT (T : List (List Int)) (cs : List (Int × Int × Int)) : List (List Int) := if T.length = 0 then T else chgU T cs (if cs.length < 64 then cs.length else 64)
theorem chgA_len (T : List (List Int)) (c : Int × Int × Int) : (chgA T c).length = T.length := by rw [chgA]; split <;> simp
theorem chgU_len (T : List (List Int)) (cs : List (Int × Int × Int)) : ∀ n, (chgU T cs n).length = T.length
  | 0 => rfl
  | n + 1 => by rw [chgU, chgA_len, chgU_len T cs n]

/-- The cell of a row that has a box. -/
def rwC (q : Nat) (r : List Int) : V := if r.length = 0 then .sl 0 [] .exact else .bsl q 0 r.length r.length
/-- Rows in boxes. -/
structure RwM (M : Mm) (oq : Nat) (qs : List Nat) (T : List (List Int)) : Prop where
  len : qs.length = T.length
  obj : ∀ y, y < T.length → 0 < (T.getD y []).length → M.obj (qs.getD y 0) = some (.box ((T.getD y []).map vint) 3)
  inc : ∀ y z, y < z → z < T.length → qs.getD y 0 < qs.getD z 0
  lt : ∀ y, y < T.length → qs.getD y 0 < oq
/-- The list of them. -/
def rwL (qs : List Nat) (T : List (List Int)) : List V := (List.range T.length).map fun y => rwC (qs.getD y 0) (T.getD y [])
theorem rwL_len (qs : List Nat) (T : List (List Int)) : (rwL qs T).length = T.length := by simp [rwL]
theorem rwL_at {qs : List Nat} {T : List (List Int)} {y : Nat} (hy : y < T.length) : (rwL qs T)[y]? = some (rwC (qs.getD y 0) (T.getD y [])) := by
  rw [rwL, List.getElem?_map, List.getElem?_range hy]; rfl
theorem rwL_vw {M : Mm} {oq : Nat} {qs : List Nat} {T : List (List Int)} (h : RwM M oq qs T) : Vws M allS (rwL qs T) (T.map tIs) := by
  have gen : ∀ (L : List Nat), (∀ y ∈ L, y < T.length) → Vws M allS (L.map fun y => rwC (qs.getD y 0) (T.getD y [])) (L.map fun y => tIs (T.getD y [])) := by
    intro L
    induction L with
    | nil => intro _; exact .nil
    | cons y L ih =>
      intro hL
      have hy := hL y (List.mem_cons_self ..)
      refine .cons ?_ (ih fun z hz => hL z (List.mem_cons_of_mem _ hz))
      show Vw M allS (rwC (qs.getD y 0) (T.getD y [])) (tIs (T.getD y []))
      unfold rwC
      split
      · rename_i h0
        have e : T.getD y [] = [] := List.eq_nil_of_length_eq_zero h0
        rw [e]; exact .sl _ _ _
      · rename_i h0
        rw [tIs]
        exact .bsl (us := (T.getD y []).map vint) rfl (h.obj y hy (by omega)) (Vws.of_dry (vint_dry _)) (vint_one _)
  have e : T.map tIs = (List.range T.length).map fun y => tIs (T.getD y []) := by
    apply List.ext_getElem?
    intro y
    by_cases hy : y < T.length
    · rw [iss_at hy, List.getElem?_map, List.getElem?_range hy]; rfl
    · rw [List.getElem?_eq_none (by rw [List.length_map]; omega), List.getElem?_eq_none (by rw [List.length_map, List.length_range]; omega)]
  rw [e]
  exact gen _ fun y hy => List.mem_range.1 hy
theorem tIs_one (T : List (List Int)) : (T.map tIs).all V.one = true := by have := fgt_one (rows_tIs T); rwa [fgt_tIs] at this

theorem rwC_cells (q : Nat) (r : List Int) : (rwC q r).cells = [rwC q r] := by unfold rwC; split <;> rfl
theorem rwC_one (q : Nat) (r : List Int) : (rwC q r).one = true := by unfold rwC; split <;> rfl
theorem rwC_len (q : Nat) (r : List Int) : pureSem .len [rwC q r] = some (vint r.length) := by
  unfold rwC
  split
  · rename_i h; rw [h]; rfl
  · rfl
theorem rwC_ix (q : Nat) (r : List Int) (h : 0 < r.length) : rwC q r = .bsl q 0 r.length r.length := by unfold rwC; rw [if_neg (by omega)]
theorem rwL_one (qs : List Nat) (T : List (List Int)) : (rwL qs T).all V.one = true := by
  rw [List.all_eq_true]
  intro v hv
  rw [rwL] at hv
  obtain ⟨y, _, rfl⟩ := List.mem_map.1 hv
  exact rwC_one _ _
/-- A list in a box, that may grow. -/
def bxL (k q : Nat) : V := if k = 0 then .sl 0 [] .exact else .gsl q k 1
section
variable {P : Program} {G : Ground}
/-- A copy of a row of numbers. -/
theorem x_appR {base i : Nat} {d : Option Nat} {e : TypeId} {bytes : Nat} {x y : Opd} {l : List VI} {s : St} {K : St → Prop} {r : List Int} {k2 : Tok} {md : Option (List Nat)} (hx : s.ev x = .sl 0 [] .exact) (hy : s.ev y = .sl r.length (r.map vint) k2)
    (h3 : r.length * bytes ≤ 140737488355328) (h4 : r.length ≤ maxLen)
    (h : ∀ m', m'.next = s.m.next → (∀ q, q ≠ base + i → m'.obj q = s.m.obj q) → (0 < r.length → m'.obj (base + i) = some (.box (r.map vint) e)) → goR P G base (some ⟨putT s.t d (rwC (base + i) r), m'⟩) l (i + 1) K) :
    vrun P G base i (⟨d, none, .appB e 1 bytes, [x, y], md⟩ :: l) s K := by
  refine x_appB hx hy rfl (by simp) (by rw [Nat.zero_add]; exact h3) (by rw [Nat.zero_add]; exact h4) ?_
  by_cases h0 : r.length = 0
  · rw [if_pos h0]
    have := h s.m rfl (fun _ _ => rfl) (fun h1 => by omega)
    unfold rwC at this; rw [if_pos h0] at this; exact this
  · rw [if_neg h0]
    have := h (s.m.put (base + i) (.box (r.map vint) e)) rfl (fun q hq => put_other _ _ hq) (fun _ => put_same _ _ _)
    unfold rwC at this; rw [if_neg h0] at this
    rw [Nat.zero_add, List.nil_append]; exact this
/-- One more to a list in a box. -/
theorem x_appG {base i : Nat} {d : Option Nat} {e : TypeId} {bytes : Nat} {x y : Opd} {l : List VI} {s : St} {K : St → Prop} {k oq : Nat} {cs : List V} {v : V} (hx : s.ev x = bxL k oq) (hy : rdS s.m 1 (s.ev y) = some (1, [v]))
    (ho : 0 < k → s.m.obj oq = some (.box cs e)) (hl : cs.length = k) (hone : cs.all V.one = true) (h3 : (k + 1) * bytes ≤ 140737488355328) (h4 : k + 1 ≤ maxLen)
    (h : ∀ m', m'.next = s.m.next → (∀ q, q ≠ base + i → (0 < k → q ≠ oq) → m'.obj q = s.m.obj q) → m'.obj (base + i) = some (.box (cs ++ [v]) e) → goR P G base (some ⟨putT s.t d (.gsl (base + i) (k + 1) 1), m'⟩) l (i + 1) K) :
    vrun P G base i (⟨d, none, .appM e 1 bytes, [x, y], none⟩ :: l) s K := by
  unfold bxL at hx
  by_cases h0 : k = 0
  · rw [if_pos h0] at hx
    subst h0
    have hc : cs = [] := List.eq_nil_of_length_eq_zero hl
    subst hc
    refine x_appM0 (j := 1) (ys := [v]) hx hy rfl h3 h4 ?_
    rw [if_neg (by decide)]
    exact h _ rfl (fun q hq _ => put_other _ _ hq) (put_same _ _ _)
  · rw [if_neg h0] at hx
    have ht : cs.take (k * 1) = cs := List.take_of_length_le (by omega)
    refine x_appM (j := 1) (ys := [v]) hx hy (ho (by omega)) (by omega) (by rw [ht]; exact hone) h3 h4 ?_
    rw [ht]
    exact h _ rfl (fun q hq hq2 => (put_other _ _ hq).trans (if_neg (hq2 (by omega)))) (put_same _ _ _)
end
theorem rwL_snoc {qs : List Nat} {T : List (List Int)} {k q : Nat} (hk : k < T.length) (hq : qs.length = k) : rwL (qs ++ [q]) (T.take (k + 1)) = rwL qs (T.take k) ++ [rwC q (T.getD k [])] := by
  have l1 : (T.take (k + 1)).length = k + 1 := by rw [List.length_take]; omega
  have l2 : (T.take k).length = k := by rw [List.length_take]; omega
  rw [rwL, rwL, l1, l2, List.range_succ, List.map_append, List.map_cons, List.map_nil]
  have ha : (qs ++ [q]).getD k 0 = q := by simp [List.getD_eq_getElem?_getD, ← hq]
  have hb : (T.take (k + 1)).getD k [] = T.getD k [] := by simp [List.getD_eq_getElem?_getD, List.getElem?_take]
  rw [ha, hb]
  congr 1
  apply List.map_congr_left
  intro y hy
  have hyk := List.mem_range.1 hy
  have hc : (qs ++ [q]).getD y 0 = qs.getD y 0 := by simp [List.getD_eq_getElem?_getD, List.getElem?_append_left (show y < qs.length by omega)]
  have hd : (T.take (k + 1)).getD y [] = (T.take k).getD y [] := by simp [List.getD_eq_getElem?_getD, List.getElem?_take, hyk, Nat.lt_succ_of_lt hyk]
  rw [hc, hd]
theorem take_getD_lt {T : List (List Int)} {k y : Nat} (hy : y < k) : (T.take k).getD y [] = T.getD y [] := by
  simp [List.getD_eq_getElem?_getD, List.getElem?_take, hy]

theorem getD_set {α : Type} {L : List α} {i y : Nat} {v d : α} : (L.set i v).getD y d = if i = y ∧ i < L.length then v else L.getD y d := by
  rw [List.getD_eq_getElem?_getD, List.getElem?_set]
  by_cases e : i = y
  · subst e
    by_cases h : i < L.length
    · simp [h]
    · simp [h, List.getD_eq_getElem?_getD, List.getElem?_eq_none (Nat.le_of_not_lt h)]
  · simp [e, List.getD_eq_getElem?_getD]
theorem chgA_row (T : List (List Int)) (c : Int × Int × Int) (y : Nat) : ((chgA T c).getD y []).length = (T.getD y []).length := by
  rw [chgA]
  split
  · rw [getD_set]
    split
    · rename_i h; rw [List.length_set, h.1]
    · rfl
  · rfl
theorem chgU_row (T : List (List Int)) (cs : List (Int × Int × Int)) (y : Nat) : ∀ n, ((chgU T cs n).getD y []).length = (T.getD y []).length
  | 0 => rfl
  | n + 1 => by rw [chgU, chgA_row, chgU_row T cs y n]
theorem rwL_congr {qs : List Nat} {T U : List (List Int)} (h1 : U.length = T.length) (h2 : ∀ y, (U.getD y []).length = (T.getD y []).length) : rwL qs U = rwL qs T := by
  rw [rwL, rwL, h1]
  apply List.map_congr_left
  intro y _
  unfold rwC
  rw [h2]
theorem ch_l (c : Int × Int × Int) : (chE c).length = 3 := rfl
theorem ch_at0 {l : List (Int × Int × Int)} {k : Nat} (h : k < l.length) : (l.flatMap chE)[k * 3]? = some (vint (l.getD k (0, 0, 0)).1) := by
  have := flat_at (j := 0) ch_l (0, 0, 0) h (by decide); rw [Nat.add_zero] at this; rw [this]; rfl
theorem ch_at1 {l : List (Int × Int × Int)} {k : Nat} (h : k < l.length) : (l.flatMap chE)[k * 3 + 1]? = some (vint (l.getD k (0, 0, 0)).2.1) := by
  rw [flat_at (j := 1) ch_l (0, 0, 0) h (by decide)]; rfl
theorem ch_at2 {l : List (Int × Int × Int)} {k : Nat} (h : k < l.length) : (l.flatMap chE)[k * 3 + 2]? = some (vint (l.getD k (0, 0, 0)).2.2) := by
  rw [flat_at (j := 2) ch_l (0, 0, 0) h (by decide)]; rfl

set_option maxHeartbeats 4000000 in
theorem changed_fn (T : List (List Int)) (hT : FitsT T) (h4 : T.length ≤ 400) (cs : List (Int × Int × Int)) (hcs : cs.length ≤ 17592186044416) : Fn Try.prog Gd 50 [tIss T, tChs cs] (tIss (chgT T cs)) := by
  refine Fn.of_vx0 k_theorbolaw06_Changed_b (by simp) (by rw [V.pures, pure_tIss, V.pures, pure_tChs]; rfl) ?_
  unfold c_theorbolaw06_Changed_b tIss tChs
  repeat' (with_reducible first | refine x_ops ?_ | refine wk ?_ | ((first | refine gd1 ?_ ?_ | refine gd2 ?_ ?_ | refine gd3 ?_ ?_) <;> (first | exact @False.elim _ | intro hc)))
  refine x_gen (fun t => t 0 = .sl T.length (T.map tIs) .no ∧ t 1 = .sl cs.length (cs.flatMap chE) .no ∧ t 5 = bxL 0 0 ∧ t 6 = vint 0) ⟨vv, vv, vv, vv⟩ ?_
  rintro t0 ⟨a0, a1, a5, a6⟩
  refine x_loopW w_theorbolaw06_Changed_b_p3 kr T.length (fun k t M => t 6 = vint (k : Int) ∧ ∃ oq qs, t 5 = bxL k oq ∧ (0 < k → M.obj oq = some (.box (rwL qs (T.take k)) 22) ∧ oq < M.next) ∧ RwM M oq qs (T.take k)) ?_ ?_
  · exact ⟨a6, 0, [], a5, fun h => by omega, rfl, fun y hy => by simp at hy, fun y z _ hz => by simp at hz, fun y hy => by simp at hy⟩
  rintro k t M hk ⟨h6, oq, qs, h5, hp, hr⟩
  by_cases hkl : k < T.length
  · have c1 : (k : Int) < (T.length : Int) := by omega
    have g1 := iss_at' hkl
    have w1 := w_add1 (k := k) (by omega)
    have hrl := hT.row _ (mem_getD [] hkl)
    replace hp := Hid.mk hp
    replace hr := Hid.mk hr
    have l2 : (T.take k).length = k := by rw [List.length_take]; omega
    replace l2 := Hid.mk l2
    repeat' (with_reducible first | refine x_ops ?_ | refine wk ?_ | ((first | refine gd1 ?_ ?_ | refine gd2 ?_ ?_ | refine gd3 ?_ ?_) <;> (first | exact @False.elim _ | intro hc)))
    refine x_appR (r := T.getD k []) (k2 := .no) vw vw (by omega) (by unfold Go.maxLen; omega) ?_
    intro m1 n1 f1 b1
    replace n1 : m1.next = M.next + 9 := n1
    have rc := rwC_cells (M.next + 5) (T.getD k [])
    simp only [V.cells] at rc
    have ro := rwC_one (M.next + 5) (T.getD k [])
    replace f1 := Hid.mk f1
    replace b1 := Hid.mk b1
    replace n1 := Hid.mk n1
    repeat' (with_reducible first | refine x_ops ?_ | refine wk ?_ | ((first | refine gd1 ?_ ?_ | refine gd2 ?_ ?_ | refine gd3 ?_ ?_) <;> (first | exact @False.elim _ | intro hc)))
    refine x_appG (k := k) (oq := oq) (cs := rwL qs (T.take k)) (v := rwC (M.next + 5) (T.getD k [])) vw ?_ ?_ (by rw [rwL_len]; exact l2.out) (rwL_one _ _) (by omega) (by unfold Go.maxLen; omega) ?_
    · have e : ∀ c, c.one = true → rdS (m1.put (M.next + 6) (.box [c] 22)) 1 (.gsl (M.next + 6) 1 1) = some (1, [c]) := fun c hc => by
        simp [rdS, put_same, hc]
      exact e _ ro
    · intro h0
      have := (hp.out h0).2
      refine (put_other _ _ (by omega)).trans ?_
      rw [f1.out oq (by omega)]
      exact (hp.out h0).1
    intro m2 n2 f2 b2
    have n2' : m2.next = M.next + 9 := n2.trans n1.out
    have old : ∀ q, q < M.next → (0 < k → q ≠ oq) → m2.obj q = M.obj q := fun q hq hqo =>
      (f2 q (by show ¬ q = M.next + 7; omega) hqo).trans ((put_other _ _ (by omega)).trans (f1.out q (by omega)))
    have hr' : RwM m2 (M.next + 7) (qs ++ [M.next + 5]) (T.take (k + 1)) := by
      have hq : qs.length = k := hr.out.len.trans l2.out
      have l3 : (T.take (k + 1)).length = k + 1 := by rw [List.length_take]; omega
      have gq : ∀ y, y < k → (qs ++ [M.next + 5]).getD y 0 = qs.getD y 0 := fun y hy => by simp [List.getD_eq_getElem?_getD, List.getElem?_append_left (show y < qs.length by omega)]
      have gl : (qs ++ [M.next + 5]).getD k 0 = M.next + 5 := by simp [List.getD_eq_getElem?_getD, ← hq]
      have hlo : ∀ y, y < k → qs.getD y 0 < oq ∧ oq < M.next := fun y hy => ⟨hr.out.lt y (by rw [l2.out]; exact hy), (hp.out (by omega)).2⟩
      refine ⟨by rw [List.length_append, hq, l3]; rfl, fun y hy h0 => ?_, fun y z hyz hz => ?_, fun y hy => ?_⟩
      · rw [l3] at hy
        by_cases e : y = k
        · subst e
          rw [gl, take_getD_lt (by omega)]
          rw [take_getD_lt (by omega)] at h0
          exact (f2 _ (by show ¬ M.next + 5 = M.next + 7; omega) (fun h1 => by have := (hp.out h1).2; omega)).trans ((put_other _ _ (by omega)).trans (b1.out h0))
        · have hy' : y < k := by omega
          have := hlo y hy'
          rw [gq y hy', take_getD_lt (by omega), old _ (by omega) (fun _ => by omega)]
          rw [take_getD_lt (by omega)] at h0
          have h9 := hr.out.obj y (by rw [l2.out]; exact hy') (by rw [take_getD_lt hy']; exact h0)
          rwa [take_getD_lt hy'] at h9
      · rw [l3] at hz
        rw [gq y (by omega)]
        by_cases e : z = k
        · subst e; rw [gl]; have := hlo y hyz; omega
        · rw [gq z (by omega)]; exact hr.out.inc y z hyz (by rw [l2.out]; omega)
      · rw [l3] at hy
        by_cases e : y = k
        · subst e; rw [gl]; omega
        · rw [gq y (by omega)]; have := hlo y (by omega); omega
    have hb : m2.obj (M.next + 7) = some (.box (rwL (qs ++ [M.next + 5]) (T.take (k + 1))) 22) := by
      rw [rwL_snoc hkl (hr.out.len.trans l2.out)]; exact b2
    replace hr' := Hid.mk hr'
    replace hb := Hid.mk hb
    have n3' : M.next + 7 < m2.next := by omega
    replace n2' := Hid.mk n2'
    clear f2 b2 n2 old rc ro
    repeat' (with_reducible first | refine x_ops ?_ | refine wk ?_ | ((first | refine gd1 ?_ ?_ | refine gd2 ?_ ?_ | refine gd3 ?_ ?_) <;> (first | exact @False.elim _ | intro hc)))
    refine nx hkl ⟨vv, M.next + 7, qs ++ [M.next + 5], ?_, fun _ => ⟨hb.out, n3'⟩, hr'.out⟩
    rw [show bxL (k + 1) (M.next + 7) = .gsl (M.next + 7) (k + 1) 1 from if_neg (Nat.succ_ne_zero k)]
    exact vv
  have hke : k = T.length := by omega
  subst hke
  have c1 : ¬ (T.length : Int) < (T.length : Int) := by omega
  rw [List.take_of_length_le (Nat.le_refl _)] at hp hr
  clear hk hkl
  replace hp := Hid.mk hp
  replace hr := Hid.mk hr
  repeat' (with_reducible first | refine x_ops ?_ | refine wk ?_ | ((first | refine gd1 ?_ ?_ | refine gd2 ?_ ?_ | refine gd3 ?_ ?_) <;> (first | exact @False.elim _ | intro hc)))
  refine x_gen (fun t => t 1 = .sl cs.length (cs.flatMap chE) .no ∧ t 5 = bxL T.length oq ∧ t 7 = vint 0) ⟨vw, vw, vv⟩ ?_
  clear a0 a1 a5 a6 h6 h5 c1
  rintro t1 ⟨a1, a5, a7⟩
  by_cases hT0 : T.length = 0
  · have e0 : T = [] := List.eq_nil_of_length_eq_zero hT0
    have e1 : chgT T cs = [] := by rw [chgT, if_pos hT0, e0]
    rw [e1]
    rw [hT0] at a5
    unfold bxL at a5
    rw [if_pos rfl] at a5
    clear hp hr hT
    refine x_loopF w_theorbolaw06_Changed_b_p9 kr 0 (fun q t => t 7 = vint 0) a7 ?_
    rintro q t2 hq h7
    by_cases hc0 : 0 < cs.length
    · have c1 : (0 : Int) < (cs.length : Int) := by omega
      clear hc0
      repeat' (with_reducible first | refine x_ops ?_ | refine wk ?_ | ((first | refine gd1 ?_ ?_ | refine gd2 ?_ ?_ | refine gd3 ?_ ?_) <;> (first | exact @False.elim _ | intro hc)))
      exact finV_ret vv (.sl _ _ _)
    · have c1 : ¬ (0 : Int) < (cs.length : Int) := by omega
      clear hc0
      repeat' (with_reducible first | refine x_ops ?_ | refine wk ?_ | ((first | refine gd1 ?_ ?_ | refine gd2 ?_ ?_ | refine gd3 ?_ ?_) <;> (first | exact @False.elim _ | intro hc)))
      exact finV_ret vv (.sl _ _ _)
  have hoq := hp.out (by omega)
  have e5 : bxL T.length oq = .gsl oq T.length 1 := if_neg hT0
  rw [e5] at a5
  have hN : chgT T cs = chgU T cs (if cs.length < 64 then cs.length else 64) := by rw [chgT, if_neg hT0]
  generalize hNn : (if cs.length < 64 then cs.length else 64) = N at hN
  have hNc : N ≤ cs.length ∧ N ≤ 64 ∧ (cs.length = N ∨ N = 64) := by rw [← hNn]; split <;> omega
  replace hNn := Hid.mk hNn
  rw [hN]
  have ho0 := hoq.1
  clear hp e5 hN
  refine x_loopW w_theorbolaw06_Changed_b_p9 kr N (fun k t M' => t 7 = vint (k : Int) ∧ M'.next = M.next ∧ M'.obj oq = M.obj oq ∧ RwM M' oq qs (chgU T cs k)) ?_ ?_
  · exact ⟨a7, rfl, rfl, hr.out⟩
  rintro k t2 M' hk ⟨h7, mn, mo, hr2⟩
  have mo' := mo.trans ho0
  have hoM : oq < M'.next := by rw [mn]; exact hoq.2
  replace mn := Hid.mk mn
  replace mo := Hid.mk mo
  have hUl := chgU_len T cs k
  have hUr := fun y => chgU_row T cs y k
  by_cases hkN : k < N
  case neg =>
    have hke : k = N := by omega
    subst hke
    have hL : rwL qs (chgU T cs k) = rwL qs T := rwL_congr hUl hUr
    rw [← hL] at mo'
    have hfin : FinV [VRes.t 4] (V.sl (chgU T cs k).length (List.map tIs (chgU T cs k)) Tok.no) .ret ⟨putT (putT t2 none vund) none vund, M'⟩ → True := fun _ => trivial
    replace hr2 := Hid.mk hr2
    rw [hUl]
    rcases hNc.2.2 with hc | hc
    · have c1 : ¬ (k : Int) < (cs.length : Int) := by omega
      clear hr hUl hUr hL hoq ho0 hNc hc hfin
      repeat' (with_reducible first | refine x_ops ?_ | refine wk ?_ | ((first | refine gd1 ?_ ?_ | refine gd2 ?_ ?_ | refine gd3 ?_ ?_) <;> (first | exact @False.elim _ | intro hc)))
      exact finV_ret vv (.gsl rfl mo' (rwL_vw hr2.out) (tIs_one _))
    · have c2 : ¬ (k : Int) < 64 := by omega
      by_cases hkc : k < cs.length
      · have c1 : (k : Int) < (cs.length : Int) := by omega
        clear hr hUl hUr hL hoq ho0 hNc hc hfin
        repeat' (with_reducible first | refine x_ops ?_ | refine wk ?_ | ((first | refine gd1 ?_ ?_ | refine gd2 ?_ ?_ | refine gd3 ?_ ?_) <;> (first | exact @False.elim _ | intro hc)))
        exact finV_ret vv (.gsl rfl mo' (rwL_vw hr2.out) (tIs_one _))
      · have c1 : ¬ (k : Int) < (cs.length : Int) := by omega
        clear hr hUl hUr hL hoq ho0 hNc hc hfin
        repeat' (with_reducible first | refine x_ops ?_ | refine wk ?_ | ((first | refine gd1 ?_ ?_ | refine gd2 ?_ ?_ | refine gd3 ?_ ?_) <;> (first | exact @False.elim _ | intro hc)))
        exact finV_ret vv (.gsl rfl mo' (rwL_vw hr2.out) (tIs_one _))
  have c1 : (k : Int) < (cs.length : Int) := by omega
  have c2 : (k : Int) < 64 := by omega
  have c3 : (0 : Int) < (T.length : Int) := by omega
  have w1 := w_add1 (k := k) (by omega)
  have hkc : k < cs.length := by omega
  have g0 := ch_at0 hkc
  have g1 := ch_at1 hkc
  have g2 := ch_at2 hkc
  have g3 := flat_len ch_l cs
  have hU1 : chgU T cs (k + 1) = chgA (chgU T cs k) (cs.getD k (0, 0, 0)) := rfl
  generalize cs.getD k (0, 0, 0) = c at *
  obtain ⟨ca, cb, cc⟩ := c
  have RS1 := rest_fn ca (T.length : Int) (by omega) (by omega)
  have hb1 := rs_bound ca (n := (T.length : Int)) (by omega)
  obtain ⟨r, hrr⟩ : ∃ r : Nat, rsI ca (T.length : Int) = (r : Int) := ⟨_, (Int.toNat_of_nonneg hb1.1).symm⟩
  rw [hrr] at RS1 hb1
  have hrT : r < T.length := by omega
  have c4 : (r : Int) < (T.length : Int) := hb1.2
  have gR := rwL_at (qs := qs) hrT
  generalize hU : chgU T cs k = U at *
  rw [chgA, hUl, hrr, Int.toNat_natCast] at hU1
  dsimp only at hU1 g0 g1 g2
  have hlr := hUr r
  by_cases h0 : 0 < (T.getD r []).length
  case neg =>
    rw [if_neg (by omega)] at hU1
    have er : rwC (qs.getD r 0) (T.getD r []) = .sl 0 [] .exact := by unfold rwC; rw [if_pos (by omega)]
    rw [er] at gR
    replace hU1 := Hid.mk hU1
    replace hr2 := Hid.mk hr2
    replace hU := Hid.mk hU
    clear er h0 hlr hUr hUl hr hNc hrr hb1 ho0 hoq
    repeat' (with_reducible first | refine x_ops ?_ | refine wk ?_ | (with_reducible refine xc (RS1) ?_) | ((first | refine gd1 ?_ ?_ | refine gd2 ?_ ?_ | refine gd3 ?_ ?_) <;> (first | exact @False.elim _ | intro hc)))
    exact nx hkN ⟨vv, mn.out, mo.out, by rw [hU1.out]; exact hr2.out⟩
  rw [if_pos (by omega), hlr] at hU1
  have er := rwC_ix (qs.getD r 0) (T.getD r []) h0
  rw [er] at gR
  have hq := hr2.obj r (by omega) (by omega)
  have hql := hr2.lt r (by omega)
  have hqM : qs.getD r 0 < M'.next := by omega
  have hrw := hT.row _ (mem_getD [] hrT)
  have RS2 := rest_fn cb ((T.getD r []).length : Int) (by omega) (by omega)
  have hb2 := rs_bound cb (n := ((T.getD r []).length : Int)) (by omega)
  obtain ⟨z, hz⟩ : ∃ z : Nat, rsI cb ((T.getD r []).length : Int) = (z : Int) := ⟨_, (Int.toNat_of_nonneg hb2.1).symm⟩
  rw [hz] at RS2 hb2 hU1
  rw [Int.toNat_natCast] at hU1
  have c5 : (z : Int) < ((T.getD r []).length : Int) := hb2.2
  have g5 := ints_at (l := U.getD r []) (k := z) (by omega)
  have c6 : (0 : Int) < ((T.getD r []).length : Int) := by omega
  have c7 : z + 1 ≤ (U.getD r []).length := by omega
  have n0 : ¬ (10000 : Int) = 0 := by decide
  have hset := set_eq (L := (U.getD r []).map vint) (i := z) (by rw [List.length_map]; omega) (vint (IntKind.i64.wrap ((U.getD r []).getD z 0 + cc.tmod 10000)))
  have hneq : ∀ y, y < T.length → y ≠ r → qs.getD y 0 ≠ qs.getD r 0 := fun y hy hyr => by
    rcases Nat.lt_or_gt_of_ne hyr with h1 | h1
    · have := hr2.inc y r h1 (by omega); omega
    · have := hr2.inc r y h1 (by omega); omega
  generalize hqe : qs.getD r 0 = q at *
  replace hqe := Hid.mk hqe
  replace hU1 := Hid.mk hU1
  replace hr2 := Hid.mk hr2
  replace hU := Hid.mk hU
  replace hset := Hid.mk hset
  replace hneq := Hid.mk hneq
  replace hlr := Hid.mk hlr
  clear er h0 hUr hr hNc hrr hb1 hb2 hz ho0 hoq
  repeat' (with_reducible first | refine x_ops ?_ | refine wk ?_ | (with_reducible refine xc (RS1) ?_) | (with_reducible refine xc (RS2) ?_) | ((first | refine gd1 ?_ ?_ | refine gd2 ?_ ?_ | refine gd3 ?_ ?_) <;> (first | exact @False.elim _ | intro hc)))
  refine nx hkN ⟨vv, mn.out, ?_, ?_⟩
  · exact (put_other _ _ (by omega)).trans mo.out
  rw [hU1.out]
  refine ⟨by rw [List.length_set]; exact hr2.out.len, fun y hy h0 => ?_, fun y z' hyz hz' => hr2.out.inc y z' hyz (by rwa [List.length_set] at hz'), fun y hy => hr2.out.lt y (by rwa [List.length_set] at hy)⟩
  rw [List.length_set] at hy
  have hUl' := hUl
  by_cases e : y = r
  · subst e
    rw [hqe.out]
    refine (put_same _ _ _).trans ?_
    rw [getD_set, if_pos ⟨rfl, by omega⟩, List.map_set, hset.out]
    simp [vint]
  · rw [getD_set, if_neg (fun hh => e hh.1.symm)] at h0 ⊢
    exact (put_other _ _ (hneq.out y (by omega) e)).trans (hr2.out.obj y hy h0)
end Go.Proofs.Ytojjdkoglhecbaa
namespace Go.Proofs.Ytojjdkoglhecbaa
open Go.ChangeShapes Go.WideShapes Go.ChangeAt Go.RowKit
set_option maxRecDepth 100000

/-- A table and changes. -/
def tabsV (T : List (List Int)) (cs : List (Int × Int × Int)) : V := .agg [tIss T, tChs cs]
theorem pure_tabs (T : List (List Int)) (cs : List (Int × Int × Int)) : (tabsV T cs).pure = true := by
  rw [tabsV, V.pure, V.pures, pure_tIss, V.pures, pure_tChs]; rfl
def tyChange : Ty := .st [.int, .int, .int]
def tyTabs : Ty := .st [.sl (.sl .int 8) 24, .sl tyChange 24]
theorem flat_tIs (l : List (List Int)) : l.flatMap (fun r => [tIs r]) = l.map tIs := by
  induction l with
  | nil => rfl
  | cons a l ih => rw [List.flatMap_cons, ih]; rfl
theorem dt_table {b : Nat} {d : Dt} (hb : 8 ≤ b) (h : d.ok (.sl (.sl .int 8) b)) : ∃ T : List (List Int), d.cells = [tIss T] ∧ FitsT T := by
  obtain ⟨l, h1, h2, h3⟩ := dt_list (enc := fun r : List Int => [tIs r]) h fun d hd => dt_ints hd
  rw [flat_tIs] at h1
  exact ⟨l, h1, by have := Nat.mul_le_mul_left l.length hb; omega, fun r hr => by have := (h3 r hr).1; omega, fun r hr x hx => ((h3 r hr).2 x hx).1, fun r hr x hx => ((h3 r hr).2 x hx).2⟩
theorem dt_change {d : Dt} (h : d.ok tyChange) : ∃ c : Int × Int × Int, d.cells = chE c ∧ True := by
  obtain ⟨l, _, h1, hc, hv⟩ := ok_st h
  obtain ⟨d1, r1, rfl, k1, h2, e1⟩ := oks_cons h1
  obtain ⟨d2, r2, rfl, k2, h3, e2⟩ := oks_cons h2
  obtain ⟨d3, r3, rfl, k3, h4, e3⟩ := oks_cons h3
  obtain ⟨a, ea, _⟩ := dt_int k1
  obtain ⟨b, eb, _⟩ := dt_int k2
  obtain ⟨c, ec, _⟩ := dt_int k3
  exact ⟨(a, b, c), by rw [hc, e1, e2, e3, oks_nil h4, ea, eb, ec]; rfl, trivial⟩
theorem dt_changes {b : Nat} {d : Dt} (hb : 8 ≤ b) (h : d.ok (.sl tyChange b)) : ∃ l : List (Int × Int × Int), d.cells = [tChs l] ∧ l.length ≤ 17592186044416 := by
  obtain ⟨l, h1, h2, h3⟩ := dt_list (enc := chE) h fun _ hd => dt_change hd
  exact ⟨l, h1, by have := Nat.mul_le_mul_left l.length hb; omega⟩
theorem dt_changesV {d : Dt} (h : d.ok (.sl tyChange 24)) : ∃ l : List (Int × Int × Int), d.val = tChs l ∧ l.length ≤ 17592186044416 := by
  obtain ⟨l, h1, h2⟩ := dt_changes (by decide) h
  rw [dt_one h] at h1
  exact ⟨l, List.cons.inj h1 |>.1, h2⟩
theorem dt_tabsV {d : Dt} (h : d.ok tyTabs) : ∃ x : List (List Int) × List (Int × Int × Int), d.val = tabsV x.1 x.2 ∧ FitsT x.1 ∧ x.2.length ≤ 17592186044416 := by
  obtain ⟨l, _, h1, _, hv⟩ := ok_st h
  obtain ⟨d1, r1, rfl, k1, h2, e1⟩ := oks_cons h1
  obtain ⟨d2, r2, rfl, k2, h3, e2⟩ := oks_cons h2
  obtain ⟨a, ea, fa⟩ := dt_table (by decide) k1
  obtain ⟨b, eb, fb⟩ := dt_changes (by decide) k2
  exact ⟨(a, b), by rw [hv, e1, e2, oks_nil h3, ea, eb]; rfl, fa, fb⟩
theorem ty_tabs : tyOf Try.prog 10 71 = some tyTabs := by kernel_rfl
theorem ty_changes : tyOf Try.prog 10 69 = some (.sl tyChange 24) := by kernel_rfl
end Go.Proofs.Ytojjdkoglhecbaa
namespace Go.Proofs.Ytojjdkoglhecbaa
open Go.RowKit

/-- The pairs of grips of the first chords. -/
noncomputable def hvU (h : Hand) (l : List Chord) : Nat → Int
  | 0 => 0
  | k + 1 => hvU h l k + (if k = 0 then 0 else ((grpA h (l.getD (k - 1) noC)).length : Int)) * ((grpA h (l.getD k noC)).length : Int)
/-- Does a search take too many steps? -/
noncomputable def hvB (h : Hand) (l : List Chord) : Bool :=
  if bothE h l = 0 then (if 24 < l.length then true else if wvE h l = 0 then decide (6000 < hvU h l l.length) else false) else false
theorem hvU_bound {h : Hand} {l : List Chord} : ∀ {k : Nat}, (∀ i, i < k → (grpA h (l.getD i noC)).length ≤ 200) → 0 ≤ hvU h l k ∧ hvU h l k ≤ 40000 * k
  | 0, _ => by simp [hvU]
  | k + 1, hk => by
    have h1 := hvU_bound (h := h) (l := l) (k := k) (fun i hi => hk i (by omega))
    have h2 := hk k (by omega)
    rw [hvU]
    by_cases k0 : k = 0
    · rw [if_pos k0, Int.zero_mul]; omega
    · rw [if_neg k0]
      have h3 := hk (k - 1) (by omega)
      have h5 : (grpA h (l.getD (k - 1) noC)).length * (grpA h (l.getD k noC)).length ≤ 200 * 200 := Nat.mul_le_mul h3 h2
      have h6 : ((grpA h (l.getD (k - 1) noC)).length : Int) * ((grpA h (l.getD k noC)).length : Int) = (((grpA h (l.getD (k - 1) noC)).length * (grpA h (l.getD k noC)).length : Nat) : Int) := by push_cast; rfl
      omega

set_option maxHeartbeats 2000000 in
theorem heavy_fn (h : Hand) (l : List Chord) (hl : Fits l) : Fn Try.prog Gd 29 [h.val, tCs l] (vbool (hvB h l)) := by
  refine Fn.of_vx0 k_theorbolaw06_Heavy (by simp) (by rw [V.pures, pure_hand, V.pures, pure_tCs]; rfl) ?_
  have C1 := rcheck_fn h
  have C2 := rcheckchords_fn l hl
  unfold hvB bothE
  unfold tCs at C2
  unfold Hand.val at C1
  unfold c_theorbolaw06_Heavy Hand.val tCs
  by_cases he : chkE h = 0
  case neg =>
    have e1 : (chkE h == 0) = false := by rw [beq_eq_false_iff_ne]; exact he
    rw [chk_bad he] at C1
    rw [if_neg he, if_neg (by decide)]
    clear he
    repeat' (with_reducible first | refine x_ops ?_ | refine wk ?_ | (with_reducible refine xc (C1) ?_) | (with_reducible refine xc (C2) ?_) | ((first | refine gd1 ?_ ?_ | refine gd2 ?_ ?_ | refine gd3 ?_ ?_) <;> (first | exact @False.elim _ | intro hc)))
    all_goals exact finV_lit vv rfl
  rw [he] at C1
  rw [if_pos he]
  by_cases hs : seqE l = 0
  case neg =>
    have e1 : (seqE l == 0) = false := by rw [beq_eq_false_iff_ne]; exact hs
    rw [if_neg hs]
    clear he hs
    repeat' (with_reducible first | refine x_ops ?_ | refine wk ?_ | (with_reducible refine xc (C1) ?_) | (with_reducible refine xc (C2) ?_) | ((first | refine gd1 ?_ ?_ | refine gd2 ?_ ?_ | refine gd3 ?_ ?_) <;> (first | exact @False.elim _ | intro hc)))
    all_goals exact finV_lit vv rfl
  rw [if_pos hs]
  have hb : bothE h l = 0 := by rw [bothE, if_pos he]; exact hs
  obtain ⟨hk, h4, hseq⟩ := both_ok hb
  rw [hs] at C2
  clear hs he
  by_cases h24 : 24 < l.length
  · have c1 : (24 : Int) < (l.length : Int) := by omega
    rw [if_pos h24]
    clear hb h24
    repeat' (with_reducible first | refine x_ops ?_ | refine wk ?_ | (with_reducible refine xc (C1) ?_) | (with_reducible refine xc (C2) ?_) | ((first | refine gd1 ?_ ?_ | refine gd2 ?_ ?_ | refine gd3 ?_ ?_) <;> (first | exact @False.elim _ | intro hc)))
    all_goals exact finV_lit vv rfl
  have c1 : ¬ (24 : Int) < (l.length : Int) := by omega
  rw [if_neg h24]
  repeat' (with_reducible first | refine x_ops ?_ | refine wk ?_ | (with_reducible refine xc (C1) ?_) | (with_reducible refine xc (C2) ?_) | ((first | refine gd1 ?_ ?_ | refine gd2 ?_ ?_ | refine gd3 ?_ ?_) <;> (first | exact @False.elim _ | intro hc)))
  refine x_gen (fun t => t 1 = .sl l.length (l.flatMap Chord.cells) .no ∧ t 2 = .ptr 0 0 ∧ t 5 = vint 0 ∧ t 6 = vint 0 ∧ t 7 = vint 0) ⟨vv, vv, vv, vv, vv⟩ ?_
  clear C1 C2 c1
  rintro t0 ⟨a1, a2, a5, a6, a7⟩
  refine x_loopF w_theorbolaw06_Heavy_p9 kr l.length (fun k t => t 7 = vint (k : Int) ∧ t 5 = vint (hvU h l k) ∧ t 6 = vint (if k = 0 then 0 else ((grpA h (l.getD (k - 1) noC)).length : Int)) ∧ ∀ i, i < k → (grpA h (l.getD i noC)).length ≤ 200) ?_ ?_
  · exact ⟨a7, by rw [hvU]; exact a5, by rw [if_pos rfl]; exact a6, fun i hi => by omega⟩
  rintro k t hkl ⟨h7, h5, h6, hcnt⟩
  by_cases hlt : k < l.length
  case neg =>
    have hke : k = l.length := by omega
    subst hke
    have c1 : ¬ (l.length : Int) < (l.length : Int) := by omega
    rw [if_pos (show wvE h l = 0 by rw [wvE, if_pos hb, if_pos hcnt])]
    clear hcnt hb hlt hkl
    repeat' (with_reducible first | refine x_ops ?_ | refine wk ?_ | ((first | refine gd1 ?_ ?_ | refine gd2 ?_ ?_ | refine gd3 ?_ ?_) <;> (first | exact @False.elim _ | intro hc)))
    exact finV_lit vv rfl
  have C2 := rGrips_fn h (l.getD k noC) (hl.at k)
  rw [grR_net hk (hseq k hlt).1] at C2
  have g1 := chs_take hlt
  have g2 := chs_len l
  have c1 : k * 3 + 3 ≤ l.length * 3 := by omega
  have c2 : (k : Int) < (l.length : Int) := by omega
  have w1 := w_add1 (k := k) (by omega)
  unfold Hand.val Chord.val Chord.cells at C2
  by_cases hc2 : (grpA h (l.getD k noC)).length ≤ 200
  case neg =>
    rw [if_neg (show ¬ wvE h l = 0 by rw [wvE, if_pos hb, if_neg (fun hh => hc2 (hh k hlt))]; decide)]
    rw [if_neg hc2] at C2
    unfold tGs at C2
    clear hc2 hcnt hb
    dsimp only at C2
    repeat' (with_reducible first | refine x_ops ?_ | refine wk ?_ | (with_reducible refine xc (C2) ?_) | ((first | refine gd1 ?_ ?_ | refine gd2 ?_ ?_ | refine gd3 ?_ ?_) <;> (first | exact @False.elim _ | intro hc)))
    exact finV_lit vv rfl
  have hcn : ∀ i, i < k + 1 → (grpA h (l.getD i noC)).length ≤ 200 := fun i hi => by
    by_cases hik : i = k
    · subst hik; exact hc2
    · exact hcnt i (by omega)
  rw [if_pos hc2] at C2
  have hb1 := hvU_bound (h := h) (l := l) (k := k) hcnt
  have hb2 := hvU_bound (h := h) (l := l) (k := k + 1) hcn
  have hU : hvU h l (k + 1) = hvU h l k + (if k = 0 then 0 else ((grpA h (l.getD (k - 1) noC)).length : Int)) * ((grpA h (l.getD k noC)).length : Int) := rfl
  have hla : 0 ≤ (if k = 0 then 0 else ((grpA h (l.getD (k - 1) noC)).length : Int)) := by split <;> omega
  have hlast : (if k + 1 = 0 then 0 else ((grpA h (l.getD (k + 1 - 1) noC)).length : Int)) = ((grpA h (l.getD k noC)).length : Int) := by rw [if_neg (by omega), Nat.add_sub_cancel]
  generalize hun : hvU h l (k + 1) = un at *
  replace hun := Hid.mk hun
  generalize hvU h l k = uk at *
  generalize (if k = 0 then 0 else ((grpA h (l.getD (k - 1) noC)).length : Int)) = la at *
  have hmul : 0 ≤ la * ((grpA h (l.getD k noC)).length : Int) := Int.mul_nonneg hla (by omega)
  have w2 : IntKind.i64.wrap (la * ((grpA h (l.getD k noC)).length : Int)) = la * ((grpA h (l.getD k noC)).length : Int) := w_in (by omega)
  have w3 : IntKind.i64.wrap (uk + la * ((grpA h (l.getD k noC)).length : Int)) = un := by rw [w_in (by omega)]; exact hU.symm
  unfold tGs at C2
  replace hlast := Hid.mk hlast
  replace hcn := Hid.mk hcn
  replace hb := Hid.mk hb
  clear hU hb1 hb2 hla hmul hcnt hc2
  generalize grpA h (l.getD k noC) = G at *
  dsimp only at C2
  repeat' (with_reducible first | refine x_ops ?_ | refine wk ?_ | (with_reducible refine xc (C2) ?_) | ((first | refine gd1 ?_ ?_ | refine gd2 ?_ ?_ | refine gd3 ?_ ?_) <;> (first | exact @False.elim _ | intro hc)))
  exact nf hlt ⟨vv, by rw [hun.out]; exact vv, by rw [hlast.out]; exact vv, hcn.out⟩ rfl
end Go.Proofs.Ytojjdkoglhecbaa
namespace Go.Proofs.Ytojjdkoglhecbaa
open Go.RowKit

theorem wrap_in (x : Int) : -9223372036854775808 ≤ IntKind.i64.wrap x ∧ IntKind.i64.wrap x ≤ 9223372036854775807 := by
  have h1 : IntKind.i64.wrap x = if x % 18446744073709551616 ≥ 9223372036854775808 then x % 18446744073709551616 - 18446744073709551616 else x % 18446744073709551616 := by
    simp [IntKind.wrap, IntKind.bits, IntKind.signed]
  rw [h1]
  split <;> omega
theorem fits_chgA {T : List (List Int)} (hT : FitsT T) (c : Int × Int × Int) : FitsT (chgA T c) := by
  have hl := chgA_len T c
  rw [chgA] at hl ⊢
  split
  · rename_i h0
    have hr : (rsI c.1 T.length).toNat < T.length := by
      rcases Nat.lt_or_ge (rsI c.1 T.length).toNat T.length with h1 | h1
      · exact h1
      · rw [List.getD_eq_getElem?_getD, List.getElem?_eq_none h1] at h0; simp at h0
    have hm := mem_getD [] hr
    generalize (rsI c.1 T.length).toNat = r at *
    have hrow : ∀ row, row ∈ T.set r ((T.getD r []).set (rsI c.2.1 (T.getD r []).length).toNat (IntKind.i64.wrap ((T.getD r []).getD (rsI c.2.1 (T.getD r []).length).toNat 0 + c.2.2.tmod 10000))) → row.length ≤ 17592186044416 ∧ ∀ x ∈ row, -9223372036854775808 ≤ x ∧ x ≤ 9223372036854775807 := fun row hrow => by
      rcases List.mem_or_eq_of_mem_set hrow with h1 | h1
      · exact ⟨hT.row _ h1, fun x hx => ⟨hT.lo _ h1 x hx, hT.hi _ h1 x hx⟩⟩
      · subst h1
        refine ⟨by rw [List.length_set]; exact hT.row _ hm, fun x hx => ?_⟩
        rcases List.mem_or_eq_of_mem_set hx with h2 | h2
        · exact ⟨hT.lo _ hm x h2, hT.hi _ hm x h2⟩
        · rw [h2]; exact wrap_in _
    exact ⟨by rw [List.length_set]; exact hT.len, fun r hr => (hrow r hr).1, fun r hr x hx => ((hrow r hr).2 x hx).1, fun r hr x hx => ((hrow r hr).2 x hx).2⟩
  · exact hT
theorem fits_chgU {T : List (List Int)} (hT : FitsT T) (cs : List (Int × Int × Int)) : ∀ n, FitsT (chgU T cs n)
  | 0 => hT
  | n + 1 => fits_chgA (fits_chgU hT cs n) _
theorem fits_chgT {T : List (List Int)} (hT : FitsT T) (cs : List (Int × Int × Int)) : FitsT (chgT T cs) := by
  rw [chgT]; split
  · exact hT
  · exact fits_chgU hT cs _
theorem fits_prv (h : Hand) (l : List Chord) (hl : Fits l) : FitsT (prvR h l).1 ∧ (prvR h l).1.length ≤ 400 := by
  rw [prvR]
  split
  · rename_i hw
    have hn := wv_net hl hw
    have h4 := hn.len
    have hrow : ∀ r, r ∈ rsA h l (tabG h l) → r.length ≤ 200 ∧ ∀ x ∈ r, -1 ≤ x ∧ x ≤ 509000 * 400 := fun r hr => by
      rw [rsA] at hr
      obtain ⟨i, hi, rfl⟩ := List.mem_map.1 hr
      have hil := List.mem_range.1 hi
      refine ⟨by rw [rsT_len hil]; exact hn.cnt i, fun x hx => ?_⟩
      obtain ⟨k, hk, rfl⟩ := List.mem_iff_getElem.1 hx
      have hb := rsT_bound hn _ i rfl hil k (by rwa [rsT_len hil] at hk)
      have e : (rsT h l (tabG h l) i).getD k 0 = (rsT h l (tabG h l) i)[k] := by rw [List.getD_eq_getElem?_getD, List.getElem?_eq_getElem hk]; rfl
      rw [e] at hb
      rcases hb with h1 | h1
      · omega
      · have : l.length - i ≤ 400 := by omega
        omega
    exact ⟨⟨by rw [rsA_len]; omega, fun r hr => by have := (hrow r hr).1; omega, fun r hr x hx => by have := ((hrow r hr).2 x hx).1; omega, fun r hr x hx => by have := ((hrow r hr).2 x hx).2; omega⟩, by rw [rsA_len]; exact h4⟩
  · exact ⟨⟨by simp, (fun r hr => by cases hr), (fun r hr => by cases hr), (fun r hr => by cases hr)⟩, by simp⟩

set_option maxHeartbeats 2000000 in
theorem handproves_fn (h : Hand) (l : List Chord) (hl : Fits l) (T : List (List Int)) (hT : FitsT T) (cs : List (Int × Int × Int)) (hcs : cs.length ≤ 17592186044416) (cost : Int) : Fn Try.prog Gd 11 [srV h l, tabsV T cs, vint cost] (vbool true) := by
  refine Fn.of_vx0 k_theorbolaw06_HandProves (by simp) (by rw [V.pures, pure_sr, V.pures, pure_tabs]; rfl) ?_
  have C0 := heavy_fn h l hl
  have C1 := Prove_fn h l hl
  have C2 := rProve_fn h l hl
  obtain ⟨hF, h4⟩ := fits_prv h l hl
  have C3 := sametable_fn _ hF
  have C4 := changed_fn _ hF h4 cs hcs
  have hF2 := fits_chgT hF cs
  have C6 := fun X (hX : FitsT X) => Proves_fn h l hl X hX cost
  have C7 := fun X (hX : FitsT X) => rProves_fn h l hl X hX cost
  have C5 := works_fn
  generalize hvB h l = hv at *
  generalize prvR h l = v at *
  obtain ⟨O, e⟩ := v
  dsimp only at *
  generalize chgT O cs = D at *
  unfold Hand.val at C0 C1 C2 C6 C7
  unfold tCs at C0 C1 C2 C6 C7
  unfold tIss at C1 C2 C3 C4 C6 C7
  unfold tChs at C4
  unfold c_theorbolaw06_HandProves srV tabsV tCs tIss tChs
  cases hv
  case true =>
    clear C1 C2 C3 C4 C6 C7 hl hF h4 hF2 hT hcs
    repeat' (with_reducible first | refine x_ops ?_ | refine wk ?_ | (with_reducible refine xc (C0) ?_) | (with_reducible refine xc (C5) ?_) | ((first | refine gd1 ?_ ?_ | refine gd2 ?_ ?_ | refine gd3 ?_ ?_) <;> (first | exact @False.elim _ | intro hc)))
    all_goals exact finV_dry rfl vv
  by_cases h1000 : 1000 < T.length
  · have c1 : (1000 : Int) < (T.length : Int) := by omega
    clear C1 C2 C3 C4 C6 C7 hl hF h4 hF2 hT hcs h1000
    repeat' (with_reducible first | refine x_ops ?_ | refine wk ?_ | (with_reducible refine xc (C0) ?_) | (with_reducible refine xc (C5) ?_) | ((first | refine gd1 ?_ ?_ | refine gd2 ?_ ?_ | refine gd3 ?_ ?_) <;> (first | exact @False.elim _ | intro hc)))
    all_goals exact finV_dry rfl vv
  have c1 : ¬ (1000 : Int) < (T.length : Int) := by omega
  clear h1000
  repeat' (with_reducible first | refine x_ops ?_ | refine wk ?_ | (with_reducible refine xc (C0) ?_) | (with_reducible refine xc (C1) ?_) | (with_reducible refine xc (C2) ?_) | (with_reducible refine xc (C3) ?_) | (with_reducible refine xc (C4) ?_) | ((first | refine gd1 ?_ ?_ | refine gd2 ?_ ?_ | refine gd3 ?_ ?_) <;> (first | exact @False.elim _ | intro hc)))
  refine x_genM (fun t M => (t 2 = vint cost ∧ t 7 = .ptr 7 0 ∧ t 8 = .sl l.length (l.flatMap Chord.cells) .no ∧ t 61 = .sl 3 [.sl T.length (T.map tIs) .no, .sl O.length (O.map tIs) .no, .sl D.length (D.map tIs) .no] .exact ∧ t 62 = vint 3 ∧ t 63 = vint 0) ∧
    M.obj 7 = some (.box [tIs h.low, tIs h.high, tBs h.barre, vint h.top, vint h.jump, vint h.shift, vint h.lift, vint h.bar, vint h.stretch, vint h.slide] 25) ∧ 7 < M.next) ⟨⟨vv, vv, vv, vv, vv, vv⟩, vv, by show 7 < 10; omega⟩ ?_
  clear C0 C1 C2 C3 C4 c1
  rintro t0 M ⟨⟨a2, a7, a8, a61, a62, a63⟩, ho, hM⟩
  have key : ∀ k : Nat, k < 3 → ∃ X, FitsT X ∧ [V.sl T.length (T.map tIs) .no, .sl O.length (O.map tIs) .no, .sl D.length (D.map tIs) .no][k]? = some (.sl X.length (X.map tIs) .no) := by
    intro k hk
    rcases k with _ | _ | _ | k
    · exact ⟨T, hT, rfl⟩
    · exact ⟨O, hF, rfl⟩
    · exact ⟨D, hF2, rfl⟩
    · omega
  have hlen : [V.sl T.length (T.map tIs) .no, .sl O.length (O.map tIs) .no, .sl D.length (D.map tIs) .no].length = 3 := rfl
  generalize [V.sl T.length (T.map tIs) .no, .sl O.length (O.map tIs) .no, .sl D.length (D.map tIs) .no] = tl at *
  clear hT hF hF2
  refine x_loopF w_theorbolaw06_HandProves_p10 kr 3 (fun k t => t 63 = vint (k : Int)) a63 ?_
  rintro k t hk h63
  by_cases hk3 : k < 3
  · obtain ⟨X, hX, g1⟩ := key k hk3
    have c2 : (k : Int) < 3 := by omega
    have w1 := w_add1 (k := k) (by omega)
    have C1 := C6 X hX
    have C2 := C7 X hX
    generalize pvsR h l X cost = v at *
    obtain ⟨b, e⟩ := v
    dsimp only at C1 C2
    clear key C6 C7 hX
    repeat' (with_reducible first | refine x_ops ?_ | refine wk ?_ | (with_reducible refine xc (C1) ?_) | (with_reducible refine xc (C2) ?_) | ((first | refine gd1 ?_ ?_ | refine gd2 ?_ ?_ | refine gd3 ?_ ?_) <;> (first | exact @False.elim _ | intro hc)))
    exact nf hk3 vv rfl
  · have c2 : ¬ (k : Int) < 3 := by omega
    clear key C6 C7
    repeat' (with_reducible first | refine x_ops ?_ | refine wk ?_ | (with_reducible refine xc (C5) ?_) | ((first | refine gd1 ?_ ?_ | refine gd2 ?_ ?_ | refine gd3 ?_ ?_) <;> (first | exact @False.elim _ | intro hc)))
    all_goals exact finV_dry rfl vv
end Go.Proofs.Ytojjdkoglhecbaa
