/- What a capo makes of an instrument, on lists. -/
import Derived.Test.YtbdhjpdjbogggaaDoorX3
namespace Go.Proofs.YtbdhjpdjbogggaaDoor
open Go.RowKit
set_option linter.unusedSimpArgs false
set_option linter.unusedVariables false

theorem splice_mid (A B : List V) (x v : V) : splice (A ++ x :: B) A.length [v] = A ++ v :: B := by
  unfold splice
  rw [List.take_left, List.append_assoc, show A.length + [v].length = (A ++ [x]).length by simp, show A ++ x :: B = (A ++ [x]) ++ B by simp, List.drop_left]
  rfl
theorem split_at {cs : List Crs} {k : Nat} (h : k < cs.length) : ∃ a b, cs = a ++ cs.getD k default :: b ∧ a.length = k := by
  refine ⟨cs.take k, cs.drop (k + 1), ?_, by rw [List.length_take]; omega⟩
  rw [List.getD_eq_getElem?_getD, List.getElem?_eq_getElem h, Option.getD_some]
  conv => lhs; rw [← List.take_append_drop k cs, List.drop_eq_getElem_cons h]
theorem cells3_mid (a b : List Crs) (c : Crs) : lits (cells3 (a ++ c :: b)) = lits (cells3 a) ++ vint c.p :: vint c.f :: vbool c.o :: lits (cells3 b) := by
  simp [cells3, lits, Crs.cells, vint, vbool]
theorem mid_length (a : List Crs) : (lits (cells3 a)).length = a.length * 3 := by rw [lits_length, cells3_length]
theorem set_mid (a b : List Crs) (c d : Crs) : (a ++ c :: b).set a.length d = a ++ d :: b := by
  rw [List.set_append_right _ _ (Nat.le_refl _), Nat.sub_self, List.set_cons_zero]
theorem splice_p {l : List Crs} {k : Nat} (hk : k < l.length) (x : Int) : splice (lits (cells3 l)) (k * 3) [vint x] = lits (cells3 (l.set k ⟨x, (l.getD k default).f, (l.getD k default).o⟩)) := by
  obtain ⟨a, b, e, rfl⟩ := split_at hk
  generalize l.getD a.length default = c at e ⊢
  rw [e, set_mid, cells3_mid, cells3_mid, ← mid_length, splice_mid]
theorem splice_f {l : List Crs} {k : Nat} (hk : k < l.length) (x : Int) : splice (lits (cells3 l)) (k * 3 + 1) [vint x] = lits (cells3 (l.set k ⟨(l.getD k default).p, x, (l.getD k default).o⟩)) := by
  obtain ⟨a, b, e, rfl⟩ := split_at hk
  generalize l.getD a.length default = c at e ⊢
  rw [e, set_mid, cells3_mid, cells3_mid, ← mid_length, show (lits (cells3 a)).length + 1 = (lits (cells3 a) ++ [vint c.p]).length by simp,
    show lits (cells3 a) ++ vint c.p :: vint c.f :: vbool c.o :: lits (cells3 b) = (lits (cells3 a) ++ [vint c.p]) ++ vint c.f :: vbool c.o :: lits (cells3 b) by simp, splice_mid]
  simp
theorem crs_p {l : List Crs} {k : Nat} (hk : k < l.length) : (lits (cells3 l))[k * 3]? = some (vint (l.getD k default).p) := by rw [lits_get, (cells3_at l k hk).1]; rfl
theorem crs_f {l : List Crs} {k : Nat} (hk : k < l.length) : (lits (cells3 l))[k * 3 + 1]? = some (vint (l.getD k default).f) := by rw [lits_get, (cells3_at l k hk).2.1]; rfl
theorem ints_at {l : List Int} {k : Nat} (hk : k < l.length) : (lits (l.map (Value.int .i64)))[k]? = some (vint (l.getD k 0)) := by
  rw [lits_get, List.getElem?_map, List.getElem?_eq_getElem hk, List.getD_eq_getElem?_getD, List.getElem?_eq_getElem hk]; rfl
theorem crs_len (l : List Crs) : (lits (cells3 l)).length = l.length * 3 := by rw [lits_length, cells3_length]
theorem ints_len (l : List Int) : (lits (l.map (Value.int .i64))).length = l.length := by rw [lits_length, List.length_map]

def capGood (f : Int) (c : Crs) : Bool := c.f == 0 || decide (f ≤ c.f)
def capC (f by_ : Int) (c : Crs) : Crs := if c.f = 0 then c else ⟨IntKind.i64.wrap (c.p + by_), IntKind.i64.wrap (c.f - f), c.o⟩
def capT (f by_ : Int) (cs : List Crs) (k : Nat) : List Crs := (cs.take k).map (capC f by_) ++ cs.drop k
def capS (by_ : Int) (ss : List Int) (F : Nat) : List Int := (ss.drop F).map fun x => IntKind.i64.wrap (x - by_)
def capO (cs : List Crs) (ss : List Int) (f : Int) : List Crs × List Int × Int :=
  if chk cs ss = 0 then
    if f < 0 ∨ (ss.length : Int) < f then ([], [], 13)
    else if f = 0 then (cs, ss, 0)
    else if cs.all (capGood f) = true then (cs.map (capC f (ss.getD (f.toNat - 1) 0)), capS (ss.getD (f.toNat - 1) 0) ss f.toNat, 0)
    else ([], [], 13)
  else ([], [], chk cs ss)
def capV (o : List Crs × List Int × Int) : V := .tup [tIns o.1 o.2.1, vint o.2.2]

section
variable {f b : Int} {cs : List Crs} {k : Nat}
theorem capT_length : (capT f b cs k).length = cs.length := by simp [capT]; omega
theorem capT_zero : capT f b cs 0 = cs := by simp [capT]
theorem capT_all (h : cs.length ≤ k) : capT f b cs k = cs.map (capC f b) := by rw [capT, List.take_of_length_le h, List.drop_of_length_le h, List.append_nil]
theorem capT_at (h : k < cs.length) : (capT f b cs k).getD k default = cs.getD k default := by
  rw [List.getD_eq_getElem?_getD, List.getD_eq_getElem?_getD, capT, List.getElem?_append_right (by simp; omega), List.length_map, List.length_take, Nat.min_eq_left (by omega), Nat.sub_self, List.getElem?_drop, Nat.add_zero]
theorem capT_succ (h : k < cs.length) : (capT f b cs k).set k (capC f b (cs.getD k default)) = capT f b cs (k + 1) := by
  obtain ⟨x, y, e, rfl⟩ := split_at h
  generalize cs.getD x.length default = c at e ⊢
  rw [e, capT, capT, List.take_left, List.drop_left, show x.length = (x.map (capC f b)).length by simp, set_mid]
  rw [show x ++ c :: y = (x ++ [c]) ++ y by simp, show (x.map (capC f b)).length + 1 = (x ++ [c]).length by simp, List.take_left, List.drop_left]
  simp
theorem capT_keep (h : k < cs.length) (hc : (cs.getD k default).f = 0) : capT f b cs (k + 1) = capT f b cs k := by
  rw [← capT_succ h]
  have : capC f b (cs.getD k default) = (capT f b cs k).getD k default := by rw [capT_at h, capC, if_pos hc]
  rw [this, List.getD_eq_getElem?_getD, List.getElem?_eq_getElem (by rw [capT_length]; exact h), Option.getD_some, List.set_getElem_self]
theorem good_succ (h : k < cs.length) : (cs.take (k + 1)).all (capGood f) = ((cs.take k).all (capGood f) && capGood f (cs.getD k default)) := by
  rw [List.take_succ_eq_append_getElem h, List.all_append, List.getD_eq_getElem?_getD, List.getElem?_eq_getElem h]; simp
theorem capS_length {ss : List Int} {F : Nat} : (capS b ss F).length = ss.length - F := by rw [capS, List.length_map, List.length_drop]
theorem capS_step {ss : List Int} {F : Nat} (h : k < ss.length - F) : (capS b ss F).take (k + 1) = (capS b ss F).take k ++ [IntKind.i64.wrap ((ss.drop F).getD k 0 - b)] := by
  have hk : k < (capS b ss F).length := by rw [capS_length]; exact h
  rw [List.take_succ_eq_append_getElem hk]
  congr 2
  simp only [capS, List.getElem_map]
  rw [List.getD_eq_getElem?_getD, List.getElem?_eq_getElem (by rw [List.length_drop]; exact h)]; rfl
end
theorem CopyP.ex (cs : List Crs) (ss : List Int) (m : Mm) : ∃ r m', CopyP cs ss m r m' := by
  refine ⟨_, ⟨fun q => if q = m.next then some (.box (lits (cells3 cs)) 59) else if q = m.next + 1 then some (.box (lits (ss.map (Value.int .i64))) 3) else m.obj q, m.next + 2⟩, m.next, m.next + 1, Nat.le_refl _, by omega, by omega, by show _ < m.next + 2; omega, by show _ < m.next + 2; omega, rfl, fun _ => if_pos rfl, fun _ => ?_, fun q hq => ?_⟩
  · show (if _ then _ else _) = _
    rw [if_neg (by omega), if_pos rfl]
  · show (if _ then _ else _) = _
    rw [if_neg (by omega), if_neg (by omega)]
theorem len_bv (i n : Nat) : pureSem .len [bv i n] = some (vint n) := by
  unfold bv
  split
  · rename_i h; subst h; rfl
  · rfl
theorem pub_ins {n0 i j : Nat} {m : Mm} {cs : List Crs} {ss : List Int} (hi : n0 ≤ i) (hj : n0 ≤ j) (h1 : cs ≠ [] → m.obj i = some (.box (lits (cells3 cs)) 59)) (h2 : ss ≠ [] → m.obj j = some (.box (lits (ss.map (Value.int .i64))) 3)) :
    V.pubM n0 m (.agg [bv i cs.length, bv j ss.length]) = some (tIns cs ss) := by
  rw [V.pubM, V.pubsM, pub_bv hi (fun h => h1 (fun e => h (by rw [e]; rfl))) (clean_crs cs) crs_nil, Option.bind_some, V.pubsM, pub_bv hj (fun h => h2 (fun e => h (by rw [e]; rfl))) (clean_ints ss) ints_nil, V.pubsM]
  rfl
theorem pub_row {n0 i n k : Nat} {m : Mm} {cs : List Crs} {ss : List Int} {t : Tok} (hi : n0 ≤ i) (hn : cs.length = n) (hk : ss.length = k) (h1 : n ≠ 0 → m.obj i = some (.box (lits (cells3 cs)) 59)) :
    V.pubM n0 m (.agg [bv i n, .sl k (lits (ss.map (Value.int .i64))) t]) = some (tIns cs ss) := by
  subst hn
  subst hk
  rw [V.pubM, V.pubsM, pub_bv hi h1 (clean_crs cs) crs_nil, Option.bind_some, V.pubsM, V.pubM, V.pubsM]
  rfl
theorem Ap.put {n0 : Nat} {m : Mm} {t : Tok} {k e s q : Nat} {cs : List V} {ty : TypeId} (h : Ap n0 m t k e s) (hq : m.obj q = some (.box cs ty)) (o : AObj) : Ap n0 (m.put q o) t k e s := by
  rcases h with h | ⟨u, hu, hn, ho⟩
  · exact .inl h
  · refine .inr ⟨u, hu, hn, ?_⟩
    show (if u = q then _ else _) = _
    rw [if_neg]
    · exact ho
    · rintro rfl
      rw [hq] at ho; cases ho
theorem drop_ints (ss : List Int) (F : Nat) : ((lits (ss.map (Value.int .i64))).drop F).take (ss.length - F) = lits ((ss.drop F).map (Value.int .i64)) := by
  rw [List.take_of_length_le (by rw [List.length_drop, ints_len]; exact Nat.le_refl _)]
  simp only [lits, List.map_drop]
end Go.Proofs.YtbdhjpdjbogggaaDoor
