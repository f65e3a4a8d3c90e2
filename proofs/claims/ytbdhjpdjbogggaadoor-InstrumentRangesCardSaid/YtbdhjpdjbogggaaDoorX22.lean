/- Contracts on values: the rank of courses. -/
import Derived.Test.YtbdhjpdjbogggaaDoorX21
namespace Go.Proofs.YtbdhjpdjbogggaaDoor
open Go.RowKit
attribute [local go_sem] vx_skip vx_ret vx_exit vx_seq vx_block vx_scope vx_cond vx_condT vx_condF gR_nil gR_cons VO.stops beq_self_eq_true Bool.false_beq Bool.true_beq Bool.not_true Bool.not_false Bool.false_eq_true if_false exo VI.on if_true exoOp pureSem List.map_cons List.map_nil St.ev initT Option.map_some putT_get putT_none put_obj put_next M0_next freeze_obj freeze_next List.getD_cons_zero List.getD_cons_succ List.getD_nil V.cells rdable Nat.add_assoc Nat.add_zero Nat.add_left_cancel_iff Nat.add_eq_left Nat.left_eq_add decide_true Bool.true_or ite_self onB vbinI vint vbool List.drop_zero List.take_succ_cons List.drop_succ_cons List.take_zero List.length_cons List.length_nil List.getElem?_cons_zero List.getElem?_cons_succ decide_eq_true_eq true_and and_true Nat.le_refl List.zip_cons_cons List.zip_nil_left V.pubs V.pub Option.bind_some List.all_cons List.all_nil V.one Bool.and_self List.cons_append List.nil_append then_nrm then_ret then_exit inB_nrm inB_ret inB_exit Int.toNat_natCast Int.natCast_nonneg eq_self Nat.zero_add Nat.mul_one
set_option linter.unusedSimpArgs false
set_option linter.unusedVariables false

theorem call83 : callable Tryd.prog 83 = true := by kernel_rfl
/-- How the closure compares two courses. -/
theorem rankcmp_sfn (cs : List Crs) (ss : List Int) (h0 : chk cs ss = 0) {a b : Int} (ha : 1 ≤ a ∧ a ≤ cs.length) (hb : 1 ≤ b ∧ b ≤ cs.length) {B : Nat} {m : Mm} (hB : m.obj B = some (.box [tCrs cs, tInts ss] 39)) (hBn : B < m.next) :
    SFn Tryd.prog Gd 83 [vint a, vint b, .ptr B 0] m fun r m' => r = vint (pch cs b - pch cs a) ∧ m' = m := by
  refine SFn.of_vxS k_instrument_Rank_1 (by simp) ?_
  unfold c_instrument_Rank_1
  have hsm := chk_small h0
  have hwa : IntKind.i64.wrap (a - 1) = ((a.toNat - 1 : Nat) : Int) := by rw [IntWalk.i64_in _ (by omega)]; omega
  have hwb : IntKind.i64.wrap (b - 1) = ((b.toNat - 1 : Nat) : Int) := by rw [IntWalk.i64_in _ (by omega)]; omega
  have la : ((a.toNat - 1 : Nat) : Int) < cs.length := by omega
  have lb : ((b.toNat - 1 : Nat) : Int) < cs.length := by omega
  have lC := crs_len cs
  have ga := crs_p (l := cs) (k := a.toNat - 1) (by omega)
  have gb := crs_p (l := cs) (k := b.toNat - 1) (by omega)
  have pa := pitch_at h0 (k := a.toNat - 1) (by omega)
  have pb := pitch_at h0 (k := b.toNat - 1) (by omega)
  have hw : IntKind.i64.wrap ((cs.getD (b.toNat - 1) default).p - (cs.getD (a.toNat - 1) default).p) = (cs.getD (b.toNat - 1) default).p - (cs.getD (a.toNat - 1) default).p := IntWalk.i64_in _ (by omega)
  simp only [vint] at ga gb
  repeat (first | with_reducible refine x_ops ?_ | (simp only [go_sem, Nat.reduceAdd, Nat.reduceEqDiff, Nat.reduceLT, Nat.reduceLeDiff, Nat.reduceMul, Nat.reduceSub, reduceIte, splice, vfill, hB, hBn, tCrs, hwa, hwb, la, lb, lC, ga, gb, hw]))
  exact finS_ret (r := _) (by (simp only [go_sem, Nat.reduceAdd, Nat.reduceEqDiff, Nat.reduceLT, Nat.reduceLeDiff, Nat.reduceMul, Nat.reduceSub, reduceIte, resV, resAll, resOne, oneOr]); try rfl) ⟨rfl, rfl⟩

/-- The numbers from k + 1 to n. -/
def upN (k n : Nat) : List Int := (List.range' (k + 1) (n - k)).map fun (x : Nat) => (x : Int)
theorem upN_cons {k n : Nat} (h : k < n) : upN k n = ((k : Int) + 1) :: upN (k + 1) n := by
  unfold upN
  rw [show n - k = (n - (k + 1)) + 1 by omega, List.range'_succ]
  rfl
theorem upN_length (k n : Nat) : (upN k n).length = n - k := by simp [upN]
theorem upN_nil (n : Nat) : upN n n = [] := by simp [upN]
theorem ints_mid (x y : List Int) (a : Int) : lits ((x ++ a :: y).map (Value.int .i64)) = lits (x.map (Value.int .i64)) ++ vint a :: lits (y.map (Value.int .i64)) := by simp [lits, vint]
theorem ints_get {x y : List Int} {a : Int} {k : Nat} (h : x.length = k) : (lits ((x ++ a :: y).map (Value.int .i64)))[k]? = some (vint a) := by
  subst h
  rw [ints_mid, List.getElem?_append_right (by rw [ints_len]; exact Nat.le_refl _), ints_len, Nat.sub_self]; rfl
theorem ints_set {x y : List Int} {a b : Int} {k : Nat} (h : x.length = k) : splice (lits ((x ++ a :: y).map (Value.int .i64))) k [vint b] = lits ((x ++ b :: y).map (Value.int .i64)) := by
  subst h
  have e : x.length = (lits (x.map (Value.int .i64))).length := (ints_len x).symm
  rw [ints_mid, ints_mid]
  conv => lhs; rw [e]
  rw [splice_mid]

def InsO (cs : List Crs) (i B : Nat) (m : Mm) (s : St) : Prop := ∃ (k : Nat) (l : List Int), 1 ≤ k ∧ k ≤ cs.length ∧ s.t 8 = vint k ∧ s.t 0 = .bsl i 0 cs.length cs.length ∧ s.t 1 = vint 0 ∧ s.t 2 = vint cs.length ∧ s.t 3 = .fn 83 [.ptr B 0] ∧
  s.m.obj i = some (.box (lits ((l ++ upN k cs.length).map (Value.int .i64))) 3) ∧ Ranked cs k l ∧ s.m.next = m.next ∧ ∀ q, q ≠ i → s.m.obj q = m.obj q
def InsN (cs : List Crs) (i B k : Nat) (m : Mm) (s : St) : Prop := ∃ x y : List Int, Ranked cs k (x ++ y) ∧ (∀ a ∈ y, pch cs a < pch cs ((k : Int) + 1)) ∧ s.t 9 = vint x.length ∧ s.t 8 = vint k ∧ s.t 0 = .bsl i 0 cs.length cs.length ∧ s.t 1 = vint 0 ∧ s.t 2 = vint cs.length ∧ s.t 3 = .fn 83 [.ptr B 0] ∧
  s.m.obj i = some (.box (lits ((x ++ ((k : Int) + 1) :: (y ++ upN (k + 1) cs.length)).map (Value.int .i64))) 3) ∧ s.m.next = m.next ∧ ∀ q, q ≠ i → s.m.obj q = m.obj q
/-- What sorting leaves. -/
def SortP (cs : List Crs) (i : Nat) (m m' : Mm) : Prop := ∃ l, Ranked cs cs.length l ∧ m'.obj i = some (.box (lits (l.map (Value.int .i64))) 3) ∧ m'.next = m.next ∧ ∀ q, q ≠ i → m'.obj q = m.obj q
theorem insert_sfn (cs : List Crs) (ss : List Int) (h0 : chk cs ss = 0) {i B : Nat} {m : Mm} (hi : m.obj i = some (.box (lits ((upN 0 cs.length).map (Value.int .i64))) 3)) (hin : i < m.next) (hB : m.obj B = some (.box [tCrs cs, tInts ss] 39)) (hBn : B < m.next) (hiB : B ≠ i) :
    SFn Tryd.prog Gd 105 [.bsl i 0 cs.length cs.length, vint 0, vint cs.length, .fn 83 [.ptr B 0]] m fun _ m' => SortP cs i m m' := by
  refine SFn.of_vxS k_slices_insertionSortCmpFunc_int (by simp) ?_
  unfold c_slices_insertionSortCmpFunc_int
  have hsm := chk_small h0
  have hne := chk_ne h0
  have hn0 : cs.length ≠ 0 := fun e => hne (List.eq_nil_of_length_eq_zero e)
  have w01 : IntKind.i64.wrap (0 + 1) = 1 := rfl
  have hR1 : Ranked cs 1 [1] := ⟨rfl, by simp, fun a => by rw [List.mem_singleton]; omega⟩
  have hup := upN_cons (k := 0) (n := cs.length) (by omega)
  rw [hup] at hi
  repeat (first | with_reducible refine x_ops ?_ | (simp only [go_sem, Nat.reduceAdd, Nat.reduceEqDiff, Nat.reduceLT, Nat.reduceLeDiff, Nat.reduceMul, Nat.reduceSub, reduceIte, splice, vfill, w01]))
  refine x_loop (InsO cs i B m) (fun s => cs.length - numOf (s.t 8)) ⟨1, [1], Nat.le_refl _, by omega, rfl, rfl, rfl, rfl, rfl, hi, hR1, rfl, fun _ _ => rfl⟩ ?_
  rintro s ⟨k, l, hk1, hk, h8, h0', h1, h2, h3, oI, hR, hn, ho⟩
  by_cases hlt : k < cs.length
  · have d3 : decide ((k : Int) < (cs.length : Int)) = true := by simp; omega
    have hwk : IntKind.i64.wrap ((k : Int) + 1) = ((k + 1 : Nat) : Int) := by rw [IntWalk.i64_in _ (by omega)]; omega
    rw [upN_cons hlt] at oI
    repeat (first | with_reducible refine x_ops ?_ | (simp only [go_sem, Nat.reduceAdd, Nat.reduceEqDiff, Nat.reduceLT, Nat.reduceLeDiff, Nat.reduceMul, Nat.reduceSub, reduceIte, splice, vfill, h8, h2, d3]))
    refine x_loop (InsN cs i B k m) (fun s => numOf (s.t 9)) ?_ ?_
    · exact ⟨l, [], by rw [List.append_nil]; exact hR, fun a ha => by (cases ha), by (simp only [go_sem, reduceIte, Nat.reduceEqDiff, V.norms, V.norm]; rw [hR.1]), h8, h0', h1, h2, h3, oI, hn, ho⟩
    · rintro s' ⟨x, y, hR, hy, h9, h8, h0', h1, h2, h3, oI, hn, ho⟩
      have hin' : i < s'.m.next := by omega
      have hB' : s'.m.obj B = some (.box [tCrs cs, tInts ss] 39) := (ho B hiB).trans hB
      have hBn' : B < s'.m.next := by omega
      rcases List.eq_nil_or_concat x with rfl | ⟨z, a, rfl⟩
      · have d4 : decide (((0 : Nat) : Int) > 0) = false := rfl
        rw [List.length_nil] at h9
        repeat (first | with_reducible refine x_ops ?_ | (simp only [go_sem, Nat.reduceAdd, Nat.reduceEqDiff, Nat.reduceLT, Nat.reduceLeDiff, Nat.reduceMul, Nat.reduceSub, reduceIte, splice, vfill, h9, h1, d4]))
        refine x_off rfl ?_
        repeat (first | with_reducible refine x_ops ?_ | (simp only [go_sem, Nat.reduceAdd, Nat.reduceEqDiff, Nat.reduceLT, Nat.reduceLeDiff, Nat.reduceMul, Nat.reduceSub, reduceIte, splice, vfill, h8, hwk]))
        refine ⟨⟨k + 1, (((k : Int) + 1) :: y), by omega, hlt, rfl, h0', h1, h2, h3, oI, hR.put hy (.inl rfl), hn, ho⟩, ?_⟩
        simp only [numOf, vint, putT_get, reduceIte, Nat.reduceEqDiff, Int.toNat_natCast, h8]; omega
      · rw [List.concat_eq_append] at hR h9 oI
        have hxl : (z ++ [a]).length = z.length + 1 := by simp
        have hz : z.length < k := by have := hR.1; simp at this; omega
        have d4 : decide (((z.length + 1 : Nat) : Int) > 0) = true := by simp; try omega
        have hwz : IntKind.i64.wrap (((z.length + 1 : Nat) : Int) - 1) = ((z.length : Nat) : Int) := by rw [IntWalk.i64_in _ (by omega)]; omega
        have l1 : ((z.length + 1 : Nat) : Int) < cs.length := by omega
        have l2 : ((z.length : Nat) : Int) < cs.length := by omega
        have q1 := ints_get (x := z ++ [a]) (y := y ++ upN (k + 1) cs.length) (a := (k : Int) + 1) (k := z.length + 1) hxl
        have q2 := ints_get (x := z) (y := ((k : Int) + 1) :: (y ++ upN (k + 1) cs.length)) (a := a) rfl
        have q3 := ints_set (x := z ++ [a]) (y := y ++ upN (k + 1) cs.length) (a := (k : Int) + 1) (b := a) (k := z.length + 1) hxl
        have q4 := ints_set (x := z) (y := a :: (y ++ upN (k + 1) cs.length)) (a := a) (b := (k : Int) + 1) rfl
        rw [hxl] at h9
        have oI0 := oI
        have hyl : z.length + 1 + y.length = k := by have := hR.1; simp at this; omega
        have la : 1 ≤ a ∧ a ≤ cs.length := by
          have := (hR.2.2 a).1 (by simp)
          omega
        have lk : 1 ≤ (k : Int) + 1 ∧ (k : Int) + 1 ≤ cs.length := by omega
        have m0 : (lits ((z ++ a :: ((k : Int) + 1) :: (y ++ upN (k + 1) cs.length)).map (Value.int .i64))).length = cs.length := by
          rw [ints_len]; simp [upN_length]; omega
        have m1 : (lits ((z ++ a :: a :: (y ++ upN (k + 1) cs.length)).map (Value.int .i64))).length = cs.length := by
          rw [ints_len]; simp [upN_length]; omega
        simp only [List.append_assoc, List.singleton_append, List.cons_append, List.nil_append] at q1 q2 q3 q4 oI
        generalize lits ((z ++ a :: ((k : Int) + 1) :: (y ++ upN (k + 1) cs.length)).map (Value.int .i64)) = C0 at q1 q2 q3 m0 oI
        generalize lits ((z ++ a :: a :: (y ++ upN (k + 1) cs.length)).map (Value.int .i64)) = C1 at q3 q4 m1
        simp only [vint] at q1 q2 q3 q4
        have b1 : z.length + 1 + 1 ≤ cs.length := by omega
        have b2 : z.length + 1 ≤ cs.length := by omega
        by_cases hc : pch cs a < pch cs ((k : Int) + 1)
        · have d5 : decide (pch cs a - pch cs ((k : Int) + 1) < 0) = true := by simp; omega
          repeat (first | with_reducible refine x_ops ?_ | (simp only [go_sem, Nat.reduceAdd, Nat.reduceEqDiff, Nat.reduceLT, Nat.reduceLeDiff, Nat.reduceMul, Nat.reduceSub, reduceIte, h9, h1, d4, h3, h0', oI, hin', q1, q2, hwz, l1, l2]))
          refine x_on rfl ?_
          refine x_callv (f := 83) (cs := [.ptr B 0]) (Post := fun r m' => r = vint (pch cs a - pch cs ((k : Int) + 1)) ∧ m' = ⟨s'.m.obj, s'.m.next⟩) (by (simp only [go_sem, reduceIte, Nat.reduceEqDiff, V.norms, V.norm]); try rfl) call83 ?_ ⟨_, _, rfl, rfl⟩ ?_
          · simp only [go_sem, reduceIte, Nat.reduceEqDiff, V.norms, V.norm]
            exact rankcmp_sfn cs ss h0 lk la (m := ⟨s'.m.obj, s'.m.next⟩) hB' hBn'
          rintro r m' ⟨rfl, rfl⟩
          repeat (first | with_reducible refine x_ops ?_ | (simp only [go_sem, Nat.reduceAdd, Nat.reduceEqDiff, Nat.reduceLT, Nat.reduceLeDiff, Nat.reduceMul, Nat.reduceSub, reduceIte, h9, h1, d5, h0', oI, hin', q1, q2, q3, q4, m0, m1, b1, b2, hwz, l1, l2]))
          refine ⟨⟨z, a :: y, ?_, ?_, rfl, h8, h0', h1, h2, h3, ?_, hn, fun q hq => ?_⟩, ?_⟩
          · rw [List.append_assoc] at hR; exact hR
          · intro b hb
            rcases List.mem_cons.1 hb with rfl | hb
            · exact hc
            · exact hy b hb
          · simp only [put_obj, put_next, M0_next, freeze_obj, freeze_next, Nat.add_zero, Nat.zero_add, Nat.add_assoc, Nat.add_left_cancel_iff, Nat.add_eq_left, Nat.left_eq_add, decide_eq_true_eq, List.nil_append, List.append_nil, Nat.reduceAdd, Nat.reduceEqDiff, Nat.reduceLeDiff, Nat.reduceLT, reduceIte]; try rfl
          · simp only [put_obj, put_next, M0_next, freeze_obj, freeze_next, Nat.add_zero, Nat.zero_add, Nat.add_assoc, Nat.add_left_cancel_iff, Nat.add_eq_left, Nat.left_eq_add, decide_eq_true_eq, List.nil_append, List.append_nil, Nat.reduceAdd, Nat.reduceEqDiff, Nat.reduceLeDiff, Nat.reduceLT, reduceIte]
            repeat rw [if_neg hq]
            exact ho q hq
          · simp only [numOf, vint, putT_get, reduceIte, Nat.reduceEqDiff, Int.toNat_natCast, h9]; omega
        · have d5 : decide (pch cs a - pch cs ((k : Int) + 1) < 0) = false := by simp; omega
          repeat (first | with_reducible refine x_ops ?_ | (simp only [go_sem, Nat.reduceAdd, Nat.reduceEqDiff, Nat.reduceLT, Nat.reduceLeDiff, Nat.reduceMul, Nat.reduceSub, reduceIte, h9, h1, d4, h3, h0', oI, hin', q1, q2, hwz, l1, l2]))
          refine x_on rfl ?_
          refine x_callv (f := 83) (cs := [.ptr B 0]) (Post := fun r m' => r = vint (pch cs a - pch cs ((k : Int) + 1)) ∧ m' = ⟨s'.m.obj, s'.m.next⟩) (by (simp only [go_sem, reduceIte, Nat.reduceEqDiff, V.norms, V.norm]); try rfl) call83 ?_ ⟨_, _, rfl, rfl⟩ ?_
          · simp only [go_sem, reduceIte, Nat.reduceEqDiff, V.norms, V.norm]
            exact rankcmp_sfn cs ss h0 lk la (m := ⟨s'.m.obj, s'.m.next⟩) hB' hBn'
          rintro r m' ⟨rfl, rfl⟩
          repeat (first | with_reducible refine x_ops ?_ | (simp only [go_sem, Nat.reduceAdd, Nat.reduceEqDiff, Nat.reduceLT, Nat.reduceLeDiff, Nat.reduceMul, Nat.reduceSub, reduceIte, d5, h8, hwk]))
          refine ⟨⟨k + 1, ((z ++ [a]) ++ ((k : Int) + 1) :: y), by omega, hlt, rfl, h0', h1, h2, h3, ?_, hR.put hy (.inr ⟨z, a, rfl, by omega⟩), hn, ho⟩, ?_⟩
          · simpa only [List.append_assoc, List.cons_append, List.nil_append] using oI0
          · simp only [numOf, vint, putT_get, reduceIte, Nat.reduceEqDiff, Int.toNat_natCast, h8]; omega
  · have d3 : decide ((k : Int) < (cs.length : Int)) = false := by simp; omega
    have hke : k = cs.length := by omega
    subst hke
    rw [upN_nil, List.append_nil] at oI
    repeat (first | with_reducible refine x_ops ?_ | (simp only [go_sem, Nat.reduceAdd, Nat.reduceEqDiff, Nat.reduceLT, Nat.reduceLeDiff, Nat.reduceMul, Nat.reduceSub, reduceIte, splice, vfill, h8, h2, d3]))
    exact ⟨.inl rfl, _, rfl, l, hR, oI, hn, ho⟩
theorem cutR (P : Int → Prop) (hd : ∀ a, Decidable (P a)) : ∀ (n : Nat) (l : List Int), l.length = n → ∃ x y : List Int, l = x ++ y ∧ (∀ a ∈ y, P a) ∧ (x = [] ∨ ∃ z b, x = z ++ [b] ∧ ¬ P b)
  | 0, l, h => ⟨[], [], by rw [List.eq_nil_of_length_eq_zero h]; rfl, (fun a ha => by cases ha), .inl rfl⟩
  | n + 1, l, h => by
    rcases List.eq_nil_or_concat l with rfl | ⟨z, b, rfl⟩
    · simp at h
    · rw [List.concat_eq_append] at h ⊢
      rcases hd b with hb | hb
      · exact ⟨z ++ [b], [], by simp, (fun a ha => by cases ha), .inr ⟨z, b, rfl, hb⟩⟩
      · obtain ⟨x, y, e, h1, h2⟩ := cutR P hd n z (by simp at h; exact h)
        refine ⟨x, y ++ [b], by rw [e, List.append_assoc], fun a ha => ?_, h2⟩
        rcases List.mem_append.1 ha with ha | ha
        · exact h1 a ha
        · rw [List.mem_singleton] at ha; subst ha; exact hb
theorem Ranked.ex (cs : List Crs) : ∀ k, ∃ l, Ranked cs k l
  | 0 => ⟨[], rfl, List.Pairwise.nil, fun a => by simp; omega⟩
  | k + 1 => by
    obtain ⟨l, hl⟩ := Ranked.ex cs k
    obtain ⟨x, y, rfl, h1, h2⟩ := cutR (fun a => pch cs a < pch cs ((k : Int) + 1)) (fun _ => inferInstance) _ l rfl
    refine ⟨_, hl.put h1 ?_⟩
    rcases h2 with h2 | ⟨z, b, e, hb⟩
    · exact .inl h2
    · exact .inr ⟨z, b, e, by omega⟩
theorem SortP.ex (cs : List Crs) (i : Nat) (m : Mm) : ∃ m', SortP cs i m m' := by
  obtain ⟨l, hl⟩ := Ranked.ex cs cs.length
  exact ⟨m.put i (.box (lits (l.map (Value.int .i64))) 3), l, hl, if_pos rfl, rfl, fun q hq => if_neg hq⟩
def StI (n : Nat) (i B : Nat) (m : Mm) (s : St) : Prop := s.t 8 = vint 20 ∧ s.t 6 = vint 20 ∧ s.t 7 = vint 0 ∧ s.t 0 = .bsl i 0 n n ∧ s.t 1 = vint n ∧ s.t 2 = .fn 83 [.ptr B 0] ∧ s.m.obj = m.obj ∧ s.m.next = m.next
def StJ (cs : List Crs) (i : Nat) (m : Mm) (s : St) : Prop := s.t 6 = vint 20 ∧ s.t 1 = vint cs.length ∧ SortP cs i m s.m
theorem stable_sfn (cs : List Crs) (ss : List Int) (h0 : chk cs ss = 0) {i B : Nat} {m : Mm} (hi : m.obj i = some (.box (lits ((upN 0 cs.length).map (Value.int .i64))) 3)) (hin : i < m.next) (hB : m.obj B = some (.box [tCrs cs, tInts ss] 39)) (hBn : B < m.next) (hiB : B ≠ i) :
    SFn Tryd.prog Gd 96 [.bsl i 0 cs.length cs.length, vint cs.length, .fn 83 [.ptr B 0]] m fun _ m' => SortP cs i m m' := by
  refine SFn.of_vxS k_slices_stableCmpFunc_int (by simp) ?_
  unfold c_slices_stableCmpFunc_int
  have hsm := chk_small h0
  repeat (first | with_reducible refine x_ops ?_ | (simp only [go_sem, Nat.reduceAdd, Nat.reduceEqDiff, Nat.reduceLT, Nat.reduceLeDiff, Nat.reduceMul, Nat.reduceSub, reduceIte, splice, vfill]))
  refine x_loop (StI cs.length i B m) (fun _ => 0) ⟨rfl, rfl, rfl, rfl, rfl, rfl, rfl, rfl⟩ ?_
  rintro s ⟨h8, h6, h7, h0', h1, h2, ho, hn⟩
  have d3 : decide ((20 : Int) ≤ cs.length) = false := by simp; omega
  have d4 : decide ((20 : Int) < cs.length) = false := by simp; omega
  have em : (⟨s.m.obj, s.m.next⟩ : Mm) = m := by rw [ho, hn]
  repeat (first | with_reducible refine x_ops ?_ | (simp only [go_sem, Nat.reduceAdd, Nat.reduceEqDiff, Nat.reduceLT, Nat.reduceLeDiff, Nat.reduceMul, Nat.reduceSub, reduceIte, splice, vfill, h8, h1, d3, h0', h7, h2]))
  refine x_scall (insert_sfn cs ss h0 (i := i) (B := B) (m := ⟨s.m.obj, s.m.next⟩) (by show s.m.obj i = _; rw [ho]; exact hi) (by show i < s.m.next; rw [hn]; exact hin) (by show s.m.obj B = _; rw [ho]; exact hB) (by show B < s.m.next; rw [hn]; exact hBn) hiB) (by (simp only [go_sem, reduceIte, Nat.reduceEqDiff, V.norms, V.norm]); try rfl) (by obtain ⟨m', hm'⟩ := SortP.ex cs i ⟨s.m.obj, s.m.next⟩; exact ⟨.lit (.bool true), m', hm'⟩) ?_
  intro r m' hS
  rw [em] at hS
  repeat (first | with_reducible refine x_ops ?_ | (simp only [go_sem, Nat.reduceAdd, Nat.reduceEqDiff, Nat.reduceLT, Nat.reduceLeDiff, Nat.reduceMul, Nat.reduceSub, reduceIte, splice, vfill]))
  refine x_loop (StJ cs i m) (fun _ => 0) ⟨h6, h1, hS⟩ ?_
  rintro s' ⟨h6, h1, hS⟩
  repeat (first | with_reducible refine x_ops ?_ | (simp only [go_sem, Nat.reduceAdd, Nat.reduceEqDiff, Nat.reduceLT, Nat.reduceLeDiff, Nat.reduceMul, Nat.reduceSub, reduceIte, splice, vfill, h6, h1, d4]))
  exact ⟨.inl rfl, _, rfl, hS⟩
theorem sort_sfn (cs : List Crs) (ss : List Int) (h0 : chk cs ss = 0) {i B : Nat} {m : Mm} (hi : m.obj i = some (.box (lits ((upN 0 cs.length).map (Value.int .i64))) 3)) (hin : i < m.next) (hB : m.obj B = some (.box [tCrs cs, tInts ss] 39)) (hBn : B < m.next) (hiB : B ≠ i) :
    SFn Tryd.prog Gd 82 [.bsl i 0 cs.length cs.length, .fn 83 [.ptr B 0]] m fun _ m' => SortP cs i m m' := by
  refine SFn.of_vxS k_slices_SortStableFunc_int_int (by simp) ?_
  unfold c_slices_SortStableFunc_int_int
  repeat (first | with_reducible refine x_ops ?_ | (simp only [go_sem, Nat.reduceAdd, Nat.reduceEqDiff, Nat.reduceLT, Nat.reduceLeDiff, Nat.reduceMul, Nat.reduceSub, reduceIte, splice, vfill]))
  refine x_scall (stable_sfn cs ss h0 (i := i) (B := B) (m := m) hi hin hB hBn hiB) (by (simp only [go_sem, reduceIte, Nat.reduceEqDiff, V.norms, V.norm]); try rfl) (by obtain ⟨m', hm'⟩ := SortP.ex cs i m; exact ⟨.lit (.bool true), m', hm'⟩) ?_
  intro r m' hS
  repeat (first | with_reducible refine x_ops ?_ | (simp only [go_sem, Nat.reduceAdd, Nat.reduceEqDiff, Nat.reduceLT, Nat.reduceLeDiff, Nat.reduceMul, Nat.reduceSub, reduceIte, splice, vfill]))
  exact ⟨.inl rfl, _, rfl, hS⟩

theorem upN_snoc (k : Nat) : upN 0 (k + 1) = upN 0 k ++ [(k : Int) + 1] := by
  unfold upN
  rw [Nat.sub_zero, Nat.sub_zero, List.range'_concat]
  simp; omega
theorem zeros_lits (n : Nat) : List.flatten (List.replicate n [V.lit (.int .i64 0)]) = lits ((upN 0 0 ++ List.replicate (n - 0) 0).map (Value.int .i64)) := by
  rw [upN_nil, List.nil_append, Nat.sub_zero]
  induction n with
  | zero => rfl
  | succ n ih => rw [List.replicate_succ, List.replicate_succ, List.flatten_cons, ih]; rfl
def RkI (cs : List Crs) (ss : List Int) (s : St) : Prop := ∃ k : Nat, k ≤ cs.length ∧ s.t 18 = vint k ∧ s.t 17 = vint cs.length ∧ s.t 5 = .bsl 6 0 cs.length cs.length ∧ s.t 1 = .ptr 0 0 ∧ s.m.obj 0 = some (.box [tCrs cs, tInts ss] 39) ∧
  s.m.obj 6 = some (.box (lits ((upN 0 k ++ List.replicate (cs.length - k) 0).map (Value.int .i64))) 3) ∧ s.m.next = 8
def rankV (cs : List Crs) (ss : List Int) : V := if chk cs ss = 0 then .tup [tInts (rkTo cs 128), vint 0] else .tup [.sl 0 [] .no, vint (chk cs ss)]
theorem rank_fn (cs : List Crs) (ss : List Int) : Fn Tryd.prog Gd 51 [tIns cs ss] (rankV cs ss) := by
  refine Fn.of_vx0 k_instrument_Rank (by simp) (pures1 (pures_tIns cs ss)) ?_
  unfold c_instrument_Rank tIns
  repeat (first | with_reducible refine x_ops ?_ | (simp only [go_sem, Nat.reduceAdd, Nat.reduceEqDiff, Nat.reduceLT, Nat.reduceLeDiff, Nat.reduceMul, Nat.reduceSub, reduceIte, splice, vfill]))
  refine x_call none (check_fn cs ss) (by (simp only [go_sem, reduceIte, Nat.reduceEqDiff, V.norms, V.norm]); rfl) ?_
  repeat (first | with_reducible refine x_ops ?_ | (simp only [go_sem, Nat.reduceAdd, Nat.reduceEqDiff, Nat.reduceLT, Nat.reduceLeDiff, Nat.reduceMul, Nat.reduceSub, reduceIte, splice, vfill]))
  refine x_if (fun ht => ?_) (fun ht => ?_)
  · repeat (first | with_reducible refine x_ops ?_ | (simp only [go_sem, Nat.reduceAdd, Nat.reduceEqDiff, Nat.reduceLT, Nat.reduceLeDiff, Nat.reduceMul, Nat.reduceSub, reduceIte, splice, vfill]))
    have h0 : chk cs ss ≠ 0 := by simpa using ht
    rw [rankV, if_neg h0]
    exact finV_ret (r' := _) (by (simp only [go_sem, Nat.reduceAdd, Nat.reduceEqDiff, Nat.reduceLT, Nat.reduceLeDiff, Nat.reduceMul, Nat.reduceSub, reduceIte, resV, resAll, resOne, oneOr]); try rfl) (vw_pair (.sl _ _ _))
  · have h0 : chk cs ss = 0 := by simpa using ht
    rw [rankV, if_pos h0]
    have hsm := chk_small h0
    have b1 : (cs.length : Int) * ((8 : Nat) : Int) ≤ 140737488355328 := by omega
    have b2 : (cs.length : Int) ≤ 140737488355328 := by omega
    have b3 : (cs.length : Int) ≤ (cs.length : Int) := Int.le_refl _
    repeat (first | with_reducible refine x_ops ?_ | (simp only [go_sem, Nat.reduceAdd, Nat.reduceEqDiff, Nat.reduceLT, Nat.reduceLeDiff, Nat.reduceMul, Nat.reduceSub, reduceIte, splice, vfill, tCrs, b1, b2, Int.le_refl, zeros_lits]))
    refine x_loop (RkI cs ss) (fun s => cs.length - numOf (s.t 18)) ?_ ?_
    · refine ⟨0, Nat.zero_le _, rfl, rfl, rfl, rfl, ?_, ?_, ?_⟩
      · simp only [put_obj, put_next, M0_next, freeze_obj, freeze_next, Nat.add_zero, Nat.zero_add, Nat.add_assoc, Nat.add_left_cancel_iff, Nat.add_eq_left, Nat.left_eq_add, decide_eq_true_eq, List.nil_append, List.append_nil, Nat.reduceAdd, Nat.reduceEqDiff, Nat.reduceLeDiff, Nat.reduceLT, reduceIte]; try rfl
      · simp only [put_obj, put_next, M0_next, freeze_obj, freeze_next, Nat.add_zero, Nat.zero_add, Nat.add_assoc, Nat.add_left_cancel_iff, Nat.add_eq_left, Nat.left_eq_add, decide_eq_true_eq, List.nil_append, List.append_nil, Nat.reduceAdd, Nat.reduceEqDiff, Nat.reduceLeDiff, Nat.reduceLT, reduceIte]; try rfl
      · simp only [put_obj, put_next, M0_next, freeze_obj, freeze_next, Nat.add_zero, Nat.zero_add, Nat.add_assoc, Nat.add_left_cancel_iff, Nat.add_eq_left, Nat.left_eq_add, decide_eq_true_eq, List.nil_append, List.append_nil, Nat.reduceAdd, Nat.reduceEqDiff, Nat.reduceLeDiff, Nat.reduceLT, reduceIte]; try rfl
    · rintro s ⟨k, hk, h18, h17, h5, h1, o0, o6, hn⟩
      by_cases hlt : k < cs.length
      · have d3 : decide ((k : Int) < (cs.length : Int)) = true := by simp; omega
        have hw1 : IntKind.i64.wrap ((k : Int) + 1) = (k : Int) + 1 := by rw [IntWalk.i64_in _ (by omega)]
        have hlti : (k : Int) < cs.length := by omega
        have q := ints_set (x := upN 0 k) (y := List.replicate (cs.length - (k + 1)) 0) (a := 0) (b := (k : Int) + 1) (k := k) (by simp [upN_length])
        have e1 : upN 0 k ++ List.replicate (cs.length - k) 0 = upN 0 k ++ 0 :: List.replicate (cs.length - (k + 1)) 0 := by
          rw [show cs.length - k = (cs.length - (k + 1)) + 1 by omega, List.replicate_succ]
        have e2 : upN 0 k ++ ((k : Int) + 1) :: List.replicate (cs.length - (k + 1)) 0 = upN 0 (k + 1) ++ List.replicate (cs.length - (k + 1)) 0 := by
          rw [upN_snoc, List.append_assoc]; rfl
        rw [e2] at q
        rw [e1] at o6
        have lq : (lits ((upN 0 k ++ 0 :: List.replicate (cs.length - (k + 1)) 0).map (Value.int .i64))).length = cs.length := by
          rw [ints_len]; simp [upN_length]; omega
        have bk : k + 1 ≤ cs.length := hlt
        simp only [vint] at q
        generalize lits ((upN 0 k ++ 0 :: List.replicate (cs.length - (k + 1)) 0).map (Value.int .i64)) = C0 at q o6 lq
        repeat (first | with_reducible refine x_ops ?_ | (simp only [go_sem, Nat.reduceAdd, Nat.reduceEqDiff, Nat.reduceLT, Nat.reduceLeDiff, Nat.reduceMul, Nat.reduceSub, reduceIte, h18, h17, d3, h5, hlti, o6, hw1, q, lq, bk, hn]))
        refine ⟨⟨k + 1, hlt, rfl, h17, h5, h1, ?_, ?_, ?_⟩, ?_⟩
        · simp only [put_obj, put_next, M0_next, freeze_obj, freeze_next, Nat.add_zero, Nat.zero_add, Nat.add_assoc, Nat.add_left_cancel_iff, Nat.add_eq_left, Nat.left_eq_add, decide_eq_true_eq, List.nil_append, List.append_nil, Nat.reduceAdd, Nat.reduceEqDiff, Nat.reduceLeDiff, Nat.reduceLT, reduceIte]; first | exact o0 | skip
        · simp only [put_obj, put_next, M0_next, freeze_obj, freeze_next, Nat.add_zero, Nat.zero_add, Nat.add_assoc, Nat.add_left_cancel_iff, Nat.add_eq_left, Nat.left_eq_add, decide_eq_true_eq, List.nil_append, List.append_nil, Nat.reduceAdd, Nat.reduceEqDiff, Nat.reduceLeDiff, Nat.reduceLT, reduceIte]; try rfl
        · simp only [put_obj, put_next, M0_next, freeze_obj, freeze_next, Nat.add_zero, Nat.zero_add, Nat.add_assoc, Nat.add_left_cancel_iff, Nat.add_eq_left, Nat.left_eq_add, decide_eq_true_eq, List.nil_append, List.append_nil, Nat.reduceAdd, Nat.reduceEqDiff, Nat.reduceLeDiff, Nat.reduceLT, reduceIte]; first | exact hn | skip
        · simp [numOf]; omega
      · have d3 : decide ((k : Int) < (cs.length : Int)) = false := by simp; omega
        have hke : k = cs.length := by omega
        subst hke
        rw [Nat.sub_self, List.replicate_zero, List.append_nil] at o6
        repeat (first | with_reducible refine x_ops ?_ | (simp only [go_sem, Nat.reduceAdd, Nat.reduceEqDiff, Nat.reduceLT, Nat.reduceLeDiff, Nat.reduceMul, Nat.reduceSub, reduceIte, splice, vfill, h18, h17, d3, h5, h1]))
        refine x_scall (sort_sfn cs ss h0 (i := 6) (B := 0) (m := ⟨s.m.obj, s.m.next⟩) o6 (by show 6 < s.m.next; omega) o0 (by show 0 < s.m.next; omega) (by decide)) (by (simp only [go_sem, reduceIte, Nat.reduceEqDiff, V.norms, V.norm]); try rfl) (by obtain ⟨m', hm'⟩ := SortP.ex cs 6 ⟨s.m.obj, s.m.next⟩; exact ⟨.lit (.bool true), m', hm'⟩) ?_
        rintro r m' ⟨l, hl, o6', hn', ho'⟩
        have hle := rank_eq hl (fun k hk => pitch_at h0 hk)
        rw [hle] at o6'
        have hll : (rkTo cs 128).length = cs.length := by rw [← hle]; exact hl.1
        repeat (first | with_reducible refine x_ops ?_ | (simp only [go_sem, Nat.reduceAdd, Nat.reduceEqDiff, Nat.reduceLT, Nat.reduceLeDiff, Nat.reduceMul, Nat.reduceSub, reduceIte, splice, vfill, h5]))
        refine finV_ret (r' := _) (by (simp only [go_sem, Nat.reduceAdd, Nat.reduceEqDiff, Nat.reduceLT, Nat.reduceLeDiff, Nat.reduceMul, Nat.reduceSub, reduceIte, resV, resAll, resOne, oneOr, h5]); try rfl) (vw_pair ?_)
        have := Vw.bsl (m := m') (S := allS) (off := 0) (n := cs.length) (cap := cs.length) rfl o6' (vws_lits _) (clean_iff.1 (clean_ints _) |>.2 |> fun h => List.all_eq_true.2 h)
        rw [List.drop_zero] at this
        rw [tInts, hll]
        exact this
/-- How far a number is above -1. -/
def upM : V → Nat
  | .lit (.int _ n) => (n + 1).toNat
  | _ => 0
def RRo (cs : List Crs) (ss : List Int) (s : St) : Prop := ∃ (j : Nat) (t : Tok), j ≤ 128 ∧ s.t 6 = vint (127 - (j : Int)) ∧ s.t 5 = .sl (rkTo cs j).length (lits ((rkTo cs j).map (Value.int .i64))) t ∧ Apb s.m t (rkTo cs j).length 3 1 ∧ s.t 1 = .ptr 0 0 ∧ s.m.obj 0 = some (.box [tCrs cs, tInts ss] 39) ∧ 0 < s.m.next
def RRn (cs : List Crs) (ss : List Int) (j : Nat) (s : St) : Prop := ∃ (k : Nat) (t : Tok) (L : List Int), L = rkTo cs j ++ eqTo cs (127 - (j : Int)) k ∧ k ≤ cs.length ∧ s.t 7 = vint ((k : Int) + 1) ∧ s.t 6 = vint (127 - (j : Int)) ∧ s.t 5 = .sl L.length (lits (L.map (Value.int .i64))) t ∧ Apb s.m t L.length 3 1 ∧ s.t 1 = .ptr 0 0 ∧
  s.m.obj 0 = some (.box [tCrs cs, tInts ss] 39) ∧ 0 < s.m.next
set_option maxHeartbeats 1000000 in
theorem rrank_fn (cs : List Crs) (ss : List Int) : Fn Tryd.prog Gd 52 [tIns cs ss] (rankV cs ss) := by
  refine Fn.of_vx0 k_theorboref01_Rank (by simp) (pures1 (pures_tIns cs ss)) ?_
  unfold c_theorboref01_Rank tIns
  repeat (first | with_reducible refine x_ops ?_ | (simp only [go_sem, Nat.reduceAdd, Nat.reduceEqDiff, Nat.reduceLT, Nat.reduceLeDiff, Nat.reduceMul, Nat.reduceSub, reduceIte, splice, vfill]))
  refine x_call none (rcheck_fn cs ss) (by (simp only [go_sem, reduceIte, Nat.reduceEqDiff, V.norms, V.norm]); rfl) ?_
  repeat (first | with_reducible refine x_ops ?_ | (simp only [go_sem, Nat.reduceAdd, Nat.reduceEqDiff, Nat.reduceLT, Nat.reduceLeDiff, Nat.reduceMul, Nat.reduceSub, reduceIte, splice, vfill]))
  refine x_if (fun ht => ?_) (fun ht => ?_)
  · repeat (first | with_reducible refine x_ops ?_ | (simp only [go_sem, Nat.reduceAdd, Nat.reduceEqDiff, Nat.reduceLT, Nat.reduceLeDiff, Nat.reduceMul, Nat.reduceSub, reduceIte, splice, vfill]))
    have h0 : chk cs ss ≠ 0 := by simpa using ht
    rw [rankV, if_neg h0]
    exact finV_ret (r' := _) (by (simp only [go_sem, Nat.reduceAdd, Nat.reduceEqDiff, Nat.reduceLT, Nat.reduceLeDiff, Nat.reduceMul, Nat.reduceSub, reduceIte, resV, resAll, resOne, oneOr]); try rfl) (vw_pair (.sl _ _ _))
  · have h0 : chk cs ss = 0 := by simpa using ht
    rw [rankV, if_pos h0]
    have hsm := chk_small h0
    have lC := crs_len cs
    repeat (first | with_reducible refine x_ops ?_ | (simp only [go_sem, Nat.reduceAdd, Nat.reduceEqDiff, Nat.reduceLT, Nat.reduceLeDiff, Nat.reduceMul, Nat.reduceSub, reduceIte, splice, vfill]))
    refine x_loop (RRo cs ss) (fun s => upM (s.t 6)) ?_ ?_
    · refine ⟨0, .exact, by omega, rfl, rfl, .inl rfl, rfl, ?_, ?_⟩
      · simp only [put_obj, put_next, M0_next, freeze_obj, freeze_next, Nat.add_zero, Nat.zero_add, Nat.add_assoc, Nat.add_left_cancel_iff, Nat.add_eq_left, Nat.left_eq_add, decide_eq_true_eq, List.nil_append, List.append_nil, Nat.reduceAdd, Nat.reduceEqDiff, Nat.reduceLeDiff, Nat.reduceLT, reduceIte]; try rfl
      · simp only [put_obj, put_next, M0_next, freeze_obj, freeze_next, Nat.add_zero, Nat.zero_add, Nat.add_assoc, Nat.add_left_cancel_iff, Nat.add_eq_left, Nat.left_eq_add, decide_eq_true_eq, List.nil_append, List.append_nil, Nat.reduceAdd, Nat.reduceEqDiff, Nat.reduceLeDiff, Nat.reduceLT, reduceIte]; try omega
    · rintro s ⟨j, t, hj, h6, h5, hap, h1, o0, hn⟩
      by_cases hlt : j < 128
      · have d3 : decide ((127 - (j : Int)) ≥ 0) = true := by simp; omega
        have hkk : rkTo cs j ++ eqTo cs (127 - (j : Int)) 0 = rkTo cs j := by rw [eqTo, List.append_nil]
        repeat (first | with_reducible refine x_ops ?_ | (simp only [go_sem, Nat.reduceAdd, Nat.reduceEqDiff, Nat.reduceLT, Nat.reduceLeDiff, Nat.reduceMul, Nat.reduceSub, reduceIte, splice, vfill, h6, d3]))
        refine x_loop (RRn cs ss j) (fun s => cs.length + 1 - numOf (s.t 7)) ⟨0, t, rkTo cs j, hkk.symm, Nat.zero_le _, rfl, h6, h5, hap, h1, o0, hn⟩ ?_
        rintro s' ⟨k, t, L, hL, hk, h7, h6, h5, hap, h1, o0, hn⟩
        by_cases hlk : k < cs.length
        · have d4 : decide (((k : Int) + 1) ≤ (cs.length : Int)) = true := by simp; omega
          have hw1 : IntKind.i64.wrap ((k : Int) + 1 - 1) = (k : Int) := by rw [IntWalk.i64_in _ (by omega)]; omega
          have hw2 : IntKind.i64.wrap ((k : Int) + 1 + 1) = ((k + 1 : Nat) : Int) + 1 := by rw [IntWalk.i64_in _ (by omega)]; omega
          have hlti : (k : Int) < cs.length := by omega
          have g1 := crs_p hlk
          simp only [vint] at g1
          have hpc : pch cs ((k : Int) + 1) = (cs.getD k default).p := by unfold pch; rw [show ((k : Int) + 1).toNat - 1 = k by omega]
          repeat (first | with_reducible refine x_ops ?_ | (simp only [go_sem, Nat.reduceAdd, Nat.reduceEqDiff, Nat.reduceLT, Nat.reduceLeDiff, Nat.reduceMul, Nat.reduceSub, reduceIte, splice, vfill, h7, h6, h1, o0, tCrs, d4]))
          repeat (first | with_reducible refine x_ops ?_ | (simp only [go_sem, Nat.reduceAdd, Nat.reduceEqDiff, Nat.reduceLT, Nat.reduceLeDiff, Nat.reduceMul, Nat.reduceSub, reduceIte, splice, vfill, h7, h6, h1, o0, tCrs, hlti, lC, hw1, g1]))
          refine x_if (fun he => ?_) (fun he => ?_)
          · have he : (cs.getD k default).p = 127 - (j : Int) := by simpa using he
            have hlen : L.length ≤ j * cs.length + k := by
              rw [hL, List.length_append]
              have := rkTo_le (cs := cs) j
              have := eqTo_le (cs := cs) (p := 127 - (j : Int)) k
              omega
            have hlen2 : j * cs.length ≤ 128 * 14 := Nat.mul_le_mul (by omega) hsm.1
            repeat (first | with_reducible refine x_ops ?_ | (simp only [go_sem, Nat.reduceAdd, Nat.reduceEqDiff, Nat.reduceLT, Nat.reduceLeDiff, Nat.reduceMul, Nat.reduceSub, reduceIte, splice, vfill, h5, h7, hw2]))
            refine x_appb (k := t) (by (simp only [go_sem, reduceIte, Nat.reduceEqDiff, V.norms, V.norm]); try rfl) (by (simp only [go_sem, reduceIte, Nat.reduceEqDiff, V.norms, V.norm]); try rfl) (hap.mono (fun _ _ _ => rfl) (by (simp only [put_obj, put_next, M0_next, freeze_obj, freeze_next, Nat.add_zero, Nat.zero_add, Nat.add_assoc, Nat.add_left_cancel_iff, Nat.add_eq_left, Nat.left_eq_add, decide_eq_true_eq, List.nil_append, List.append_nil, Nat.reduceAdd, Nat.reduceEqDiff, Nat.reduceLeDiff, Nat.reduceLT, reduceIte]); try omega)) (by rw [ints_len]; omega) (by simp) (by omega) (by unfold maxLen; omega) (by (simp only [put_obj, put_next, M0_next, freeze_obj, freeze_next, Nat.add_zero, Nat.zero_add, Nat.add_assoc, Nat.add_left_cancel_iff, Nat.add_eq_left, Nat.left_eq_add, decide_eq_true_eq, List.nil_append, List.append_nil, Nat.reduceAdd, Nat.reduceEqDiff, Nat.reduceLeDiff, Nat.reduceLT, reduceIte]); try omega) (fun t' m' hap' hnx hbx hot => ?_)
            have hnx : m'.next = s'.m.next + 5 := hnx
            repeat (first | with_reducible refine x_ops ?_ | (simp only [go_sem, Nat.reduceAdd, Nat.reduceEqDiff, Nat.reduceLT, Nat.reduceLeDiff, Nat.reduceMul, Nat.reduceSub, reduceIte, splice, vfill, h7, hw2]))
            refine ⟨⟨k + 1, t', L ++ [(k : Int) + 1], ?_, hlk, rfl, h6, ?_, ?_, h1, hbx _ _ _ o0 (by omega), (by show 0 < m'.next; omega)⟩, ?_⟩
            · rw [eqTo, if_pos (hpc.trans he), hL, List.append_assoc]
            · rw [List.map_append, lits_append, List.length_append]; rfl
            · rw [List.length_append]; exact hap'
            · simp [numOf]; omega
          · have he : ¬ (cs.getD k default).p = 127 - (j : Int) := by simpa using he
            repeat (first | with_reducible refine x_ops ?_ | (simp only [go_sem, Nat.reduceAdd, Nat.reduceEqDiff, Nat.reduceLT, Nat.reduceLeDiff, Nat.reduceMul, Nat.reduceSub, reduceIte, splice, vfill, h7, hw2]))
            refine ⟨⟨k + 1, t, L, ?_, hlk, rfl, h6, h5, hap, h1, o0, hn⟩, ?_⟩
            · rw [eqTo, if_neg (fun x => he (hpc.symm.trans x))]; exact hL
            · simp [numOf]; omega
        · have d4 : decide (((k : Int) + 1) ≤ (cs.length : Int)) = false := by simp; omega
          have hke : k = cs.length := by omega
          subst hke
          rw [show rkTo cs j ++ eqTo cs (127 - (j : Int)) cs.length = rkTo cs (j + 1) from rfl] at hL
          subst hL
          have hw2 : IntKind.i64.wrap (127 - (j : Int) - 1) = 127 - ((j + 1 : Nat) : Int) := by rw [IntWalk.i64_in _ (by omega)]; omega
          repeat (first | with_reducible refine x_ops ?_ | (simp only [go_sem, Nat.reduceAdd, Nat.reduceEqDiff, Nat.reduceLT, Nat.reduceLeDiff, Nat.reduceMul, Nat.reduceSub, reduceIte, splice, vfill, h7, h6, h1, o0, tCrs, d4, hw2]))
          refine ⟨⟨j + 1, t, hlt, rfl, h5, hap, h1, o0, hn⟩, ?_⟩
          simp only [h6, vint, putT_get, reduceIte, upM]; omega
      · have d3 : decide ((127 - (j : Int)) ≥ 0) = false := by simp; omega
        have hje : j = 128 := by omega
        subst hje
        repeat (first | with_reducible refine x_ops ?_ | (simp only [go_sem, Nat.reduceAdd, Nat.reduceEqDiff, Nat.reduceLT, Nat.reduceLeDiff, Nat.reduceMul, Nat.reduceSub, reduceIte, splice, vfill, h6, d3, h5]))
        exact finV_ret (r' := _) (by (simp only [go_sem, Nat.reduceAdd, Nat.reduceEqDiff, Nat.reduceLT, Nat.reduceLeDiff, Nat.reduceMul, Nat.reduceSub, reduceIte, resV, resAll, resOne, oneOr, h5]); try rfl) (vw_pair (.sl _ _ _))
end Go.Proofs.YtbdhjpdjbogggaaDoor
