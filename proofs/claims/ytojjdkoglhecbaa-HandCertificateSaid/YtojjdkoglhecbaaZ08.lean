/- The lister, run: it is made. The best fingering of a net, in plain terms. Nothing is run here. The lister, run: the first fingering, and Best. The least costs of a net, in plain terms. Nothing is run here. The lister, run: first and Best. Two nets side by side, in plain terms: a hand that is wider or lighter. Nothing is run here. Functions of the program, as code on values by numbers: printed by a program from the program that was given, and held against it here. The reference's Prove, run: the same table. The net of a search, run: is a number of a table a lower bound; does a table prove. The net of a search, run: Proves. The reference's Proves, run. The reference's Proves, run: the whole of it. All frets and positions raised: plain. rest and chosen of the laws, on values. The law HandRaised, on values. More arguments read: searches, grips, lists of numbers. Laws about tables: SameTable, Changed. More arguments read: tables and changes. Heavy of the laws, on values. The law HandProves, on values. The law HandWeights. More arguments read: five numbers. -/
import Derived.Test.YtojjdkoglhecbaaG0
import Derived.Test.YtojjdkoglhecbaaWk
import Derived.Test.YtojjdkoglhecbaaZ03
import Derived.Test.YtojjdkoglhecbaaZ04
import Derived.Test.YtojjdkoglhecbaaXw
import Derived.Test.YtojjdkoglhecbaaZ06
import Derived.Test.YtojjdkoglhecbaaZ07
set_option linter.unusedSimpArgs false
set_option linter.unusedVariables false
namespace Go.Proofs.Ytojjdkoglhecbaa
open Go.RowKit

/-- The first ways of the root. -/
noncomputable def rtL (h : Hand) (l : List Chord) (Gs : List (List Grip)) : Nat → List Way
  | 0 => []
  | j + 1 => if (rsT h l Gs 0).getD j 0 = -1 then rtL h l Gs j else rtL h l Gs j ++ [((rsT h l Gs 0).getD j 0, (j : Int), 0)]
theorem rtL_len (h : Hand) (l : List Chord) (Gs : List (List Grip)) : ∀ j, (rtL h l Gs j).length ≤ j
  | 0 => Nat.le_refl _
  | j + 1 => by
    have := rtL_len h l Gs j
    rw [rtL]; split
    · omega
    · rw [List.length_append]; simp; omega
/-- Where list stands, with i rows. -/
structure LiSt (h : Hand) (l : List Chord) (Gs : List (List Grip)) (m : Mm) (i nq : Nat) (rs : List Nat) (M : Mm) : Prop where
  nx : m.next + 7 ≤ M.next
  tbo : M.obj (m.next + 5) = some (.box [netE h l Gs, bxL i nq, .ptr (m.next + 3) 0] 162)
  rto : M.obj (m.next + 3) = some (.box [.sl 0 [] .exact, .sl 0 [] .exact, .fn 110 [], vbool false] 159)
  nqo : 0 < i → M.obj nq = some (.box (rwN rs (Gs.take i)) 163) ∧ m.next + 7 ≤ nq ∧ nq < M.next
  rl : rs.length = i
  row : ∀ y, y < i → M.obj (rs.getD y 0) = some (.box (nilR (Gs.getD y []).length) 150) ∧ m.next + 7 ≤ rs.getD y 0 ∧ rs.getD y 0 < nq
  inc : ∀ y z, y < z → z < i → rs.getD y 0 < rs.getD z 0
  fr : ∀ q, q < m.next → M.obj q = m.obj q
theorem rwN_len (rs : List Nat) (Gs : List (List Grip)) : (rwN rs Gs).length = Gs.length := by simp [rwN]
theorem rwN_one (rs : List Nat) (Gs : List (List Grip)) : (rwN rs Gs).all V.one = true := by
  rw [List.all_eq_true]
  intro v hv
  rw [rwN] at hv
  obtain ⟨y, _, rfl⟩ := List.mem_map.1 hv
  rfl
theorem rwN_snoc {rs : List Nat} {Gs : List (List Grip)} {k q : Nat} (hk : k < Gs.length) (hq : rs.length = k) : rwN (rs ++ [q]) (Gs.take (k + 1)) = rwN rs (Gs.take k) ++ [.bsl q 0 (Gs.getD k []).length (Gs.getD k []).length] := by
  have l1 : (Gs.take (k + 1)).length = k + 1 := by rw [List.length_take]; omega
  have l2 : (Gs.take k).length = k := by rw [List.length_take]; omega
  rw [rwN, rwN, l1, l2, List.range_succ, List.map_append, List.map_cons, List.map_nil]
  have ha : (rs ++ [q]).getD k 0 = q := by simp [List.getD_eq_getElem?_getD, ← hq]
  have gT : ∀ (n y : Nat), y < n → (Gs.take n).getD y [] = Gs.getD y [] := fun n y h => by simp [List.getD_eq_getElem?_getD, List.getElem?_take, h]
  rw [ha, gT (k + 1) k (by omega)]
  congr 1
  apply List.map_congr_left
  intro y hy
  have hyk := List.mem_range.1 hy
  have hc : (rs ++ [q]).getD y 0 = rs.getD y 0 := by simp [List.getD_eq_getElem?_getD, List.getElem?_append_left (show y < rs.length by omega)]
  rw [hc, gT _ _ (show y < k + 1 by omega), gT _ _ hyk]
/-- What list leaves. -/
def LsPost (h : Hand) (l : List Chord) (Gs : List (List Grip)) (m : Mm) (r : V) (M' : Mm) : Prop :=
  m.next ≤ M'.next ∧ (∀ q, q < m.next → M'.obj q = m.obj q) ∧ ∃ tb nq rt rs, r = .ptr tb 0 ∧ (m.next ≤ tb ∧ tb < M'.next) ∧ (∃ nv, M'.obj tb = some (.box [netE h l Gs, nv, .ptr rt 0] 162)) ∧
    (0 < l.length → LsM h l Gs tb nq rt rs 0 M' ∧ (m.next ≤ rt ∧ rt < M'.next) ∧ ∃ v H, M'.obj rt = some (.box [.sl 0 [] .exact, v, .fn 110 [], vbool false] 159) ∧ QV M' v H ∧ HpOk H ∧ H.Perm (rtL h l Gs (rsT h l Gs 0).length))

set_option maxHeartbeats 4000000 in
theorem list_sfn {h : Hand} {l : List Chord} {Gs : List (List Grip)} (hn : NetOk h l Gs) (m : Mm) : SFn Try.prog Gd 74 [netE h l Gs] m (LsPost h l Gs m) := by
  refine SFn.of_vxS k_hand_list_b (by simp) ?_
  have h4 := hn.len
  have gl := hn.gl
  unfold c_hand_list_b
  replace gl := Hid.mk gl
  have hnet : netE h l Gs = .ept [.sl h.low.length (h.low.map vint) .no, .sl h.high.length (h.high.map vint) .no, .sl h.barre.length (h.barre.map vbool) .no, .lit (.int .i64 h.top), .lit (.int .i64 h.jump), .lit (.int .i64 h.shift), .lit (.int .i64 h.lift), .lit (.int .i64 h.bar), .lit (.int .i64 h.stretch), .lit (.int .i64 h.slide),
    .sl l.length (l.flatMap Chord.cells) .no, .sl Gs.length (Gs.map tGs) .no, .sl (owA h l Gs).length ((owA h l Gs).map tIs) .no, .sl (rsA h l Gs).length ((rsA h l Gs).map tIs) .no] 0 := rfl
  replace hnet := Hid.mk hnet
  rw [hnet.out]
  repeat' (with_reducible first | refine x_ops ?_ | refine wk ?_ | ((first | refine gd1 ?_ ?_ | refine gd2 ?_ ?_ | refine gd3 ?_ ?_) <;> (first | exact @False.elim _ | intro hc)))
  refine x_genM (fun t M => (t 0 = .ept [.sl h.low.length (h.low.map vint) .no, .sl h.high.length (h.high.map vint) .no, .sl h.barre.length (h.barre.map vbool) .no, .lit (.int .i64 h.top), .lit (.int .i64 h.jump), .lit (.int .i64 h.shift), .lit (.int .i64 h.lift), .lit (.int .i64 h.bar), .lit (.int .i64 h.stretch), .lit (.int .i64 h.slide),
    .sl l.length (l.flatMap Chord.cells) .no, .sl Gs.length (Gs.map tGs) .no, .sl (owA h l Gs).length ((owA h l Gs).map tIs) .no, .sl (rsA h l Gs).length ((rsA h l Gs).map tIs) .no] 0 ∧ t 3 = .ptr (m.next + 5) 0 ∧ t 17 = vint l.length ∧ t 18 = vint 0) ∧ LiSt h l Gs m 0 0 [] M)
    ⟨⟨vv, vv, vv, vv⟩, ⟨Nat.le_refl _, ?_, ?_, fun h0 => by omega, rfl, fun y hy => by omega, fun y z _ hz => by omega, fun q hq => by ((simp only [put_obj]; repeat rw [if_neg (by omega)]))⟩⟩ ?_
  · rw [hnet.out]; exact put_same _ _ _
  · refine (put_other _ _ (by omega)).trans (put_same _ _ _)
  rintro t0 M0 ⟨⟨a0, a3, a17, a18⟩, hs0⟩
  refine x_loopW w_hand_list_b_p4 kr l.length (fun i t M => t 18 = vint (i : Int) ∧ ∃ nq rs, LiSt h l Gs m i nq rs M) ?_ ?_
  · exact ⟨a18, 0, [], hs0⟩
  clear a18 hs0
  rintro i t M hi ⟨h18, nq, rs, hs⟩
  have hnx := hs.nx
  have o1 := hs.tbo
  have l1 : m.next + 5 < M.next := by omega
  by_cases hil : i < l.length
  · have c1 : (i : Int) < (l.length : Int) := by omega
    have w1 := w_add1 (k := i) (by omega)
    have gle := gl.out
    have g1 := gss_at' (l := Gs) (k := i) (by omega)
    have hcnt := hn.cnt i
    have k1 : ((Gs.getD i []).length : Int) * 8 ≤ 140737488355328 := by omega
    have k2 : ((Gs.getD i []).length : Int) ≤ 140737488355328 := by omega
    have hs1 := Hid.mk hs
    have hfl : (List.replicate (Gs.getD i []).length [V.lit (Value.pointer none)]).flatten = nilR (Gs.getD i []).length := by rw [nilR]; simp
    clear hs
    repeat' (with_reducible first | refine x_ops ?_ | refine wk ?_ | ((first | refine gd1 ?_ ?_ | refine gd2 ?_ ?_ | refine gd3 ?_ ?_) <;> (first | exact @False.elim _ | intro hc)))
    refine x_appG (k := i) (oq := nq) (cs := rwN rs (Gs.take i)) (v := .bsl (M.next + 13) 0 (Gs.getD i []).length (Gs.getD i []).length) vw ?_ ?_ (by rw [rwN_len, List.length_take]; omega) (rwN_one _ _) (by omega) (by unfold Go.maxLen; omega) ?_
    · have e : ∀ (mm : Mm) c, c.one = true → rdS (mm.put (M.next + 14) (.box [c] 163)) 1 (.gsl (M.next + 14) 1 1) = some (1, [c]) := fun mm c hc => by
        simp [rdS, put_same, hc]
      exact e _ _ rfl
    · intro h0
      have := (hs1.out.nqo h0).2.2
      exact (put_other _ _ (by omega)).trans ((put_other _ _ (by omega)).trans (hs1.out.nqo h0).1)
    intro m2 n2 f2 b2
    have n2' : m2.next = M.next + 19 := n2
    have lt : ∀ q, q < M.next → (0 < i → q ≠ nq) → m2.obj q = M.obj q := fun q hq hqn => (f2 q (by show ¬ q = M.next + 15; omega) hqn).trans ((put_other _ _ (by omega)).trans (put_other _ _ (by omega)))
    have q1 : m2.obj (m.next + 5) = _ := (lt (m.next + 5) l1 (fun h0 => by have := (hs1.out.nqo h0).2.1; omega)).trans o1
    have row : m2.obj (M.next + 13) = some (.box (nilR (Gs.getD i []).length) 150) := (f2 _ (by show ¬ M.next + 13 = M.next + 15; omega) (fun h0 => by have := (hs1.out.nqo h0).2.2; omega)).trans ((put_other _ _ (by omega)).trans (put_same _ _ _))
    have hs2 : LiSt h l Gs m (i + 1) (M.next + 15) (rs ++ [M.next + 13]) (m2.put (m.next + 5) (.box [netE h l Gs, .gsl (M.next + 15) (i + 1) 1, .ptr (m.next + 3) 0] 162)) := by
      have hq := hs1.out.rl
      have gq : ∀ y, y < i → (rs ++ [M.next + 13]).getD y 0 = rs.getD y 0 := fun y hy => by simp [List.getD_eq_getElem?_getD, List.getElem?_append_left (show y < rs.length by omega)]
      have gN : (rs ++ [M.next + 13]).getD i 0 = M.next + 13 := by simp [List.getD_eq_getElem?_getD, ← hq]
      refine ⟨by show m.next + 7 ≤ m2.next; omega, put_same _ _ _, ?_, fun _ => ⟨?_, by omega, by show M.next + 15 < m2.next; omega⟩, by rw [List.length_append, hq]; rfl, fun y hy => ?_, fun y z hyz hz => ?_, fun q hq' => ?_⟩
      · exact (put_other _ _ (by omega)).trans ((lt (m.next + 3) (by omega) (fun h0 => by have := (hs1.out.nqo h0).2.1; omega)).trans hs1.out.rto)
      · rw [rwN_snoc (by omega) hq]; exact (put_other _ _ (by omega)).trans b2
      · by_cases e : y = i
        · subst e; rw [gN]; exact ⟨(put_other _ _ (by omega)).trans row, by omega, by omega⟩
        · rw [gq y (by omega)]
          obtain ⟨r1, r2, r3⟩ := hs1.out.row y (by omega)
          have r4 := (hs1.out.nqo (by omega)).2.2
          exact ⟨(put_other _ _ (by omega)).trans ((lt _ (by omega) (fun _ => by omega)).trans r1), r2, by omega⟩
      · rw [gq y (by omega)]
        by_cases e : z = i
        · subst e; rw [gN]
          have r3 := (hs1.out.row y (by omega)).2.2
          have r4 := (hs1.out.nqo (by omega)).2.2
          omega
        · rw [gq z (by omega)]; exact hs1.out.inc y z hyz (by omega)
      · exact (put_other _ _ (by omega)).trans ((lt q (by omega) (fun h0 => by have := (hs1.out.nqo h0).2.1; omega)).trans (hs1.out.fr q hq'))
    replace hs2 := Hid.mk hs2
    replace n2' := Hid.mk n2'
    clear f2 b2 n2 lt row o1 hfl
    repeat' (with_reducible first | refine x_ops ?_ | refine wk ?_ | ((first | refine gd1 ?_ ?_ | refine gd2 ?_ ?_ | refine gd3 ?_ ?_) <;> (first | exact @False.elim _ | intro hc)))
    exact nx hil ⟨vv, M.next + 15, rs ++ [M.next + 13], hs2.out⟩
  have hie : i = l.length := by omega
  subst hie
  have c1 : ¬ (l.length : Int) < (l.length : Int) := by omega
  replace hs := Hid.mk hs
  clear hi hil o1
  by_cases h0 : 0 < l.length
  case neg =>
    have c2 : ¬ (0 : Int) < (l.length : Int) := by omega
    have h0' := Hid.mk h0
    clear h0
    repeat' (with_reducible first | refine x_ops ?_ | refine wk ?_ | ((first | refine gd1 ?_ ?_ | refine gd2 ?_ ?_ | refine gd3 ?_ ?_) <;> (first | exact @False.elim _ | intro hc)))
    exact ⟨.inr rfl, .ptr (m.next + 5) 0, vv, by show m.next ≤ M.next; omega, hs.out.fr, m.next + 5, 0, m.next + 3, [], rfl, ⟨by omega, by show m.next + 5 < M.next; omega⟩, ⟨_, hs.out.tbo⟩, fun h1 => absurd h1 h0'.out⟩
  have c2 : (0 : Int) < (l.length : Int) := by omega
  have hL0 : LsM h l Gs (m.next + 5) nq (m.next + 3) rs 0 M := by
    have e5 : bxL l.length nq = .gsl nq l.length 1 := if_neg (by omega)
    have htk : Gs.take l.length = Gs := List.take_of_length_le (by rw [gl.out]; exact Nat.le_refl _)
    obtain ⟨n1, n2, n3⟩ := hs.out.nqo h0
    rw [htk] at n1
    refine ⟨by rw [← e5]; exact hs.out.tbo, n1, fun y _ hy => (hs.out.row y hy).1, hs.out.inc, l1, n3, fun y hy => by have := (hs.out.row y hy).2.2; omega, by omega, fun y hy => ⟨by have := (hs.out.row y hy).2.1; omega, by have := (hs.out.row y hy).2.2; omega⟩⟩
  have hrt := hs.out.rto
  have hfr := hs.out.fr
  replace hfr := Hid.mk hfr
  have hT0 := rsT_len (h := h) (Gs := Gs) h0
  have hcn := hn.cnt 0
  have g5 := iss_at' (l := rsA h l Gs) (k := 0) (by rw [rsA_len]; exact h0)
  rw [rsA_at h0] at g5
  have g6 := rsA_len (h := h) (l := l) (Gs := Gs)
  generalize hNe : rsT h l Gs 0 = N at *
  replace hNe := Hid.mk hNe
  replace hT0 := Hid.mk hT0
  have h0' := Hid.mk h0
  clear h0 hs
  repeat' (with_reducible first | refine x_ops ?_ | refine wk ?_ | ((first | refine gd1 ?_ ?_ | refine gd2 ?_ ?_ | refine gd3 ?_ ?_) <;> (first | exact @False.elim _ | intro hc)))
  refine x_gen (fun t => t 3 = .ptr (m.next + 5) 0 ∧ t 51 = .sl N.length (N.map vint) .no ∧ t 52 = vint N.length ∧ t 53 = vint 0) ⟨vw, vv, vv, vv⟩ ?_
  clear a0 a3 a17 h18
  rintro t6 ⟨a3, a51, a52, a53⟩
  have hrl : ∀ k, k < N.length → rtL h l Gs (k + 1) = if N.getD k 0 = -1 then rtL h l Gs k else rtL h l Gs k ++ [(N.getD k 0, (k : Int), 0)] := fun k _ => by rw [rtL, hNe.out]
  refine x_loopW w_hand_list_b_p10 kr N.length (fun k t M' => t 53 = vint (k : Int) ∧ NdM M (m.next + 3) (rtL h l Gs k) M') ?_ ?_
  · exact ⟨a53, Nat.le_refl _, ⟨_, [], hrt, .inl ⟨rfl, rfl⟩, fun j h0 hj => by simp at hj, .refl _, fun q n e => by cases e⟩, fun _ _ _ => rfl⟩
  clear a53
  rintro k t7 M' hk ⟨h53, hM'⟩
  have hM0 := Hid.mk hM'
  obtain ⟨j1, ⟨v, H, j2, j3, j4, j5, j6⟩, j7⟩ := hM'
  by_cases hkl : k < N.length
  case neg =>
    have hke : k = N.length := by omega
    subst hke
    have cc1 : ¬ (N.length : Int) < (N.length : Int) := by omega
    have lsm := hL0.mono (M' := M') (Nat.le_refl _) j1 (j7 _ l1 (by omega)) (j7 _ hL0.ltn (ne_type hL0.nqo hrt (by decide))) (fun y hy hyl => j7 _ (hL0.ltr y hyl) (ne_type (hL0.row y hy hyl) hrt (by decide)))
    have fr2 : ∀ q, q < m.next → M'.obj q = m.obj q := fun q hq => (j7 q (by omega) (by omega)).trans (hfr.out q hq)
    have hfin : LsPost h l Gs m (.ptr (m.next + 5) 0) M' := by
      refine ⟨by omega, fr2, m.next + 5, nq, m.next + 3, rs, rfl, ⟨by omega, by omega⟩, ⟨_, lsm.tbo⟩, fun _ => ⟨lsm, ⟨by omega, by omega⟩, v, H, j2, j3, j4, by rw [hNe.out]; exact j5⟩⟩
    replace hfin := Hid.mk hfin
    clear j1 j2 j3 j4 j5 j6 j7 hM0 fr2 lsm hL0 hrl hkl hk
    repeat' (with_reducible first | refine x_ops ?_ | refine wk ?_ | ((first | refine gd1 ?_ ?_ | refine gd2 ?_ ?_ | refine gd3 ?_ ?_) <;> (first | exact @False.elim _ | intro hc)))
    exact ⟨.inr rfl, .ptr (m.next + 5) 0, vw, hfin.out⟩
  have cc1 : (k : Int) < (N.length : Int) := by omega
  have g1 := ints_at hkl
  have wk' := w_add1 (k := k) (by have := hT0.out; omega)
  have q1 := (j7 (m.next + 5) l1 (by omega)).trans hL0.tbo
  have hrk := hrl k hkl
  by_cases hno : N.getD k 0 = -1
  · have e2 : (N.getD k 0 == -1) = true := by rw [hno]; rfl
    rw [if_pos hno] at hrk
    replace hrk := Hid.mk hrk
    clear hno hrl j2 j3 j4 j5 j6 j7 hk
    repeat' (with_reducible first | refine x_ops ?_ | refine wk ?_ | ((first | refine gd1 ?_ ?_ | refine gd2 ?_ ?_ | refine gd3 ?_ ?_) <;> (first | exact @False.elim _ | intro hc)))
    exact nx hkl ⟨vv, by rw [hrk.out]; exact hM0.out⟩
  have e2 : (N.getD k 0 == -1) = false := by rw [beq_eq_false_iff_ne]; exact hno
  rw [if_neg hno] at hrk
  have hHl := j5.length_eq
  have hrlen := rtL_len h l Gs k
  have PS := push_psh (w := (N.getD k 0, (k : Int), 0)) j2 (by omega) j3 j4 (by have := hT0.out; omega)
  have PE := PshPost.some (fv := .sl 0 [] .exact) (v := v) (dv := vbool false) (N.getD k 0, (k : Int), 0) (show m.next + 3 < M'.next by omega) j4
  have hpush : ∀ r M2, PshPost M' (m.next + 3) (.sl 0 [] .exact) v (vbool false) H (N.getD k 0, (k : Int), 0) r M2 → NdM M (m.next + 3) (rtL h l Gs k ++ [(N.getD k 0, (k : Int), 0)]) M2 := fun r M2 hP => ndM_push (by omega) j2 j1 j5 j6 j7 hP
  dsimp only at PS
  replace hpush := Hid.mk hpush
  replace hrk := Hid.mk hrk
  clear hno hrl j2 j3 j4 j5 j6 j7 hk hHl
  repeat' (with_reducible first | refine x_ops ?_ | refine wk ?_ | ((first | refine gd1 ?_ ?_ | refine gd2 ?_ ?_ | refine gd3 ?_ ?_) <;> (first | exact @False.elim _ | intro hc)))
  refine x_scallR [.ptr (m.next + 3) 1, .agg [vint (N.getD k 0), vint (k : Int), vint 0]] vw PS PE ?_
  rintro r M2 hP
  have hr := hP.1
  subst hr
  have hM2 := Hid.mk (hpush.out _ _ hP)
  clear PS PE hP
  repeat' (with_reducible first | refine x_ops ?_ | refine wk ?_ | ((first | refine gd1 ?_ ?_ | refine gd2 ?_ ?_ | refine gd3 ?_ ?_) <;> (first | exact @False.elim _ | intro hc)))
  exact nx hkl ⟨vv, by rw [hrk.out]; exact hM2.out⟩
end Go.Proofs.Ytojjdkoglhecbaa
namespace Go.Proofs.Ytojjdkoglhecbaa
open Go.RowKit

/-- The first of some ways. -/
noncomputable def bstW (L : List Way) : Way := (Classical.choose (heap_ex L)).getD 0 noW
/-- Ways that are told apart by their order. -/
def TotW (L : List Way) : Prop := ∀ a ∈ L, ∀ b ∈ L, befW a b = false → befW b a = false → a = b
theorem mem_getW {L : List Way} {w : Way} (h : w ∈ L) : ∃ j, j < L.length ∧ L.getD j noW = w := by
  obtain ⟨j, hj, e⟩ := List.mem_iff_getElem.1 h
  exact ⟨j, hj, by rw [List.getD_eq_getElem?_getD, List.getElem?_eq_getElem hj]; exact e⟩
theorem heap_min {H L : List Way} (hh : HpOk H) (hp : H.Perm L) (hL : L ≠ []) : H.getD 0 noW ∈ L ∧ ∀ w ∈ L, befW w (H.getD 0 noW) = false := by
  have h0 : 0 < H.length := by rw [hp.length_eq]; exact List.length_pos_iff.2 hL
  refine ⟨hp.mem_iff.1 (mem_getD _ h0), fun w hw => ?_⟩
  obtain ⟨j, hj, rfl⟩ := mem_getW (hp.mem_iff.2 hw)
  exact hp_min hh j hj
theorem bstW_ok {L : List Way} (hL : L ≠ []) : bstW L ∈ L ∧ ∀ w ∈ L, befW w (bstW L) = false := by
  have h := Classical.choose_spec (heap_ex L)
  exact heap_min h.1 h.2 hL
theorem bstW_heap {H L : List Way} (hh : HpOk H) (hp : H.Perm L) (hL : L ≠ []) (ht : TotW L) : H.getD 0 noW = bstW L := by
  have h1 := heap_min hh hp hL
  have h2 := bstW_ok hL
  exact ht _ h1.1 _ h2.1 (h2.2 _ h1.1) (h1.2 _ h2.1)
theorem befW_cost {a b : Way} (h : befW a b = false) : b.1 ≤ a.1 := by
  unfold befW at h
  split at h <;> simp only [decide_eq_false_iff_not] at h <;> omega

section
variable {h : Hand} {l : List Chord} {Gs : List (List Grip)}
theorem wayL_mem {i k : Nat} : ∀ {j : Nat} {w : Way}, w ∈ wayL h l Gs i k j → ∃ q, q < j ∧ ¬ (rsT h l Gs (i + 1)).getD q 0 = -1 ∧ (stepR h (l.getD i noC) ((Gs.getD i []).getD k noG) (l.getD (i + 1) noC) ((Gs.getD (i + 1) []).getD q noG)).2 = true ∧
    w = (ownC h (l.getD i noC) ((Gs.getD i []).getD k noG) + (stepR h (l.getD i noC) ((Gs.getD i []).getD k noG) (l.getD (i + 1) noC) ((Gs.getD (i + 1) []).getD q noG)).1 + (rsT h l Gs (i + 1)).getD q 0, (q : Int), 0)
  | 0, w, hw => by simp [wayL] at hw
  | j + 1, w, hw => by
    rw [wayL] at hw
    split at hw
    · obtain ⟨q, h1, h2⟩ := wayL_mem hw; exact ⟨q, by omega, h2⟩
    · rename_i hc
      rcases List.mem_append.1 hw with hw | hw
      · obtain ⟨q, h1, h2⟩ := wayL_mem hw; exact ⟨q, by omega, h2⟩
      · rw [List.mem_singleton] at hw
        refine ⟨j, by omega, fun e => hc (.inl e), ?_, hw⟩
        cases hs : (stepR h (l.getD i noC) ((Gs.getD i []).getD k noG) (l.getD (i + 1) noC) ((Gs.getD (i + 1) []).getD j noG)).2
        · exact absurd (.inr hs) hc
        · rfl
theorem bef_next {a b : Way} (h1 : befW a b = false) (h2 : befW b a = false) : a.2.1 = b.2.1 := by
  have e1 := befW_cost h1
  have e2 := befW_cost h2
  have e3 : a.1 = b.1 := by omega
  unfold befW at h1 h2
  rw [if_pos e3] at h1
  rw [if_pos e3.symm] at h2
  simp only [decide_eq_false_iff_not] at h1 h2
  omega
theorem wayF_tot {i k : Nat} : TotW (wayF h l Gs i k) := by
  intro a ha b hb h1 h2
  have hx := bef_next h1 h2
  rw [wayF, wayB] at ha hb
  by_cases hl : i + 1 = l.length
  · rw [if_pos hl, if_pos hl, wayL, List.append_nil, List.mem_singleton] at ha hb
    rw [ha, hb]
  · rw [if_neg hl, if_neg hl, List.nil_append] at ha hb
    obtain ⟨q, _, _, _, rfl⟩ := wayL_mem ha
    obtain ⟨p, _, _, _, rfl⟩ := wayL_mem hb
    have : q = p := by have h9 : (q : Int) = (p : Int) := hx; omega
    rw [this]
theorem rtL_mem : ∀ {j : Nat} {w : Way}, w ∈ rtL h l Gs j → ∃ q, q < j ∧ ¬ (rsT h l Gs 0).getD q 0 = -1 ∧ w = ((rsT h l Gs 0).getD q 0, (q : Int), 0)
  | 0, w, hw => by simp [rtL] at hw
  | j + 1, w, hw => by
    rw [rtL] at hw
    split at hw
    · obtain ⟨q, h1, h2⟩ := rtL_mem hw; exact ⟨q, by omega, h2⟩
    · rename_i hc
      rcases List.mem_append.1 hw with hw | hw
      · obtain ⟨q, h1, h2⟩ := rtL_mem hw; exact ⟨q, by omega, h2⟩
      · rw [List.mem_singleton] at hw; exact ⟨j, by omega, hc, hw⟩
theorem rtL_has : ∀ {j q : Nat}, q < j → ¬ (rsT h l Gs 0).getD q 0 = -1 → ((rsT h l Gs 0).getD q 0, (q : Int), 0) ∈ rtL h l Gs j
  | 0, q, hq, _ => by omega
  | j + 1, q, hq, hn => by
    rw [rtL]
    by_cases e : q = j
    · subst e; rw [if_neg hn]; exact List.mem_append.2 (.inr (List.mem_singleton.2 rfl))
    · have := rtL_has (j := j) (q := q) (by omega) hn
      split
      · exact this
      · exact List.mem_append.2 (.inl this)
theorem rtL_tot {j : Nat} : TotW (rtL h l Gs j) := by
  intro a ha b hb h1 h2
  have hx := bef_next h1 h2
  obtain ⟨q, _, _, rfl⟩ := rtL_mem ha
  obtain ⟨p, _, _, rfl⟩ := rtL_mem hb
  have : q = p := by have h9 : (q : Int) = (p : Int) := hx; omega
  rw [this]

/-- The least cost is that of the first way. -/
theorem bsU_way (hn : NetOk h l Gs) {i k : Nat} (hi : i + 1 < l.length) (hk : k < (Gs.getD i []).length) : ∀ {j : Nat}, j ≤ (Gs.getD (i + 1) []).length →
    (bsU h (l.getD i noC) ((Gs.getD i []).getD k noG) (l.getD (i + 1) noC) (Gs.getD (i + 1) []) (rsT h l Gs (i + 1)) j = -1 ∧ wayL h l Gs i k j = []) ∨
    (0 ≤ bsU h (l.getD i noC) ((Gs.getD i []).getD k noG) (l.getD (i + 1) noC) (Gs.getD (i + 1) []) (rsT h l Gs (i + 1)) j ∧ (∃ w ∈ wayL h l Gs i k j, w.1 = bsU h (l.getD i noC) ((Gs.getD i []).getD k noG) (l.getD (i + 1) noC) (Gs.getD (i + 1) []) (rsT h l Gs (i + 1)) j) ∧
      ∀ u ∈ wayL h l Gs i k j, bsU h (l.getD i noC) ((Gs.getD i []).getD k noG) (l.getD (i + 1) noC) (Gs.getD (i + 1) []) (rsT h l Gs (i + 1)) j ≤ u.1)
  | 0, _ => .inl ⟨rfl, rfl⟩
  | j + 1, hj => by
    have ih := bsU_way hn hi hk (j := j) (by omega)
    have hi0 : i < l.length := by omega
    have hown := own_bound hn.hk (hn.seq i hi0).1 (hn.grip hi0 hk).1
    have hsb := stepB hn hi hk (m := j) (by omega)
    have hNb := rsT_bound hn _ (i + 1) rfl hi j (by omega)
    by_cases hN : (rsT h l Gs (i + 1)).getD j 0 = -1
    · rw [bsU, wayL, if_pos hN, if_pos (.inl hN)]; exact ih
    have hN0 : 0 ≤ (rsT h l Gs (i + 1)).getD j 0 := by rcases hNb with h1 | h1; exact absurd h1 hN; exact h1.1
    by_cases hs : StepOk h (l.getD i noC) ((Gs.getD i []).getD k noG) (l.getD (i + 1) noC) ((Gs.getD (i + 1) []).getD j noG)
    case neg => rw [bsU, wayL, if_neg hN, stepR_no hs, if_neg (by simp), if_pos (.inr rfl)]; exact ih
    rw [stepR_ok hs] at hsb
    have e1 : bsU h (l.getD i noC) ((Gs.getD i []).getD k noG) (l.getD (i + 1) noC) (Gs.getD (i + 1) []) (rsT h l Gs (i + 1)) (j + 1) = if bsU h (l.getD i noC) ((Gs.getD i []).getD k noG) (l.getD (i + 1) noC) (Gs.getD (i + 1) []) (rsT h l Gs (i + 1)) j = -1 ∨
        ownC h (l.getD i noC) ((Gs.getD i []).getD k noG) + stepC h (l.getD i noC) ((Gs.getD i []).getD k noG) (l.getD (i + 1) noC) ((Gs.getD (i + 1) []).getD j noG) + (rsT h l Gs (i + 1)).getD j 0 < bsU h (l.getD i noC) ((Gs.getD i []).getD k noG) (l.getD (i + 1) noC) (Gs.getD (i + 1) []) (rsT h l Gs (i + 1)) j
        then ownC h (l.getD i noC) ((Gs.getD i []).getD k noG) + stepC h (l.getD i noC) ((Gs.getD i []).getD k noG) (l.getD (i + 1) noC) ((Gs.getD (i + 1) []).getD j noG) + (rsT h l Gs (i + 1)).getD j 0
        else bsU h (l.getD i noC) ((Gs.getD i []).getD k noG) (l.getD (i + 1) noC) (Gs.getD (i + 1) []) (rsT h l Gs (i + 1)) j := by rw [bsU, if_neg hN, stepR_ok hs, if_pos rfl]
    have e2 : wayL h l Gs i k (j + 1) = wayL h l Gs i k j ++ [(ownC h (l.getD i noC) ((Gs.getD i []).getD k noG) + stepC h (l.getD i noC) ((Gs.getD i []).getD k noG) (l.getD (i + 1) noC) ((Gs.getD (i + 1) []).getD j noG) + (rsT h l Gs (i + 1)).getD j 0, (j : Int), 0)] := by
      rw [wayL, stepR_ok hs, if_neg (fun hh => hh.elim hN (fun e => by cases e))]
    rw [e1, e2]
    generalize bsU h (l.getD i noC) ((Gs.getD i []).getD k noG) (l.getD (i + 1) noC) (Gs.getD (i + 1) []) (rsT h l Gs (i + 1)) j = p at *
    generalize wayL h l Gs i k j = W at *
    have hc0 : 0 ≤ ownC h (l.getD i noC) ((Gs.getD i []).getD k noG) + stepC h (l.getD i noC) ((Gs.getD i []).getD k noG) (l.getD (i + 1) noC) ((Gs.getD (i + 1) []).getD j noG) + (rsT h l Gs (i + 1)).getD j 0 := by dsimp only at hsb; omega
    generalize ownC h (l.getD i noC) ((Gs.getD i []).getD k noG) + stepC h (l.getD i noC) ((Gs.getD i []).getD k noG) (l.getD (i + 1) noC) ((Gs.getD (i + 1) []).getD j noG) + (rsT h l Gs (i + 1)).getD j 0 = c at *
    refine .inr ?_
    rcases ih with ⟨hp, rfl⟩ | ⟨hp, ⟨w, hw, hwc⟩, hle⟩
    · rw [if_pos (.inl hp)]
      exact ⟨hc0, ⟨_, List.mem_append.2 (.inr (List.mem_singleton.2 rfl)), rfl⟩, fun u hu => by
        rw [List.nil_append, List.mem_singleton] at hu; subst hu; exact Int.le_refl _⟩
    · by_cases hlt : c < p
      · rw [if_pos (.inr hlt)]
        refine ⟨hc0, ⟨_, List.mem_append.2 (.inr (List.mem_singleton.2 rfl)), rfl⟩, fun u hu => ?_⟩
        rcases List.mem_append.1 hu with hu | hu
        · have := hle u hu; omega
        · rw [List.mem_singleton] at hu; subst hu; exact Int.le_refl _
      · rw [if_neg (by rintro (h1 | h1); omega; exact hlt h1)]
        refine ⟨hp, ⟨w, List.mem_append.2 (.inl hw), hwc⟩, fun u hu => ?_⟩
        rcases List.mem_append.1 hu with hu | hu
        · exact hle u hu
        · rw [List.mem_singleton] at hu; subst hu; show p ≤ c; omega
/-- A grip that leads to the end has ways; the first of them costs what the table says. -/
theorem wayF_ok (hn : NetOk h l Gs) {i k : Nat} (hi : i < l.length) (hk : k < (Gs.getD i []).length) (hr : ¬ (rsT h l Gs i).getD k 0 = -1) :
    wayF h l Gs i k ≠ [] ∧ (bstW (wayF h l Gs i k)).1 = (rsT h l Gs i).getD k 0 ∧ (bstW (wayF h l Gs i k)).2.2 = 0 ∧
    (i + 1 < l.length → ∃ q : Nat, (bstW (wayF h l Gs i k)).2.1 = (q : Int) ∧ q < (Gs.getD (i + 1) []).length ∧ ¬ (rsT h l Gs (i + 1)).getD q 0 = -1 ∧ StepOk h (l.getD i noC) ((Gs.getD i []).getD k noG) (l.getD (i + 1) noC) ((Gs.getD (i + 1) []).getD q noG) ∧
      (rsT h l Gs i).getD k 0 = ownC h (l.getD i noC) ((Gs.getD i []).getD k noG) + stepC h (l.getD i noC) ((Gs.getD i []).getD k noG) (l.getD (i + 1) noC) ((Gs.getD (i + 1) []).getD q noG) + (rsT h l Gs (i + 1)).getD q 0) := by
  rw [rsT_at hi hk, rsE] at hr ⊢
  by_cases hlast : i + 1 = l.length
  · rw [if_pos hlast] at hr ⊢
    have e : wayF h l Gs i k = [(ownC h (l.getD i noC) ((Gs.getD i []).getD k noG), -1, 0)] := by rw [wayF, wayB, if_pos hlast, if_pos hlast, wayL, List.append_nil]
    rw [e]
    have hb := (bstW_ok (L := [(ownC h (l.getD i noC) ((Gs.getD i []).getD k noG), (-1 : Int), (0 : Int))]) (by simp)).1
    rw [List.mem_singleton] at hb
    rw [hb]
    exact ⟨by simp, rfl, rfl, fun h1 => by omega⟩
  · rw [if_neg hlast] at hr ⊢
    have hi1 : i + 1 < l.length := by omega
    have e : wayF h l Gs i k = wayL h l Gs i k (Gs.getD (i + 1) []).length := by rw [wayF, wayB, if_neg hlast, if_neg hlast, List.nil_append, rsT_len hi1]
    rw [e]
    rcases bsU_way hn hi1 hk (Nat.le_refl _) with ⟨h1, _⟩ | ⟨h1, ⟨w, hw, hwc⟩, hle⟩
    · exact absurd h1 hr
    have hne : wayL h l Gs i k (Gs.getD (i + 1) []).length ≠ [] := fun e => by rw [e] at hw; cases hw
    obtain ⟨b1, b2⟩ := bstW_ok hne
    have hc : (bstW (wayL h l Gs i k (Gs.getD (i + 1) []).length)).1 = bsU h (l.getD i noC) ((Gs.getD i []).getD k noG) (l.getD (i + 1) noC) (Gs.getD (i + 1) []) (rsT h l Gs (i + 1)) (Gs.getD (i + 1) []).length := by
      have := befW_cost (b2 w hw)
      have := hle _ b1
      omega
    obtain ⟨q, q1, q2, q3, q4⟩ := wayL_mem b1
    have hso : StepOk h (l.getD i noC) ((Gs.getD i []).getD k noG) (l.getD (i + 1) noC) ((Gs.getD (i + 1) []).getD q noG) := by
      by_cases hx : StepOk h (l.getD i noC) ((Gs.getD i []).getD k noG) (l.getD (i + 1) noC) ((Gs.getD (i + 1) []).getD q noG)
      · exact hx
      · rw [stepR_no hx] at q3; cases q3
    refine ⟨hne, hc, by rw [q4], fun _ => ⟨q, by rw [q4], q1, q2, hso, ?_⟩⟩
    rw [← hc, q4, stepR_ok hso]
end
end Go.Proofs.Ytojjdkoglhecbaa
namespace Go.Proofs.Ytojjdkoglhecbaa
open Go.RowKit

/-- The first way of the root. -/
noncomputable def rootW (h : Hand) (l : List Chord) (Gs : List (List Grip)) : Way := bstW (rtL h l Gs (rsT h l Gs 0).length)
/-- The grips of the best fingering, by their numbers. -/
noncomputable def kS (h : Hand) (l : List Chord) (Gs : List (List Grip)) : Nat → Nat
  | 0 => (rootW h l Gs).2.1.toNat
  | i + 1 => (bstW (wayF h l Gs i (kS h l Gs i))).2.1.toNat
noncomputable def pathU (h : Hand) (l : List Chord) (Gs : List (List Grip)) (n : Nat) : List Grip := (List.range n).map fun i => (Gs.getD i []).getD (kS h l Gs i) noG
theorem pathU_len (h : Hand) (l : List Chord) (Gs : List (List Grip)) (n : Nat) : (pathU h l Gs n).length = n := by simp [pathU]
theorem pathU_succ (h : Hand) (l : List Chord) (Gs : List (List Grip)) (n : Nat) : pathU h l Gs (n + 1) = pathU h l Gs n ++ [(Gs.getD n []).getD (kS h l Gs n) noG] := by simp [pathU, List.range_succ]
/-- Is there a fingering? -/
def HasF (h : Hand) (l : List Chord) (Gs : List (List Grip)) : Prop := rtL h l Gs (rsT h l Gs 0).length ≠ []
open Classical in
/-- What first answers. -/
noncomputable def fstR (h : Hand) (l : List Chord) (Gs : List (List Grip)) : List Grip × Int × Int :=
  if l.length = 0 then ([], 0, 0) else if HasF h l Gs then (pathU h l Gs l.length, (rootW h l Gs).1, 0) else ([], 0, 62)
theorem rootW_ok {h : Hand} {l : List Chord} {Gs : List (List Grip)} (hh : HasF h l Gs) : ∃ q : Nat, rootW h l Gs = ((rsT h l Gs 0).getD q 0, (q : Int), 0) ∧ q < (rsT h l Gs 0).length ∧ ¬ (rsT h l Gs 0).getD q 0 = -1 := by
  obtain ⟨q, q1, q2, q3⟩ := rtL_mem (bstW_ok hh).1
  exact ⟨q, q3, q1, q2⟩
theorem kS_ok {h : Hand} {l : List Chord} {Gs : List (List Grip)} (hn : NetOk h l Gs) (hh : HasF h l Gs) : ∀ {i : Nat}, i < l.length → kS h l Gs i < (Gs.getD i []).length ∧ ¬ (rsT h l Gs i).getD (kS h l Gs i) 0 = -1
  | 0, hi => by
    obtain ⟨q, q1, q2, q3⟩ := rootW_ok hh
    rw [rsT_len hi] at q2
    rw [kS, q1]; exact ⟨q2, q3⟩
  | i + 1, hi => by
    obtain ⟨h1, h2⟩ := kS_ok hn hh (i := i) (by omega)
    obtain ⟨_, _, _, h3⟩ := wayF_ok hn (by omega) h1 h2
    obtain ⟨q, q1, q2, q3, _⟩ := h3 hi
    rw [kS, q1, Int.toNat_natCast]
    exact ⟨q2, q3⟩
/-- The next grip, as get gives it. -/
theorem kS_next {h : Hand} {l : List Chord} {Gs : List (List Grip)} (hn : NetOk h l Gs) (hh : HasF h l Gs) {i : Nat} (hi : i < l.length) {H : List Way} (hH : HpOk H) (hp : H.Perm (wayF h l Gs i (kS h l Gs i))) :
    ∃ c x : Int, GtRes H = .tup [.agg [vint c, vint x, vint 0], vbool true] ∧ (i + 1 < l.length → x = (kS h l Gs (i + 1) : Int)) := by
  obtain ⟨h1, h2⟩ := kS_ok hn hh hi
  obtain ⟨w1, w2, w3, w4⟩ := wayF_ok hn hi h1 h2
  have e := bstW_heap hH hp w1 wayF_tot
  have hne : H ≠ [] := fun e0 => by subst e0; exact w1 (List.nil_perm.1 hp)
  refine ⟨(bstW (wayF h l Gs i (kS h l Gs i))).1, (bstW (wayF h l Gs i (kS h l Gs i))).2.1, by rw [GtRes, if_neg hne, e, w3], fun hi1 => ?_⟩
  obtain ⟨q, q1, _⟩ := w4 hi1
  rw [kS, q1, Int.toNat_natCast]

/-- All that is neither node nor way is as it was. -/
def Fr (M M' : Mm) : Prop := M.next ≤ M'.next ∧ ∀ q cs t, q < M.next → M.obj q = some (.box cs t) → t ≠ 159 → t ≠ 154 → t ≠ 150 → M'.obj q = M.obj q
/-- What fingering leaves. -/
def FgPost (h : Hand) (l : List Chord) (Gs : List (List Grip)) (M : Mm) (r : V) (M' : Mm) : Prop :=
  Fr M M' ∧ ∃ (G : List Grip) (c : Int) (is : Bool) (tok : Tok), r = .tup [.agg [.sl G.length (G.flatMap Grip.cells) tok, vint c], vbool is] ∧ ((is = true ∧ fstR h l Gs = (G, c, 0)) ∨ (is = false ∧ fstR h l Gs = ([], 0, 62)))
theorem fgPost_ex (h : Hand) (l : List Chord) (Gs : List (List Grip)) (M : Mm) : ∃ r M', FgPost h l Gs M r M' := by
  have hf : Fr M M := ⟨Nat.le_refl _, fun _ _ _ _ _ _ _ _ => rfl⟩
  unfold FgPost fstR
  split
  · exact ⟨_, M, hf, [], 0, true, .no, rfl, .inl ⟨rfl, rfl⟩⟩
  · split
    · exact ⟨_, M, hf, _, _, true, .no, rfl, .inl ⟨rfl, rfl⟩⟩
    · exact ⟨_, M, hf, [], 0, false, .no, rfl, .inr ⟨rfl, rfl⟩⟩

/-- Where fingering stands. -/
structure FgSt (h : Hand) (l : List Chord) (Gs : List (List Grip)) (tb nq rt : Nat) (rs : List Nat) (mS : Mm) (n0 : Nat) (cost : Int) (i : Nat) (M : Mm) : Prop where
  fr : Fr mS M
  nx : n0 + 11 ≤ M.next
  ls : LsM h l Gs tb nq rt rs i M
  fb : ∃ tok, M.obj n0 = some (.box [.sl i ((pathU h l Gs i).flatMap Grip.cells) tok, vint cost] 40) ∧ Apb M tok i 53 2
  wb : ∃ c x : Int, M.obj (n0 + 8) = some (.box [vint c, vint x, vint 0] 154) ∧ (i < l.length → x = (kS h l Gs i : Int))

set_option maxHeartbeats 4000000 in
theorem fing_sfn {h : Hand} {l : List Chord} {Gs : List (List Grip)} (hn : NetOk h l Gs) {m0 M : Mm} {r0 : V} (hP : LsPost h l Gs m0 r0 M) : SFn Try.prog Gd 75 [r0, vint 0] M (FgPost h l Gs M) := by
  obtain ⟨_, _, tb, nq, rt, rs, rfl, ⟨_, l1⟩, ⟨nv, o1⟩, hL⟩ := hP
  refine SFn.of_vxS k_hand_lister_fingering (by simp) ?_
  have h4 := hn.len
  have gl := hn.gl
  have x0 : ¬ tb = M.next := by omega
  have hnet : netE h l Gs = .ept [.sl h.low.length (h.low.map vint) .no, .sl h.high.length (h.high.map vint) .no, .sl h.barre.length (h.barre.map vbool) .no, .lit (.int .i64 h.top), .lit (.int .i64 h.jump), .lit (.int .i64 h.shift), .lit (.int .i64 h.lift), .lit (.int .i64 h.bar), .lit (.int .i64 h.stretch), .lit (.int .i64 h.slide),
    .sl l.length (l.flatMap Chord.cells) .no, .sl Gs.length (Gs.map tGs) .no, .sl (owA h l Gs).length ((owA h l Gs).map tIs) .no, .sl (rsA h l Gs).length ((rsA h l Gs).map tIs) .no] 0 := rfl
  replace hnet := Hid.mk hnet
  replace gl := Hid.mk gl
  have o1' := o1
  rw [hnet.out] at o1
  unfold c_hand_lister_fingering
  by_cases hl0 : l.length = 0
  · have e1 : ((l.length : Int) == 0) = true := by rw [beq_iff_eq]; omega
    have hf : fstR h l Gs = ([], 0, 0) := by rw [fstR, if_pos hl0]
    replace hf := Hid.mk hf
    clear hl0 hL o1'
    repeat' (with_reducible first | refine x_ops ?_ | refine wk ?_ | ((first | refine gd1 ?_ ?_ | refine gd2 ?_ ?_ | refine gd3 ?_ ?_) <;> (first | exact @False.elim _ | intro hc)))
    exact ⟨.inr rfl, _, vv, ⟨by show M.next ≤ M.next + 2; omega, fun q _ _ hq _ _ _ _ => (put_other _ _ (by omega)).trans (put_other _ _ (by omega))⟩, [], 0, true, .exact, rfl, .inl ⟨rfl, hf.out⟩⟩
  have e1 : ((l.length : Int) == 0) = false := by rw [beq_eq_false_iff_ne]; omega
  obtain ⟨hLs, ⟨_, l2⟩, v, H, q1, q2, q3, q4⟩ := hL (by omega)
  have hHl := q4.length_eq
  have hrl := rtL_len h l Gs (rsT h l Gs 0).length
  have hT0 := rsT_len (h := h) (Gs := Gs) (show 0 < l.length by omega)
  have hc0 := hn.cnt 0
  have low : ∀ a : AObj, ∀ q, q < M.next → ((⟨M.obj, M.next + 11⟩ : Mm).put M.next a).obj q = M.obj q := fun a q hq => put_other _ _ (by omega)
  have hL1 : LsM h l Gs tb nq rt rs 0 ((⟨M.obj, M.next + 11⟩ : Mm).put M.next (.box [.sl 0 [] .exact, vint 0] 40)) :=
    hLs.mono (Nat.le_refl _) (by show M.next ≤ M.next + 11; omega) (low _ _ l1) (low _ _ hLs.ltn) (fun y _ hy => low _ _ (hLs.ltr y hy))
  have GR := getR_sfn hL1 (v := v) (H := H) ((low _ _ l2).trans q1) (by show rt < M.next + 11; omega) (q2.mono (by show M.next ≤ M.next + 11; omega) (fun q n e => low _ _ (by
    rcases q2 with ⟨h1, _⟩ | ⟨id, R, h1, h2, h3⟩
    · rw [h1] at e; cases e
    · rw [h1] at e; injection e with e1; subst e1; exact h2))) q3 (by omega)
  have GE : ∃ r M', ((⟨M.obj, M.next + 11⟩ : Mm).put M.next (.box [.sl 0 [] .exact, vint 0] 40)).next ≤ M'.next ∧ r = GtRes H ∧ LsM h l Gs tb nq rt rs 0 M' ∧ ∀ q cs t, q < ((⟨M.obj, M.next + 11⟩ : Mm).put M.next (.box [.sl 0 [] .exact, vint 0] 40)).next → ((⟨M.obj, M.next + 11⟩ : Mm).put M.next (.box [.sl 0 [] .exact, vint 0] 40)).obj q = some (.box cs t) → t ≠ 159 → t ≠ 154 → M'.obj q = ((⟨M.obj, M.next + 11⟩ : Mm).put M.next (.box [.sl 0 [] .exact, vint 0] 40)).obj q := ⟨_, _, Nat.le_refl _, rfl, hL1, fun _ _ _ _ _ _ _ => rfl⟩
  have hl0' := Hid.mk hl0
  replace hn := Hid.mk hn
  have hrlo : ∀ y, y < l.length → rs.getD y 0 < M.next := hLs.ltr
  have hqlo := hLs.ltn
  replace hrlo := Hid.mk hrlo
  replace hqlo := Hid.mk hqlo
  clear hL hLs hL1 low hl0 q1 q2 l2
  repeat' (with_reducible first | refine x_ops ?_ | refine wk ?_ | ((first | refine gd1 ?_ ?_ | refine gd2 ?_ ?_ | refine gd3 ?_ ?_) <;> (first | exact @False.elim _ | intro hc)))
  refine x_scallR [.ptr tb 0, vint (-1), vint 0, vint 0] vw GR GE ?_
  rintro r M2 ⟨p1, rfl, hL2, p4⟩
  have p1' : M.next + 11 ≤ M2.next := p1
  have of := (p4 M.next _ _ (by show M.next < M.next + 11; omega) (put_same _ _ _) (by decide) (by decide)).trans (put_same _ _ _)
  have fr2 : Fr M M2 := ⟨by omega, fun q cs t hq ho ht1 ht2 _ => (p4 q cs t (by show q < M.next + 11; omega) ((put_other _ _ (by omega)).trans ho) ht1 ht2).trans (put_other _ _ (by omega))⟩
  replace fr2 := Hid.mk fr2
  clear GR GE p4 p1 o1
  have y1 : ¬ M.next = M.next + 8 := by omega
  by_cases hH : H = []
  · have hno : ¬ HasF h l Gs := fun hh => hh (by subst hH; exact List.nil_perm.1 q4)
    have hf : fstR h l Gs = ([], 0, 62) := by rw [fstR, if_neg hl0'.out, if_neg hno]
    have hR : GtRes H = .tup [.agg [vint 0, vint 0, vint 0], vbool false] := by rw [GtRes, if_pos hH]
    rw [hR]
    replace hf := Hid.mk hf
    replace hL2 := Hid.mk hL2
    clear hR hH hno q3 q4
    repeat' (with_reducible first | refine x_ops ?_ | refine wk ?_ | ((first | refine gd1 ?_ ?_ | refine gd2 ?_ ?_ | refine gd3 ?_ ?_) <;> (first | exact @False.elim _ | intro hc)))
    exact ⟨.inr rfl, _, vv, ⟨fr2.out.1, fun q cs t hq ho ht1 ht2 ht3 => by (refine Eq.trans (b := M2.obj q) ?_ (fr2.out.2 q cs t hq ho ht1 ht2 ht3); repeat' (first | rfl | refine Eq.trans (put_other _ _ (by omega)) ?_))⟩, [], 0, false, .exact, rfl, .inr ⟨rfl, hf.out⟩⟩
  have hhas : HasF h l Gs := fun e => by rw [e] at q4; exact hH (List.perm_nil.1 q4)
  have hw0 : H.getD 0 noW = rootW h l Gs := bstW_heap q3 q4 hhas rtL_tot
  obtain ⟨q0, w1, w2, w3⟩ := rootW_ok hhas
  have hf : fstR h l Gs = (pathU h l Gs l.length, (rsT h l Gs 0).getD q0 0, 0) := by rw [fstR, if_neg hl0'.out, if_pos hhas, w1]
  have hk0 : kS h l Gs 0 = q0 := by rw [kS, w1]; rfl
  have hR : GtRes H = .tup [.agg [vint ((rsT h l Gs 0).getD q0 0), vint (q0 : Int), vint 0], vbool true] := by rw [GtRes, if_neg hH, hw0, w1]
  rw [hR]
  generalize (rsT h l Gs 0).getD q0 0 = cost at *
  replace hf := Hid.mk hf
  have hL3 := Hid.mk hL2
  have of' := Hid.mk of
  clear hR hH q3 q4 w1 w2 w3 hw0
  have z1 : tb < M2.next := hL2.ltt
  have z2 : M.next < M2.next := by omega
  have o2 := hL2.tbo
  rw [hnet.out] at o2
  have x1 : ¬ tb = M.next + 8 := by omega
  clear hL2
  repeat' (with_reducible first | refine x_ops ?_ | refine wk ?_ | ((first | refine gd1 ?_ ?_ | refine gd2 ?_ ?_ | refine gd3 ?_ ?_) <;> (first | exact @False.elim _ | intro hc)))
  refine x_genM (fun t M' => (t 0 = .ptr tb 0 ∧ t 4 = .ptr M.next 0 ∧ t 6 = .ptr (M.next + 8) 0 ∧ t 40 = vint l.length ∧ t 41 = vint 0) ∧ FgSt h l Gs tb nq rt rs M M.next cost 0 M') ⟨⟨vv, vv, vv, vv, vv⟩, ⟨?_, p1', ?_, ⟨.exact, put_same _ _ _, .inl rfl⟩, ⟨cost, q0, ?_, fun _ => by rw [hk0]⟩⟩⟩ ?_
  · exact ⟨fr2.out.1, fun q cs t hq ho ht1 ht2 ht3 => by (refine Eq.trans (b := M2.obj q) ?_ (fr2.out.2 q cs t hq ho ht1 ht2 ht3); repeat' (first | rfl | refine Eq.trans (put_other _ _ (by omega)) ?_))⟩
  · have old : ∀ a b c : AObj, ∀ q, q < M.next → (((M2.put (M.next + 8) a).put (M.next + 8) b).put M.next c).obj q = M2.obj q := fun a b c q hq => (put_other _ _ (by omega)).trans ((put_other _ _ (by omega)).trans (put_other _ _ (by omega)))
    exact hL3.out.mono (Nat.le_refl _) (Nat.le_refl _) (old _ _ _ _ l1) (old _ _ _ _ hqlo.out) (fun y _ hy => old _ _ _ _ (hrlo.out y hy))
  · exact (put_other _ _ (fun e => y1 e.symm)).trans (put_same _ _ _)
  rintro t0 M3 ⟨⟨a0, a4, a6, a40, a41⟩, hs0⟩
  refine x_loopW w_hand_lister_fingering_p9 kr l.length (fun i t M' => t 41 = vint (i : Int) ∧ FgSt h l Gs tb nq rt rs M M.next cost i M') ⟨a41, hs0⟩ ?_
  clear a41 hs0 of o2 o1' z1 z2 p1' hL3 of'
  rintro i t M4 hi ⟨h41, hs⟩
  have hnx := hs.nx
  have fr4 := hs.fr
  replace fr4 := Hid.mk fr4
  obtain ⟨tok, f1, f2⟩ := hs.fb
  obtain ⟨c, x, g1, g2⟩ := hs.wb
  have z2 : M.next < M4.next := by omega
  have z3 : M.next + 8 < M4.next := by omega
  have hplen := pathU_len h l Gs i
  by_cases hil : i < l.length
  case neg =>
    have hie : i = l.length := by omega
    subst hie
    have c1 : ¬ (l.length : Int) < (l.length : Int) := by omega
    replace hplen := Hid.mk hplen
    clear hs f2 g1 g2 hil hi
    repeat' (with_reducible first | refine x_ops ?_ | refine wk ?_ | ((first | refine gd1 ?_ ?_ | refine gd2 ?_ ?_ | refine gd3 ?_ ?_) <;> (first | exact @False.elim _ | intro hc)))
    refine ⟨.inr rfl, .tup [.agg [.sl l.length ((pathU h l Gs l.length).flatMap Grip.cells) tok, vint cost], vbool true], vw, ⟨fr4.out.1, fun q cs t hq ho ht1 ht2 ht3 => by (refine Eq.trans (b := M4.obj q) ?_ (fr4.out.2 q cs t hq ho ht1 ht2 ht3); repeat' (first | rfl | refine Eq.trans (put_other _ _ (by omega)) ?_))⟩, pathU h l Gs l.length, cost, true, tok, by rw [hplen.out], .inl ⟨rfl, hf.out⟩⟩
  have c1 : (i : Int) < (l.length : Int) := by omega
  have w1 := w_add1 (k := i) (by omega)
  obtain ⟨hkl, hkr⟩ := kS_ok hn.out hhas hil
  have hx := g2 hil
  subst hx
  have c2 : (kS h l Gs i : Int) < ((Gs.getD i []).length : Int) := by omega
  have gle := gl.out
  have r1 := gss_at' (l := Gs) (k := i) (by omega)
  have r2 := gs_take hkl
  have r3 := gs_len (Gs.getD i [])
  have c3 : kS h l Gs i * 2 + 2 ≤ (Gs.getD i []).length * 2 := by omega
  have hg := hn.out.grip hil hkl
  have hfl : ((Gs.getD i []).getD (kS h l Gs i) noG).fingers.length ≤ 14 := by rw [hg.2]; exact chord_len (hn.out.seq i hil).1
  have CL := clone_fn ((Gs.getD i []).getD (kS h l Gs i) noG).fingers (by omega)
  have o1 := hs.ls.tbo
  rw [hnet.out] at o1
  have z1 := hs.ls.ltt
  have x2 : ∀ q j, q < M4.next → (q < M4.next + j) = True := fun q j hq => by simp; omega
  have x3 : ∀ q j, q < M4.next → (q = M4.next + j) = False := fun q j hq => by simp; omega
  have x4 : ∀ q j, q < M4.next → (M4.next + j = q) = False := fun q j hq => by simp; omega
  have hsu : pathU h l Gs (i + 1) = pathU h l Gs i ++ [(Gs.getD i []).getD (kS h l Gs i) noG] := pathU_succ h l Gs i
  have hKN : ∀ H : List Way, HpOk H → H.Perm (wayF h l Gs i (kS h l Gs i)) → ∃ c x : Int, GtRes H = .tup [.agg [vint c, vint x, vint 0], vbool true] ∧ (i + 1 < l.length → x = (kS h l Gs (i + 1) : Int)) := fun H hH hp => kS_next hn.out hhas hil hH hp
  have hs1 := Hid.mk hs
  replace hsu := Hid.mk hsu
  replace hplen := Hid.mk hplen
  replace hfl := Hid.mk hfl
  replace hg := Hid.mk hg
  replace hKN := Hid.mk hKN
  clear hs g2
  repeat' (with_reducible first | refine x_ops ?_ | refine wk ?_ | (with_reducible refine xc (CL) ?_) | ((first | refine gd1 ?_ ?_ | refine gd2 ?_ ?_ | refine gd3 ?_ ?_) <;> (first | exact @False.elim _ | intro hc)))
  refine x_appb (n := i) (xs := (pathU h l Gs i).flatMap Grip.cells) (ys := Grip.cells ((Gs.getD i []).getD (kS h l Gs i) noG)) (k := tok) (k2 := .exact) vw (by unfold Grip.cells; exact vw) (f2.mono (fun q hq _ => (put_other _ _ (by omega)).trans (put_other _ _ (by omega))) (by show M4.next ≤ M4.next + 28; omega)) (by rw [gs_len, hplen.out]) rfl (by omega) (by unfold Go.maxLen; omega) (by show M4.next + 25 < M4.next + 28; omega) ?_
  intro tok' m5 hap' hn' hbox hobj
  replace hn' : m5.next = M4.next + 28 := hn'
  have lo : ∀ q cs ty, q < M4.next → M4.obj q = some (.box cs ty) → m5.obj q = some (.box cs ty) := fun q cs ty hq ho => hbox q cs ty ((put_other _ _ (by omega)).trans ((put_other _ _ (by omega)).trans ho)) (by show ¬ q = M4.next + 25; omega)
  have q1 := lo _ _ _ z2 f1
  have q2 := lo _ _ _ z3 g1
  have q3 := lo _ _ _ z1 o1
  have l5 : M.next < m5.next := by omega
  have l6 : M.next + 8 < m5.next := by omega
  have y2 : ¬ M.next + 8 = M.next := by omega
  have y3 : ¬ M.next = M.next + 8 := by omega
  have nb1 : tb ≠ M.next := ne_type o1 f1 (by decide)
  have hLs5 : LsM h l Gs tb nq rt rs i (m5.put M.next (.box [.sl (i + 1) ((pathU h l Gs i).flatMap Grip.cells ++ Grip.cells ((Gs.getD i []).getD (kS h l Gs i) noG)) tok', vint cost] 40)) := by
    have hh := hs1.out.ls
    refine hh.mono (Nat.le_refl _) (by show M4.next ≤ m5.next; omega) ?_ ?_ (fun y hy hyl => ?_)
    · exact ((put_other _ _ nb1).trans (lo _ _ _ z1 hh.tbo)).trans hh.tbo.symm
    · exact ((put_other _ _ (ne_type hh.nqo f1 (by decide))).trans (lo _ _ _ hh.ltn hh.nqo)).trans hh.nqo.symm
    · exact ((put_other _ _ (ne_type (hh.row y hy hyl) f1 (by decide))).trans (lo _ _ _ (hh.ltr y hyl) (hh.row y hy hyl))).trans (hh.row y hy hyl).symm
  have GS := get_sfn hn.out hil hkl hLs5
  have GE := gtPost_ex (k := kS h l Gs i) hLs5
  have hri : m5.obj (rs.getD i 0) = some (.box (nilR (Gs.getD i []).length) 150) := lo _ _ _ (hs1.out.ls.ltr i hil) (hs1.out.ls.row i (Nat.le_refl _) hil)
  replace hri := Hid.mk hri
  replace hap' := Hid.mk hap'
  replace hn' := Hid.mk hn'
  replace hLs5 := Hid.mk hLs5
  replace lo := Hid.mk lo
  clear hbox hobj f1 f2 g1 o1 CL r1 r2 r3 x2 x3 x4 z1 z2 z3
  unfold Grip.cells at GS GE
  repeat' (with_reducible first | refine x_ops ?_ | refine wk ?_ | ((first | refine gd1 ?_ ?_ | refine gd2 ?_ ?_ | refine gd3 ?_ ?_) <;> (first | exact @False.elim _ | intro hc)))
  refine x_scallR [.ptr tb 0, vint i, vint (kS h l Gs i : Int), vint 0] vw (by ((refine ve ?_; try exact True.intro)); exact GS) (by ((refine ve ?_; try exact True.intro)); exact GE) ?_
  rintro r M6 ⟨p0, ⟨H', hH, hp, rfl⟩, hLs6, fr6⟩
  obtain ⟨c', x', e, hx'⟩ := hKN.out H' hH hp
  rw [e]
  have b0 : M.next ≠ rs.getD i 0 := ne_type q1 hri.out (by decide)
  have b8 : M.next + 8 ≠ rs.getD i 0 := ne_type q2 hri.out (by decide)
  have p0' : M4.next + 28 ≤ M6.next := by have : m5.next ≤ M6.next := p0; have := hn'.out; omega
  have e6 := (fr6 M.next l5 b0).trans (put_same _ _ _)
  have e8 := (fr6 (M.next + 8) l6 b8).trans ((put_other _ _ y2).trans q2)
  have hri6 : (m5.put M.next (.box [.sl (i + 1) ((pathU h l Gs i).flatMap Grip.cells ++ Grip.cells ((Gs.getD i []).getD (kS h l Gs i) noG)) tok', vint cost] 40)).obj (rs.getD i 0) = _ := (put_other _ _ (fun e => b0 e.symm)).trans hri.out
  have ap6 := (Apb.put (o := .box [.sl (i + 1) ((pathU h l Gs i).flatMap Grip.cells ++ Grip.cells ((Gs.getD i []).getD (kS h l Gs i) noG)) tok', vint cost] 40) hap'.out q1).mono (m' := M6) (fun q hq hk => fr6 q hq (fun e => by subst e; rw [hri6] at hk; cases hk)) p0
  have fr7 : Fr M M6 := ⟨by omega, fun q cs t hq ho ht1 ht2 ht3 => by
    have h5 : m5.obj q = some (.box cs t) := lo.out q cs t (Nat.lt_of_lt_of_le hq fr4.out.1) ((fr4.out.2 q cs t hq ho ht1 ht2 ht3).trans ho)
    have h7 : q ≠ M.next := by omega
    exact (fr6 q (by show q < m5.next; have := hn'.out; omega) (ne_type h5 hri.out ht3)).trans (((put_other _ _ h7).trans h5).trans ho.symm)⟩
  replace fr7 := Hid.mk fr7
  replace hx' := Hid.mk hx'
  replace hLs6 := Hid.mk hLs6
  clear GS GE fr6 p0 e q1 q2 q3 l5 l6 hp hH
  repeat' (with_reducible first | refine x_ops ?_ | refine wk ?_ | ((first | refine gd1 ?_ ?_ | refine gd2 ?_ ?_ | refine gd3 ?_ ?_) <;> (first | exact @False.elim _ | intro hc)))
  refine nx hil ⟨vv, ⟨⟨by (show M.next ≤ M6.next; omega), fun q cs t hq ho ht1 ht2 ht3 => by (refine Eq.trans (b := M6.obj q) ?_ (fr7.out.2 q cs t hq ho ht1 ht2 ht3); repeat' (first | rfl | refine Eq.trans (put_other _ _ (by omega)) ?_))⟩, ?_, ?_, ?_, ?_⟩⟩
  · show M.next + 11 ≤ M6.next; omega
  · have hl := hLs6.out
    exact hl.mono (Nat.le_refl _) (Nat.le_refl _) (put_other _ _ (ne_type hl.tbo e8 (by decide))) (put_other _ _ (ne_type hl.nqo e8 (by decide))) (fun y hy hyl => put_other _ _ (ne_type (hl.row y hy hyl) e8 (by decide)))
  · refine ⟨tok', ?_, Apb.put ap6 e8⟩
    rw [hsu.out, List.flatMap_append, List.flatMap_singleton]
    exact (put_other _ _ (fun e => y2 e.symm)).trans e6
  · exact ⟨c', x', put_same _ _ _, hx'.out⟩
end Go.Proofs.Ytojjdkoglhecbaa
namespace Go.Proofs.Ytojjdkoglhecbaa
open Go.RowKit

/-- The least cost from a grip on, by numbers. -/
noncomputable def lst (h : Hand) (l : List Chord) (Gs : List (List Grip)) (i k : Nat) : Int := (rsT h l Gs i).getD k 0
/-- The grip k of the chord i. -/
def grp (Gs : List (List Grip)) (i k : Nat) : Grip := (Gs.getD i []).getD k noG

section
variable {h : Hand} {l : List Chord} {Gs : List (List Grip)}
theorem lst_num (hn : NetOk h l Gs) {i k : Nat} (hi : i < l.length) (hk : k < (Gs.getD i []).length) : lst h l Gs i k = -1 ∨ (0 ≤ lst h l Gs i k ∧ lst h l Gs i k ≤ 509000 * (l.length - i : Nat)) := rsT_bound hn _ i rfl hi k hk
theorem lst_last {i k : Nat} (hi : i + 1 = l.length) (hk : k < (Gs.getD i []).length) : lst h l Gs i k = ownC h (l.getD i noC) (grp Gs i k) := by
  rw [lst, rsT_at (by omega) hk, rsE, if_pos hi]; rfl
theorem wayL_has {i k q : Nat} (hq : ¬ lst h l Gs (i + 1) q = -1) (hs : StepOk h (l.getD i noC) (grp Gs i k) (l.getD (i + 1) noC) (grp Gs (i + 1) q)) : ∀ {j : Nat}, q < j →
    (ownC h (l.getD i noC) (grp Gs i k) + stepC h (l.getD i noC) (grp Gs i k) (l.getD (i + 1) noC) (grp Gs (i + 1) q) + lst h l Gs (i + 1) q, (q : Int), 0) ∈ wayL h l Gs i k j
  | 0, h0 => by omega
  | j + 1, h0 => by
    unfold lst grp at *
    rw [wayL]
    by_cases e : q = j
    · subst e
      rw [stepR_ok hs, if_neg (by rintro (h1 | h1); exact hq h1; cases h1)]
      exact List.mem_append.2 (.inr (List.mem_singleton.2 rfl))
    · have := wayL_has hq hs (j := j) (by omega)
      unfold lst grp at this
      split
      · exact this
      · exact List.mem_append.2 (.inl this)
/-- A step to a grip that leads to the end. -/
theorem lst_ub (hn : NetOk h l Gs) {i k q : Nat} (hi : i + 1 < l.length) (hk : k < (Gs.getD i []).length) (hq : q < (Gs.getD (i + 1) []).length) (h1 : ¬ lst h l Gs (i + 1) q = -1)
    (hs : StepOk h (l.getD i noC) (grp Gs i k) (l.getD (i + 1) noC) (grp Gs (i + 1) q)) :
    ¬ lst h l Gs i k = -1 ∧ lst h l Gs i k ≤ ownC h (l.getD i noC) (grp Gs i k) + stepC h (l.getD i noC) (grp Gs i k) (l.getD (i + 1) noC) (grp Gs (i + 1) q) + lst h l Gs (i + 1) q := by
  have hm := wayL_has (k := k) h1 hs hq
  have e : lst h l Gs i k = bsU h (l.getD i noC) ((Gs.getD i []).getD k noG) (l.getD (i + 1) noC) (Gs.getD (i + 1) []) (rsT h l Gs (i + 1)) (Gs.getD (i + 1) []).length := by
    rw [lst, rsT_at (by omega) hk, rsE, if_neg (by omega)]
  rcases bsU_way hn hi hk (Nat.le_refl _) with ⟨_, h2⟩ | ⟨h2, _, h3⟩
  · rw [h2] at hm; cases hm
  · have := h3 _ hm
    rw [e]; dsimp only at this; exact ⟨by omega, this⟩
/-- Where there is a way, it is one of them. -/
theorem lst_eq (hn : NetOk h l Gs) {i k : Nat} (hi : i + 1 < l.length) (hk : k < (Gs.getD i []).length) (h1 : ¬ lst h l Gs i k = -1) :
    ∃ q, q < (Gs.getD (i + 1) []).length ∧ ¬ lst h l Gs (i + 1) q = -1 ∧ StepOk h (l.getD i noC) (grp Gs i k) (l.getD (i + 1) noC) (grp Gs (i + 1) q) ∧
      lst h l Gs i k = ownC h (l.getD i noC) (grp Gs i k) + stepC h (l.getD i noC) (grp Gs i k) (l.getD (i + 1) noC) (grp Gs (i + 1) q) + lst h l Gs (i + 1) q := by
  obtain ⟨q, _, h2, h3, h4, h5⟩ := (wayF_ok hn (by omega) hk h1).2.2.2 hi
  exact ⟨q, h2, h3, h4, h5⟩
theorem lst_own (hn : NetOk h l Gs) {i k : Nat} (hi : i < l.length) (hk : k < (Gs.getD i []).length) : 0 ≤ ownC h (l.getD i noC) (grp Gs i k) := (own_bound hn.hk (hn.seq i hi).1 (hn.grip hi hk).1).1
theorem lst_step (hn : NetOk h l Gs) {i k q : Nat} (hi : i + 1 < l.length) (hk : k < (Gs.getD i []).length) (hq : q < (Gs.getD (i + 1) []).length) : 0 ≤ stepC h (l.getD i noC) (grp Gs i k) (l.getD (i + 1) noC) (grp Gs (i + 1) q) :=
  (stepC_bound hn.hk (hn.grip (by omega) hk).1 (hn.grip hi hq).1).1

/-- Is there a fingering, by numbers. -/
theorem has_iff (hl : 0 < l.length) : HasF h l Gs ↔ ∃ q, q < (Gs.getD 0 []).length ∧ ¬ lst h l Gs 0 q = -1 := by
  have hT := rsT_len (h := h) (Gs := Gs) hl
  constructor
  · intro hh
    obtain ⟨q, q1, q2, q3⟩ := rootW_ok hh
    exact ⟨q, by omega, q3⟩
  · rintro ⟨q, q1, q2⟩ e
    have := rtL_has (h := h) (l := l) (Gs := Gs) (j := (rsT h l Gs 0).length) (q := q) (by omega) q2
    rw [e] at this; cases this
/-- The cost of the best fingering. -/
theorem root_min (hl : 0 < l.length) (hh : HasF h l Gs) : (∃ q, q < (Gs.getD 0 []).length ∧ ¬ lst h l Gs 0 q = -1 ∧ (rootW h l Gs).1 = lst h l Gs 0 q) ∧ ∀ q, q < (Gs.getD 0 []).length → ¬ lst h l Gs 0 q = -1 → (rootW h l Gs).1 ≤ lst h l Gs 0 q := by
  have hT := rsT_len (h := h) (Gs := Gs) hl
  obtain ⟨q, q1, q2, q3⟩ := rootW_ok hh
  refine ⟨⟨q, by omega, q3, by rw [q1]; rfl⟩, fun p hp hpn => ?_⟩
  exact befW_cost ((bstW_ok hh).2 _ (rtL_has (h := h) (l := l) (Gs := Gs) (j := (rsT h l Gs 0).length) (q := p) (by omega) hpn))
end
end Go.Proofs.Ytojjdkoglhecbaa
namespace Go.Proofs.Ytojjdkoglhecbaa
open Go.RowKit

/-- A memory with a lister behind all that was there. -/
noncomputable def lsM (h : Hand) (l : List Chord) (Gs : List (List Grip)) (m : Mm) (H : List Way) : Mm :=
  ⟨fun q => if q < m.next then m.obj q else if q = m.next then some (.box [netE h l Gs, .gsl (m.next + 1) l.length 1, .ptr (m.next + 2) 0] 162)
    else if q = m.next + 1 then some (.box (rwN ((List.range l.length).map (m.next + 4 + ·)) Gs) 163)
    else if q = m.next + 2 then some (.box [.sl 0 [] .exact, .gsl (m.next + 3) H.length 3, .fn 110 [], vbool false] 159)
    else if q = m.next + 3 then some (.box (wyC (H ++ [])) 154)
    else some (.box (nilR (Gs.getD (q - (m.next + 4)) []).length) 150), m.next + 4 + l.length⟩
theorem lsPost_ex (h : Hand) (l : List Chord) (Gs : List (List Grip)) (m : Mm) : ∃ r M', LsPost h l Gs m r M' := by
  obtain ⟨H, h1, h2⟩ := heap_ex (rtL h l Gs (rsT h l Gs 0).length)
  have hr : ∀ y, y < l.length → ((List.range l.length).map (m.next + 4 + ·)).getD y 0 = m.next + 4 + y := fun y hy => by
    rw [List.getD_eq_getElem?_getD, List.getElem?_map, List.getElem?_range hy]; rfl
  have o : ∀ q, (lsM h l Gs m H).obj q = if q < m.next then m.obj q else if q = m.next then some (.box [netE h l Gs, .gsl (m.next + 1) l.length 1, .ptr (m.next + 2) 0] 162)
    else if q = m.next + 1 then some (.box (rwN ((List.range l.length).map (m.next + 4 + ·)) Gs) 163)
    else if q = m.next + 2 then some (.box [.sl 0 [] .exact, .gsl (m.next + 3) H.length 3, .fn 110 [], vbool false] 159)
    else if q = m.next + 3 then some (.box (wyC (H ++ [])) 154)
    else some (.box (nilR (Gs.getD (q - (m.next + 4)) []).length) 150) := fun _ => rfl
  have n : (lsM h l Gs m H).next = m.next + 4 + l.length := rfl
  refine ⟨.ptr m.next 0, lsM h l Gs m H, by omega, fun q hq => by rw [o, if_pos hq], m.next, m.next + 1, m.next + 2, (List.range l.length).map (m.next + 4 + ·), rfl, ⟨Nat.le_refl _, by omega⟩, ⟨_, by rw [o, if_neg (by omega), if_pos rfl]⟩, fun hl => ⟨⟨?_, ?_, ?_, ?_, ?_, ?_, ?_, ?_, ?_⟩, ⟨by omega, by omega⟩, .gsl (m.next + 3) H.length 3, H, ?_, .inr ⟨m.next + 3, [], rfl, by omega, ?_⟩, h1, h2⟩⟩
  · rw [o, if_neg (by omega), if_pos rfl]
  · rw [o, if_neg (by omega), if_neg (by omega), if_pos rfl]
  · intro y _ hy
    rw [hr y hy, o, if_neg (by omega), if_neg (by omega), if_neg (by omega), if_neg (by omega), if_neg (by omega), Nat.add_sub_cancel_left]
  · intro y z hyz hz
    rw [hr y (by omega), hr z hz]; omega
  · omega
  · omega
  · intro y hy; rw [hr y hy]; omega
  · omega
  · intro y hy; rw [hr y hy]; omega
  · rw [o, if_neg (by omega), if_neg (by omega), if_neg (by omega), if_pos rfl]
  · rw [o, if_neg (by omega), if_neg (by omega), if_neg (by omega), if_neg (by omega), if_pos rfl]

/-- What first answers, as a value. -/
noncomputable def fstV (r : List Grip × Int × Int) : V := .tup [.agg [tGs r.1, vint r.2.1], vint r.2.2]
set_option maxHeartbeats 4000000 in
theorem first_fn {h : Hand} {l : List Chord} {Gs : List (List Grip)} (hn : NetOk h l Gs) : Fn Try.prog Gd 70 [netE h l Gs] (fstV (fstR h l Gs)) := by
  refine Fn.of_vx0 k_hand_first (by simp) (by rw [V.pures, V.pures]; rfl) ?_
  have LS := fun m => list_sfn hn m
  have LE := fun m => lsPost_ex h l Gs m
  have FG := fun m0 M r0 (hP : LsPost h l Gs m0 r0 M) => fing_sfn hn hP
  have FE := fgPost_ex h l Gs
  unfold c_hand_first
  replace hn := Hid.mk hn
  repeat' (with_reducible first | refine x_ops ?_ | refine wk ?_ | ((first | refine gd1 ?_ ?_ | refine gd2 ?_ ?_ | refine gd3 ?_ ?_) <;> (first | exact @False.elim _ | intro hc)))
  refine x_scallR [netE h l Gs] vw (LS _) (LE _) ?_
  intro r1 M1 hP1
  have n1 : 11 ≤ M1.next := hP1.1
  have k0 : M1.obj 0 = some (.box [.sl 0 [] .exact, vint 0] 40) := (hP1.2.1 0 (Nat.zero_lt_succ 10)).trans (by (dsimp only; exact put_same _ _ _))
  replace FG := FG _ _ _ hP1
  have FE := FE M1
  clear LS LE
  replace hP1 := Hid.mk hP1
  repeat' (with_reducible first | refine x_ops ?_ | refine wk ?_ | ((first | refine gd1 ?_ ?_ | refine gd2 ?_ ?_ | refine gd3 ?_ ?_) <;> (first | exact @False.elim _ | intro hc)))
  refine x_scallR [r1, vint 0] vw FG FE ?_
  rintro r2 M2 ⟨fr, G, c, is, tok, rfl, hr⟩
  have n2 : 11 ≤ M2.next := Nat.le_trans n1 fr.1
  have k2 := (fr.2 0 _ _ (by omega) k0 (by decide) (by decide) (by decide)).trans k0
  clear FG FE k0 fr
  replace hr := Hid.mk hr
  cases is
  · have hf : fstR h l Gs = ([], 0, 62) := by rcases hr.out with ⟨h1, _⟩ | ⟨_, h1⟩
                                              · cases h1
                                              · exact h1
    rw [hf]
    repeat' (with_reducible first | refine x_ops ?_ | refine wk ?_ | ((first | refine gd1 ?_ ?_ | refine gd2 ?_ ?_ | refine gd3 ?_ ?_) <;> (first | exact @False.elim _ | intro hc)))
    exact finV_ret vv (.tup (.cons (.agg (.cons (.sl _ _ _) (.cons (.lit _) .nil))) (.cons (.lit _) .nil)))
  · have hf : fstR h l Gs = (G, c, 0) := by rcases hr.out with ⟨_, h1⟩ | ⟨h1, _⟩
                                            · exact h1
                                            · cases h1
    rw [hf]
    repeat' (with_reducible first | refine x_ops ?_ | refine wk ?_ | ((first | refine gd1 ?_ ?_ | refine gd2 ?_ ?_ | refine gd3 ?_ ?_) <;> (first | exact @False.elim _ | intro hc)))
    exact finV_ret vv (.tup (.cons (.agg (.cons (.sl _ _ _) (.cons (.lit _) .nil))) (.cons (.lit _) .nil)))

/-- What Best answers. -/
noncomputable def bstR (h : Hand) (l : List Chord) : List Grip × Int × Int := if wvE h l = 0 then fstR h l (tabG h l) else ([], 0, wvE h l)
theorem Best_fn (h : Hand) (l : List Chord) (hl : Fits l) : Fn Try.prog Gd 31 [h.val, tCs l] (fstV (bstR h l)) := by
  refine Fn.of_vx0 k_hand_Best (by simp) (by rw [V.pures, pure_hand, V.pures, pure_tCs]; rfl) ?_
  have C1 := weave_fn h l hl
  unfold wvR at C1
  unfold bstR c_hand_Best
  by_cases hw : wvE h l = 0
  · rw [if_pos hw] at C1 ⊢
    have C2 := first_fn (wv_net hl hw)
    generalize fstR h l (tabG h l) = r at *
    obtain ⟨G, c, e⟩ := r
    unfold fstV at *
    unfold netE netC at C1 C2
    unfold tGs at C2 ⊢
    unfold tCs at C2
    unfold Hand.val tCs at C1 ⊢
    clear hw
    dsimp only at *
    repeat' (with_reducible first | refine x_ops ?_ | refine wk ?_ | (with_reducible refine xc (C1) ?_) | (with_reducible refine xc (C2) ?_) | ((first | refine gd1 ?_ ?_ | refine gd2 ?_ ?_ | refine gd3 ?_ ?_) <;> (first | exact @False.elim _ | intro hc)))
    exact finV_ret vv (.tup (.cons (.agg (.cons (.sl _ _ _) (.cons (.lit _) .nil))) (.cons (.lit _) .nil)))
  · rw [if_neg hw] at C1 ⊢
    have e1 : (wvE h l == 0) = false := by rw [beq_eq_false_iff_ne]; exact hw
    clear hw
    unfold fstV tGs
    unfold Hand.val tCs at C1 ⊢
    dsimp only
    repeat' (with_reducible first | refine x_ops ?_ | refine wk ?_ | (with_reducible refine xc (C1) ?_) | ((first | refine gd1 ?_ ?_ | refine gd2 ?_ ?_ | refine gd3 ?_ ?_) <;> (first | exact @False.elim _ | intro hc)))
    exact finV_ret vv (.tup (.cons (.agg (.cons (.sl _ _ _) (.cons (.lit _) .nil))) (.cons (.lit _) .nil)))
end Go.Proofs.Ytojjdkoglhecbaa
namespace Go.Proofs.Ytojjdkoglhecbaa
open Go.RowKit

/-- A net of a second hand with at least the same grips and steps. -/
structure Nle (h h' : Hand) (l : List Chord) (Gs Gs' : List (List Grip)) : Prop where
  gr : ∀ i, i < l.length → ∀ k, k < (Gs.getD i []).length → ∃ k', k' < (Gs'.getD i []).length ∧ grp Gs' i k' = grp Gs i k
  st : ∀ i, i + 1 < l.length → ∀ k, k < (Gs.getD i []).length → ∀ q, q < (Gs.getD (i + 1) []).length → StepOk h (l.getD i noC) (grp Gs i k) (l.getD (i + 1) noC) (grp Gs (i + 1) q) → StepOk h' (l.getD i noC) (grp Gs i k) (l.getD (i + 1) noC) (grp Gs (i + 1) q)
/-- Its costs are no greater. -/
structure Cle (h h' : Hand) (l : List Chord) (Gs : List (List Grip)) : Prop where
  ow : ∀ i, i < l.length → ∀ k, k < (Gs.getD i []).length → ownC h' (l.getD i noC) (grp Gs i k) ≤ ownC h (l.getD i noC) (grp Gs i k)
  sc : ∀ i, i + 1 < l.length → ∀ k, k < (Gs.getD i []).length → ∀ q, q < (Gs.getD (i + 1) []).length → stepC h' (l.getD i noC) (grp Gs i k) (l.getD (i + 1) noC) (grp Gs (i + 1) q) ≤ stepC h (l.getD i noC) (grp Gs i k) (l.getD (i + 1) noC) (grp Gs (i + 1) q)

section
variable {h h' : Hand} {l : List Chord} {Gs Gs' : List (List Grip)}
theorem nle_lst (hn : NetOk h l Gs) (hn' : NetOk h' l Gs') (hN : Nle h h' l Gs Gs') : ∀ (j i : Nat), l.length - i = j → i < l.length → ∀ k k', k < (Gs.getD i []).length → k' < (Gs'.getD i []).length → grp Gs' i k' = grp Gs i k → ¬ lst h l Gs i k = -1 →
    ¬ lst h' l Gs' i k' = -1 ∧ (Cle h h' l Gs → lst h' l Gs' i k' ≤ lst h l Gs i k)
  | 0, i, hj, hi => by omega
  | j + 1, i, hj, hi => by
    intro k k' hk hk' hg h1
    by_cases hlast : i + 1 = l.length
    · have h2 := lst_own hn' hi hk'
      rw [lst_last hlast hk, lst_last hlast hk', hg]
      rw [hg] at h2
      exact ⟨by omega, fun hC => hC.ow i hi k hk⟩
    · have hi1 : i + 1 < l.length := by omega
      obtain ⟨q, q1, q2, q3, q4⟩ := lst_eq hn hi1 hk h1
      obtain ⟨q', q5, q6⟩ := hN.gr (i + 1) hi1 q q1
      obtain ⟨q7, q8⟩ := nle_lst hn hn' hN j (i + 1) (by omega) hi1 q q' q1 q5 q6 q2
      have hs := hN.st i hi1 k hk q q1 q3
      rw [← hg, ← q6] at hs
      obtain ⟨q9, q10⟩ := lst_ub hn' hi1 hk' q5 q7 hs
      refine ⟨q9, fun hC => ?_⟩
      have c1 := hC.ow i hi k hk
      have c2 := hC.sc i hi1 k hk q q1
      have c3 := q8 hC
      rw [hg, q6] at q10
      omega
theorem nle_best (hn : NetOk h l Gs) (hn' : NetOk h' l Gs') (hN : Nle h h' l Gs Gs') (hl : 0 < l.length) (hh : HasF h l Gs) : HasF h' l Gs' ∧ (Cle h h' l Gs → (rootW h' l Gs').1 ≤ (rootW h l Gs).1) := by
  obtain ⟨⟨q, q1, q2, q3⟩, _⟩ := root_min hl hh
  obtain ⟨q', p1, p2⟩ := hN.gr 0 hl q q1
  obtain ⟨p3, p4⟩ := nle_lst hn hn' hN _ 0 rfl hl q q' q1 p1 p2 q2
  have hh' : HasF h' l Gs' := (has_iff hl).2 ⟨q', p1, p3⟩
  refine ⟨hh', fun hC => ?_⟩
  have := (root_min hl hh').2 q' p1 p3
  have := p4 hC
  omega
end

/-- Best answers a fingering. -/
theorem bst_yes {h : Hand} {l : List Chord} (hw : wvE h l = 0) (hh : 0 < l.length → HasF h l (tabG h l)) : (bstR h l).2.2 = 0 ∧ (bstR h l).2.1 = if l.length = 0 then 0 else (rootW h l (tabG h l)).1 := by
  rw [bstR, if_pos hw, fstR]
  by_cases hl : l.length = 0
  · rw [if_pos hl, if_pos hl]; exact ⟨rfl, rfl⟩
  · rw [if_neg hl, if_neg hl, if_pos (hh (by omega))]; exact ⟨rfl, rfl⟩
/-- There is none. -/
theorem bst_no {h : Hand} {l : List Chord} (hw : wvE h l = 0) (hl : 0 < l.length) (hh : ¬ HasF h l (tabG h l)) : bstR h l = ([], 0, 62) := by
  rw [bstR, if_pos hw, fstR, if_neg (by omega), if_neg hh]
theorem bst_err {h : Hand} {l : List Chord} (hw : ¬ wvE h l = 0) : bstR h l = ([], 0, wvE h l) := by rw [bstR, if_neg hw]
theorem bst_ok {h : Hand} {l : List Chord} (hb : (bstR h l).2.2 = 0) : wvE h l = 0 ∧ (0 < l.length → HasF h l (tabG h l)) := by
  by_cases hw : wvE h l = 0
  · refine ⟨hw, fun hl => ?_⟩
    by_cases hh : HasF h l (tabG h l)
    · exact hh
    · rw [bst_no hw hl hh] at hb; cases hb
  · rw [bst_err hw] at hb; exact absurd hb hw
theorem bst_num {h : Hand} {l : List Chord} (hl : Fits l) (hb : (bstR h l).2.2 = 0) : 0 ≤ (bstR h l).2.1 ∧ (bstR h l).2.1 ≤ 203600000 := by
  obtain ⟨hw, hh⟩ := bst_ok hb
  have b := (bst_yes hw hh).2
  rw [b]
  split
  · exact ⟨Int.le_refl _, by omega⟩
  · rename_i hz
    have hp : 0 < l.length := by omega
    obtain ⟨⟨q, q1, q2, q3⟩, _⟩ := root_min hp (hh hp)
    have hn := wv_net hl hw
    have h4 := hn.len
    rw [q3]
    rcases lst_num hn hp q1 with h1 | h1
    · exact absurd h1 q2
    · exact ⟨h1.1, by omega⟩
/-! ### Lighter -/
/-- The second hand is the first one with lower weights. -/
structure Light (h h' : Hand) : Prop where
  low : h'.low = h.low
  high : h'.high = h.high
  barre : h'.barre = h.barre
  top : h'.top = h.top
  jump : h'.jump = h.jump
  shift : 0 ≤ h'.shift ∧ h'.shift ≤ h.shift
  lift : 0 ≤ h'.lift ∧ h'.lift ≤ h.lift
  bar : 0 ≤ h'.bar ∧ h'.bar ≤ h.bar
  stretch : 0 ≤ h'.stretch ∧ h'.stretch ≤ h.stretch
  slide : 0 ≤ h'.slide ∧ h'.slide ≤ h.slide
theorem light_ok {h h' : Hand} (hL : Light h h') (hk : HandOk h) : HandOk h' := by
  obtain ⟨s1, s2⟩ := hL.shift
  obtain ⟨s3, s4⟩ := hL.lift
  obtain ⟨s5, s6⟩ := hL.bar
  obtain ⟨s7, s8⟩ := hL.stretch
  obtain ⟨s9, s10⟩ := hL.slide
  have := hk.shift
  have := hk.lift
  have := hk.bar
  have := hk.stretch
  have := hk.slide
  refine ⟨?_, ?_, ?_, ?_, ?_, ?_, ?_, ?_, ?_, ⟨s1, by omega⟩, ⟨s3, by omega⟩, ⟨s5, by omega⟩, ⟨s7, by omega⟩, ⟨s9, by omega⟩⟩
  · rw [hL.low]; exact hk.n1
  · rw [hL.low]; exact hk.n4
  · rw [hL.low, hL.high]; exact hk.nh
  · rw [hL.low, hL.barre]; exact hk.nb
  · rw [hL.low, hL.high]; exact hk.each
  · rw [hL.low]; exact hk.al
  · rw [hL.high]; exact hk.ah
  · rw [hL.top]; exact hk.top
  · rw [hL.jump]; exact hk.jump
theorem light_grp {h h' : Hand} (hL : Light h h') (c : Chord) : grpA h' c = grpA h c := by
  obtain ⟨lo, hi, ba, to, ju, a, b, d, e, f⟩ := h
  obtain ⟨lo', hi', ba', to', ju', a', b', d', e', f'⟩ := h'
  obtain ⟨rfl, rfl, rfl, rfl, rfl, _⟩ := hL
  have hf : ∀ g : Grip, FitG ⟨lo', hi', ba', to', ju', a', b', d', e', f'⟩ c g ↔ FitG ⟨lo', hi', ba', to', ju', a, b, d, e, f⟩ c g := fun g =>
    ⟨fun x => ⟨x.pos, x.len, x.fin, x.rch, x.agr, x.spn⟩, fun x => ⟨x.pos, x.len, x.fin, x.rch, x.agr, x.spn⟩⟩
  have hb : fitB ⟨lo', hi', ba', to', ju', a', b', d', e', f'⟩ c = fitB ⟨lo', hi', ba', to', ju', a, b, d, e, f⟩ c := by
    funext g
    rw [Bool.eq_iff_iff, fit_true, fit_true]; exact hf g
  have hT : ∀ (p : Int) (k : Nat) (F : List Int), fitT ⟨lo', hi', ba', to', ju', a', b', d', e', f'⟩ c p k F = fitT ⟨lo', hi', ba', to', ju', a, b, d, e, f⟩ c p k F := by
    intro p k
    induction k with
    | zero => intro F; rw [fitT, fitT, hb]
    | succ k ih => intro F; rw [fitT, fitT]; congr 1; funext x; exact ih _
  rw [grpA, grpA, fitP, fitP]
  congr 1
  funext p; exact hT _ _ _
theorem dist_pos (a b : Int) : 0 ≤ dist a b := by unfold dist; split <;> omega
theorem ownT_light {h h' : Hand} (hL : Light h h') (c : Chord) (g : Grip) (k : Nat) : ownT h' c g k ≤ ownT h c g k := by
  rw [ownT, ownT]
  split
  · omega
  · have h1 := Int.mul_le_mul_of_nonneg_right hL.stretch.2 (dist_pos ((plF c g k).getD 0 (0, 0)).2 (g.pos + ((k + 1 : Nat) : Int) - 1))
    have h2 := hL.bar
    split <;> omega
theorem ownU_light {h h' : Hand} (hL : Light h h') (c : Chord) (g : Grip) : ∀ k, ownU h' c g k ≤ ownU h c g k
  | 0 => Int.le_refl _
  | k + 1 => by
    have h1 := ownU_light hL c g k
    have h2 := ownT_light hL c g k
    rw [ownU, ownU]; omega
theorem ownC_light {h h' : Hand} (hL : Light h h') (c : Chord) (g : Grip) : ownC h' c g ≤ ownC h c g := by
  rw [ownC, ownC, hL.low]; exact ownU_light hL c g _
theorem slU_light {h h' : Hand} (hL : Light h h') (a b : Chord) (g k : Grip) : ∀ f, slU h' a g b k f ≤ slU h a g b k f
  | 0 => Int.le_refl _
  | f + 1 => by
    have h1 := slU_light hL a b g k f
    have h2 : slT h' a g b k f ≤ slT h a g b k f := by
      rw [slT, slT]; split
      · exact hL.slide.2
      · exact Int.le_refl _
    rw [slU, slU]; omega
theorem stepC_light {h h' : Hand} (hL : Light h h') (a b : Chord) (g k : Grip) : stepC h' a g b k ≤ stepC h a g b k := by
  have h1 := Int.mul_le_mul_of_nonneg_right hL.shift.2 (dist_pos g.pos k.pos)
  have h2 := hL.lift
  have h3 := slU_light hL a b g k h.low.length
  rw [stepC, stepC, hL.low]
  split <;> split <;> omega
theorem light_net {h h' : Hand} {l : List Chord} (hL : Light h h') : tabG h' l = tabG h l := by
  rw [tabG, tabG]
  exact List.map_congr_left fun c _ => light_grp hL c
theorem light_wv {h h' : Hand} {l : List Chord} (hL : Light h h') (hk : HandOk h) : wvE h' l = wvE h l := by
  have e1 : chkE h = 0 := by unfold chkE; simp [hk]
  have e2 : chkE h' = 0 := by unfold chkE; simp [light_ok hL hk]
  have e3 : bothE h' l = bothE h l := by rw [bothE, bothE, if_pos e1, if_pos e2]
  rw [wvE, wvE, e3]
  simp only [light_grp hL]
theorem light_nle {h h' : Hand} {l : List Chord} {Gs : List (List Grip)} (hL : Light h h') : Nle h h' l Gs Gs ∧ Nle h' h l Gs Gs ∧ Cle h h' l Gs :=
  ⟨⟨fun _ _ k hk => ⟨k, hk, rfl⟩, fun _ _ _ _ _ _ hs => ⟨hs.1, by rw [hL.jump]; exact hs.2⟩⟩, ⟨fun _ _ k hk => ⟨k, hk, rfl⟩, fun _ _ _ _ _ _ hs => ⟨hs.1, by rw [← hL.jump]; exact hs.2⟩⟩,
    ⟨fun _ _ _ _ => ownC_light hL _ _, fun _ _ _ _ _ _ => stepC_light hL _ _ _ _⟩⟩
/-- Lower weights: the same answer, no dearer. -/
theorem light_best {h h' : Hand} {l : List Chord} (hL : Light h h') (hk : HandOk h) (hl : Fits l) : (bstR h l).2.2 = (bstR h' l).2.2 ∧ ((bstR h l).2.2 = 0 → (bstR h' l).2.1 ≤ (bstR h l).2.1) := by
  have hw := light_wv (l := l) hL hk
  by_cases h0 : wvE h l = 0
  case neg => rw [bst_err h0, bst_err (by rw [hw]; exact h0)]; exact ⟨hw.symm, fun e => absurd e h0⟩
  have h0' : wvE h' l = 0 := by rw [hw]; exact h0
  have hn := wv_net hl h0
  have hn' := wv_net hl h0'
  have ht := light_net (l := l) hL
  rw [ht] at hn'
  obtain ⟨n1, n2, n3⟩ := light_nle (l := l) (Gs := tabG h l) hL
  by_cases hz : l.length = 0
  · have b1 := bst_yes (l := l) h0 (fun hp => by omega)
    have b2 := bst_yes (l := l) h0' (fun hp => by omega)
    rw [if_pos hz] at b1 b2
    rw [b1.1, b1.2, b2.1, b2.2]
    exact ⟨rfl, fun _ => Int.le_refl _⟩
  have hz' : 0 < l.length := by omega
  by_cases hh : HasF h l (tabG h l)
  · obtain ⟨p1, p2⟩ := nle_best hn hn' n1 hz' hh
    have b1 := bst_yes (l := l) h0 (fun _ => hh)
    have b2 := bst_yes (l := l) h0' (fun _ => by rw [ht]; exact p1)
    rw [if_neg hz] at b1 b2
    rw [b1.1, b1.2, b2.1, b2.2, ht]
    exact ⟨rfl, fun _ => p2 n3⟩
  · have hh' : ¬ HasF h' l (tabG h' l) := fun x => by
      rw [ht] at x
      exact hh (nle_best hn' hn n2 hz' x).1
    rw [bst_no h0 hz' hh, bst_no h0' hz' hh']
    exact ⟨rfl, fun e => by cases e⟩
end Go.Proofs.Ytojjdkoglhecbaa
namespace Go.Proofs.Ytojjdkoglhecbaa
open Go.RowKit
set_option maxRecDepth 100000

abbrev c_theorbolaw06_HandWeights_p1 : VC := (.seq (.ops 0 [oo 24 (.call 28) [], oo 4 .mv [.t 24]]) .ret)
abbrev c_theorbolaw06_HandWeights_p2 : VC := (.seq (.ops 0 [oo 88 .mv [.t 9], oo 89 .mv [.t 11], oo 90 (.bin .eql) [.t 88, .t 89], oo 91 .mv [.t 90], og 92 91 true .mv [.t 9], og 93 91 true (.bin .neq) [.t 92, kk 0], og 94 91 true .mv [.t 93], og 95 94 false (.fldA 1) [.t 10], og 96 94 false .ld1 [.t 95], og 97 94 false (.fldA 1) [.t 8], og 98 94 false .ld1 [.t 97], og 99 94 false (.bin .leq) [.t 96, .t 98], og 100 91 true .pick [.t 94, (.c (.lit (.bool true))), .t 99], oo 101 .pick [.t 91, .t 100, (.c (.lit (.bool false)))], oo 102 .mv [.t 101], og 103 102 true (.call 28) [], oo 104 .pick [.t 102, .t 103, (.c (.lit (.bool false)))], oo 4 .mv [.t 104]]) .ret)
abbrev c_theorbolaw06_HandWeights_p3 : VC := (.seq (.ops 9 [oo 83 (.ldA 10) [.t 7], oo 84 .mv [.t 6], oo 85 (.call 31) [.t 83, .t 84], oo 82 .mv [.t 85], oo 86 (.ext 0) [.t 82], oo 87 (.ext 1) [.t 82], ⟨(some 10), none, (.alloc 40 [(.sl 0 [] .exact), li 0]), [], none⟩, ⟨none, none, (.st 2), [.t 10, .t 86], none⟩, oo 11 .mv [.t 87]]) c_theorbolaw06_HandWeights_p2)
abbrev c_theorbolaw06_HandWeights_p4 : VC := (.seq (.ops 9 [oo 77 (.ldA 10) [.t 5], oo 78 .mv [.t 6], oo 79 (.call 31) [.t 77, .t 78], oo 76 .mv [.t 79], oo 80 (.ext 0) [.t 76], oo 81 (.ext 1) [.t 76], ⟨(some 8), none, (.alloc 40 [(.sl 0 [] .exact), li 0]), [], none⟩, ⟨none, none, (.st 2), [.t 8, .t 80], none⟩, oo 9 .mv [.t 81]]) c_theorbolaw06_HandWeights_p3)
abbrev c_theorbolaw06_HandWeights_p5 : VC := (.seq (.ops 0 [oo 66 (.fldA 9) [.t 7], od 67 .ld1 [.t 66] [0], oo 68 (.ixAA 5 1) [.t 3, kk 4], od 69 .ld1 [.t 68] [2], oo 70 (.fldA 9) [.t 5], od 71 .ld1 [.t 70] [4], oo 72 (.bin .add) [.t 71, kk 1], od 73 (.call 30) [.t 69, .t 72] [2, 3, 4, 5, 6], oo 74 (.bin .sub) [.t 67, .t 73], oo 75 (.fldA 9) [.t 7], ⟨none, none, (.st 1), [.t 75, .t 74], none⟩]) c_theorbolaw06_HandWeights_p4)
abbrev c_theorbolaw06_HandWeights_p6 : VC := (.seq (.ops 0 [oo 56 (.fldA 8) [.t 7], od 57 .ld1 [.t 56] [0], oo 58 (.ixAA 5 1) [.t 3, kk 3], od 59 .ld1 [.t 58] [2], oo 60 (.fldA 8) [.t 5], od 61 .ld1 [.t 60] [4], oo 62 (.bin .add) [.t 61, kk 1], od 63 (.call 30) [.t 59, .t 62] [2, 3, 4, 5, 6], oo 64 (.bin .sub) [.t 57, .t 63], oo 65 (.fldA 8) [.t 7], ⟨none, none, (.st 1), [.t 65, .t 64], none⟩]) c_theorbolaw06_HandWeights_p5)
abbrev c_theorbolaw06_HandWeights_p7 : VC := (.seq (.ops 0 [oo 46 (.fldA 7) [.t 7], od 47 .ld1 [.t 46] [0], oo 48 (.ixAA 5 1) [.t 3, kk 2], od 49 .ld1 [.t 48] [2], oo 50 (.fldA 7) [.t 5], od 51 .ld1 [.t 50] [4], oo 52 (.bin .add) [.t 51, kk 1], od 53 (.call 30) [.t 49, .t 52] [2, 3, 4, 5, 6], oo 54 (.bin .sub) [.t 47, .t 53], oo 55 (.fldA 7) [.t 7], ⟨none, none, (.st 1), [.t 55, .t 54], none⟩]) c_theorbolaw06_HandWeights_p6)
abbrev c_theorbolaw06_HandWeights_p8 : VC := (.seq (.ops 0 [oo 36 (.fldA 6) [.t 7], od 37 .ld1 [.t 36] [0], oo 38 (.ixAA 5 1) [.t 3, kk 1], od 39 .ld1 [.t 38] [2], oo 40 (.fldA 6) [.t 5], od 41 .ld1 [.t 40] [4], oo 42 (.bin .add) [.t 41, kk 1], od 43 (.call 30) [.t 39, .t 42] [2, 3, 4, 5, 6], oo 44 (.bin .sub) [.t 37, .t 43], oo 45 (.fldA 6) [.t 7], ⟨none, none, (.st 1), [.t 45, .t 44], none⟩]) c_theorbolaw06_HandWeights_p7)
abbrev c_theorbolaw06_HandWeights_p9 : VC := (.seq (.ops 0 [oo 26 (.fldA 5) [.t 7], od 27 .ld1 [.t 26] [0], oo 28 (.ixAA 5 1) [.t 3, kk 0], od 29 .ld1 [.t 28] [2], oo 30 (.fldA 5) [.t 5], od 31 .ld1 [.t 30] [4], oo 32 (.bin .add) [.t 31, kk 1], od 33 (.call 30) [.t 29, .t 32] [2, 3, 4, 5, 6], oo 34 (.bin .sub) [.t 27, .t 33], oo 35 (.fldA 5) [.t 7], ⟨none, none, (.st 1), [.t 35, .t 34], none⟩]) c_theorbolaw06_HandWeights_p8)
abbrev c_theorbolaw06_HandWeights_p10 : VC := (.seq (.ops 3 [oo 25 (.ldA 10) [.t 5], ⟨(some 7), none, (.alloc 25 [(.sl 0 [] .exact), (.sl 0 [] .exact), (.sl 0 [] .exact), li 0, li 0, li 0, li 0, li 0, li 0, li 0]), [], none⟩, ⟨none, none, (.st 10), [.t 7, .t 25], none⟩]) c_theorbolaw06_HandWeights_p9)
abbrev c_theorbolaw06_HandWeights_p11 : VC := (.seq (.seq (.ops 0 [oo 16 (.ldA 10) [.t 5], oo 17 (.call 25) [.t 16], oo 18 (.bin .neq) [.t 17, kk 0], oo 19 .mv [.t 18], og 20 19 false (.ldA 10) [.t 5], og 21 19 false .mv [.t 6], og 22 19 false (.call 29) [.t 20, .t 21], oo 23 .pick [.t 19, (.c (.lit (.bool true))), .t 22]]) (.cond (.t 23) c_theorbolaw06_HandWeights_p1 .skip)) c_theorbolaw06_HandWeights_p10)
abbrev c_theorbolaw06_HandWeights_p12 : VC := (.seq (.ops 7 [oo 12 (.fldA 0) [.t 2], od 13 (.ldA 10) [.t 12] [0], oo 14 (.fldA 10) [.t 2], od 15 .ld1 [.t 14] [2], ⟨(some 5), none, (.alloc 25 [(.sl 0 [] .exact), (.sl 0 [] .exact), (.sl 0 [] .exact), li 0, li 0, li 0, li 0, li 0, li 0, li 0]), [], (some [])⟩, ⟨none, none, (.st 10), [.t 5, .t 13], (some [4])⟩, oo 6 .mv [.t 15]]) c_theorbolaw06_HandWeights_p11)
def c_theorbolaw06_HandWeights : VC := (.seq (.ops 3 [oo 2 (.box 35) [.t 0], oo 3 (.box 36) [.t 1], oo 4 .mv [(.c (.lit (.bool false)))]]) c_theorbolaw06_HandWeights_p12)
theorem k_theorbolaw06_HandWeights : Comp Try.prog nobx gtab 4 105 c_theorbolaw06_HandWeights [.t 4] := ⟨⟨Try.f4, _, Try.func4, rfl, rfl, kr, kr⟩⟩
abbrev c_theorbolaw06_HandCut_p1 : VC := (.seq (.ops 0 [oo 19 (.call 28) [], oo 4 .mv [.t 19]]) .ret)
abbrev c_theorbolaw06_HandCut_p2 : VC := (.seq (.ops 0 [oo 28 (.call 28) [], oo 4 .mv [.t 28]]) .ret)
abbrev c_theorbolaw06_HandCut_p3 : VC := (.seq (.ops 0 [oo 50 .mv [.t 8], oo 51 (.bin .eql) [.t 50, kk 0], oo 52 .mv [.t 51], og 53 52 true .mv [.t 11], og 54 52 true (.bin .eql) [.t 53, kk 0], oo 55 .pick [.t 52, .t 54, (.c (.lit (.bool false)))], oo 56 .mv [.t 55], og 57 56 true (.fldA 1) [.t 7], og 58 56 true .ld1 [.t 57], og 59 56 true (.fldA 1) [.t 9], og 60 56 true .ld1 [.t 59], og 61 56 true (.fldA 1) [.t 10], og 62 56 true .ld1 [.t 61], og 63 56 true (.bin .add) [.t 60, .t 62], og 64 56 true (.bin .geq) [.t 58, .t 63], oo 65 .pick [.t 56, .t 64, (.c (.lit (.bool false)))], oo 66 .mv [.t 65], og 67 66 true (.call 28) [], oo 68 .pick [.t 66, .t 67, (.c (.lit (.bool false)))], oo 4 .mv [.t 68]]) .ret)
abbrev c_theorbolaw06_HandCut_p4 : VC := (.seq (.ops 11 [od 43 (.ldA 10) [.t 5] [], oo 44 .mv [.t 6], oo 45 .mv [.t 1], oo 46 (.slc 3 true false) [.t 44, .t 45], od 47 (.call 31) [.t 43, .t 46] [0, 1, 2, 3], oo 42 .mv [.t 47], oo 48 (.ext 0) [.t 42], oo 49 (.ext 1) [.t 42], ⟨(some 10), none, (.alloc 40 [(.sl 0 [] .exact), li 0]), [], (some [])⟩, ⟨none, none, (.st 2), [.t 10, .t 48], none⟩, oo 11 .mv [.t 49]]) c_theorbolaw06_HandCut_p3)
abbrev c_theorbolaw06_HandCut_p5 : VC := (.seq (.ops 11 [od 35 (.ldA 10) [.t 5] [], oo 36 .mv [.t 6], oo 37 .mv [.t 1], oo 38 (.slc 3 false true) [.t 36, .t 37], od 39 (.call 31) [.t 35, .t 38] [0, 1, 2, 3], oo 34 .mv [.t 39], oo 40 (.ext 0) [.t 34], oo 41 (.ext 1) [.t 34], ⟨(some 9), none, (.alloc 40 [(.sl 0 [] .exact), li 0]), [], (some [])⟩, ⟨none, none, (.st 2), [.t 9, .t 40], none⟩, oo 8 .mv [.t 41]]) c_theorbolaw06_HandCut_p4)
abbrev c_theorbolaw06_HandCut_p6 : VC := (.seq (.ops 0 [oo 29 .mv [.t 1], oo 30 .mv [.t 6], oo 31 .len [.t 30], oo 32 (.bin .add) [.t 31, kk 1], oo 33 (.call 30) [.t 29, .t 32], oo 1 .mv [.t 33]]) c_theorbolaw06_HandCut_p5)
abbrev c_theorbolaw06_HandCut_p7 : VC := (.seq (.seq (.ops 0 [oo 26 .mv [.t 8], oo 27 (.bin .neq) [.t 26, kk 0]]) (.cond (.t 27) c_theorbolaw06_HandCut_p2 .skip)) c_theorbolaw06_HandCut_p6)
abbrev c_theorbolaw06_HandCut_p8 : VC := (.seq (.ops 9 [oo 21 (.ldA 10) [.t 5], oo 22 .mv [.t 6], oo 23 (.call 31) [.t 21, .t 22], oo 20 .mv [.t 23], oo 24 (.ext 0) [.t 20], oo 25 (.ext 1) [.t 20], ⟨(some 7), none, (.alloc 40 [(.sl 0 [] .exact), li 0]), [], none⟩, ⟨none, none, (.st 2), [.t 7, .t 24], none⟩, oo 8 .mv [.t 25]]) c_theorbolaw06_HandCut_p7)
abbrev c_theorbolaw06_HandCut_p9 : VC := (.seq (.seq (.ops 0 [oo 16 (.ldA 10) [.t 5], oo 17 .mv [.t 6], oo 18 (.call 29) [.t 16, .t 17]]) (.cond (.t 18) c_theorbolaw06_HandCut_p1 .skip)) c_theorbolaw06_HandCut_p8)
abbrev c_theorbolaw06_HandCut_p10 : VC := (.seq (.ops 7 [oo 12 (.fldA 0) [.t 2], od 13 (.ldA 10) [.t 12] [0], oo 14 (.fldA 10) [.t 2], od 15 .ld1 [.t 14] [2], ⟨(some 5), none, (.alloc 25 [(.sl 0 [] .exact), (.sl 0 [] .exact), (.sl 0 [] .exact), li 0, li 0, li 0, li 0, li 0, li 0, li 0]), [], (some [])⟩, ⟨none, none, (.st 10), [.t 5, .t 13], (some [4])⟩, oo 6 .mv [.t 15]]) c_theorbolaw06_HandCut_p9)
def c_theorbolaw06_HandCut : VC := (.seq (.ops 2 [oo 2 (.box 35) [.t 0], oo 4 .mv [(.c (.lit (.bool false)))]]) c_theorbolaw06_HandCut_p10)
theorem k_theorbolaw06_HandCut : Comp Try.prog nobx gtab 5 69 c_theorbolaw06_HandCut [.t 4] := ⟨⟨Try.f5, _, Try.func5, rfl, rfl, kr, kr⟩⟩
abbrev c_theorbolaw06_HandCertificate_p1 : VC := (.seq (.ops 0 [oo 25 (.call 28) [], oo 6 .mv [.t 25]]) .ret)
abbrev c_theorbolaw06_HandCertificate_p2 : VC := (.seq (.ops 0 [oo 34 (.call 28) [], oo 6 .mv [.t 34]]) .ret)
abbrev c_theorbolaw06_HandCertificate_p3 : VC := (.seq (.ops 0 [oo 6 .mv [(.c (.lit (.bool false)))]]) .ret)
abbrev c_theorbolaw06_HandCertificate_p4 : VC := (.seq (.ops 0 [oo 62 .mv [.t 13], oo 63 (.un .not) [.t 62], oo 64 .mv [.t 63], og 65 64 false .mv [.t 15], oo 66 .pick [.t 64, (.c (.lit (.bool true))), .t 65], oo 67 .mv [.t 66], og 68 67 false .mv [.t 14], og 69 67 false (.bin .neq) [.t 68, kk 0], oo 70 .pick [.t 67, (.c (.lit (.bool true))), .t 69], oo 71 .mv [.t 70], og 72 71 false .mv [.t 16], og 73 71 false (.bin .neq) [.t 72, kk 0], oo 74 .pick [.t 71, (.c (.lit (.bool true))), .t 73]]) (.cond (.t 74) c_theorbolaw06_HandCertificate_p3 .skip))
abbrev c_theorbolaw06_HandCertificate_p5 : VC := (.seq (.ops 0 [oo 53 (.ldA 10) [.t 7], oo 54 .mv [.t 8], oo 55 .mv [.t 9], oo 56 (.fldA 1) [.t 11], oo 57 .ld1 [.t 56], oo 58 (.bin .add) [.t 57, kk 1], oo 59 (.call 51) [.t 53, .t 54, .t 55, .t 58], oo 52 .mv [.t 59], oo 60 (.ext 0) [.t 52], oo 61 (.ext 1) [.t 52], oo 15 .mv [.t 60], oo 16 .mv [.t 61]]) c_theorbolaw06_HandCertificate_p4)
abbrev c_theorbolaw06_HandCertificate_p6 : VC := (.seq (.ops 0 [oo 44 (.ldA 10) [.t 7], oo 45 .mv [.t 8], oo 46 .mv [.t 9], oo 47 (.fldA 1) [.t 11], oo 48 .ld1 [.t 47], oo 49 (.call 51) [.t 44, .t 45, .t 46, .t 48], oo 43 .mv [.t 49], oo 50 (.ext 0) [.t 43], oo 51 (.ext 1) [.t 43], oo 13 .mv [.t 50], oo 14 .mv [.t 51]]) c_theorbolaw06_HandCertificate_p5)
abbrev c_theorbolaw06_HandCertificate_p7 : VC := (.seq (.ops 0 [oo 6 .mv [(.c (.lit (.bool false)))]]) .ret)
abbrev c_theorbolaw06_HandCertificate_p8 : VC := (.seq (.ops 0 [oo 100 (.call 28) [], oo 6 .mv [.t 100]]) .ret)
abbrev c_theorbolaw06_HandCertificate_p9 : VC := (.seq (.seq (.ops 0 [oo 85 .mv [.t 10], oo 86 (.bin .neq) [.t 85, kk 0], oo 87 .mv [.t 86], og 88 87 false .mv [.t 17], og 89 87 false .mv [.t 88], og 90 89 true .mv [.t 12], og 91 89 true (.bin .eql) [.t 90, kk 0], og 92 87 false .pick [.t 89, .t 91, (.c (.lit (.bool false)))], og 93 87 false .mv [.t 92], og 94 93 true (.fldA 1) [.t 11], og 95 93 true .ld1 [.t 94], og 96 93 true .mv [.t 2], og 97 93 true (.bin .lss) [.t 95, .t 96], og 98 87 false .pick [.t 93, .t 97, (.c (.lit (.bool false)))], oo 99 .pick [.t 87, (.c (.lit (.bool true))), .t 98]]) (.cond (.t 99) c_theorbolaw06_HandCertificate_p7 .skip)) c_theorbolaw06_HandCertificate_p8)
abbrev c_theorbolaw06_HandCertificate_p10 : VC := (.seq (.ops 0 [od 76 (.ldA 10) [.t 7] [], oo 77 .mv [.t 8], oo 78 .mv [.t 9], oo 79 .mv [.t 1], od 80 (.call 50) [.t 78, .t 79] [2, 3], oo 81 .mv [.t 2], oo 82 (.call 51) [.t 76, .t 77, .t 80, .t 81], oo 75 .mv [.t 82], oo 83 (.ext 0) [.t 75], oo 84 (.ext 1) [.t 75], oo 17 .mv [.t 83], oo 10 .mv [.t 84]]) c_theorbolaw06_HandCertificate_p9)
abbrev c_theorbolaw06_HandCertificate_p11 : VC := (.seq (.seq (.ops 0 [oo 41 .mv [.t 12], oo 42 (.bin .eql) [.t 41, kk 0]]) (.cond (.t 42) c_theorbolaw06_HandCertificate_p6 .skip)) c_theorbolaw06_HandCertificate_p10)
abbrev c_theorbolaw06_HandCertificate_p12 : VC := (.seq (.ops 9 [oo 36 (.ldA 10) [.t 7], oo 37 .mv [.t 8], oo 38 (.call 31) [.t 36, .t 37], oo 35 .mv [.t 38], oo 39 (.ext 0) [.t 35], oo 40 (.ext 1) [.t 35], ⟨(some 11), none, (.alloc 40 [(.sl 0 [] .exact), li 0]), [], none⟩, ⟨none, none, (.st 2), [.t 11, .t 39], none⟩, oo 12 .mv [.t 40]]) c_theorbolaw06_HandCertificate_p11)
abbrev c_theorbolaw06_HandCertificate_p13 : VC := (.seq (.seq (.ops 0 [oo 32 .mv [.t 10], oo 33 (.bin .neq) [.t 32, kk 0]]) (.cond (.t 33) c_theorbolaw06_HandCertificate_p2 .skip)) c_theorbolaw06_HandCertificate_p12)
abbrev c_theorbolaw06_HandCertificate_p14 : VC := (.seq (.ops 0 [oo 27 (.ldA 10) [.t 7], oo 28 .mv [.t 8], oo 29 (.call 47) [.t 27, .t 28], oo 26 .mv [.t 29], oo 30 (.ext 0) [.t 26], oo 31 (.ext 1) [.t 26], oo 9 .mv [.t 30], oo 10 .mv [.t 31]]) c_theorbolaw06_HandCertificate_p13)
abbrev c_theorbolaw06_HandCertificate_p15 : VC := (.seq (.seq (.ops 0 [oo 22 (.ldA 10) [.t 7], oo 23 .mv [.t 8], oo 24 (.call 29) [.t 22, .t 23]]) (.cond (.t 24) c_theorbolaw06_HandCertificate_p1 .skip)) c_theorbolaw06_HandCertificate_p14)
abbrev c_theorbolaw06_HandCertificate_p16 : VC := (.seq (.ops 7 [oo 18 (.fldA 0) [.t 3], od 19 (.ldA 10) [.t 18] [0], oo 20 (.fldA 10) [.t 3], od 21 .ld1 [.t 20] [2], ⟨(some 7), none, (.alloc 25 [(.sl 0 [] .exact), (.sl 0 [] .exact), (.sl 0 [] .exact), li 0, li 0, li 0, li 0, li 0, li 0, li 0]), [], (some [])⟩, ⟨none, none, (.st 10), [.t 7, .t 19], (some [4])⟩, oo 8 .mv [.t 21]]) c_theorbolaw06_HandCertificate_p15)
def c_theorbolaw06_HandCertificate : VC := (.seq (.ops 2 [oo 3 (.box 35) [.t 0], oo 6 .mv [(.c (.lit (.bool false)))]]) c_theorbolaw06_HandCertificate_p16)
theorem k_theorbolaw06_HandCertificate : Comp Try.prog nobx gtab 12 101 c_theorbolaw06_HandCertificate [.t 6] := ⟨⟨Try.f12, _, Try.func12, rfl, rfl, kr, kr⟩⟩
end Go.Proofs.Ytojjdkoglhecbaa
namespace Go.Proofs.Ytojjdkoglhecbaa
open Go.RowKit

end Go.Proofs.Ytojjdkoglhecbaa
namespace Go.Proofs.Ytojjdkoglhecbaa
open Go.RowKit

/-- The element of a table. -/
def tbA (T : List (List Int)) (i k : Nat) : Int := (T.getD i []).getD k 0
/-- A table with an element for each grip, none less than -1. -/
structure CtbOk (l : List Chord) (Gs : List (List Grip)) (T : List (List Int)) : Prop where
  len : T.length = l.length
  row : ∀ i, i < l.length → (T.getD i []).length = (Gs.getD i []).length
  low : ∀ i, i < l.length → ∀ k, k < (Gs.getD i []).length → -1 ≤ tbA T i k
/-- What a step allows. -/
def StpOk (h : Hand) (l : List Chord) (Gs : List (List Grip)) (T : List (List Int)) (i k m : Nat) : Prop :=
  (stepR h (l.getD i noC) ((Gs.getD i []).getD k noG) (l.getD (i + 1) noC) ((Gs.getD (i + 1) []).getD m noG)).2 = true → ¬ tbA T (i + 1) m = -1 → ¬ tbA T i k = -1 ∧
    tbA T i k - ownC h (l.getD i noC) ((Gs.getD i []).getD k noG) - (stepR h (l.getD i noC) ((Gs.getD i []).getD k noG) (l.getD (i + 1) noC) ((Gs.getD (i + 1) []).getD m noG)).1 ≤ tbA T (i + 1) m
/-- A lower bound, if those of the next row are. -/
def BndOk (h : Hand) (l : List Chord) (Gs : List (List Grip)) (T : List (List Int)) (i k : Nat) : Prop :=
  if i + 1 = l.length then ¬ tbA T i k = -1 ∧ tbA T i k ≤ ownC h (l.getD i noC) ((Gs.getD i []).getD k noG) else ∀ m, m < (Gs.getD (i + 1) []).length → StpOk h l Gs T i k m
open Classical in
noncomputable def bndB (h : Hand) (l : List Chord) (Gs : List (List Grip)) (T : List (List Int)) (i k : Nat) : Bool := decide (BndOk h l Gs T i k)
theorem bnd_yes {h : Hand} {l : List Chord} {Gs : List (List Grip)} {T : List (List Int)} {i k : Nat} (hb : BndOk h l Gs T i k) : bndB h l Gs T i k = true := by unfold bndB; simp [hb]
theorem bnd_no {h : Hand} {l : List Chord} {Gs : List (List Grip)} {T : List (List Int)} {i k : Nat} (hb : ¬ BndOk h l Gs T i k) : bndB h l Gs T i k = false := by unfold bndB; simp [hb]


theorem step_bound {h : Hand} {l : List Chord} {Gs : List (List Grip)} (hn : NetOk h l Gs) {i k m : Nat} (hi : i + 1 < l.length) (hk : k < (Gs.getD i []).length) (hm : m < (Gs.getD (i + 1) []).length) :
    0 ≤ (stepR h (l.getD i noC) ((Gs.getD i []).getD k noG) (l.getD (i + 1) noC) ((Gs.getD (i + 1) []).getD m noG)).1 ∧ (stepR h (l.getD i noC) ((Gs.getD i []).getD k noG) (l.getD (i + 1) noC) ((Gs.getD (i + 1) []).getD m noG)).1 ≤ 105000 := by
  by_cases hs : StepOk h (l.getD i noC) ((Gs.getD i []).getD k noG) (l.getD (i + 1) noC) ((Gs.getD (i + 1) []).getD m noG)
  · rw [stepR_ok hs]; exact stepC_bound hn.hk (hn.grip (by omega) hk).1 (hn.grip hi hm).1
  · rw [stepR_no hs]; omega

set_option maxHeartbeats 2000000 in
theorem bound_fn {h : Hand} {l : List Chord} {Gs : List (List Grip)} (hn : NetOk h l Gs) {T : List (List Int)} (hT : CtbOk l Gs T) (hhi : ∀ r ∈ T, ∀ x ∈ r, x ≤ 9223372036854775807) {i k : Nat} (hi : i < l.length) (hk : k < (Gs.getD i []).length) :
    Fn Try.prog Gd 87 [netE h l Gs, tIss T, vint i, vint k] (vbool (bndB h l Gs T i k)) := by
  refine Fn.of_vx0 k_hand_net_bound (by simp) (by unfold netE; rw [V.pures, V.pure, V.pures, pure_tIss]; rfl) ?_
  have h4 := hn.len
  have hcnt := hn.cnt i
  have hlT := hT.len
  have c1 : (i : Int) < (l.length : Int) := by omega
  have c2 : (k : Int) < ((Gs.getD i []).length : Int) := by omega
  have g1 := iss_at' (l := T) (k := i) (by omega)
  have r1 := hT.row i hi
  have g2 := ints_at (l := T.getD i []) (k := k) (by omega)
  have w1 : IntKind.i64.wrap ((l.length : Int) - 1) = (l.length : Int) - 1 := w_in (by omega)
  have lo := hT.low i hi k hk
  have up : tbA T i k ≤ 9223372036854775807 := hhi _ (mem_getD _ (by omega)) _ (mem_getD _ (by omega))
  have ow := own_bound hn.hk (hn.seq i hi).1 (hn.grip hi hk).1
  have g3 := iss_at' (l := owA h l Gs) (k := i) (by rw [owA_len]; omega)
  rw [owA_at hi] at g3
  have g4 := ints_at (l := owR h l Gs i) (k := k) (by rw [owR_len]; exact hk)
  rw [owR_at hk] at g4
  have g5 := owR_len h l Gs i
  have g6 := owA_len h l Gs
  rw [r1] at g1
  unfold netE netC tIss tCs
  rw [show (T.getD i []).getD k 0 = tbA T i k from rfl] at g2
  generalize hx : tbA T i k = x at *
  by_cases hlast : i + 1 = l.length
  · have e1 : ((i : Int) == (l.length : Int) - 1) = true := by rw [beq_iff_eq]; omega
    unfold bndB BndOk
    rw [if_pos hlast, hx]
    replace hlast := Hid.mk hlast
    clear hn hT hhi hcnt
    unfold c_hand_net_bound
    by_cases hn1 : x = -1
    · have e2 : (x == -1) = true := by rw [hn1]; rfl
      have e9 : @decide (¬ x = -1 ∧ x ≤ ownC h (l.getD i noC) ((Gs.getD i []).getD k noG)) (Classical.propDecidable _) = false := by simp [hn1]
      rw [e9]
      clear hn1 e9
      repeat' (with_reducible first | refine x_ops ?_ | refine wk ?_ | ((first | refine gd1 ?_ ?_ | refine gd2 ?_ ?_ | refine gd3 ?_ ?_) <;> (first | exact @False.elim _ | intro hc)))
      all_goals exact finV_lit vv rfl
    · have e2 : (x == -1) = false := by rw [beq_eq_false_iff_ne]; exact hn1
      have e9 : @decide (¬ x = -1 ∧ x ≤ ownC h (l.getD i noC) ((Gs.getD i []).getD k noG)) (Classical.propDecidable _) = decide (x ≤ ownC h (l.getD i noC) ((Gs.getD i []).getD k noG)) := by simp [hn1]
      rw [e9]
      clear hn1 e9
      repeat' (with_reducible first | refine x_ops ?_ | refine wk ?_ | ((first | refine gd1 ?_ ?_ | refine gd2 ?_ ?_ | refine gd3 ?_ ?_) <;> (first | exact @False.elim _ | intro hc)))
      all_goals exact finV_lit vv rfl
  have hi1 : i + 1 < l.length := by omega
  have e1 : ((i : Int) == (l.length : Int) - 1) = false := by rw [beq_eq_false_iff_ne]; omega
  have w2 := w_add1 (k := i) (by omega)
  have c3 : ((i + 1 : Nat) : Int) < (l.length : Int) := by omega
  have j1 := iss_at' (l := T) (k := i + 1) (by omega)
  have r2 := hT.row (i + 1) hi1
  rw [r2] at j1
  have hcn2 := hn.cnt (i + 1)
  have NS := fun m hm => netstep_fn hn (ov := tIss (owA h l Gs)) (rv := tIss (rsA h l Gs)) (by rw [V.pures, pure_tIss, V.pures, pure_tIss]; rfl) (i := i) (k := k) (m := m) hi1 hk hm
  have SB := fun m hm => step_bound hn (i := i) (k := k) (m := m) hi1 hk hm
  have J2 := fun m (hm : m < (Gs.getD (i + 1) []).length) => ints_at (l := T.getD (i + 1) []) (k := m) (by omega)
  have B : BndOk h l Gs T i k ↔ ∀ m, m < (Gs.getD (i + 1) []).length → StpOk h l Gs T i k m := by rw [BndOk, if_neg hlast]
  unfold netC tIss tCs at NS
  simp only [owA_len] at NS
  replace hlast := Hid.mk hlast
  replace B := Hid.mk B
  replace ow := Hid.mk ow
  replace lo := Hid.mk lo
  replace up := Hid.mk up
  replace hx := Hid.mk hx
  clear hn hT hhi hcnt
  unfold c_hand_net_bound
  repeat' (with_reducible first | refine x_ops ?_ | refine wk ?_ | ((first | refine gd1 ?_ ?_ | refine gd2 ?_ ?_ | refine gd3 ?_ ?_) <;> (first | exact @False.elim _ | intro hc)))
  refine x_gen (fun t => t 0 = .ept [tIs h.low, tIs h.high, tBs h.barre, vint h.top, vint h.jump, vint h.shift, vint h.lift, vint h.bar, vint h.stretch, vint h.slide, .sl l.length (l.flatMap Chord.cells) .no, tGss Gs, .sl l.length ((owA h l Gs).map tIs) .no, .sl (rsA h l Gs).length ((rsA h l Gs).map tIs) .no] 0 ∧ t 2 = vint i ∧ t 3 = vint k ∧ t 9 = vint x ∧ t 46 = .sl (Gs.getD (i + 1) []).length ((T.getD (i + 1) []).map vint) .no ∧ t 47 = vint (Gs.getD (i + 1) []).length ∧ t 48 = vint 0) ⟨vv, vv, vv, vv, vv, vv, vv⟩ ?_
  rintro t0 ⟨a0, a2, a3, a9, a46, a47, a48⟩
  clear g1 g2 e1 c3 w1 w2 j1 r1
  refine x_loopF w_hand_net_bound_p10 kr (Gs.getD (i + 1) []).length (fun q t => t 48 = vint (q : Int) ∧ ∀ m, m < q → StpOk h l Gs T i k m) ?_ ?_
  · exact ⟨a48, fun m hm => by omega⟩
  rintro q t hq ⟨h48, hI⟩
  by_cases hql : q < (Gs.getD (i + 1) []).length
  case neg =>
    have hqe : q = (Gs.getD (i + 1) []).length := by omega
    subst hqe
    have c5 : ¬ ((Gs.getD (i + 1) []).length : Int) < ((Gs.getD (i + 1) []).length : Int) := by omega
    rw [bnd_yes (B.out.2 hI)]
    clear NS SB J2 hql hq hI
    repeat' (with_reducible first | refine x_ops ?_ | refine wk ?_ | ((first | refine gd1 ?_ ?_ | refine gd2 ?_ ?_ | refine gd3 ?_ ?_) <;> (first | exact @False.elim _ | intro hc)))
    exact finV_lit vv rfl
  have c5 : (q : Int) < ((Gs.getD (i + 1) []).length : Int) := by omega
  have wq := w_add1 (k := q) (by omega)
  have g8 := J2 q hql
  have STq := NS q hql
  have b3 := SB q hql
  have b4 := ow.out
  have b5 := lo.out
  have b6 := up.out
  rw [show (T.getD (i + 1) []).getD q 0 = tbA T (i + 1) q from rfl] at g8
  have hS : StpOk h l Gs T i k q ↔ ((stepR h (l.getD i noC) ((Gs.getD i []).getD k noG) (l.getD (i + 1) noC) ((Gs.getD (i + 1) []).getD q noG)).2 = true → ¬ tbA T (i + 1) q = -1 → ¬ x = -1 ∧ x - ownC h (l.getD i noC) ((Gs.getD i []).getD k noG) - (stepR h (l.getD i noC) ((Gs.getD i []).getD k noG) (l.getD (i + 1) noC) ((Gs.getD (i + 1) []).getD q noG)).1 ≤ tbA T (i + 1) q) := by rw [StpOk, hx.out]
  generalize tbA T (i + 1) q = y at *
  generalize ownC h (l.getD i noC) ((Gs.getD i []).getD k noG) = ow' at *
  have nxt : StpOk h l Gs T i k q → ∀ m, m < q + 1 → StpOk h l Gs T i k m := fun hq' m hm => by
    by_cases e : m = q
    · subst e; exact hq'
    · exact hI m (by omega)
  have bad : ¬ StpOk h l Gs T i k q → bndB h l Gs T i k = false := fun hb => bnd_no (fun hB => hb (B.out.1 hB q hql))
  generalize stepR h (l.getD i noC) ((Gs.getD i []).getD k noG) (l.getD (i + 1) noC) ((Gs.getD (i + 1) []).getD q noG) = st at *
  obtain ⟨sc, sb⟩ := st
  dsimp only at STq hS b3
  replace nxt := Hid.mk nxt
  replace bad := Hid.mk bad
  clear NS SB J2 hI hq
  cases sb
  · have hz := Hid.mk (nxt.out (hS.2 (fun e => by cases e)))
    clear hS b3 b4 b5 b6
    repeat' (with_reducible first | refine x_ops ?_ | refine wk ?_ | (with_reducible refine xc (STq) ?_) | ((first | refine gd1 ?_ ?_ | refine gd2 ?_ ?_ | refine gd3 ?_ ?_) <;> (first | exact @False.elim _ | intro hc)))
    exact nf hql ⟨vv, hz.out⟩ rfl
  by_cases hy : y = -1
  · have e2 : (y == -1) = true := by rw [hy]; rfl
    have hz := Hid.mk (nxt.out (hS.2 (fun _ h1 => absurd hy h1)))
    clear hS b3 b4 b5 b6 hy
    repeat' (with_reducible first | refine x_ops ?_ | refine wk ?_ | (with_reducible refine xc (STq) ?_) | ((first | refine gd1 ?_ ?_ | refine gd2 ?_ ?_ | refine gd3 ?_ ?_) <;> (first | exact @False.elim _ | intro hc)))
    all_goals exact nf hql ⟨vv, hz.out⟩ rfl
  have e2 : (y == -1) = false := by rw [beq_eq_false_iff_ne]; exact hy
  by_cases hx1 : x = -1
  · have e3 : (x == -1) = true := by rw [hx1]; rfl
    rw [bad.out (fun h1 => (hS.1 h1 rfl hy).1 hx1)]
    clear hS b3 b4 b5 b6 hy hx1
    repeat' (with_reducible first | refine x_ops ?_ | refine wk ?_ | (with_reducible refine xc (STq) ?_) | ((first | refine gd1 ?_ ?_ | refine gd2 ?_ ?_ | refine gd3 ?_ ?_) <;> (first | exact @False.elim _ | intro hc)))
    exact finV_lit vv rfl
  have e3 : (x == -1) = false := by rw [beq_eq_false_iff_ne]; exact hx1
  have w8 : IntKind.i64.wrap (x - ow') = x - ow' := w_in (by omega)
  have w9 : IntKind.i64.wrap (x - ow' - sc) = x - ow' - sc := w_in (by omega)
  by_cases hlt : y < x - ow' - sc
  · rw [bad.out (fun h1 => by have := (hS.1 h1 rfl hy).2; omega)]
    clear hS b3 b4 b5 b6 hy hx1
    repeat' (with_reducible first | refine x_ops ?_ | refine wk ?_ | (with_reducible refine xc (STq) ?_) | ((first | refine gd1 ?_ ?_ | refine gd2 ?_ ?_ | refine gd3 ?_ ?_) <;> (first | exact @False.elim _ | intro hc)))
    exact finV_lit vv rfl
  · have hz := Hid.mk (nxt.out (hS.2 (fun _ _ => ⟨hx1, by omega⟩)))
    clear hS b3 b4 b5 b6 hy hx1
    repeat' (with_reducible first | refine x_ops ?_ | refine wk ?_ | (with_reducible refine xc (STq) ?_) | ((first | refine gd1 ?_ ?_ | refine gd2 ?_ ?_ | refine gd3 ?_ ?_) <;> (first | exact @False.elim _ | intro hc)))
    exact nf hql ⟨vv, hz.out⟩ rfl
end Go.Proofs.Ytojjdkoglhecbaa
namespace Go.Proofs.Ytojjdkoglhecbaa
open Go.RowKit

/-- A table that proves a cost. -/
structure PvsOk (h : Hand) (l : List Chord) (Gs : List (List Grip)) (T : List (List Int)) (cost : Int) : Prop where
  tab : CtbOk l Gs T
  bnd : ∀ i, i < l.length → ∀ k, k < (Gs.getD i []).length → BndOk h l Gs T i k
  top : ∀ i, i < l.length → ∀ k, k < (Gs.getD i []).length → i = 0 → ¬ tbA T i k = -1 → cost ≤ tbA T i k
  nil : l.length = 0 → cost ≤ 0
open Classical in
noncomputable def pvsB (h : Hand) (l : List Chord) (Gs : List (List Grip)) (T : List (List Int)) (cost : Int) : Bool := decide (PvsOk h l Gs T cost)
theorem pvs_yes {h : Hand} {l : List Chord} {Gs : List (List Grip)} {T : List (List Int)} {cost : Int} (hb : PvsOk h l Gs T cost) : pvsB h l Gs T cost = true := by unfold pvsB; simp [hb]
theorem pvs_no {h : Hand} {l : List Chord} {Gs : List (List Grip)} {T : List (List Int)} {cost : Int} (hb : ¬ PvsOk h l Gs T cost) : pvsB h l Gs T cost = false := by unfold pvsB; simp [hb]
/-- What Proves answers. -/
noncomputable def pvsR (h : Hand) (l : List Chord) (T : List (List Int)) (cost : Int) : Bool × Int := if wvE h l = 0 then (pvsB h l (tabG h l) T cost, 0) else (false, wvE h l)
/-- A table that fits into memory. -/
structure FitsT (T : List (List Int)) : Prop where
  len : T.length ≤ 17592186044416
  row : ∀ r ∈ T, r.length ≤ 17592186044416
  lo : ∀ r ∈ T, ∀ x ∈ r, -9223372036854775808 ≤ x
  hi : ∀ r ∈ T, ∀ x ∈ r, x ≤ 9223372036854775807

theorem gI_none_of {p : Int → Bool} {l : List Int} (h : ¬ gI p l < l.length) (k : Nat) (hk : k < l.length) : p (l.getD k 0) = false := by
  cases hp : p (l.getD k 0)
  · rfl
  · exact absurd ((gI_lt (0 : Int)).2 ⟨k, hk, hp⟩) h
theorem proves1_fn (x : Int) : Fn Try.prog Gd 86 [vint x] (vbool (decide (x < -1))) := by
  refine Fn.of_vx0 k_hand_Proves_1 (by simp) rfl ?_
  unfold c_hand_Proves_1
  repeat' (with_reducible first | refine x_ops ?_ | refine wk ?_ | ((first | refine gd1 ?_ ?_ | refine gd2 ?_ ?_ | refine gd3 ?_ ?_) <;> (first | exact @False.elim _ | intro hc)))
  exact finV_lit vv rfl
theorem call_proves1 : callable Try.prog 86 = true := by kernel_rfl

set_option maxHeartbeats 2000000 in
theorem Proves_fn (h : Hand) (l : List Chord) (hl : Fits l) (T : List (List Int)) (hT : FitsT T) (cost : Int) : Fn Try.prog Gd 51 [h.val, tCs l, tIss T, vint cost] (.tup [vbool (pvsR h l T cost).1, vint (pvsR h l T cost).2]) := by
  refine Fn.of_vx0 k_hand_Proves (by simp) (by rw [V.pures, pure_hand, V.pures, pure_tCs, V.pures, pure_tIss]; rfl) ?_
  have C1 := weave_fn h l hl
  unfold wvR at C1
  unfold pvsR c_hand_Proves
  by_cases hw : wvE h l = 0
  case neg =>
    rw [if_neg hw] at C1 ⊢
    have e1 : (wvE h l == 0) = false := by rw [beq_eq_false_iff_ne]; exact hw
    clear hw
    unfold Hand.val tCs at C1 ⊢
    dsimp only
    repeat' (with_reducible first | refine x_ops ?_ | refine wk ?_ | (with_reducible refine xc (C1) ?_) | ((first | refine gd1 ?_ ?_ | refine gd2 ?_ ?_ | refine gd3 ?_ ?_) <;> (first | exact @False.elim _ | intro hc)))
    exact finV_dry rfl vv
  have hn := wv_net hl hw
  rw [if_pos hw] at C1 ⊢
  generalize tabG h l = Gs at *
  have h4 := hn.len
  have gl := hn.gl
  have BF := fun i k hC hi hk => bound_fn hn (T := T) (i := i) (k := k) hC hT.hi hi hk
  unfold netE netC at C1 BF
  unfold Hand.val tCs at C1 ⊢
  unfold tCs at BF
  unfold tIss at BF
  unfold tIss at C1 ⊢
  dsimp only
  have hT1 := hT.len
  by_cases hlen : T.length = l.length
  case neg =>
    have e1 : ((T.length : Int) == (l.length : Int)) = false := by rw [beq_eq_false_iff_ne]; omega
    rw [pvs_no (fun hp => hlen hp.tab.len)]
    replace hlen := Hid.mk hlen
    replace hn := Hid.mk hn
    clear hw gl BF hT
    repeat' (with_reducible first | refine x_ops ?_ | refine wk ?_ | (with_reducible refine xc (C1) ?_) | ((first | refine gd1 ?_ ?_ | refine gd2 ?_ ?_ | refine gd3 ?_ ?_) <;> (first | exact @False.elim _ | intro hc)))
    all_goals exact finV_dry rfl vv
  by_cases h0 : l.length = 0
  · have e1 : ((T.length : Int) == (l.length : Int)) = true := by rw [beq_iff_eq]; omega
    have e2 : ((l.length : Int) == 0) = true := by rw [beq_iff_eq]; omega
    have e3 : pvsB h l Gs T cost = decide (cost ≤ 0) := by
      by_cases hc : cost ≤ 0
      · rw [pvs_yes ⟨⟨hlen, fun i hi => by omega, fun i hi => by omega⟩, fun i hi => by omega, fun i hi => by omega, fun _ => hc⟩]; simp [hc]
      · rw [pvs_no (fun hp => hc (hp.nil h0))]; simp [hc]
    rw [e3]
    replace hlen := Hid.mk hlen
    replace h0 := Hid.mk h0
    replace hn := Hid.mk hn
    clear hw gl BF hT e3
    repeat' (with_reducible first | refine x_ops ?_ | refine wk ?_ | (with_reducible refine xc (C1) ?_) | ((first | refine gd1 ?_ ?_ | refine gd2 ?_ ?_ | refine gd3 ?_ ?_) <;> (first | exact @False.elim _ | intro hc)))
    all_goals exact finV_dry rfl vv
  have e1 : ((T.length : Int) == (l.length : Int)) = true := by rw [beq_iff_eq]; omega
  have e2 : ((l.length : Int) == 0) = false := by rw [beq_eq_false_iff_ne]; omega
  have CF := fun r (hr : r ∈ T) => containsI_fn r (fun x => decide (x < -1)) call_proves1 rfl rfl proves1_fn (by have := hT.row r hr; omega)
  replace hlen := Hid.mk hlen
  replace h0 := Hid.mk h0
  replace hn := Hid.mk hn
  clear hw
  repeat' (with_reducible first | refine x_ops ?_ | refine wk ?_ | (with_reducible refine xc (C1) ?_) | ((first | refine gd1 ?_ ?_ | refine gd2 ?_ ?_ | refine gd3 ?_ ?_) <;> (first | exact @False.elim _ | intro hc)))
  refine x_gen (fun t => t 2 = .sl T.length (T.map tIs) .no ∧ t 3 = vint cost ∧ t 10 = .ept [tIs h.low, tIs h.high, tBs h.barre, vint h.top, vint h.jump, vint h.shift, vint h.lift, vint h.bar, vint h.stretch, vint h.slide, .sl l.length (l.flatMap Chord.cells) .no, tGss Gs, .sl (owA h l Gs).length ((owA h l Gs).map tIs) .no, .sl (rsA h l Gs).length ((rsA h l Gs).map tIs) .no] 0 ∧
    t 46 = .sl T.length (T.map tIs) .no ∧ t 47 = vint T.length ∧ t 48 = vint 0) ⟨vv, vv, by ((refine ve ?_; try exact True.intro)); simp [tIs, tBs], vv, vv, vv⟩ ?_
  clear C1
  rintro t0 ⟨a2, a3, a10, a46, a47, a48⟩
  refine x_loopF w_hand_Proves_p7 kr T.length (fun q t => t 48 = vint (q : Int) ∧ ∀ i, i < q → (T.getD i []).length = (Gs.getD i []).length ∧ ∀ k, k < (Gs.getD i []).length → -1 ≤ tbA T i k) ?_ ?_
  · exact ⟨a48, fun i hi => by omega⟩
  rintro q t hq ⟨h48, hI⟩
  by_cases hqT : q < T.length
  · have hql : q < l.length := by have := hlen.out; omega
    have c1 : (q : Int) < (T.length : Int) := by omega
    have c2 : (q : Int) < (l.length : Int) := by omega
    have g1 := iss_at' hqT
    have g2 := gss_at' (l := Gs) (k := q) (by omega)
    have wq := w_add1 (k := q) (by omega)
    have CR := CF _ (mem_getD [] hqT)
    have gl' := gl
    unfold tGss at a10
    rw [gl] at a10
    unfold tIs at CR
    have nxt : ((T.getD q []).length = (Gs.getD q []).length ∧ ∀ k, k < (Gs.getD q []).length → -1 ≤ tbA T q k) → ∀ i, i < q + 1 → (T.getD i []).length = (Gs.getD i []).length ∧ ∀ k, k < (Gs.getD i []).length → -1 ≤ tbA T i k := fun h1 i hi => by
      by_cases e : i = q
      · subst e; exact h1
      · exact hI i (by omega)
    replace nxt := Hid.mk nxt
    clear CF BF hI
    by_cases hL : (T.getD q []).length = (Gs.getD q []).length
    case neg =>
      have e3 : (((T.getD q []).length : Int) == ((Gs.getD q []).length : Int)) = false := by rw [beq_eq_false_iff_ne]; omega
      rw [pvs_no (fun hp => hL (hp.tab.row q hql))]
      clear hL
      repeat' (with_reducible first | refine x_ops ?_ | refine wk ?_ | (with_reducible refine xc (CR) ?_) | ((first | refine gd1 ?_ ?_ | refine gd2 ?_ ?_ | refine gd3 ?_ ?_) <;> (first | exact @False.elim _ | intro hc)))
      all_goals exact finV_dry rfl vv
    have e3 : (((T.getD q []).length : Int) == ((Gs.getD q []).length : Int)) = true := by rw [beq_iff_eq]; omega
    cases hb : decide (gI (fun x => decide (x < -1)) (T.getD q []) < (T.getD q []).length)
    · rw [hb] at CR
      have hz := Hid.mk (nxt.out ⟨hL, fun k hk => by
        rw [decide_eq_false_iff_not] at hb
        have h1 := gI_none_of hb k (by omega)
        simp only [decide_eq_false_iff_not] at h1
        show -1 ≤ (T.getD q []).getD k 0
        omega⟩)
      replace hL := Hid.mk hL
      clear hb
      repeat' (with_reducible first | refine x_ops ?_ | refine wk ?_ | (with_reducible refine xc (CR) ?_) | ((first | refine gd1 ?_ ?_ | refine gd2 ?_ ?_ | refine gd3 ?_ ?_) <;> (first | exact @False.elim _ | intro hc)))
      exact nf hqT ⟨vv, hz.out⟩ rfl
    · rw [hb] at CR
      rw [pvs_no (fun hp => by
        rw [decide_eq_true_eq, gI_lt (d := (0 : Int))] at hb
        obtain ⟨j, h1, h2⟩ := hb
        have := hp.tab.low q hql j (by omega)
        simp only [decide_eq_true_eq] at h2
        unfold tbA at this
        omega)]
      replace hL := Hid.mk hL
      clear hb
      repeat' (with_reducible first | refine x_ops ?_ | refine wk ?_ | (with_reducible refine xc (CR) ?_) | ((first | refine gd1 ?_ ?_ | refine gd2 ?_ ?_ | refine gd3 ?_ ?_) <;> (first | exact @False.elim _ | intro hc)))
      all_goals exact finV_dry rfl vv
  have hqe : q = T.length := by omega
  subst hqe
  have c1 : ¬ (T.length : Int) < (T.length : Int) := by omega
  have hC : CtbOk l Gs T := ⟨hlen.out, fun i hi => (hI i (by have := hlen.out; omega)).1, fun i hi => (hI i (by have := hlen.out; omega)).2⟩
  have BF2 := fun i k => BF i k hC
  replace hC := Hid.mk hC
  clear CF BF hI hqT hq
  repeat' (with_reducible first | refine x_ops ?_ | refine wk ?_ | ((first | refine gd1 ?_ ?_ | refine gd2 ?_ ?_ | refine gd3 ?_ ?_) <;> (first | exact @False.elim _ | intro hc)))
  refine x_gen (fun t => t 2 = .sl T.length (T.map tIs) .no ∧ t 3 = vint cost ∧ t 10 = .ept [tIs h.low, tIs h.high, tBs h.barre, vint h.top, vint h.jump, vint h.shift, vint h.lift, vint h.bar, vint h.stretch, vint h.slide, .sl l.length (l.flatMap Chord.cells) .no, tGss Gs, .sl (owA h l Gs).length ((owA h l Gs).map tIs) .no, .sl (rsA h l Gs).length ((rsA h l Gs).map tIs) .no] 0 ∧
    t 69 = .sl T.length (T.map tIs) .no ∧ t 70 = vint T.length ∧ t 71 = vint 0) ⟨vw, vw, a10, vv, vv, vv⟩ ?_
  clear a2 a3 a10 a46 a47 a48 h48 c1
  rintro t1 ⟨a2, a3, a10, a69, a70, a71⟩
  refine x_loopF w_hand_Proves_p18 kr T.length (fun i t => t 71 = vint (i : Int) ∧ ∀ j, j < i → ∀ k, k < (Gs.getD j []).length → BndOk h l Gs T j k ∧ (j = 0 → ¬ tbA T j k = -1 → cost ≤ tbA T j k)) ?_ ?_
  · exact ⟨a71, fun j hj => by omega⟩
  rintro i t2 hi ⟨h71, hI⟩
  by_cases hiT : i < T.length
  case neg =>
    have hie : i = T.length := by omega
    subst hie
    have c1 : ¬ (T.length : Int) < (T.length : Int) := by omega
    have hl2 := hlen.out
    rw [pvs_yes ⟨hC.out, fun j hj k hk => (hI j (by omega) k hk).1, fun j hj k hk => (hI j (by omega) k hk).2, fun h1 => absurd h1 h0.out⟩]
    clear hl2 BF2 hI hiT hi
    repeat' (with_reducible first | refine x_ops ?_ | refine wk ?_ | ((first | refine gd1 ?_ ?_ | refine gd2 ?_ ?_ | refine gd3 ?_ ?_) <;> (first | exact @False.elim _ | intro hc)))
    exact finV_dry rfl vv
  have hil : i < l.length := by have := hlen.out; omega
  have c1 : (i : Int) < (T.length : Int) := by omega
  have g1 := iss_at' hiT
  have wi := w_add1 (k := i) (by omega)
  have hrl := hC.out.row i hil
  have hcn := hn.out.cnt i
  rw [hrl] at g1
  replace hI := Hid.mk hI
  repeat' (with_reducible first | refine x_ops ?_ | refine wk ?_ | ((first | refine gd1 ?_ ?_ | refine gd2 ?_ ?_ | refine gd3 ?_ ?_) <;> (first | exact @False.elim _ | intro hc)))
  refine x_gen (fun t => t 2 = .sl T.length (T.map tIs) .no ∧ t 3 = vint cost ∧ t 10 = .ept [tIs h.low, tIs h.high, tBs h.barre, vint h.top, vint h.jump, vint h.shift, vint h.lift, vint h.bar, vint h.stretch, vint h.slide, .sl l.length (l.flatMap Chord.cells) .no, tGss Gs, .sl (owA h l Gs).length ((owA h l Gs).map tIs) .no, .sl (rsA h l Gs).length ((rsA h l Gs).map tIs) .no] 0 ∧
    t 69 = .sl T.length (T.map tIs) .no ∧ t 70 = vint T.length ∧ t 71 = vint i ∧ t 14 = vint i ∧ t 76 = .sl (Gs.getD i []).length ((T.getD i []).map vint) .no ∧ t 77 = vint (Gs.getD i []).length ∧ t 78 = vint 0) ⟨vw, vw, by ((refine ve ?_; try exact True.intro)); exact a10, vw, vw, vw, vv, vv, vv, vv⟩ ?_
  clear a2 a3 a10 a69 a70 a71 h71 g1
  rintro t3 ⟨a2, a3, a10, a69, a70, a71, a14, a76, a77, a78⟩
  refine x_loopF w_hand_Proves_p13 kr (Gs.getD i []).length (fun k t => t 78 = vint (k : Int) ∧ ∀ k', k' < k → BndOk h l Gs T i k' ∧ (i = 0 → ¬ tbA T i k' = -1 → cost ≤ tbA T i k')) ?_ ?_
  · exact ⟨a78, fun j hj => by omega⟩
  rintro k t4 hk ⟨h78, hK⟩
  by_cases hkl : k < (Gs.getD i []).length
  case neg =>
    have hke : k = (Gs.getD i []).length := by omega
    subst hke
    have c2 : ¬ ((Gs.getD i []).length : Int) < ((Gs.getD i []).length : Int) := by omega
    have hz : ∀ j, j < i + 1 → ∀ k, k < (Gs.getD j []).length → BndOk h l Gs T j k ∧ (j = 0 → ¬ tbA T j k = -1 → cost ≤ tbA T j k) := fun j hj => by
      by_cases e : j = i
      · subst e; exact hK
      · exact hI.out j (by omega)
    replace hz := Hid.mk hz
    clear BF2 hK hkl hk
    repeat' (with_reducible first | refine x_ops ?_ | refine wk ?_ | ((first | refine gd1 ?_ ?_ | refine gd2 ?_ ?_ | refine gd3 ?_ ?_) <;> (first | exact @False.elim _ | intro hc)))
    exact nf hiT ⟨vv, hz.out⟩ rfl
  have c2 : (k : Int) < ((Gs.getD i []).length : Int) := by omega
  have wk' := w_add1 (k := k) (by omega)
  have g2 := ints_at (l := T.getD i []) (k := k) (by omega)
  rw [show (T.getD i []).getD k 0 = tbA T i k from rfl] at g2
  have BC := BF2 i k hil hkl
  have bad : ¬ (BndOk h l Gs T i k ∧ (i = 0 → ¬ tbA T i k = -1 → cost ≤ tbA T i k)) → pvsB h l Gs T cost = false := fun hb => pvs_no (fun hp => hb ⟨hp.bnd i hil k hkl, hp.top i hil k hkl⟩)
  have nxt : (BndOk h l Gs T i k ∧ (i = 0 → ¬ tbA T i k = -1 → cost ≤ tbA T i k)) → ∀ k', k' < k + 1 → BndOk h l Gs T i k' ∧ (i = 0 → ¬ tbA T i k' = -1 → cost ≤ tbA T i k') := fun h1 j hj => by
    by_cases e : j = k
    · subst e; exact h1
    · exact hK j (by omega)
  replace bad := Hid.mk bad
  replace nxt := Hid.mk nxt
  clear BF2 hK hk
  have hbB : bndB h l Gs T i k = true ↔ BndOk h l Gs T i k := by
    constructor
    · intro hb; by_cases hx : BndOk h l Gs T i k
      · exact hx
      · rw [bnd_no hx] at hb; cases hb
    · exact bnd_yes
  generalize bndB h l Gs T i k = bb at *
  generalize tbA T i k = x at *
  by_cases hA : i = 0 ∧ ¬ x = -1 ∧ x < cost
  · obtain ⟨h1, h2, h3⟩ := hA
    have e3 : ((i : Int) == 0) = true := by rw [beq_iff_eq]; omega
    have e4 : (x == -1) = false := by rw [beq_eq_false_iff_ne]; exact h2
    rw [bad.out (fun hh => by have := hh.2 h1 h2; omega)]
    clear h1 h2 hbB BC
    repeat' (with_reducible first | refine x_ops ?_ | refine wk ?_ | ((first | refine gd1 ?_ ?_ | refine gd2 ?_ ?_ | refine gd3 ?_ ?_) <;> (first | exact @False.elim _ | intro hc)))
    exact finV_dry rfl vv
  have hA' : (i = 0 → ¬ x = -1 → cost ≤ x) := fun h1 h2 => by
    by_cases h3 : x < cost
    · exact absurd ⟨h1, h2, h3⟩ hA
    · omega
  cases bb
  · rw [bad.out (fun hh => by have := hbB.2 hh.1; cases this)]
    clear hbB hA'
    by_cases e3 : i = 0
    · have e3' : ((i : Int) == 0) = true := by rw [beq_iff_eq]; omega
      by_cases e4 : x = -1
      · have e4' : (x == -1) = true := by rw [e4]; rfl
        clear e3 e4 hA
        repeat' (with_reducible first | refine x_ops ?_ | refine wk ?_ | (with_reducible refine xc (BC) ?_) | ((first | refine gd1 ?_ ?_ | refine gd2 ?_ ?_ | refine gd3 ?_ ?_) <;> (first | exact @False.elim _ | intro hc)))
        exact finV_dry rfl vv
      · have e4' : (x == -1) = false := by rw [beq_eq_false_iff_ne]; exact e4
        have e5 : ¬ x < cost := fun hh => hA ⟨e3, e4, hh⟩
        clear e3 e4 hA
        repeat' (with_reducible first | refine x_ops ?_ | refine wk ?_ | (with_reducible refine xc (BC) ?_) | ((first | refine gd1 ?_ ?_ | refine gd2 ?_ ?_ | refine gd3 ?_ ?_) <;> (first | exact @False.elim _ | intro hc)))
        exact finV_dry rfl vv
    · have e3' : ((i : Int) == 0) = false := by rw [beq_eq_false_iff_ne]; omega
      clear e3 hA
      repeat' (with_reducible first | refine x_ops ?_ | refine wk ?_ | (with_reducible refine xc (BC) ?_) | ((first | refine gd1 ?_ ?_ | refine gd2 ?_ ?_ | refine gd3 ?_ ?_) <;> (first | exact @False.elim _ | intro hc)))
      exact finV_dry rfl vv
  · have hz := Hid.mk (nxt.out ⟨hbB.1 rfl, hA'⟩)
    clear hbB hA'
    by_cases e3 : i = 0
    · have e3' : ((i : Int) == 0) = true := by rw [beq_iff_eq]; omega
      by_cases e4 : x = -1
      · have e4' : (x == -1) = true := by rw [e4]; rfl
        clear e3 e4 hA
        repeat' (with_reducible first | refine x_ops ?_ | refine wk ?_ | (with_reducible refine xc (BC) ?_) | ((first | refine gd1 ?_ ?_ | refine gd2 ?_ ?_ | refine gd3 ?_ ?_) <;> (first | exact @False.elim _ | intro hc)))
        exact nf hkl ⟨vv, hz.out⟩ rfl
      · have e4' : (x == -1) = false := by rw [beq_eq_false_iff_ne]; exact e4
        have e5 : ¬ x < cost := fun hh => hA ⟨e3, e4, hh⟩
        clear e3 e4 hA
        repeat' (with_reducible first | refine x_ops ?_ | refine wk ?_ | (with_reducible refine xc (BC) ?_) | ((first | refine gd1 ?_ ?_ | refine gd2 ?_ ?_ | refine gd3 ?_ ?_) <;> (first | exact @False.elim _ | intro hc)))
        exact nf hkl ⟨vv, hz.out⟩ rfl
    · have e3' : ((i : Int) == 0) = false := by rw [beq_eq_false_iff_ne]; omega
      clear e3 hA
      repeat' (with_reducible first | refine x_ops ?_ | refine wk ?_ | (with_reducible refine xc (BC) ?_) | ((first | refine gd1 ?_ ?_ | refine gd2 ?_ ?_ | refine gd3 ?_ ?_) <;> (first | exact @False.elim _ | intro hc)))
      exact nf hkl ⟨vv, hz.out⟩ rfl
end Go.Proofs.Ytojjdkoglhecbaa
namespace Go.Proofs.Ytojjdkoglhecbaa
open Go.RowKit

end Go.Proofs.Ytojjdkoglhecbaa
namespace Go.Proofs.Ytojjdkoglhecbaa
open Go.RowKit

end Go.Proofs.Ytojjdkoglhecbaa
namespace Go.Proofs.Ytojjdkoglhecbaa
open Go.RowKit
set_option maxRecDepth 100000

abbrev c_theorbolaw06_rest_p1 : VC := (.seq (.ops 0 [oo 5 .mv [.t 0], oo 6 .mv [.t 1], oo 7 (.bin .rem) [.t 5, .t 6], oo 8 .mv [.t 1], oo 9 (.bin .add) [.t 7, .t 8], oo 10 .mv [.t 1], oo 11 (.bin .rem) [.t 9, .t 10], oo 4 .mv [.t 11]]) .ret)
def c_theorbolaw06_rest : VC := (.seq (.ops 0 [oo 4 .mv [kk 0]]) c_theorbolaw06_rest_p1)
theorem k_theorbolaw06_rest : Comp Try.prog nobx gtab 30 12 c_theorbolaw06_rest [.t 4] := ⟨⟨Try.f30, _, Try.func30, rfl, rfl, kr, kr⟩⟩
end Go.Proofs.Ytojjdkoglhecbaa
namespace Go.Proofs.Ytojjdkoglhecbaa
open Go.RowKit

section
variable {n : Int}
end
theorem both_is {h : Hand} {l : List Chord} (h1 : HandOk h) (h2 : l.length ≤ 400) (h3 : SeqOk l) : bothE h l = 0 := by
  have e1 : chkE h = 0 := by rw [chkE, if_pos h1]
  rw [bothE, if_pos e1, seqE, if_neg (by omega), if_pos (by simpa using h3)]
end Go.Proofs.Ytojjdkoglhecbaa
namespace Go.Proofs.Ytojjdkoglhecbaa
open Go.RowKit
set_option linter.unusedSimpArgs false
set_option linter.unusedVariables false

/-- A number modulo n. -/
def rsI (a n : Int) : Int := (a.tmod n + n).tmod n
theorem rs_bound {n : Int} (a : Int) (h : 0 < n) : 0 ≤ rsI a n ∧ rsI a n < n := by
  have := Int.lt_tmod_of_pos a h
  exact ⟨Int.tmod_nonneg _ (by omega), Int.tmod_lt_of_pos _ h⟩
theorem rest_fn (a n : Int) (h : 0 < n) (h2 : n ≤ 4611686018427387904) : Fn Try.prog Gd 30 [vint a, vint n] (vint (rsI a n)) := by
  refine Fn.of_vx0 k_theorbolaw06_rest (by simp) rfl ?_
  have h3 := Int.lt_tmod_of_pos a h
  have h4 := Int.tmod_lt_of_pos a h
  have w1 : IntKind.i64.wrap (a.tmod n + n) = a.tmod n + n := w_in (by omega)
  have n0 : ¬ n = 0 := by omega
  unfold c_theorbolaw06_rest rsI
  repeat' (with_reducible first | refine x_ops ?_ | refine wk ?_ | ((first | refine gd1 ?_ ?_ | refine gd2 ?_ ?_ | refine gd3 ?_ ?_) <;> (first | exact @False.elim _ | intro hc)))
  exact finV_lit vv rfl

end Go.Proofs.Ytojjdkoglhecbaa
namespace Go.Proofs.Ytojjdkoglhecbaa
open Go.RowKit
set_option linter.unusedSimpArgs false
set_option linter.unusedVariables false

/-- What is left of a row by another one's growth. -/
theorem Apb.keep {m m' : Mm} {k : Tok} {n : Nat} {e : TypeId} {z : Nat} (h : Apb m k n e z) (hn : m.next ≤ m'.next) (ho : ∀ q, q < m.next → k = .own q → m'.obj q = m.obj q) : Apb m' k n e z := by
  rcases h with h | ⟨t, h1, h2, h3⟩
  · exact .inl h
  · exact .inr ⟨t, h1, Nat.lt_of_lt_of_le h2 hn, (ho t h2 h1).trans h3⟩
theorem Apb.box {m : Mm} {k : Tok} {n : Nat} {e : TypeId} {z : Nat} (h : Apb m k n e z) {q : Nat} {cs : List V} {t : TypeId} (hq : m.obj q = some (.box cs t)) : k ≠ .own q := by
  rintro rfl
  rcases h with h | ⟨t, h1, _, h3⟩
  · cases h
  · injection h1 with h1; subst h1; rw [hq] at h3; cases h3

end Go.Proofs.Ytojjdkoglhecbaa
namespace Go.Proofs.Ytojjdkoglhecbaa
open Go.ChangeShapes Go.WideShapes Go.ChangeAt Go.RowKit
set_option maxRecDepth 100000

def tySearch : Ty := .st [tyHand, .sl tyChord 72]
theorem dt_handC {d : Dt} (h : d.ok tyHand) : ∃ x : Hand, d.cells = [tIs x.low, tIs x.high, tBs x.barre, vint x.top, vint x.jump, vint x.shift, vint x.lift, vint x.bar, vint x.stretch, vint x.slide] := by
  obtain ⟨x, hx⟩ := dt_hand h
  obtain ⟨l, _, _, hc, hv⟩ := ok_st h
  rw [hv, Hand.val] at hx
  injection hx with hx
  exact ⟨x, by rw [hc, hx]⟩
theorem dt_chordsC {b : Nat} {d : Dt} (hb : 8 ≤ b) (h : d.ok (.sl tyChord b)) : ∃ l : List Chord, d.cells = [tCs l] ∧ Fits l := by
  obtain ⟨l, h1, h2⟩ := dt_chords hb h
  exact ⟨l, by rw [dt_one h, h1], h2⟩
theorem dt_searchV {d : Dt} (h : d.ok tySearch) : ∃ x : Hand × List Chord, d.val = srV x.1 x.2 ∧ Fits x.2 := by
  obtain ⟨l, _, h1, _, hv⟩ := ok_st h
  obtain ⟨d1, r1, rfl, k1, h2, e1⟩ := oks_cons h1
  obtain ⟨d2, r2, rfl, k2, h3, e2⟩ := oks_cons h2
  obtain ⟨a, ea⟩ := dt_handC k1
  obtain ⟨b, eb, fb⟩ := dt_chordsC (by decide) k2
  exact ⟨(a, b), by rw [hv, e1, e2, oks_nil h3, ea, eb]; rfl, fb⟩
theorem dt_intV {d : Dt} (h : d.ok .int) : ∃ n : Int, d.val = vint n ∧ -9223372036854775808 ≤ n ∧ n ≤ 9223372036854775807 := by
  cases d <;> first | (rw [Dt.ok] at h; exact ⟨_, by rw [Dt.val], h⟩) | (simp [Dt.ok] at h)
theorem ty_int : tyOf Try.prog 10 3 = some .int := by kernel_rfl
theorem ty_search : tyOf Try.prog 10 35 = some tySearch := by kernel_rfl
end Go.Proofs.Ytojjdkoglhecbaa
namespace Go.Proofs.Ytojjdkoglhecbaa
open Go.RowKit

/-- A change. -/
def chE (c : Int × Int × Int) : List V := [vint c.1, vint c.2.1, vint c.2.2]
def tChs (cs : List (Int × Int × Int)) : V := .sl cs.length (cs.flatMap chE) .no
theorem pure_tChs (l : List (Int × Int × Int)) : (tChs l).pure = true := by rw [tChs, V.pure]; intro t h; cases h
/-- A table, changed once. -/
def chgA (T : List (List Int)) (c : Int × Int × Int) : List (List Int) :=
  if 0 < (T.getD (rsI c.1 T.length).toNat []).length then
    T.set (rsI c.1 T.length).toNat ((T.getD (rsI c.1 T.length).toNat []).set (rsI c.2.1 (T.getD (rsI c.1 T.length).toNat []).length).toNat
      (IntKind.i64.wrap ((T.getD (rsI c.1 T.length).toNat []).getD (rsI c.2.1 (T.getD (rsI c.1 T.length).toNat []).length).toNat 0 + c.2.2.tmod 10000)))
  else T
def chgU (T : List (List Int)) (cs : List (Int × Int × Int)) : Nat → List (List Int)
  | 0 => T
  | n + 1 => chgA (chgU T cs n) (cs.getD n (0, 0, 0))
/-- A table, changed. -/
def chgT (T : List (List Int)) (cs : List (Int × Int × Int)) : List (List Int) := if T.length = 0 then T else chgU T cs (if cs.length < 64 then cs.length else 64)
theorem chgA_len (T : List (List Int)) (c : Int × Int × Int) : (chgA T c).length = T.length := by rw [chgA]; split <;> simp
theorem chgU_len (T : List (List Int)) (cs : List (Int × Int × Int)) : ∀ n, (chgU T cs n).length = T.length
  | 0 => rfl
  | n + 1 => by rw [chgU, chgA_len, chgU_len T cs n]

/-- The cell of a row that has a box. -/
def rwC (q : Nat) (r : List Int) : V := if r.length = 0 then .sl 0 [] .exact else .bsl q 0 r.length r.length
/-- Rows in boxes. -/
structure RwM (M : Mm) (oq : Nat) (qs : List Nat) (T : List (List Int)) : Prop where
  len : qs.length = T.length
  obj : ∀ y, y < T.length → 0 < (T.getD y []).length → M.obj (qs.getD y 0) = some (.box ((T.getD y []).map vint) 3)
  inc : ∀ y z, y < z → z < T.length → qs.getD y 0 < qs.getD z 0
  lt : ∀ y, y < T.length → qs.getD y 0 < oq
/-- The list of them. -/
def rwL (qs : List Nat) (T : List (List Int)) : List V := (List.range T.length).map fun y => rwC (qs.getD y 0) (T.getD y [])
theorem rwL_len (qs : List Nat) (T : List (List Int)) : (rwL qs T).length = T.length := by simp [rwL]
theorem rwL_at {qs : List Nat} {T : List (List Int)} {y : Nat} (hy : y < T.length) : (rwL qs T)[y]? = some (rwC (qs.getD y 0) (T.getD y [])) := by
  rw [rwL, List.getElem?_map, List.getElem?_range hy]; rfl
theorem rwL_vw {M : Mm} {oq : Nat} {qs : List Nat} {T : List (List Int)} (h : RwM M oq qs T) : Vws M allS (rwL qs T) (T.map tIs) := by
  have gen : ∀ (L : List Nat), (∀ y ∈ L, y < T.length) → Vws M allS (L.map fun y => rwC (qs.getD y 0) (T.getD y [])) (L.map fun y => tIs (T.getD y [])) := by
    intro L
    induction L with
    | nil => intro _; exact .nil
    | cons y L ih =>
      intro hL
      have hy := hL y (List.mem_cons_self ..)
      refine .cons ?_ (ih fun z hz => hL z (List.mem_cons_of_mem _ hz))
      show Vw M allS (rwC (qs.getD y 0) (T.getD y [])) (tIs (T.getD y []))
      unfold rwC
      split
      · rename_i h0
        have e : T.getD y [] = [] := List.eq_nil_of_length_eq_zero h0
        rw [e]; exact .sl _ _ _
      · rename_i h0
        rw [tIs]
        exact .bsl (us := (T.getD y []).map vint) rfl (h.obj y hy (by omega)) (Vws.of_dry (vint_dry _)) (vint_one _)
  have e : T.map tIs = (List.range T.length).map fun y => tIs (T.getD y []) := by
    apply List.ext_getElem?
    intro y
    by_cases hy : y < T.length
    · rw [iss_at hy, List.getElem?_map, List.getElem?_range hy]; rfl
    · rw [List.getElem?_eq_none (by rw [List.length_map]; omega), List.getElem?_eq_none (by rw [List.length_map, List.length_range]; omega)]
  rw [e]
  exact gen _ fun y hy => List.mem_range.1 hy
theorem tIs_one (T : List (List Int)) : (T.map tIs).all V.one = true := by have := fgt_one (rows_tIs T); rwa [fgt_tIs] at this

theorem rwC_cells (q : Nat) (r : List Int) : (rwC q r).cells = [rwC q r] := by unfold rwC; split <;> rfl
theorem rwC_one (q : Nat) (r : List Int) : (rwC q r).one = true := by unfold rwC; split <;> rfl
theorem rwC_ix (q : Nat) (r : List Int) (h : 0 < r.length) : rwC q r = .bsl q 0 r.length r.length := by unfold rwC; rw [if_neg (by omega)]
theorem rwL_one (qs : List Nat) (T : List (List Int)) : (rwL qs T).all V.one = true := by
  rw [List.all_eq_true]
  intro v hv
  rw [rwL] at hv
  obtain ⟨y, _, rfl⟩ := List.mem_map.1 hv
  exact rwC_one _ _
section
variable {P : Program} {G : Ground}
/-- A copy of a row of numbers. -/
theorem x_appR {base i : Nat} {d : Option Nat} {e : TypeId} {bytes : Nat} {x y : Opd} {l : List VI} {s : St} {K : St → Prop} {r : List Int} {k2 : Tok} {md : Option (List Nat)} (hx : s.ev x = .sl 0 [] .exact) (hy : s.ev y = .sl r.length (r.map vint) k2)
    (h3 : r.length * bytes ≤ 140737488355328) (h4 : r.length ≤ maxLen)
    (h : ∀ m', m'.next = s.m.next → (∀ q, q ≠ base + i → m'.obj q = s.m.obj q) → (0 < r.length → m'.obj (base + i) = some (.box (r.map vint) e)) → goR P G base (some ⟨putT s.t d (rwC (base + i) r), m'⟩) l (i + 1) K) :
    vrun P G base i (⟨d, none, .appB e 1 bytes, [x, y], md⟩ :: l) s K := by
  refine x_appB hx hy rfl (by simp) (by rw [Nat.zero_add]; exact h3) (by rw [Nat.zero_add]; exact h4) ?_
  by_cases h0 : r.length = 0
  · rw [if_pos h0]
    have := h s.m rfl (fun _ _ => rfl) (fun h1 => by omega)
    unfold rwC at this; rw [if_pos h0] at this; exact this
  · rw [if_neg h0]
    have := h (s.m.put (base + i) (.box (r.map vint) e)) rfl (fun q hq => put_other _ _ hq) (fun _ => put_same _ _ _)
    unfold rwC at this; rw [if_neg h0] at this
    rw [Nat.zero_add, List.nil_append]; exact this
end
theorem rwL_snoc {qs : List Nat} {T : List (List Int)} {k q : Nat} (hk : k < T.length) (hq : qs.length = k) : rwL (qs ++ [q]) (T.take (k + 1)) = rwL qs (T.take k) ++ [rwC q (T.getD k [])] := by
  have l1 : (T.take (k + 1)).length = k + 1 := by rw [List.length_take]; omega
  have l2 : (T.take k).length = k := by rw [List.length_take]; omega
  rw [rwL, rwL, l1, l2, List.range_succ, List.map_append, List.map_cons, List.map_nil]
  have ha : (qs ++ [q]).getD k 0 = q := by simp [List.getD_eq_getElem?_getD, ← hq]
  have hb : (T.take (k + 1)).getD k [] = T.getD k [] := by simp [List.getD_eq_getElem?_getD, List.getElem?_take]
  rw [ha, hb]
  congr 1
  apply List.map_congr_left
  intro y hy
  have hyk := List.mem_range.1 hy
  have hc : (qs ++ [q]).getD y 0 = qs.getD y 0 := by simp [List.getD_eq_getElem?_getD, List.getElem?_append_left (show y < qs.length by omega)]
  have hd : (T.take (k + 1)).getD y [] = (T.take k).getD y [] := by simp [List.getD_eq_getElem?_getD, List.getElem?_take, hyk, Nat.lt_succ_of_lt hyk]
  rw [hc, hd]
theorem take_getD_lt {T : List (List Int)} {k y : Nat} (hy : y < k) : (T.take k).getD y [] = T.getD y [] := by
  simp [List.getD_eq_getElem?_getD, List.getElem?_take, hy]

theorem getD_set {α : Type} {L : List α} {i y : Nat} {v d : α} : (L.set i v).getD y d = if i = y ∧ i < L.length then v else L.getD y d := by
  rw [List.getD_eq_getElem?_getD, List.getElem?_set]
  by_cases e : i = y
  · subst e
    by_cases h : i < L.length
    · simp [h]
    · simp [h, List.getD_eq_getElem?_getD, List.getElem?_eq_none (Nat.le_of_not_lt h)]
  · simp [e, List.getD_eq_getElem?_getD]
theorem chgA_row (T : List (List Int)) (c : Int × Int × Int) (y : Nat) : ((chgA T c).getD y []).length = (T.getD y []).length := by
  rw [chgA]
  split
  · rw [getD_set]
    split
    · rename_i h; rw [List.length_set, h.1]
    · rfl
  · rfl
theorem chgU_row (T : List (List Int)) (cs : List (Int × Int × Int)) (y : Nat) : ∀ n, ((chgU T cs n).getD y []).length = (T.getD y []).length
  | 0 => rfl
  | n + 1 => by rw [chgU, chgA_row, chgU_row T cs y n]
theorem rwL_congr {qs : List Nat} {T U : List (List Int)} (h1 : U.length = T.length) (h2 : ∀ y, (U.getD y []).length = (T.getD y []).length) : rwL qs U = rwL qs T := by
  rw [rwL, rwL, h1]
  apply List.map_congr_left
  intro y _
  unfold rwC
  rw [h2]
theorem ch_l (c : Int × Int × Int) : (chE c).length = 3 := rfl
theorem ch_at0 {l : List (Int × Int × Int)} {k : Nat} (h : k < l.length) : (l.flatMap chE)[k * 3]? = some (vint (l.getD k (0, 0, 0)).1) := by
  have := flat_at (j := 0) ch_l (0, 0, 0) h (by decide); rw [Nat.add_zero] at this; rw [this]; rfl
theorem ch_at1 {l : List (Int × Int × Int)} {k : Nat} (h : k < l.length) : (l.flatMap chE)[k * 3 + 1]? = some (vint (l.getD k (0, 0, 0)).2.1) := by
  rw [flat_at (j := 1) ch_l (0, 0, 0) h (by decide)]; rfl
theorem ch_at2 {l : List (Int × Int × Int)} {k : Nat} (h : k < l.length) : (l.flatMap chE)[k * 3 + 2]? = some (vint (l.getD k (0, 0, 0)).2.2) := by
  rw [flat_at (j := 2) ch_l (0, 0, 0) h (by decide)]; rfl

set_option maxHeartbeats 4000000 in
theorem changed_fn (T : List (List Int)) (hT : FitsT T) (h4 : T.length ≤ 400) (cs : List (Int × Int × Int)) (hcs : cs.length ≤ 17592186044416) : Fn Try.prog Gd 50 [tIss T, tChs cs] (tIss (chgT T cs)) := by
  refine Fn.of_vx0 k_theorbolaw06_Changed_b (by simp) (by rw [V.pures, pure_tIss, V.pures, pure_tChs]; rfl) ?_
  unfold c_theorbolaw06_Changed_b tIss tChs
  repeat' (with_reducible first | refine x_ops ?_ | refine wk ?_ | ((first | refine gd1 ?_ ?_ | refine gd2 ?_ ?_ | refine gd3 ?_ ?_) <;> (first | exact @False.elim _ | intro hc)))
  refine x_gen (fun t => t 0 = .sl T.length (T.map tIs) .no ∧ t 1 = .sl cs.length (cs.flatMap chE) .no ∧ t 5 = bxL 0 0 ∧ t 6 = vint 0) ⟨vv, vv, vv, vv⟩ ?_
  rintro t0 ⟨a0, a1, a5, a6⟩
  refine x_loopW w_theorbolaw06_Changed_b_p3 kr T.length (fun k t M => t 6 = vint (k : Int) ∧ ∃ oq qs, t 5 = bxL k oq ∧ (0 < k → M.obj oq = some (.box (rwL qs (T.take k)) 22) ∧ oq < M.next) ∧ RwM M oq qs (T.take k)) ?_ ?_
  · exact ⟨a6, 0, [], a5, fun h => by omega, rfl, fun y hy => by simp at hy, fun y z _ hz => by simp at hz, fun y hy => by simp at hy⟩
  rintro k t M hk ⟨h6, oq, qs, h5, hp, hr⟩
  by_cases hkl : k < T.length
  · have c1 : (k : Int) < (T.length : Int) := by omega
    have g1 := iss_at' hkl
    have w1 := w_add1 (k := k) (by omega)
    have hrl := hT.row _ (mem_getD [] hkl)
    replace hp := Hid.mk hp
    replace hr := Hid.mk hr
    have l2 : (T.take k).length = k := by rw [List.length_take]; omega
    replace l2 := Hid.mk l2
    repeat' (with_reducible first | refine x_ops ?_ | refine wk ?_ | ((first | refine gd1 ?_ ?_ | refine gd2 ?_ ?_ | refine gd3 ?_ ?_) <;> (first | exact @False.elim _ | intro hc)))
    refine x_appR (r := T.getD k []) (k2 := .no) vw vw (by omega) (by unfold Go.maxLen; omega) ?_
    intro m1 n1 f1 b1
    replace n1 : m1.next = M.next + 9 := n1
    have rc := rwC_cells (M.next + 5) (T.getD k [])
    simp only [V.cells] at rc
    have ro := rwC_one (M.next + 5) (T.getD k [])
    replace f1 := Hid.mk f1
    replace b1 := Hid.mk b1
    replace n1 := Hid.mk n1
    repeat' (with_reducible first | refine x_ops ?_ | refine wk ?_ | ((first | refine gd1 ?_ ?_ | refine gd2 ?_ ?_ | refine gd3 ?_ ?_) <;> (first | exact @False.elim _ | intro hc)))
    refine x_appG (k := k) (oq := oq) (cs := rwL qs (T.take k)) (v := rwC (M.next + 5) (T.getD k [])) vw ?_ ?_ (by rw [rwL_len]; exact l2.out) (rwL_one _ _) (by omega) (by unfold Go.maxLen; omega) ?_
    · have e : ∀ c, c.one = true → rdS (m1.put (M.next + 6) (.box [c] 22)) 1 (.gsl (M.next + 6) 1 1) = some (1, [c]) := fun c hc => by
        simp [rdS, put_same, hc]
      exact e _ ro
    · intro h0
      have := (hp.out h0).2
      refine (put_other _ _ (by omega)).trans ?_
      rw [f1.out oq (by omega)]
      exact (hp.out h0).1
    intro m2 n2 f2 b2
    have n2' : m2.next = M.next + 9 := n2.trans n1.out
    have old : ∀ q, q < M.next → (0 < k → q ≠ oq) → m2.obj q = M.obj q := fun q hq hqo =>
      (f2 q (by show ¬ q = M.next + 7; omega) hqo).trans ((put_other _ _ (by omega)).trans (f1.out q (by omega)))
    have hr' : RwM m2 (M.next + 7) (qs ++ [M.next + 5]) (T.take (k + 1)) := by
      have hq : qs.length = k := hr.out.len.trans l2.out
      have l3 : (T.take (k + 1)).length = k + 1 := by rw [List.length_take]; omega
      have gq : ∀ y, y < k → (qs ++ [M.next + 5]).getD y 0 = qs.getD y 0 := fun y hy => by simp [List.getD_eq_getElem?_getD, List.getElem?_append_left (show y < qs.length by omega)]
      have gl : (qs ++ [M.next + 5]).getD k 0 = M.next + 5 := by simp [List.getD_eq_getElem?_getD, ← hq]
      have hlo : ∀ y, y < k → qs.getD y 0 < oq ∧ oq < M.next := fun y hy => ⟨hr.out.lt y (by rw [l2.out]; exact hy), (hp.out (by omega)).2⟩
      refine ⟨by rw [List.length_append, hq, l3]; rfl, fun y hy h0 => ?_, fun y z hyz hz => ?_, fun y hy => ?_⟩
      · rw [l3] at hy
        by_cases e : y = k
        · subst e
          rw [gl, take_getD_lt (by omega)]
          rw [take_getD_lt (by omega)] at h0
          exact (f2 _ (by show ¬ M.next + 5 = M.next + 7; omega) (fun h1 => by have := (hp.out h1).2; omega)).trans ((put_other _ _ (by omega)).trans (b1.out h0))
        · have hy' : y < k := by omega
          have := hlo y hy'
          rw [gq y hy', take_getD_lt (by omega), old _ (by omega) (fun _ => by omega)]
          rw [take_getD_lt (by omega)] at h0
          have h9 := hr.out.obj y (by rw [l2.out]; exact hy') (by rw [take_getD_lt hy']; exact h0)
          rwa [take_getD_lt hy'] at h9
      · rw [l3] at hz
        rw [gq y (by omega)]
        by_cases e : z = k
        · subst e; rw [gl]; have := hlo y hyz; omega
        · rw [gq z (by omega)]; exact hr.out.inc y z hyz (by rw [l2.out]; omega)
      · rw [l3] at hy
        by_cases e : y = k
        · subst e; rw [gl]; omega
        · rw [gq y (by omega)]; have := hlo y (by omega); omega
    have hb : m2.obj (M.next + 7) = some (.box (rwL (qs ++ [M.next + 5]) (T.take (k + 1))) 22) := by
      rw [rwL_snoc hkl (hr.out.len.trans l2.out)]; exact b2
    replace hr' := Hid.mk hr'
    replace hb := Hid.mk hb
    have n3' : M.next + 7 < m2.next := by omega
    replace n2' := Hid.mk n2'
    clear f2 b2 n2 old rc ro
    repeat' (with_reducible first | refine x_ops ?_ | refine wk ?_ | ((first | refine gd1 ?_ ?_ | refine gd2 ?_ ?_ | refine gd3 ?_ ?_) <;> (first | exact @False.elim _ | intro hc)))
    refine nx hkl ⟨vv, M.next + 7, qs ++ [M.next + 5], ?_, fun _ => ⟨hb.out, n3'⟩, hr'.out⟩
    rw [show bxL (k + 1) (M.next + 7) = .gsl (M.next + 7) (k + 1) 1 from if_neg (Nat.succ_ne_zero k)]
    exact vv
  have hke : k = T.length := by omega
  subst hke
  have c1 : ¬ (T.length : Int) < (T.length : Int) := by omega
  rw [List.take_of_length_le (Nat.le_refl _)] at hp hr
  clear hk hkl
  replace hp := Hid.mk hp
  replace hr := Hid.mk hr
  repeat' (with_reducible first | refine x_ops ?_ | refine wk ?_ | ((first | refine gd1 ?_ ?_ | refine gd2 ?_ ?_ | refine gd3 ?_ ?_) <;> (first | exact @False.elim _ | intro hc)))
  refine x_gen (fun t => t 1 = .sl cs.length (cs.flatMap chE) .no ∧ t 5 = bxL T.length oq ∧ t 7 = vint 0) ⟨vw, vw, vv⟩ ?_
  clear a0 a1 a5 a6 h6 h5 c1
  rintro t1 ⟨a1, a5, a7⟩
  by_cases hT0 : T.length = 0
  · have e0 : T = [] := List.eq_nil_of_length_eq_zero hT0
    have e1 : chgT T cs = [] := by rw [chgT, if_pos hT0, e0]
    rw [e1]
    rw [hT0] at a5
    unfold bxL at a5
    rw [if_pos rfl] at a5
    clear hp hr hT
    refine x_loopF w_theorbolaw06_Changed_b_p9 kr 0 (fun q t => t 7 = vint 0) a7 ?_
    rintro q t2 hq h7
    by_cases hc0 : 0 < cs.length
    · have c1 : (0 : Int) < (cs.length : Int) := by omega
      clear hc0
      repeat' (with_reducible first | refine x_ops ?_ | refine wk ?_ | ((first | refine gd1 ?_ ?_ | refine gd2 ?_ ?_ | refine gd3 ?_ ?_) <;> (first | exact @False.elim _ | intro hc)))
      exact finV_ret vv (.sl _ _ _)
    · have c1 : ¬ (0 : Int) < (cs.length : Int) := by omega
      clear hc0
      repeat' (with_reducible first | refine x_ops ?_ | refine wk ?_ | ((first | refine gd1 ?_ ?_ | refine gd2 ?_ ?_ | refine gd3 ?_ ?_) <;> (first | exact @False.elim _ | intro hc)))
      exact finV_ret vv (.sl _ _ _)
  have hoq := hp.out (by omega)
  have e5 : bxL T.length oq = .gsl oq T.length 1 := if_neg hT0
  rw [e5] at a5
  have hN : chgT T cs = chgU T cs (if cs.length < 64 then cs.length else 64) := by rw [chgT, if_neg hT0]
  generalize hNn : (if cs.length < 64 then cs.length else 64) = N at hN
  have hNc : N ≤ cs.length ∧ N ≤ 64 ∧ (cs.length = N ∨ N = 64) := by rw [← hNn]; split <;> omega
  replace hNn := Hid.mk hNn
  rw [hN]
  have ho0 := hoq.1
  clear hp e5 hN
  refine x_loopW w_theorbolaw06_Changed_b_p9 kr N (fun k t M' => t 7 = vint (k : Int) ∧ M'.next = M.next ∧ M'.obj oq = M.obj oq ∧ RwM M' oq qs (chgU T cs k)) ?_ ?_
  · exact ⟨a7, rfl, rfl, hr.out⟩
  rintro k t2 M' hk ⟨h7, mn, mo, hr2⟩
  have mo' := mo.trans ho0
  have hoM : oq < M'.next := by rw [mn]; exact hoq.2
  replace mn := Hid.mk mn
  replace mo := Hid.mk mo
  have hUl := chgU_len T cs k
  have hUr := fun y => chgU_row T cs y k
  by_cases hkN : k < N
  case neg =>
    have hke : k = N := by omega
    subst hke
    have hL : rwL qs (chgU T cs k) = rwL qs T := rwL_congr hUl hUr
    rw [← hL] at mo'
    have hfin : FinV [VRes.t 4] (V.sl (chgU T cs k).length (List.map tIs (chgU T cs k)) Tok.no) .ret ⟨putT (putT t2 none vund) none vund, M'⟩ → True := fun _ => trivial
    replace hr2 := Hid.mk hr2
    rw [hUl]
    rcases hNc.2.2 with hc | hc
    · have c1 : ¬ (k : Int) < (cs.length : Int) := by omega
      clear hr hUl hUr hL hoq ho0 hNc hc hfin
      repeat' (with_reducible first | refine x_ops ?_ | refine wk ?_ | ((first | refine gd1 ?_ ?_ | refine gd2 ?_ ?_ | refine gd3 ?_ ?_) <;> (first | exact @False.elim _ | intro hc)))
      exact finV_ret vv (.gsl rfl mo' (rwL_vw hr2.out) (tIs_one _))
    · have c2 : ¬ (k : Int) < 64 := by omega
      by_cases hkc : k < cs.length
      · have c1 : (k : Int) < (cs.length : Int) := by omega
        clear hr hUl hUr hL hoq ho0 hNc hc hfin
        repeat' (with_reducible first | refine x_ops ?_ | refine wk ?_ | ((first | refine gd1 ?_ ?_ | refine gd2 ?_ ?_ | refine gd3 ?_ ?_) <;> (first | exact @False.elim _ | intro hc)))
        exact finV_ret vv (.gsl rfl mo' (rwL_vw hr2.out) (tIs_one _))
      · have c1 : ¬ (k : Int) < (cs.length : Int) := by omega
        clear hr hUl hUr hL hoq ho0 hNc hc hfin
        repeat' (with_reducible first | refine x_ops ?_ | refine wk ?_ | ((first | refine gd1 ?_ ?_ | refine gd2 ?_ ?_ | refine gd3 ?_ ?_) <;> (first | exact @False.elim _ | intro hc)))
        exact finV_ret vv (.gsl rfl mo' (rwL_vw hr2.out) (tIs_one _))
  have c1 : (k : Int) < (cs.length : Int) := by omega
  have c2 : (k : Int) < 64 := by omega
  have c3 : (0 : Int) < (T.length : Int) := by omega
  have w1 := w_add1 (k := k) (by omega)
  have hkc : k < cs.length := by omega
  have g0 := ch_at0 hkc
  have g1 := ch_at1 hkc
  have g2 := ch_at2 hkc
  have g3 := flat_len ch_l cs
  have hU1 : chgU T cs (k + 1) = chgA (chgU T cs k) (cs.getD k (0, 0, 0)) := rfl
  generalize cs.getD k (0, 0, 0) = c at *
  obtain ⟨ca, cb, cc⟩ := c
  have RS1 := rest_fn ca (T.length : Int) (by omega) (by omega)
  have hb1 := rs_bound ca (n := (T.length : Int)) (by omega)
  obtain ⟨r, hrr⟩ : ∃ r : Nat, rsI ca (T.length : Int) = (r : Int) := ⟨_, (Int.toNat_of_nonneg hb1.1).symm⟩
  rw [hrr] at RS1 hb1
  have hrT : r < T.length := by omega
  have c4 : (r : Int) < (T.length : Int) := hb1.2
  have gR := rwL_at (qs := qs) hrT
  generalize hU : chgU T cs k = U at *
  rw [chgA, hUl, hrr, Int.toNat_natCast] at hU1
  dsimp only at hU1 g0 g1 g2
  have hlr := hUr r
  by_cases h0 : 0 < (T.getD r []).length
  case neg =>
    rw [if_neg (by omega)] at hU1
    have er : rwC (qs.getD r 0) (T.getD r []) = .sl 0 [] .exact := by unfold rwC; rw [if_pos (by omega)]
    rw [er] at gR
    replace hU1 := Hid.mk hU1
    replace hr2 := Hid.mk hr2
    replace hU := Hid.mk hU
    clear er h0 hlr hUr hUl hr hNc hrr hb1 ho0 hoq
    repeat' (with_reducible first | refine x_ops ?_ | refine wk ?_ | (with_reducible refine xc (RS1) ?_) | ((first | refine gd1 ?_ ?_ | refine gd2 ?_ ?_ | refine gd3 ?_ ?_) <;> (first | exact @False.elim _ | intro hc)))
    exact nx hkN ⟨vv, mn.out, mo.out, by rw [hU1.out]; exact hr2.out⟩
  rw [if_pos (by omega), hlr] at hU1
  have er := rwC_ix (qs.getD r 0) (T.getD r []) h0
  rw [er] at gR
  have hq := hr2.obj r (by omega) (by omega)
  have hql := hr2.lt r (by omega)
  have hqM : qs.getD r 0 < M'.next := by omega
  have hrw := hT.row _ (mem_getD [] hrT)
  have RS2 := rest_fn cb ((T.getD r []).length : Int) (by omega) (by omega)
  have hb2 := rs_bound cb (n := ((T.getD r []).length : Int)) (by omega)
  obtain ⟨z, hz⟩ : ∃ z : Nat, rsI cb ((T.getD r []).length : Int) = (z : Int) := ⟨_, (Int.toNat_of_nonneg hb2.1).symm⟩
  rw [hz] at RS2 hb2 hU1
  rw [Int.toNat_natCast] at hU1
  have c5 : (z : Int) < ((T.getD r []).length : Int) := hb2.2
  have g5 := ints_at (l := U.getD r []) (k := z) (by omega)
  have c6 : (0 : Int) < ((T.getD r []).length : Int) := by omega
  have c7 : z + 1 ≤ (U.getD r []).length := by omega
  have n0 : ¬ (10000 : Int) = 0 := by decide
  have hset := set_eq (L := (U.getD r []).map vint) (i := z) (by rw [List.length_map]; omega) (vint (IntKind.i64.wrap ((U.getD r []).getD z 0 + cc.tmod 10000)))
  have hneq : ∀ y, y < T.length → y ≠ r → qs.getD y 0 ≠ qs.getD r 0 := fun y hy hyr => by
    rcases Nat.lt_or_gt_of_ne hyr with h1 | h1
    · have := hr2.inc y r h1 (by omega); omega
    · have := hr2.inc r y h1 (by omega); omega
  generalize hqe : qs.getD r 0 = q at *
  replace hqe := Hid.mk hqe
  replace hU1 := Hid.mk hU1
  replace hr2 := Hid.mk hr2
  replace hU := Hid.mk hU
  replace hset := Hid.mk hset
  replace hneq := Hid.mk hneq
  replace hlr := Hid.mk hlr
  clear er h0 hUr hr hNc hrr hb1 hb2 hz ho0 hoq
  repeat' (with_reducible first | refine x_ops ?_ | refine wk ?_ | (with_reducible refine xc (RS1) ?_) | (with_reducible refine xc (RS2) ?_) | ((first | refine gd1 ?_ ?_ | refine gd2 ?_ ?_ | refine gd3 ?_ ?_) <;> (first | exact @False.elim _ | intro hc)))
  refine nx hkN ⟨vv, mn.out, ?_, ?_⟩
  · exact (put_other _ _ (by omega)).trans mo.out
  rw [hU1.out]
  refine ⟨by rw [List.length_set]; exact hr2.out.len, fun y hy h0 => ?_, fun y z' hyz hz' => hr2.out.inc y z' hyz (by rwa [List.length_set] at hz'), fun y hy => hr2.out.lt y (by rwa [List.length_set] at hy)⟩
  rw [List.length_set] at hy
  have hUl' := hUl
  by_cases e : y = r
  · subst e
    rw [hqe.out]
    refine (put_same _ _ _).trans ?_
    rw [getD_set, if_pos ⟨rfl, by omega⟩, List.map_set, hset.out]
    simp [vint]
  · rw [getD_set, if_neg (fun hh => e hh.1.symm)] at h0 ⊢
    exact (put_other _ _ (hneq.out y (by omega) e)).trans (hr2.out.obj y hy h0)
end Go.Proofs.Ytojjdkoglhecbaa
namespace Go.Proofs.Ytojjdkoglhecbaa
open Go.ChangeShapes Go.WideShapes Go.ChangeAt Go.RowKit
set_option maxRecDepth 100000

def tyChange : Ty := .st [.int, .int, .int]
theorem dt_change {d : Dt} (h : d.ok tyChange) : ∃ c : Int × Int × Int, d.cells = chE c ∧ True := by
  obtain ⟨l, _, h1, hc, hv⟩ := ok_st h
  obtain ⟨d1, r1, rfl, k1, h2, e1⟩ := oks_cons h1
  obtain ⟨d2, r2, rfl, k2, h3, e2⟩ := oks_cons h2
  obtain ⟨d3, r3, rfl, k3, h4, e3⟩ := oks_cons h3
  obtain ⟨a, ea, _⟩ := dt_int k1
  obtain ⟨b, eb, _⟩ := dt_int k2
  obtain ⟨c, ec, _⟩ := dt_int k3
  exact ⟨(a, b, c), by rw [hc, e1, e2, e3, oks_nil h4, ea, eb, ec]; rfl, trivial⟩
theorem dt_changes {b : Nat} {d : Dt} (hb : 8 ≤ b) (h : d.ok (.sl tyChange b)) : ∃ l : List (Int × Int × Int), d.cells = [tChs l] ∧ l.length ≤ 17592186044416 := by
  obtain ⟨l, h1, h2, h3⟩ := dt_list (enc := chE) h fun _ hd => dt_change hd
  exact ⟨l, h1, by have := Nat.mul_le_mul_left l.length hb; omega⟩
theorem dt_changesV {d : Dt} (h : d.ok (.sl tyChange 24)) : ∃ l : List (Int × Int × Int), d.val = tChs l ∧ l.length ≤ 17592186044416 := by
  obtain ⟨l, h1, h2⟩ := dt_changes (by decide) h
  rw [dt_one h] at h1
  exact ⟨l, List.cons.inj h1 |>.1, h2⟩
theorem ty_changes : tyOf Try.prog 10 69 = some (.sl tyChange 24) := by kernel_rfl
end Go.Proofs.Ytojjdkoglhecbaa
namespace Go.Proofs.Ytojjdkoglhecbaa
open Go.RowKit

/-- The pairs of grips of the first chords. -/
noncomputable def hvU (h : Hand) (l : List Chord) : Nat → Int
  | 0 => 0
  | k + 1 => hvU h l k + (if k = 0 then 0 else ((grpA h (l.getD (k - 1) noC)).length : Int)) * ((grpA h (l.getD k noC)).length : Int)
/-- Does a search take too many steps? -/
noncomputable def hvB (h : Hand) (l : List Chord) : Bool :=
  if bothE h l = 0 then (if 24 < l.length then true else if wvE h l = 0 then decide (6000 < hvU h l l.length) else false) else false
theorem hvU_bound {h : Hand} {l : List Chord} : ∀ {k : Nat}, (∀ i, i < k → (grpA h (l.getD i noC)).length ≤ 200) → 0 ≤ hvU h l k ∧ hvU h l k ≤ 40000 * k
  | 0, _ => by simp [hvU]
  | k + 1, hk => by
    have h1 := hvU_bound (h := h) (l := l) (k := k) (fun i hi => hk i (by omega))
    have h2 := hk k (by omega)
    rw [hvU]
    by_cases k0 : k = 0
    · rw [if_pos k0, Int.zero_mul]; omega
    · rw [if_neg k0]
      have h3 := hk (k - 1) (by omega)
      have h5 : (grpA h (l.getD (k - 1) noC)).length * (grpA h (l.getD k noC)).length ≤ 200 * 200 := Nat.mul_le_mul h3 h2
      have h6 : ((grpA h (l.getD (k - 1) noC)).length : Int) * ((grpA h (l.getD k noC)).length : Int) = (((grpA h (l.getD (k - 1) noC)).length * (grpA h (l.getD k noC)).length : Nat) : Int) := by push_cast; rfl
      omega

set_option maxHeartbeats 2000000 in
theorem heavy_fn (h : Hand) (l : List Chord) (hl : Fits l) : Fn Try.prog Gd 29 [h.val, tCs l] (vbool (hvB h l)) := by
  refine Fn.of_vx0 k_theorbolaw06_Heavy (by simp) (by rw [V.pures, pure_hand, V.pures, pure_tCs]; rfl) ?_
  have C1 := rcheck_fn h
  have C2 := rcheckchords_fn l hl
  unfold hvB bothE
  unfold tCs at C2
  unfold Hand.val at C1
  unfold c_theorbolaw06_Heavy Hand.val tCs
  by_cases he : chkE h = 0
  case neg =>
    have e1 : (chkE h == 0) = false := by rw [beq_eq_false_iff_ne]; exact he
    rw [chk_bad he] at C1
    rw [if_neg he, if_neg (by decide)]
    clear he
    repeat' (with_reducible first | refine x_ops ?_ | refine wk ?_ | (with_reducible refine xc (C1) ?_) | (with_reducible refine xc (C2) ?_) | ((first | refine gd1 ?_ ?_ | refine gd2 ?_ ?_ | refine gd3 ?_ ?_) <;> (first | exact @False.elim _ | intro hc)))
    all_goals exact finV_lit vv rfl
  rw [he] at C1
  rw [if_pos he]
  by_cases hs : seqE l = 0
  case neg =>
    have e1 : (seqE l == 0) = false := by rw [beq_eq_false_iff_ne]; exact hs
    rw [if_neg hs]
    clear he hs
    repeat' (with_reducible first | refine x_ops ?_ | refine wk ?_ | (with_reducible refine xc (C1) ?_) | (with_reducible refine xc (C2) ?_) | ((first | refine gd1 ?_ ?_ | refine gd2 ?_ ?_ | refine gd3 ?_ ?_) <;> (first | exact @False.elim _ | intro hc)))
    all_goals exact finV_lit vv rfl
  rw [if_pos hs]
  have hb : bothE h l = 0 := by rw [bothE, if_pos he]; exact hs
  obtain ⟨hk, h4, hseq⟩ := both_ok hb
  rw [hs] at C2
  clear hs he
  by_cases h24 : 24 < l.length
  · have c1 : (24 : Int) < (l.length : Int) := by omega
    rw [if_pos h24]
    clear hb h24
    repeat' (with_reducible first | refine x_ops ?_ | refine wk ?_ | (with_reducible refine xc (C1) ?_) | (with_reducible refine xc (C2) ?_) | ((first | refine gd1 ?_ ?_ | refine gd2 ?_ ?_ | refine gd3 ?_ ?_) <;> (first | exact @False.elim _ | intro hc)))
    all_goals exact finV_lit vv rfl
  have c1 : ¬ (24 : Int) < (l.length : Int) := by omega
  rw [if_neg h24]
  repeat' (with_reducible first | refine x_ops ?_ | refine wk ?_ | (with_reducible refine xc (C1) ?_) | (with_reducible refine xc (C2) ?_) | ((first | refine gd1 ?_ ?_ | refine gd2 ?_ ?_ | refine gd3 ?_ ?_) <;> (first | exact @False.elim _ | intro hc)))
  refine x_gen (fun t => t 1 = .sl l.length (l.flatMap Chord.cells) .no ∧ t 2 = .ptr 0 0 ∧ t 5 = vint 0 ∧ t 6 = vint 0 ∧ t 7 = vint 0) ⟨vv, vv, vv, vv, vv⟩ ?_
  clear C1 C2 c1
  rintro t0 ⟨a1, a2, a5, a6, a7⟩
  refine x_loopF w_theorbolaw06_Heavy_p9 kr l.length (fun k t => t 7 = vint (k : Int) ∧ t 5 = vint (hvU h l k) ∧ t 6 = vint (if k = 0 then 0 else ((grpA h (l.getD (k - 1) noC)).length : Int)) ∧ ∀ i, i < k → (grpA h (l.getD i noC)).length ≤ 200) ?_ ?_
  · exact ⟨a7, by rw [hvU]; exact a5, by rw [if_pos rfl]; exact a6, fun i hi => by omega⟩
  rintro k t hkl ⟨h7, h5, h6, hcnt⟩
  by_cases hlt : k < l.length
  case neg =>
    have hke : k = l.length := by omega
    subst hke
    have c1 : ¬ (l.length : Int) < (l.length : Int) := by omega
    rw [if_pos (show wvE h l = 0 by rw [wvE, if_pos hb, if_pos hcnt])]
    clear hcnt hb hlt hkl
    repeat' (with_reducible first | refine x_ops ?_ | refine wk ?_ | ((first | refine gd1 ?_ ?_ | refine gd2 ?_ ?_ | refine gd3 ?_ ?_) <;> (first | exact @False.elim _ | intro hc)))
    exact finV_lit vv rfl
  have C2 := rGrips_fn h (l.getD k noC) (hl.at k)
  rw [grR_net hk (hseq k hlt).1] at C2
  have g1 := chs_take hlt
  have g2 := chs_len l
  have c1 : k * 3 + 3 ≤ l.length * 3 := by omega
  have c2 : (k : Int) < (l.length : Int) := by omega
  have w1 := w_add1 (k := k) (by omega)
  unfold Hand.val Chord.val Chord.cells at C2
  by_cases hc2 : (grpA h (l.getD k noC)).length ≤ 200
  case neg =>
    rw [if_neg (show ¬ wvE h l = 0 by rw [wvE, if_pos hb, if_neg (fun hh => hc2 (hh k hlt))]; decide)]
    rw [if_neg hc2] at C2
    unfold tGs at C2
    clear hc2 hcnt hb
    dsimp only at C2
    repeat' (with_reducible first | refine x_ops ?_ | refine wk ?_ | (with_reducible refine xc (C2) ?_) | ((first | refine gd1 ?_ ?_ | refine gd2 ?_ ?_ | refine gd3 ?_ ?_) <;> (first | exact @False.elim _ | intro hc)))
    exact finV_lit vv rfl
  have hcn : ∀ i, i < k + 1 → (grpA h (l.getD i noC)).length ≤ 200 := fun i hi => by
    by_cases hik : i = k
    · subst hik; exact hc2
    · exact hcnt i (by omega)
  rw [if_pos hc2] at C2
  have hb1 := hvU_bound (h := h) (l := l) (k := k) hcnt
  have hb2 := hvU_bound (h := h) (l := l) (k := k + 1) hcn
  have hU : hvU h l (k + 1) = hvU h l k + (if k = 0 then 0 else ((grpA h (l.getD (k - 1) noC)).length : Int)) * ((grpA h (l.getD k noC)).length : Int) := rfl
  have hla : 0 ≤ (if k = 0 then 0 else ((grpA h (l.getD (k - 1) noC)).length : Int)) := by split <;> omega
  have hlast : (if k + 1 = 0 then 0 else ((grpA h (l.getD (k + 1 - 1) noC)).length : Int)) = ((grpA h (l.getD k noC)).length : Int) := by rw [if_neg (by omega), Nat.add_sub_cancel]
  generalize hun : hvU h l (k + 1) = un at *
  replace hun := Hid.mk hun
  generalize hvU h l k = uk at *
  generalize (if k = 0 then 0 else ((grpA h (l.getD (k - 1) noC)).length : Int)) = la at *
  have hmul : 0 ≤ la * ((grpA h (l.getD k noC)).length : Int) := Int.mul_nonneg hla (by omega)
  have w2 : IntKind.i64.wrap (la * ((grpA h (l.getD k noC)).length : Int)) = la * ((grpA h (l.getD k noC)).length : Int) := w_in (by omega)
  have w3 : IntKind.i64.wrap (uk + la * ((grpA h (l.getD k noC)).length : Int)) = un := by rw [w_in (by omega)]; exact hU.symm
  unfold tGs at C2
  replace hlast := Hid.mk hlast
  replace hcn := Hid.mk hcn
  replace hb := Hid.mk hb
  clear hU hb1 hb2 hla hmul hcnt hc2
  generalize grpA h (l.getD k noC) = G at *
  dsimp only at C2
  repeat' (with_reducible first | refine x_ops ?_ | refine wk ?_ | (with_reducible refine xc (C2) ?_) | ((first | refine gd1 ?_ ?_ | refine gd2 ?_ ?_ | refine gd3 ?_ ?_) <;> (first | exact @False.elim _ | intro hc)))
  exact nf hlt ⟨vv, by rw [hun.out]; exact vv, by rw [hlast.out]; exact vv, hcn.out⟩ rfl
end Go.Proofs.Ytojjdkoglhecbaa
namespace Go.Proofs.Ytojjdkoglhecbaa
open Go.RowKit

theorem wrap_in (x : Int) : -9223372036854775808 ≤ IntKind.i64.wrap x ∧ IntKind.i64.wrap x ≤ 9223372036854775807 := by
  have h1 : IntKind.i64.wrap x = if x % 18446744073709551616 ≥ 9223372036854775808 then x % 18446744073709551616 - 18446744073709551616 else x % 18446744073709551616 := by
    simp [IntKind.wrap, IntKind.bits, IntKind.signed]
  rw [h1]
  split <;> omega
theorem fits_chgA {T : List (List Int)} (hT : FitsT T) (c : Int × Int × Int) : FitsT (chgA T c) := by
  have hl := chgA_len T c
  rw [chgA] at hl ⊢
  split
  · rename_i h0
    have hr : (rsI c.1 T.length).toNat < T.length := by
      rcases Nat.lt_or_ge (rsI c.1 T.length).toNat T.length with h1 | h1
      · exact h1
      · rw [List.getD_eq_getElem?_getD, List.getElem?_eq_none h1] at h0; simp at h0
    have hm := mem_getD [] hr
    generalize (rsI c.1 T.length).toNat = r at *
    have hrow : ∀ row, row ∈ T.set r ((T.getD r []).set (rsI c.2.1 (T.getD r []).length).toNat (IntKind.i64.wrap ((T.getD r []).getD (rsI c.2.1 (T.getD r []).length).toNat 0 + c.2.2.tmod 10000))) → row.length ≤ 17592186044416 ∧ ∀ x ∈ row, -9223372036854775808 ≤ x ∧ x ≤ 9223372036854775807 := fun row hrow => by
      rcases List.mem_or_eq_of_mem_set hrow with h1 | h1
      · exact ⟨hT.row _ h1, fun x hx => ⟨hT.lo _ h1 x hx, hT.hi _ h1 x hx⟩⟩
      · subst h1
        refine ⟨by rw [List.length_set]; exact hT.row _ hm, fun x hx => ?_⟩
        rcases List.mem_or_eq_of_mem_set hx with h2 | h2
        · exact ⟨hT.lo _ hm x h2, hT.hi _ hm x h2⟩
        · rw [h2]; exact wrap_in _
    exact ⟨by rw [List.length_set]; exact hT.len, fun r hr => (hrow r hr).1, fun r hr x hx => ((hrow r hr).2 x hx).1, fun r hr x hx => ((hrow r hr).2 x hx).2⟩
  · exact hT
theorem fits_chgU {T : List (List Int)} (hT : FitsT T) (cs : List (Int × Int × Int)) : ∀ n, FitsT (chgU T cs n)
  | 0 => hT
  | n + 1 => fits_chgA (fits_chgU hT cs n) _
theorem fits_chgT {T : List (List Int)} (hT : FitsT T) (cs : List (Int × Int × Int)) : FitsT (chgT T cs) := by
  rw [chgT]; split
  · exact hT
  · exact fits_chgU hT cs _
theorem fits_prv (h : Hand) (l : List Chord) (hl : Fits l) : FitsT (prvR h l).1 ∧ (prvR h l).1.length ≤ 400 := by
  rw [prvR]
  split
  · rename_i hw
    have hn := wv_net hl hw
    have h4 := hn.len
    have hrow : ∀ r, r ∈ rsA h l (tabG h l) → r.length ≤ 200 ∧ ∀ x ∈ r, -1 ≤ x ∧ x ≤ 509000 * 400 := fun r hr => by
      rw [rsA] at hr
      obtain ⟨i, hi, rfl⟩ := List.mem_map.1 hr
      have hil := List.mem_range.1 hi
      refine ⟨by rw [rsT_len hil]; exact hn.cnt i, fun x hx => ?_⟩
      obtain ⟨k, hk, rfl⟩ := List.mem_iff_getElem.1 hx
      have hb := rsT_bound hn _ i rfl hil k (by rwa [rsT_len hil] at hk)
      have e : (rsT h l (tabG h l) i).getD k 0 = (rsT h l (tabG h l) i)[k] := by rw [List.getD_eq_getElem?_getD, List.getElem?_eq_getElem hk]; rfl
      rw [e] at hb
      rcases hb with h1 | h1
      · omega
      · have : l.length - i ≤ 400 := by omega
        omega
    exact ⟨⟨by rw [rsA_len]; omega, fun r hr => by have := (hrow r hr).1; omega, fun r hr x hx => by have := ((hrow r hr).2 x hx).1; omega, fun r hr x hx => by have := ((hrow r hr).2 x hx).2; omega⟩, by rw [rsA_len]; exact h4⟩
  · exact ⟨⟨by simp, (fun r hr => by cases hr), (fun r hr => by cases hr), (fun r hr => by cases hr)⟩, by simp⟩

end Go.Proofs.Ytojjdkoglhecbaa
namespace Go.Proofs.Ytojjdkoglhecbaa
open Go.RowKit

/-- A hand with lower weights. -/
def ltH (h : Hand) (a b c d e : Int) : Hand := { h with shift := h.shift - rsI a (h.shift + 1), lift := h.lift - rsI b (h.lift + 1), bar := h.bar - rsI c (h.bar + 1), stretch := h.stretch - rsI d (h.stretch + 1), slide := h.slide - rsI e (h.slide + 1) }
theorem lt_light {h : Hand} (hk : HandOk h) (a b c d e : Int) : Light h (ltH h a b c d e) := by
  have s1 := hk.shift
  have s2 := hk.lift
  have s3 := hk.bar
  have s4 := hk.stretch
  have s5 := hk.slide
  have r1 := rs_bound (n := h.shift + 1) a (by omega)
  have r2 := rs_bound (n := h.lift + 1) b (by omega)
  have r3 := rs_bound (n := h.bar + 1) c (by omega)
  have r4 := rs_bound (n := h.stretch + 1) d (by omega)
  have r5 := rs_bound (n := h.slide + 1) e (by omega)
  refine ⟨rfl, rfl, rfl, rfl, rfl, ⟨?_, ?_⟩, ⟨?_, ?_⟩, ⟨?_, ?_⟩, ⟨?_, ?_⟩, ⟨?_, ?_⟩⟩ <;> unfold ltH <;> dsimp only <;> omega
def lessV (a b c d e : Int) : V := .agg [vint a, vint b, vint c, vint d, vint e]
set_option maxHeartbeats 4000000 in
theorem handweights_fn (h : Hand) (l : List Chord) (hl : Fits l) (a b c d e : Int) : Fn Try.prog Gd 4 [srV h l, lessV a b c d e] (vbool true) := by
  refine Fn.of_vx0 k_theorbolaw06_HandWeights (by simp) (by rw [V.pures, pure_sr, V.pures]; rfl) ?_
  have C0 := heavy_fn h l hl
  have C1 := rcheck_fn h
  have C2 := Best_fn h l hl
  have C3 := Best_fn (ltH h a b c d e) l hl
  have C5 := works_fn
  have hB := fun hk => light_best (lt_light (h := h) hk a b c d e) hk hl
  generalize bstR h l = r1 at *
  generalize bstR (ltH h a b c d e) l = r2 at *
  obtain ⟨G1, x1, f1⟩ := r1
  obtain ⟨G2, x2, f2⟩ := r2
  unfold Hand.val at C0 C1 C2 C3
  unfold tCs at C0 C2 C3
  unfold fstV tGs at C2 C3
  unfold ltH at C3
  dsimp only at C3
  unfold c_theorbolaw06_HandWeights srV lessV tCs
  by_cases hk : HandOk h
  case neg =>
    have e1 : chkE h = 60 := by unfold chkE; simp [hk]
    rw [e1] at C1
    clear C2 C3 hB hk
    repeat' (with_reducible first | refine x_ops ?_ | refine wk ?_ | (with_reducible refine xc (C0) ?_) | (with_reducible refine xc (C1) ?_) | (with_reducible refine xc (C5) ?_) | ((first | refine gd1 ?_ ?_ | refine gd2 ?_ ?_ | refine gd3 ?_ ?_) <;> (first | exact @False.elim _ | intro hc)))
    all_goals exact finV_dry rfl vv
  have e1 : chkE h = 0 := by unfold chkE; simp [hk]
  rw [e1] at C1
  obtain ⟨b1, b2⟩ := hB hk
  dsimp only at b1 b2
  subst b1
  have s1 := hk.shift
  have s2 := hk.lift
  have s3 := hk.bar
  have s4 := hk.stretch
  have s5 := hk.slide
  have R1 := rest_fn a (h.shift + 1) (by omega) (by omega)
  have R2 := rest_fn b (h.lift + 1) (by omega) (by omega)
  have R3 := rest_fn c (h.bar + 1) (by omega) (by omega)
  have R4 := rest_fn d (h.stretch + 1) (by omega) (by omega)
  have R5 := rest_fn e (h.slide + 1) (by omega) (by omega)
  have r1 := rs_bound (n := h.shift + 1) a (by omega)
  have r2 := rs_bound (n := h.lift + 1) b (by omega)
  have r3 := rs_bound (n := h.bar + 1) c (by omega)
  have r4 := rs_bound (n := h.stretch + 1) d (by omega)
  have r5 := rs_bound (n := h.slide + 1) e (by omega)
  have w1 := w_in (a := h.shift + 1) (by omega)
  have w2 := w_in (a := h.lift + 1) (by omega)
  have w3 := w_in (a := h.bar + 1) (by omega)
  have w4 := w_in (a := h.stretch + 1) (by omega)
  have w5 := w_in (a := h.slide + 1) (by omega)
  have v1 := w_in (a := h.shift - rsI a (h.shift + 1)) (by omega)
  have v2 := w_in (a := h.lift - rsI b (h.lift + 1)) (by omega)
  have v3 := w_in (a := h.bar - rsI c (h.bar + 1)) (by omega)
  have v4 := w_in (a := h.stretch - rsI d (h.stretch + 1)) (by omega)
  have v5 := w_in (a := h.slide - rsI e (h.slide + 1)) (by omega)
  clear s1 s2 s3 s4 s5 r1 r2 r3 r4 r5 hB hk
  generalize rsI a (h.shift + 1) = ra at *
  generalize rsI b (h.lift + 1) = rb at *
  generalize rsI c (h.bar + 1) = rc at *
  generalize rsI d (h.stretch + 1) = rd at *
  generalize rsI e (h.slide + 1) = re at *
  have i1 : (0 : Int) ≤ 1 := by decide
  have i2 : (0 : Int) ≤ 2 := by decide
  have i3 : (0 : Int) ≤ 3 := by decide
  have i4 : (0 : Int) ≤ 4 := by decide
  have j1 : Int.toNat 1 = 1 := rfl
  have j2 : Int.toNat 2 = 2 := rfl
  have j3 : Int.toNat 3 = 3 := rfl
  have j4 : Int.toNat 4 = 4 := rfl
  generalize hvB h l = hv at *
  cases hv
  case true =>
    repeat' (with_reducible first | refine x_ops ?_ | refine wk ?_ | (with_reducible refine xc (C0) ?_) | (with_reducible refine xc (C1) ?_) | (with_reducible refine xc (C5) ?_) | ((first | refine gd1 ?_ ?_ | refine gd2 ?_ ?_ | refine gd3 ?_ ?_) <;> (first | exact @False.elim _ | intro hc)))
    all_goals exact finV_dry rfl vv
  by_cases hf : f1 = 0
  · have hx := b2 hf
    subst hf
    replace hx : (decide (x2 ≤ x1)) = true := by simp [hx]
    clear b2
    repeat' (with_reducible first | refine x_ops ?_ | refine wk ?_ | (with_reducible refine xc (C0) ?_) | (with_reducible refine xc (C1) ?_) | (with_reducible refine xc (C2) ?_) | (with_reducible refine xc (C3) ?_) | (with_reducible refine xc (C5) ?_) | (with_reducible refine xc (R1) ?_) | (with_reducible refine xc (R2) ?_) | (with_reducible refine xc (R3) ?_) | (with_reducible refine xc (R4) ?_) | (with_reducible refine xc (R5) ?_) | ((first | refine gd1 ?_ ?_ | refine gd2 ?_ ?_ | refine gd3 ?_ ?_) <;> (first | exact @False.elim _ | intro hc)))
    all_goals exact finV_dry rfl vv
  · have h1 : (f1 == 0) = false := by rw [beq_eq_false_iff_ne]; exact hf
    clear b2 hf
    repeat' (with_reducible first | refine x_ops ?_ | refine wk ?_ | (with_reducible refine xc (C0) ?_) | (with_reducible refine xc (C1) ?_) | (with_reducible refine xc (C2) ?_) | (with_reducible refine xc (C3) ?_) | (with_reducible refine xc (C5) ?_) | (with_reducible refine xc (R1) ?_) | (with_reducible refine xc (R2) ?_) | (with_reducible refine xc (R3) ?_) | (with_reducible refine xc (R4) ?_) | (with_reducible refine xc (R5) ?_) | ((first | refine gd1 ?_ ?_ | refine gd2 ?_ ?_ | refine gd3 ?_ ?_) <;> (first | exact @False.elim _ | intro hc)))
    all_goals exact finV_dry rfl vv
end Go.Proofs.Ytojjdkoglhecbaa
namespace Go.Proofs.Ytojjdkoglhecbaa
open Go.ChangeShapes Go.WideShapes Go.ChangeAt Go.RowKit
set_option maxRecDepth 100000

def tyLess : Ty := .st [.int, .int, .int, .int, .int]
theorem dt_lessV {d : Dt} (h : d.ok tyLess) : ∃ x : Int × Int × Int × Int × Int, d.val = lessV x.1 x.2.1 x.2.2.1 x.2.2.2.1 x.2.2.2.2 ∧ True := by
  obtain ⟨l, _, h1, _, hv⟩ := ok_st h
  obtain ⟨d1, r1, rfl, k1, h2, e1⟩ := oks_cons h1
  obtain ⟨d2, r2, rfl, k2, h3, e2⟩ := oks_cons h2
  obtain ⟨d3, r3, rfl, k3, h4, e3⟩ := oks_cons h3
  obtain ⟨d4, r4, rfl, k4, h5, e4⟩ := oks_cons h4
  obtain ⟨d5, r5, rfl, k5, h6, e5⟩ := oks_cons h5
  obtain ⟨a, ea, _⟩ := dt_int k1
  obtain ⟨b, eb, _⟩ := dt_int k2
  obtain ⟨c, ec, _⟩ := dt_int k3
  obtain ⟨e, ee, _⟩ := dt_int k4
  obtain ⟨f, ef, _⟩ := dt_int k5
  exact ⟨(a, b, c, e, f), by rw [hv, e1, e2, e3, e4, e5, oks_nil h6, ea, eb, ec, ee, ef]; rfl, trivial⟩
theorem ty_less : tyOf Try.prog 10 36 = some tyLess := by kernel_rfl
end Go.Proofs.Ytojjdkoglhecbaa
