/- The lister, run: it is made. The best fingering of a net, in plain terms. Nothing is run here. The lister, run: the first fingering, and Best. The least costs of a net, in plain terms. Nothing is run here. The lister, run: first and Best. Two nets side by side, in plain terms: a hand that is wider or lighter. Nothing is run here. The net of a search, run: only, which leaves one grip to a chord, and Through. The net of a search, run: Through. Through, in plain terms: the least of all. Nothing is run here. Functions of the program, as code on values by numbers: printed by a program from the program that was given, and held against it here. All frets and positions raised: plain. rest and chosen of the laws, on values. The law HandRaised, on values. More arguments read: searches, grips, lists of numbers. Laws about tables: SameTable, Changed. More arguments read: tables and changes. Heavy of the laws, on values. The law HandProves, on values. The law HandThroughLeast. -/
import Derived.Test.YtojjdkoglhecbaaG0
import Derived.Test.YtojjdkoglhecbaaWk
import Derived.Test.YtojjdkoglhecbaaY03
import Derived.Test.YtojjdkoglhecbaaY04
import Derived.Test.YtojjdkoglhecbaaXw
import Derived.Test.YtojjdkoglhecbaaY06
import Derived.Test.YtojjdkoglhecbaaY07
set_option linter.unusedSimpArgs false
set_option linter.unusedVariables false
namespace Go.Proofs.Ytojjdkoglhecbaa
open Go.RowKit

/-- The first ways of the root. -/
noncomputable def rtL (h : Hand) (l : List Chord) (Gs : List (List Grip)) : Nat → List Way
  | 0 => []
  | j + 1 => if (rsT h l Gs 0).getD j 0 = -1 then rtL h l Gs j else rtL h l Gs j ++ [((rsT h l Gs 0).getD j 0, (j : Int), 0)]
theorem rtL_len (h : Hand) (l : List Chord) (Gs : List (List Grip)) : ∀ j, (rtL h l Gs j).length ≤ j
  | 0 => Nat.le_refl _
  | j + 1 => by
    have := rtL_len h l Gs j
    rw [rtL]; split
    · omega
    · rw [List.length_append]; simp; omega
/-- Where list stands, with i rows. -/
structure LiSt (h : Hand) (l : List Chord) (Gs : List (List Grip)) (m : Mm) (i nq : Nat) (rs : List Nat) (M : Mm) : Prop where
  nx : m.next + 7 ≤ M.next
  tbo : M.obj (m.next + 5) = some (.box [netE h l Gs, bxL i nq, .ptr (m.next + 3) 0] 162)
  rto : M.obj (m.next + 3) = some (.box [.sl 0 [] .exact, .sl 0 [] .exact, .fn 110 [], vbool false] 159)
  nqo : 0 < i → M.obj nq = some (.box (rwN rs (Gs.take i)) 163) ∧ m.next + 7 ≤ nq ∧ nq < M.next
  rl : rs.length = i
  row : ∀ y, y < i → M.obj (rs.getD y 0) = some (.box (nilR (Gs.getD y []).length) 150) ∧ m.next + 7 ≤ rs.getD y 0 ∧ rs.getD y 0 < nq
  inc : ∀ y z, y < z → z < i → rs.getD y 0 < rs.getD z 0
  fr : ∀ q, q < m.next → M.obj q = m.obj q
theorem rwN_len (rs : List Nat) (Gs : List (List Grip)) : (rwN rs Gs).length = Gs.length := by simp [rwN]
theorem rwN_one (rs : List Nat) (Gs : List (List Grip)) : (rwN rs Gs).all V.one = true := by
  rw [List.all_eq_true]
  intro v hv
  rw [rwN] at hv
  obtain ⟨y, _, rfl⟩ := List.mem_map.1 hv
  rfl
theorem rwN_snoc {rs : List Nat} {Gs : List (List Grip)} {k q : Nat} (hk : k < Gs.length) (hq : rs.length = k) : rwN (rs ++ [q]) (Gs.take (k + 1)) = rwN rs (Gs.take k) ++ [.bsl q 0 (Gs.getD k []).length (Gs.getD k []).length] := by
  have l1 : (Gs.take (k + 1)).length = k + 1 := by rw [List.length_take]; omega
  have l2 : (Gs.take k).length = k := by rw [List.length_take]; omega
  rw [rwN, rwN, l1, l2, List.range_succ, List.map_append, List.map_cons, List.map_nil]
  have ha : (rs ++ [q]).getD k 0 = q := by simp [List.getD_eq_getElem?_getD, ← hq]
  have gT : ∀ (n y : Nat), y < n → (Gs.take n).getD y [] = Gs.getD y [] := fun n y h => by simp [List.getD_eq_getElem?_getD, List.getElem?_take, h]
  rw [ha, gT (k + 1) k (by omega)]
  congr 1
  apply List.map_congr_left
  intro y hy
  have hyk := List.mem_range.1 hy
  have hc : (rs ++ [q]).getD y 0 = rs.getD y 0 := by simp [List.getD_eq_getElem?_getD, List.getElem?_append_left (show y < rs.length by omega)]
  rw [hc, gT _ _ (show y < k + 1 by omega), gT _ _ hyk]
/-- What list leaves. -/
def LsPost (h : Hand) (l : List Chord) (Gs : List (List Grip)) (m : Mm) (r : V) (M' : Mm) : Prop :=
  m.next ≤ M'.next ∧ (∀ q, q < m.next → M'.obj q = m.obj q) ∧ ∃ tb nq rt rs, r = .ptr tb 0 ∧ (m.next ≤ tb ∧ tb < M'.next) ∧ (∃ nv, M'.obj tb = some (.box [netE h l Gs, nv, .ptr rt 0] 162)) ∧
    (0 < l.length → LsM h l Gs tb nq rt rs 0 M' ∧ (m.next ≤ rt ∧ rt < M'.next) ∧ ∃ v H, M'.obj rt = some (.box [.sl 0 [] .exact, v, .fn 110 [], vbool false] 159) ∧ QV M' v H ∧ HpOk H ∧ H.Perm (rtL h l Gs (rsT h l Gs 0).length))

set_option maxHeartbeats 4000000 in
theorem list_sfn {h : Hand} {l : List Chord} {Gs : List (List Grip)} (hn : NetOk h l Gs) (m : Mm) : SFn Try.prog Gd 74 [netE h l Gs] m (LsPost h l Gs m) := by
  refine SFn.of_vxS k_hand_list_b (by simp) ?_
  have h4 := hn.len
  have gl := hn.gl
  unfold c_hand_list_b
  replace gl := Hid.mk gl
  have hnet : netE h l Gs = .ept [.sl h.low.length (h.low.map vint) .no, .sl h.high.length (h.high.map vint) .no, .sl h.barre.length (h.barre.map vbool) .no, .lit (.int .i64 h.top), .lit (.int .i64 h.jump), .lit (.int .i64 h.shift), .lit (.int .i64 h.lift), .lit (.int .i64 h.bar), .lit (.int .i64 h.stretch), .lit (.int .i64 h.slide),
    .sl l.length (l.flatMap Chord.cells) .no, .sl Gs.length (Gs.map tGs) .no, .sl (owA h l Gs).length ((owA h l Gs).map tIs) .no, .sl (rsA h l Gs).length ((rsA h l Gs).map tIs) .no] 0 := rfl
  replace hnet := Hid.mk hnet
  rw [hnet.out]
  repeat' (with_reducible first | refine x_ops ?_ | refine wk ?_ | ((first | refine gd1 ?_ ?_ | refine gd2 ?_ ?_ | refine gd3 ?_ ?_) <;> (first | exact @False.elim _ | intro hc)))
  refine x_genM (fun t M => (t 0 = .ept [.sl h.low.length (h.low.map vint) .no, .sl h.high.length (h.high.map vint) .no, .sl h.barre.length (h.barre.map vbool) .no, .lit (.int .i64 h.top), .lit (.int .i64 h.jump), .lit (.int .i64 h.shift), .lit (.int .i64 h.lift), .lit (.int .i64 h.bar), .lit (.int .i64 h.stretch), .lit (.int .i64 h.slide),
    .sl l.length (l.flatMap Chord.cells) .no, .sl Gs.length (Gs.map tGs) .no, .sl (owA h l Gs).length ((owA h l Gs).map tIs) .no, .sl (rsA h l Gs).length ((rsA h l Gs).map tIs) .no] 0 ∧ t 3 = .ptr (m.next + 5) 0 ∧ t 17 = vint l.length ∧ t 18 = vint 0) ∧ LiSt h l Gs m 0 0 [] M)
    ⟨⟨vv, vv, vv, vv⟩, ⟨Nat.le_refl _, ?_, ?_, fun h0 => by omega, rfl, fun y hy => by omega, fun y z _ hz => by omega, fun q hq => by ((simp only [put_obj]; repeat rw [if_neg (by omega)]))⟩⟩ ?_
  · rw [hnet.out]; exact put_same _ _ _
  · refine (put_other _ _ (by omega)).trans (put_same _ _ _)
  rintro t0 M0 ⟨⟨a0, a3, a17, a18⟩, hs0⟩
  refine x_loopW w_hand_list_b_p4 kr l.length (fun i t M => t 18 = vint (i : Int) ∧ ∃ nq rs, LiSt h l Gs m i nq rs M) ?_ ?_
  · exact ⟨a18, 0, [], hs0⟩
  clear a18 hs0
  rintro i t M hi ⟨h18, nq, rs, hs⟩
  have hnx := hs.nx
  have o1 := hs.tbo
  have l1 : m.next + 5 < M.next := by omega
  by_cases hil : i < l.length
  · have c1 : (i : Int) < (l.length : Int) := by omega
    have w1 := w_add1 (k := i) (by omega)
    have gle := gl.out
    have g1 := gss_at' (l := Gs) (k := i) (by omega)
    have hcnt := hn.cnt i
    have k1 : ((Gs.getD i []).length : Int) * 8 ≤ 140737488355328 := by omega
    have k2 : ((Gs.getD i []).length : Int) ≤ 140737488355328 := by omega
    have hs1 := Hid.mk hs
    have hfl : (List.replicate (Gs.getD i []).length [V.lit (Value.pointer none)]).flatten = nilR (Gs.getD i []).length := by rw [nilR]; simp
    clear hs
    repeat' (with_reducible first | refine x_ops ?_ | refine wk ?_ | ((first | refine gd1 ?_ ?_ | refine gd2 ?_ ?_ | refine gd3 ?_ ?_) <;> (first | exact @False.elim _ | intro hc)))
    refine x_appG (k := i) (oq := nq) (cs := rwN rs (Gs.take i)) (v := .bsl (M.next + 13) 0 (Gs.getD i []).length (Gs.getD i []).length) vw ?_ ?_ (by rw [rwN_len, List.length_take]; omega) (rwN_one _ _) (by omega) (by unfold Go.maxLen; omega) ?_
    · have e : ∀ (mm : Mm) c, c.one = true → rdS (mm.put (M.next + 14) (.box [c] 163)) 1 (.gsl (M.next + 14) 1 1) = some (1, [c]) := fun mm c hc => by
        simp [rdS, put_same, hc]
      exact e _ _ rfl
    · intro h0
      have := (hs1.out.nqo h0).2.2
      exact (put_other _ _ (by omega)).trans ((put_other _ _ (by omega)).trans (hs1.out.nqo h0).1)
    intro m2 n2 f2 b2
    have n2' : m2.next = M.next + 19 := n2
    have lt : ∀ q, q < M.next → (0 < i → q ≠ nq) → m2.obj q = M.obj q := fun q hq hqn => (f2 q (by show ¬ q = M.next + 15; omega) hqn).trans ((put_other _ _ (by omega)).trans (put_other _ _ (by omega)))
    have q1 : m2.obj (m.next + 5) = _ := (lt (m.next + 5) l1 (fun h0 => by have := (hs1.out.nqo h0).2.1; omega)).trans o1
    have row : m2.obj (M.next + 13) = some (.box (nilR (Gs.getD i []).length) 150) := (f2 _ (by show ¬ M.next + 13 = M.next + 15; omega) (fun h0 => by have := (hs1.out.nqo h0).2.2; omega)).trans ((put_other _ _ (by omega)).trans (put_same _ _ _))
    have hs2 : LiSt h l Gs m (i + 1) (M.next + 15) (rs ++ [M.next + 13]) (m2.put (m.next + 5) (.box [netE h l Gs, .gsl (M.next + 15) (i + 1) 1, .ptr (m.next + 3) 0] 162)) := by
      have hq := hs1.out.rl
      have gq : ∀ y, y < i → (rs ++ [M.next + 13]).getD y 0 = rs.getD y 0 := fun y hy => by simp [List.getD_eq_getElem?_getD, List.getElem?_append_left (show y < rs.length by omega)]
      have gN : (rs ++ [M.next + 13]).getD i 0 = M.next + 13 := by simp [List.getD_eq_getElem?_getD, ← hq]
      refine ⟨by show m.next + 7 ≤ m2.next; omega, put_same _ _ _, ?_, fun _ => ⟨?_, by omega, by show M.next + 15 < m2.next; omega⟩, by rw [List.length_append, hq]; rfl, fun y hy => ?_, fun y z hyz hz => ?_, fun q hq' => ?_⟩
      · exact (put_other _ _ (by omega)).trans ((lt (m.next + 3) (by omega) (fun h0 => by have := (hs1.out.nqo h0).2.1; omega)).trans hs1.out.rto)
      · rw [rwN_snoc (by omega) hq]; exact (put_other _ _ (by omega)).trans b2
      · by_cases e : y = i
        · subst e; rw [gN]; exact ⟨(put_other _ _ (by omega)).trans row, by omega, by omega⟩
        · rw [gq y (by omega)]
          obtain ⟨r1, r2, r3⟩ := hs1.out.row y (by omega)
          have r4 := (hs1.out.nqo (by omega)).2.2
          exact ⟨(put_other _ _ (by omega)).trans ((lt _ (by omega) (fun _ => by omega)).trans r1), r2, by omega⟩
      · rw [gq y (by omega)]
        by_cases e : z = i
        · subst e; rw [gN]
          have r3 := (hs1.out.row y (by omega)).2.2
          have r4 := (hs1.out.nqo (by omega)).2.2
          omega
        · rw [gq z (by omega)]; exact hs1.out.inc y z hyz (by omega)
      · exact (put_other _ _ (by omega)).trans ((lt q (by omega) (fun h0 => by have := (hs1.out.nqo h0).2.1; omega)).trans (hs1.out.fr q hq'))
    replace hs2 := Hid.mk hs2
    replace n2' := Hid.mk n2'
    clear f2 b2 n2 lt row o1 hfl
    repeat' (with_reducible first | refine x_ops ?_ | refine wk ?_ | ((first | refine gd1 ?_ ?_ | refine gd2 ?_ ?_ | refine gd3 ?_ ?_) <;> (first | exact @False.elim _ | intro hc)))
    exact nx hil ⟨vv, M.next + 15, rs ++ [M.next + 13], hs2.out⟩
  have hie : i = l.length := by omega
  subst hie
  have c1 : ¬ (l.length : Int) < (l.length : Int) := by omega
  replace hs := Hid.mk hs
  clear hi hil o1
  by_cases h0 : 0 < l.length
  case neg =>
    have c2 : ¬ (0 : Int) < (l.length : Int) := by omega
    have h0' := Hid.mk h0
    clear h0
    repeat' (with_reducible first | refine x_ops ?_ | refine wk ?_ | ((first | refine gd1 ?_ ?_ | refine gd2 ?_ ?_ | refine gd3 ?_ ?_) <;> (first | exact @False.elim _ | intro hc)))
    exact ⟨.inr rfl, .ptr (m.next + 5) 0, vv, by show m.next ≤ M.next; omega, hs.out.fr, m.next + 5, 0, m.next + 3, [], rfl, ⟨by omega, by show m.next + 5 < M.next; omega⟩, ⟨_, hs.out.tbo⟩, fun h1 => absurd h1 h0'.out⟩
  have c2 : (0 : Int) < (l.length : Int) := by omega
  have hL0 : LsM h l Gs (m.next + 5) nq (m.next + 3) rs 0 M := by
    have e5 : bxL l.length nq = .gsl nq l.length 1 := if_neg (by omega)
    have htk : Gs.take l.length = Gs := List.take_of_length_le (by rw [gl.out]; exact Nat.le_refl _)
    obtain ⟨n1, n2, n3⟩ := hs.out.nqo h0
    rw [htk] at n1
    refine ⟨by rw [← e5]; exact hs.out.tbo, n1, fun y _ hy => (hs.out.row y hy).1, hs.out.inc, l1, n3, fun y hy => by have := (hs.out.row y hy).2.2; omega, by omega, fun y hy => ⟨by have := (hs.out.row y hy).2.1; omega, by have := (hs.out.row y hy).2.2; omega⟩⟩
  have hrt := hs.out.rto
  have hfr := hs.out.fr
  replace hfr := Hid.mk hfr
  have hT0 := rsT_len (h := h) (Gs := Gs) h0
  have hcn := hn.cnt 0
  have g5 := iss_at' (l := rsA h l Gs) (k := 0) (by rw [rsA_len]; exact h0)
  rw [rsA_at h0] at g5
  have g6 := rsA_len (h := h) (l := l) (Gs := Gs)
  generalize hNe : rsT h l Gs 0 = N at *
  replace hNe := Hid.mk hNe
  replace hT0 := Hid.mk hT0
  have h0' := Hid.mk h0
  clear h0 hs
  repeat' (with_reducible first | refine x_ops ?_ | refine wk ?_ | ((first | refine gd1 ?_ ?_ | refine gd2 ?_ ?_ | refine gd3 ?_ ?_) <;> (first | exact @False.elim _ | intro hc)))
  refine x_gen (fun t => t 3 = .ptr (m.next + 5) 0 ∧ t 51 = .sl N.length (N.map vint) .no ∧ t 52 = vint N.length ∧ t 53 = vint 0) ⟨vw, vv, vv, vv⟩ ?_
  clear a0 a3 a17 h18
  rintro t6 ⟨a3, a51, a52, a53⟩
  have hrl : ∀ k, k < N.length → rtL h l Gs (k + 1) = if N.getD k 0 = -1 then rtL h l Gs k else rtL h l Gs k ++ [(N.getD k 0, (k : Int), 0)] := fun k _ => by rw [rtL, hNe.out]
  refine x_loopW w_hand_list_b_p10 kr N.length (fun k t M' => t 53 = vint (k : Int) ∧ NdM M (m.next + 3) (rtL h l Gs k) M') ?_ ?_
  · exact ⟨a53, Nat.le_refl _, ⟨_, [], hrt, .inl ⟨rfl, rfl⟩, fun j h0 hj => by simp at hj, .refl _, fun q n e => by cases e⟩, fun _ _ _ => rfl⟩
  clear a53
  rintro k t7 M' hk ⟨h53, hM'⟩
  have hM0 := Hid.mk hM'
  obtain ⟨j1, ⟨v, H, j2, j3, j4, j5, j6⟩, j7⟩ := hM'
  by_cases hkl : k < N.length
  case neg =>
    have hke : k = N.length := by omega
    subst hke
    have cc1 : ¬ (N.length : Int) < (N.length : Int) := by omega
    have lsm := hL0.mono (M' := M') (Nat.le_refl _) j1 (j7 _ l1 (by omega)) (j7 _ hL0.ltn (ne_type hL0.nqo hrt (by decide))) (fun y hy hyl => j7 _ (hL0.ltr y hyl) (ne_type (hL0.row y hy hyl) hrt (by decide)))
    have fr2 : ∀ q, q < m.next → M'.obj q = m.obj q := fun q hq => (j7 q (by omega) (by omega)).trans (hfr.out q hq)
    have hfin : LsPost h l Gs m (.ptr (m.next + 5) 0) M' := by
      refine ⟨by omega, fr2, m.next + 5, nq, m.next + 3, rs, rfl, ⟨by omega, by omega⟩, ⟨_, lsm.tbo⟩, fun _ => ⟨lsm, ⟨by omega, by omega⟩, v, H, j2, j3, j4, by rw [hNe.out]; exact j5⟩⟩
    replace hfin := Hid.mk hfin
    clear j1 j2 j3 j4 j5 j6 j7 hM0 fr2 lsm hL0 hrl hkl hk
    repeat' (with_reducible first | refine x_ops ?_ | refine wk ?_ | ((first | refine gd1 ?_ ?_ | refine gd2 ?_ ?_ | refine gd3 ?_ ?_) <;> (first | exact @False.elim _ | intro hc)))
    exact ⟨.inr rfl, .ptr (m.next + 5) 0, vw, hfin.out⟩
  have cc1 : (k : Int) < (N.length : Int) := by omega
  have g1 := ints_at hkl
  have wk' := w_add1 (k := k) (by have := hT0.out; omega)
  have q1 := (j7 (m.next + 5) l1 (by omega)).trans hL0.tbo
  have hrk := hrl k hkl
  by_cases hno : N.getD k 0 = -1
  · have e2 : (N.getD k 0 == -1) = true := by rw [hno]; rfl
    rw [if_pos hno] at hrk
    replace hrk := Hid.mk hrk
    clear hno hrl j2 j3 j4 j5 j6 j7 hk
    repeat' (with_reducible first | refine x_ops ?_ | refine wk ?_ | ((first | refine gd1 ?_ ?_ | refine gd2 ?_ ?_ | refine gd3 ?_ ?_) <;> (first | exact @False.elim _ | intro hc)))
    exact nx hkl ⟨vv, by rw [hrk.out]; exact hM0.out⟩
  have e2 : (N.getD k 0 == -1) = false := by rw [beq_eq_false_iff_ne]; exact hno
  rw [if_neg hno] at hrk
  have hHl := j5.length_eq
  have hrlen := rtL_len h l Gs k
  have PS := push_psh (w := (N.getD k 0, (k : Int), 0)) j2 (by omega) j3 j4 (by have := hT0.out; omega)
  have PE := PshPost.some (fv := .sl 0 [] .exact) (v := v) (dv := vbool false) (N.getD k 0, (k : Int), 0) (show m.next + 3 < M'.next by omega) j4
  have hpush : ∀ r M2, PshPost M' (m.next + 3) (.sl 0 [] .exact) v (vbool false) H (N.getD k 0, (k : Int), 0) r M2 → NdM M (m.next + 3) (rtL h l Gs k ++ [(N.getD k 0, (k : Int), 0)]) M2 := fun r M2 hP => ndM_push (by omega) j2 j1 j5 j6 j7 hP
  dsimp only at PS
  replace hpush := Hid.mk hpush
  replace hrk := Hid.mk hrk
  clear hno hrl j2 j3 j4 j5 j6 j7 hk hHl
  repeat' (with_reducible first | refine x_ops ?_ | refine wk ?_ | ((first | refine gd1 ?_ ?_ | refine gd2 ?_ ?_ | refine gd3 ?_ ?_) <;> (first | exact @False.elim _ | intro hc)))
  refine x_scallR [.ptr (m.next + 3) 1, .agg [vint (N.getD k 0), vint (k : Int), vint 0]] vw PS PE ?_
  rintro r M2 hP
  have hr := hP.1
  subst hr
  have hM2 := Hid.mk (hpush.out _ _ hP)
  clear PS PE hP
  repeat' (with_reducible first | refine x_ops ?_ | refine wk ?_ | ((first | refine gd1 ?_ ?_ | refine gd2 ?_ ?_ | refine gd3 ?_ ?_) <;> (first | exact @False.elim _ | intro hc)))
  exact nx hkl ⟨vv, by rw [hrk.out]; exact hM2.out⟩
end Go.Proofs.Ytojjdkoglhecbaa
namespace Go.Proofs.Ytojjdkoglhecbaa
open Go.RowKit

/-- The first of some ways. -/
noncomputable def bstW (L : List Way) : Way := (Classical.choose (heap_ex L)).getD 0 noW
/-- Ways that are told apart by their order. -/
def TotW (L : List Way) : Prop := ∀ a ∈ L, ∀ b ∈ L, befW a b = false → befW b a = false → a = b
theorem mem_getW {L : List Way} {w : Way} (h : w ∈ L) : ∃ j, j < L.length ∧ L.getD j noW = w := by
  obtain ⟨j, hj, e⟩ := List.mem_iff_getElem.1 h
  exact ⟨j, hj, by rw [List.getD_eq_getElem?_getD, List.getElem?_eq_getElem hj]; exact e⟩
theorem heap_min {H L : List Way} (hh : HpOk H) (hp : H.Perm L) (hL : L ≠ []) : H.getD 0 noW ∈ L ∧ ∀ w ∈ L, befW w (H.getD 0 noW) = false := by
  have h0 : 0 < H.length := by rw [hp.length_eq]; exact List.length_pos_iff.2 hL
  refine ⟨hp.mem_iff.1 (mem_getD _ h0), fun w hw => ?_⟩
  obtain ⟨j, hj, rfl⟩ := mem_getW (hp.mem_iff.2 hw)
  exact hp_min hh j hj
theorem bstW_ok {L : List Way} (hL : L ≠ []) : bstW L ∈ L ∧ ∀ w ∈ L, befW w (bstW L) = false := by
  have h := Classical.choose_spec (heap_ex L)
  exact heap_min h.1 h.2 hL
theorem bstW_heap {H L : List Way} (hh : HpOk H) (hp : H.Perm L) (hL : L ≠ []) (ht : TotW L) : H.getD 0 noW = bstW L := by
  have h1 := heap_min hh hp hL
  have h2 := bstW_ok hL
  exact ht _ h1.1 _ h2.1 (h2.2 _ h1.1) (h1.2 _ h2.1)
theorem befW_cost {a b : Way} (h : befW a b = false) : b.1 ≤ a.1 := by
  unfold befW at h
  split at h <;> simp only [decide_eq_false_iff_not] at h <;> omega

section
variable {h : Hand} {l : List Chord} {Gs : List (List Grip)}
theorem wayL_mem {i k : Nat} : ∀ {j : Nat} {w : Way}, w ∈ wayL h l Gs i k j → ∃ q, q < j ∧ ¬ (rsT h l Gs (i + 1)).getD q 0 = -1 ∧ (stepR h (l.getD i noC) ((Gs.getD i []).getD k noG) (l.getD (i + 1) noC) ((Gs.getD (i + 1) []).getD q noG)).2 = true ∧
    w = (ownC h (l.getD i noC) ((Gs.getD i []).getD k noG) + (stepR h (l.getD i noC) ((Gs.getD i []).getD k noG) (l.getD (i + 1) noC) ((Gs.getD (i + 1) []).getD q noG)).1 + (rsT h l Gs (i + 1)).getD q 0, (q : Int), 0)
  | 0, w, hw => by simp [wayL] at hw
  | j + 1, w, hw => by
    rw [wayL] at hw
    split at hw
    · obtain ⟨q, h1, h2⟩ := wayL_mem hw; exact ⟨q, by omega, h2⟩
    · rename_i hc
      rcases List.mem_append.1 hw with hw | hw
      · obtain ⟨q, h1, h2⟩ := wayL_mem hw; exact ⟨q, by omega, h2⟩
      · rw [List.mem_singleton] at hw
        refine ⟨j, by omega, fun e => hc (.inl e), ?_, hw⟩
        cases hs : (stepR h (l.getD i noC) ((Gs.getD i []).getD k noG) (l.getD (i + 1) noC) ((Gs.getD (i + 1) []).getD j noG)).2
        · exact absurd (.inr hs) hc
        · rfl
theorem bef_next {a b : Way} (h1 : befW a b = false) (h2 : befW b a = false) : a.2.1 = b.2.1 := by
  have e1 := befW_cost h1
  have e2 := befW_cost h2
  have e3 : a.1 = b.1 := by omega
  unfold befW at h1 h2
  rw [if_pos e3] at h1
  rw [if_pos e3.symm] at h2
  simp only [decide_eq_false_iff_not] at h1 h2
  omega
theorem wayF_tot {i k : Nat} : TotW (wayF h l Gs i k) := by
  intro a ha b hb h1 h2
  have hx := bef_next h1 h2
  rw [wayF, wayB] at ha hb
  by_cases hl : i + 1 = l.length
  · rw [if_pos hl, if_pos hl, wayL, List.append_nil, List.mem_singleton] at ha hb
    rw [ha, hb]
  · rw [if_neg hl, if_neg hl, List.nil_append] at ha hb
    obtain ⟨q, _, _, _, rfl⟩ := wayL_mem ha
    obtain ⟨p, _, _, _, rfl⟩ := wayL_mem hb
    have : q = p := by have h9 : (q : Int) = (p : Int) := hx; omega
    rw [this]
theorem rtL_mem : ∀ {j : Nat} {w : Way}, w ∈ rtL h l Gs j → ∃ q, q < j ∧ ¬ (rsT h l Gs 0).getD q 0 = -1 ∧ w = ((rsT h l Gs 0).getD q 0, (q : Int), 0)
  | 0, w, hw => by simp [rtL] at hw
  | j + 1, w, hw => by
    rw [rtL] at hw
    split at hw
    · obtain ⟨q, h1, h2⟩ := rtL_mem hw; exact ⟨q, by omega, h2⟩
    · rename_i hc
      rcases List.mem_append.1 hw with hw | hw
      · obtain ⟨q, h1, h2⟩ := rtL_mem hw; exact ⟨q, by omega, h2⟩
      · rw [List.mem_singleton] at hw; exact ⟨j, by omega, hc, hw⟩
theorem rtL_has : ∀ {j q : Nat}, q < j → ¬ (rsT h l Gs 0).getD q 0 = -1 → ((rsT h l Gs 0).getD q 0, (q : Int), 0) ∈ rtL h l Gs j
  | 0, q, hq, _ => by omega
  | j + 1, q, hq, hn => by
    rw [rtL]
    by_cases e : q = j
    · subst e; rw [if_neg hn]; exact List.mem_append.2 (.inr (List.mem_singleton.2 rfl))
    · have := rtL_has (j := j) (q := q) (by omega) hn
      split
      · exact this
      · exact List.mem_append.2 (.inl this)
theorem rtL_tot {j : Nat} : TotW (rtL h l Gs j) := by
  intro a ha b hb h1 h2
  have hx := bef_next h1 h2
  obtain ⟨q, _, _, rfl⟩ := rtL_mem ha
  obtain ⟨p, _, _, rfl⟩ := rtL_mem hb
  have : q = p := by have h9 : (q : Int) = (p : Int) := hx; omega
  rw [this]

/-- The least cost is that of the first way. -/
theorem bsU_way (hn : NetOk h l Gs) {i k : Nat} (hi : i + 1 < l.length) (hk : k < (Gs.getD i []).length) : ∀ {j : Nat}, j ≤ (Gs.getD (i + 1) []).length →
    (bsU h (l.getD i noC) ((Gs.getD i []).getD k noG) (l.getD (i + 1) noC) (Gs.getD (i + 1) []) (rsT h l Gs (i + 1)) j = -1 ∧ wayL h l Gs i k j = []) ∨
    (0 ≤ bsU h (l.getD i noC) ((Gs.getD i []).getD k noG) (l.getD (i + 1) noC) (Gs.getD (i + 1) []) (rsT h l Gs (i + 1)) j ∧ (∃ w ∈ wayL h l Gs i k j, w.1 = bsU h (l.getD i noC) ((Gs.getD i []).getD k noG) (l.getD (i + 1) noC) (Gs.getD (i + 1) []) (rsT h l Gs (i + 1)) j) ∧
      ∀ u ∈ wayL h l Gs i k j, bsU h (l.getD i noC) ((Gs.getD i []).getD k noG) (l.getD (i + 1) noC) (Gs.getD (i + 1) []) (rsT h l Gs (i + 1)) j ≤ u.1)
  | 0, _ => .inl ⟨rfl, rfl⟩
  | j + 1, hj => by
    have ih := bsU_way hn hi hk (j := j) (by omega)
    have hi0 : i < l.length := by omega
    have hown := own_bound hn.hk (hn.seq i hi0).1 (hn.grip hi0 hk).1
    have hsb := stepB hn hi hk (m := j) (by omega)
    have hNb := rsT_bound hn _ (i + 1) rfl hi j (by omega)
    by_cases hN : (rsT h l Gs (i + 1)).getD j 0 = -1
    · rw [bsU, wayL, if_pos hN, if_pos (.inl hN)]; exact ih
    have hN0 : 0 ≤ (rsT h l Gs (i + 1)).getD j 0 := by rcases hNb with h1 | h1; exact absurd h1 hN; exact h1.1
    by_cases hs : StepOk h (l.getD i noC) ((Gs.getD i []).getD k noG) (l.getD (i + 1) noC) ((Gs.getD (i + 1) []).getD j noG)
    case neg => rw [bsU, wayL, if_neg hN, stepR_no hs, if_neg (by simp), if_pos (.inr rfl)]; exact ih
    rw [stepR_ok hs] at hsb
    have e1 : bsU h (l.getD i noC) ((Gs.getD i []).getD k noG) (l.getD (i + 1) noC) (Gs.getD (i + 1) []) (rsT h l Gs (i + 1)) (j + 1) = if bsU h (l.getD i noC) ((Gs.getD i []).getD k noG) (l.getD (i + 1) noC) (Gs.getD (i + 1) []) (rsT h l Gs (i + 1)) j = -1 ∨
        ownC h (l.getD i noC) ((Gs.getD i []).getD k noG) + stepC h (l.getD i noC) ((Gs.getD i []).getD k noG) (l.getD (i + 1) noC) ((Gs.getD (i + 1) []).getD j noG) + (rsT h l Gs (i + 1)).getD j 0 < bsU h (l.getD i noC) ((Gs.getD i []).getD k noG) (l.getD (i + 1) noC) (Gs.getD (i + 1) []) (rsT h l Gs (i + 1)) j
        then ownC h (l.getD i noC) ((Gs.getD i []).getD k noG) + stepC h (l.getD i noC) ((Gs.getD i []).getD k noG) (l.getD (i + 1) noC) ((Gs.getD (i + 1) []).getD j noG) + (rsT h l Gs (i + 1)).getD j 0
        else bsU h (l.getD i noC) ((Gs.getD i []).getD k noG) (l.getD (i + 1) noC) (Gs.getD (i + 1) []) (rsT h l Gs (i + 1)) j := by rw [bsU, if_neg hN, stepR_ok hs, if_pos rfl]
    have e2 : wayL h l Gs i k (j + 1) = wayL h l Gs i k j ++ [(ownC h (l.getD i noC) ((Gs.getD i []).getD k noG) + stepC h (l.getD i noC) ((Gs.getD i []).getD k noG) (l.getD (i + 1) noC) ((Gs.getD (i + 1) []).getD j noG) + (rsT h l Gs (i + 1)).getD j 0, (j : Int), 0)] := by
      rw [wayL, stepR_ok hs, if_neg (fun hh => hh.elim hN (fun e => by cases e))]
    rw [e1, e2]
    generalize bsU h (l.getD i noC) ((Gs.getD i []).getD k noG) (l.getD (i + 1) noC) (Gs.getD (i + 1) []) (rsT h l Gs (i + 1)) j = p at *
    generalize wayL h l Gs i k j = W at *
    have hc0 : 0 ≤ ownC h (l.getD i noC) ((Gs.getD i []).getD k noG) + stepC h (l.getD i noC) ((Gs.getD i []).getD k noG) (l.getD (i + 1) noC) ((Gs.getD (i + 1) []).getD j noG) + (rsT h l Gs (i + 1)).getD j 0 := by dsimp only at hsb; omega
    generalize ownC h (l.getD i noC) ((Gs.getD i []).getD k noG) + stepC h (l.getD i noC) ((Gs.getD i []).getD k noG) (l.getD (i + 1) noC) ((Gs.getD (i + 1) []).getD j noG) + (rsT h l Gs (i + 1)).getD j 0 = c at *
    refine .inr ?_
    rcases ih with ⟨hp, rfl⟩ | ⟨hp, ⟨w, hw, hwc⟩, hle⟩
    · rw [if_pos (.inl hp)]
      exact ⟨hc0, ⟨_, List.mem_append.2 (.inr (List.mem_singleton.2 rfl)), rfl⟩, fun u hu => by
        rw [List.nil_append, List.mem_singleton] at hu; subst hu; exact Int.le_refl _⟩
    · by_cases hlt : c < p
      · rw [if_pos (.inr hlt)]
        refine ⟨hc0, ⟨_, List.mem_append.2 (.inr (List.mem_singleton.2 rfl)), rfl⟩, fun u hu => ?_⟩
        rcases List.mem_append.1 hu with hu | hu
        · have := hle u hu; omega
        · rw [List.mem_singleton] at hu; subst hu; exact Int.le_refl _
      · rw [if_neg (by rintro (h1 | h1); omega; exact hlt h1)]
        refine ⟨hp, ⟨w, List.mem_append.2 (.inl hw), hwc⟩, fun u hu => ?_⟩
        rcases List.mem_append.1 hu with hu | hu
        · exact hle u hu
        · rw [List.mem_singleton] at hu; subst hu; show p ≤ c; omega
/-- A grip that leads to the end has ways; the first of them costs what the table says. -/
theorem wayF_ok (hn : NetOk h l Gs) {i k : Nat} (hi : i < l.length) (hk : k < (Gs.getD i []).length) (hr : ¬ (rsT h l Gs i).getD k 0 = -1) :
    wayF h l Gs i k ≠ [] ∧ (bstW (wayF h l Gs i k)).1 = (rsT h l Gs i).getD k 0 ∧ (bstW (wayF h l Gs i k)).2.2 = 0 ∧
    (i + 1 < l.length → ∃ q : Nat, (bstW (wayF h l Gs i k)).2.1 = (q : Int) ∧ q < (Gs.getD (i + 1) []).length ∧ ¬ (rsT h l Gs (i + 1)).getD q 0 = -1 ∧ StepOk h (l.getD i noC) ((Gs.getD i []).getD k noG) (l.getD (i + 1) noC) ((Gs.getD (i + 1) []).getD q noG) ∧
      (rsT h l Gs i).getD k 0 = ownC h (l.getD i noC) ((Gs.getD i []).getD k noG) + stepC h (l.getD i noC) ((Gs.getD i []).getD k noG) (l.getD (i + 1) noC) ((Gs.getD (i + 1) []).getD q noG) + (rsT h l Gs (i + 1)).getD q 0) := by
  rw [rsT_at hi hk, rsE] at hr ⊢
  by_cases hlast : i + 1 = l.length
  · rw [if_pos hlast] at hr ⊢
    have e : wayF h l Gs i k = [(ownC h (l.getD i noC) ((Gs.getD i []).getD k noG), -1, 0)] := by rw [wayF, wayB, if_pos hlast, if_pos hlast, wayL, List.append_nil]
    rw [e]
    have hb := (bstW_ok (L := [(ownC h (l.getD i noC) ((Gs.getD i []).getD k noG), (-1 : Int), (0 : Int))]) (by simp)).1
    rw [List.mem_singleton] at hb
    rw [hb]
    exact ⟨by simp, rfl, rfl, fun h1 => by omega⟩
  · rw [if_neg hlast] at hr ⊢
    have hi1 : i + 1 < l.length := by omega
    have e : wayF h l Gs i k = wayL h l Gs i k (Gs.getD (i + 1) []).length := by rw [wayF, wayB, if_neg hlast, if_neg hlast, List.nil_append, rsT_len hi1]
    rw [e]
    rcases bsU_way hn hi1 hk (Nat.le_refl _) with ⟨h1, _⟩ | ⟨h1, ⟨w, hw, hwc⟩, hle⟩
    · exact absurd h1 hr
    have hne : wayL h l Gs i k (Gs.getD (i + 1) []).length ≠ [] := fun e => by rw [e] at hw; cases hw
    obtain ⟨b1, b2⟩ := bstW_ok hne
    have hc : (bstW (wayL h l Gs i k (Gs.getD (i + 1) []).length)).1 = bsU h (l.getD i noC) ((Gs.getD i []).getD k noG) (l.getD (i + 1) noC) (Gs.getD (i + 1) []) (rsT h l Gs (i + 1)) (Gs.getD (i + 1) []).length := by
      have := befW_cost (b2 w hw)
      have := hle _ b1
      omega
    obtain ⟨q, q1, q2, q3, q4⟩ := wayL_mem b1
    have hso : StepOk h (l.getD i noC) ((Gs.getD i []).getD k noG) (l.getD (i + 1) noC) ((Gs.getD (i + 1) []).getD q noG) := by
      by_cases hx : StepOk h (l.getD i noC) ((Gs.getD i []).getD k noG) (l.getD (i + 1) noC) ((Gs.getD (i + 1) []).getD q noG)
      · exact hx
      · rw [stepR_no hx] at q3; cases q3
    refine ⟨hne, hc, by rw [q4], fun _ => ⟨q, by rw [q4], q1, q2, hso, ?_⟩⟩
    rw [← hc, q4, stepR_ok hso]
end
end Go.Proofs.Ytojjdkoglhecbaa
namespace Go.Proofs.Ytojjdkoglhecbaa
open Go.RowKit

/-- The first way of the root. -/
noncomputable def rootW (h : Hand) (l : List Chord) (Gs : List (List Grip)) : Way := bstW (rtL h l Gs (rsT h l Gs 0).length)
/-- The grips of the best fingering, by their numbers. -/
noncomputable def kS (h : Hand) (l : List Chord) (Gs : List (List Grip)) : Nat → Nat
  | 0 => (rootW h l Gs).2.1.toNat
  | i + 1 => (bstW (wayF h l Gs i (kS h l Gs i))).2.1.toNat
noncomputable def pathU (h : Hand) (l : List Chord) (Gs : List (List Grip)) (n : Nat) : List Grip := (List.range n).map fun i => (Gs.getD i []).getD (kS h l Gs i) noG
theorem pathU_len (h : Hand) (l : List Chord) (Gs : List (List Grip)) (n : Nat) : (pathU h l Gs n).length = n := by simp [pathU]
theorem pathU_succ (h : Hand) (l : List Chord) (Gs : List (List Grip)) (n : Nat) : pathU h l Gs (n + 1) = pathU h l Gs n ++ [(Gs.getD n []).getD (kS h l Gs n) noG] := by simp [pathU, List.range_succ]
/-- Is there a fingering? -/
def HasF (h : Hand) (l : List Chord) (Gs : List (List Grip)) : Prop := rtL h l Gs (rsT h l Gs 0).length ≠ []
open Classical in
/-- What first answers. -/
noncomputable def fstR (h : Hand) (l : List Chord) (Gs : List (List Grip)) : List Grip × Int × Int :=
  if l.length = 0 then ([], 0, 0) else if HasF h l Gs then (pathU h l Gs l.length, (rootW h l Gs).1, 0) else ([], 0, 62)
theorem rootW_ok {h : Hand} {l : List Chord} {Gs : List (List Grip)} (hh : HasF h l Gs) : ∃ q : Nat, rootW h l Gs = ((rsT h l Gs 0).getD q 0, (q : Int), 0) ∧ q < (rsT h l Gs 0).length ∧ ¬ (rsT h l Gs 0).getD q 0 = -1 := by
  obtain ⟨q, q1, q2, q3⟩ := rtL_mem (bstW_ok hh).1
  exact ⟨q, q3, q1, q2⟩
theorem kS_ok {h : Hand} {l : List Chord} {Gs : List (List Grip)} (hn : NetOk h l Gs) (hh : HasF h l Gs) : ∀ {i : Nat}, i < l.length → kS h l Gs i < (Gs.getD i []).length ∧ ¬ (rsT h l Gs i).getD (kS h l Gs i) 0 = -1
  | 0, hi => by
    obtain ⟨q, q1, q2, q3⟩ := rootW_ok hh
    rw [rsT_len hi] at q2
    rw [kS, q1]; exact ⟨q2, q3⟩
  | i + 1, hi => by
    obtain ⟨h1, h2⟩ := kS_ok hn hh (i := i) (by omega)
    obtain ⟨_, _, _, h3⟩ := wayF_ok hn (by omega) h1 h2
    obtain ⟨q, q1, q2, q3, _⟩ := h3 hi
    rw [kS, q1, Int.toNat_natCast]
    exact ⟨q2, q3⟩
/-- The next grip, as get gives it. -/
theorem kS_next {h : Hand} {l : List Chord} {Gs : List (List Grip)} (hn : NetOk h l Gs) (hh : HasF h l Gs) {i : Nat} (hi : i < l.length) {H : List Way} (hH : HpOk H) (hp : H.Perm (wayF h l Gs i (kS h l Gs i))) :
    ∃ c x : Int, GtRes H = .tup [.agg [vint c, vint x, vint 0], vbool true] ∧ (i + 1 < l.length → x = (kS h l Gs (i + 1) : Int)) := by
  obtain ⟨h1, h2⟩ := kS_ok hn hh hi
  obtain ⟨w1, w2, w3, w4⟩ := wayF_ok hn hi h1 h2
  have e := bstW_heap hH hp w1 wayF_tot
  have hne : H ≠ [] := fun e0 => by subst e0; exact w1 (List.nil_perm.1 hp)
  refine ⟨(bstW (wayF h l Gs i (kS h l Gs i))).1, (bstW (wayF h l Gs i (kS h l Gs i))).2.1, by rw [GtRes, if_neg hne, e, w3], fun hi1 => ?_⟩
  obtain ⟨q, q1, _⟩ := w4 hi1
  rw [kS, q1, Int.toNat_natCast]

/-- All that is neither node nor way is as it was. -/
def Fr (M M' : Mm) : Prop := M.next ≤ M'.next ∧ ∀ q cs t, q < M.next → M.obj q = some (.box cs t) → t ≠ 159 → t ≠ 154 → t ≠ 150 → M'.obj q = M.obj q
/-- What fingering leaves. -/
def FgPost (h : Hand) (l : List Chord) (Gs : List (List Grip)) (M : Mm) (r : V) (M' : Mm) : Prop :=
  Fr M M' ∧ ∃ (G : List Grip) (c : Int) (is : Bool) (tok : Tok), r = .tup [.agg [.sl G.length (G.flatMap Grip.cells) tok, vint c], vbool is] ∧ ((is = true ∧ fstR h l Gs = (G, c, 0)) ∨ (is = false ∧ fstR h l Gs = ([], 0, 62)))
theorem fgPost_ex (h : Hand) (l : List Chord) (Gs : List (List Grip)) (M : Mm) : ∃ r M', FgPost h l Gs M r M' := by
  have hf : Fr M M := ⟨Nat.le_refl _, fun _ _ _ _ _ _ _ _ => rfl⟩
  unfold FgPost fstR
  split
  · exact ⟨_, M, hf, [], 0, true, .no, rfl, .inl ⟨rfl, rfl⟩⟩
  · split
    · exact ⟨_, M, hf, _, _, true, .no, rfl, .inl ⟨rfl, rfl⟩⟩
    · exact ⟨_, M, hf, [], 0, false, .no, rfl, .inr ⟨rfl, rfl⟩⟩

/-- Where fingering stands. -/
structure FgSt (h : Hand) (l : List Chord) (Gs : List (List Grip)) (tb nq rt : Nat) (rs : List Nat) (mS : Mm) (n0 : Nat) (cost : Int) (i : Nat) (M : Mm) : Prop where
  fr : Fr mS M
  nx : n0 + 11 ≤ M.next
  ls : LsM h l Gs tb nq rt rs i M
  fb : ∃ tok, M.obj n0 = some (.box [.sl i ((pathU h l Gs i).flatMap Grip.cells) tok, vint cost] 40) ∧ Apb M tok i 53 2
  wb : ∃ c x : Int, M.obj (n0 + 8) = some (.box [vint c, vint x, vint 0] 154) ∧ (i < l.length → x = (kS h l Gs i : Int))

set_option maxHeartbeats 4000000 in
theorem fing_sfn {h : Hand} {l : List Chord} {Gs : List (List Grip)} (hn : NetOk h l Gs) {m0 M : Mm} {r0 : V} (hP : LsPost h l Gs m0 r0 M) : SFn Try.prog Gd 75 [r0, vint 0] M (FgPost h l Gs M) := by
  obtain ⟨_, _, tb, nq, rt, rs, rfl, ⟨_, l1⟩, ⟨nv, o1⟩, hL⟩ := hP
  refine SFn.of_vxS k_hand_lister_fingering (by simp) ?_
  have h4 := hn.len
  have gl := hn.gl
  have x0 : ¬ tb = M.next := by omega
  have hnet : netE h l Gs = .ept [.sl h.low.length (h.low.map vint) .no, .sl h.high.length (h.high.map vint) .no, .sl h.barre.length (h.barre.map vbool) .no, .lit (.int .i64 h.top), .lit (.int .i64 h.jump), .lit (.int .i64 h.shift), .lit (.int .i64 h.lift), .lit (.int .i64 h.bar), .lit (.int .i64 h.stretch), .lit (.int .i64 h.slide),
    .sl l.length (l.flatMap Chord.cells) .no, .sl Gs.length (Gs.map tGs) .no, .sl (owA h l Gs).length ((owA h l Gs).map tIs) .no, .sl (rsA h l Gs).length ((rsA h l Gs).map tIs) .no] 0 := rfl
  replace hnet := Hid.mk hnet
  replace gl := Hid.mk gl
  have o1' := o1
  rw [hnet.out] at o1
  unfold c_hand_lister_fingering
  by_cases hl0 : l.length = 0
  · have e1 : ((l.length : Int) == 0) = true := by rw [beq_iff_eq]; omega
    have hf : fstR h l Gs = ([], 0, 0) := by rw [fstR, if_pos hl0]
    replace hf := Hid.mk hf
    clear hl0 hL o1'
    repeat' (with_reducible first | refine x_ops ?_ | refine wk ?_ | ((first | refine gd1 ?_ ?_ | refine gd2 ?_ ?_ | refine gd3 ?_ ?_) <;> (first | exact @False.elim _ | intro hc)))
    exact ⟨.inr rfl, _, vv, ⟨by show M.next ≤ M.next + 2; omega, fun q _ _ hq _ _ _ _ => (put_other _ _ (by omega)).trans (put_other _ _ (by omega))⟩, [], 0, true, .exact, rfl, .inl ⟨rfl, hf.out⟩⟩
  have e1 : ((l.length : Int) == 0) = false := by rw [beq_eq_false_iff_ne]; omega
  obtain ⟨hLs, ⟨_, l2⟩, v, H, q1, q2, q3, q4⟩ := hL (by omega)
  have hHl := q4.length_eq
  have hrl := rtL_len h l Gs (rsT h l Gs 0).length
  have hT0 := rsT_len (h := h) (Gs := Gs) (show 0 < l.length by omega)
  have hc0 := hn.cnt 0
  have low : ∀ a : AObj, ∀ q, q < M.next → ((⟨M.obj, M.next + 11⟩ : Mm).put M.next a).obj q = M.obj q := fun a q hq => put_other _ _ (by omega)
  have hL1 : LsM h l Gs tb nq rt rs 0 ((⟨M.obj, M.next + 11⟩ : Mm).put M.next (.box [.sl 0 [] .exact, vint 0] 40)) :=
    hLs.mono (Nat.le_refl _) (by show M.next ≤ M.next + 11; omega) (low _ _ l1) (low _ _ hLs.ltn) (fun y _ hy => low _ _ (hLs.ltr y hy))
  have GR := getR_sfn hL1 (v := v) (H := H) ((low _ _ l2).trans q1) (by show rt < M.next + 11; omega) (q2.mono (by show M.next ≤ M.next + 11; omega) (fun q n e => low _ _ (by
    rcases q2 with ⟨h1, _⟩ | ⟨id, R, h1, h2, h3⟩
    · rw [h1] at e; cases e
    · rw [h1] at e; injection e with e1; subst e1; exact h2))) q3 (by omega)
  have GE : ∃ r M', ((⟨M.obj, M.next + 11⟩ : Mm).put M.next (.box [.sl 0 [] .exact, vint 0] 40)).next ≤ M'.next ∧ r = GtRes H ∧ LsM h l Gs tb nq rt rs 0 M' ∧ ∀ q cs t, q < ((⟨M.obj, M.next + 11⟩ : Mm).put M.next (.box [.sl 0 [] .exact, vint 0] 40)).next → ((⟨M.obj, M.next + 11⟩ : Mm).put M.next (.box [.sl 0 [] .exact, vint 0] 40)).obj q = some (.box cs t) → t ≠ 159 → t ≠ 154 → M'.obj q = ((⟨M.obj, M.next + 11⟩ : Mm).put M.next (.box [.sl 0 [] .exact, vint 0] 40)).obj q := ⟨_, _, Nat.le_refl _, rfl, hL1, fun _ _ _ _ _ _ _ => rfl⟩
  have hl0' := Hid.mk hl0
  replace hn := Hid.mk hn
  have hrlo : ∀ y, y < l.length → rs.getD y 0 < M.next := hLs.ltr
  have hqlo := hLs.ltn
  replace hrlo := Hid.mk hrlo
  replace hqlo := Hid.mk hqlo
  clear hL hLs hL1 low hl0 q1 q2 l2
  repeat' (with_reducible first | refine x_ops ?_ | refine wk ?_ | ((first | refine gd1 ?_ ?_ | refine gd2 ?_ ?_ | refine gd3 ?_ ?_) <;> (first | exact @False.elim _ | intro hc)))
  refine x_scallR [.ptr tb 0, vint (-1), vint 0, vint 0] vw GR GE ?_
  rintro r M2 ⟨p1, rfl, hL2, p4⟩
  have p1' : M.next + 11 ≤ M2.next := p1
  have of := (p4 M.next _ _ (by show M.next < M.next + 11; omega) (put_same _ _ _) (by decide) (by decide)).trans (put_same _ _ _)
  have fr2 : Fr M M2 := ⟨by omega, fun q cs t hq ho ht1 ht2 _ => (p4 q cs t (by show q < M.next + 11; omega) ((put_other _ _ (by omega)).trans ho) ht1 ht2).trans (put_other _ _ (by omega))⟩
  replace fr2 := Hid.mk fr2
  clear GR GE p4 p1 o1
  have y1 : ¬ M.next = M.next + 8 := by omega
  by_cases hH : H = []
  · have hno : ¬ HasF h l Gs := fun hh => hh (by subst hH; exact List.nil_perm.1 q4)
    have hf : fstR h l Gs = ([], 0, 62) := by rw [fstR, if_neg hl0'.out, if_neg hno]
    have hR : GtRes H = .tup [.agg [vint 0, vint 0, vint 0], vbool false] := by rw [GtRes, if_pos hH]
    rw [hR]
    replace hf := Hid.mk hf
    replace hL2 := Hid.mk hL2
    clear hR hH hno q3 q4
    repeat' (with_reducible first | refine x_ops ?_ | refine wk ?_ | ((first | refine gd1 ?_ ?_ | refine gd2 ?_ ?_ | refine gd3 ?_ ?_) <;> (first | exact @False.elim _ | intro hc)))
    exact ⟨.inr rfl, _, vv, ⟨fr2.out.1, fun q cs t hq ho ht1 ht2 ht3 => by (refine Eq.trans (b := M2.obj q) ?_ (fr2.out.2 q cs t hq ho ht1 ht2 ht3); repeat' (first | rfl | refine Eq.trans (put_other _ _ (by omega)) ?_))⟩, [], 0, false, .exact, rfl, .inr ⟨rfl, hf.out⟩⟩
  have hhas : HasF h l Gs := fun e => by rw [e] at q4; exact hH (List.perm_nil.1 q4)
  have hw0 : H.getD 0 noW = rootW h l Gs := bstW_heap q3 q4 hhas rtL_tot
  obtain ⟨q0, w1, w2, w3⟩ := rootW_ok hhas
  have hf : fstR h l Gs = (pathU h l Gs l.length, (rsT h l Gs 0).getD q0 0, 0) := by rw [fstR, if_neg hl0'.out, if_pos hhas, w1]
  have hk0 : kS h l Gs 0 = q0 := by rw [kS, w1]; rfl
  have hR : GtRes H = .tup [.agg [vint ((rsT h l Gs 0).getD q0 0), vint (q0 : Int), vint 0], vbool true] := by rw [GtRes, if_neg hH, hw0, w1]
  rw [hR]
  generalize (rsT h l Gs 0).getD q0 0 = cost at *
  replace hf := Hid.mk hf
  have hL3 := Hid.mk hL2
  have of' := Hid.mk of
  clear hR hH q3 q4 w1 w2 w3 hw0
  have z1 : tb < M2.next := hL2.ltt
  have z2 : M.next < M2.next := by omega
  have o2 := hL2.tbo
  rw [hnet.out] at o2
  have x1 : ¬ tb = M.next + 8 := by omega
  clear hL2
  repeat' (with_reducible first | refine x_ops ?_ | refine wk ?_ | ((first | refine gd1 ?_ ?_ | refine gd2 ?_ ?_ | refine gd3 ?_ ?_) <;> (first | exact @False.elim _ | intro hc)))
  refine x_genM (fun t M' => (t 0 = .ptr tb 0 ∧ t 4 = .ptr M.next 0 ∧ t 6 = .ptr (M.next + 8) 0 ∧ t 40 = vint l.length ∧ t 41 = vint 0) ∧ FgSt h l Gs tb nq rt rs M M.next cost 0 M') ⟨⟨vv, vv, vv, vv, vv⟩, ⟨?_, p1', ?_, ⟨.exact, put_same _ _ _, .inl rfl⟩, ⟨cost, q0, ?_, fun _ => by rw [hk0]⟩⟩⟩ ?_
  · exact ⟨fr2.out.1, fun q cs t hq ho ht1 ht2 ht3 => by (refine Eq.trans (b := M2.obj q) ?_ (fr2.out.2 q cs t hq ho ht1 ht2 ht3); repeat' (first | rfl | refine Eq.trans (put_other _ _ (by omega)) ?_))⟩
  · have old : ∀ a b c : AObj, ∀ q, q < M.next → (((M2.put (M.next + 8) a).put (M.next + 8) b).put M.next c).obj q = M2.obj q := fun a b c q hq => (put_other _ _ (by omega)).trans ((put_other _ _ (by omega)).trans (put_other _ _ (by omega)))
    exact hL3.out.mono (Nat.le_refl _) (Nat.le_refl _) (old _ _ _ _ l1) (old _ _ _ _ hqlo.out) (fun y _ hy => old _ _ _ _ (hrlo.out y hy))
  · exact (put_other _ _ (fun e => y1 e.symm)).trans (put_same _ _ _)
  rintro t0 M3 ⟨⟨a0, a4, a6, a40, a41⟩, hs0⟩
  refine x_loopW w_hand_lister_fingering_p9 kr l.length (fun i t M' => t 41 = vint (i : Int) ∧ FgSt h l Gs tb nq rt rs M M.next cost i M') ⟨a41, hs0⟩ ?_
  clear a41 hs0 of o2 o1' z1 z2 p1' hL3 of'
  rintro i t M4 hi ⟨h41, hs⟩
  have hnx := hs.nx
  have fr4 := hs.fr
  replace fr4 := Hid.mk fr4
  obtain ⟨tok, f1, f2⟩ := hs.fb
  obtain ⟨c, x, g1, g2⟩ := hs.wb
  have z2 : M.next < M4.next := by omega
  have z3 : M.next + 8 < M4.next := by omega
  have hplen := pathU_len h l Gs i
  by_cases hil : i < l.length
  case neg =>
    have hie : i = l.length := by omega
    subst hie
    have c1 : ¬ (l.length : Int) < (l.length : Int) := by omega
    replace hplen := Hid.mk hplen
    clear hs f2 g1 g2 hil hi
    repeat' (with_reducible first | refine x_ops ?_ | refine wk ?_ | ((first | refine gd1 ?_ ?_ | refine gd2 ?_ ?_ | refine gd3 ?_ ?_) <;> (first | exact @False.elim _ | intro hc)))
    refine ⟨.inr rfl, .tup [.agg [.sl l.length ((pathU h l Gs l.length).flatMap Grip.cells) tok, vint cost], vbool true], vw, ⟨fr4.out.1, fun q cs t hq ho ht1 ht2 ht3 => by (refine Eq.trans (b := M4.obj q) ?_ (fr4.out.2 q cs t hq ho ht1 ht2 ht3); repeat' (first | rfl | refine Eq.trans (put_other _ _ (by omega)) ?_))⟩, pathU h l Gs l.length, cost, true, tok, by rw [hplen.out], .inl ⟨rfl, hf.out⟩⟩
  have c1 : (i : Int) < (l.length : Int) := by omega
  have w1 := w_add1 (k := i) (by omega)
  obtain ⟨hkl, hkr⟩ := kS_ok hn.out hhas hil
  have hx := g2 hil
  subst hx
  have c2 : (kS h l Gs i : Int) < ((Gs.getD i []).length : Int) := by omega
  have gle := gl.out
  have r1 := gss_at' (l := Gs) (k := i) (by omega)
  have r2 := gs_take hkl
  have r3 := gs_len (Gs.getD i [])
  have c3 : kS h l Gs i * 2 + 2 ≤ (Gs.getD i []).length * 2 := by omega
  have hg := hn.out.grip hil hkl
  have hfl : ((Gs.getD i []).getD (kS h l Gs i) noG).fingers.length ≤ 14 := by rw [hg.2]; exact chord_len (hn.out.seq i hil).1
  have CL := clone_fn ((Gs.getD i []).getD (kS h l Gs i) noG).fingers (by omega)
  have o1 := hs.ls.tbo
  rw [hnet.out] at o1
  have z1 := hs.ls.ltt
  have x2 : ∀ q j, q < M4.next → (q < M4.next + j) = True := fun q j hq => by simp; omega
  have x3 : ∀ q j, q < M4.next → (q = M4.next + j) = False := fun q j hq => by simp; omega
  have x4 : ∀ q j, q < M4.next → (M4.next + j = q) = False := fun q j hq => by simp; omega
  have hsu : pathU h l Gs (i + 1) = pathU h l Gs i ++ [(Gs.getD i []).getD (kS h l Gs i) noG] := pathU_succ h l Gs i
  have hKN : ∀ H : List Way, HpOk H → H.Perm (wayF h l Gs i (kS h l Gs i)) → ∃ c x : Int, GtRes H = .tup [.agg [vint c, vint x, vint 0], vbool true] ∧ (i + 1 < l.length → x = (kS h l Gs (i + 1) : Int)) := fun H hH hp => kS_next hn.out hhas hil hH hp
  have hs1 := Hid.mk hs
  replace hsu := Hid.mk hsu
  replace hplen := Hid.mk hplen
  replace hfl := Hid.mk hfl
  replace hg := Hid.mk hg
  replace hKN := Hid.mk hKN
  clear hs g2
  repeat' (with_reducible first | refine x_ops ?_ | refine wk ?_ | (with_reducible refine xc (CL) ?_) | ((first | refine gd1 ?_ ?_ | refine gd2 ?_ ?_ | refine gd3 ?_ ?_) <;> (first | exact @False.elim _ | intro hc)))
  refine x_appb (n := i) (xs := (pathU h l Gs i).flatMap Grip.cells) (ys := Grip.cells ((Gs.getD i []).getD (kS h l Gs i) noG)) (k := tok) (k2 := .exact) vw (by unfold Grip.cells; exact vw) (f2.mono (fun q hq _ => (put_other _ _ (by omega)).trans (put_other _ _ (by omega))) (by show M4.next ≤ M4.next + 28; omega)) (by rw [gs_len, hplen.out]) rfl (by omega) (by unfold Go.maxLen; omega) (by show M4.next + 25 < M4.next + 28; omega) ?_
  intro tok' m5 hap' hn' hbox hobj
  replace hn' : m5.next = M4.next + 28 := hn'
  have lo : ∀ q cs ty, q < M4.next → M4.obj q = some (.box cs ty) → m5.obj q = some (.box cs ty) := fun q cs ty hq ho => hbox q cs ty ((put_other _ _ (by omega)).trans ((put_other _ _ (by omega)).trans ho)) (by show ¬ q = M4.next + 25; omega)
  have q1 := lo _ _ _ z2 f1
  have q2 := lo _ _ _ z3 g1
  have q3 := lo _ _ _ z1 o1
  have l5 : M.next < m5.next := by omega
  have l6 : M.next + 8 < m5.next := by omega
  have y2 : ¬ M.next + 8 = M.next := by omega
  have y3 : ¬ M.next = M.next + 8 := by omega
  have nb1 : tb ≠ M.next := ne_type o1 f1 (by decide)
  have hLs5 : LsM h l Gs tb nq rt rs i (m5.put M.next (.box [.sl (i + 1) ((pathU h l Gs i).flatMap Grip.cells ++ Grip.cells ((Gs.getD i []).getD (kS h l Gs i) noG)) tok', vint cost] 40)) := by
    have hh := hs1.out.ls
    refine hh.mono (Nat.le_refl _) (by show M4.next ≤ m5.next; omega) ?_ ?_ (fun y hy hyl => ?_)
    · exact ((put_other _ _ nb1).trans (lo _ _ _ z1 hh.tbo)).trans hh.tbo.symm
    · exact ((put_other _ _ (ne_type hh.nqo f1 (by decide))).trans (lo _ _ _ hh.ltn hh.nqo)).trans hh.nqo.symm
    · exact ((put_other _ _ (ne_type (hh.row y hy hyl) f1 (by decide))).trans (lo _ _ _ (hh.ltr y hyl) (hh.row y hy hyl))).trans (hh.row y hy hyl).symm
  have GS := get_sfn hn.out hil hkl hLs5
  have GE := gtPost_ex (k := kS h l Gs i) hLs5
  have hri : m5.obj (rs.getD i 0) = some (.box (nilR (Gs.getD i []).length) 150) := lo _ _ _ (hs1.out.ls.ltr i hil) (hs1.out.ls.row i (Nat.le_refl _) hil)
  replace hri := Hid.mk hri
  replace hap' := Hid.mk hap'
  replace hn' := Hid.mk hn'
  replace hLs5 := Hid.mk hLs5
  replace lo := Hid.mk lo
  clear hbox hobj f1 f2 g1 o1 CL r1 r2 r3 x2 x3 x4 z1 z2 z3
  unfold Grip.cells at GS GE
  repeat' (with_reducible first | refine x_ops ?_ | refine wk ?_ | ((first | refine gd1 ?_ ?_ | refine gd2 ?_ ?_ | refine gd3 ?_ ?_) <;> (first | exact @False.elim _ | intro hc)))
  refine x_scallR [.ptr tb 0, vint i, vint (kS h l Gs i : Int), vint 0] vw (by ((refine ve ?_; try exact True.intro)); exact GS) (by ((refine ve ?_; try exact True.intro)); exact GE) ?_
  rintro r M6 ⟨p0, ⟨H', hH, hp, rfl⟩, hLs6, fr6⟩
  obtain ⟨c', x', e, hx'⟩ := hKN.out H' hH hp
  rw [e]
  have b0 : M.next ≠ rs.getD i 0 := ne_type q1 hri.out (by decide)
  have b8 : M.next + 8 ≠ rs.getD i 0 := ne_type q2 hri.out (by decide)
  have p0' : M4.next + 28 ≤ M6.next := by have : m5.next ≤ M6.next := p0; have := hn'.out; omega
  have e6 := (fr6 M.next l5 b0).trans (put_same _ _ _)
  have e8 := (fr6 (M.next + 8) l6 b8).trans ((put_other _ _ y2).trans q2)
  have hri6 : (m5.put M.next (.box [.sl (i + 1) ((pathU h l Gs i).flatMap Grip.cells ++ Grip.cells ((Gs.getD i []).getD (kS h l Gs i) noG)) tok', vint cost] 40)).obj (rs.getD i 0) = _ := (put_other _ _ (fun e => b0 e.symm)).trans hri.out
  have ap6 := (Apb.put (o := .box [.sl (i + 1) ((pathU h l Gs i).flatMap Grip.cells ++ Grip.cells ((Gs.getD i []).getD (kS h l Gs i) noG)) tok', vint cost] 40) hap'.out q1).mono (m' := M6) (fun q hq hk => fr6 q hq (fun e => by subst e; rw [hri6] at hk; cases hk)) p0
  have fr7 : Fr M M6 := ⟨by omega, fun q cs t hq ho ht1 ht2 ht3 => by
    have h5 : m5.obj q = some (.box cs t) := lo.out q cs t (Nat.lt_of_lt_of_le hq fr4.out.1) ((fr4.out.2 q cs t hq ho ht1 ht2 ht3).trans ho)
    have h7 : q ≠ M.next := by omega
    exact (fr6 q (by show q < m5.next; have := hn'.out; omega) (ne_type h5 hri.out ht3)).trans (((put_other _ _ h7).trans h5).trans ho.symm)⟩
  replace fr7 := Hid.mk fr7
  replace hx' := Hid.mk hx'
  replace hLs6 := Hid.mk hLs6
  clear GS GE fr6 p0 e q1 q2 q3 l5 l6 hp hH
  repeat' (with_reducible first | refine x_ops ?_ | refine wk ?_ | ((first | refine gd1 ?_ ?_ | refine gd2 ?_ ?_ | refine gd3 ?_ ?_) <;> (first | exact @False.elim _ | intro hc)))
  refine nx hil ⟨vv, ⟨⟨by (show M.next ≤ M6.next; omega), fun q cs t hq ho ht1 ht2 ht3 => by (refine Eq.trans (b := M6.obj q) ?_ (fr7.out.2 q cs t hq ho ht1 ht2 ht3); repeat' (first | rfl | refine Eq.trans (put_other _ _ (by omega)) ?_))⟩, ?_, ?_, ?_, ?_⟩⟩
  · show M.next + 11 ≤ M6.next; omega
  · have hl := hLs6.out
    exact hl.mono (Nat.le_refl _) (Nat.le_refl _) (put_other _ _ (ne_type hl.tbo e8 (by decide))) (put_other _ _ (ne_type hl.nqo e8 (by decide))) (fun y hy hyl => put_other _ _ (ne_type (hl.row y hy hyl) e8 (by decide)))
  · refine ⟨tok', ?_, Apb.put ap6 e8⟩
    rw [hsu.out, List.flatMap_append, List.flatMap_singleton]
    exact (put_other _ _ (fun e => y2 e.symm)).trans e6
  · exact ⟨c', x', put_same _ _ _, hx'.out⟩
end Go.Proofs.Ytojjdkoglhecbaa
namespace Go.Proofs.Ytojjdkoglhecbaa
open Go.RowKit

/-- The least cost from a grip on, by numbers. -/
noncomputable def lst (h : Hand) (l : List Chord) (Gs : List (List Grip)) (i k : Nat) : Int := (rsT h l Gs i).getD k 0
/-- The grip k of the chord i. -/
def grp (Gs : List (List Grip)) (i k : Nat) : Grip := (Gs.getD i []).getD k noG

section
variable {h : Hand} {l : List Chord} {Gs : List (List Grip)}
theorem lst_num (hn : NetOk h l Gs) {i k : Nat} (hi : i < l.length) (hk : k < (Gs.getD i []).length) : lst h l Gs i k = -1 ∨ (0 ≤ lst h l Gs i k ∧ lst h l Gs i k ≤ 509000 * (l.length - i : Nat)) := rsT_bound hn _ i rfl hi k hk
theorem lst_last {i k : Nat} (hi : i + 1 = l.length) (hk : k < (Gs.getD i []).length) : lst h l Gs i k = ownC h (l.getD i noC) (grp Gs i k) := by
  rw [lst, rsT_at (by omega) hk, rsE, if_pos hi]; rfl
theorem wayL_has {i k q : Nat} (hq : ¬ lst h l Gs (i + 1) q = -1) (hs : StepOk h (l.getD i noC) (grp Gs i k) (l.getD (i + 1) noC) (grp Gs (i + 1) q)) : ∀ {j : Nat}, q < j →
    (ownC h (l.getD i noC) (grp Gs i k) + stepC h (l.getD i noC) (grp Gs i k) (l.getD (i + 1) noC) (grp Gs (i + 1) q) + lst h l Gs (i + 1) q, (q : Int), 0) ∈ wayL h l Gs i k j
  | 0, h0 => by omega
  | j + 1, h0 => by
    unfold lst grp at *
    rw [wayL]
    by_cases e : q = j
    · subst e
      rw [stepR_ok hs, if_neg (by rintro (h1 | h1); exact hq h1; cases h1)]
      exact List.mem_append.2 (.inr (List.mem_singleton.2 rfl))
    · have := wayL_has hq hs (j := j) (by omega)
      unfold lst grp at this
      split
      · exact this
      · exact List.mem_append.2 (.inl this)
/-- A step to a grip that leads to the end. -/
theorem lst_ub (hn : NetOk h l Gs) {i k q : Nat} (hi : i + 1 < l.length) (hk : k < (Gs.getD i []).length) (hq : q < (Gs.getD (i + 1) []).length) (h1 : ¬ lst h l Gs (i + 1) q = -1)
    (hs : StepOk h (l.getD i noC) (grp Gs i k) (l.getD (i + 1) noC) (grp Gs (i + 1) q)) :
    ¬ lst h l Gs i k = -1 ∧ lst h l Gs i k ≤ ownC h (l.getD i noC) (grp Gs i k) + stepC h (l.getD i noC) (grp Gs i k) (l.getD (i + 1) noC) (grp Gs (i + 1) q) + lst h l Gs (i + 1) q := by
  have hm := wayL_has (k := k) h1 hs hq
  have e : lst h l Gs i k = bsU h (l.getD i noC) ((Gs.getD i []).getD k noG) (l.getD (i + 1) noC) (Gs.getD (i + 1) []) (rsT h l Gs (i + 1)) (Gs.getD (i + 1) []).length := by
    rw [lst, rsT_at (by omega) hk, rsE, if_neg (by omega)]
  rcases bsU_way hn hi hk (Nat.le_refl _) with ⟨_, h2⟩ | ⟨h2, _, h3⟩
  · rw [h2] at hm; cases hm
  · have := h3 _ hm
    rw [e]; dsimp only at this; exact ⟨by omega, this⟩
/-- Where there is a way, it is one of them. -/
theorem lst_eq (hn : NetOk h l Gs) {i k : Nat} (hi : i + 1 < l.length) (hk : k < (Gs.getD i []).length) (h1 : ¬ lst h l Gs i k = -1) :
    ∃ q, q < (Gs.getD (i + 1) []).length ∧ ¬ lst h l Gs (i + 1) q = -1 ∧ StepOk h (l.getD i noC) (grp Gs i k) (l.getD (i + 1) noC) (grp Gs (i + 1) q) ∧
      lst h l Gs i k = ownC h (l.getD i noC) (grp Gs i k) + stepC h (l.getD i noC) (grp Gs i k) (l.getD (i + 1) noC) (grp Gs (i + 1) q) + lst h l Gs (i + 1) q := by
  obtain ⟨q, _, h2, h3, h4, h5⟩ := (wayF_ok hn (by omega) hk h1).2.2.2 hi
  exact ⟨q, h2, h3, h4, h5⟩
theorem lst_own (hn : NetOk h l Gs) {i k : Nat} (hi : i < l.length) (hk : k < (Gs.getD i []).length) : 0 ≤ ownC h (l.getD i noC) (grp Gs i k) := (own_bound hn.hk (hn.seq i hi).1 (hn.grip hi hk).1).1
/-- Is there a fingering, by numbers. -/
theorem has_iff (hl : 0 < l.length) : HasF h l Gs ↔ ∃ q, q < (Gs.getD 0 []).length ∧ ¬ lst h l Gs 0 q = -1 := by
  have hT := rsT_len (h := h) (Gs := Gs) hl
  constructor
  · intro hh
    obtain ⟨q, q1, q2, q3⟩ := rootW_ok hh
    exact ⟨q, by omega, q3⟩
  · rintro ⟨q, q1, q2⟩ e
    have := rtL_has (h := h) (l := l) (Gs := Gs) (j := (rsT h l Gs 0).length) (q := q) (by omega) q2
    rw [e] at this; cases this
/-- The cost of the best fingering. -/
theorem root_min (hl : 0 < l.length) (hh : HasF h l Gs) : (∃ q, q < (Gs.getD 0 []).length ∧ ¬ lst h l Gs 0 q = -1 ∧ (rootW h l Gs).1 = lst h l Gs 0 q) ∧ ∀ q, q < (Gs.getD 0 []).length → ¬ lst h l Gs 0 q = -1 → (rootW h l Gs).1 ≤ lst h l Gs 0 q := by
  have hT := rsT_len (h := h) (Gs := Gs) hl
  obtain ⟨q, q1, q2, q3⟩ := rootW_ok hh
  refine ⟨⟨q, by omega, q3, by rw [q1]; rfl⟩, fun p hp hpn => ?_⟩
  exact befW_cost ((bstW_ok hh).2 _ (rtL_has (h := h) (l := l) (Gs := Gs) (j := (rsT h l Gs 0).length) (q := p) (by omega) hpn))
end
end Go.Proofs.Ytojjdkoglhecbaa
namespace Go.Proofs.Ytojjdkoglhecbaa
open Go.RowKit

/-- A memory with a lister behind all that was there. -/
noncomputable def lsM (h : Hand) (l : List Chord) (Gs : List (List Grip)) (m : Mm) (H : List Way) : Mm :=
  ⟨fun q => if q < m.next then m.obj q else if q = m.next then some (.box [netE h l Gs, .gsl (m.next + 1) l.length 1, .ptr (m.next + 2) 0] 162)
    else if q = m.next + 1 then some (.box (rwN ((List.range l.length).map (m.next + 4 + ·)) Gs) 163)
    else if q = m.next + 2 then some (.box [.sl 0 [] .exact, .gsl (m.next + 3) H.length 3, .fn 110 [], vbool false] 159)
    else if q = m.next + 3 then some (.box (wyC (H ++ [])) 154)
    else some (.box (nilR (Gs.getD (q - (m.next + 4)) []).length) 150), m.next + 4 + l.length⟩
theorem lsPost_ex (h : Hand) (l : List Chord) (Gs : List (List Grip)) (m : Mm) : ∃ r M', LsPost h l Gs m r M' := by
  obtain ⟨H, h1, h2⟩ := heap_ex (rtL h l Gs (rsT h l Gs 0).length)
  have hr : ∀ y, y < l.length → ((List.range l.length).map (m.next + 4 + ·)).getD y 0 = m.next + 4 + y := fun y hy => by
    rw [List.getD_eq_getElem?_getD, List.getElem?_map, List.getElem?_range hy]; rfl
  have o : ∀ q, (lsM h l Gs m H).obj q = if q < m.next then m.obj q else if q = m.next then some (.box [netE h l Gs, .gsl (m.next + 1) l.length 1, .ptr (m.next + 2) 0] 162)
    else if q = m.next + 1 then some (.box (rwN ((List.range l.length).map (m.next + 4 + ·)) Gs) 163)
    else if q = m.next + 2 then some (.box [.sl 0 [] .exact, .gsl (m.next + 3) H.length 3, .fn 110 [], vbool false] 159)
    else if q = m.next + 3 then some (.box (wyC (H ++ [])) 154)
    else some (.box (nilR (Gs.getD (q - (m.next + 4)) []).length) 150) := fun _ => rfl
  have n : (lsM h l Gs m H).next = m.next + 4 + l.length := rfl
  refine ⟨.ptr m.next 0, lsM h l Gs m H, by omega, fun q hq => by rw [o, if_pos hq], m.next, m.next + 1, m.next + 2, (List.range l.length).map (m.next + 4 + ·), rfl, ⟨Nat.le_refl _, by omega⟩, ⟨_, by rw [o, if_neg (by omega), if_pos rfl]⟩, fun hl => ⟨⟨?_, ?_, ?_, ?_, ?_, ?_, ?_, ?_, ?_⟩, ⟨by omega, by omega⟩, .gsl (m.next + 3) H.length 3, H, ?_, .inr ⟨m.next + 3, [], rfl, by omega, ?_⟩, h1, h2⟩⟩
  · rw [o, if_neg (by omega), if_pos rfl]
  · rw [o, if_neg (by omega), if_neg (by omega), if_pos rfl]
  · intro y _ hy
    rw [hr y hy, o, if_neg (by omega), if_neg (by omega), if_neg (by omega), if_neg (by omega), if_neg (by omega), Nat.add_sub_cancel_left]
  · intro y z hyz hz
    rw [hr y (by omega), hr z hz]; omega
  · omega
  · omega
  · intro y hy; rw [hr y hy]; omega
  · omega
  · intro y hy; rw [hr y hy]; omega
  · rw [o, if_neg (by omega), if_neg (by omega), if_neg (by omega), if_pos rfl]
  · rw [o, if_neg (by omega), if_neg (by omega), if_neg (by omega), if_neg (by omega), if_pos rfl]

/-- What first answers, as a value. -/
noncomputable def fstV (r : List Grip × Int × Int) : V := .tup [.agg [tGs r.1, vint r.2.1], vint r.2.2]
set_option maxHeartbeats 4000000 in
theorem first_fn {h : Hand} {l : List Chord} {Gs : List (List Grip)} (hn : NetOk h l Gs) : Fn Try.prog Gd 70 [netE h l Gs] (fstV (fstR h l Gs)) := by
  refine Fn.of_vx0 k_hand_first (by simp) (by rw [V.pures, V.pures]; rfl) ?_
  have LS := fun m => list_sfn hn m
  have LE := fun m => lsPost_ex h l Gs m
  have FG := fun m0 M r0 (hP : LsPost h l Gs m0 r0 M) => fing_sfn hn hP
  have FE := fgPost_ex h l Gs
  unfold c_hand_first
  replace hn := Hid.mk hn
  repeat' (with_reducible first | refine x_ops ?_ | refine wk ?_ | ((first | refine gd1 ?_ ?_ | refine gd2 ?_ ?_ | refine gd3 ?_ ?_) <;> (first | exact @False.elim _ | intro hc)))
  refine x_scallR [netE h l Gs] vw (LS _) (LE _) ?_
  intro r1 M1 hP1
  have n1 : 11 ≤ M1.next := hP1.1
  have k0 : M1.obj 0 = some (.box [.sl 0 [] .exact, vint 0] 40) := (hP1.2.1 0 (Nat.zero_lt_succ 10)).trans (by (dsimp only; exact put_same _ _ _))
  replace FG := FG _ _ _ hP1
  have FE := FE M1
  clear LS LE
  replace hP1 := Hid.mk hP1
  repeat' (with_reducible first | refine x_ops ?_ | refine wk ?_ | ((first | refine gd1 ?_ ?_ | refine gd2 ?_ ?_ | refine gd3 ?_ ?_) <;> (first | exact @False.elim _ | intro hc)))
  refine x_scallR [r1, vint 0] vw FG FE ?_
  rintro r2 M2 ⟨fr, G, c, is, tok, rfl, hr⟩
  have n2 : 11 ≤ M2.next := Nat.le_trans n1 fr.1
  have k2 := (fr.2 0 _ _ (by omega) k0 (by decide) (by decide) (by decide)).trans k0
  clear FG FE k0 fr
  replace hr := Hid.mk hr
  cases is
  · have hf : fstR h l Gs = ([], 0, 62) := by rcases hr.out with ⟨h1, _⟩ | ⟨_, h1⟩
                                              · cases h1
                                              · exact h1
    rw [hf]
    repeat' (with_reducible first | refine x_ops ?_ | refine wk ?_ | ((first | refine gd1 ?_ ?_ | refine gd2 ?_ ?_ | refine gd3 ?_ ?_) <;> (first | exact @False.elim _ | intro hc)))
    exact finV_ret vv (.tup (.cons (.agg (.cons (.sl _ _ _) (.cons (.lit _) .nil))) (.cons (.lit _) .nil)))
  · have hf : fstR h l Gs = (G, c, 0) := by rcases hr.out with ⟨_, h1⟩ | ⟨h1, _⟩
                                            · exact h1
                                            · cases h1
    rw [hf]
    repeat' (with_reducible first | refine x_ops ?_ | refine wk ?_ | ((first | refine gd1 ?_ ?_ | refine gd2 ?_ ?_ | refine gd3 ?_ ?_) <;> (first | exact @False.elim _ | intro hc)))
    exact finV_ret vv (.tup (.cons (.agg (.cons (.sl _ _ _) (.cons (.lit _) .nil))) (.cons (.lit _) .nil)))

/-- What Best answers. -/
noncomputable def bstR (h : Hand) (l : List Chord) : List Grip × Int × Int := if wvE h l = 0 then fstR h l (tabG h l) else ([], 0, wvE h l)
theorem Best_fn (h : Hand) (l : List Chord) (hl : Fits l) : Fn Try.prog Gd 31 [h.val, tCs l] (fstV (bstR h l)) := by
  refine Fn.of_vx0 k_hand_Best (by simp) (by rw [V.pures, pure_hand, V.pures, pure_tCs]; rfl) ?_
  have C1 := weave_fn h l hl
  unfold wvR at C1
  unfold bstR c_hand_Best
  by_cases hw : wvE h l = 0
  · rw [if_pos hw] at C1 ⊢
    have C2 := first_fn (wv_net hl hw)
    generalize fstR h l (tabG h l) = r at *
    obtain ⟨G, c, e⟩ := r
    unfold fstV at *
    unfold netE netC at C1 C2
    unfold tGs at C2 ⊢
    unfold tCs at C2
    unfold Hand.val tCs at C1 ⊢
    clear hw
    dsimp only at *
    repeat' (with_reducible first | refine x_ops ?_ | refine wk ?_ | (with_reducible refine xc (C1) ?_) | (with_reducible refine xc (C2) ?_) | ((first | refine gd1 ?_ ?_ | refine gd2 ?_ ?_ | refine gd3 ?_ ?_) <;> (first | exact @False.elim _ | intro hc)))
    exact finV_ret vv (.tup (.cons (.agg (.cons (.sl _ _ _) (.cons (.lit _) .nil))) (.cons (.lit _) .nil)))
  · rw [if_neg hw] at C1 ⊢
    have e1 : (wvE h l == 0) = false := by rw [beq_eq_false_iff_ne]; exact hw
    clear hw
    unfold fstV tGs
    unfold Hand.val tCs at C1 ⊢
    dsimp only
    repeat' (with_reducible first | refine x_ops ?_ | refine wk ?_ | (with_reducible refine xc (C1) ?_) | ((first | refine gd1 ?_ ?_ | refine gd2 ?_ ?_ | refine gd3 ?_ ?_) <;> (first | exact @False.elim _ | intro hc)))
    exact finV_ret vv (.tup (.cons (.agg (.cons (.sl _ _ _) (.cons (.lit _) .nil))) (.cons (.lit _) .nil)))
end Go.Proofs.Ytojjdkoglhecbaa
namespace Go.Proofs.Ytojjdkoglhecbaa
open Go.RowKit

/-- A net of a second hand with at least the same grips and steps. -/
structure Nle (h h' : Hand) (l : List Chord) (Gs Gs' : List (List Grip)) : Prop where
  gr : ∀ i, i < l.length → ∀ k, k < (Gs.getD i []).length → ∃ k', k' < (Gs'.getD i []).length ∧ grp Gs' i k' = grp Gs i k
  st : ∀ i, i + 1 < l.length → ∀ k, k < (Gs.getD i []).length → ∀ q, q < (Gs.getD (i + 1) []).length → StepOk h (l.getD i noC) (grp Gs i k) (l.getD (i + 1) noC) (grp Gs (i + 1) q) → StepOk h' (l.getD i noC) (grp Gs i k) (l.getD (i + 1) noC) (grp Gs (i + 1) q)
/-- Its costs are no greater. -/
structure Cle (h h' : Hand) (l : List Chord) (Gs : List (List Grip)) : Prop where
  ow : ∀ i, i < l.length → ∀ k, k < (Gs.getD i []).length → ownC h' (l.getD i noC) (grp Gs i k) ≤ ownC h (l.getD i noC) (grp Gs i k)
  sc : ∀ i, i + 1 < l.length → ∀ k, k < (Gs.getD i []).length → ∀ q, q < (Gs.getD (i + 1) []).length → stepC h' (l.getD i noC) (grp Gs i k) (l.getD (i + 1) noC) (grp Gs (i + 1) q) ≤ stepC h (l.getD i noC) (grp Gs i k) (l.getD (i + 1) noC) (grp Gs (i + 1) q)

section
variable {h h' : Hand} {l : List Chord} {Gs Gs' : List (List Grip)}
theorem nle_lst (hn : NetOk h l Gs) (hn' : NetOk h' l Gs') (hN : Nle h h' l Gs Gs') : ∀ (j i : Nat), l.length - i = j → i < l.length → ∀ k k', k < (Gs.getD i []).length → k' < (Gs'.getD i []).length → grp Gs' i k' = grp Gs i k → ¬ lst h l Gs i k = -1 →
    ¬ lst h' l Gs' i k' = -1 ∧ (Cle h h' l Gs → lst h' l Gs' i k' ≤ lst h l Gs i k)
  | 0, i, hj, hi => by omega
  | j + 1, i, hj, hi => by
    intro k k' hk hk' hg h1
    by_cases hlast : i + 1 = l.length
    · have h2 := lst_own hn' hi hk'
      rw [lst_last hlast hk, lst_last hlast hk', hg]
      rw [hg] at h2
      exact ⟨by omega, fun hC => hC.ow i hi k hk⟩
    · have hi1 : i + 1 < l.length := by omega
      obtain ⟨q, q1, q2, q3, q4⟩ := lst_eq hn hi1 hk h1
      obtain ⟨q', q5, q6⟩ := hN.gr (i + 1) hi1 q q1
      obtain ⟨q7, q8⟩ := nle_lst hn hn' hN j (i + 1) (by omega) hi1 q q' q1 q5 q6 q2
      have hs := hN.st i hi1 k hk q q1 q3
      rw [← hg, ← q6] at hs
      obtain ⟨q9, q10⟩ := lst_ub hn' hi1 hk' q5 q7 hs
      refine ⟨q9, fun hC => ?_⟩
      have c1 := hC.ow i hi k hk
      have c2 := hC.sc i hi1 k hk q q1
      have c3 := q8 hC
      rw [hg, q6] at q10
      omega
theorem nle_best (hn : NetOk h l Gs) (hn' : NetOk h' l Gs') (hN : Nle h h' l Gs Gs') (hl : 0 < l.length) (hh : HasF h l Gs) : HasF h' l Gs' ∧ (Cle h h' l Gs → (rootW h' l Gs').1 ≤ (rootW h l Gs).1) := by
  obtain ⟨⟨q, q1, q2, q3⟩, _⟩ := root_min hl hh
  obtain ⟨q', p1, p2⟩ := hN.gr 0 hl q q1
  obtain ⟨p3, p4⟩ := nle_lst hn hn' hN _ 0 rfl hl q q' q1 p1 p2 q2
  have hh' : HasF h' l Gs' := (has_iff hl).2 ⟨q', p1, p3⟩
  refine ⟨hh', fun hC => ?_⟩
  have := (root_min hl hh').2 q' p1 p3
  have := p4 hC
  omega
end

/-- Best answers a fingering. -/
theorem bst_yes {h : Hand} {l : List Chord} (hw : wvE h l = 0) (hh : 0 < l.length → HasF h l (tabG h l)) : (bstR h l).2.2 = 0 ∧ (bstR h l).2.1 = if l.length = 0 then 0 else (rootW h l (tabG h l)).1 := by
  rw [bstR, if_pos hw, fstR]
  by_cases hl : l.length = 0
  · rw [if_pos hl, if_pos hl]; exact ⟨rfl, rfl⟩
  · rw [if_neg hl, if_neg hl, if_pos (hh (by omega))]; exact ⟨rfl, rfl⟩
/-- There is none. -/
theorem bst_no {h : Hand} {l : List Chord} (hw : wvE h l = 0) (hl : 0 < l.length) (hh : ¬ HasF h l (tabG h l)) : bstR h l = ([], 0, 62) := by
  rw [bstR, if_pos hw, fstR, if_neg (by omega), if_neg hh]
theorem bst_err {h : Hand} {l : List Chord} (hw : ¬ wvE h l = 0) : bstR h l = ([], 0, wvE h l) := by rw [bstR, if_neg hw]
theorem bst_ok {h : Hand} {l : List Chord} (hb : (bstR h l).2.2 = 0) : wvE h l = 0 ∧ (0 < l.length → HasF h l (tabG h l)) := by
  by_cases hw : wvE h l = 0
  · refine ⟨hw, fun hl => ?_⟩
    by_cases hh : HasF h l (tabG h l)
    · exact hh
    · rw [bst_no hw hl hh] at hb; cases hb
  · rw [bst_err hw] at hb; exact absurd hb hw
/-- The same grips. -/
theorem tab_grp {h : Hand} {l : List Chord} {i k : Nat} (hi : i < l.length) : grp (tabG h l) i k = (grpA h (l.getD i noC)).getD k noG := by rw [grp, tabG_at hi]

/-! ### Lighter -/
end Go.Proofs.Ytojjdkoglhecbaa
namespace Go.Proofs.Ytojjdkoglhecbaa
open Go.RowKit

section
variable {P : Program} {G : Ground}
/-- A call that only computes is handed boxes, its arguments as they are. -/
theorem x_cutR {base i : Nat} {d : Option Nat} {f : FuncId} {xs : List Opd} {l : List VI} {s : St} {K : St → Prop} {us : List V} {r : V} (vs : List V) (he : xs.map s.ev = vs) (S : Nat → Bool) (hf : Fn P G f us r) (hv : Vws s.m S vs us)
    (h : goR P G base (some ⟨putT s.t d r, s.m.freeze S⟩) l (i + 1) K) : vrun P G base i (⟨d, none, .call f, xs, none⟩ :: l) s K := x_cut S hf (by rw [he]; exact hv) h
end
theorem blk_put {E : Env} {m : Mm} {q : Nat} {cs cs' : List V} {t : TypeId} (ho : m.obj q = some (.box cs t)) {i b : Nat} : BlkOf E (m.put q (.box cs' t)) i b ↔ BlkOf E m i b := by
  by_cases e : i = q
  · subst e
    constructor
    · rintro (⟨a, s, h1, h2⟩ | ⟨n, e, z, c, h1, _⟩)
      · exact .inl ⟨_, _, ho, h2⟩
      · rw [put_same] at h1; cases h1
    · rintro (⟨a, s, h1, h2⟩ | ⟨n, e, z, c, h1, _⟩)
      · exact .inl ⟨_, _, put_same _ _ _, h2⟩
      · rw [ho] at h1; cases h1
  · unfold BlkOf; rw [put_other _ _ e]
/-- What is known of a box's cells, in part forgotten. -/
theorem MemR.weak {E : Env} {m : Mm} {w : World} (hm : MemR E m w) {q : Nat} {cs cs' : List V} {t : TypeId} (ho : m.obj q = some (.box cs t)) (hl : cs'.length = cs.length) (hv : ∀ l, VRs E cs l → VRs E cs' l) : MemR E (m.put q (.box cs' t)) w where
  stable := hm.stable
  fresh := fun i hi => by
    obtain ⟨h1, h2, h3⟩ := hm.fresh i hi
    refine ⟨h1, h2, ?_⟩
    rw [put_other _ _ (fun e => by subst e; rw [ho] at h3; cases h3)]; exact h3
  box := fun i a s h => by
    by_cases e : i = q
    · subst e
      rw [put_same] at h
      injection h with h; injection h with h1 h2
      subst h1; subst h2
      obtain ⟨b, c, k1, k2, k3, k4⟩ := hm.box i _ _ ho
      exact ⟨b, c, k1, k2, by rw [hl]; exact hv _ k3, k4⟩
    · rw [put_other _ _ e] at h; exact hm.box i a s h
  row := fun i n e z h => by
    by_cases he : i = q
    · subst he; rw [put_same] at h; cases h
    · rw [put_other _ _ he] at h; exact hm.row i n e z h
  inj := fun i j b h1 h2 => hm.inj i j b ((blk_put ho).1 h1) ((blk_put ho).1 h2)
  siz := fun i a s z A k b c h => by
    by_cases e : i = q
    · subst e
      rw [put_same] at h
      injection h with h; injection h with h1 h2
      subst h2
      exact hm.siz i _ _ z A k b c ho
    · rw [put_other _ _ e] at h; exact hm.siz i a s z A k b c h
theorem SFn.weak {P : Program} {G : Ground} {f : FuncId} {vs : List V} {m : Mm} {Post : V → Mm → Prop} {q : Nat} {cs cs' : List V} {t : TypeId} (ho : m.obj q = some (.box cs t)) (hl : cs'.length = cs.length) (hv : ∀ E l, VRs E cs l → VRs E cs' l)
    (h : SFn P G f vs (m.put q (.box cs' t)) Post) : SFn P G f vs m Post := by
  intro E w cargs hG hm hargs
  refine (h E w cargs hG (hm.weak ho hl (hv E)) hargs).mono ?_
  rintro e w' ⟨v, r, m', E', he, hP, hs, hm', hr⟩
  refine ⟨v, r, m', E', he, hP, ⟨hs.le, hs.next, hs.oldφ, fun i hi hx h0 => ?_, hs.os, hs.tape, hs.output, hs.size, fun b hb hk => hs.kept b hb fun i hh => hk i ((blk_put ho).1 hh), fun i b h1 h2 => ?_, fun b o v h1 => ?_⟩, hm', hr⟩
  · exact hs.oldloc i hi hx (by rw [put_other _ _ (fun e => by subst e; rw [ho] at h0; cases h0)]; exact h0)
  · obtain ⟨j, hj⟩ := hs.blk i b h1 h2
    exact ⟨j, (blk_put ho).1 hj⟩
  · rcases hs.newM b o v h1 with h2 | h2 | ⟨i, h2⟩
    · exact .inl h2
    · exact .inr (.inl h2)
    · exact .inr (.inr ⟨i, (blk_put ho).1 h2⟩)
theorem vr_fgt {E : Env} {v : V} {c : Value} (h : VR E v c) : VR E (fgt v) c := by
  cases v <;> try exact h
  rename_i n xs k
  obtain ⟨A, cap, h1, h2, _, h3⟩ := h
  exact ⟨A, cap, h1, h2, trivial, h3⟩
theorem vrs_fgt {E : Env} : ∀ {L : List V} {l : List Value}, VRs E L l → VRs E (L.map fgt) l
  | [], _, h => h
  | _ :: _, _, h => by
    obtain ⟨c, cs, h1, h2, h3⟩ := h
    exact ⟨c, cs, h1, vr_fgt h2, vrs_fgt h3⟩

theorem net_vw {h : Hand} {l : List Chord} {Gs : List (List Grip)} (gl : Gs.length = l.length) {b gq oq rq : Nat} {rows : List V} {M : Mm} {S : Nat → Bool} (hm : NetM h l Gs b gq oq rq rows M) (hS : (S b = true ∧ S gq = true) ∧ S oq = true ∧ S rq = true)
    (hlen : rows.length = l.length) (hd : ∀ y, y < l.length → ∃ tok, rows[y]? = some (.sl (rsT h l Gs y).length ((rsT h l Gs y).map vint) tok)) : Vw M S (.ptr b 0) (netE h l Gs) := by
  have he : rows.map fgt = (rsA h l Gs).map tIs := by
    apply List.ext_getElem?
    intro y
    rw [List.getElem?_map]
    by_cases hy : y < l.length
    · obtain ⟨tok, h9⟩ := hd y hy
      rw [h9, iss_at (by rw [rsA_len]; exact hy), rsA_at hy]; rfl
    · rw [List.getElem?_eq_none (by omega), List.getElem?_eq_none (by rw [List.length_map, rsA_len]; omega)]; rfl
  have hrs : tIss (rsA h l Gs) = .sl l.length (rows.map fgt) .no := by rw [tIss, he, rsA_len]
  rw [netE, hrs]
  refine .ptr hS.1.1 hm.b ?_ rfl
  have hg : Vw M S (.gsl gq l.length 1) (tGss Gs) := by
    rw [tGss, gl]
    exact .gsl hS.1.2 hm.g (by have := vws_rows (m := M) (S := S) (rows_tGs Gs); rwa [fgt_tGs] at this) (by have := fgt_one (rows_tGs Gs); rwa [fgt_tGs] at this)
  have ho : Vw M S (.gsl oq l.length 1) (tIss (owA h l Gs)) := by
    rw [tIss, owA_len]
    exact .gsl hS.2.1 hm.o (by have := vws_rows (m := M) (S := S) (rows_tIs (owA h l Gs)); rwa [fgt_tIs] at this) (by have := fgt_one (rows_tIs (owA h l Gs)); rwa [fgt_tIs] at this)
  have hr : Vw M S (.bsl rq 0 l.length l.length) (.sl l.length (rows.map fgt) .no) := .bsl hS.2.2 hm.r (vws_rows hm.rows) (fgt_one hm.rows)
  exact .cons (.sl _ _ _) (.cons (.sl _ _ _) (.cons (.sl _ _ _) (.cons (.lit _) (.cons (.lit _) (.cons (.lit _) (.cons (.lit _) (.cons (.lit _) (.cons (.lit _) (.cons (.lit _) (.cons (.sl _ _ _) (.cons hg (.cons ho (.cons hr .nil)))))))))))))

/-- What only leaves. -/
def OnPost (h : Hand) (l : List Chord) (Gs : List (List Grip)) (m : Mm) (b gq oq : Nat) (r : V) (m' : Mm) : Prop :=
  r = .tup [] ∧ m.next ≤ m'.next ∧ (∀ q, q < m.next → q ≠ b → q ≠ gq → q ≠ oq → m'.obj q = m.obj q) ∧ ∃ rq rows, m.next ≤ rq ∧ rq < m'.next ∧ NetM h l Gs b gq oq rq rows m' ∧ rows.length = l.length ∧ ∀ y, y < l.length → ∃ tok, rows[y]? = some (.sl (rsT h l Gs y).length ((rsT h l Gs y).map vint) tok)
/-- One grip in a chord's place. -/
theorem net_set {h : Hand} {l : List Chord} {Gs : List (List Grip)} (hn : NetOk h l Gs) {i : Nat} (hi : i < l.length) {g : Grip} (hg : FitG h (l.getD i noC) g) : NetOk h l (Gs.set i [g]) := by
  have gl := hn.gl
  have e : ∀ y, (Gs.set i [g]).getD y [] = if i = y then [g] else Gs.getD y [] := fun y => by
    rw [List.getD_eq_getElem?_getD, List.getElem?_set]
    by_cases hy : i = y
    · subst hy; rw [if_pos rfl, if_pos (by omega), if_pos rfl]; rfl
    · rw [if_neg hy, if_neg hy, List.getD_eq_getElem?_getD]
  refine ⟨hn.hk, hn.fits, hn.seq, hn.len, by rw [List.length_set]; exact gl, fun y hy x hx => ?_, fun y => ?_⟩
  · rw [e] at hx
    split at hx
    · rename_i e1; subst e1; rw [List.mem_singleton] at hx; subst hx; exact hg
    · exact hn.fit y hy x hx
  · rw [e]; split
    · simp
    · exact hn.cnt y
theorem set_getD {Gs : List (List Grip)} {i y : Nat} {g : Grip} (hi : i < Gs.length) : (Gs.set i [g]).getD y [] = if i = y then [g] else Gs.getD y [] := by
  rw [List.getD_eq_getElem?_getD, List.getElem?_set]
  by_cases hy : i = y
  · subst hy; rw [if_pos rfl, if_pos hi, if_pos rfl]; rfl
  · rw [if_neg hy, if_neg hy, List.getD_eq_getElem?_getD]
theorem set_tGs (Gs : List (List Grip)) (i : Nat) (g : Grip) : ((Gs.map tGs).set i (.sl 1 [vint g.pos, tIs g.fingers] .exact)).map fgt = (Gs.set i [g]).map tGs := by
  rw [List.map_set, List.map_set, fgt_tGs]; rfl
theorem set_owA {h : Hand} {l : List Chord} {Gs : List (List Grip)} (gl : Gs.length = l.length) {i : Nat} (hi : i < l.length) (g : Grip) : ((owA h l Gs).map tIs |>.set i (.sl 1 [vint (ownC h (l.getD i noC) g)] .exact)).map fgt = (owA h l (Gs.set i [g])).map tIs := by
  rw [List.map_set, fgt_tIs]
  apply List.ext_getElem?
  intro y
  rw [List.getElem?_set]
  by_cases hy : y < l.length
  · rw [iss_at (l := owA h l (Gs.set i [g])) (by rw [owA_len]; exact hy), owA_at hy, owR, set_getD (by omega)]
    by_cases e : i = y
    · subst e
      rw [if_pos rfl, if_pos (by rw [List.length_map, owA_len]; exact hy), if_pos rfl]; rfl
    · rw [if_neg e, if_neg e, iss_at (by rw [owA_len]; exact hy), owA_at hy]; rfl
  · rw [List.getElem?_eq_none (l := (owA h l (Gs.set i [g])).map tIs) (by rw [List.length_map, owA_len]; omega), if_neg (by omega), List.getElem?_eq_none (by rw [List.length_map, owA_len]; omega)]

theorem set_on {h : Hand} {l : List Chord} {Gs : List (List Grip)} {M : Mm} {b gq oq : Nat} (bg : b ≠ gq) (bo : b ≠ oq) (go : gq ≠ oq) (ng : gq < M.next) (no : oq < M.next) {r : V} {m' : Mm}
    (hP : SetPost h l Gs ((M.put gq (.box (Gs.map tGs) 38)).put oq (.box ((owA h l Gs).map tIs) 22)) b (.gsl gq l.length 1) (.gsl oq l.length 1) r m') : OnPost h l Gs M b gq oq r m' := by
  obtain ⟨p1, p2, p3, rq, rows, p4, p5, p6, p7, p8, p9⟩ := hP
  have p2' : M.next ≤ m'.next := p2
  have p4' : M.next ≤ rq := p4
  refine ⟨p1, p2', fun q hq h1 h2 h3 => ((p3 q hq h1).trans (put_other _ _ h3)).trans (put_other _ _ h2), rq, rows, p4', p5, ⟨p6, ?_, ?_, p7, fun v hv => ?_⟩, p8, p9⟩
  · exact ((p3 gq ng (fun e => bg e.symm)).trans (put_other _ _ go)).trans (put_same _ _ _)
  · exact (p3 oq no (fun e => bo e.symm)).trans (put_same _ _ _)
  · obtain ⟨y, hy, e⟩ := List.mem_iff_getElem.1 hv
    obtain ⟨tok, h9⟩ := p9 y (by omega)
    rw [List.getElem?_eq_getElem hy] at h9
    exact ⟨_, _, _, by rw [← e]; injection h9⟩
theorem onPost_ex (h : Hand) (l : List Chord) (Gs : List (List Grip)) {M : Mm} {b gq oq : Nat} (bg : b ≠ gq) (bo : b ≠ oq) (go : gq ≠ oq) (nb : b < M.next) (ng : gq < M.next) (no : oq < M.next) : ∃ r m', OnPost h l Gs M b gq oq r m' := by
  obtain ⟨r, m', hP⟩ := SetPost.some h l Gs ((M.put gq (.box (Gs.map tGs) 38)).put oq (.box ((owA h l Gs).map tIs) 22)) (b := b) nb (.gsl gq l.length 1) (.gsl oq l.length 1)
  exact ⟨r, m', set_on bg bo go ng no hP⟩
theorem settle_weak {h : Hand} {l : List Chord} {Gs : List (List Grip)} (hn : NetOk h l Gs) {M : Mm} {b gq oq : Nat} {rv : V} {A B : List V} (bg : b ≠ gq) (bo : b ≠ oq) (go : gq ≠ oq) (nb : b < M.next) (ng : gq < M.next) (no : oq < M.next)
    (h1 : M.obj b = some (.box (netC h l (.gsl gq l.length 1) (.gsl oq l.length 1) rv) 123)) (h2 : M.obj gq = some (.box A 38)) (h3 : M.obj oq = some (.box B 22)) (eA : A.map fgt = Gs.map tGs) (eB : B.map fgt = (owA h l Gs).map tIs) :
    SFn Try.prog Gd 103 [.ptr b 0] M (OnPost h l Gs M b gq oq) := by
  refine SFn.weak h2 (cs' := Gs.map tGs) (by rw [← eA, List.length_map]) (fun E l hl => by rw [← eA]; exact vrs_fgt hl) ?_
  refine SFn.weak (q := oq) (cs := B) (t := 22) (cs' := (owA h l Gs).map tIs) ((put_other _ _ (fun e => go e.symm)).trans h3) (by rw [← eB, List.length_map]) (fun E l hl => by rw [← eB]; exact vrs_fgt hl) ?_
  refine (settle_sfn hn _ (gq := gq) (oq := oq) (gv := .gsl gq l.length 1) (ov := .gsl oq l.length 1) (rv := rv) ((put_other _ _ bo).trans ((put_other _ _ bg).trans h1)) nb fun _ => ⟨⟨rfl, rfl⟩, ⟨(put_other _ _ go).trans (put_same _ _ _), put_same _ _ _⟩, ⟨fun e => bg e.symm, fun e => bo e.symm⟩, ng, no⟩).mono fun r m' hP => set_on bg bo go ng no hP

set_option maxHeartbeats 4000000 in
theorem only_sfn {h : Hand} {l : List Chord} {Gs : List (List Grip)} (hn : NetOk h l Gs) {i : Nat} (hi : i < l.length) {g : Grip} (hg : FitG h (l.getD i noC) g) (m : Mm) {b gq oq : Nat} {rv : V}
    (hb : m.obj b = some (.box (netC h l (.gsl gq l.length 1) (.gsl oq l.length 1) rv) 123)) (hgo : m.obj gq = some (.box (Gs.map tGs) 38)) (hoo : m.obj oq = some (.box ((owA h l Gs).map tIs) 22)) (nb : b < m.next) (ng : gq < m.next) (no : oq < m.next) :
    SFn Try.prog Gd 79 [.ptr b 0, vint i, g.val] m (OnPost h l (Gs.set i [g]) m b gq oq) := by
  refine SFn.of_vxS k_hand_net_only (by simp) ?_
  have hn' := net_set hn hi hg
  have h4 := hn.len
  have gl := hn.gl
  have bg : ¬ b = gq := ne_type hb hgo (by decide)
  have bo : ¬ b = oq := ne_type hb hoo (by decide)
  have go : ¬ gq = oq := ne_type hgo hoo (by decide)
  have gb : ¬ gq = b := fun e => bg e.symm
  have ob : ¬ oq = b := fun e => bo e.symm
  have og : ¬ oq = gq := fun e => go e.symm
  have x1 : ¬ b = m.next := by omega
  have x2 : ¬ gq = m.next := by omega
  have x3 : ¬ oq = m.next := by omega
  have x5 : ¬ m.next = b := by omega
  have x6 : ¬ m.next = gq := by omega
  have x7 : ¬ m.next = oq := by omega
  have hfl := hg.len
  have hps : 1 ≤ g.pos ∧ g.pos ≤ 18 := by have := hn.hk.top; have := hg.pos; omega
  have C1 := own_fn h hn.hk (l.getD i noC) (hn.seq i hi).1 (hn.fits.at i) g hfl hps
  have c1 : (i : Int) < (l.length : Int) := by omega
  have c2 : i * 3 + 3 ≤ l.length * 3 := by omega
  have c3 : i + 1 ≤ l.length := hi
  have g1 := chs_take hi
  have g2 := chs_len l
  have g3 : (Gs.map tGs).length = l.length := by rw [List.length_map]; exact gl
  have g4 : ((owA h l Gs).map tIs).length = l.length := by rw [List.length_map, owA_len]
  have x4 : m.next < m.next + 1 := by omega
  have nb' : b < m.next + 1 := by omega
  have ng' : gq < m.next + 1 := by omega
  have no' : oq < m.next + 1 := by omega
  replace hfl := Hid.mk hfl
  have hb0 := Hid.mk hb
  have e1 := set_tGs Gs i g
  have e2 := set_owA (h := h) gl hi g
  replace e1 := Hid.mk e1
  replace e2 := Hid.mk e2
  replace hn := Hid.mk hn
  replace hn' := Hid.mk hn'
  replace hg := Hid.mk hg
  replace gl := Hid.mk gl
  unfold netC tCs at hb
  unfold Hand.val Chord.val Chord.cells Grip.val Grip.cells at C1
  unfold Grip.val Grip.cells
  unfold c_hand_net_only
  clear hi
  repeat' (with_reducible first | refine x_ops ?_ | refine wk ?_ | (with_reducible refine xc (C1) ?_) | ((first | refine gd1 ?_ ?_ | refine gd2 ?_ ?_ | refine gd3 ?_ ?_) <;> (first | exact @False.elim _ | intro hc)))
  refine x_scallR [.ptr b 0] vw (settle_weak (A := (Gs.map tGs).set i (.sl 1 [vint g.pos, tIs g.fingers] .exact)) (B := ((owA h l Gs).map tIs).set i (.sl 1 [vint (ownC h (l.getD i noC) g)] .exact)) hn'.out bg bo go nb' ng' no' (rv := rv)
    ((put_other _ _ bo).trans ((put_other _ _ bg).trans ((put_other _ _ x1).trans hb0.out))) ?_ ?_ e1.out e2.out) (onPost_ex h l (Gs.set i [g]) bg bo go nb' ng' no') ?_
  · refine (put_other _ _ go).trans ((put_same _ _ _).trans ?_)
    rw [set_eq (by omega), List.append_assoc]; rfl
  · refine (put_same _ _ _).trans ?_
    rw [set_eq (by omega), List.append_assoc]; rfl
  rintro r m' ⟨rfl, p2, p3, p4⟩
  have p2' : m.next + 1 ≤ m'.next := p2
  repeat' (with_reducible first | refine x_ops ?_ | refine wk ?_ | ((first | refine gd1 ?_ ?_ | refine gd2 ?_ ?_ | refine gd3 ?_ ?_) <;> (first | exact @False.elim _ | intro hc)))
  refine ⟨.inl rfl, _, vv, rfl, (by show m.next ≤ m'.next; omega), fun q hq h1 h2 h3 => ?_, ?_⟩
  · exact (p3 q (by show q < m.next + 1; omega) h1 h2 h3).trans ((put_other _ _ h3).trans ((put_other _ _ h2).trans (put_other _ _ (by omega))))
  · obtain ⟨rq, rows, q1, q2, q3, q4, q5⟩ := p4
    exact ⟨rq, rows, Nat.le_trans (Nat.le_succ _) q1, q2, q3, q4, q5⟩
end Go.Proofs.Ytojjdkoglhecbaa
namespace Go.Proofs.Ytojjdkoglhecbaa
open Go.RowKit

theorem wvPost_ex (h : Hand) (l : List Chord) (m : Mm) : ∃ r m', WvPost h l m r m' := by
  by_cases hw : wvE h l = 0
  case neg => exact ⟨_, m, Nat.le_refl _, fun _ _ => rfl, .inr ⟨hw, rfl⟩⟩
  by_cases h0 : l.length = 0
  · let M : Mm := ((⟨m.obj, m.next + 2⟩ : Mm).put m.next (.box (netC h l (.sl 0 [] .exact) (.sl 0 [] .exact) (.bsl (m.next + 1) 0 l.length l.length)) 123)).put (m.next + 1) (.box [] 22)
    refine ⟨_, M, by show m.next ≤ m.next + 2; omega, fun q hq => (put_other _ _ (by omega)).trans (put_other _ _ (by omega)), .inl ⟨hw, m.next, rfl, 0, 0, m.next + 1, [], .sl 0 [] .exact, .sl 0 [] .exact, ⟨Nat.le_refl _, by show m.next < m.next + 2; omega⟩, ?_, ⟨by omega, by show m.next + 1 < m.next + 2; omega⟩, put_same _ _ _, by simp [h0], fun y hy => by omega, fun _ => ⟨rfl, rfl⟩, fun hp => by omega⟩⟩
    exact (put_other _ _ (by omega)).trans (put_same _ _ _)
  · let M : Mm := ((((⟨m.obj, m.next + 4⟩ : Mm).put m.next (.box (netC h l (.gsl (m.next + 1) l.length 1) (.gsl (m.next + 2) l.length 1) (.bsl (m.next + 3) 0 l.length l.length)) 123)).put (m.next + 1) (.box ((tabG h l).map tGs) 38)).put (m.next + 2)
      (.box ((owA h l (tabG h l)).map tIs) 22)).put (m.next + 3) (.box ((rsA h l (tabG h l)).map tIs) 22)
    refine ⟨_, M, by show m.next ≤ m.next + 4; omega, fun q hq => (put_other _ _ (by omega)).trans ((put_other _ _ (by omega)).trans ((put_other _ _ (by omega)).trans (put_other _ _ (by omega)))), .inl ⟨hw, m.next, rfl, m.next + 1, m.next + 2, m.next + 3, _, .gsl (m.next + 1) l.length 1, .gsl (m.next + 2) l.length 1,
      ⟨Nat.le_refl _, by show m.next < m.next + 4; omega⟩, ?_, ⟨by omega, by show m.next + 3 < m.next + 4; omega⟩, put_same _ _ _, by rw [List.length_map, rsA_len], fun y hy => ⟨.no, by rw [iss_at (by rw [rsA_len]; exact hy), rsA_at hy]; rfl⟩, fun e => absurd e h0, fun _ => ⟨⟨rfl, rfl⟩, ⟨?_, ?_⟩, ⟨by omega, by omega⟩, ⟨by omega, by omega⟩, ?_, ?_⟩⟩⟩
    · exact (put_other _ _ (by omega)).trans ((put_other _ _ (by omega)).trans ((put_other _ _ (by omega)).trans (put_same _ _ _)))
    · exact (put_other _ _ (by omega)).trans ((put_other _ _ (by omega)).trans (put_same _ _ _))
    · exact (put_other _ _ (by omega)).trans (put_same _ _ _)
    · show m.next + 1 < m.next + 4; omega
    · show m.next + 2 < m.next + 4; omega

/-- What Through answers. -/
noncomputable def thrR (h : Hand) (l : List Chord) (i : Int) (g : Grip) : List Grip × Int × Int :=
  if wvE h l = 0 then (if (decide (0 ≤ i) && decide (i ≤ (l.length : Int) - 1)) = true then (if fitB h (l.getD i.toNat noC) g = true then fstR h l ((tabG h l).set i.toNat [g]) else ([], 0, 61)) else ([], 0, 1)) else ([], 0, wvE h l)

set_option maxHeartbeats 4000000 in
theorem Through_fn (h : Hand) (l : List Chord) (hl : Fits l) (i : Int) (g : Grip) (hg : g.fingers.length ≤ 17592186044416) : Fn Try.prog Gd 41 [h.val, tCs l, vint i, g.val] (fstV (thrR h l i g)) := by
  refine Fn.of_vx0 k_hand_Through (by simp) (by rw [V.pures, pure_hand, V.pures, pure_tCs, V.pures, V.pures, pure_grip]; rfl) ?_
  have C1 := fun m => weave_sfn h l hl m
  have C2 := fun m => wvPost_ex h l m
  have W1 := within_fn i 0 ((l.length : Int) - 1)
  have hl0 := hl.1
  have w1 := w_in (a := (l.length : Int) - 1) (by omega)
  have hnet := fun hw => wv_net (h := h) hl hw
  unfold c_hand_Through
  unfold Hand.val tCs Grip.val Grip.cells at *
  replace hnet := Hid.mk hnet
  repeat' (with_reducible first | refine x_ops ?_ | refine wk ?_ | (with_reducible refine xc (W1) ?_) | ((first | refine gd1 ?_ ?_ | refine gd2 ?_ ?_ | refine gd3 ?_ ?_) <;> (first | exact @False.elim _ | intro hc)))
  refine x_scallR [.agg [tIs h.low, tIs h.high, tBs h.barre, vint h.top, vint h.jump, vint h.shift, vint h.lift, vint h.bar, vint h.stretch, vint h.slide], .sl l.length (l.flatMap Chord.cells) .no] vw (C1 _) (C2 _) ?_
  rintro r M ⟨p1, p2, p3⟩
  have p1' : 4 ≤ M.next := p1
  have o0 : M.obj 0 = some (.box [tIs h.low, tIs h.high, tBs h.barre, vint h.top, vint h.jump, vint h.shift, vint h.lift, vint h.bar, vint h.stretch, vint h.slide] 25) := (p2 0 (by show 0 < 4; decide)).trans (by (dsimp only; exact (put_other _ _ (by decide)).trans ((put_other _ _ (by decide)).trans (put_same _ _ _))))
  have o1 : M.obj 1 = some (.box [vint g.pos, tIs g.fingers] 53) := (p2 1 (by show 1 < 4; decide)).trans (by (dsimp only; exact (put_other _ _ (by decide)).trans (put_same _ _ _)))
  have o2 : M.obj 2 = some (.box [.sl 0 [] .exact, vint 0] 40) := (p2 2 (by show 2 < 4; decide)).trans (by (dsimp only; exact put_same _ _ _))
  clear C1 C2 p2
  rcases p3 with ⟨hw, b, rfl, hN⟩ | ⟨hw, rfl⟩
  case inr =>
    have e1 : (wvE h l == 0) = false := by rw [beq_eq_false_iff_ne]; exact hw
    have ht : thrR h l i g = ([], 0, wvE h l) := by rw [thrR, if_neg hw]
    rw [ht]
    unfold fstV tGs
    clear hw ht
    repeat' (with_reducible first | refine x_ops ?_ | refine wk ?_ | ((first | refine gd1 ?_ ?_ | refine gd2 ?_ ?_ | refine gd3 ?_ ?_) <;> (first | exact @False.elim _ | intro hc)))
    exact finV_ret vv (.tup (.cons (.agg (.cons (.sl _ _ _) (.cons (.lit _) .nil))) (.cons (.lit _) .nil)))
  have hn := hnet.out hw
  have e0 : thrR h l i g = (if (decide (0 ≤ i) && decide (i ≤ (l.length : Int) - 1)) = true then (if fitB h (l.getD i.toNat noC) g = true then fstR h l ((tabG h l).set i.toNat [g]) else ([], 0, 61)) else ([], 0, 1)) := by rw [thrR, if_pos hw]
  by_cases hi : (decide (0 ≤ i) && decide (i ≤ (l.length : Int) - 1)) = true
  case neg =>
    rw [if_neg hi] at e0
    rw [e0]
    have hi' : (decide (0 ≤ i) && decide (i ≤ (l.length : Int) - 1)) = false := by simpa using hi
    rw [hi'] at W1
    unfold fstV tGs
    clear hw e0 hi hi' hn hN hnet
    repeat' (with_reducible first | refine x_ops ?_ | refine wk ?_ | (with_reducible refine xc (W1) ?_) | ((first | refine gd1 ?_ ?_ | refine gd2 ?_ ?_ | refine gd3 ?_ ?_) <;> (first | exact @False.elim _ | intro hc)))
    exact finV_ret vv (.tup (.cons (.agg (.cons (.sl _ _ _) (.cons (.lit _) .nil))) (.cons (.lit _) .nil)))
  rw [if_pos hi] at e0
  rw [hi] at W1
  obtain ⟨k, rfl⟩ : ∃ k : Nat, i = (k : Int) := by
    rw [Bool.and_eq_true, decide_eq_true_eq, decide_eq_true_eq] at hi
    exact ⟨i.toNat, by omega⟩
  have hk : k < l.length := by
    rw [Bool.and_eq_true, decide_eq_true_eq, decide_eq_true_eq] at hi
    omega
  rw [Int.toNat_natCast] at e0
  have C3 := fits_fn h hn.hk (l.getD k noC) (hn.fits.at k) g hg
  unfold Hand.val Chord.val Chord.cells Grip.val Grip.cells at C3
  have c1 : (k : Int) < (l.length : Int) := by omega
  have c2 : k * 3 + 3 ≤ l.length * 3 := by omega
  have g1 := chs_take hk
  have g2 := chs_len l
  have z0 : 0 < M.next := by omega
  have z1 : 1 < M.next := by omega
  have z2 : 2 < M.next := by omega
  by_cases hf : FitG h (l.getD k noC) g
  case neg =>
    have hb : fitB h (l.getD k noC) g = false := by
      cases hx : fitB h (l.getD k noC) g
      · rfl
      · exact absurd (fit_true.1 hx) hf
    rw [hb] at C3 e0
    rw [if_neg (by decide)] at e0
    rw [e0]
    unfold fstV tGs
    clear hw e0 hi hn hN hnet hf hb
    repeat' (with_reducible first | refine x_ops ?_ | refine wk ?_ | (with_reducible refine xc (W1) ?_) | (with_reducible refine xc (C3) ?_) | ((first | refine gd1 ?_ ?_ | refine gd2 ?_ ?_ | refine gd3 ?_ ?_) <;> (first | exact @False.elim _ | intro hc)))
    exact finV_ret vv (.tup (.cons (.agg (.cons (.sl _ _ _) (.cons (.lit _) .nil))) (.cons (.lit _) .nil)))
  rw [fit_true.2 hf] at C3 e0
  rw [if_pos rfl] at e0
  rw [e0]
  replace hN := Hid.mk hN
  replace hn := Hid.mk hn
  replace hf := Hid.mk hf
  clear hw e0 hi hnet
  repeat' (with_reducible first | refine x_ops ?_ | refine wk ?_ | (with_reducible refine xc (W1) ?_) | (with_reducible refine xc (C3) ?_) | ((first | refine gd1 ?_ ?_ | refine gd2 ?_ ?_ | refine gd3 ?_ ?_) <;> (first | exact @False.elim _ | intro hc)))
  obtain ⟨gq, oq, rq, rows, gv, ov, ⟨nb0, nb1⟩, hb, _, _, _, _, _, hpos⟩ := hN.out
  obtain ⟨⟨rfl, rfl⟩, ⟨hgo, hoo⟩, _, ⟨ng0, no0⟩, ng1, no1⟩ := hpos (by omega)
  have nb2 : 4 ≤ b := nb0
  have ng2 : 4 ≤ gq := ng0
  have no2 : 4 ≤ oq := no0
  have bg : b ≠ gq := ne_type hb hgo (by decide)
  have bo : b ≠ oq := ne_type hb hoo (by decide)
  have go : gq ≠ oq := ne_type hgo hoo (by decide)
  refine x_scallR [.ptr b 0, vint k, .agg [vint g.pos, tIs g.fingers]] vw (only_sfn hn.out hk hf.out _ hb hgo hoo nb1 ng1 no1) (onPost_ex h l ((tabG h l).set k [g]) bg bo go nb1 ng1 no1) ?_
  rintro r m' ⟨rfl, p2, p3, rq', rows', q1, q2, q3, q4, q5⟩
  have u2 : m'.obj 2 = some (.box [.sl 0 [] .exact, vint 0] 40) := (p3 2 z2 (by omega) (by omega) (by omega)).trans o2
  have q1' : 4 ≤ rq' := Nat.le_trans p1' q1
  have n2 : 4 ≤ m'.next := Nat.le_trans p1' p2
  have hn2 := net_set hn.out hk hf.out
  replace q3 := Hid.mk q3
  replace q5 := Hid.mk q5
  replace hn2 := Hid.mk hn2
  clear hb hgo hoo hpos hN p2 p3 o0 o1 o2 C3 W1 g1 g2 c2 nb0 ng0 no0 nb1 ng1 no1 q1 z0 z1 z2 p1'
  repeat' (with_reducible first | refine x_ops ?_ | refine wk ?_ | ((first | refine gd1 ?_ ?_ | refine gd2 ?_ ?_ | refine gd3 ?_ ?_) <;> (first | exact @False.elim _ | intro hc)))
  have CF := first_fn hn2.out
  have f2 : (m'.freeze fun q => decide (4 ≤ q)).obj 2 = some (.box [.sl 0 [] .exact, vint 0] 40) := by show (if decide (4 ≤ 2) = true then none else m'.obj 2) = _; rw [if_neg (by decide)]; exact u2
  have f3 : (m'.freeze fun q => decide (4 ≤ q)).next = m'.next := rfl
  refine x_cutR [.ptr b 0] vw (us := [netE h l ((tabG h l).set k [g])]) (fun q => decide (4 ≤ q)) CF (.cons (net_vw hn2.out.gl q3.out ⟨⟨by simp [nb2], by simp [ng2]⟩, by simp [no2], by simp [q1']⟩ q4 q5.out) .nil) ?_
  change goR Try.prog Gd m'.next (some ⟨_, m'.freeze fun q => decide (4 ≤ q)⟩) _ _ _
  generalize (m'.freeze fun q => decide (4 ≤ q)) = M5 at *
  generalize fstR h l ((tabG h l).set k [g]) = r at *
  obtain ⟨G, c, e⟩ := r
  have z5 : 2 < M5.next := by omega
  unfold fstV tGs
  clear CF
  repeat' (with_reducible first | refine x_ops ?_ | refine wk ?_ | ((first | refine gd1 ?_ ?_ | refine gd2 ?_ ?_ | refine gd3 ?_ ?_) <;> (first | exact @False.elim _ | intro hc)))
  exact finV_ret vv (.tup (.cons (.agg (.cons (.sl _ _ _) (.cons (.lit _) .nil))) (.cons (.lit _) .nil)))
end Go.Proofs.Ytojjdkoglhecbaa
namespace Go.Proofs.Ytojjdkoglhecbaa
open Go.RowKit

section
variable {h : Hand} {l : List Chord} {Gs : List (List Grip)}
theorem rsE_set {i y : Nat} {g : Grip} (hy : i ≠ y + 1) (N : List Int) (x : Grip) : rsE h l (Gs.set i [g]) y N x = rsE h l Gs y N x := by
  have e : (Gs.set i [g]).getD (y + 1) [] = Gs.getD (y + 1) [] := by rw [List.getD_eq_getElem?_getD, List.getElem?_set, if_neg hy, List.getD_eq_getElem?_getD]
  rw [rsE, rsE, e]
theorem rsT_after {i : Nat} {g : Grip} : ∀ (j y : Nat), l.length - y = j → i < y → rsT h l (Gs.set i [g]) y = rsT h l Gs y
  | 0, y, hj, _ => by rw [rsT, rsT, show l.length - y = 0 by omega]; rfl
  | j + 1, y, hj, hy => by
    have e : (Gs.set i [g]).getD y [] = Gs.getD y [] := by rw [List.getD_eq_getElem?_getD, List.getElem?_set, if_neg (by omega), List.getD_eq_getElem?_getD]
    rw [rsT_eq (by omega), rsT_eq (Gs := Gs) (by omega), rsT_after j (y + 1) (by omega) (by omega), e]
    exact List.map_congr_left fun x _ => rsE_set (by omega) _ _
theorem lst_set (gl : Gs.length = l.length) {i q : Nat} (hi : i < l.length) (hq : q < (Gs.getD i []).length) : lst h l (Gs.set i [grp Gs i q]) i 0 = lst h l Gs i q := by
  have e : (Gs.set i [grp Gs i q]).getD i [] = [grp Gs i q] := by rw [set_getD (by omega), if_pos rfl]
  rw [lst, rsT_at hi (by rw [e]; exact Nat.zero_lt_succ 0), e, rsT_after _ (i + 1) rfl (by omega), rsE_set (by omega), lst, rsT_at hi hq]; rfl
theorem grp_set (gl : Gs.length = l.length) {i q y k : Nat} (hi : i < l.length) : grp (Gs.set i [grp Gs i q]) y k = if i = y then [grp Gs i q].getD k noG else grp Gs y k := by
  rw [grp, set_getD (by omega)]
  split
  · rfl
  · rfl
/-- The best fingering goes through some grip, and is the best one through it. -/
theorem thr_le (hn : NetOk h l Gs) {i : Nat} (hi : i < l.length) : ∀ (d j : Nat), i - j = d → j ≤ i → ∀ k, k < (Gs.getD j []).length → ¬ lst h l Gs j k = -1 →
    ∃ q k', q < (Gs.getD i []).length ∧ k' < ((Gs.set i [grp Gs i q]).getD j []).length ∧ grp (Gs.set i [grp Gs i q]) j k' = grp Gs j k ∧ ¬ lst h l (Gs.set i [grp Gs i q]) j k' = -1 ∧ lst h l (Gs.set i [grp Gs i q]) j k' ≤ lst h l Gs j k
  | 0, j, hd, hj => by
    intro k hk h1
    obtain rfl : j = i := by omega
    have gl := hn.gl
    have e := lst_set (h := h) gl hi hk
    refine ⟨k, 0, hk, by rw [set_getD (by omega), if_pos rfl]; exact Nat.zero_lt_succ 0, by rw [grp_set gl hi, if_pos rfl]; rfl, by rw [e]; exact h1, by rw [e]; exact Int.le_refl _⟩
  | d + 1, j, hd, hj => by
    intro k hk h1
    have gl := hn.gl
    have hj1 : j + 1 < l.length := by omega
    obtain ⟨p, p1, p2, p3, p4⟩ := lst_eq hn hj1 hk h1
    obtain ⟨q, k', q1, q2, q3, q4, q5⟩ := thr_le hn hi d (j + 1) (by omega) (by omega) p p1 p2
    have hn' := net_set hn hi (hn.at hi q1)
    have ej : (Gs.set i [grp Gs i q]).getD j [] = Gs.getD j [] := by rw [set_getD (by omega), if_neg (by omega)]
    have eg : grp (Gs.set i [grp Gs i q]) j k = grp Gs j k := by rw [grp_set gl hi, if_neg (by omega)]
    rw [← q3, ← eg] at p3
    obtain ⟨u1, u2⟩ := lst_ub (k := k) hn' hj1 (by show k < ((Gs.set i [grp Gs i q]).getD j []).length; rw [ej]; exact hk) q2 q4 p3
    have u2' : lst h l (Gs.set i [grp Gs i q]) j k ≤ ownC h (l.getD j noC) (grp (Gs.set i [grp Gs i q]) j k) + stepC h (l.getD j noC) (grp (Gs.set i [grp Gs i q]) j k) (l.getD (j + 1) noC) (grp (Gs.set i [grp Gs i q]) (j + 1) k') + lst h l (Gs.set i [grp Gs i q]) (j + 1) k' := u2
    rw [q3, eg] at u2'
    exact ⟨q, k, q1, by rw [ej]; exact hk, eg, u1, by omega⟩
/-- Through a grip: no less than the best. -/
theorem thr_ge (hn : NetOk h l Gs) {i q : Nat} (hi : i < l.length) (hq : q < (Gs.getD i []).length) (hh : HasF h l (Gs.set i [grp Gs i q])) : HasF h l Gs ∧ (rootW h l Gs).1 ≤ (rootW h l (Gs.set i [grp Gs i q])).1 := by
  have gl := hn.gl
  have hn' := net_set hn hi (hn.at hi hq)
  have hN : Nle h h l (Gs.set i [grp Gs i q]) Gs := by
    refine ⟨fun y hy k hk => ?_, fun _ _ _ _ _ _ hs => hs⟩
    rw [set_getD (by omega)] at hk
    by_cases e : i = y
    · subst e
      rw [if_pos rfl] at hk
      have hk0 : k = 0 := by simpa using hk
      subst hk0
      exact ⟨q, hq, by rw [grp_set gl hi, if_pos rfl]; rfl⟩
    · rw [if_neg e] at hk
      exact ⟨k, hk, by rw [grp_set gl hi, if_neg e]⟩
  obtain ⟨h1, h2⟩ := nle_best hn' hn hN (by omega) hh
  exact ⟨h1, h2 ⟨fun _ _ _ _ => Int.le_refl _, fun _ _ _ _ _ _ => Int.le_refl _⟩⟩

open Classical in
/-- The least cost through the first grips. -/
noncomputable def leaU (h : Hand) (l : List Chord) (Gs : List (List Grip)) (i : Nat) : Nat → Int
  | 0 => -1
  | q + 1 => if HasF h l (Gs.set i [grp Gs i q]) then (if leaU h l Gs i q < 0 ∨ (rootW h l (Gs.set i [grp Gs i q])).1 < leaU h l Gs i q then (rootW h l (Gs.set i [grp Gs i q])).1 else leaU h l Gs i q) else leaU h l Gs i q
theorem root_num (hn : NetOk h l Gs) (hl : 0 < l.length) (hh : HasF h l Gs) : 0 ≤ (rootW h l Gs).1 ∧ (rootW h l Gs).1 ≤ 203600000 := by
  obtain ⟨⟨q, q1, q2, q3⟩, _⟩ := root_min hl hh
  have h4 := hn.len
  rw [q3]
  rcases lst_num hn hl q1 with h1 | h1
  · exact absurd h1 q2
  · exact ⟨h1.1, by omega⟩
theorem lea_ok (hn : NetOk h l Gs) {i : Nat} (hi : i < l.length) : ∀ {n : Nat}, n ≤ (Gs.getD i []).length → (leaU h l Gs i n = -1 ∨ ∃ q, q < n ∧ HasF h l (Gs.set i [grp Gs i q]) ∧ leaU h l Gs i n = (rootW h l (Gs.set i [grp Gs i q])).1) ∧
    ∀ q, q < n → HasF h l (Gs.set i [grp Gs i q]) → 0 ≤ leaU h l Gs i n ∧ leaU h l Gs i n ≤ (rootW h l (Gs.set i [grp Gs i q])).1
  | 0, _ => ⟨.inl rfl, fun q hq => by omega⟩
  | n + 1, hle => by
    obtain ⟨h1, h2⟩ := lea_ok hn hi (n := n) (by omega)
    have hn' := net_set hn hi (hn.at hi (k := n) (by omega))
    rw [leaU]
    by_cases hh : HasF h l (Gs.set i [grp Gs i n])
    · have hr := root_num hn' (by omega) hh
      have hr' : 0 ≤ (rootW h l (Gs.set i [grp Gs i n])).1 := hr.1
      rw [if_pos hh]
      split
      · rename_i hc
        refine ⟨.inr ⟨n, by omega, hh, rfl⟩, fun q hq hhq => ?_⟩
        refine ⟨hr', ?_⟩
        by_cases e : q = n
        · subst e; exact Int.le_refl _
        · have := h2 q (by omega) hhq
          omega
      · rename_i hc
        refine ⟨?_, fun q hq hhq => ?_⟩
        · rcases h1 with h1 | ⟨q, q1, q2, q3⟩
          · exact absurd (.inl (by omega)) hc
          · exact .inr ⟨q, by omega, q2, q3⟩
        · have c1 : ¬ leaU h l Gs i n < 0 := fun x => hc (.inl x)
          have c2 : ¬ (rootW h l (Gs.set i [grp Gs i n])).1 < leaU h l Gs i n := fun x => hc (.inr x)
          by_cases e : q = n
          · subst e; exact ⟨by omega, by omega⟩
          · exact h2 q (by omega) hhq
    · rw [if_neg hh]
      refine ⟨?_, fun q hq hhq => ?_⟩
      · rcases h1 with h1 | ⟨q, q1, q2, q3⟩
        · exact .inl h1
        · exact .inr ⟨q, by omega, q2, q3⟩
      · by_cases e : q = n
        · subst e; exact absurd hhq hh
        · exact h2 q (by omega) hhq
/-- The least of all is the best. -/
theorem lea_best (hn : NetOk h l Gs) {i : Nat} (hi : i < l.length) (hh : HasF h l Gs) : leaU h l Gs i (Gs.getD i []).length = (rootW h l Gs).1 := by
  have hl : 0 < l.length := by omega
  obtain ⟨⟨k, k1, k2, k3⟩, _⟩ := root_min hl hh
  obtain ⟨q, k', q1, q2, q3, q4, q5⟩ := thr_le hn hi _ 0 rfl (by omega) k k1 k2
  have hq : HasF h l (Gs.set i [grp Gs i q]) := (has_iff hl).2 ⟨k', q2, q4⟩
  have hm := (root_min hl hq).2 k' q2 q4
  obtain ⟨h1, h2⟩ := lea_ok hn hi (Nat.le_refl _)
  obtain ⟨a1, a2⟩ := h2 q q1 hq
  rcases h1 with h1 | ⟨p, p1, p2, p3⟩
  · omega
  · have := (thr_ge hn hi p1 p2).2
    omega
end
theorem path_at {h : Hand} {l : List Chord} {Gs : List (List Grip)} {n d : Nat} (hd : d < n) : (pathU h l Gs n).getD d noG = grp Gs d (kS h l Gs d) := by
  rw [pathU, List.getD_eq_getElem?_getD, List.getElem?_map, List.getElem?_range hd]; rfl
/-- What Through answers for a grip of its chord. -/
theorem thr_each {h : Hand} {l : List Chord} (hl : Fits l) (hw : wvE h l = 0) {d q : Nat} (hd : d < l.length) (hq : q < (grpA h (l.getD d noC)).length) :
    (∃ P c, thrR h l d ((grpA h (l.getD d noC)).getD q noG) = (P, c, 0) ∧ P.length = l.length ∧ P.getD d noG = (grpA h (l.getD d noC)).getD q noG ∧
      leaU h l (tabG h l) d (q + 1) = if leaU h l (tabG h l) d q < 0 ∨ c < leaU h l (tabG h l) d q then c else leaU h l (tabG h l) d q) ∨
    (thrR h l d ((grpA h (l.getD d noC)).getD q noG) = ([], 0, 62) ∧ leaU h l (tabG h l) d (q + 1) = leaU h l (tabG h l) d q) := by
  have hn := wv_net hl hw
  have eg : (grpA h (l.getD d noC)).getD q noG = grp (tabG h l) d q := (tab_grp hd).symm
  have hq' : q < ((tabG h l).getD d []).length := by rw [tabG_at hd]; exact hq
  have hf : fitB h (l.getD d noC) (grp (tabG h l) d q) = true := fit_true.2 (hn.at hd hq')
  have hn' : NetOk h l ((tabG h l).set d [grp (tabG h l) d q]) := net_set hn hd (hn.at hd hq')
  have e : thrR h l d (grp (tabG h l) d q) = fstR h l ((tabG h l).set d [grp (tabG h l) d q]) := by
    rw [thrR, if_pos hw, if_pos (by simp; omega), Int.toNat_natCast, if_pos hf]
  rw [eg, e, fstR, if_neg (by omega)]
  by_cases hh : HasF h l ((tabG h l).set d [grp (tabG h l) d q])
  · rw [if_pos hh]
    refine .inl ⟨_, _, rfl, pathU_len _ _ _ _, ?_, by rw [leaU, if_pos hh]⟩
    have hk := (kS_ok hn' hh hd).1
    have e9 : ((tabG h l).set d [grp (tabG h l) d q]).getD d [] = [grp (tabG h l) d q] := by rw [set_getD (by rw [hn.gl]; exact hd), if_pos rfl]
    rw [e9, List.length_singleton] at hk
    have hk0 : kS h l ((tabG h l).set d [grp (tabG h l) d q]) d = 0 := by omega
    rw [path_at hd, hk0, grp_set hn.gl hd, if_pos rfl]; rfl
  · rw [if_neg hh]
    exact .inr ⟨rfl, by rw [leaU, if_neg hh]⟩
theorem thr_last {h : Hand} {l : List Chord} (hl : Fits l) (hb : (bstR h l).2.2 = 0) {d : Nat} (hd : d < l.length) : leaU h l (tabG h l) d (grpA h (l.getD d noC)).length = (bstR h l).2.1 := by
  obtain ⟨hw, hh⟩ := bst_ok hb
  have h1 := lea_best (wv_net hl hw) hd (hh (by omega))
  rw [tabG_at hd] at h1
  rw [h1, (bst_yes hw hh).2, if_neg (by omega)]
end Go.Proofs.Ytojjdkoglhecbaa
namespace Go.Proofs.Ytojjdkoglhecbaa
open Go.RowKit
set_option maxRecDepth 100000

abbrev c_theorbolaw06_rest_p1 : VC := (.seq (.ops 0 [oo 5 .mv [.t 0], oo 6 .mv [.t 1], oo 7 (.bin .rem) [.t 5, .t 6], oo 8 .mv [.t 1], oo 9 (.bin .add) [.t 7, .t 8], oo 10 .mv [.t 1], oo 11 (.bin .rem) [.t 9, .t 10], oo 4 .mv [.t 11]]) .ret)
def c_theorbolaw06_rest : VC := (.seq (.ops 0 [oo 4 .mv [kk 0]]) c_theorbolaw06_rest_p1)
theorem k_theorbolaw06_rest : Comp Try.prog nobx gtab 30 12 c_theorbolaw06_rest [.t 4] := ⟨⟨Try.f30, _, Try.func30, rfl, rfl, kr, kr⟩⟩
end Go.Proofs.Ytojjdkoglhecbaa
namespace Go.Proofs.Ytojjdkoglhecbaa
open Go.RowKit

section
variable {n : Int}
end
end Go.Proofs.Ytojjdkoglhecbaa
namespace Go.Proofs.Ytojjdkoglhecbaa
open Go.RowKit
set_option linter.unusedSimpArgs false
set_option linter.unusedVariables false

/-- A number modulo n. -/
def rsI (a n : Int) : Int := (a.tmod n + n).tmod n
theorem rs_bound {n : Int} (a : Int) (h : 0 < n) : 0 ≤ rsI a n ∧ rsI a n < n := by
  have := Int.lt_tmod_of_pos a h
  exact ⟨Int.tmod_nonneg _ (by omega), Int.tmod_lt_of_pos _ h⟩
theorem rest_fn (a n : Int) (h : 0 < n) (h2 : n ≤ 4611686018427387904) : Fn Try.prog Gd 30 [vint a, vint n] (vint (rsI a n)) := by
  refine Fn.of_vx0 k_theorbolaw06_rest (by simp) rfl ?_
  have h3 := Int.lt_tmod_of_pos a h
  have h4 := Int.tmod_lt_of_pos a h
  have w1 : IntKind.i64.wrap (a.tmod n + n) = a.tmod n + n := w_in (by omega)
  have n0 : ¬ n = 0 := by omega
  unfold c_theorbolaw06_rest rsI
  repeat' (with_reducible first | refine x_ops ?_ | refine wk ?_ | ((first | refine gd1 ?_ ?_ | refine gd2 ?_ ?_ | refine gd3 ?_ ?_) <;> (first | exact @False.elim _ | intro hc)))
  exact finV_lit vv rfl

end Go.Proofs.Ytojjdkoglhecbaa
namespace Go.Proofs.Ytojjdkoglhecbaa
open Go.RowKit
set_option linter.unusedSimpArgs false
set_option linter.unusedVariables false

/-- What is left of a row by another one's growth. -/
theorem Apb.keep {m m' : Mm} {k : Tok} {n : Nat} {e : TypeId} {z : Nat} (h : Apb m k n e z) (hn : m.next ≤ m'.next) (ho : ∀ q, q < m.next → k = .own q → m'.obj q = m.obj q) : Apb m' k n e z := by
  rcases h with h | ⟨t, h1, h2, h3⟩
  · exact .inl h
  · exact .inr ⟨t, h1, Nat.lt_of_lt_of_le h2 hn, (ho t h2 h1).trans h3⟩
theorem Apb.box {m : Mm} {k : Tok} {n : Nat} {e : TypeId} {z : Nat} (h : Apb m k n e z) {q : Nat} {cs : List V} {t : TypeId} (hq : m.obj q = some (.box cs t)) : k ≠ .own q := by
  rintro rfl
  rcases h with h | ⟨t, h1, _, h3⟩
  · cases h
  · injection h1 with h1; subst h1; rw [hq] at h3; cases h3

end Go.Proofs.Ytojjdkoglhecbaa
namespace Go.Proofs.Ytojjdkoglhecbaa
open Go.ChangeShapes Go.WideShapes Go.ChangeAt Go.RowKit
set_option maxRecDepth 100000

def tySearch : Ty := .st [tyHand, .sl tyChord 72]
theorem dt_handC {d : Dt} (h : d.ok tyHand) : ∃ x : Hand, d.cells = [tIs x.low, tIs x.high, tBs x.barre, vint x.top, vint x.jump, vint x.shift, vint x.lift, vint x.bar, vint x.stretch, vint x.slide] := by
  obtain ⟨x, hx⟩ := dt_hand h
  obtain ⟨l, _, _, hc, hv⟩ := ok_st h
  rw [hv, Hand.val] at hx
  injection hx with hx
  exact ⟨x, by rw [hc, hx]⟩
theorem dt_chordsC {b : Nat} {d : Dt} (hb : 8 ≤ b) (h : d.ok (.sl tyChord b)) : ∃ l : List Chord, d.cells = [tCs l] ∧ Fits l := by
  obtain ⟨l, h1, h2⟩ := dt_chords hb h
  exact ⟨l, by rw [dt_one h, h1], h2⟩
theorem dt_searchV {d : Dt} (h : d.ok tySearch) : ∃ x : Hand × List Chord, d.val = srV x.1 x.2 ∧ Fits x.2 := by
  obtain ⟨l, _, h1, _, hv⟩ := ok_st h
  obtain ⟨d1, r1, rfl, k1, h2, e1⟩ := oks_cons h1
  obtain ⟨d2, r2, rfl, k2, h3, e2⟩ := oks_cons h2
  obtain ⟨a, ea⟩ := dt_handC k1
  obtain ⟨b, eb, fb⟩ := dt_chordsC (by decide) k2
  exact ⟨(a, b), by rw [hv, e1, e2, oks_nil h3, ea, eb]; rfl, fb⟩
theorem dt_intV {d : Dt} (h : d.ok .int) : ∃ n : Int, d.val = vint n ∧ -9223372036854775808 ≤ n ∧ n ≤ 9223372036854775807 := by
  cases d <;> first | (rw [Dt.ok] at h; exact ⟨_, by rw [Dt.val], h⟩) | (simp [Dt.ok] at h)
theorem ty_int : tyOf Try.prog 10 3 = some .int := by kernel_rfl
theorem ty_search : tyOf Try.prog 10 35 = some tySearch := by kernel_rfl
end Go.Proofs.Ytojjdkoglhecbaa
namespace Go.Proofs.Ytojjdkoglhecbaa
open Go.RowKit

section
variable {P : Program} {G : Ground}
end
end Go.Proofs.Ytojjdkoglhecbaa
namespace Go.Proofs.Ytojjdkoglhecbaa
open Go.ChangeShapes Go.WideShapes Go.ChangeAt Go.RowKit
set_option maxRecDepth 100000

end Go.Proofs.Ytojjdkoglhecbaa
namespace Go.Proofs.Ytojjdkoglhecbaa
open Go.RowKit

/-- The pairs of grips of the first chords. -/
noncomputable def hvU (h : Hand) (l : List Chord) : Nat → Int
  | 0 => 0
  | k + 1 => hvU h l k + (if k = 0 then 0 else ((grpA h (l.getD (k - 1) noC)).length : Int)) * ((grpA h (l.getD k noC)).length : Int)
/-- Does a search take too many steps? -/
noncomputable def hvB (h : Hand) (l : List Chord) : Bool :=
  if bothE h l = 0 then (if 24 < l.length then true else if wvE h l = 0 then decide (6000 < hvU h l l.length) else false) else false
theorem hvU_bound {h : Hand} {l : List Chord} : ∀ {k : Nat}, (∀ i, i < k → (grpA h (l.getD i noC)).length ≤ 200) → 0 ≤ hvU h l k ∧ hvU h l k ≤ 40000 * k
  | 0, _ => by simp [hvU]
  | k + 1, hk => by
    have h1 := hvU_bound (h := h) (l := l) (k := k) (fun i hi => hk i (by omega))
    have h2 := hk k (by omega)
    rw [hvU]
    by_cases k0 : k = 0
    · rw [if_pos k0, Int.zero_mul]; omega
    · rw [if_neg k0]
      have h3 := hk (k - 1) (by omega)
      have h5 : (grpA h (l.getD (k - 1) noC)).length * (grpA h (l.getD k noC)).length ≤ 200 * 200 := Nat.mul_le_mul h3 h2
      have h6 : ((grpA h (l.getD (k - 1) noC)).length : Int) * ((grpA h (l.getD k noC)).length : Int) = (((grpA h (l.getD (k - 1) noC)).length * (grpA h (l.getD k noC)).length : Nat) : Int) := by push_cast; rfl
      omega

set_option maxHeartbeats 2000000 in
theorem heavy_fn (h : Hand) (l : List Chord) (hl : Fits l) : Fn Try.prog Gd 29 [h.val, tCs l] (vbool (hvB h l)) := by
  refine Fn.of_vx0 k_theorbolaw06_Heavy (by simp) (by rw [V.pures, pure_hand, V.pures, pure_tCs]; rfl) ?_
  have C1 := rcheck_fn h
  have C2 := rcheckchords_fn l hl
  unfold hvB bothE
  unfold tCs at C2
  unfold Hand.val at C1
  unfold c_theorbolaw06_Heavy Hand.val tCs
  by_cases he : chkE h = 0
  case neg =>
    have e1 : (chkE h == 0) = false := by rw [beq_eq_false_iff_ne]; exact he
    rw [chk_bad he] at C1
    rw [if_neg he, if_neg (by decide)]
    clear he
    repeat' (with_reducible first | refine x_ops ?_ | refine wk ?_ | (with_reducible refine xc (C1) ?_) | (with_reducible refine xc (C2) ?_) | ((first | refine gd1 ?_ ?_ | refine gd2 ?_ ?_ | refine gd3 ?_ ?_) <;> (first | exact @False.elim _ | intro hc)))
    all_goals exact finV_lit vv rfl
  rw [he] at C1
  rw [if_pos he]
  by_cases hs : seqE l = 0
  case neg =>
    have e1 : (seqE l == 0) = false := by rw [beq_eq_false_iff_ne]; exact hs
    rw [if_neg hs]
    clear he hs
    repeat' (with_reducible first | refine x_ops ?_ | refine wk ?_ | (with_reducible refine xc (C1) ?_) | (with_reducible refine xc (C2) ?_) | ((first | refine gd1 ?_ ?_ | refine gd2 ?_ ?_ | refine gd3 ?_ ?_) <;> (first | exact @False.elim _ | intro hc)))
    all_goals exact finV_lit vv rfl
  rw [if_pos hs]
  have hb : bothE h l = 0 := by rw [bothE, if_pos he]; exact hs
  obtain ⟨hk, h4, hseq⟩ := both_ok hb
  rw [hs] at C2
  clear hs he
  by_cases h24 : 24 < l.length
  · have c1 : (24 : Int) < (l.length : Int) := by omega
    rw [if_pos h24]
    clear hb h24
    repeat' (with_reducible first | refine x_ops ?_ | refine wk ?_ | (with_reducible refine xc (C1) ?_) | (with_reducible refine xc (C2) ?_) | ((first | refine gd1 ?_ ?_ | refine gd2 ?_ ?_ | refine gd3 ?_ ?_) <;> (first | exact @False.elim _ | intro hc)))
    all_goals exact finV_lit vv rfl
  have c1 : ¬ (24 : Int) < (l.length : Int) := by omega
  rw [if_neg h24]
  repeat' (with_reducible first | refine x_ops ?_ | refine wk ?_ | (with_reducible refine xc (C1) ?_) | (with_reducible refine xc (C2) ?_) | ((first | refine gd1 ?_ ?_ | refine gd2 ?_ ?_ | refine gd3 ?_ ?_) <;> (first | exact @False.elim _ | intro hc)))
  refine x_gen (fun t => t 1 = .sl l.length (l.flatMap Chord.cells) .no ∧ t 2 = .ptr 0 0 ∧ t 5 = vint 0 ∧ t 6 = vint 0 ∧ t 7 = vint 0) ⟨vv, vv, vv, vv, vv⟩ ?_
  clear C1 C2 c1
  rintro t0 ⟨a1, a2, a5, a6, a7⟩
  refine x_loopF w_theorbolaw06_Heavy_p9 kr l.length (fun k t => t 7 = vint (k : Int) ∧ t 5 = vint (hvU h l k) ∧ t 6 = vint (if k = 0 then 0 else ((grpA h (l.getD (k - 1) noC)).length : Int)) ∧ ∀ i, i < k → (grpA h (l.getD i noC)).length ≤ 200) ?_ ?_
  · exact ⟨a7, by rw [hvU]; exact a5, by rw [if_pos rfl]; exact a6, fun i hi => by omega⟩
  rintro k t hkl ⟨h7, h5, h6, hcnt⟩
  by_cases hlt : k < l.length
  case neg =>
    have hke : k = l.length := by omega
    subst hke
    have c1 : ¬ (l.length : Int) < (l.length : Int) := by omega
    rw [if_pos (show wvE h l = 0 by rw [wvE, if_pos hb, if_pos hcnt])]
    clear hcnt hb hlt hkl
    repeat' (with_reducible first | refine x_ops ?_ | refine wk ?_ | ((first | refine gd1 ?_ ?_ | refine gd2 ?_ ?_ | refine gd3 ?_ ?_) <;> (first | exact @False.elim _ | intro hc)))
    exact finV_lit vv rfl
  have C2 := rGrips_fn h (l.getD k noC) (hl.at k)
  rw [grR_net hk (hseq k hlt).1] at C2
  have g1 := chs_take hlt
  have g2 := chs_len l
  have c1 : k * 3 + 3 ≤ l.length * 3 := by omega
  have c2 : (k : Int) < (l.length : Int) := by omega
  have w1 := w_add1 (k := k) (by omega)
  unfold Hand.val Chord.val Chord.cells at C2
  by_cases hc2 : (grpA h (l.getD k noC)).length ≤ 200
  case neg =>
    rw [if_neg (show ¬ wvE h l = 0 by rw [wvE, if_pos hb, if_neg (fun hh => hc2 (hh k hlt))]; decide)]
    rw [if_neg hc2] at C2
    unfold tGs at C2
    clear hc2 hcnt hb
    dsimp only at C2
    repeat' (with_reducible first | refine x_ops ?_ | refine wk ?_ | (with_reducible refine xc (C2) ?_) | ((first | refine gd1 ?_ ?_ | refine gd2 ?_ ?_ | refine gd3 ?_ ?_) <;> (first | exact @False.elim _ | intro hc)))
    exact finV_lit vv rfl
  have hcn : ∀ i, i < k + 1 → (grpA h (l.getD i noC)).length ≤ 200 := fun i hi => by
    by_cases hik : i = k
    · subst hik; exact hc2
    · exact hcnt i (by omega)
  rw [if_pos hc2] at C2
  have hb1 := hvU_bound (h := h) (l := l) (k := k) hcnt
  have hb2 := hvU_bound (h := h) (l := l) (k := k + 1) hcn
  have hU : hvU h l (k + 1) = hvU h l k + (if k = 0 then 0 else ((grpA h (l.getD (k - 1) noC)).length : Int)) * ((grpA h (l.getD k noC)).length : Int) := rfl
  have hla : 0 ≤ (if k = 0 then 0 else ((grpA h (l.getD (k - 1) noC)).length : Int)) := by split <;> omega
  have hlast : (if k + 1 = 0 then 0 else ((grpA h (l.getD (k + 1 - 1) noC)).length : Int)) = ((grpA h (l.getD k noC)).length : Int) := by rw [if_neg (by omega), Nat.add_sub_cancel]
  generalize hun : hvU h l (k + 1) = un at *
  replace hun := Hid.mk hun
  generalize hvU h l k = uk at *
  generalize (if k = 0 then 0 else ((grpA h (l.getD (k - 1) noC)).length : Int)) = la at *
  have hmul : 0 ≤ la * ((grpA h (l.getD k noC)).length : Int) := Int.mul_nonneg hla (by omega)
  have w2 : IntKind.i64.wrap (la * ((grpA h (l.getD k noC)).length : Int)) = la * ((grpA h (l.getD k noC)).length : Int) := w_in (by omega)
  have w3 : IntKind.i64.wrap (uk + la * ((grpA h (l.getD k noC)).length : Int)) = un := by rw [w_in (by omega)]; exact hU.symm
  unfold tGs at C2
  replace hlast := Hid.mk hlast
  replace hcn := Hid.mk hcn
  replace hb := Hid.mk hb
  clear hU hb1 hb2 hla hmul hcnt hc2
  generalize grpA h (l.getD k noC) = G at *
  dsimp only at C2
  repeat' (with_reducible first | refine x_ops ?_ | refine wk ?_ | (with_reducible refine xc (C2) ?_) | ((first | refine gd1 ?_ ?_ | refine gd2 ?_ ?_ | refine gd3 ?_ ?_) <;> (first | exact @False.elim _ | intro hc)))
  exact nf hlt ⟨vv, by rw [hun.out]; exact vv, by rw [hlast.out]; exact vv, hcn.out⟩ rfl
end Go.Proofs.Ytojjdkoglhecbaa
namespace Go.Proofs.Ytojjdkoglhecbaa
open Go.RowKit

end Go.Proofs.Ytojjdkoglhecbaa
namespace Go.Proofs.Ytojjdkoglhecbaa
open Go.RowKit
set_option maxRecDepth 100000

abbrev c_theorbolaw06_HandThroughLeast_p1 : VC := (.seq (.ops 0 [oo 27 (.call 28) [], oo 4 .mv [.t 27]]) .ret)
abbrev c_theorbolaw06_HandThroughLeast_p2 : VC := (.seq (.ops 0 [oo 36 (.call 28) [], oo 4 .mv [.t 36]]) .ret)
abbrev c_theorbolaw06_HandThroughLeast_p3 : VC := (.seq (.ops 0 [oo 4 .mv [(.c (.lit (.bool false)))]]) .ret)
abbrev c_theorbolaw06_HandThroughLeast_p4 : VC := (.seq (.ops 0 [oo 4 .mv [(.c (.lit (.bool false)))]]) .ret)
abbrev c_theorbolaw06_HandThroughLeast_p5 : VC := (.ops 0 [oo 98 (.fldA 1) [.t 13], oo 99 .ld1 [.t 98], oo 10 .mv [.t 99]])
abbrev c_theorbolaw06_HandThroughLeast_p6 : VC := (.seq (.ops 0 [oo 90 .mv [.t 10], oo 91 (.bin .lss) [.t 90, kk 0], oo 92 .mv [.t 91], og 93 92 false (.fldA 1) [.t 13], og 94 92 false .ld1 [.t 93], og 95 92 false .mv [.t 10], og 96 92 false (.bin .lss) [.t 94, .t 95], oo 97 .pick [.t 92, (.c (.lit (.bool true))), .t 96]]) (.cond (.t 97) c_theorbolaw06_HandThroughLeast_p5 .skip))
abbrev c_theorbolaw06_HandThroughLeast_p7 : VC := (.seq (.seq (.ops 0 [oo 68 .mv [.t 14], oo 69 (.bin .neq) [.t 68, kk 0], oo 70 .mv [.t 69], og 71 70 false (.fldA 0) [.t 13], og 72 70 false .ld1 [.t 71], og 73 70 false .len [.t 72], og 74 70 false .mv [.t 6], og 75 70 false .len [.t 74], og 76 70 false (.bin .neq) [.t 73, .t 75], oo 77 .pick [.t 70, (.c (.lit (.bool true))), .t 76], oo 78 .mv [.t 77], og 79 78 false (.fldA 0) [.t 13], ⟨(some 80), (some (78, false)), .ld1, [.t 79], (some [0, 1, 2, 3, 4, 5, 6, 7, 8, 9, 10, 11])⟩, og 81 78 false .mv [.t 1], og 82 78 false .mv [.t 1], og 83 78 false (.bin .add) [.t 82, kk 1], og 84 78 false (.slc 2 true true) [.t 80, .t 81, .t 83], ⟨(some 85), (some (78, false)), (.ldA 2), [.t 12], (some [0, 1, 2, 3, 4, 5, 6, 7, 8, 9, 10])⟩, ⟨(some 86), (some (78, false)), (.mksl 1 2 [li 0, (.sl 0 [] .exact)] [(0, 2)]), [.t 85], none⟩, og 87 78 false (.call 34) [.t 84, .t 86], og 88 78 false (.un .not) [.t 87], oo 89 .pick [.t 78, (.c (.lit (.bool true))), .t 88]]) (.cond (.t 89) c_theorbolaw06_HandThroughLeast_p4 .skip)) c_theorbolaw06_HandThroughLeast_p6)
abbrev c_theorbolaw06_HandThroughLeast_p8 : VC := (.seq (.seq (.ops 0 [oo 66 .mv [.t 14], oo 67 (.bin .eql) [.t 66, kk 62]]) (.cond (.t 67) (.exit 1) .skip)) c_theorbolaw06_HandThroughLeast_p7)
abbrev c_theorbolaw06_HandThroughLeast_p9 : VC := (.seq (.ops 11 [oo 59 (.ldA 10) [.t 5], oo 60 .mv [.t 6], oo 61 .mv [.t 1], oo 62 (.ldA 2) [.t 12], oo 63 (.call 41) [.t 59, .t 60, .t 61, .t 62], oo 58 .mv [.t 63], oo 64 (.ext 0) [.t 58], oo 65 (.ext 1) [.t 58], ⟨(some 13), none, (.alloc 40 [(.sl 0 [] .exact), li 0]), [], none⟩, ⟨none, none, (.st 2), [.t 13, .t 64], none⟩, oo 14 .mv [.t 65]]) c_theorbolaw06_HandThroughLeast_p8)
abbrev c_theorbolaw06_HandThroughLeast_p10 : VC := (.ops 0 [oo 100 (.bin .add) [.t 54, kk 1], oo 54 .mv [.t 100]])
abbrev c_theorbolaw06_HandThroughLeast_p11 : VC := (.seq (.block 1 (.seq (.ops 4 [oo 56 (.ixA 2) [.t 52, .t 54], oo 57 (.ldA 2) [.t 56], ⟨(some 12), none, (.alloc 53 [li 0, (.sl 0 [] .exact)]), [], none⟩, ⟨none, none, (.st 2), [.t 12, .t 57], none⟩]) c_theorbolaw06_HandThroughLeast_p9)) c_theorbolaw06_HandThroughLeast_p10)
abbrev c_theorbolaw06_HandThroughLeast_p12 : VC := (.seq (.cond (.t 55) .skip (.exit 0)) c_theorbolaw06_HandThroughLeast_p11)
abbrev c_theorbolaw06_HandThroughLeast_p13 : VC := (.seq (.ops 0 [oo 55 (.bin .lss) [.t 54, .t 53]]) c_theorbolaw06_HandThroughLeast_p12)
@[go_sem] abbrev w_theorbolaw06_HandThroughLeast_p13 : Nat := 2535301200456440788594896958480
abbrev c_theorbolaw06_HandThroughLeast_p15 : VC := (.seq (.ops 0 [oo 101 .mv [.t 10], oo 102 (.fldA 1) [.t 7], oo 103 .ld1 [.t 102], oo 104 (.bin .eql) [.t 101, .t 103], oo 105 .mv [.t 104], og 106 105 true (.call 28) [], oo 107 .pick [.t 105, .t 106, (.c (.lit (.bool false)))], oo 4 .mv [.t 107]]) .ret)
abbrev c_theorbolaw06_HandThroughLeast_p16 : VC := (.seq (.seq (.ops 0 [oo 52 .mv [.t 9], oo 53 .len [.t 52], oo 54 .mv [kk 0]]) (.block 0 (.loop c_theorbolaw06_HandThroughLeast_p13))) c_theorbolaw06_HandThroughLeast_p15)
abbrev c_theorbolaw06_HandThroughLeast_p17 : VC := (.seq (.ops 0 [oo 10 .mv [kk (-1)]]) c_theorbolaw06_HandThroughLeast_p16)
abbrev c_theorbolaw06_HandThroughLeast_p18 : VC := (.seq (.seq (.ops 0 [oo 50 .mv [.t 8], oo 51 (.bin .neq) [.t 50, kk 0]]) (.cond (.t 51) c_theorbolaw06_HandThroughLeast_p3 .skip)) c_theorbolaw06_HandThroughLeast_p17)
abbrev c_theorbolaw06_HandThroughLeast_p19 : VC := (.seq (.ops 0 [od 42 (.ldA 10) [.t 5] [], oo 43 .mv [.t 6], oo 44 .mv [.t 1], oo 45 (.ixA 3) [.t 43, .t 44], od 46 (.ldA 3) [.t 45] [1, 2, 3], oo 47 (.call 32) [.t 42, .t 46], oo 41 .mv [.t 47], oo 48 (.ext 0) [.t 41], oo 49 (.ext 1) [.t 41], oo 9 .mv [.t 48], oo 8 .mv [.t 49]]) c_theorbolaw06_HandThroughLeast_p18)
abbrev c_theorbolaw06_HandThroughLeast_p20 : VC := (.seq (.ops 0 [oo 37 .mv [.t 1], oo 38 .mv [.t 6], oo 39 .len [.t 38], oo 40 (.call 30) [.t 37, .t 39], oo 1 .mv [.t 40]]) c_theorbolaw06_HandThroughLeast_p19)
abbrev c_theorbolaw06_HandThroughLeast_p21 : VC := (.seq (.seq (.ops 0 [oo 34 .mv [.t 8], oo 35 (.bin .neq) [.t 34, kk 0]]) (.cond (.t 35) c_theorbolaw06_HandThroughLeast_p2 .skip)) c_theorbolaw06_HandThroughLeast_p20)
abbrev c_theorbolaw06_HandThroughLeast_p22 : VC := (.seq (.ops 9 [oo 29 (.ldA 10) [.t 5], oo 30 .mv [.t 6], oo 31 (.call 31) [.t 29, .t 30], oo 28 .mv [.t 31], oo 32 (.ext 0) [.t 28], oo 33 (.ext 1) [.t 28], ⟨(some 7), none, (.alloc 40 [(.sl 0 [] .exact), li 0]), [], none⟩, ⟨none, none, (.st 2), [.t 7, .t 32], none⟩, oo 8 .mv [.t 33]]) c_theorbolaw06_HandThroughLeast_p21)
abbrev c_theorbolaw06_HandThroughLeast_p23 : VC := (.seq (.seq (.ops 0 [oo 19 (.ldA 10) [.t 5], oo 20 .mv [.t 6], oo 21 (.call 29) [.t 19, .t 20], oo 22 .mv [.t 21], og 23 22 false .mv [.t 6], og 24 22 false .len [.t 23], og 25 22 false (.bin .eql) [.t 24, kk 0], oo 26 .pick [.t 22, (.c (.lit (.bool true))), .t 25]]) (.cond (.t 26) c_theorbolaw06_HandThroughLeast_p1 .skip)) c_theorbolaw06_HandThroughLeast_p22)
abbrev c_theorbolaw06_HandThroughLeast_p24 : VC := (.seq (.ops 7 [oo 15 (.fldA 0) [.t 2], od 16 (.ldA 10) [.t 15] [0], oo 17 (.fldA 10) [.t 2], od 18 .ld1 [.t 17] [2], ⟨(some 5), none, (.alloc 25 [(.sl 0 [] .exact), (.sl 0 [] .exact), (.sl 0 [] .exact), li 0, li 0, li 0, li 0, li 0, li 0, li 0]), [], (some [])⟩, ⟨none, none, (.st 10), [.t 5, .t 16], (some [4])⟩, oo 6 .mv [.t 18]]) c_theorbolaw06_HandThroughLeast_p23)
def c_theorbolaw06_HandThroughLeast : VC := (.seq (.ops 2 [oo 2 (.box 35) [.t 0], oo 4 .mv [(.c (.lit (.bool false)))]]) c_theorbolaw06_HandThroughLeast_p24)
theorem k_theorbolaw06_HandThroughLeast : Comp Try.prog nobx gtab 13 108 c_theorbolaw06_HandThroughLeast [.t 4] := ⟨⟨Try.f13, _, Try.func13, rfl, rfl, kr, kr⟩⟩
end Go.Proofs.Ytojjdkoglhecbaa
namespace Go.Proofs.Ytojjdkoglhecbaa
open Go.RowKit

theorem slg_one (L : List Grip) {i : Nat} (hi : i < L.length) : vslc 2 true true (.sl L.length (L.flatMap Grip.cells) .no) [.lit (.int .i64 (i : Int)), .lit (.int .i64 ((i + 1 : Nat) : Int))] = some (.sl 1 [.lit (.int .i64 (L.getD i noG).pos), tIs (L.getD i noG).fingers] .no) := by
  have g1 := gs_take hi
  simp only [vslc, bnds, if_true]
  rw [if_pos ⟨Int.natCast_nonneg _, by omega, by omega⟩]
  simp only [Int.toNat_natCast, show i + 1 - i = 1 by omega, Nat.one_mul, g1]
  rfl
set_option maxHeartbeats 4000000 in
theorem handthroughleast_fn (h : Hand) (l : List Chord) (hl : Fits l) (i : Int) : Fn Try.prog Gd 13 [srV h l, vint i] (vbool true) := by
  refine Fn.of_vx0 k_theorbolaw06_HandThroughLeast (by simp) (by rw [V.pures, pure_sr, V.pures]; rfl) ?_
  have C0 := heavy_fn h l hl
  have C2 := Best_fn h l hl
  have C5 := works_fn
  have hlast := fun hb d hd => thr_last (h := h) (d := d) hl hb hd
  have hok := fun hb => bst_ok (h := h) (l := l) hb
  generalize bstR h l = r1 at *
  obtain ⟨G1, x1, f1⟩ := r1
  dsimp only at hlast hok
  unfold Hand.val at C0 C2
  unfold tCs at C0 C2
  unfold fstV tGs at C2
  unfold c_theorbolaw06_HandThroughLeast srV tCs
  dsimp only at C2
  generalize hvB h l = hv at *
  cases hv
  case true =>
    clear C2 hlast hok
    repeat' (with_reducible first | refine x_ops ?_ | refine wk ?_ | (with_reducible refine xc (C0) ?_) | (with_reducible refine xc (C5) ?_) | ((first | refine gd1 ?_ ?_ | refine gd2 ?_ ?_ | refine gd3 ?_ ?_) <;> (first | exact @False.elim _ | intro hc)))
    all_goals exact finV_dry rfl vv
  by_cases hl0 : l.length = 0
  · have e1 : ((l.length : Int) == 0) = true := by rw [beq_iff_eq]; omega
    clear C2 hlast hok hl0
    repeat' (with_reducible first | refine x_ops ?_ | refine wk ?_ | (with_reducible refine xc (C0) ?_) | (with_reducible refine xc (C5) ?_) | ((first | refine gd1 ?_ ?_ | refine gd2 ?_ ?_ | refine gd3 ?_ ?_) <;> (first | exact @False.elim _ | intro hc)))
    all_goals exact finV_dry rfl vv
  have e1 : ((l.length : Int) == 0) = false := by rw [beq_eq_false_iff_ne]; omega
  by_cases hf : f1 = 0
  case neg =>
    have h1 : (f1 == 0) = false := by rw [beq_eq_false_iff_ne]; exact hf
    clear hlast hok hf
    repeat' (with_reducible first | refine x_ops ?_ | refine wk ?_ | (with_reducible refine xc (C0) ?_) | (with_reducible refine xc (C2) ?_) | (with_reducible refine xc (C5) ?_) | ((first | refine gd1 ?_ ?_ | refine gd2 ?_ ?_ | refine gd3 ?_ ?_) <;> (first | exact @False.elim _ | intro hc)))
    all_goals exact finV_dry rfl vv
  subst hf
  obtain ⟨hw, _⟩ := hok rfl
  have hn := wv_net hl hw
  have h4 := hn.len
  have R1 := rest_fn i (l.length : Int) (by omega) (by omega)
  have r1 := rs_bound (n := (l.length : Int)) i (by omega)
  obtain ⟨d, hd⟩ : ∃ d : Nat, rsI i (l.length : Int) = (d : Int) := ⟨(rsI i (l.length : Int)).toNat, by omega⟩
  rw [hd] at R1 r1
  have hdl : d < l.length := by omega
  have hlast := hlast rfl d hdl
  have heach := fun q hq => thr_each (h := h) (d := d) (q := q) hl hw hdl hq
  have hcnt : (grpA h (l.getD d noC)).length ≤ 200 := (wv_ok hw).2 d hdl
  have C3 := Grips_fn h (l.getD d noC) (hl.at d)
  rw [grR_net hn.hk (hn.seq d hdl).1, if_pos hcnt] at C3
  have hfit := fun q (hq : q < (grpA h (l.getD d noC)).length) => (grpA_mem.1 (mem_getD noG hq)).len
  have h14 := chord_len (hn.seq d hdl).1
  have hlea0 : leaU h l (tabG h l) d 0 = -1 := rfl
  have CT := fun (g : Grip) hg => Through_fn h l hl d g hg
  generalize leaU h l (tabG h l) d = lea at *
  generalize grpA h (l.getD d noC) = L at *
  dsimp only at C3
  unfold Hand.val at C3 CT
  unfold Chord.val Chord.cells tGs at C3
  unfold tCs at CT
  have c1 : (d : Int) < (l.length : Int) := by omega
  have c2 : d * 3 + 3 ≤ l.length * 3 := by omega
  have g1 := chs_take hdl
  have g2 := chs_len l
  replace heach := Hid.mk heach
  replace hlast := Hid.mk hlast
  replace hlea0 := Hid.mk hlea0
  replace hfit := Hid.mk hfit
  replace h14 := Hid.mk h14
  replace CT := Hid.mk CT
  clear hok hw hn hd
  repeat' (with_reducible first | refine x_ops ?_ | refine wk ?_ | (with_reducible refine xc (C0) ?_) | (with_reducible refine xc (C2) ?_) | (with_reducible refine xc (C3) ?_) | (with_reducible refine xc (R1) ?_) | ((first | refine gd1 ?_ ?_ | refine gd2 ?_ ?_ | refine gd3 ?_ ?_) <;> (first | exact @False.elim _ | intro hc)))
  refine x_genM (fun t M => (t 1 = vint (d : Int) ∧ t 5 = .ptr 6 0 ∧ t 6 = .sl l.length (l.flatMap Chord.cells) .no ∧ t 7 = .ptr 15 0 ∧ t 52 = .sl L.length (L.flatMap Grip.cells) .no ∧ t 53 = vint L.length ∧ t 54 = vint 0 ∧ t 10 = vint (-1)) ∧
    18 ≤ M.next ∧ M.obj 6 = some (.box [tIs h.low, tIs h.high, tBs h.barre, vint h.top, vint h.jump, vint h.shift, vint h.lift, vint h.bar, vint h.stretch, vint h.slide] 25) ∧ M.obj 15 = some (.box [.sl G1.length (G1.flatMap Grip.cells) .no, vint x1] 40))
    ⟨⟨vv, vv, vv, vv, vv, vv, vv, vv⟩, by (show 18 ≤ 18; decide), vv, vv⟩ ?_
  rintro t0 M0' ⟨⟨a1, b5, a6, b7, a52, a53, a54, a10⟩, m1, b2, b3⟩
  obtain ⟨p5, a5, m2, l5⟩ : ∃ p, t0 5 = .ptr p 0 ∧ M0'.obj p = some (.box [tIs h.low, tIs h.high, tBs h.barre, vint h.top, vint h.jump, vint h.shift, vint h.lift, vint h.bar, vint h.stretch, vint h.slide] 25) ∧ p < 18 := ⟨6, b5, b2, by decide⟩
  obtain ⟨p7, a7, m3, l7⟩ : ∃ p, t0 7 = .ptr p 0 ∧ M0'.obj p = some (.box [.sl G1.length (G1.flatMap Grip.cells) .no, vint x1] 40) ∧ p < 18 := ⟨15, b7, b3, by decide⟩
  clear b5 b7 b2 b3
  refine x_loopW w_theorbolaw06_HandThroughLeast_p13 kr L.length (fun q t M => (t 54 = vint (q : Int) ∧ t 10 = vint (lea q)) ∧ 18 ≤ M.next ∧ M.obj p5 = some (.box [tIs h.low, tIs h.high, tBs h.barre, vint h.top, vint h.jump, vint h.shift, vint h.lift, vint h.bar, vint h.stretch, vint h.slide] 25) ∧ M.obj p7 = some (.box [.sl G1.length (G1.flatMap Grip.cells) .no, vint x1] 40))
    ⟨⟨a54, by rw [hlea0.out]; exact a10⟩, m1, m2, m3⟩ ?_
  clear a54 a10 m1 m2 m3 C0 C2 C3 R1 g1 c2
  rintro q t M hq ⟨⟨a54, a10⟩, m1, m2, m3⟩
  have n1 : p5 < M.next := by omega
  have n2 : p7 < M.next := by omega
  have y2 : ∀ q j, q < M.next → (q < M.next + j) = True := fun q j hq => by simp; omega
  have y3 : ∀ q j, q < M.next → (q = M.next + j) = False := fun q j hq => by simp; omega
  have y4 : ∀ q j, q < M.next → (M.next + j = q) = False := fun q j hq => by simp; omega
  by_cases hqL : q < L.length
  case neg =>
    have e : q = L.length := by omega
    subst e
    have k1 : ¬ (L.length : Int) < (L.length : Int) := by omega
    rw [hlast.out] at a10
    have k2 : (x1 == x1) = true := by simp
    clear hqL hq CT
    repeat' (with_reducible first | refine x_ops ?_ | refine wk ?_ | (with_reducible refine xc (C5) ?_) | ((first | refine gd1 ?_ ?_ | refine gd2 ?_ ?_ | refine gd3 ?_ ?_) <;> (first | exact @False.elim _ | intro hc)))
    all_goals exact finV_dry rfl vv
  have k1 : (q : Int) < (L.length : Int) := by omega
  have k2 : q * 2 + 2 ≤ L.length * 2 := by omega
  have w1 := w_add1 (k := q) (by omega)
  have w2 := w_add1 (k := d) (by omega)
  have g3 := gs_take hqL
  have g4 := gs_len L
  have hgl := hfit.out q hqL
  have hgl2 : (L.getD q noG).fingers.length ≤ 17592186044416 := by have := h14.out; omega
  have CX := CT.out (L.getD q noG) hgl2
  have SG := samegrips_fn [L.getD q noG] [L.getD q noG] ⟨by simp, fun y hy => by rw [List.mem_singleton] at hy; subst hy; exact hgl2⟩
  rw [tGs, List.flatMap_cons, List.flatMap_nil, List.append_nil, decide_eq_true rfl] at SG
  unfold Grip.cells at SG
  unfold Grip.val Grip.cells fstV tGs at CX
  clear hgl hgl2
  rcases heach.out q hqL with ⟨P, c, e2, e3, e4, e5⟩ | ⟨e2, e3⟩
  · rw [e2] at CX
    dsimp only at CX
    have v1 := slg_one P (i := d) (by omega)
    rw [e4, e3] at v1
    rw [e3] at CX
    have k3 : ((l.length : Int) == (l.length : Int)) = true := by simp
    replace e5 := Hid.mk e5
    clear e2 e3 e4
    by_cases hc1 : lea q < 0
    · have e6 : lea (q + 1) = c := by rw [e5.out, if_pos (.inl hc1)]
      replace e6 := Hid.mk e6
      repeat' (with_reducible first | refine x_ops ?_ | refine wk ?_ | (with_reducible refine xc (C5) ?_) | (with_reducible refine xc (CX) ?_) | (with_reducible refine xc (SG) ?_) | ((first | refine gd1 ?_ ?_ | refine gd2 ?_ ?_ | refine gd3 ?_ ?_) <;> (first | exact @False.elim _ | intro hc)))
      refine nx hqL ?_
      refine ⟨⟨vv, by rw [e6.out]; first | exact vv | exact vw⟩, by (simp only [put_next]; omega), ?_, ?_⟩
      · repeat' (first | exact m2 | refine Eq.trans (put_other _ _ (by omega)) ?_)
      · repeat' (first | exact m3 | refine Eq.trans (put_other _ _ (by omega)) ?_)
    by_cases hc2 : c < lea q
    · have e6 : lea (q + 1) = c := by rw [e5.out, if_pos (.inr hc2)]
      replace e6 := Hid.mk e6
      repeat' (with_reducible first | refine x_ops ?_ | refine wk ?_ | (with_reducible refine xc (C5) ?_) | (with_reducible refine xc (CX) ?_) | (with_reducible refine xc (SG) ?_) | ((first | refine gd1 ?_ ?_ | refine gd2 ?_ ?_ | refine gd3 ?_ ?_) <;> (first | exact @False.elim _ | intro hc)))
      refine nx hqL ?_
      refine ⟨⟨vv, by rw [e6.out]; first | exact vv | exact vw⟩, by (simp only [put_next]; omega), ?_, ?_⟩
      · repeat' (first | exact m2 | refine Eq.trans (put_other _ _ (by omega)) ?_)
      · repeat' (first | exact m3 | refine Eq.trans (put_other _ _ (by omega)) ?_)
    · have e6 : lea (q + 1) = lea q := by rw [e5.out, if_neg (by rintro (h1 | h1); exact hc1 h1; exact hc2 h1)]
      replace e6 := Hid.mk e6
      repeat' (with_reducible first | refine x_ops ?_ | refine wk ?_ | (with_reducible refine xc (C5) ?_) | (with_reducible refine xc (CX) ?_) | (with_reducible refine xc (SG) ?_) | ((first | refine gd1 ?_ ?_ | refine gd2 ?_ ?_ | refine gd3 ?_ ?_) <;> (first | exact @False.elim _ | intro hc)))
      refine nx hqL ?_
      refine ⟨⟨vv, by rw [e6.out]; exact vw⟩, by (simp only [put_next]; omega), ?_, ?_⟩
      · repeat' (first | exact m2 | refine Eq.trans (put_other _ _ (by omega)) ?_)
      · repeat' (first | exact m3 | refine Eq.trans (put_other _ _ (by omega)) ?_)
  · rw [e2] at CX
    dsimp only at CX
    have e6 := Hid.mk e3
    clear e2 e3
    repeat' (with_reducible first | refine x_ops ?_ | refine wk ?_ | (with_reducible refine xc (C5) ?_) | (with_reducible refine xc (CX) ?_) | (with_reducible refine xc (SG) ?_) | ((first | refine gd1 ?_ ?_ | refine gd2 ?_ ?_ | refine gd3 ?_ ?_) <;> (first | exact @False.elim _ | intro hc)))
    refine nx hqL ?_
    refine ⟨⟨vv, by rw [e6.out]; exact vw⟩, by (simp only [put_next]; omega), ?_, ?_⟩
    · repeat' (first | exact m2 | refine Eq.trans (put_other _ _ (by omega)) ?_)
    · repeat' (first | exact m3 | refine Eq.trans (put_other _ _ (by omega)) ?_)
end Go.Proofs.Ytojjdkoglhecbaa
