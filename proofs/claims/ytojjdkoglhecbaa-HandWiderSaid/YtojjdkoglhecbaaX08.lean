/- The lister, run: it is made. The best fingering of a net, in plain terms. Nothing is run here. The lister, run: the first fingering, and Best. The least costs of a net, in plain terms. Nothing is run here. The lister, run: first and Best. Two nets side by side, in plain terms: a hand that is wider or lighter. Nothing is run here. Functions of the program, as code on values by numbers: printed by a program from the program that was given, and held against it here. All frets and positions raised: plain. rest and chosen of the laws, on values. The law HandRaised, on values. A wider hand, in plain terms. Nothing is run here. More arguments read: searches, grips, lists of numbers. Laws about tables: SameTable, Changed. More arguments read: tables and changes. Heavy of the laws, on values. The law HandProves, on values. The law HandWider. More arguments read: a hand that gets wider; a search, with its length. -/
import Derived.Test.YtojjdkoglhecbaaG0
import Derived.Test.YtojjdkoglhecbaaWk
import Derived.Test.YtojjdkoglhecbaaX03
import Derived.Test.YtojjdkoglhecbaaX04
import Derived.Test.YtojjdkoglhecbaaXw
import Derived.Test.YtojjdkoglhecbaaX06
import Derived.Test.YtojjdkoglhecbaaX07
set_option linter.unusedSimpArgs false
set_option linter.unusedVariables false
namespace Go.Proofs.Ytojjdkoglhecbaa
open Go.RowKit

/-- The first ways of the root. -/
noncomputable def rtL (h : Hand) (l : List Chord) (Gs : List (List Grip)) : Nat → List Way
  | 0 => []
  | j + 1 => if (rsT h l Gs 0).getD j 0 = -1 then rtL h l Gs j else rtL h l Gs j ++ [((rsT h l Gs 0).getD j 0, (j : Int), 0)]
theorem rtL_len (h : Hand) (l : List Chord) (Gs : List (List Grip)) : ∀ j, (rtL h l Gs j).length ≤ j
  | 0 => Nat.le_refl _
  | j + 1 => by
    have := rtL_len h l Gs j
    rw [rtL]; split
    · omega
    · rw [List.length_append]; simp; omega
/-- Where list stands, with i rows. -/
structure LiSt (h : Hand) (l : List Chord) (Gs : List (List Grip)) (m : Mm) (i nq : Nat) (rs : List Nat) (M : Mm) : Prop where
  nx : m.next + 7 ≤ M.next
  tbo : M.obj (m.next + 5) = some (.box [netE h l Gs, bxL i nq, .ptr (m.next + 3) 0] 162)
  rto : M.obj (m.next + 3) = some (.box [.sl 0 [] .exact, .sl 0 [] .exact, .fn 110 [], vbool false] 159)
  nqo : 0 < i → M.obj nq = some (.box (rwN rs (Gs.take i)) 163) ∧ m.next + 7 ≤ nq ∧ nq < M.next
  rl : rs.length = i
  row : ∀ y, y < i → M.obj (rs.getD y 0) = some (.box (nilR (Gs.getD y []).length) 150) ∧ m.next + 7 ≤ rs.getD y 0 ∧ rs.getD y 0 < nq
  inc : ∀ y z, y < z → z < i → rs.getD y 0 < rs.getD z 0
  fr : ∀ q, q < m.next → M.obj q = m.obj q
theorem rwN_len (rs : List Nat) (Gs : List (List Grip)) : (rwN rs Gs).length = Gs.length := by simp [rwN]
theorem rwN_one (rs : List Nat) (Gs : List (List Grip)) : (rwN rs Gs).all V.one = true := by
  rw [List.all_eq_true]
  intro v hv
  rw [rwN] at hv
  obtain ⟨y, _, rfl⟩ := List.mem_map.1 hv
  rfl
theorem rwN_snoc {rs : List Nat} {Gs : List (List Grip)} {k q : Nat} (hk : k < Gs.length) (hq : rs.length = k) : rwN (rs ++ [q]) (Gs.take (k + 1)) = rwN rs (Gs.take k) ++ [.bsl q 0 (Gs.getD k []).length (Gs.getD k []).length] := by
  have l1 : (Gs.take (k + 1)).length = k + 1 := by rw [List.length_take]; omega
  have l2 : (Gs.take k).length = k := by rw [List.length_take]; omega
  rw [rwN, rwN, l1, l2, List.range_succ, List.map_append, List.map_cons, List.map_nil]
  have ha : (rs ++ [q]).getD k 0 = q := by simp [List.getD_eq_getElem?_getD, ← hq]
  have gT : ∀ (n y : Nat), y < n → (Gs.take n).getD y [] = Gs.getD y [] := fun n y h => by simp [List.getD_eq_getElem?_getD, List.getElem?_take, h]
  rw [ha, gT (k + 1) k (by omega)]
  congr 1
  apply List.map_congr_left
  intro y hy
  have hyk := List.mem_range.1 hy
  have hc : (rs ++ [q]).getD y 0 = rs.getD y 0 := by simp [List.getD_eq_getElem?_getD, List.getElem?_append_left (show y < rs.length by omega)]
  rw [hc, gT _ _ (show y < k + 1 by omega), gT _ _ hyk]
/-- What list leaves. -/
def LsPost (h : Hand) (l : List Chord) (Gs : List (List Grip)) (m : Mm) (r : V) (M' : Mm) : Prop :=
  m.next ≤ M'.next ∧ (∀ q, q < m.next → M'.obj q = m.obj q) ∧ ∃ tb nq rt rs, r = .ptr tb 0 ∧ (m.next ≤ tb ∧ tb < M'.next) ∧ (∃ nv, M'.obj tb = some (.box [netE h l Gs, nv, .ptr rt 0] 162)) ∧
    (0 < l.length → LsM h l Gs tb nq rt rs 0 M' ∧ (m.next ≤ rt ∧ rt < M'.next) ∧ ∃ v H, M'.obj rt = some (.box [.sl 0 [] .exact, v, .fn 110 [], vbool false] 159) ∧ QV M' v H ∧ HpOk H ∧ H.Perm (rtL h l Gs (rsT h l Gs 0).length))

set_option maxHeartbeats 4000000 in
theorem list_sfn {h : Hand} {l : List Chord} {Gs : List (List Grip)} (hn : NetOk h l Gs) (m : Mm) : SFn Try.prog Gd 74 [netE h l Gs] m (LsPost h l Gs m) := by
  refine SFn.of_vxS k_hand_list_b (by simp) ?_
  have h4 := hn.len
  have gl := hn.gl
  unfold c_hand_list_b
  replace gl := Hid.mk gl
  have hnet : netE h l Gs = .ept [.sl h.low.length (h.low.map vint) .no, .sl h.high.length (h.high.map vint) .no, .sl h.barre.length (h.barre.map vbool) .no, .lit (.int .i64 h.top), .lit (.int .i64 h.jump), .lit (.int .i64 h.shift), .lit (.int .i64 h.lift), .lit (.int .i64 h.bar), .lit (.int .i64 h.stretch), .lit (.int .i64 h.slide),
    .sl l.length (l.flatMap Chord.cells) .no, .sl Gs.length (Gs.map tGs) .no, .sl (owA h l Gs).length ((owA h l Gs).map tIs) .no, .sl (rsA h l Gs).length ((rsA h l Gs).map tIs) .no] 0 := rfl
  replace hnet := Hid.mk hnet
  rw [hnet.out]
  repeat' (with_reducible first | refine x_ops ?_ | refine wk ?_ | ((first | refine gd1 ?_ ?_ | refine gd2 ?_ ?_ | refine gd3 ?_ ?_) <;> (first | exact @False.elim _ | intro hc)))
  refine x_genM (fun t M => (t 0 = .ept [.sl h.low.length (h.low.map vint) .no, .sl h.high.length (h.high.map vint) .no, .sl h.barre.length (h.barre.map vbool) .no, .lit (.int .i64 h.top), .lit (.int .i64 h.jump), .lit (.int .i64 h.shift), .lit (.int .i64 h.lift), .lit (.int .i64 h.bar), .lit (.int .i64 h.stretch), .lit (.int .i64 h.slide),
    .sl l.length (l.flatMap Chord.cells) .no, .sl Gs.length (Gs.map tGs) .no, .sl (owA h l Gs).length ((owA h l Gs).map tIs) .no, .sl (rsA h l Gs).length ((rsA h l Gs).map tIs) .no] 0 ∧ t 3 = .ptr (m.next + 5) 0 ∧ t 17 = vint l.length ∧ t 18 = vint 0) ∧ LiSt h l Gs m 0 0 [] M)
    ⟨⟨vv, vv, vv, vv⟩, ⟨Nat.le_refl _, ?_, ?_, fun h0 => by omega, rfl, fun y hy => by omega, fun y z _ hz => by omega, fun q hq => by ((simp only [put_obj]; repeat rw [if_neg (by omega)]))⟩⟩ ?_
  · rw [hnet.out]; exact put_same _ _ _
  · refine (put_other _ _ (by omega)).trans (put_same _ _ _)
  rintro t0 M0 ⟨⟨a0, a3, a17, a18⟩, hs0⟩
  refine x_loopW w_hand_list_b_p4 kr l.length (fun i t M => t 18 = vint (i : Int) ∧ ∃ nq rs, LiSt h l Gs m i nq rs M) ?_ ?_
  · exact ⟨a18, 0, [], hs0⟩
  clear a18 hs0
  rintro i t M hi ⟨h18, nq, rs, hs⟩
  have hnx := hs.nx
  have o1 := hs.tbo
  have l1 : m.next + 5 < M.next := by omega
  by_cases hil : i < l.length
  · have c1 : (i : Int) < (l.length : Int) := by omega
    have w1 := w_add1 (k := i) (by omega)
    have gle := gl.out
    have g1 := gss_at' (l := Gs) (k := i) (by omega)
    have hcnt := hn.cnt i
    have k1 : ((Gs.getD i []).length : Int) * 8 ≤ 140737488355328 := by omega
    have k2 : ((Gs.getD i []).length : Int) ≤ 140737488355328 := by omega
    have hs1 := Hid.mk hs
    have hfl : (List.replicate (Gs.getD i []).length [V.lit (Value.pointer none)]).flatten = nilR (Gs.getD i []).length := by rw [nilR]; simp
    clear hs
    repeat' (with_reducible first | refine x_ops ?_ | refine wk ?_ | ((first | refine gd1 ?_ ?_ | refine gd2 ?_ ?_ | refine gd3 ?_ ?_) <;> (first | exact @False.elim _ | intro hc)))
    refine x_appG (k := i) (oq := nq) (cs := rwN rs (Gs.take i)) (v := .bsl (M.next + 13) 0 (Gs.getD i []).length (Gs.getD i []).length) vw ?_ ?_ (by rw [rwN_len, List.length_take]; omega) (rwN_one _ _) (by omega) (by unfold Go.maxLen; omega) ?_
    · have e : ∀ (mm : Mm) c, c.one = true → rdS (mm.put (M.next + 14) (.box [c] 163)) 1 (.gsl (M.next + 14) 1 1) = some (1, [c]) := fun mm c hc => by
        simp [rdS, put_same, hc]
      exact e _ _ rfl
    · intro h0
      have := (hs1.out.nqo h0).2.2
      exact (put_other _ _ (by omega)).trans ((put_other _ _ (by omega)).trans (hs1.out.nqo h0).1)
    intro m2 n2 f2 b2
    have n2' : m2.next = M.next + 19 := n2
    have lt : ∀ q, q < M.next → (0 < i → q ≠ nq) → m2.obj q = M.obj q := fun q hq hqn => (f2 q (by show ¬ q = M.next + 15; omega) hqn).trans ((put_other _ _ (by omega)).trans (put_other _ _ (by omega)))
    have q1 : m2.obj (m.next + 5) = _ := (lt (m.next + 5) l1 (fun h0 => by have := (hs1.out.nqo h0).2.1; omega)).trans o1
    have row : m2.obj (M.next + 13) = some (.box (nilR (Gs.getD i []).length) 150) := (f2 _ (by show ¬ M.next + 13 = M.next + 15; omega) (fun h0 => by have := (hs1.out.nqo h0).2.2; omega)).trans ((put_other _ _ (by omega)).trans (put_same _ _ _))
    have hs2 : LiSt h l Gs m (i + 1) (M.next + 15) (rs ++ [M.next + 13]) (m2.put (m.next + 5) (.box [netE h l Gs, .gsl (M.next + 15) (i + 1) 1, .ptr (m.next + 3) 0] 162)) := by
      have hq := hs1.out.rl
      have gq : ∀ y, y < i → (rs ++ [M.next + 13]).getD y 0 = rs.getD y 0 := fun y hy => by simp [List.getD_eq_getElem?_getD, List.getElem?_append_left (show y < rs.length by omega)]
      have gN : (rs ++ [M.next + 13]).getD i 0 = M.next + 13 := by simp [List.getD_eq_getElem?_getD, ← hq]
      refine ⟨by show m.next + 7 ≤ m2.next; omega, put_same _ _ _, ?_, fun _ => ⟨?_, by omega, by show M.next + 15 < m2.next; omega⟩, by rw [List.length_append, hq]; rfl, fun y hy => ?_, fun y z hyz hz => ?_, fun q hq' => ?_⟩
      · exact (put_other _ _ (by omega)).trans ((lt (m.next + 3) (by omega) (fun h0 => by have := (hs1.out.nqo h0).2.1; omega)).trans hs1.out.rto)
      · rw [rwN_snoc (by omega) hq]; exact (put_other _ _ (by omega)).trans b2
      · by_cases e : y = i
        · subst e; rw [gN]; exact ⟨(put_other _ _ (by omega)).trans row, by omega, by omega⟩
        · rw [gq y (by omega)]
          obtain ⟨r1, r2, r3⟩ := hs1.out.row y (by omega)
          have r4 := (hs1.out.nqo (by omega)).2.2
          exact ⟨(put_other _ _ (by omega)).trans ((lt _ (by omega) (fun _ => by omega)).trans r1), r2, by omega⟩
      · rw [gq y (by omega)]
        by_cases e : z = i
        · subst e; rw [gN]
          have r3 := (hs1.out.row y (by omega)).2.2
          have r4 := (hs1.out.nqo (by omega)).2.2
          omega
        · rw [gq z (by omega)]; exact hs1.out.inc y z hyz (by omega)
      · exact (put_other _ _ (by omega)).trans ((lt q (by omega) (fun h0 => by have := (hs1.out.nqo h0).2.1; omega)).trans (hs1.out.fr q hq'))
    replace hs2 := Hid.mk hs2
    replace n2' := Hid.mk n2'
    clear f2 b2 n2 lt row o1 hfl
    repeat' (with_reducible first | refine x_ops ?_ | refine wk ?_ | ((first | refine gd1 ?_ ?_ | refine gd2 ?_ ?_ | refine gd3 ?_ ?_) <;> (first | exact @False.elim _ | intro hc)))
    exact nx hil ⟨vv, M.next + 15, rs ++ [M.next + 13], hs2.out⟩
  have hie : i = l.length := by omega
  subst hie
  have c1 : ¬ (l.length : Int) < (l.length : Int) := by omega
  replace hs := Hid.mk hs
  clear hi hil o1
  by_cases h0 : 0 < l.length
  case neg =>
    have c2 : ¬ (0 : Int) < (l.length : Int) := by omega
    have h0' := Hid.mk h0
    clear h0
    repeat' (with_reducible first | refine x_ops ?_ | refine wk ?_ | ((first | refine gd1 ?_ ?_ | refine gd2 ?_ ?_ | refine gd3 ?_ ?_) <;> (first | exact @False.elim _ | intro hc)))
    exact ⟨.inr rfl, .ptr (m.next + 5) 0, vv, by show m.next ≤ M.next; omega, hs.out.fr, m.next + 5, 0, m.next + 3, [], rfl, ⟨by omega, by show m.next + 5 < M.next; omega⟩, ⟨_, hs.out.tbo⟩, fun h1 => absurd h1 h0'.out⟩
  have c2 : (0 : Int) < (l.length : Int) := by omega
  have hL0 : LsM h l Gs (m.next + 5) nq (m.next + 3) rs 0 M := by
    have e5 : bxL l.length nq = .gsl nq l.length 1 := if_neg (by omega)
    have htk : Gs.take l.length = Gs := List.take_of_length_le (by rw [gl.out]; exact Nat.le_refl _)
    obtain ⟨n1, n2, n3⟩ := hs.out.nqo h0
    rw [htk] at n1
    refine ⟨by rw [← e5]; exact hs.out.tbo, n1, fun y _ hy => (hs.out.row y hy).1, hs.out.inc, l1, n3, fun y hy => by have := (hs.out.row y hy).2.2; omega, by omega, fun y hy => ⟨by have := (hs.out.row y hy).2.1; omega, by have := (hs.out.row y hy).2.2; omega⟩⟩
  have hrt := hs.out.rto
  have hfr := hs.out.fr
  replace hfr := Hid.mk hfr
  have hT0 := rsT_len (h := h) (Gs := Gs) h0
  have hcn := hn.cnt 0
  have g5 := iss_at' (l := rsA h l Gs) (k := 0) (by rw [rsA_len]; exact h0)
  rw [rsA_at h0] at g5
  have g6 := rsA_len (h := h) (l := l) (Gs := Gs)
  generalize hNe : rsT h l Gs 0 = N at *
  replace hNe := Hid.mk hNe
  replace hT0 := Hid.mk hT0
  have h0' := Hid.mk h0
  clear h0 hs
  repeat' (with_reducible first | refine x_ops ?_ | refine wk ?_ | ((first | refine gd1 ?_ ?_ | refine gd2 ?_ ?_ | refine gd3 ?_ ?_) <;> (first | exact @False.elim _ | intro hc)))
  refine x_gen (fun t => t 3 = .ptr (m.next + 5) 0 ∧ t 51 = .sl N.length (N.map vint) .no ∧ t 52 = vint N.length ∧ t 53 = vint 0) ⟨vw, vv, vv, vv⟩ ?_
  clear a0 a3 a17 h18
  rintro t6 ⟨a3, a51, a52, a53⟩
  have hrl : ∀ k, k < N.length → rtL h l Gs (k + 1) = if N.getD k 0 = -1 then rtL h l Gs k else rtL h l Gs k ++ [(N.getD k 0, (k : Int), 0)] := fun k _ => by rw [rtL, hNe.out]
  refine x_loopW w_hand_list_b_p10 kr N.length (fun k t M' => t 53 = vint (k : Int) ∧ NdM M (m.next + 3) (rtL h l Gs k) M') ?_ ?_
  · exact ⟨a53, Nat.le_refl _, ⟨_, [], hrt, .inl ⟨rfl, rfl⟩, fun j h0 hj => by simp at hj, .refl _, fun q n e => by cases e⟩, fun _ _ _ => rfl⟩
  clear a53
  rintro k t7 M' hk ⟨h53, hM'⟩
  have hM0 := Hid.mk hM'
  obtain ⟨j1, ⟨v, H, j2, j3, j4, j5, j6⟩, j7⟩ := hM'
  by_cases hkl : k < N.length
  case neg =>
    have hke : k = N.length := by omega
    subst hke
    have cc1 : ¬ (N.length : Int) < (N.length : Int) := by omega
    have lsm := hL0.mono (M' := M') (Nat.le_refl _) j1 (j7 _ l1 (by omega)) (j7 _ hL0.ltn (ne_type hL0.nqo hrt (by decide))) (fun y hy hyl => j7 _ (hL0.ltr y hyl) (ne_type (hL0.row y hy hyl) hrt (by decide)))
    have fr2 : ∀ q, q < m.next → M'.obj q = m.obj q := fun q hq => (j7 q (by omega) (by omega)).trans (hfr.out q hq)
    have hfin : LsPost h l Gs m (.ptr (m.next + 5) 0) M' := by
      refine ⟨by omega, fr2, m.next + 5, nq, m.next + 3, rs, rfl, ⟨by omega, by omega⟩, ⟨_, lsm.tbo⟩, fun _ => ⟨lsm, ⟨by omega, by omega⟩, v, H, j2, j3, j4, by rw [hNe.out]; exact j5⟩⟩
    replace hfin := Hid.mk hfin
    clear j1 j2 j3 j4 j5 j6 j7 hM0 fr2 lsm hL0 hrl hkl hk
    repeat' (with_reducible first | refine x_ops ?_ | refine wk ?_ | ((first | refine gd1 ?_ ?_ | refine gd2 ?_ ?_ | refine gd3 ?_ ?_) <;> (first | exact @False.elim _ | intro hc)))
    exact ⟨.inr rfl, .ptr (m.next + 5) 0, vw, hfin.out⟩
  have cc1 : (k : Int) < (N.length : Int) := by omega
  have g1 := ints_at hkl
  have wk' := w_add1 (k := k) (by have := hT0.out; omega)
  have q1 := (j7 (m.next + 5) l1 (by omega)).trans hL0.tbo
  have hrk := hrl k hkl
  by_cases hno : N.getD k 0 = -1
  · have e2 : (N.getD k 0 == -1) = true := by rw [hno]; rfl
    rw [if_pos hno] at hrk
    replace hrk := Hid.mk hrk
    clear hno hrl j2 j3 j4 j5 j6 j7 hk
    repeat' (with_reducible first | refine x_ops ?_ | refine wk ?_ | ((first | refine gd1 ?_ ?_ | refine gd2 ?_ ?_ | refine gd3 ?_ ?_) <;> (first | exact @False.elim _ | intro hc)))
    exact nx hkl ⟨vv, by rw [hrk.out]; exact hM0.out⟩
  have e2 : (N.getD k 0 == -1) = false := by rw [beq_eq_false_iff_ne]; exact hno
  rw [if_neg hno] at hrk
  have hHl := j5.length_eq
  have hrlen := rtL_len h l Gs k
  have PS := push_psh (w := (N.getD k 0, (k : Int), 0)) j2 (by omega) j3 j4 (by have := hT0.out; omega)
  have PE := PshPost.some (fv := .sl 0 [] .exact) (v := v) (dv := vbool false) (N.getD k 0, (k : Int), 0) (show m.next + 3 < M'.next by omega) j4
  have hpush : ∀ r M2, PshPost M' (m.next + 3) (.sl 0 [] .exact) v (vbool false) H (N.getD k 0, (k : Int), 0) r M2 → NdM M (m.next + 3) (rtL h l Gs k ++ [(N.getD k 0, (k : Int), 0)]) M2 := fun r M2 hP => ndM_push (by omega) j2 j1 j5 j6 j7 hP
  dsimp only at PS
  replace hpush := Hid.mk hpush
  replace hrk := Hid.mk hrk
  clear hno hrl j2 j3 j4 j5 j6 j7 hk hHl
  repeat' (with_reducible first | refine x_ops ?_ | refine wk ?_ | ((first | refine gd1 ?_ ?_ | refine gd2 ?_ ?_ | refine gd3 ?_ ?_) <;> (first | exact @False.elim _ | intro hc)))
  refine x_scallR [.ptr (m.next + 3) 1, .agg [vint (N.getD k 0), vint (k : Int), vint 0]] vw PS PE ?_
  rintro r M2 hP
  have hr := hP.1
  subst hr
  have hM2 := Hid.mk (hpush.out _ _ hP)
  clear PS PE hP
  repeat' (with_reducible first | refine x_ops ?_ | refine wk ?_ | ((first | refine gd1 ?_ ?_ | refine gd2 ?_ ?_ | refine gd3 ?_ ?_) <;> (first | exact @False.elim _ | intro hc)))
  exact nx hkl ⟨vv, by rw [hrk.out]; exact hM2.out⟩
end Go.Proofs.Ytojjdkoglhecbaa
namespace Go.Proofs.Ytojjdkoglhecbaa
open Go.RowKit

/-- The first of some ways. -/
noncomputable def bstW (L : List Way) : Way := (Classical.choose (heap_ex L)).getD 0 noW
/-- Ways that are told apart by their order. -/
def TotW (L : List Way) : Prop := ∀ a ∈ L, ∀ b ∈ L, befW a b = false → befW b a = false → a = b
theorem mem_getW {L : List Way} {w : Way} (h : w ∈ L) : ∃ j, j < L.length ∧ L.getD j noW = w := by
  obtain ⟨j, hj, e⟩ := List.mem_iff_getElem.1 h
  exact ⟨j, hj, by rw [List.getD_eq_getElem?_getD, List.getElem?_eq_getElem hj]; exact e⟩
theorem heap_min {H L : List Way} (hh : HpOk H) (hp : H.Perm L) (hL : L ≠ []) : H.getD 0 noW ∈ L ∧ ∀ w ∈ L, befW w (H.getD 0 noW) = false := by
  have h0 : 0 < H.length := by rw [hp.length_eq]; exact List.length_pos_iff.2 hL
  refine ⟨hp.mem_iff.1 (mem_getD _ h0), fun w hw => ?_⟩
  obtain ⟨j, hj, rfl⟩ := mem_getW (hp.mem_iff.2 hw)
  exact hp_min hh j hj
theorem bstW_ok {L : List Way} (hL : L ≠ []) : bstW L ∈ L ∧ ∀ w ∈ L, befW w (bstW L) = false := by
  have h := Classical.choose_spec (heap_ex L)
  exact heap_min h.1 h.2 hL
theorem bstW_heap {H L : List Way} (hh : HpOk H) (hp : H.Perm L) (hL : L ≠ []) (ht : TotW L) : H.getD 0 noW = bstW L := by
  have h1 := heap_min hh hp hL
  have h2 := bstW_ok hL
  exact ht _ h1.1 _ h2.1 (h2.2 _ h1.1) (h1.2 _ h2.1)
theorem befW_cost {a b : Way} (h : befW a b = false) : b.1 ≤ a.1 := by
  unfold befW at h
  split at h <;> simp only [decide_eq_false_iff_not] at h <;> omega

section
variable {h : Hand} {l : List Chord} {Gs : List (List Grip)}
theorem wayL_mem {i k : Nat} : ∀ {j : Nat} {w : Way}, w ∈ wayL h l Gs i k j → ∃ q, q < j ∧ ¬ (rsT h l Gs (i + 1)).getD q 0 = -1 ∧ (stepR h (l.getD i noC) ((Gs.getD i []).getD k noG) (l.getD (i + 1) noC) ((Gs.getD (i + 1) []).getD q noG)).2 = true ∧
    w = (ownC h (l.getD i noC) ((Gs.getD i []).getD k noG) + (stepR h (l.getD i noC) ((Gs.getD i []).getD k noG) (l.getD (i + 1) noC) ((Gs.getD (i + 1) []).getD q noG)).1 + (rsT h l Gs (i + 1)).getD q 0, (q : Int), 0)
  | 0, w, hw => by simp [wayL] at hw
  | j + 1, w, hw => by
    rw [wayL] at hw
    split at hw
    · obtain ⟨q, h1, h2⟩ := wayL_mem hw; exact ⟨q, by omega, h2⟩
    · rename_i hc
      rcases List.mem_append.1 hw with hw | hw
      · obtain ⟨q, h1, h2⟩ := wayL_mem hw; exact ⟨q, by omega, h2⟩
      · rw [List.mem_singleton] at hw
        refine ⟨j, by omega, fun e => hc (.inl e), ?_, hw⟩
        cases hs : (stepR h (l.getD i noC) ((Gs.getD i []).getD k noG) (l.getD (i + 1) noC) ((Gs.getD (i + 1) []).getD j noG)).2
        · exact absurd (.inr hs) hc
        · rfl
theorem bef_next {a b : Way} (h1 : befW a b = false) (h2 : befW b a = false) : a.2.1 = b.2.1 := by
  have e1 := befW_cost h1
  have e2 := befW_cost h2
  have e3 : a.1 = b.1 := by omega
  unfold befW at h1 h2
  rw [if_pos e3] at h1
  rw [if_pos e3.symm] at h2
  simp only [decide_eq_false_iff_not] at h1 h2
  omega
theorem wayF_tot {i k : Nat} : TotW (wayF h l Gs i k) := by
  intro a ha b hb h1 h2
  have hx := bef_next h1 h2
  rw [wayF, wayB] at ha hb
  by_cases hl : i + 1 = l.length
  · rw [if_pos hl, if_pos hl, wayL, List.append_nil, List.mem_singleton] at ha hb
    rw [ha, hb]
  · rw [if_neg hl, if_neg hl, List.nil_append] at ha hb
    obtain ⟨q, _, _, _, rfl⟩ := wayL_mem ha
    obtain ⟨p, _, _, _, rfl⟩ := wayL_mem hb
    have : q = p := by have h9 : (q : Int) = (p : Int) := hx; omega
    rw [this]
theorem rtL_mem : ∀ {j : Nat} {w : Way}, w ∈ rtL h l Gs j → ∃ q, q < j ∧ ¬ (rsT h l Gs 0).getD q 0 = -1 ∧ w = ((rsT h l Gs 0).getD q 0, (q : Int), 0)
  | 0, w, hw => by simp [rtL] at hw
  | j + 1, w, hw => by
    rw [rtL] at hw
    split at hw
    · obtain ⟨q, h1, h2⟩ := rtL_mem hw; exact ⟨q, by omega, h2⟩
    · rename_i hc
      rcases List.mem_append.1 hw with hw | hw
      · obtain ⟨q, h1, h2⟩ := rtL_mem hw; exact ⟨q, by omega, h2⟩
      · rw [List.mem_singleton] at hw; exact ⟨j, by omega, hc, hw⟩
theorem rtL_has : ∀ {j q : Nat}, q < j → ¬ (rsT h l Gs 0).getD q 0 = -1 → ((rsT h l Gs 0).getD q 0, (q : Int), 0) ∈ rtL h l Gs j
  | 0, q, hq, _ => by omega
  | j + 1, q, hq, hn => by
    rw [rtL]
    by_cases e : q = j
    · subst e; rw [if_neg hn]; exact List.mem_append.2 (.inr (List.mem_singleton.2 rfl))
    · have := rtL_has (j := j) (q := q) (by omega) hn
      split
      · exact this
      · exact List.mem_append.2 (.inl this)
theorem rtL_tot {j : Nat} : TotW (rtL h l Gs j) := by
  intro a ha b hb h1 h2
  have hx := bef_next h1 h2
  obtain ⟨q, _, _, rfl⟩ := rtL_mem ha
  obtain ⟨p, _, _, rfl⟩ := rtL_mem hb
  have : q = p := by have h9 : (q : Int) = (p : Int) := hx; omega
  rw [this]

/-- The least cost is that of the first way. -/
theorem bsU_way (hn : NetOk h l Gs) {i k : Nat} (hi : i + 1 < l.length) (hk : k < (Gs.getD i []).length) : ∀ {j : Nat}, j ≤ (Gs.getD (i + 1) []).length →
    (bsU h (l.getD i noC) ((Gs.getD i []).getD k noG) (l.getD (i + 1) noC) (Gs.getD (i + 1) []) (rsT h l Gs (i + 1)) j = -1 ∧ wayL h l Gs i k j = []) ∨
    (0 ≤ bsU h (l.getD i noC) ((Gs.getD i []).getD k noG) (l.getD (i + 1) noC) (Gs.getD (i + 1) []) (rsT h l Gs (i + 1)) j ∧ (∃ w ∈ wayL h l Gs i k j, w.1 = bsU h (l.getD i noC) ((Gs.getD i []).getD k noG) (l.getD (i + 1) noC) (Gs.getD (i + 1) []) (rsT h l Gs (i + 1)) j) ∧
      ∀ u ∈ wayL h l Gs i k j, bsU h (l.getD i noC) ((Gs.getD i []).getD k noG) (l.getD (i + 1) noC) (Gs.getD (i + 1) []) (rsT h l Gs (i + 1)) j ≤ u.1)
  | 0, _ => .inl ⟨rfl, rfl⟩
  | j + 1, hj => by
    have ih := bsU_way hn hi hk (j := j) (by omega)
    have hi0 : i < l.length := by omega
    have hown := own_bound hn.hk (hn.seq i hi0).1 (hn.grip hi0 hk).1
    have hsb := stepB hn hi hk (m := j) (by omega)
    have hNb := rsT_bound hn _ (i + 1) rfl hi j (by omega)
    by_cases hN : (rsT h l Gs (i + 1)).getD j 0 = -1
    · rw [bsU, wayL, if_pos hN, if_pos (.inl hN)]; exact ih
    have hN0 : 0 ≤ (rsT h l Gs (i + 1)).getD j 0 := by rcases hNb with h1 | h1; exact absurd h1 hN; exact h1.1
    by_cases hs : StepOk h (l.getD i noC) ((Gs.getD i []).getD k noG) (l.getD (i + 1) noC) ((Gs.getD (i + 1) []).getD j noG)
    case neg => rw [bsU, wayL, if_neg hN, stepR_no hs, if_neg (by simp), if_pos (.inr rfl)]; exact ih
    rw [stepR_ok hs] at hsb
    have e1 : bsU h (l.getD i noC) ((Gs.getD i []).getD k noG) (l.getD (i + 1) noC) (Gs.getD (i + 1) []) (rsT h l Gs (i + 1)) (j + 1) = if bsU h (l.getD i noC) ((Gs.getD i []).getD k noG) (l.getD (i + 1) noC) (Gs.getD (i + 1) []) (rsT h l Gs (i + 1)) j = -1 ∨
        ownC h (l.getD i noC) ((Gs.getD i []).getD k noG) + stepC h (l.getD i noC) ((Gs.getD i []).getD k noG) (l.getD (i + 1) noC) ((Gs.getD (i + 1) []).getD j noG) + (rsT h l Gs (i + 1)).getD j 0 < bsU h (l.getD i noC) ((Gs.getD i []).getD k noG) (l.getD (i + 1) noC) (Gs.getD (i + 1) []) (rsT h l Gs (i + 1)) j
        then ownC h (l.getD i noC) ((Gs.getD i []).getD k noG) + stepC h (l.getD i noC) ((Gs.getD i []).getD k noG) (l.getD (i + 1) noC) ((Gs.getD (i + 1) []).getD j noG) + (rsT h l Gs (i + 1)).getD j 0
        else bsU h (l.getD i noC) ((Gs.getD i []).getD k noG) (l.getD (i + 1) noC) (Gs.getD (i + 1) []) (rsT h l Gs (i + 1)) j := by rw [bsU, if_neg hN, stepR_ok hs, if_pos rfl]
    have e2 : wayL h l Gs i k (j + 1) = wayL h l Gs i k j ++ [(ownC h (l.getD i noC) ((Gs.getD i []).getD k noG) + stepC h (l.getD i noC) ((Gs.getD i []).getD k noG) (l.getD (i + 1) noC) ((Gs.getD (i + 1) []).getD j noG) + (rsT h l Gs (i + 1)).getD j 0, (j : Int), 0)] := by
      rw [wayL, stepR_ok hs, if_neg (fun hh => hh.elim hN (fun e => by cases e))]
    rw [e1, e2]
    generalize bsU h (l.getD i noC) ((Gs.getD i []).getD k noG) (l.getD (i + 1) noC) (Gs.getD (i + 1) []) (rsT h l Gs (i + 1)) j = p at *
    generalize wayL h l Gs i k j = W at *
    have hc0 : 0 ≤ ownC h (l.getD i noC) ((Gs.getD i []).getD k noG) + stepC h (l.getD i noC) ((Gs.getD i []).getD k noG) (l.getD (i + 1) noC) ((Gs.getD (i + 1) []).getD j noG) + (rsT h l Gs (i + 1)).getD j 0 := by dsimp only at hsb; omega
    generalize ownC h (l.getD i noC) ((Gs.getD i []).getD k noG) + stepC h (l.getD i noC) ((Gs.getD i []).getD k noG) (l.getD (i + 1) noC) ((Gs.getD (i + 1) []).getD j noG) + (rsT h l Gs (i + 1)).getD j 0 = c at *
    refine .inr ?_
    rcases ih with ⟨hp, rfl⟩ | ⟨hp, ⟨w, hw, hwc⟩, hle⟩
    · rw [if_pos (.inl hp)]
      exact ⟨hc0, ⟨_, List.mem_append.2 (.inr (List.mem_singleton.2 rfl)), rfl⟩, fun u hu => by
        rw [List.nil_append, List.mem_singleton] at hu; subst hu; exact Int.le_refl _⟩
    · by_cases hlt : c < p
      · rw [if_pos (.inr hlt)]
        refine ⟨hc0, ⟨_, List.mem_append.2 (.inr (List.mem_singleton.2 rfl)), rfl⟩, fun u hu => ?_⟩
        rcases List.mem_append.1 hu with hu | hu
        · have := hle u hu; omega
        · rw [List.mem_singleton] at hu; subst hu; exact Int.le_refl _
      · rw [if_neg (by rintro (h1 | h1); omega; exact hlt h1)]
        refine ⟨hp, ⟨w, List.mem_append.2 (.inl hw), hwc⟩, fun u hu => ?_⟩
        rcases List.mem_append.1 hu with hu | hu
        · exact hle u hu
        · rw [List.mem_singleton] at hu; subst hu; show p ≤ c; omega
/-- A grip that leads to the end has ways; the first of them costs what the table says. -/
theorem wayF_ok (hn : NetOk h l Gs) {i k : Nat} (hi : i < l.length) (hk : k < (Gs.getD i []).length) (hr : ¬ (rsT h l Gs i).getD k 0 = -1) :
    wayF h l Gs i k ≠ [] ∧ (bstW (wayF h l Gs i k)).1 = (rsT h l Gs i).getD k 0 ∧ (bstW (wayF h l Gs i k)).2.2 = 0 ∧
    (i + 1 < l.length → ∃ q : Nat, (bstW (wayF h l Gs i k)).2.1 = (q : Int) ∧ q < (Gs.getD (i + 1) []).length ∧ ¬ (rsT h l Gs (i + 1)).getD q 0 = -1 ∧ StepOk h (l.getD i noC) ((Gs.getD i []).getD k noG) (l.getD (i + 1) noC) ((Gs.getD (i + 1) []).getD q noG) ∧
      (rsT h l Gs i).getD k 0 = ownC h (l.getD i noC) ((Gs.getD i []).getD k noG) + stepC h (l.getD i noC) ((Gs.getD i []).getD k noG) (l.getD (i + 1) noC) ((Gs.getD (i + 1) []).getD q noG) + (rsT h l Gs (i + 1)).getD q 0) := by
  rw [rsT_at hi hk, rsE] at hr ⊢
  by_cases hlast : i + 1 = l.length
  · rw [if_pos hlast] at hr ⊢
    have e : wayF h l Gs i k = [(ownC h (l.getD i noC) ((Gs.getD i []).getD k noG), -1, 0)] := by rw [wayF, wayB, if_pos hlast, if_pos hlast, wayL, List.append_nil]
    rw [e]
    have hb := (bstW_ok (L := [(ownC h (l.getD i noC) ((Gs.getD i []).getD k noG), (-1 : Int), (0 : Int))]) (by simp)).1
    rw [List.mem_singleton] at hb
    rw [hb]
    exact ⟨by simp, rfl, rfl, fun h1 => by omega⟩
  · rw [if_neg hlast] at hr ⊢
    have hi1 : i + 1 < l.length := by omega
    have e : wayF h l Gs i k = wayL h l Gs i k (Gs.getD (i + 1) []).length := by rw [wayF, wayB, if_neg hlast, if_neg hlast, List.nil_append, rsT_len hi1]
    rw [e]
    rcases bsU_way hn hi1 hk (Nat.le_refl _) with ⟨h1, _⟩ | ⟨h1, ⟨w, hw, hwc⟩, hle⟩
    · exact absurd h1 hr
    have hne : wayL h l Gs i k (Gs.getD (i + 1) []).length ≠ [] := fun e => by rw [e] at hw; cases hw
    obtain ⟨b1, b2⟩ := bstW_ok hne
    have hc : (bstW (wayL h l Gs i k (Gs.getD (i + 1) []).length)).1 = bsU h (l.getD i noC) ((Gs.getD i []).getD k noG) (l.getD (i + 1) noC) (Gs.getD (i + 1) []) (rsT h l Gs (i + 1)) (Gs.getD (i + 1) []).length := by
      have := befW_cost (b2 w hw)
      have := hle _ b1
      omega
    obtain ⟨q, q1, q2, q3, q4⟩ := wayL_mem b1
    have hso : StepOk h (l.getD i noC) ((Gs.getD i []).getD k noG) (l.getD (i + 1) noC) ((Gs.getD (i + 1) []).getD q noG) := by
      by_cases hx : StepOk h (l.getD i noC) ((Gs.getD i []).getD k noG) (l.getD (i + 1) noC) ((Gs.getD (i + 1) []).getD q noG)
      · exact hx
      · rw [stepR_no hx] at q3; cases q3
    refine ⟨hne, hc, by rw [q4], fun _ => ⟨q, by rw [q4], q1, q2, hso, ?_⟩⟩
    rw [← hc, q4, stepR_ok hso]
end
end Go.Proofs.Ytojjdkoglhecbaa
namespace Go.Proofs.Ytojjdkoglhecbaa
open Go.RowKit

/-- The first way of the root. -/
noncomputable def rootW (h : Hand) (l : List Chord) (Gs : List (List Grip)) : Way := bstW (rtL h l Gs (rsT h l Gs 0).length)
/-- The grips of the best fingering, by their numbers. -/
noncomputable def kS (h : Hand) (l : List Chord) (Gs : List (List Grip)) : Nat → Nat
  | 0 => (rootW h l Gs).2.1.toNat
  | i + 1 => (bstW (wayF h l Gs i (kS h l Gs i))).2.1.toNat
noncomputable def pathU (h : Hand) (l : List Chord) (Gs : List (List Grip)) (n : Nat) : List Grip := (List.range n).map fun i => (Gs.getD i []).getD (kS h l Gs i) noG
theorem pathU_len (h : Hand) (l : List Chord) (Gs : List (List Grip)) (n : Nat) : (pathU h l Gs n).length = n := by simp [pathU]
theorem pathU_succ (h : Hand) (l : List Chord) (Gs : List (List Grip)) (n : Nat) : pathU h l Gs (n + 1) = pathU h l Gs n ++ [(Gs.getD n []).getD (kS h l Gs n) noG] := by simp [pathU, List.range_succ]
/-- Is there a fingering? -/
def HasF (h : Hand) (l : List Chord) (Gs : List (List Grip)) : Prop := rtL h l Gs (rsT h l Gs 0).length ≠ []
open Classical in
/-- What first answers. -/
noncomputable def fstR (h : Hand) (l : List Chord) (Gs : List (List Grip)) : List Grip × Int × Int :=
  if l.length = 0 then ([], 0, 0) else if HasF h l Gs then (pathU h l Gs l.length, (rootW h l Gs).1, 0) else ([], 0, 62)
theorem rootW_ok {h : Hand} {l : List Chord} {Gs : List (List Grip)} (hh : HasF h l Gs) : ∃ q : Nat, rootW h l Gs = ((rsT h l Gs 0).getD q 0, (q : Int), 0) ∧ q < (rsT h l Gs 0).length ∧ ¬ (rsT h l Gs 0).getD q 0 = -1 := by
  obtain ⟨q, q1, q2, q3⟩ := rtL_mem (bstW_ok hh).1
  exact ⟨q, q3, q1, q2⟩
theorem kS_ok {h : Hand} {l : List Chord} {Gs : List (List Grip)} (hn : NetOk h l Gs) (hh : HasF h l Gs) : ∀ {i : Nat}, i < l.length → kS h l Gs i < (Gs.getD i []).length ∧ ¬ (rsT h l Gs i).getD (kS h l Gs i) 0 = -1
  | 0, hi => by
    obtain ⟨q, q1, q2, q3⟩ := rootW_ok hh
    rw [rsT_len hi] at q2
    rw [kS, q1]; exact ⟨q2, q3⟩
  | i + 1, hi => by
    obtain ⟨h1, h2⟩ := kS_ok hn hh (i := i) (by omega)
    obtain ⟨_, _, _, h3⟩ := wayF_ok hn (by omega) h1 h2
    obtain ⟨q, q1, q2, q3, _⟩ := h3 hi
    rw [kS, q1, Int.toNat_natCast]
    exact ⟨q2, q3⟩
/-- The next grip, as get gives it. -/
theorem kS_next {h : Hand} {l : List Chord} {Gs : List (List Grip)} (hn : NetOk h l Gs) (hh : HasF h l Gs) {i : Nat} (hi : i < l.length) {H : List Way} (hH : HpOk H) (hp : H.Perm (wayF h l Gs i (kS h l Gs i))) :
    ∃ c x : Int, GtRes H = .tup [.agg [vint c, vint x, vint 0], vbool true] ∧ (i + 1 < l.length → x = (kS h l Gs (i + 1) : Int)) := by
  obtain ⟨h1, h2⟩ := kS_ok hn hh hi
  obtain ⟨w1, w2, w3, w4⟩ := wayF_ok hn hi h1 h2
  have e := bstW_heap hH hp w1 wayF_tot
  have hne : H ≠ [] := fun e0 => by subst e0; exact w1 (List.nil_perm.1 hp)
  refine ⟨(bstW (wayF h l Gs i (kS h l Gs i))).1, (bstW (wayF h l Gs i (kS h l Gs i))).2.1, by rw [GtRes, if_neg hne, e, w3], fun hi1 => ?_⟩
  obtain ⟨q, q1, _⟩ := w4 hi1
  rw [kS, q1, Int.toNat_natCast]

/-- All that is neither node nor way is as it was. -/
def Fr (M M' : Mm) : Prop := M.next ≤ M'.next ∧ ∀ q cs t, q < M.next → M.obj q = some (.box cs t) → t ≠ 159 → t ≠ 154 → t ≠ 150 → M'.obj q = M.obj q
/-- What fingering leaves. -/
def FgPost (h : Hand) (l : List Chord) (Gs : List (List Grip)) (M : Mm) (r : V) (M' : Mm) : Prop :=
  Fr M M' ∧ ∃ (G : List Grip) (c : Int) (is : Bool) (tok : Tok), r = .tup [.agg [.sl G.length (G.flatMap Grip.cells) tok, vint c], vbool is] ∧ ((is = true ∧ fstR h l Gs = (G, c, 0)) ∨ (is = false ∧ fstR h l Gs = ([], 0, 62)))
theorem fgPost_ex (h : Hand) (l : List Chord) (Gs : List (List Grip)) (M : Mm) : ∃ r M', FgPost h l Gs M r M' := by
  have hf : Fr M M := ⟨Nat.le_refl _, fun _ _ _ _ _ _ _ _ => rfl⟩
  unfold FgPost fstR
  split
  · exact ⟨_, M, hf, [], 0, true, .no, rfl, .inl ⟨rfl, rfl⟩⟩
  · split
    · exact ⟨_, M, hf, _, _, true, .no, rfl, .inl ⟨rfl, rfl⟩⟩
    · exact ⟨_, M, hf, [], 0, false, .no, rfl, .inr ⟨rfl, rfl⟩⟩

/-- Where fingering stands. -/
structure FgSt (h : Hand) (l : List Chord) (Gs : List (List Grip)) (tb nq rt : Nat) (rs : List Nat) (mS : Mm) (n0 : Nat) (cost : Int) (i : Nat) (M : Mm) : Prop where
  fr : Fr mS M
  nx : n0 + 11 ≤ M.next
  ls : LsM h l Gs tb nq rt rs i M
  fb : ∃ tok, M.obj n0 = some (.box [.sl i ((pathU h l Gs i).flatMap Grip.cells) tok, vint cost] 40) ∧ Apb M tok i 53 2
  wb : ∃ c x : Int, M.obj (n0 + 8) = some (.box [vint c, vint x, vint 0] 154) ∧ (i < l.length → x = (kS h l Gs i : Int))

set_option maxHeartbeats 4000000 in
theorem fing_sfn {h : Hand} {l : List Chord} {Gs : List (List Grip)} (hn : NetOk h l Gs) {m0 M : Mm} {r0 : V} (hP : LsPost h l Gs m0 r0 M) : SFn Try.prog Gd 75 [r0, vint 0] M (FgPost h l Gs M) := by
  obtain ⟨_, _, tb, nq, rt, rs, rfl, ⟨_, l1⟩, ⟨nv, o1⟩, hL⟩ := hP
  refine SFn.of_vxS k_hand_lister_fingering (by simp) ?_
  have h4 := hn.len
  have gl := hn.gl
  have x0 : ¬ tb = M.next := by omega
  have hnet : netE h l Gs = .ept [.sl h.low.length (h.low.map vint) .no, .sl h.high.length (h.high.map vint) .no, .sl h.barre.length (h.barre.map vbool) .no, .lit (.int .i64 h.top), .lit (.int .i64 h.jump), .lit (.int .i64 h.shift), .lit (.int .i64 h.lift), .lit (.int .i64 h.bar), .lit (.int .i64 h.stretch), .lit (.int .i64 h.slide),
    .sl l.length (l.flatMap Chord.cells) .no, .sl Gs.length (Gs.map tGs) .no, .sl (owA h l Gs).length ((owA h l Gs).map tIs) .no, .sl (rsA h l Gs).length ((rsA h l Gs).map tIs) .no] 0 := rfl
  replace hnet := Hid.mk hnet
  replace gl := Hid.mk gl
  have o1' := o1
  rw [hnet.out] at o1
  unfold c_hand_lister_fingering
  by_cases hl0 : l.length = 0
  · have e1 : ((l.length : Int) == 0) = true := by rw [beq_iff_eq]; omega
    have hf : fstR h l Gs = ([], 0, 0) := by rw [fstR, if_pos hl0]
    replace hf := Hid.mk hf
    clear hl0 hL o1'
    repeat' (with_reducible first | refine x_ops ?_ | refine wk ?_ | ((first | refine gd1 ?_ ?_ | refine gd2 ?_ ?_ | refine gd3 ?_ ?_) <;> (first | exact @False.elim _ | intro hc)))
    exact ⟨.inr rfl, _, vv, ⟨by show M.next ≤ M.next + 2; omega, fun q _ _ hq _ _ _ _ => (put_other _ _ (by omega)).trans (put_other _ _ (by omega))⟩, [], 0, true, .exact, rfl, .inl ⟨rfl, hf.out⟩⟩
  have e1 : ((l.length : Int) == 0) = false := by rw [beq_eq_false_iff_ne]; omega
  obtain ⟨hLs, ⟨_, l2⟩, v, H, q1, q2, q3, q4⟩ := hL (by omega)
  have hHl := q4.length_eq
  have hrl := rtL_len h l Gs (rsT h l Gs 0).length
  have hT0 := rsT_len (h := h) (Gs := Gs) (show 0 < l.length by omega)
  have hc0 := hn.cnt 0
  have low : ∀ a : AObj, ∀ q, q < M.next → ((⟨M.obj, M.next + 11⟩ : Mm).put M.next a).obj q = M.obj q := fun a q hq => put_other _ _ (by omega)
  have hL1 : LsM h l Gs tb nq rt rs 0 ((⟨M.obj, M.next + 11⟩ : Mm).put M.next (.box [.sl 0 [] .exact, vint 0] 40)) :=
    hLs.mono (Nat.le_refl _) (by show M.next ≤ M.next + 11; omega) (low _ _ l1) (low _ _ hLs.ltn) (fun y _ hy => low _ _ (hLs.ltr y hy))
  have GR := getR_sfn hL1 (v := v) (H := H) ((low _ _ l2).trans q1) (by show rt < M.next + 11; omega) (q2.mono (by show M.next ≤ M.next + 11; omega) (fun q n e => low _ _ (by
    rcases q2 with ⟨h1, _⟩ | ⟨id, R, h1, h2, h3⟩
    · rw [h1] at e; cases e
    · rw [h1] at e; injection e with e1; subst e1; exact h2))) q3 (by omega)
  have GE : ∃ r M', ((⟨M.obj, M.next + 11⟩ : Mm).put M.next (.box [.sl 0 [] .exact, vint 0] 40)).next ≤ M'.next ∧ r = GtRes H ∧ LsM h l Gs tb nq rt rs 0 M' ∧ ∀ q cs t, q < ((⟨M.obj, M.next + 11⟩ : Mm).put M.next (.box [.sl 0 [] .exact, vint 0] 40)).next → ((⟨M.obj, M.next + 11⟩ : Mm).put M.next (.box [.sl 0 [] .exact, vint 0] 40)).obj q = some (.box cs t) → t ≠ 159 → t ≠ 154 → M'.obj q = ((⟨M.obj, M.next + 11⟩ : Mm).put M.next (.box [.sl 0 [] .exact, vint 0] 40)).obj q := ⟨_, _, Nat.le_refl _, rfl, hL1, fun _ _ _ _ _ _ _ => rfl⟩
  have hl0' := Hid.mk hl0
  replace hn := Hid.mk hn
  have hrlo : ∀ y, y < l.length → rs.getD y 0 < M.next := hLs.ltr
  have hqlo := hLs.ltn
  replace hrlo := Hid.mk hrlo
  replace hqlo := Hid.mk hqlo
  clear hL hLs hL1 low hl0 q1 q2 l2
  repeat' (with_reducible first | refine x_ops ?_ | refine wk ?_ | ((first | refine gd1 ?_ ?_ | refine gd2 ?_ ?_ | refine gd3 ?_ ?_) <;> (first | exact @False.elim _ | intro hc)))
  refine x_scallR [.ptr tb 0, vint (-1), vint 0, vint 0] vw GR GE ?_
  rintro r M2 ⟨p1, rfl, hL2, p4⟩
  have p1' : M.next + 11 ≤ M2.next := p1
  have of := (p4 M.next _ _ (by show M.next < M.next + 11; omega) (put_same _ _ _) (by decide) (by decide)).trans (put_same _ _ _)
  have fr2 : Fr M M2 := ⟨by omega, fun q cs t hq ho ht1 ht2 _ => (p4 q cs t (by show q < M.next + 11; omega) ((put_other _ _ (by omega)).trans ho) ht1 ht2).trans (put_other _ _ (by omega))⟩
  replace fr2 := Hid.mk fr2
  clear GR GE p4 p1 o1
  have y1 : ¬ M.next = M.next + 8 := by omega
  by_cases hH : H = []
  · have hno : ¬ HasF h l Gs := fun hh => hh (by subst hH; exact List.nil_perm.1 q4)
    have hf : fstR h l Gs = ([], 0, 62) := by rw [fstR, if_neg hl0'.out, if_neg hno]
    have hR : GtRes H = .tup [.agg [vint 0, vint 0, vint 0], vbool false] := by rw [GtRes, if_pos hH]
    rw [hR]
    replace hf := Hid.mk hf
    replace hL2 := Hid.mk hL2
    clear hR hH hno q3 q4
    repeat' (with_reducible first | refine x_ops ?_ | refine wk ?_ | ((first | refine gd1 ?_ ?_ | refine gd2 ?_ ?_ | refine gd3 ?_ ?_) <;> (first | exact @False.elim _ | intro hc)))
    exact ⟨.inr rfl, _, vv, ⟨fr2.out.1, fun q cs t hq ho ht1 ht2 ht3 => by (refine Eq.trans (b := M2.obj q) ?_ (fr2.out.2 q cs t hq ho ht1 ht2 ht3); repeat' (first | rfl | refine Eq.trans (put_other _ _ (by omega)) ?_))⟩, [], 0, false, .exact, rfl, .inr ⟨rfl, hf.out⟩⟩
  have hhas : HasF h l Gs := fun e => by rw [e] at q4; exact hH (List.perm_nil.1 q4)
  have hw0 : H.getD 0 noW = rootW h l Gs := bstW_heap q3 q4 hhas rtL_tot
  obtain ⟨q0, w1, w2, w3⟩ := rootW_ok hhas
  have hf : fstR h l Gs = (pathU h l Gs l.length, (rsT h l Gs 0).getD q0 0, 0) := by rw [fstR, if_neg hl0'.out, if_pos hhas, w1]
  have hk0 : kS h l Gs 0 = q0 := by rw [kS, w1]; rfl
  have hR : GtRes H = .tup [.agg [vint ((rsT h l Gs 0).getD q0 0), vint (q0 : Int), vint 0], vbool true] := by rw [GtRes, if_neg hH, hw0, w1]
  rw [hR]
  generalize (rsT h l Gs 0).getD q0 0 = cost at *
  replace hf := Hid.mk hf
  have hL3 := Hid.mk hL2
  have of' := Hid.mk of
  clear hR hH q3 q4 w1 w2 w3 hw0
  have z1 : tb < M2.next := hL2.ltt
  have z2 : M.next < M2.next := by omega
  have o2 := hL2.tbo
  rw [hnet.out] at o2
  have x1 : ¬ tb = M.next + 8 := by omega
  clear hL2
  repeat' (with_reducible first | refine x_ops ?_ | refine wk ?_ | ((first | refine gd1 ?_ ?_ | refine gd2 ?_ ?_ | refine gd3 ?_ ?_) <;> (first | exact @False.elim _ | intro hc)))
  refine x_genM (fun t M' => (t 0 = .ptr tb 0 ∧ t 4 = .ptr M.next 0 ∧ t 6 = .ptr (M.next + 8) 0 ∧ t 40 = vint l.length ∧ t 41 = vint 0) ∧ FgSt h l Gs tb nq rt rs M M.next cost 0 M') ⟨⟨vv, vv, vv, vv, vv⟩, ⟨?_, p1', ?_, ⟨.exact, put_same _ _ _, .inl rfl⟩, ⟨cost, q0, ?_, fun _ => by rw [hk0]⟩⟩⟩ ?_
  · exact ⟨fr2.out.1, fun q cs t hq ho ht1 ht2 ht3 => by (refine Eq.trans (b := M2.obj q) ?_ (fr2.out.2 q cs t hq ho ht1 ht2 ht3); repeat' (first | rfl | refine Eq.trans (put_other _ _ (by omega)) ?_))⟩
  · have old : ∀ a b c : AObj, ∀ q, q < M.next → (((M2.put (M.next + 8) a).put (M.next + 8) b).put M.next c).obj q = M2.obj q := fun a b c q hq => (put_other _ _ (by omega)).trans ((put_other _ _ (by omega)).trans (put_other _ _ (by omega)))
    exact hL3.out.mono (Nat.le_refl _) (Nat.le_refl _) (old _ _ _ _ l1) (old _ _ _ _ hqlo.out) (fun y _ hy => old _ _ _ _ (hrlo.out y hy))
  · exact (put_other _ _ (fun e => y1 e.symm)).trans (put_same _ _ _)
  rintro t0 M3 ⟨⟨a0, a4, a6, a40, a41⟩, hs0⟩
  refine x_loopW w_hand_lister_fingering_p9 kr l.length (fun i t M' => t 41 = vint (i : Int) ∧ FgSt h l Gs tb nq rt rs M M.next cost i M') ⟨a41, hs0⟩ ?_
  clear a41 hs0 of o2 o1' z1 z2 p1' hL3 of'
  rintro i t M4 hi ⟨h41, hs⟩
  have hnx := hs.nx
  have fr4 := hs.fr
  replace fr4 := Hid.mk fr4
  obtain ⟨tok, f1, f2⟩ := hs.fb
  obtain ⟨c, x, g1, g2⟩ := hs.wb
  have z2 : M.next < M4.next := by omega
  have z3 : M.next + 8 < M4.next := by omega
  have hplen := pathU_len h l Gs i
  by_cases hil : i < l.length
  case neg =>
    have hie : i = l.length := by omega
    subst hie
    have c1 : ¬ (l.length : Int) < (l.length : Int) := by omega
    replace hplen := Hid.mk hplen
    clear hs f2 g1 g2 hil hi
    repeat' (with_reducible first | refine x_ops ?_ | refine wk ?_ | ((first | refine gd1 ?_ ?_ | refine gd2 ?_ ?_ | refine gd3 ?_ ?_) <;> (first | exact @False.elim _ | intro hc)))
    refine ⟨.inr rfl, .tup [.agg [.sl l.length ((pathU h l Gs l.length).flatMap Grip.cells) tok, vint cost], vbool true], vw, ⟨fr4.out.1, fun q cs t hq ho ht1 ht2 ht3 => by (refine Eq.trans (b := M4.obj q) ?_ (fr4.out.2 q cs t hq ho ht1 ht2 ht3); repeat' (first | rfl | refine Eq.trans (put_other _ _ (by omega)) ?_))⟩, pathU h l Gs l.length, cost, true, tok, by rw [hplen.out], .inl ⟨rfl, hf.out⟩⟩
  have c1 : (i : Int) < (l.length : Int) := by omega
  have w1 := w_add1 (k := i) (by omega)
  obtain ⟨hkl, hkr⟩ := kS_ok hn.out hhas hil
  have hx := g2 hil
  subst hx
  have c2 : (kS h l Gs i : Int) < ((Gs.getD i []).length : Int) := by omega
  have gle := gl.out
  have r1 := gss_at' (l := Gs) (k := i) (by omega)
  have r2 := gs_take hkl
  have r3 := gs_len (Gs.getD i [])
  have c3 : kS h l Gs i * 2 + 2 ≤ (Gs.getD i []).length * 2 := by omega
  have hg := hn.out.grip hil hkl
  have hfl : ((Gs.getD i []).getD (kS h l Gs i) noG).fingers.length ≤ 14 := by rw [hg.2]; exact chord_len (hn.out.seq i hil).1
  have CL := clone_fn ((Gs.getD i []).getD (kS h l Gs i) noG).fingers (by omega)
  have o1 := hs.ls.tbo
  rw [hnet.out] at o1
  have z1 := hs.ls.ltt
  have x2 : ∀ q j, q < M4.next → (q < M4.next + j) = True := fun q j hq => by simp; omega
  have x3 : ∀ q j, q < M4.next → (q = M4.next + j) = False := fun q j hq => by simp; omega
  have x4 : ∀ q j, q < M4.next → (M4.next + j = q) = False := fun q j hq => by simp; omega
  have hsu : pathU h l Gs (i + 1) = pathU h l Gs i ++ [(Gs.getD i []).getD (kS h l Gs i) noG] := pathU_succ h l Gs i
  have hKN : ∀ H : List Way, HpOk H → H.Perm (wayF h l Gs i (kS h l Gs i)) → ∃ c x : Int, GtRes H = .tup [.agg [vint c, vint x, vint 0], vbool true] ∧ (i + 1 < l.length → x = (kS h l Gs (i + 1) : Int)) := fun H hH hp => kS_next hn.out hhas hil hH hp
  have hs1 := Hid.mk hs
  replace hsu := Hid.mk hsu
  replace hplen := Hid.mk hplen
  replace hfl := Hid.mk hfl
  replace hg := Hid.mk hg
  replace hKN := Hid.mk hKN
  clear hs g2
  repeat' (with_reducible first | refine x_ops ?_ | refine wk ?_ | (with_reducible refine xc (CL) ?_) | ((first | refine gd1 ?_ ?_ | refine gd2 ?_ ?_ | refine gd3 ?_ ?_) <;> (first | exact @False.elim _ | intro hc)))
  refine x_appb (n := i) (xs := (pathU h l Gs i).flatMap Grip.cells) (ys := Grip.cells ((Gs.getD i []).getD (kS h l Gs i) noG)) (k := tok) (k2 := .exact) vw (by unfold Grip.cells; exact vw) (f2.mono (fun q hq _ => (put_other _ _ (by omega)).trans (put_other _ _ (by omega))) (by show M4.next ≤ M4.next + 28; omega)) (by rw [gs_len, hplen.out]) rfl (by omega) (by unfold Go.maxLen; omega) (by show M4.next + 25 < M4.next + 28; omega) ?_
  intro tok' m5 hap' hn' hbox hobj
  replace hn' : m5.next = M4.next + 28 := hn'
  have lo : ∀ q cs ty, q < M4.next → M4.obj q = some (.box cs ty) → m5.obj q = some (.box cs ty) := fun q cs ty hq ho => hbox q cs ty ((put_other _ _ (by omega)).trans ((put_other _ _ (by omega)).trans ho)) (by show ¬ q = M4.next + 25; omega)
  have q1 := lo _ _ _ z2 f1
  have q2 := lo _ _ _ z3 g1
  have q3 := lo _ _ _ z1 o1
  have l5 : M.next < m5.next := by omega
  have l6 : M.next + 8 < m5.next := by omega
  have y2 : ¬ M.next + 8 = M.next := by omega
  have y3 : ¬ M.next = M.next + 8 := by omega
  have nb1 : tb ≠ M.next := ne_type o1 f1 (by decide)
  have hLs5 : LsM h l Gs tb nq rt rs i (m5.put M.next (.box [.sl (i + 1) ((pathU h l Gs i).flatMap Grip.cells ++ Grip.cells ((Gs.getD i []).getD (kS h l Gs i) noG)) tok', vint cost] 40)) := by
    have hh := hs1.out.ls
    refine hh.mono (Nat.le_refl _) (by show M4.next ≤ m5.next; omega) ?_ ?_ (fun y hy hyl => ?_)
    · exact ((put_other _ _ nb1).trans (lo _ _ _ z1 hh.tbo)).trans hh.tbo.symm
    · exact ((put_other _ _ (ne_type hh.nqo f1 (by decide))).trans (lo _ _ _ hh.ltn hh.nqo)).trans hh.nqo.symm
    · exact ((put_other _ _ (ne_type (hh.row y hy hyl) f1 (by decide))).trans (lo _ _ _ (hh.ltr y hyl) (hh.row y hy hyl))).trans (hh.row y hy hyl).symm
  have GS := get_sfn hn.out hil hkl hLs5
  have GE := gtPost_ex (k := kS h l Gs i) hLs5
  have hri : m5.obj (rs.getD i 0) = some (.box (nilR (Gs.getD i []).length) 150) := lo _ _ _ (hs1.out.ls.ltr i hil) (hs1.out.ls.row i (Nat.le_refl _) hil)
  replace hri := Hid.mk hri
  replace hap' := Hid.mk hap'
  replace hn' := Hid.mk hn'
  replace hLs5 := Hid.mk hLs5
  replace lo := Hid.mk lo
  clear hbox hobj f1 f2 g1 o1 CL r1 r2 r3 x2 x3 x4 z1 z2 z3
  unfold Grip.cells at GS GE
  repeat' (with_reducible first | refine x_ops ?_ | refine wk ?_ | ((first | refine gd1 ?_ ?_ | refine gd2 ?_ ?_ | refine gd3 ?_ ?_) <;> (first | exact @False.elim _ | intro hc)))
  refine x_scallR [.ptr tb 0, vint i, vint (kS h l Gs i : Int), vint 0] vw (by ((refine ve ?_; try exact True.intro)); exact GS) (by ((refine ve ?_; try exact True.intro)); exact GE) ?_
  rintro r M6 ⟨p0, ⟨H', hH, hp, rfl⟩, hLs6, fr6⟩
  obtain ⟨c', x', e, hx'⟩ := hKN.out H' hH hp
  rw [e]
  have b0 : M.next ≠ rs.getD i 0 := ne_type q1 hri.out (by decide)
  have b8 : M.next + 8 ≠ rs.getD i 0 := ne_type q2 hri.out (by decide)
  have p0' : M4.next + 28 ≤ M6.next := by have : m5.next ≤ M6.next := p0; have := hn'.out; omega
  have e6 := (fr6 M.next l5 b0).trans (put_same _ _ _)
  have e8 := (fr6 (M.next + 8) l6 b8).trans ((put_other _ _ y2).trans q2)
  have hri6 : (m5.put M.next (.box [.sl (i + 1) ((pathU h l Gs i).flatMap Grip.cells ++ Grip.cells ((Gs.getD i []).getD (kS h l Gs i) noG)) tok', vint cost] 40)).obj (rs.getD i 0) = _ := (put_other _ _ (fun e => b0 e.symm)).trans hri.out
  have ap6 := (Apb.put (o := .box [.sl (i + 1) ((pathU h l Gs i).flatMap Grip.cells ++ Grip.cells ((Gs.getD i []).getD (kS h l Gs i) noG)) tok', vint cost] 40) hap'.out q1).mono (m' := M6) (fun q hq hk => fr6 q hq (fun e => by subst e; rw [hri6] at hk; cases hk)) p0
  have fr7 : Fr M M6 := ⟨by omega, fun q cs t hq ho ht1 ht2 ht3 => by
    have h5 : m5.obj q = some (.box cs t) := lo.out q cs t (Nat.lt_of_lt_of_le hq fr4.out.1) ((fr4.out.2 q cs t hq ho ht1 ht2 ht3).trans ho)
    have h7 : q ≠ M.next := by omega
    exact (fr6 q (by show q < m5.next; have := hn'.out; omega) (ne_type h5 hri.out ht3)).trans (((put_other _ _ h7).trans h5).trans ho.symm)⟩
  replace fr7 := Hid.mk fr7
  replace hx' := Hid.mk hx'
  replace hLs6 := Hid.mk hLs6
  clear GS GE fr6 p0 e q1 q2 q3 l5 l6 hp hH
  repeat' (with_reducible first | refine x_ops ?_ | refine wk ?_ | ((first | refine gd1 ?_ ?_ | refine gd2 ?_ ?_ | refine gd3 ?_ ?_) <;> (first | exact @False.elim _ | intro hc)))
  refine nx hil ⟨vv, ⟨⟨by (show M.next ≤ M6.next; omega), fun q cs t hq ho ht1 ht2 ht3 => by (refine Eq.trans (b := M6.obj q) ?_ (fr7.out.2 q cs t hq ho ht1 ht2 ht3); repeat' (first | rfl | refine Eq.trans (put_other _ _ (by omega)) ?_))⟩, ?_, ?_, ?_, ?_⟩⟩
  · show M.next + 11 ≤ M6.next; omega
  · have hl := hLs6.out
    exact hl.mono (Nat.le_refl _) (Nat.le_refl _) (put_other _ _ (ne_type hl.tbo e8 (by decide))) (put_other _ _ (ne_type hl.nqo e8 (by decide))) (fun y hy hyl => put_other _ _ (ne_type (hl.row y hy hyl) e8 (by decide)))
  · refine ⟨tok', ?_, Apb.put ap6 e8⟩
    rw [hsu.out, List.flatMap_append, List.flatMap_singleton]
    exact (put_other _ _ (fun e => y2 e.symm)).trans e6
  · exact ⟨c', x', put_same _ _ _, hx'.out⟩
end Go.Proofs.Ytojjdkoglhecbaa
namespace Go.Proofs.Ytojjdkoglhecbaa
open Go.RowKit

/-- The least cost from a grip on, by numbers. -/
noncomputable def lst (h : Hand) (l : List Chord) (Gs : List (List Grip)) (i k : Nat) : Int := (rsT h l Gs i).getD k 0
/-- The grip k of the chord i. -/
def grp (Gs : List (List Grip)) (i k : Nat) : Grip := (Gs.getD i []).getD k noG

section
variable {h : Hand} {l : List Chord} {Gs : List (List Grip)}
theorem lst_last {i k : Nat} (hi : i + 1 = l.length) (hk : k < (Gs.getD i []).length) : lst h l Gs i k = ownC h (l.getD i noC) (grp Gs i k) := by
  rw [lst, rsT_at (by omega) hk, rsE, if_pos hi]; rfl
theorem wayL_has {i k q : Nat} (hq : ¬ lst h l Gs (i + 1) q = -1) (hs : StepOk h (l.getD i noC) (grp Gs i k) (l.getD (i + 1) noC) (grp Gs (i + 1) q)) : ∀ {j : Nat}, q < j →
    (ownC h (l.getD i noC) (grp Gs i k) + stepC h (l.getD i noC) (grp Gs i k) (l.getD (i + 1) noC) (grp Gs (i + 1) q) + lst h l Gs (i + 1) q, (q : Int), 0) ∈ wayL h l Gs i k j
  | 0, h0 => by omega
  | j + 1, h0 => by
    unfold lst grp at *
    rw [wayL]
    by_cases e : q = j
    · subst e
      rw [stepR_ok hs, if_neg (by rintro (h1 | h1); exact hq h1; cases h1)]
      exact List.mem_append.2 (.inr (List.mem_singleton.2 rfl))
    · have := wayL_has hq hs (j := j) (by omega)
      unfold lst grp at this
      split
      · exact this
      · exact List.mem_append.2 (.inl this)
/-- A step to a grip that leads to the end. -/
theorem lst_ub (hn : NetOk h l Gs) {i k q : Nat} (hi : i + 1 < l.length) (hk : k < (Gs.getD i []).length) (hq : q < (Gs.getD (i + 1) []).length) (h1 : ¬ lst h l Gs (i + 1) q = -1)
    (hs : StepOk h (l.getD i noC) (grp Gs i k) (l.getD (i + 1) noC) (grp Gs (i + 1) q)) :
    ¬ lst h l Gs i k = -1 ∧ lst h l Gs i k ≤ ownC h (l.getD i noC) (grp Gs i k) + stepC h (l.getD i noC) (grp Gs i k) (l.getD (i + 1) noC) (grp Gs (i + 1) q) + lst h l Gs (i + 1) q := by
  have hm := wayL_has (k := k) h1 hs hq
  have e : lst h l Gs i k = bsU h (l.getD i noC) ((Gs.getD i []).getD k noG) (l.getD (i + 1) noC) (Gs.getD (i + 1) []) (rsT h l Gs (i + 1)) (Gs.getD (i + 1) []).length := by
    rw [lst, rsT_at (by omega) hk, rsE, if_neg (by omega)]
  rcases bsU_way hn hi hk (Nat.le_refl _) with ⟨_, h2⟩ | ⟨h2, _, h3⟩
  · rw [h2] at hm; cases hm
  · have := h3 _ hm
    rw [e]; dsimp only at this; exact ⟨by omega, this⟩
/-- Where there is a way, it is one of them. -/
theorem lst_eq (hn : NetOk h l Gs) {i k : Nat} (hi : i + 1 < l.length) (hk : k < (Gs.getD i []).length) (h1 : ¬ lst h l Gs i k = -1) :
    ∃ q, q < (Gs.getD (i + 1) []).length ∧ ¬ lst h l Gs (i + 1) q = -1 ∧ StepOk h (l.getD i noC) (grp Gs i k) (l.getD (i + 1) noC) (grp Gs (i + 1) q) ∧
      lst h l Gs i k = ownC h (l.getD i noC) (grp Gs i k) + stepC h (l.getD i noC) (grp Gs i k) (l.getD (i + 1) noC) (grp Gs (i + 1) q) + lst h l Gs (i + 1) q := by
  obtain ⟨q, _, h2, h3, h4, h5⟩ := (wayF_ok hn (by omega) hk h1).2.2.2 hi
  exact ⟨q, h2, h3, h4, h5⟩
theorem lst_own (hn : NetOk h l Gs) {i k : Nat} (hi : i < l.length) (hk : k < (Gs.getD i []).length) : 0 ≤ ownC h (l.getD i noC) (grp Gs i k) := (own_bound hn.hk (hn.seq i hi).1 (hn.grip hi hk).1).1
/-- Is there a fingering, by numbers. -/
theorem has_iff (hl : 0 < l.length) : HasF h l Gs ↔ ∃ q, q < (Gs.getD 0 []).length ∧ ¬ lst h l Gs 0 q = -1 := by
  have hT := rsT_len (h := h) (Gs := Gs) hl
  constructor
  · intro hh
    obtain ⟨q, q1, q2, q3⟩ := rootW_ok hh
    exact ⟨q, by omega, q3⟩
  · rintro ⟨q, q1, q2⟩ e
    have := rtL_has (h := h) (l := l) (Gs := Gs) (j := (rsT h l Gs 0).length) (q := q) (by omega) q2
    rw [e] at this; cases this
/-- The cost of the best fingering. -/
theorem root_min (hl : 0 < l.length) (hh : HasF h l Gs) : (∃ q, q < (Gs.getD 0 []).length ∧ ¬ lst h l Gs 0 q = -1 ∧ (rootW h l Gs).1 = lst h l Gs 0 q) ∧ ∀ q, q < (Gs.getD 0 []).length → ¬ lst h l Gs 0 q = -1 → (rootW h l Gs).1 ≤ lst h l Gs 0 q := by
  have hT := rsT_len (h := h) (Gs := Gs) hl
  obtain ⟨q, q1, q2, q3⟩ := rootW_ok hh
  refine ⟨⟨q, by omega, q3, by rw [q1]; rfl⟩, fun p hp hpn => ?_⟩
  exact befW_cost ((bstW_ok hh).2 _ (rtL_has (h := h) (l := l) (Gs := Gs) (j := (rsT h l Gs 0).length) (q := p) (by omega) hpn))
end
end Go.Proofs.Ytojjdkoglhecbaa
namespace Go.Proofs.Ytojjdkoglhecbaa
open Go.RowKit

/-- A memory with a lister behind all that was there. -/
noncomputable def lsM (h : Hand) (l : List Chord) (Gs : List (List Grip)) (m : Mm) (H : List Way) : Mm :=
  ⟨fun q => if q < m.next then m.obj q else if q = m.next then some (.box [netE h l Gs, .gsl (m.next + 1) l.length 1, .ptr (m.next + 2) 0] 162)
    else if q = m.next + 1 then some (.box (rwN ((List.range l.length).map (m.next + 4 + ·)) Gs) 163)
    else if q = m.next + 2 then some (.box [.sl 0 [] .exact, .gsl (m.next + 3) H.length 3, .fn 110 [], vbool false] 159)
    else if q = m.next + 3 then some (.box (wyC (H ++ [])) 154)
    else some (.box (nilR (Gs.getD (q - (m.next + 4)) []).length) 150), m.next + 4 + l.length⟩
theorem lsPost_ex (h : Hand) (l : List Chord) (Gs : List (List Grip)) (m : Mm) : ∃ r M', LsPost h l Gs m r M' := by
  obtain ⟨H, h1, h2⟩ := heap_ex (rtL h l Gs (rsT h l Gs 0).length)
  have hr : ∀ y, y < l.length → ((List.range l.length).map (m.next + 4 + ·)).getD y 0 = m.next + 4 + y := fun y hy => by
    rw [List.getD_eq_getElem?_getD, List.getElem?_map, List.getElem?_range hy]; rfl
  have o : ∀ q, (lsM h l Gs m H).obj q = if q < m.next then m.obj q else if q = m.next then some (.box [netE h l Gs, .gsl (m.next + 1) l.length 1, .ptr (m.next + 2) 0] 162)
    else if q = m.next + 1 then some (.box (rwN ((List.range l.length).map (m.next + 4 + ·)) Gs) 163)
    else if q = m.next + 2 then some (.box [.sl 0 [] .exact, .gsl (m.next + 3) H.length 3, .fn 110 [], vbool false] 159)
    else if q = m.next + 3 then some (.box (wyC (H ++ [])) 154)
    else some (.box (nilR (Gs.getD (q - (m.next + 4)) []).length) 150) := fun _ => rfl
  have n : (lsM h l Gs m H).next = m.next + 4 + l.length := rfl
  refine ⟨.ptr m.next 0, lsM h l Gs m H, by omega, fun q hq => by rw [o, if_pos hq], m.next, m.next + 1, m.next + 2, (List.range l.length).map (m.next + 4 + ·), rfl, ⟨Nat.le_refl _, by omega⟩, ⟨_, by rw [o, if_neg (by omega), if_pos rfl]⟩, fun hl => ⟨⟨?_, ?_, ?_, ?_, ?_, ?_, ?_, ?_, ?_⟩, ⟨by omega, by omega⟩, .gsl (m.next + 3) H.length 3, H, ?_, .inr ⟨m.next + 3, [], rfl, by omega, ?_⟩, h1, h2⟩⟩
  · rw [o, if_neg (by omega), if_pos rfl]
  · rw [o, if_neg (by omega), if_neg (by omega), if_pos rfl]
  · intro y _ hy
    rw [hr y hy, o, if_neg (by omega), if_neg (by omega), if_neg (by omega), if_neg (by omega), if_neg (by omega), Nat.add_sub_cancel_left]
  · intro y z hyz hz
    rw [hr y (by omega), hr z hz]; omega
  · omega
  · omega
  · intro y hy; rw [hr y hy]; omega
  · omega
  · intro y hy; rw [hr y hy]; omega
  · rw [o, if_neg (by omega), if_neg (by omega), if_neg (by omega), if_pos rfl]
  · rw [o, if_neg (by omega), if_neg (by omega), if_neg (by omega), if_neg (by omega), if_pos rfl]

/-- What first answers, as a value. -/
noncomputable def fstV (r : List Grip × Int × Int) : V := .tup [.agg [tGs r.1, vint r.2.1], vint r.2.2]
set_option maxHeartbeats 4000000 in
theorem first_fn {h : Hand} {l : List Chord} {Gs : List (List Grip)} (hn : NetOk h l Gs) : Fn Try.prog Gd 70 [netE h l Gs] (fstV (fstR h l Gs)) := by
  refine Fn.of_vx0 k_hand_first (by simp) (by rw [V.pures, V.pures]; rfl) ?_
  have LS := fun m => list_sfn hn m
  have LE := fun m => lsPost_ex h l Gs m
  have FG := fun m0 M r0 (hP : LsPost h l Gs m0 r0 M) => fing_sfn hn hP
  have FE := fgPost_ex h l Gs
  unfold c_hand_first
  replace hn := Hid.mk hn
  repeat' (with_reducible first | refine x_ops ?_ | refine wk ?_ | ((first | refine gd1 ?_ ?_ | refine gd2 ?_ ?_ | refine gd3 ?_ ?_) <;> (first | exact @False.elim _ | intro hc)))
  refine x_scallR [netE h l Gs] vw (LS _) (LE _) ?_
  intro r1 M1 hP1
  have n1 : 11 ≤ M1.next := hP1.1
  have k0 : M1.obj 0 = some (.box [.sl 0 [] .exact, vint 0] 40) := (hP1.2.1 0 (Nat.zero_lt_succ 10)).trans (by (dsimp only; exact put_same _ _ _))
  replace FG := FG _ _ _ hP1
  have FE := FE M1
  clear LS LE
  replace hP1 := Hid.mk hP1
  repeat' (with_reducible first | refine x_ops ?_ | refine wk ?_ | ((first | refine gd1 ?_ ?_ | refine gd2 ?_ ?_ | refine gd3 ?_ ?_) <;> (first | exact @False.elim _ | intro hc)))
  refine x_scallR [r1, vint 0] vw FG FE ?_
  rintro r2 M2 ⟨fr, G, c, is, tok, rfl, hr⟩
  have n2 : 11 ≤ M2.next := Nat.le_trans n1 fr.1
  have k2 := (fr.2 0 _ _ (by omega) k0 (by decide) (by decide) (by decide)).trans k0
  clear FG FE k0 fr
  replace hr := Hid.mk hr
  cases is
  · have hf : fstR h l Gs = ([], 0, 62) := by rcases hr.out with ⟨h1, _⟩ | ⟨_, h1⟩
                                              · cases h1
                                              · exact h1
    rw [hf]
    repeat' (with_reducible first | refine x_ops ?_ | refine wk ?_ | ((first | refine gd1 ?_ ?_ | refine gd2 ?_ ?_ | refine gd3 ?_ ?_) <;> (first | exact @False.elim _ | intro hc)))
    exact finV_ret vv (.tup (.cons (.agg (.cons (.sl _ _ _) (.cons (.lit _) .nil))) (.cons (.lit _) .nil)))
  · have hf : fstR h l Gs = (G, c, 0) := by rcases hr.out with ⟨_, h1⟩ | ⟨h1, _⟩
                                            · exact h1
                                            · cases h1
    rw [hf]
    repeat' (with_reducible first | refine x_ops ?_ | refine wk ?_ | ((first | refine gd1 ?_ ?_ | refine gd2 ?_ ?_ | refine gd3 ?_ ?_) <;> (first | exact @False.elim _ | intro hc)))
    exact finV_ret vv (.tup (.cons (.agg (.cons (.sl _ _ _) (.cons (.lit _) .nil))) (.cons (.lit _) .nil)))

/-- What Best answers. -/
noncomputable def bstR (h : Hand) (l : List Chord) : List Grip × Int × Int := if wvE h l = 0 then fstR h l (tabG h l) else ([], 0, wvE h l)
theorem Best_fn (h : Hand) (l : List Chord) (hl : Fits l) : Fn Try.prog Gd 31 [h.val, tCs l] (fstV (bstR h l)) := by
  refine Fn.of_vx0 k_hand_Best (by simp) (by rw [V.pures, pure_hand, V.pures, pure_tCs]; rfl) ?_
  have C1 := weave_fn h l hl
  unfold wvR at C1
  unfold bstR c_hand_Best
  by_cases hw : wvE h l = 0
  · rw [if_pos hw] at C1 ⊢
    have C2 := first_fn (wv_net hl hw)
    generalize fstR h l (tabG h l) = r at *
    obtain ⟨G, c, e⟩ := r
    unfold fstV at *
    unfold netE netC at C1 C2
    unfold tGs at C2 ⊢
    unfold tCs at C2
    unfold Hand.val tCs at C1 ⊢
    clear hw
    dsimp only at *
    repeat' (with_reducible first | refine x_ops ?_ | refine wk ?_ | (with_reducible refine xc (C1) ?_) | (with_reducible refine xc (C2) ?_) | ((first | refine gd1 ?_ ?_ | refine gd2 ?_ ?_ | refine gd3 ?_ ?_) <;> (first | exact @False.elim _ | intro hc)))
    exact finV_ret vv (.tup (.cons (.agg (.cons (.sl _ _ _) (.cons (.lit _) .nil))) (.cons (.lit _) .nil)))
  · rw [if_neg hw] at C1 ⊢
    have e1 : (wvE h l == 0) = false := by rw [beq_eq_false_iff_ne]; exact hw
    clear hw
    unfold fstV tGs
    unfold Hand.val tCs at C1 ⊢
    dsimp only
    repeat' (with_reducible first | refine x_ops ?_ | refine wk ?_ | (with_reducible refine xc (C1) ?_) | ((first | refine gd1 ?_ ?_ | refine gd2 ?_ ?_ | refine gd3 ?_ ?_) <;> (first | exact @False.elim _ | intro hc)))
    exact finV_ret vv (.tup (.cons (.agg (.cons (.sl _ _ _) (.cons (.lit _) .nil))) (.cons (.lit _) .nil)))
end Go.Proofs.Ytojjdkoglhecbaa
namespace Go.Proofs.Ytojjdkoglhecbaa
open Go.RowKit

/-- A net of a second hand with at least the same grips and steps. -/
structure Nle (h h' : Hand) (l : List Chord) (Gs Gs' : List (List Grip)) : Prop where
  gr : ∀ i, i < l.length → ∀ k, k < (Gs.getD i []).length → ∃ k', k' < (Gs'.getD i []).length ∧ grp Gs' i k' = grp Gs i k
  st : ∀ i, i + 1 < l.length → ∀ k, k < (Gs.getD i []).length → ∀ q, q < (Gs.getD (i + 1) []).length → StepOk h (l.getD i noC) (grp Gs i k) (l.getD (i + 1) noC) (grp Gs (i + 1) q) → StepOk h' (l.getD i noC) (grp Gs i k) (l.getD (i + 1) noC) (grp Gs (i + 1) q)
/-- Its costs are no greater. -/
structure Cle (h h' : Hand) (l : List Chord) (Gs : List (List Grip)) : Prop where
  ow : ∀ i, i < l.length → ∀ k, k < (Gs.getD i []).length → ownC h' (l.getD i noC) (grp Gs i k) ≤ ownC h (l.getD i noC) (grp Gs i k)
  sc : ∀ i, i + 1 < l.length → ∀ k, k < (Gs.getD i []).length → ∀ q, q < (Gs.getD (i + 1) []).length → stepC h' (l.getD i noC) (grp Gs i k) (l.getD (i + 1) noC) (grp Gs (i + 1) q) ≤ stepC h (l.getD i noC) (grp Gs i k) (l.getD (i + 1) noC) (grp Gs (i + 1) q)

section
variable {h h' : Hand} {l : List Chord} {Gs Gs' : List (List Grip)}
theorem nle_lst (hn : NetOk h l Gs) (hn' : NetOk h' l Gs') (hN : Nle h h' l Gs Gs') : ∀ (j i : Nat), l.length - i = j → i < l.length → ∀ k k', k < (Gs.getD i []).length → k' < (Gs'.getD i []).length → grp Gs' i k' = grp Gs i k → ¬ lst h l Gs i k = -1 →
    ¬ lst h' l Gs' i k' = -1 ∧ (Cle h h' l Gs → lst h' l Gs' i k' ≤ lst h l Gs i k)
  | 0, i, hj, hi => by omega
  | j + 1, i, hj, hi => by
    intro k k' hk hk' hg h1
    by_cases hlast : i + 1 = l.length
    · have h2 := lst_own hn' hi hk'
      rw [lst_last hlast hk, lst_last hlast hk', hg]
      rw [hg] at h2
      exact ⟨by omega, fun hC => hC.ow i hi k hk⟩
    · have hi1 : i + 1 < l.length := by omega
      obtain ⟨q, q1, q2, q3, q4⟩ := lst_eq hn hi1 hk h1
      obtain ⟨q', q5, q6⟩ := hN.gr (i + 1) hi1 q q1
      obtain ⟨q7, q8⟩ := nle_lst hn hn' hN j (i + 1) (by omega) hi1 q q' q1 q5 q6 q2
      have hs := hN.st i hi1 k hk q q1 q3
      rw [← hg, ← q6] at hs
      obtain ⟨q9, q10⟩ := lst_ub hn' hi1 hk' q5 q7 hs
      refine ⟨q9, fun hC => ?_⟩
      have c1 := hC.ow i hi k hk
      have c2 := hC.sc i hi1 k hk q q1
      have c3 := q8 hC
      rw [hg, q6] at q10
      omega
theorem nle_best (hn : NetOk h l Gs) (hn' : NetOk h' l Gs') (hN : Nle h h' l Gs Gs') (hl : 0 < l.length) (hh : HasF h l Gs) : HasF h' l Gs' ∧ (Cle h h' l Gs → (rootW h' l Gs').1 ≤ (rootW h l Gs).1) := by
  obtain ⟨⟨q, q1, q2, q3⟩, _⟩ := root_min hl hh
  obtain ⟨q', p1, p2⟩ := hN.gr 0 hl q q1
  obtain ⟨p3, p4⟩ := nle_lst hn hn' hN _ 0 rfl hl q q' q1 p1 p2 q2
  have hh' : HasF h' l Gs' := (has_iff hl).2 ⟨q', p1, p3⟩
  refine ⟨hh', fun hC => ?_⟩
  have := (root_min hl hh').2 q' p1 p3
  have := p4 hC
  omega
end

/-- Best answers a fingering. -/
theorem bst_yes {h : Hand} {l : List Chord} (hw : wvE h l = 0) (hh : 0 < l.length → HasF h l (tabG h l)) : (bstR h l).2.2 = 0 ∧ (bstR h l).2.1 = if l.length = 0 then 0 else (rootW h l (tabG h l)).1 := by
  rw [bstR, if_pos hw, fstR]
  by_cases hl : l.length = 0
  · rw [if_pos hl, if_pos hl]; exact ⟨rfl, rfl⟩
  · rw [if_neg hl, if_neg hl, if_pos (hh (by omega))]; exact ⟨rfl, rfl⟩
/-- There is none. -/
theorem bst_no {h : Hand} {l : List Chord} (hw : wvE h l = 0) (hl : 0 < l.length) (hh : ¬ HasF h l (tabG h l)) : bstR h l = ([], 0, 62) := by
  rw [bstR, if_pos hw, fstR, if_neg (by omega), if_neg hh]
theorem bst_err {h : Hand} {l : List Chord} (hw : ¬ wvE h l = 0) : bstR h l = ([], 0, wvE h l) := by rw [bstR, if_neg hw]
theorem bst_ok {h : Hand} {l : List Chord} (hb : (bstR h l).2.2 = 0) : wvE h l = 0 ∧ (0 < l.length → HasF h l (tabG h l)) := by
  by_cases hw : wvE h l = 0
  · refine ⟨hw, fun hl => ?_⟩
    by_cases hh : HasF h l (tabG h l)
    · exact hh
    · rw [bst_no hw hl hh] at hb; cases hb
  · rw [bst_err hw] at hb; exact absurd hb hw
/-- The same grips. -/
theorem tab_grp {h : Hand} {l : List Chord} {i k : Nat} (hi : i < l.length) : grp (tabG h l) i k = (grpA h (l.getD i noC)).getD k noG := by rw [grp, tabG_at hi]

/-! ### Lighter -/
end Go.Proofs.Ytojjdkoglhecbaa
namespace Go.Proofs.Ytojjdkoglhecbaa
open Go.RowKit
set_option maxRecDepth 100000

abbrev c_theorbolaw06_rest_p1 : VC := (.seq (.ops 0 [oo 5 .mv [.t 0], oo 6 .mv [.t 1], oo 7 (.bin .rem) [.t 5, .t 6], oo 8 .mv [.t 1], oo 9 (.bin .add) [.t 7, .t 8], oo 10 .mv [.t 1], oo 11 (.bin .rem) [.t 9, .t 10], oo 4 .mv [.t 11]]) .ret)
def c_theorbolaw06_rest : VC := (.seq (.ops 0 [oo 4 .mv [kk 0]]) c_theorbolaw06_rest_p1)
theorem k_theorbolaw06_rest : Comp Try.prog nobx gtab 30 12 c_theorbolaw06_rest [.t 4] := ⟨⟨Try.f30, _, Try.func30, rfl, rfl, kr, kr⟩⟩
abbrev c_theorbolaw06_chosen_p1 : VC := (.seq (.ops 0 [oo 6 .mv [(.c (.sl 0 [] .exact))]]) .ret)
abbrev c_theorbolaw06_chosen_p2 : VC := (.ops 0 [oo 33 .mv [.t 2], oo 34 .mv [.t 8], oo 35 .mv [.t 2], oo 36 .len [.t 35], oo 37 (.bin .rem) [.t 34, .t 36], oo 38 (.ixA 1) [.t 33, .t 37], oo 39 .ld1 [.t 38], oo 11 .mv [.t 39]])
abbrev c_theorbolaw06_chosen_p3 : VC := (.ops 11 [oo 40 .mv [.t 7], oo 41 .mv [.t 9], oo 42 .mv [.t 11], oo 43 .mv [.t 9], oo 44 .len [.t 43], oo 45 (.call 30) [.t 42, .t 44], oo 46 (.ixA 2) [.t 41, .t 45], oo 47 (.ldA 2) [.t 46], ⟨(some 48), none, (.mksl 1 2 [li 0, (.sl 0 [] .exact)] [(0, 2)]), [.t 47], none⟩, oo 49 (.app 53 2 32) [.t 40, .t 48], oo 7 .mv [.t 49]])
abbrev c_theorbolaw06_chosen_p4 : VC := (.seq (.seq (.ops 0 [oo 30 .mv [.t 2], oo 31 .len [.t 30], oo 32 (.bin .gtr) [.t 31, kk 0]]) (.cond (.t 32) c_theorbolaw06_chosen_p2 .skip)) c_theorbolaw06_chosen_p3)
abbrev c_theorbolaw06_chosen_p5 : VC := (.seq (.ops 0 [oo 11 .mv [kk 0]]) c_theorbolaw06_chosen_p4)
abbrev c_theorbolaw06_chosen_p6 : VC := (.seq (.seq (.ops 0 [oo 27 .mv [.t 9], oo 28 .len [.t 27], oo 29 (.bin .eql) [.t 28, kk 0]]) (.cond (.t 29) c_theorbolaw06_chosen_p1 .skip)) c_theorbolaw06_chosen_p5)
abbrev c_theorbolaw06_chosen_p7 : VC := (.ops 0 [oo 16 .mv [.t 8], oo 17 (.bin .add) [.t 16, kk 1], oo 8 .mv [.t 17]])
abbrev c_theorbolaw06_chosen_p8 : VC := (.seq (.block 1 (.seq (.ops 0 [od 19 (.ldA 10) [.t 3] [], oo 20 .mv [.t 1], oo 21 .mv [.t 8], oo 22 (.ixA 3) [.t 20, .t 21], od 23 (.ldA 3) [.t 22] [1, 2, 3], oo 24 (.call 32) [.t 19, .t 23], oo 18 .mv [.t 24], oo 25 (.ext 0) [.t 18], oo 26 (.ext 1) [.t 18], oo 9 .mv [.t 25], oo 10 .mv [.t 26]]) c_theorbolaw06_chosen_p6)) c_theorbolaw06_chosen_p7)
abbrev c_theorbolaw06_chosen_p9 : VC := (.seq (.seq (.ops 0 [oo 12 .mv [.t 8], oo 13 .mv [.t 1], oo 14 .len [.t 13], oo 15 (.bin .lss) [.t 12, .t 14]]) (.cond (.t 15) .skip (.exit 0))) c_theorbolaw06_chosen_p8)
@[go_sem] abbrev w_theorbolaw06_chosen_p9 : Nat := 1125899906842560
abbrev c_theorbolaw06_chosen_p11 : VC := (.seq (.ops 0 [oo 50 .mv [.t 7], oo 6 .mv [.t 50]]) .ret)
abbrev c_theorbolaw06_chosen_p12 : VC := (.seq (.seq (.ops 0 [oo 8 .mv [kk 0]]) (.block 0 (.loop c_theorbolaw06_chosen_p9))) c_theorbolaw06_chosen_p11)
abbrev c_theorbolaw06_chosen_p13 : VC := (.seq (.ops 0 [oo 7 .mv [(.c (.sl 0 [] .exact))]]) c_theorbolaw06_chosen_p12)
def c_theorbolaw06_chosen : VC := (.seq (.ops 2 [oo 3 (.box 25) [.t 0], oo 6 .mv [(.c (.sl 0 [] .exact))]]) c_theorbolaw06_chosen_p13)
theorem k_theorbolaw06_chosen : Comp Try.prog nobx gtab 55 51 c_theorbolaw06_chosen [.t 6] := ⟨⟨Try.f55, _, Try.func55, rfl, rfl, kr, kr⟩⟩
end Go.Proofs.Ytojjdkoglhecbaa
namespace Go.Proofs.Ytojjdkoglhecbaa
open Go.RowKit

section
variable {n : Int}
end
/-- A fingering that is valid. -/
theorem val_ok {h : Hand} {l : List Chord} {g : List Grip} (hv : (valR h l g).2.2 = 0) : bothE h l = 0 ∧ g.length = l.length ∧ (∀ k, k < l.length → PrOk h l g k) ∧ valR h l g = (smI (prL h l g l.length) l.length, 0, 0) := by
  have key : ∀ c, cosR h l g = c → c.2.2 = 0 → bothE h l = 0 ∧ g.length = l.length ∧ prN h l g l.length = l.length ∧ c = (prL h l g l.length, 0, 0) := by
    intro c hc h0
    subst hc
    rw [cosR] at h0 ⊢
    by_cases h1 : bothE h l = 0
    · rw [if_pos h1] at h0 ⊢
      by_cases h2 : g.length = l.length
      · rw [if_pos h2] at h0 ⊢
        by_cases h3 : prN h l g l.length = l.length
        · rw [if_pos h3]; exact ⟨h1, h2, h3, rfl⟩
        · rw [if_neg h3] at h0; cases h0
      · rw [if_neg h2] at h0; cases h0
    · rw [if_neg h1] at h0; exact absurd h0 h1
  obtain ⟨h1, h2, h3, h4⟩ := key _ rfl hv
  refine ⟨h1, h2, prN_ok h3, ?_⟩
  unfold valR
  rw [h4, prL_len]
theorem val_is {h : Hand} {l : List Chord} {g : List Grip} (h1 : bothE h l = 0) (h2 : g.length = l.length) (h3 : ∀ k, k < l.length → PrOk h l g k) : valR h l g = (smI (prL h l g l.length) l.length, 0, 0) := by
  have e : cosR h l g = (prL h l g l.length, 0, 0) := by rw [cosR, if_pos h1, if_pos h2, if_pos (prN_all h3)]
  unfold valR
  rw [e, prL_len]
theorem both_is {h : Hand} {l : List Chord} (h1 : HandOk h) (h2 : l.length ≤ 400) (h3 : SeqOk l) : bothE h l = 0 := by
  have e1 : chkE h = 0 := by rw [chkE, if_pos h1]
  rw [bothE, if_pos e1, seqE, if_neg (by omega), if_pos (by simpa using h3)]
end Go.Proofs.Ytojjdkoglhecbaa
namespace Go.Proofs.Ytojjdkoglhecbaa
open Go.RowKit
set_option linter.unusedSimpArgs false
set_option linter.unusedVariables false

/-- A number modulo n. -/
def rsI (a n : Int) : Int := (a.tmod n + n).tmod n
theorem rs_bound {n : Int} (a : Int) (h : 0 < n) : 0 ≤ rsI a n ∧ rsI a n < n := by
  have := Int.lt_tmod_of_pos a h
  exact ⟨Int.tmod_nonneg _ (by omega), Int.tmod_lt_of_pos _ h⟩
theorem rest_fn (a n : Int) (h : 0 < n) (h2 : n ≤ 4611686018427387904) : Fn Try.prog Gd 30 [vint a, vint n] (vint (rsI a n)) := by
  refine Fn.of_vx0 k_theorbolaw06_rest (by simp) rfl ?_
  have h3 := Int.lt_tmod_of_pos a h
  have h4 := Int.tmod_lt_of_pos a h
  have w1 : IntKind.i64.wrap (a.tmod n + n) = a.tmod n + n := w_in (by omega)
  have n0 : ¬ n = 0 := by omega
  unfold c_theorbolaw06_rest rsI
  repeat' (with_reducible first | refine x_ops ?_ | refine wk ?_ | ((first | refine gd1 ?_ ?_ | refine gd2 ?_ ?_ | refine gd3 ?_ ?_) <;> (first | exact @False.elim _ | intro hc)))
  exact finV_lit vv rfl

/-- The grip of a chord that is chosen. -/
noncomputable def chG (h : Hand) (l : List Chord) (picks : List Int) (k : Nat) : Grip :=
  (grR h (l.getD k noC)).1.getD (rsI (if 0 < picks.length then picks.getD (k % picks.length) 0 else 0) ((grR h (l.getD k noC)).1.length : Int)).toNat noG
noncomputable def chU (h : Hand) (l : List Chord) (picks : List Int) (k : Nat) : List Grip := (List.range k).map (chG h l picks)
theorem chU_len (h : Hand) (l : List Chord) (picks : List Int) (k : Nat) : (chU h l picks k).length = k := by simp [chU]
theorem chU_succ (h : Hand) (l : List Chord) (picks : List Int) (k : Nat) : chU h l picks (k + 1) = chU h l picks k ++ [chG h l picks k] := by simp [chU, List.range_succ]
open Classical in
/-- What chosen answers. -/
noncomputable def choL (h : Hand) (l : List Chord) (picks : List Int) : List Grip :=
  if ∀ k, k < l.length → 0 < (grR h (l.getD k noC)).1.length then chU h l picks l.length else []
theorem choL_all {h : Hand} {l : List Chord} {picks : List Int} (ha : ∀ k, k < l.length → 0 < (grR h (l.getD k noC)).1.length) : choL h l picks = chU h l picks l.length := by rw [choL, if_pos ha]
theorem choL_none {h : Hand} {l : List Chord} {picks : List Int} {k : Nat} (hk : k < l.length) (h0 : (grR h (l.getD k noC)).1.length = 0) : choL h l picks = [] := by rw [choL, if_neg fun ha => Nat.ne_of_gt (ha k hk) h0]
theorem chG_mem {h : Hand} {l : List Chord} {picks : List Int} {k : Nat} (h0 : 0 < (grR h (l.getD k noC)).1.length) : chG h l picks k ∈ (grR h (l.getD k noC)).1 := by
  have hb := rs_bound (if 0 < picks.length then picks.getD (k % picks.length) 0 else 0) (n := ((grR h (l.getD k noC)).1.length : Int)) (by omega)
  have hlt : (rsI (if 0 < picks.length then picks.getD (k % picks.length) 0 else 0) ((grR h (l.getD k noC)).1.length : Int)).toNat < (grR h (l.getD k noC)).1.length := by omega
  rw [chG]
  have gen : ∀ (L : List Grip) (j : Nat), j < L.length → L.getD j noG ∈ L := fun L j hj => by
    rw [List.getD_eq_getElem?_getD, List.getElem?_eq_getElem hj]
    exact List.getElem_mem _
  exact gen _ _ hlt
theorem choL_fits {h : Hand} {l : List Chord} (hl : Fits l) (hl4 : l.length ≤ 4398046511103) (picks : List Int) : FitsG (choL h l picks) := by
  by_cases ha : ∀ k, k < l.length → 0 < (grR h (l.getD k noC)).1.length
  · rw [choL_all ha]
    refine ⟨by rw [chU_len]; omega, fun g hg => ?_⟩
    obtain ⟨k, hk, rfl⟩ := List.mem_map.1 hg
    exact (grR_fits h _ (hl.at k)).2 _ (chG_mem (ha k (List.mem_range.1 hk)))
  · rw [choL, if_neg ha]; exact ⟨by simp, fun g hg => by cases hg⟩

set_option maxHeartbeats 2000000 in
theorem chosen_fn (h : Hand) (l : List Chord) (hl : Fits l) (hl4 : l.length ≤ 4398046511103) (picks : List Int) (hp : picks.length ≤ 17592186044416) : Fn Try.prog Gd 55 [h.val, tCs l, tIs picks] (tGs (choL h l picks)) := by
  refine Fn.of_vx0 k_theorbolaw06_chosen (by simp) (by rw [V.pures, pure_hand, V.pures, pure_tCs, V.pures, pure_tIs]; rfl) ?_
  unfold c_theorbolaw06_chosen Hand.val tCs tGs tIs
  repeat' (with_reducible first | refine x_ops ?_ | refine wk ?_ | ((first | refine gd1 ?_ ?_ | refine gd2 ?_ ?_ | refine gd3 ?_ ?_) <;> (first | exact @False.elim _ | intro hc)))
  refine x_loopW w_theorbolaw06_chosen_p9 (by kernel_rfl) l.length (fun k t m => t 8 = vint (k : Int) ∧ (∃ tok, t 7 = .sl k ((chU h l picks k).flatMap Grip.cells) tok ∧ Apb m tok k 53 2) ∧
    m.obj 0 = some (.box [tIs h.low, tIs h.high, tBs h.barre, vint h.top, vint h.jump, vint h.shift, vint h.lift, vint h.bar, vint h.stretch, vint h.slide] 25) ∧ 0 < m.next ∧ ∀ i, i < k → 0 < (grR h (l.getD i noC)).1.length) ?_ ?_
  · exact ⟨vv, ⟨.exact, vv, .inl rfl⟩, vv, by ((refine ve ?_; try exact True.intro)); try omega, fun i h => by omega⟩
  rintro k t m hk ⟨h8, ⟨tok, h7, hap⟩, hm, hn, hI⟩
  replace hI := Hid.mk hI
  by_cases hlt : k < l.length
  case neg =>
    have hkl : k = l.length := by omega
    subst hkl
    have c1 : ¬ (l.length : Int) < (l.length : Int) := by omega
    rw [choL_all hI.out]
    have e5 := Hid.mk (chU_len h l picks l.length)
    generalize chU h l picks l.length = L at *
    clear hap
    repeat' (with_reducible first | refine x_ops ?_ | refine wk ?_ | ((first | refine gd1 ?_ ?_ | refine gd2 ?_ ?_ | refine gd3 ?_ ?_) <;> (first | exact @False.elim _ | intro hc)))
    exact finV_ret vv (by rw [e5.out]; exact .sl _ _ _)
  have c1 : (k : Int) < (l.length : Int) := by omega
  have g1 := chs_take hlt
  have g2 := chs_len l
  have c3 : k * 3 + 3 ≤ l.length * 3 := by omega
  have w2 := w_add1 (k := k) (by omega)
  have C1 := Grips_fn h (l.getD k noC) (hl.at k)
  have hal := grR_fits h (l.getD k noC) (hl.at k)
  have cG : Hid (chG h l picks k = (grR h (l.getD k noC)).1.getD (rsI (if 0 < picks.length then picks.getD (k % picks.length) 0 else 0) ((grR h (l.getD k noC)).1.length : Int)).toNat noG) := ⟨rfl⟩
  have cN : Hid ((grR h (l.getD k noC)).1.length = 0 → choL h l picks = []) := ⟨choL_none hlt⟩
  have cA : Hid (0 < (grR h (l.getD k noC)).1.length → ∀ i, i < k + 1 → 0 < (grR h (l.getD i noC)).1.length) := ⟨fun h0 i hi => by
    by_cases e : i = k
    · subst e; exact h0
    · exact hI.out i (by omega)⟩
  unfold Hand.val Chord.val Chord.cells at C1
  generalize l.getD k noC = cb at *
  generalize grR h cb = gr at *
  obtain ⟨G, ge⟩ := gr
  dsimp only at C1 hal cG cN cA
  unfold tGs at C1
  have hG1 := hal.1
  by_cases h0 : G.length = 0
  · have e1 : ((G.length : Int) == 0) = true := by rw [h0]; rfl
    rw [cN.out h0]
    clear h0 hap
    repeat' (with_reducible first | refine x_ops ?_ | refine wk ?_ | (with_reducible refine xc (C1) ?_) | ((first | refine gd1 ?_ ?_ | refine gd2 ?_ ?_ | refine gd3 ?_ ?_) <;> (first | exact @False.elim _ | intro hc)))
    exact finV_ret vv (.sl _ _ _)
  have e1 : ((G.length : Int) == 0) = false := by rw [beq_eq_false_iff_ne]; omega
  have hA := Hid.mk (cA.out (by omega))
  have gG := gs_len G
  replace hlt := Hid.mk hlt
  by_cases hp0 : 0 < picks.length
  · rw [if_pos hp0] at cG
    have c4 : (0 : Int) < (picks.length : Int) := by omega
    have g5 := ints_at (l := picks) (k := k % picks.length) (Nat.mod_lt _ hp0)
    have c5 : ((k % picks.length : Nat) : Int) < (picks.length : Int) := by have := Nat.mod_lt k hp0; omega
    have n0 : ¬ (picks.length : Int) = 0 := by omega
    have tm : (k : Int).tmod (picks.length : Int) = ((k % picks.length : Nat) : Int) := rfl
    have RS := rest_fn (picks.getD (k % picks.length) 0) (G.length : Int) (by omega) (by omega)
    have hb := rs_bound (picks.getD (k % picks.length) 0) (n := (G.length : Int)) (by omega)
    generalize picks.getD (k % picks.length) 0 = pk at *
    obtain ⟨r, hr⟩ : ∃ r : Nat, rsI pk (G.length : Int) = (r : Int) := ⟨_, (Int.toNat_of_nonneg hb.1).symm⟩
    rw [hr] at RS cG hb
    rw [Int.toNat_natCast] at cG
    have c6 : (r : Int) < (G.length : Int) := hb.2
    have g6 := gs_take (l := G) (k := r) (by omega)
    have c7 : r * 2 + 2 ≤ G.length * 2 := by omega
    clear hb hr h0
    repeat' (with_reducible first | refine x_ops ?_ | refine wk ?_ | (with_reducible refine xc (C1) ?_) | (with_reducible refine xc (RS) ?_) | ((first | refine gd1 ?_ ?_ | refine gd2 ?_ ?_ | refine gd3 ?_ ?_) <;> (first | exact @False.elim _ | intro hc)))
    refine x_appb (xs := (chU h l picks k).flatMap Grip.cells) (ys := Grip.cells (G.getD r noG)) vw (by unfold Grip.cells; exact vw) (hap.mono (fun _ _ _ => rfl) (Nat.le_add_right _ _)) (by rw [gs_len, chU_len]) rfl (by omega) (by unfold Go.maxLen; omega) (by show m.next + 9 < m.next + 11; omega) ?_
    intro tok' m' hap' hn' hbox hobj
    have ho := hbox 0 _ _ hm (by show ¬ 0 = m.next + 9; omega)
    replace hn' : m'.next = m.next + 11 := hn'
    have hn2 : 0 < m'.next := by omega
    clear hbox hobj hap
    repeat' (with_reducible first | refine x_ops ?_ | refine wk ?_ | ((first | refine gd1 ?_ ?_ | refine gd2 ?_ ?_ | refine gd3 ?_ ?_) <;> (first | exact @False.elim _ | intro hc)))
    exact nx hlt.out ⟨vv, ⟨tok', by rw [chU_succ, cG.out, List.flatMap_append]; ((refine ve ?_; try exact True.intro)); simp, hap'.mono (fun _ _ _ => rfl) (Nat.le_of_eq hn')⟩, ho, by ((refine ve ?_; try exact True.intro)); omega, hA.out⟩
  · have c4 : ¬ (0 : Int) < (picks.length : Int) := by omega
    rw [if_neg hp0] at cG
    have RS := rest_fn 0 (G.length : Int) (by omega) (by omega)
    have hb := rs_bound 0 (n := (G.length : Int)) (by omega)
    obtain ⟨r, hr⟩ : ∃ r : Nat, rsI 0 (G.length : Int) = (r : Int) := ⟨_, (Int.toNat_of_nonneg hb.1).symm⟩
    rw [hr] at RS cG hb
    rw [Int.toNat_natCast] at cG
    have c6 : (r : Int) < (G.length : Int) := hb.2
    have g6 := gs_take (l := G) (k := r) (by omega)
    have c7 : r * 2 + 2 ≤ G.length * 2 := by omega
    clear hb hr h0
    repeat' (with_reducible first | refine x_ops ?_ | refine wk ?_ | (with_reducible refine xc (C1) ?_) | (with_reducible refine xc (RS) ?_) | ((first | refine gd1 ?_ ?_ | refine gd2 ?_ ?_ | refine gd3 ?_ ?_) <;> (first | exact @False.elim _ | intro hc)))
    refine x_appb (xs := (chU h l picks k).flatMap Grip.cells) (ys := Grip.cells (G.getD r noG)) vw (by unfold Grip.cells; exact vw) (hap.mono (fun _ _ _ => rfl) (Nat.le_add_right _ _)) (by rw [gs_len, chU_len]) rfl (by omega) (by unfold Go.maxLen; omega) (by show m.next + 9 < m.next + 11; omega) ?_
    intro tok' m' hap' hn' hbox hobj
    have ho := hbox 0 _ _ hm (by show ¬ 0 = m.next + 9; omega)
    replace hn' : m'.next = m.next + 11 := hn'
    have hn2 : 0 < m'.next := by omega
    clear hbox hobj hap
    repeat' (with_reducible first | refine x_ops ?_ | refine wk ?_ | ((first | refine gd1 ?_ ?_ | refine gd2 ?_ ?_ | refine gd3 ?_ ?_) <;> (first | exact @False.elim _ | intro hc)))
    exact nx hlt.out ⟨vv, ⟨tok', by rw [chU_succ, cG.out, List.flatMap_append]; ((refine ve ?_; try exact True.intro)); simp, hap'.mono (fun _ _ _ => rfl) (Nat.le_of_eq hn')⟩, ho, by ((refine ve ?_; try exact True.intro)); omega, hA.out⟩
end Go.Proofs.Ytojjdkoglhecbaa
namespace Go.Proofs.Ytojjdkoglhecbaa
open Go.RowKit
set_option linter.unusedSimpArgs false
set_option linter.unusedVariables false

/-- What is left of a row by another one's growth. -/
theorem Apb.keep {m m' : Mm} {k : Tok} {n : Nat} {e : TypeId} {z : Nat} (h : Apb m k n e z) (hn : m.next ≤ m'.next) (ho : ∀ q, q < m.next → k = .own q → m'.obj q = m.obj q) : Apb m' k n e z := by
  rcases h with h | ⟨t, h1, h2, h3⟩
  · exact .inl h
  · exact .inr ⟨t, h1, Nat.lt_of_lt_of_le h2 hn, (ho t h2 h1).trans h3⟩
theorem Apb.box {m : Mm} {k : Tok} {n : Nat} {e : TypeId} {z : Nat} (h : Apb m k n e z) {q : Nat} {cs : List V} {t : TypeId} (hq : m.obj q = some (.box cs t)) : k ≠ .own q := by
  rintro rfl
  rcases h with h | ⟨t, h1, _, h3⟩
  · cases h
  · injection h1 with h1; subst h1; rw [hq] at h3; cases h3

end Go.Proofs.Ytojjdkoglhecbaa
namespace Go.Proofs.Ytojjdkoglhecbaa
open Go.RowKit

def hiF (h : Hand) (c : Int) (i : Nat) : Int := if h.high.getD i 0 + c < 8 then h.high.getD i 0 + c else 8
def baF (h : Hand) (bl : List Bool) (i : Nat) : Bool := h.barre.getD i false || (decide (i < bl.length) && bl.getD i false)
def hiL (h : Hand) (c : Int) (n : Nat) : List Int := (List.range n).map (hiF h c)
def baL (h : Hand) (bl : List Bool) (n : Nat) : List Bool := (List.range n).map (baF h bl)
theorem hiL_len (h : Hand) (c : Int) (n : Nat) : (hiL h c n).length = n := by simp [hiL]
theorem baL_len (h : Hand) (bl : List Bool) (n : Nat) : (baL h bl n).length = n := by simp [baL]
theorem hiL_succ (h : Hand) (c : Int) (n : Nat) : hiL h c (n + 1) = hiL h c n ++ [hiF h c n] := by simp [hiL, List.range_succ]
theorem baL_succ (h : Hand) (bl : List Bool) (n : Nat) : baL h bl (n + 1) = baL h bl n ++ [baF h bl n] := by simp [baL, List.range_succ]
theorem hiL_at {h : Hand} {c : Int} {n i : Nat} (hi : i < n) : (hiL h c n).getD i 0 = hiF h c i := by
  rw [hiL, List.getD_eq_getElem?_getD, List.getElem?_map, List.getElem?_range hi]; rfl
theorem baL_at {h : Hand} {bl : List Bool} {n i : Nat} (hi : i < n) : (baL h bl n).getD i false = baF h bl i := by
  rw [baL, List.getD_eq_getElem?_getD, List.getElem?_map, List.getElem?_range hi]; rfl
def mnI (x y : Int) : Int := if y < x then y else x
/-- A wider hand. -/
def wdH (h : Hand) (a b c : Int) (bl : List Bool) : Hand := ⟨h.low, hiL h c h.low.length, baL h bl h.low.length, mnI 18 (h.top + a), mnI 18 (h.jump + b), h.shift, h.lift, h.bar, h.stretch, h.slide⟩

section
variable {h : Hand} {a b c : Int} {bl : List Bool}
theorem mnI_le (x y : Int) : mnI x y ≤ x ∧ mnI x y ≤ y ∧ (mnI x y = x ∨ mnI x y = y) := by
  unfold mnI; split
  · exact ⟨by omega, by omega, .inr rfl⟩
  · exact ⟨by omega, by omega, .inl rfl⟩
theorem hiF_le (i : Nat) : hiF h c i ≤ 8 ∧ hiF h c i ≤ h.high.getD i 0 + c ∧ (hiF h c i = 8 ∨ hiF h c i = h.high.getD i 0 + c) := by
  unfold hiF; split
  · exact ⟨by omega, by omega, .inr rfl⟩
  · exact ⟨by omega, by omega, .inl rfl⟩
theorem wide_ok (hk : HandOk h) (ha : 0 ≤ a) (hb : 0 ≤ b) (hc : 0 ≤ c) : HandOk (wdH h a b c bl) := by
  have ht := hk.top
  have hj := hk.jump
  have m1 := mnI_le 18 (h.top + a)
  have m2 := mnI_le 18 (h.jump + b)
  refine ⟨hk.n1, hk.n4, hiL_len _ _ _, baL_len _ _ _, fun i hi => ?_, hk.al, ?_, ?_, ?_, hk.shift, hk.lift, hk.bar, hk.stretch, hk.slide⟩
  · have h1 := hk.each i hi
    have h2 := hiF_le (h := h) (c := c) i
    show 0 ≤ h.low.getD i 0 ∧ h.low.getD i 0 ≤ (hiL h c h.low.length).getD i 0 ∧ (hiL h c h.low.length).getD i 0 ≤ 8
    have hi' : i < h.low.length := hi
    rw [hiL_at hi']
    exact ⟨h1.1, by omega, h2.1⟩
  · show ascB (hiL h c h.low.length) = true
    rw [ascB, allB_iff, hiL_len]
    intro i hi
    have hah := hk.ah
    rw [ascB, allB_iff, hk.nh] at hah
    have h1 := hah i hi
    rw [decide_eq_true_eq] at h1
    rw [decide_eq_true_eq, hiL_at (by omega), hiL_at (by omega)]
    have h2 := hiF_le (h := h) (c := c) i
    have h3 := hiF_le (h := h) (c := c) (i + 1)
    omega
  · show 1 ≤ mnI 18 (h.top + a) ∧ mnI 18 (h.top + a) ≤ 18
    omega
  · show 0 ≤ mnI 18 (h.jump + b) ∧ mnI 18 (h.jump + b) ≤ 18
    omega
theorem wide_fit (hk : HandOk h) (ha : 0 ≤ a) (hc : 0 ≤ c) {ch : Chord} {g : Grip} (hf : FitG h ch g) : FitG (wdH h a b c bl) ch g := by
  have ht := hk.top
  have m1 := mnI_le 18 (h.top + a)
  refine ⟨?_, hf.len, hf.fin, fun i hi => ?_, hf.agr, fun f hfl => ?_⟩
  · show 1 ≤ g.pos ∧ g.pos ≤ mnI 18 (h.top + a)
    have := hf.pos; omega
  · have h1 := hf.rch i hi
    have h2 := hf.fin i hi
    have hlt : (g.fingers.getD i 0 - 1).toNat < h.low.length := by omega
    have h3 := hk.each _ hlt
    have h4 := hiF_le (h := h) (c := c) (g.fingers.getD i 0 - 1).toNat
    rw [rchB, Bool.and_eq_true, decide_eq_true_eq, decide_eq_true_eq] at h1 ⊢
    refine ⟨h1.1, ?_⟩
    show _ ≤ g.pos + (hiL h c h.low.length).getD (g.fingers.getD i 0 - 1).toNat 0
    rw [hiL_at hlt]
    omega
  · intro h1 h2
    obtain ⟨k1, k2⟩ := hf.spn f hfl h1 h2
    refine ⟨?_, k2⟩
    show (baL h bl h.low.length).getD f false = true
    have hfl' : f < h.low.length := hfl
    rw [baL_at hfl', baF, k1]; rfl
theorem wide_own (ch : Chord) (g : Grip) : ownC (wdH h a b c bl) ch g = ownC h ch g := by
  have : ∀ k, ownU (wdH h a b c bl) ch g k = ownU h ch g k := by
    intro k
    induction k with
    | zero => rfl
    | succ k ih => rw [ownU, ownU, ih]; rfl
  exact this _
theorem wide_stepC (x y : Chord) (g k : Grip) : stepC (wdH h a b c bl) x g y k = stepC h x g y k := by
  have : ∀ n, slU (wdH h a b c bl) x g y k n = slU h x g y k n := by
    intro n
    induction n with
    | zero => rfl
    | succ n ih => rw [slU, slU, ih]; rfl
  rw [stepC, stepC]
  have e := this h.low.length
  show h.shift * dist g.pos k.pos + (if bothD x y ∧ 0 < dist g.pos k.pos then h.lift else 0) + (if bothD x y then slU (wdH h a b c bl) x g y k h.low.length else 0) = _
  rw [e]
theorem wide_step (hk : HandOk h) (hb : 0 ≤ b) {x y : Chord} {g k : Grip} (hs : StepOk h x g y k) (hg : 1 ≤ g.pos ∧ g.pos ≤ 18) (hkp : 1 ≤ k.pos ∧ k.pos ≤ 18) : StepOk (wdH h a b c bl) x g y k := by
  refine ⟨hs.1, fun ⟨h1, h2⟩ => hs.2 ⟨h1, ?_⟩⟩
  have m2 := mnI_le 18 (h.jump + b)
  have h3 : mnI 18 (h.jump + b) < dist g.pos k.pos := h2
  have h4 : dist g.pos k.pos ≤ 17 := dist_bound (by omega) (by omega)
  omega
/-- What is valid stays valid, at the same cost. -/
theorem wide_val {l : List Chord} {g : List Grip} (ha : 0 ≤ a) (hb : 0 ≤ b) (hc : 0 ≤ c) (hv : (valR h l g).2.2 = 0) : valR (wdH h a b c bl) l g = ((valR h l g).1, 0, 0) := by
  obtain ⟨h1, h2, h3, h4⟩ := val_ok hv
  obtain ⟨hk, hl4, hs⟩ := both_ok h1
  have ht := hk.top
  have e : prL (wdH h a b c bl) l g l.length = prL h l g l.length := by
    rw [prL, prL]
    apply List.map_congr_left
    intro k _
    rw [prC, prC, wide_own, wide_stepC]
  rw [val_is (both_is (wide_ok hk ha hb hc) hl4 hs) h2 (fun k hk' => ?_), e, h4]
  obtain ⟨p1, p2⟩ := h3 k hk'
  refine ⟨wide_fit hk ha hc p1, fun h0 => ?_⟩
  have q1 := (h3 (k - 1) (by omega)).1.pos
  have q2 := p1.pos
  exact wide_step hk hb (p2 h0) ⟨q1.1, by omega⟩ ⟨q2.1, by omega⟩
/-- The best does not become dearer. -/
theorem wide_best {l : List Chord} (hl : Fits l) (ha : 0 ≤ a) (hb : 0 ≤ b) (hc : 0 ≤ c) (hbst : (bstR h l).2.2 = 0) : (bstR (wdH h a b c bl) l).2.2 = 2 ∨ ((bstR (wdH h a b c bl) l).2.2 = 0 ∧ (bstR (wdH h a b c bl) l).2.1 ≤ (bstR h l).2.1) := by
  obtain ⟨hw, hh⟩ := bst_ok hbst
  obtain ⟨hbo, _⟩ := wv_ok hw
  obtain ⟨hk, h4, hs⟩ := both_ok hbo
  have hk' := wide_ok (bl := bl) hk ha hb hc
  have hn := wv_net hl hw
  by_cases hw' : wvE (wdH h a b c bl) l = 0
  case neg =>
    left
    rw [bst_err hw']
    show wvE _ _ = 2
    rw [wvE, if_pos (both_is hk' h4 hs)] at hw' ⊢
    split at hw'
    · exact absurd rfl hw'
    · rename_i hx; rw [if_neg hx]
  right
  have hn' := wv_net hl hw'
  have b1 := bst_yes hw hh
  by_cases hz : l.length = 0
  · have b2 := bst_yes hw' (fun hp => by omega)
    rw [if_pos hz] at b1 b2
    rw [b1.2, b2.2]; exact ⟨b2.1, Int.le_refl _⟩
  have hp : 0 < l.length := by omega
  have hN : Nle h (wdH h a b c bl) l (tabG h l) (tabG (wdH h a b c bl) l) := by
    refine ⟨fun i hi k hk1 => ?_, fun i hi k hk1 q hq hso => wide_step hk hb hso (hn.grip (by omega) hk1).1 (hn.grip hi hq).1⟩
    have hf := hn.at hi hk1
    have hm : (tabG h l).getD i [] |>.getD k noG |> fun x => x ∈ grpA (wdH h a b c bl) (l.getD i noC) := grpA_mem.2 (wide_fit hk ha hc hf)
    obtain ⟨k', hk', e⟩ := List.mem_iff_getElem.1 hm
    refine ⟨k', by rw [tabG_at hi]; exact hk', ?_⟩
    rw [tab_grp hi, List.getD_eq_getElem?_getD, List.getElem?_eq_getElem hk']
    exact e
  obtain ⟨p1, p2⟩ := nle_best hn hn' hN hp (hh hp)
  have b2 := bst_yes hw' (fun _ => p1)
  rw [if_neg hz] at b1 b2
  rw [b1.2, b2.2]
  exact ⟨b2.1, p2 ⟨fun i hi k hk1 => by rw [wide_own]; exact Int.le_refl _, fun i hi k hk1 q hq => by rw [wide_stepC]; exact Int.le_refl _⟩⟩
end
end Go.Proofs.Ytojjdkoglhecbaa
namespace Go.Proofs.Ytojjdkoglhecbaa
open Go.ChangeShapes Go.WideShapes Go.ChangeAt Go.RowKit
set_option maxRecDepth 100000

def tySearch : Ty := .st [tyHand, .sl tyChord 72]
theorem dt_handC {d : Dt} (h : d.ok tyHand) : ∃ x : Hand, d.cells = [tIs x.low, tIs x.high, tBs x.barre, vint x.top, vint x.jump, vint x.shift, vint x.lift, vint x.bar, vint x.stretch, vint x.slide] := by
  obtain ⟨x, hx⟩ := dt_hand h
  obtain ⟨l, _, _, hc, hv⟩ := ok_st h
  rw [hv, Hand.val] at hx
  injection hx with hx
  exact ⟨x, by rw [hc, hx]⟩
theorem dt_chordsC {b : Nat} {d : Dt} (hb : 8 ≤ b) (h : d.ok (.sl tyChord b)) : ∃ l : List Chord, d.cells = [tCs l] ∧ Fits l := by
  obtain ⟨l, h1, h2⟩ := dt_chords hb h
  exact ⟨l, by rw [dt_one h, h1], h2⟩
theorem dt_intsV {d : Dt} (h : d.ok (.sl .int 8)) : ∃ l : List Int, d.val = tIs l ∧ l.length ≤ 17592186044416 ∧ ∀ a ∈ l, -9223372036854775808 ≤ a ∧ a ≤ 9223372036854775807 := by
  obtain ⟨l, h1, h2, h3⟩ := dt_ints h
  rw [dt_one h] at h1
  exact ⟨l, List.cons.inj h1 |>.1, by omega, h3⟩
theorem ty_ints : tyOf Try.prog 10 22 = some (.sl .int 8) := by kernel_rfl
theorem ty_search : tyOf Try.prog 10 35 = some tySearch := by kernel_rfl
end Go.Proofs.Ytojjdkoglhecbaa
namespace Go.Proofs.Ytojjdkoglhecbaa
open Go.RowKit

section
variable {P : Program} {G : Ground}
end
end Go.Proofs.Ytojjdkoglhecbaa
namespace Go.Proofs.Ytojjdkoglhecbaa
open Go.ChangeShapes Go.WideShapes Go.ChangeAt Go.RowKit
set_option maxRecDepth 100000

end Go.Proofs.Ytojjdkoglhecbaa
namespace Go.Proofs.Ytojjdkoglhecbaa
open Go.RowKit

/-- The pairs of grips of the first chords. -/
noncomputable def hvU (h : Hand) (l : List Chord) : Nat → Int
  | 0 => 0
  | k + 1 => hvU h l k + (if k = 0 then 0 else ((grpA h (l.getD (k - 1) noC)).length : Int)) * ((grpA h (l.getD k noC)).length : Int)
/-- Does a search take too many steps? -/
noncomputable def hvB (h : Hand) (l : List Chord) : Bool :=
  if bothE h l = 0 then (if 24 < l.length then true else if wvE h l = 0 then decide (6000 < hvU h l l.length) else false) else false
theorem hvU_bound {h : Hand} {l : List Chord} : ∀ {k : Nat}, (∀ i, i < k → (grpA h (l.getD i noC)).length ≤ 200) → 0 ≤ hvU h l k ∧ hvU h l k ≤ 40000 * k
  | 0, _ => by simp [hvU]
  | k + 1, hk => by
    have h1 := hvU_bound (h := h) (l := l) (k := k) (fun i hi => hk i (by omega))
    have h2 := hk k (by omega)
    rw [hvU]
    by_cases k0 : k = 0
    · rw [if_pos k0, Int.zero_mul]; omega
    · rw [if_neg k0]
      have h3 := hk (k - 1) (by omega)
      have h5 : (grpA h (l.getD (k - 1) noC)).length * (grpA h (l.getD k noC)).length ≤ 200 * 200 := Nat.mul_le_mul h3 h2
      have h6 : ((grpA h (l.getD (k - 1) noC)).length : Int) * ((grpA h (l.getD k noC)).length : Int) = (((grpA h (l.getD (k - 1) noC)).length * (grpA h (l.getD k noC)).length : Nat) : Int) := by push_cast; rfl
      omega

set_option maxHeartbeats 2000000 in
theorem heavy_fn (h : Hand) (l : List Chord) (hl : Fits l) : Fn Try.prog Gd 29 [h.val, tCs l] (vbool (hvB h l)) := by
  refine Fn.of_vx0 k_theorbolaw06_Heavy (by simp) (by rw [V.pures, pure_hand, V.pures, pure_tCs]; rfl) ?_
  have C1 := rcheck_fn h
  have C2 := rcheckchords_fn l hl
  unfold hvB bothE
  unfold tCs at C2
  unfold Hand.val at C1
  unfold c_theorbolaw06_Heavy Hand.val tCs
  by_cases he : chkE h = 0
  case neg =>
    have e1 : (chkE h == 0) = false := by rw [beq_eq_false_iff_ne]; exact he
    rw [chk_bad he] at C1
    rw [if_neg he, if_neg (by decide)]
    clear he
    repeat' (with_reducible first | refine x_ops ?_ | refine wk ?_ | (with_reducible refine xc (C1) ?_) | (with_reducible refine xc (C2) ?_) | ((first | refine gd1 ?_ ?_ | refine gd2 ?_ ?_ | refine gd3 ?_ ?_) <;> (first | exact @False.elim _ | intro hc)))
    all_goals exact finV_lit vv rfl
  rw [he] at C1
  rw [if_pos he]
  by_cases hs : seqE l = 0
  case neg =>
    have e1 : (seqE l == 0) = false := by rw [beq_eq_false_iff_ne]; exact hs
    rw [if_neg hs]
    clear he hs
    repeat' (with_reducible first | refine x_ops ?_ | refine wk ?_ | (with_reducible refine xc (C1) ?_) | (with_reducible refine xc (C2) ?_) | ((first | refine gd1 ?_ ?_ | refine gd2 ?_ ?_ | refine gd3 ?_ ?_) <;> (first | exact @False.elim _ | intro hc)))
    all_goals exact finV_lit vv rfl
  rw [if_pos hs]
  have hb : bothE h l = 0 := by rw [bothE, if_pos he]; exact hs
  obtain ⟨hk, h4, hseq⟩ := both_ok hb
  rw [hs] at C2
  clear hs he
  by_cases h24 : 24 < l.length
  · have c1 : (24 : Int) < (l.length : Int) := by omega
    rw [if_pos h24]
    clear hb h24
    repeat' (with_reducible first | refine x_ops ?_ | refine wk ?_ | (with_reducible refine xc (C1) ?_) | (with_reducible refine xc (C2) ?_) | ((first | refine gd1 ?_ ?_ | refine gd2 ?_ ?_ | refine gd3 ?_ ?_) <;> (first | exact @False.elim _ | intro hc)))
    all_goals exact finV_lit vv rfl
  have c1 : ¬ (24 : Int) < (l.length : Int) := by omega
  rw [if_neg h24]
  repeat' (with_reducible first | refine x_ops ?_ | refine wk ?_ | (with_reducible refine xc (C1) ?_) | (with_reducible refine xc (C2) ?_) | ((first | refine gd1 ?_ ?_ | refine gd2 ?_ ?_ | refine gd3 ?_ ?_) <;> (first | exact @False.elim _ | intro hc)))
  refine x_gen (fun t => t 1 = .sl l.length (l.flatMap Chord.cells) .no ∧ t 2 = .ptr 0 0 ∧ t 5 = vint 0 ∧ t 6 = vint 0 ∧ t 7 = vint 0) ⟨vv, vv, vv, vv, vv⟩ ?_
  clear C1 C2 c1
  rintro t0 ⟨a1, a2, a5, a6, a7⟩
  refine x_loopF w_theorbolaw06_Heavy_p9 kr l.length (fun k t => t 7 = vint (k : Int) ∧ t 5 = vint (hvU h l k) ∧ t 6 = vint (if k = 0 then 0 else ((grpA h (l.getD (k - 1) noC)).length : Int)) ∧ ∀ i, i < k → (grpA h (l.getD i noC)).length ≤ 200) ?_ ?_
  · exact ⟨a7, by rw [hvU]; exact a5, by rw [if_pos rfl]; exact a6, fun i hi => by omega⟩
  rintro k t hkl ⟨h7, h5, h6, hcnt⟩
  by_cases hlt : k < l.length
  case neg =>
    have hke : k = l.length := by omega
    subst hke
    have c1 : ¬ (l.length : Int) < (l.length : Int) := by omega
    rw [if_pos (show wvE h l = 0 by rw [wvE, if_pos hb, if_pos hcnt])]
    clear hcnt hb hlt hkl
    repeat' (with_reducible first | refine x_ops ?_ | refine wk ?_ | ((first | refine gd1 ?_ ?_ | refine gd2 ?_ ?_ | refine gd3 ?_ ?_) <;> (first | exact @False.elim _ | intro hc)))
    exact finV_lit vv rfl
  have C2 := rGrips_fn h (l.getD k noC) (hl.at k)
  rw [grR_net hk (hseq k hlt).1] at C2
  have g1 := chs_take hlt
  have g2 := chs_len l
  have c1 : k * 3 + 3 ≤ l.length * 3 := by omega
  have c2 : (k : Int) < (l.length : Int) := by omega
  have w1 := w_add1 (k := k) (by omega)
  unfold Hand.val Chord.val Chord.cells at C2
  by_cases hc2 : (grpA h (l.getD k noC)).length ≤ 200
  case neg =>
    rw [if_neg (show ¬ wvE h l = 0 by rw [wvE, if_pos hb, if_neg (fun hh => hc2 (hh k hlt))]; decide)]
    rw [if_neg hc2] at C2
    unfold tGs at C2
    clear hc2 hcnt hb
    dsimp only at C2
    repeat' (with_reducible first | refine x_ops ?_ | refine wk ?_ | (with_reducible refine xc (C2) ?_) | ((first | refine gd1 ?_ ?_ | refine gd2 ?_ ?_ | refine gd3 ?_ ?_) <;> (first | exact @False.elim _ | intro hc)))
    exact finV_lit vv rfl
  have hcn : ∀ i, i < k + 1 → (grpA h (l.getD i noC)).length ≤ 200 := fun i hi => by
    by_cases hik : i = k
    · subst hik; exact hc2
    · exact hcnt i (by omega)
  rw [if_pos hc2] at C2
  have hb1 := hvU_bound (h := h) (l := l) (k := k) hcnt
  have hb2 := hvU_bound (h := h) (l := l) (k := k + 1) hcn
  have hU : hvU h l (k + 1) = hvU h l k + (if k = 0 then 0 else ((grpA h (l.getD (k - 1) noC)).length : Int)) * ((grpA h (l.getD k noC)).length : Int) := rfl
  have hla : 0 ≤ (if k = 0 then 0 else ((grpA h (l.getD (k - 1) noC)).length : Int)) := by split <;> omega
  have hlast : (if k + 1 = 0 then 0 else ((grpA h (l.getD (k + 1 - 1) noC)).length : Int)) = ((grpA h (l.getD k noC)).length : Int) := by rw [if_neg (by omega), Nat.add_sub_cancel]
  generalize hun : hvU h l (k + 1) = un at *
  replace hun := Hid.mk hun
  generalize hvU h l k = uk at *
  generalize (if k = 0 then 0 else ((grpA h (l.getD (k - 1) noC)).length : Int)) = la at *
  have hmul : 0 ≤ la * ((grpA h (l.getD k noC)).length : Int) := Int.mul_nonneg hla (by omega)
  have w2 : IntKind.i64.wrap (la * ((grpA h (l.getD k noC)).length : Int)) = la * ((grpA h (l.getD k noC)).length : Int) := w_in (by omega)
  have w3 : IntKind.i64.wrap (uk + la * ((grpA h (l.getD k noC)).length : Int)) = un := by rw [w_in (by omega)]; exact hU.symm
  unfold tGs at C2
  replace hlast := Hid.mk hlast
  replace hcn := Hid.mk hcn
  replace hb := Hid.mk hb
  clear hU hb1 hb2 hla hmul hcnt hc2
  generalize grpA h (l.getD k noC) = G at *
  dsimp only at C2
  repeat' (with_reducible first | refine x_ops ?_ | refine wk ?_ | (with_reducible refine xc (C2) ?_) | ((first | refine gd1 ?_ ?_ | refine gd2 ?_ ?_ | refine gd3 ?_ ?_) <;> (first | exact @False.elim _ | intro hc)))
  exact nf hlt ⟨vv, by rw [hun.out]; exact vv, by rw [hlast.out]; exact vv, hcn.out⟩ rfl
end Go.Proofs.Ytojjdkoglhecbaa
namespace Go.Proofs.Ytojjdkoglhecbaa
open Go.RowKit

end Go.Proofs.Ytojjdkoglhecbaa
namespace Go.Proofs.Ytojjdkoglhecbaa
open Go.RowKit
set_option maxRecDepth 100000

abbrev c_theorbolaw06_HandWider_p1 : VC := (.seq (.ops 0 [oo 33 (.call 28) [], oo 6 .mv [.t 33]]) .ret)
abbrev c_theorbolaw06_HandWider_p2 : VC := (.ops 25 [oo 83 (.fldA 2) [.t 9], od 84 .ld1 [.t 83] [0], oo 85 (.fldA 2) [.t 7], od 86 .ld1 [.t 85] [2], oo 87 .mv [.t 10], oo 88 (.ixA 1) [.t 86, .t 87], od 89 .ld1 [.t 88] [2, 3, 4, 5], oo 90 .mv [.t 89], og 91 90 false .mv [.t 10], og 92 90 false (.fldA 3) [.t 4], ⟨(some 93), (some (90, false)), .ld1, [.t 92], (some [2, 3, 4, 5, 6, 7, 9])⟩, og 94 90 false .len [.t 93], og 95 90 false (.bin .lss) [.t 91, .t 94], og 96 90 false .mv [.t 95], og 97 96 true (.fldA 3) [.t 4], ⟨(some 98), (some (96, true)), .ld1, [.t 97], (some [2, 3, 4, 5, 6, 7, 8, 9, 10, 11, 12, 13, 14])⟩, og 99 96 true .mv [.t 10], og 100 96 true (.ixA 1) [.t 98, .t 99], ⟨(some 101), (some (96, true)), .ld1, [.t 100], (some [2, 3, 4, 5, 6, 7, 8, 9, 10, 11, 12, 13, 14, 15, 16, 17])⟩, og 102 90 false .pick [.t 96, .t 101, (.c (.lit (.bool false)))], oo 103 .pick [.t 90, (.c (.lit (.bool true))), .t 102], oo 104 (.mksl 1 1 [(.lit (.bool false))] [(0, 1)]) [.t 103], oo 105 (.app 4 1 1) [.t 84, .t 104], oo 106 (.fldA 2) [.t 9], ⟨none, none, (.st 1), [.t 106, .t 105], none⟩])
abbrev c_theorbolaw06_HandWider_p3 : VC := (.ops 0 [oo 66 .mv [.t 10], oo 67 (.bin .add) [.t 66, kk 1], oo 10 .mv [.t 67]])
abbrev c_theorbolaw06_HandWider_p4 : VC := (.seq (.block 1 (.seq (.ops 16 [oo 68 (.fldA 1) [.t 9], od 69 .ld1 [.t 68] [0], oo 70 (.fldA 1) [.t 7], od 71 .ld1 [.t 70] [2], oo 72 .mv [.t 10], oo 73 (.ixA 1) [.t 71, .t 72], od 74 .ld1 [.t 73] [2, 3, 4, 5], oo 75 (.fldA 2) [.t 4], od 76 .ld1 [.t 75] [7], od 77 (.call 30) [.t 76, kk 3] [7, 8], oo 78 (.bin .add) [.t 74, .t 77], oo 79 .mn [kk 8, .t 78], oo 80 (.mksl 1 1 [li 0] [(0, 1)]) [.t 79], oo 81 (.app 3 1 8) [.t 69, .t 80], oo 82 (.fldA 1) [.t 9], ⟨none, none, (.st 1), [.t 82, .t 81], none⟩]) c_theorbolaw06_HandWider_p2)) c_theorbolaw06_HandWider_p3)
abbrev c_theorbolaw06_HandWider_p5 : VC := (.seq (.seq (.ops 0 [oo 61 .mv [.t 10], oo 62 (.fldA 0) [.t 7], oo 63 .ld1 [.t 62], oo 64 .len [.t 63], oo 65 (.bin .lss) [.t 61, .t 64]]) (.cond (.t 65) .skip (.exit 0))) c_theorbolaw06_HandWider_p4)
@[go_sem] abbrev w_theorbolaw06_HandWider_p5 : Nat := 162259276829211057548568796595200
abbrev c_theorbolaw06_HandWider_p7 : VC := (.seq (.ops 0 [oo 110 (.call 28) [], oo 6 .mv [.t 110]]) .ret)
abbrev c_theorbolaw06_HandWider_p8 : VC := (.seq (.ops 0 [oo 6 .mv [(.c (.lit (.bool false)))]]) .ret)
abbrev c_theorbolaw06_HandWider_p9 : VC := (.seq (.ops 0 [oo 133 .mv [.t 17], oo 134 (.bin .neq) [.t 133, kk 0], oo 135 .mv [.t 134], og 136 135 false .mv [.t 15], og 137 135 false .mv [.t 12], og 138 135 false (.bin .neq) [.t 136, .t 137], oo 139 .pick [.t 135, (.c (.lit (.bool true))), .t 138]]) (.cond (.t 139) c_theorbolaw06_HandWider_p8 .skip))
abbrev c_theorbolaw06_HandWider_p10 : VC := (.seq (.ops 0 [oo 126 (.ldA 10) [.t 9], oo 127 .mv [.t 8], oo 128 .mv [.t 11], oo 129 (.call 56) [.t 126, .t 127, .t 128], oo 125 .mv [.t 129], oo 130 (.ext 0) [.t 125], oo 131 (.ext 1) [.t 125], oo 132 (.ext 2) [.t 125], oo 15 .mv [.t 130], oo 16 .mv [.t 131], oo 17 .mv [.t 132]]) c_theorbolaw06_HandWider_p9)
abbrev c_theorbolaw06_HandWider_p11 : VC := (.seq (.ops 0 [oo 152 .mv [.t 14], oo 153 (.bin .neq) [.t 152, kk 0], oo 154 .mv [.t 153], og 155 154 false .mv [.t 20], og 156 154 false (.bin .eql) [.t 155, kk 2], oo 157 .pick [.t 154, (.c (.lit (.bool true))), .t 156], oo 158 .mv [.t 157], og 159 158 false .mv [.t 20], og 160 158 false (.bin .eql) [.t 159, kk 0], og 161 158 false .mv [.t 160], og 162 161 true (.fldA 1) [.t 19], og 163 161 true .ld1 [.t 162], og 164 161 true (.fldA 1) [.t 18], og 165 161 true .ld1 [.t 164], og 166 161 true (.bin .leq) [.t 163, .t 165], og 167 158 false .pick [.t 161, .t 166, (.c (.lit (.bool false)))], oo 168 .pick [.t 158, (.c (.lit (.bool true))), .t 167], oo 169 .mv [.t 168], og 170 169 true (.call 28) [], oo 171 .pick [.t 169, .t 170, (.c (.lit (.bool false)))], oo 6 .mv [.t 171]]) .ret)
abbrev c_theorbolaw06_HandWider_p12 : VC := (.seq (.ops 9 [oo 147 (.ldA 10) [.t 9], oo 148 .mv [.t 8], oo 149 (.call 31) [.t 147, .t 148], oo 146 .mv [.t 149], oo 150 (.ext 0) [.t 146], oo 151 (.ext 1) [.t 146], ⟨(some 19), none, (.alloc 40 [(.sl 0 [] .exact), li 0]), [], none⟩, ⟨none, none, (.st 2), [.t 19, .t 150], none⟩, oo 20 .mv [.t 151]]) c_theorbolaw06_HandWider_p11)
abbrev c_theorbolaw06_HandWider_p13 : VC := (.seq (.ops 9 [oo 141 (.ldA 10) [.t 7], oo 142 .mv [.t 8], oo 143 (.call 31) [.t 141, .t 142], oo 140 .mv [.t 143], oo 144 (.ext 0) [.t 140], oo 145 (.ext 1) [.t 140], ⟨(some 18), none, (.alloc 40 [(.sl 0 [] .exact), li 0]), [], none⟩, ⟨none, none, (.st 2), [.t 18, .t 144], none⟩, oo 14 .mv [.t 145]]) c_theorbolaw06_HandWider_p12)
abbrev c_theorbolaw06_HandWider_p14 : VC := (.seq (.seq (.ops 0 [oo 123 .mv [.t 14], oo 124 (.bin .eql) [.t 123, kk 0]]) (.cond (.t 124) c_theorbolaw06_HandWider_p10 .skip)) c_theorbolaw06_HandWider_p13)
abbrev c_theorbolaw06_HandWider_p15 : VC := (.seq (.ops 0 [oo 116 (.ldA 10) [.t 7], oo 117 .mv [.t 8], oo 118 .mv [.t 11], oo 119 (.call 56) [.t 116, .t 117, .t 118], oo 115 .mv [.t 119], oo 120 (.ext 0) [.t 115], oo 121 (.ext 1) [.t 115], oo 122 (.ext 2) [.t 115], oo 12 .mv [.t 120], oo 13 .mv [.t 121], oo 14 .mv [.t 122]]) c_theorbolaw06_HandWider_p14)
abbrev c_theorbolaw06_HandWider_p16 : VC := (.seq (.ops 0 [oo 111 (.ldA 10) [.t 7], oo 112 .mv [.t 8], oo 113 .mv [.t 2], oo 114 (.call 55) [.t 111, .t 112, .t 113], oo 11 .mv [.t 114]]) c_theorbolaw06_HandWider_p15)
abbrev c_theorbolaw06_HandWider_p17 : VC := (.seq (.seq (.ops 0 [oo 107 (.ldA 10) [.t 9], oo 108 .mv [.t 8], oo 109 (.call 29) [.t 107, .t 108]]) (.cond (.t 109) c_theorbolaw06_HandWider_p7 .skip)) c_theorbolaw06_HandWider_p16)
abbrev c_theorbolaw06_HandWider_p18 : VC := (.seq (.seq (.ops 0 [oo 10 .mv [kk 0]]) (.block 0 (.loop c_theorbolaw06_HandWider_p5))) c_theorbolaw06_HandWider_p17)
abbrev c_theorbolaw06_HandWider_p19 : VC := (.seq (.ops 29 [oo 34 (.fldA 0) [.t 7], od 35 .ld1 [.t 34] [0], oo 36 (.fldA 3) [.t 7], od 37 .ld1 [.t 36] [2], oo 38 (.fldA 0) [.t 4], od 39 .ld1 [.t 38] [4], od 40 (.call 30) [.t 39, kk 6] [4, 5], oo 41 (.bin .add) [.t 37, .t 40], oo 42 .mn [kk 18, .t 41], oo 43 (.fldA 4) [.t 7], od 44 .ld1 [.t 43] [9], oo 45 (.fldA 1) [.t 4], od 46 .ld1 [.t 45] [11], od 47 (.call 30) [.t 46, kk 6] [4, 5, 6, 11, 12], oo 48 (.bin .add) [.t 44, .t 47], oo 49 .mn [kk 18, .t 48], oo 50 (.fldA 5) [.t 7], od 51 .ld1 [.t 50] [16], oo 52 (.fldA 6) [.t 7], od 53 .ld1 [.t 52] [18], oo 54 (.fldA 7) [.t 7], od 55 .ld1 [.t 54] [20], oo 56 (.fldA 8) [.t 7], od 57 .ld1 [.t 56] [22], oo 58 (.fldA 9) [.t 7], od 59 .ld1 [.t 58] [24], ⟨(some 60), none, (.build [(.sl 0 [] .exact), (.sl 0 [] .exact), (.sl 0 [] .exact), li 0, li 0, li 0, li 0, li 0, li 0, li 0] [(0, 1), (3, 1), (4, 1), (5, 1), (6, 1), (7, 1), (8, 1), (9, 1)]), [.t 35, .t 42, .t 49, .t 51, .t 53, .t 55, .t 57, .t 59], none⟩, ⟨(some 9), none, (.alloc 25 [(.sl 0 [] .exact), (.sl 0 [] .exact), (.sl 0 [] .exact), li 0, li 0, li 0, li 0, li 0, li 0, li 0]), [], (some [])⟩, ⟨none, none, (.st 10), [.t 9, .t 60], none⟩]) c_theorbolaw06_HandWider_p18)
abbrev c_theorbolaw06_HandWider_p20 : VC := (.seq (.seq (.ops 0 [oo 25 (.ldA 10) [.t 7], oo 26 (.call 25) [.t 25], oo 27 (.bin .neq) [.t 26, kk 0], oo 28 .mv [.t 27], og 29 28 false (.ldA 10) [.t 7], og 30 28 false .mv [.t 8], og 31 28 false (.call 29) [.t 29, .t 30], oo 32 .pick [.t 28, (.c (.lit (.bool true))), .t 31]]) (.cond (.t 32) c_theorbolaw06_HandWider_p1 .skip)) c_theorbolaw06_HandWider_p19)
abbrev c_theorbolaw06_HandWider_p21 : VC := (.seq (.ops 7 [oo 21 (.fldA 0) [.t 3], od 22 (.ldA 10) [.t 21] [0], oo 23 (.fldA 10) [.t 3], od 24 .ld1 [.t 23] [2], ⟨(some 7), none, (.alloc 25 [(.sl 0 [] .exact), (.sl 0 [] .exact), (.sl 0 [] .exact), li 0, li 0, li 0, li 0, li 0, li 0, li 0]), [], (some [])⟩, ⟨none, none, (.st 10), [.t 7, .t 22], (some [4])⟩, oo 8 .mv [.t 24]]) c_theorbolaw06_HandWider_p20)
def c_theorbolaw06_HandWider : VC := (.seq (.ops 3 [oo 3 (.box 35) [.t 0], oo 4 (.box 84) [.t 1], oo 6 .mv [(.c (.lit (.bool false)))]]) c_theorbolaw06_HandWider_p21)
theorem k_theorbolaw06_HandWider : Comp Try.prog nobx gtab 15 172 c_theorbolaw06_HandWider [.t 6] := ⟨⟨Try.f15, _, Try.func15, rfl, rfl, kr, kr⟩⟩
end Go.Proofs.Ytojjdkoglhecbaa
namespace Go.Proofs.Ytojjdkoglhecbaa
open Go.RowKit

def widV (a b c : Int) (bl : List Bool) : V := .agg [vint a, vint b, vint c, tBs bl]
theorem pure_wid (a b c : Int) (bl : List Bool) : (widV a b c bl).pure = true := by rw [widV, V.pure]; rfl
/-- Where the wider hand stands, with i fingers done. -/
structure WiSt (h : Hand) (c : Int) (bl : List Bool) (T J : Int) (p9 i : Nat) (M : Mm) : Prop where
  ex : ∃ k1 k2, M.obj p9 = some (.box [tIs h.low, .sl i ((hiL h c i).map vint) k1, .sl i ((baL h bl i).map vbool) k2, vint T, vint J, vint h.shift, vint h.lift, vint h.bar, vint h.stretch, vint h.slide] 25) ∧ Apb M k1 i 3 1 ∧ Apb M k2 i 4 1
/-- The second row has grown: what was in the other box and the other row stands. -/
theorem wi_next {h : Hand} {c : Int} {bl : List Bool} {T J : Int} {p9 i : Nat} {k1' k2 k2' : Tok} {m5 m7 : Mm} {o : AObj} {n1 n2 : Nat} (a1 : Apb m5 k1' (i + 1) 3 1) (a2 : Apb m5 k2 i 4 1) {cs : List V} {ty : TypeId} (u9 : m5.obj p9 = some (.box cs ty))
    (hap' : Apb m7 k2' (i + 1) 4 1) (hn'' : m7.next = m5.next + n1) (hlt : m5.next ≤ n2) (hobj : ∀ q, q ≠ n2 → k2 ≠ .own q → m7.obj q = (m5.put p9 o).obj q) {d : List V} (w9 : m7.obj p9 = some (.box d 25)) :
    WiSt h c bl T J p9 (i + 1) (m7.put p9 (.box [tIs h.low, .sl (i + 1) ((hiL h c (i + 1)).map vint) k1', .sl (i + 1) ((baL h bl (i + 1)).map vbool) k2', vint T, vint J, vint h.shift, vint h.lift, vint h.bar, vint h.stretch, vint h.slide] 25)) := by
  refine ⟨k1', k2', put_same _ _ _, Apb.put ?_ w9, Apb.put hap' w9⟩
  exact (a1.put u9).mono (fun q hq hrow => hobj q (by have : q < m5.next := hq; omega) (fun e => by
    have hrow' : m5.obj q = some (.row (i + 1) 3 1) := by
      by_cases hq9 : q = p9
      · subst hq9
        have := (a1.put (o := o) u9)
        rcases a1 with h1 | ⟨y, h1, h2, h3⟩
        · rcases a2 with b1 | ⟨z, b1, b2, b3⟩
          · rw [b1] at e; cases e
          · rw [b1] at e; injection e with e; subst e; rw [u9] at b3; cases b3
        · rcases a2 with b1 | ⟨z, b1, b2, b3⟩
          · rw [b1] at e; cases e
          · rw [b1] at e; injection e with e; subst e; rw [u9] at b3; cases b3
      · rwa [put_other _ _ hq9] at hrow
    rcases a2 with b1 | ⟨z, b1, b2, b3⟩
    · rw [b1] at e; cases e
    · rw [b1] at e; injection e with e; subst e; rw [hrow'] at b3; injection b3 with b3; injection b3 with _ b3; exact absurd b3 (by decide))) (by show m5.next ≤ m7.next; omega)
set_option maxHeartbeats 4000000 in
theorem handwider_fn (h : Hand) (l : List Chord) (hl : Fits l) (hl4 : l.length ≤ 4398046511103) (ta tb tc : Int) (bl : List Bool) (hbl : bl.length ≤ 4611686018427387904) (picks : List Int) (hp : picks.length ≤ 17592186044416) :
    Fn Try.prog Gd 15 [srV h l, widV ta tb tc bl, tIs picks] (vbool true) := by
  refine Fn.of_vx0 k_theorbolaw06_HandWider (by simp) (by rw [V.pures, pure_sr, V.pures, pure_wid, V.pures, pure_tIs]; rfl) ?_
  have C0 := heavy_fn h l hl
  have C1 := rcheck_fn h
  have C5 := works_fn
  unfold c_theorbolaw06_HandWider srV widV tCs
  by_cases hk : HandOk h
  case neg =>
    have e1 : chkE h = 60 := by unfold chkE; simp [hk]
    rw [e1] at C1
    unfold Hand.val at C1
    clear hk C0
    repeat' (with_reducible first | refine x_ops ?_ | refine wk ?_ | (with_reducible refine xc (C1) ?_) | (with_reducible refine xc (C5) ?_) | ((first | refine gd1 ?_ ?_ | refine gd2 ?_ ?_ | refine gd3 ?_ ?_) <;> (first | exact @False.elim _ | intro hc)))
    all_goals exact finV_dry rfl vv
  have e1 : chkE h = 0 := by unfold chkE; simp [hk]
  rw [e1] at C1
  generalize hvB h l = hv at *
  cases hv
  case true =>
    unfold Hand.val at C0 C1
    unfold tCs at C0
    clear hk
    repeat' (with_reducible first | refine x_ops ?_ | refine wk ?_ | (with_reducible refine xc (C0) ?_) | (with_reducible refine xc (C1) ?_) | (with_reducible refine xc (C5) ?_) | ((first | refine gd1 ?_ ?_ | refine gd2 ?_ ?_ | refine gd3 ?_ ?_) <;> (first | exact @False.elim _ | intro hc)))
    all_goals exact finV_dry rfl vv
  have R1 := rest_fn ta 6 (by omega) (by omega)
  have R2 := rest_fn tb 6 (by omega) (by omega)
  have R3 := rest_fn tc 3 (by omega) (by omega)
  have q1 := rs_bound (n := 6) ta (by omega)
  have q2 := rs_bound (n := 6) tb (by omega)
  have q3 := rs_bound (n := 3) tc (by omega)
  generalize rsI ta 6 = a at *
  generalize rsI tb 6 = b at *
  generalize rsI tc 3 = c at *
  have H0 := heavy_fn (wdH h a b c bl) l hl
  have B1 := Best_fn h l hl
  have B2 := Best_fn (wdH h a b c bl) l hl
  have CH := chosen_fn h l hl hl4 picks hp
  have hG := choL_fits hl hl4 (h := h) picks
  have V1 := valid_fn h l hl _ hG
  have V2 := valid_fn (wdH h a b c bl) l hl _ hG
  have hV := fun hv => wide_val (h := h) (bl := bl) (l := l) (g := choL h l picks) q1.1 q2.1 q3.1 hv
  have hB := fun hb => wide_best (bl := bl) hl q1.1 q2.1 q3.1 (h := h) hb
  have ht := hk.top
  have hj := hk.jump
  have hn4 := hk.n4
  have hhi := fun i hi => (hk.each i hi)
  have hnh := hk.nh
  have hnb := hk.nb
  generalize bstR h l = r1 at *
  generalize bstR (wdH h a b c bl) l = r2 at *
  generalize choL h l picks = G at *
  generalize valR h l G = r3 at *
  generalize valR (wdH h a b c bl) l G = r4 at *
  generalize hvB (wdH h a b c bl) l = hw at *
  obtain ⟨G1, x1, f1⟩ := r1
  obtain ⟨G2, x2, f2⟩ := r2
  obtain ⟨s1, s2, s3⟩ := r3
  dsimp only at hV hB V1
  unfold Hand.val at C0 C1 H0 B1 B2 CH V1 V2
  unfold tCs at C0 H0 B1 B2 CH V1 V2
  unfold fstV tGs at B1 B2
  unfold tGs at CH V1 V2
  unfold wdH at H0 B2 V2
  dsimp only at H0 B1 B2 V2
  have w1 := w_in (a := h.top + a) (by omega)
  have w2 := w_in (a := h.jump + b) (by omega)
  replace hhi := Hid.mk hhi
  replace hk := Hid.mk hk
  replace hnh := Hid.mk hnh
  replace hnb := Hid.mk hnb
  have eT : (if h.top + a < 18 then h.top + a else 18) = mnI 18 (h.top + a) := rfl
  have eJ : (if h.jump + b < 18 then h.jump + b else 18) = mnI 18 (h.jump + b) := rfl
  repeat' (with_reducible first | refine x_ops ?_ | refine wk ?_ | (with_reducible refine xc (C0) ?_) | (with_reducible refine xc (C1) ?_) | (with_reducible refine xc (R1) ?_) | (with_reducible refine xc (R2) ?_) | ((first | refine gd1 ?_ ?_ | refine gd2 ?_ ?_ | refine gd3 ?_ ?_) <;> (first | exact @False.elim _ | intro hc)))
  refine x_genM (fun t M => (t 2 = tIs picks ∧ t 4 = .ptr 1 0 ∧ t 7 = .ptr 7 0 ∧ t 8 = .sl l.length (l.flatMap Chord.cells) .no ∧ t 9 = .ptr 37 0 ∧ t 10 = vint 0) ∧ 39 ≤ M.next ∧ M.obj 1 = some (.box [vint ta, vint tb, vint tc, tBs bl] 84) ∧
    M.obj 7 = some (.box [tIs h.low, tIs h.high, tBs h.barre, vint h.top, vint h.jump, vint h.shift, vint h.lift, vint h.bar, vint h.stretch, vint h.slide] 25) ∧ WiSt h c bl (mnI 18 (h.top + a)) (mnI 18 (h.jump + b)) 37 0 M)
    ⟨⟨vv, vv, vv, vv, vv, vv⟩, by (show 39 ≤ 39; decide), vv, vv, ⟨.exact, .exact, vw, .inl rfl, .inl rfl⟩⟩ ?_
  clear eT eJ w1 w2 R1 R2 C0 C1
  generalize mnI 18 (h.top + a) = T at *
  generalize mnI 18 (h.jump + b) = J at *
  rintro t0 M0' ⟨⟨a2, b4, b7, a8, b9, a10⟩, m1, b1, b2, b3⟩
  obtain ⟨p4, a4, m2, l4⟩ : ∃ p, t0 4 = .ptr p 0 ∧ M0'.obj p = some (.box [vint ta, vint tb, vint tc, tBs bl] 84) ∧ p < 39 := ⟨1, b4, b1, by decide⟩
  obtain ⟨p7, a7, m3, l7⟩ : ∃ p, t0 7 = .ptr p 0 ∧ M0'.obj p = some (.box [tIs h.low, tIs h.high, tBs h.barre, vint h.top, vint h.jump, vint h.shift, vint h.lift, vint h.bar, vint h.stretch, vint h.slide] 25) ∧ p < 37 := ⟨7, b7, b2, by decide⟩
  obtain ⟨p9, a9, m4, l9⟩ : ∃ p, t0 9 = .ptr p 0 ∧ WiSt h c bl T J p 0 M0' ∧ (37 ≤ p ∧ p < 39) := ⟨37, b9, b3, by decide⟩
  clear b4 b7 b9 b1 b2 b3
  refine x_loopW w_theorbolaw06_HandWider_p5 kr h.low.length (fun i t M => t 10 = vint (i : Int) ∧ 39 ≤ M.next ∧ M.obj p4 = some (.box [vint ta, vint tb, vint tc, tBs bl] 84) ∧
    M.obj p7 = some (.box [tIs h.low, tIs h.high, tBs h.barre, vint h.top, vint h.jump, vint h.shift, vint h.lift, vint h.bar, vint h.stretch, vint h.slide] 25) ∧ WiSt h c bl T J p9 i M) ⟨a10, m1, m2, m3, m4⟩ ?_
  clear a10 m1 m2 m3 m4
  rintro i t M hi ⟨h10, m1, m2, m3, ⟨k1, k2, o9, ap1, ap2⟩⟩
  have n4 : p4 < M.next := by omega
  have n7 : p7 < M.next := by omega
  have n9 : p9 < M.next := by omega
  have p79 : ¬ p7 = p9 := by omega
  have p97 : ¬ p9 = p7 := by omega
  have p49 : ¬ p4 = p9 := ne_type m2 o9 (by decide)
  have p94 : ¬ p9 = p4 := fun e => p49 e.symm
  have y2 : ∀ q j, q < M.next → (q < M.next + j) = True := fun q j hq => by simp; omega
  have y3 : ∀ q j, q < M.next → (q = M.next + j) = False := fun q j hq => by simp; omega
  have y4 : ∀ q j, q < M.next → (M.next + j = q) = False := fun q j hq => by simp; omega
  by_cases hlt : i < h.low.length
  case neg =>
    have e : i = h.low.length := by omega
    subst e
    have c1 : ¬ (h.low.length : Int) < (h.low.length : Int) := by omega
    have L1 := hiL_len h c h.low.length
    have L2 := baL_len h bl h.low.length
    clear ap1 ap2 R3 hlt hi
    cases hw
    case true =>
      clear CH V1 V2 B1 B2
      repeat' (with_reducible first | refine x_ops ?_ | refine wk ?_ | (with_reducible refine xc (H0) ?_) | (with_reducible refine xc (C5) ?_) | ((first | refine gd1 ?_ ?_ | refine gd2 ?_ ?_ | refine gd3 ?_ ?_) <;> (first | exact @False.elim _ | intro hc)))
      all_goals exact finV_dry rfl vv
    have fin : ∀ (hv : (s3 == 0) = false ∨ (s3 = 0 ∧ r4 = (s1, 0, 0))) , (f1 == 0) = false ∨ (f1 = 0 ∧ ((f2 = 2 ∧ (f2 == 2) = true) ∨ (f2 = 0 ∧ (decide (x2 ≤ x1)) = true))) := fun _ => by
      by_cases hf : f1 = 0
      · rcases hB hf with h1 | ⟨h1, h2⟩
        · exact .inr ⟨hf, .inl ⟨h1, by rw [beq_iff_eq]; exact h1⟩⟩
        · exact .inr ⟨hf, .inr ⟨h1, by simp; exact h2⟩⟩
      · exact .inl (by rw [beq_eq_false_iff_ne]; exact hf)
    have hy : (s3 == 0) = false ∨ (s3 = 0 ∧ r4 = (s1, 0, 0)) := by
      by_cases hy : s3 = 0
      · exact .inr ⟨hy, hV hy⟩
      · exact .inl (by rw [beq_eq_false_iff_ne]; exact hy)
    replace fin := fin hy
    clear hB hV
    have k3 : (s1 == s1) = true := by simp
    rcases hy with h1 | ⟨rfl, rfl⟩
    · clear V2
      rcases fin with h2 | ⟨rfl, ⟨rfl, h3⟩ | ⟨rfl, h3⟩⟩
      · repeat' (with_reducible first | refine x_ops ?_ | refine wk ?_ | (with_reducible refine xc (H0) ?_) | (with_reducible refine xc (CH) ?_) | (with_reducible refine xc (V1) ?_) | (with_reducible refine xc (B1) ?_) | (with_reducible refine xc (B2) ?_) | (with_reducible refine xc (C5) ?_) | ((first | refine gd1 ?_ ?_ | refine gd2 ?_ ?_ | refine gd3 ?_ ?_) <;> (first | exact @False.elim _ | intro hc)))
        all_goals exact finV_dry rfl vv
      · repeat' (with_reducible first | refine x_ops ?_ | refine wk ?_ | (with_reducible refine xc (H0) ?_) | (with_reducible refine xc (CH) ?_) | (with_reducible refine xc (V1) ?_) | (with_reducible refine xc (B1) ?_) | (with_reducible refine xc (B2) ?_) | (with_reducible refine xc (C5) ?_) | ((first | refine gd1 ?_ ?_ | refine gd2 ?_ ?_ | refine gd3 ?_ ?_) <;> (first | exact @False.elim _ | intro hc)))
        all_goals exact finV_dry rfl vv
      · repeat' (with_reducible first | refine x_ops ?_ | refine wk ?_ | (with_reducible refine xc (H0) ?_) | (with_reducible refine xc (CH) ?_) | (with_reducible refine xc (V1) ?_) | (with_reducible refine xc (B1) ?_) | (with_reducible refine xc (B2) ?_) | (with_reducible refine xc (C5) ?_) | ((first | refine gd1 ?_ ?_ | refine gd2 ?_ ?_ | refine gd3 ?_ ?_) <;> (first | exact @False.elim _ | intro hc)))
        all_goals exact finV_dry rfl vv
    · dsimp only at V2
      rcases fin with h2 | ⟨rfl, ⟨rfl, h3⟩ | ⟨rfl, h3⟩⟩
      · repeat' (with_reducible first | refine x_ops ?_ | refine wk ?_ | (with_reducible refine xc (H0) ?_) | (with_reducible refine xc (CH) ?_) | (with_reducible refine xc (V1) ?_) | (with_reducible refine xc (V2) ?_) | (with_reducible refine xc (B1) ?_) | (with_reducible refine xc (B2) ?_) | (with_reducible refine xc (C5) ?_) | ((first | refine gd1 ?_ ?_ | refine gd2 ?_ ?_ | refine gd3 ?_ ?_) <;> (first | exact @False.elim _ | intro hc)))
        all_goals exact finV_dry rfl vv
      · repeat' (with_reducible first | refine x_ops ?_ | refine wk ?_ | (with_reducible refine xc (H0) ?_) | (with_reducible refine xc (CH) ?_) | (with_reducible refine xc (V1) ?_) | (with_reducible refine xc (V2) ?_) | (with_reducible refine xc (B1) ?_) | (with_reducible refine xc (B2) ?_) | (with_reducible refine xc (C5) ?_) | ((first | refine gd1 ?_ ?_ | refine gd2 ?_ ?_ | refine gd3 ?_ ?_) <;> (first | exact @False.elim _ | intro hc)))
        all_goals exact finV_dry rfl vv
      · repeat' (with_reducible first | refine x_ops ?_ | refine wk ?_ | (with_reducible refine xc (H0) ?_) | (with_reducible refine xc (CH) ?_) | (with_reducible refine xc (V1) ?_) | (with_reducible refine xc (V2) ?_) | (with_reducible refine xc (B1) ?_) | (with_reducible refine xc (B2) ?_) | (with_reducible refine xc (C5) ?_) | ((first | refine gd1 ?_ ?_ | refine gd2 ?_ ?_ | refine gd3 ?_ ?_) <;> (first | exact @False.elim _ | intro hc)))
        all_goals exact finV_dry rfl vv
  have c1 : (i : Int) < (h.low.length : Int) := by omega
  have g1 := ints_at (l := h.high) (k := i) (by rw [hnh.out]; exact hlt)
  have g2 := bools_at (l := h.barre) (k := i) (by rw [hnb.out]; exact hlt)
  have c2 : (i : Int) < (h.high.length : Int) := by rw [hnh.out]; exact c1
  have c3 : (i : Int) < (h.barre.length : Int) := by rw [hnb.out]; exact c1
  have hh := hhi.out i hlt
  have w3 := w_in (a := h.high.getD i 0 + c) (by omega)
  have w4 := w_add1 (k := i) (by omega)
  have eH : (if h.high.getD i 0 + c < 8 then h.high.getD i 0 + c else 8) = hiF h c i := rfl
  have ap10 := Hid.mk ap1
  have ap20 := Hid.mk ap2
  clear ap1 ap2 hh
  repeat' (with_reducible first | refine x_ops ?_ | refine wk ?_ | (with_reducible refine xc (R3) ?_) | ((first | refine gd1 ?_ ?_ | refine gd2 ?_ ?_ | refine gd3 ?_ ?_) <;> (first | exact @False.elim _ | intro hc)))
  refine x_appb (n := i) (xs := (hiL h c i).map vint) (ys := [vint (hiF h c i)]) (k := k1) (k2 := .exact) vw vw (ap10.out.mono (fun q hq _ => rfl) (by show M.next ≤ M.next + 16; omega)) (by rw [List.length_map, hiL_len, Nat.mul_one]) rfl (by omega) (by unfold Go.maxLen; omega) (by show M.next + 13 < M.next + 16; omega) ?_
  intro k1' m5 hap' hn' hbox hobj
  replace hn' : m5.next = M.next + 16 := hn'
  have u9 := hbox p9 _ _ o9 (by omega)
  have u7 := hbox p7 _ _ m3 (by omega)
  have u4 := hbox p4 _ _ m2 (by omega)
  have ap25 : Apb m5 k2 i 4 1 := ap20.out.mono (fun q hq hrow => hobj q (by omega) (fun e => by
    rcases ap10.out with h1 | ⟨y, h1, _, h3⟩
    · rw [h1] at e; cases e
    · rw [h1] at e; injection e with e; subst e; rw [hrow] at h3; injection h3 with h3; injection h3 with _ h3; exact absurd h3 (by decide))) (by omega)
  have v9 : p9 < m5.next := by omega
  have v7 : p7 < m5.next := by omega
  have v4 : p4 < m5.next := by omega
  have z2 : ∀ q j, q < m5.next → (q < m5.next + j) = True := fun q j hq => by simp; omega
  have z3 : ∀ q j, q < m5.next → (q = m5.next + j) = False := fun q j hq => by simp; omega
  have z4 : ∀ q j, q < m5.next → (m5.next + j = q) = False := fun q j hq => by simp; omega
  have ap15 := Hid.mk hap'
  replace ap25 := Hid.mk ap25
  replace hn' := Hid.mk hn'
  have lo := Hid.mk (show 39 ≤ m5.next by have := hn'.out; omega)
  clear hbox hobj hap' ap10 ap20 o9 m1 m2 m3 n4 n7 n9 y2 y3 y4 w3 eH R3
  have e7 : baF h bl i = (h.barre.getD i false || (decide (i < bl.length) && bl.getD i false)) := rfl
  by_cases hb1 : h.barre.getD i false = true
  · have e8 : baF h bl i = true := by rw [e7, hb1]; rfl
    clear e7
    repeat' (with_reducible first | refine x_ops ?_ | refine wk ?_ | ((first | refine gd1 ?_ ?_ | refine gd2 ?_ ?_ | refine gd3 ?_ ?_) <;> (first | exact @False.elim _ | intro hc)))
    refine x_appb (n := i) (xs := (baL h bl i).map vbool) (ys := [vbool (baF h bl i)]) (k := k2) (k2 := .exact) vw (by rw [e8]; exact vw) ((ap25.out.put u9).mono (fun q hq _ => rfl) (by show m5.next ≤ m5.next + 25; omega)) (by rw [List.length_map, baL_len, Nat.mul_one]) rfl (by omega) (by unfold Go.maxLen; omega) (by show m5.next + 22 < m5.next + 25; omega) ?_
    intro k2' m7 hap' hn'' hbox hobj
    replace hn'' : m7.next = m5.next + 25 := hn''
    have s9 := hbox p9 _ _ (put_same _ _ _) (by omega)
    have s7 := hbox p7 _ _ ((put_other _ _ p79).trans u7) (by omega)
    have s4 := hbox p4 _ _ ((put_other _ _ p49).trans u4) (by omega)
    have hWi := wi_next (h := h) (c := c) (bl := bl) (T := T) (J := J) ap15.out ap25.out u9 hap' hn'' (Nat.le_add_right m5.next 22) hobj s9
    have r9 : p9 < m7.next := by omega
    have r7 : p7 < m7.next := by omega
    have r4 : p4 < m7.next := by omega
    have hn7 := Hid.mk hn''
    rw [hiL_succ, baL_succ, e8, List.map_append, List.map_append] at hWi
    replace hWi := Hid.mk hWi
    replace lo := Hid.mk (show 39 ≤ m7.next by have := lo.out; omega)
    clear hbox hobj hap' hn'' z2 z3 z4 u9 u7 u4 v9 v7 v4
    repeat' (with_reducible first | refine x_ops ?_ | refine wk ?_ | ((first | refine gd1 ?_ ?_ | refine gd2 ?_ ?_ | refine gd3 ?_ ?_) <;> (first | exact @False.elim _ | intro hc)))
    refine nx hlt ⟨vv, lo.out, (put_other _ _ p49).trans s4, (put_other _ _ p79).trans s7, ?_⟩
    exact hWi.out
  have hb1' : h.barre.getD i false = false := by simpa using hb1
  clear hb1
  by_cases hb2 : i < bl.length
  · have e8 : baF h bl i = bl.getD i false := by rw [e7, hb1', decide_eq_true hb2]; rfl
    have g3 := bools_at hb2
    have c5 : (i : Int) < (bl.length : Int) := by omega
    clear e7
    repeat' (with_reducible first | refine x_ops ?_ | refine wk ?_ | ((first | refine gd1 ?_ ?_ | refine gd2 ?_ ?_ | refine gd3 ?_ ?_) <;> (first | exact @False.elim _ | intro hc)))
    refine x_appb (n := i) (xs := (baL h bl i).map vbool) (ys := [vbool (baF h bl i)]) (k := k2) (k2 := .exact) vw (by rw [e8]; exact vw) ((ap25.out.put u9).mono (fun q hq _ => rfl) (by show m5.next ≤ m5.next + 25; omega)) (by rw [List.length_map, baL_len, Nat.mul_one]) rfl (by omega) (by unfold Go.maxLen; omega) (by show m5.next + 22 < m5.next + 25; omega) ?_
    intro k2' m7 hap' hn'' hbox hobj
    replace hn'' : m7.next = m5.next + 25 := hn''
    have s9 := hbox p9 _ _ (put_same _ _ _) (by omega)
    have s7 := hbox p7 _ _ ((put_other _ _ p79).trans u7) (by omega)
    have s4 := hbox p4 _ _ ((put_other _ _ p49).trans u4) (by omega)
    have hWi := wi_next (h := h) (c := c) (bl := bl) (T := T) (J := J) ap15.out ap25.out u9 hap' hn'' (Nat.le_add_right m5.next 22) hobj s9
    have r9 : p9 < m7.next := by omega
    have r7 : p7 < m7.next := by omega
    have r4 : p4 < m7.next := by omega
    have hn7 := Hid.mk hn''
    rw [hiL_succ, baL_succ, e8, List.map_append, List.map_append] at hWi
    replace hWi := Hid.mk hWi
    replace lo := Hid.mk (show 39 ≤ m7.next by have := lo.out; omega)
    clear hbox hobj hap' hn'' z2 z3 z4 u9 u7 u4 v9 v7 v4
    repeat' (with_reducible first | refine x_ops ?_ | refine wk ?_ | ((first | refine gd1 ?_ ?_ | refine gd2 ?_ ?_ | refine gd3 ?_ ?_) <;> (first | exact @False.elim _ | intro hc)))
    refine nx hlt ⟨vv, lo.out, (put_other _ _ p49).trans s4, (put_other _ _ p79).trans s7, ?_⟩
    exact hWi.out
  · have e8 : baF h bl i = false := by rw [e7, hb1', decide_eq_false hb2]; rfl
    have c5 : ¬ (i : Int) < (bl.length : Int) := by omega
    clear e7
    repeat' (with_reducible first | refine x_ops ?_ | refine wk ?_ | ((first | refine gd1 ?_ ?_ | refine gd2 ?_ ?_ | refine gd3 ?_ ?_) <;> (first | exact @False.elim _ | intro hc)))
    refine x_appb (n := i) (xs := (baL h bl i).map vbool) (ys := [vbool (baF h bl i)]) (k := k2) (k2 := .exact) vw (by rw [e8]; exact vw) ((ap25.out.put u9).mono (fun q hq _ => rfl) (by show m5.next ≤ m5.next + 25; omega)) (by rw [List.length_map, baL_len, Nat.mul_one]) rfl (by omega) (by unfold Go.maxLen; omega) (by show m5.next + 22 < m5.next + 25; omega) ?_
    intro k2' m7 hap' hn'' hbox hobj
    replace hn'' : m7.next = m5.next + 25 := hn''
    have s9 := hbox p9 _ _ (put_same _ _ _) (by omega)
    have s7 := hbox p7 _ _ ((put_other _ _ p79).trans u7) (by omega)
    have s4 := hbox p4 _ _ ((put_other _ _ p49).trans u4) (by omega)
    have hWi := wi_next (h := h) (c := c) (bl := bl) (T := T) (J := J) ap15.out ap25.out u9 hap' hn'' (Nat.le_add_right m5.next 22) hobj s9
    have r9 : p9 < m7.next := by omega
    have r7 : p7 < m7.next := by omega
    have r4 : p4 < m7.next := by omega
    have hn7 := Hid.mk hn''
    rw [hiL_succ, baL_succ, e8, List.map_append, List.map_append] at hWi
    replace hWi := Hid.mk hWi
    replace lo := Hid.mk (show 39 ≤ m7.next by have := lo.out; omega)
    clear hbox hobj hap' hn'' z2 z3 z4 u9 u7 u4 v9 v7 v4
    repeat' (with_reducible first | refine x_ops ?_ | refine wk ?_ | ((first | refine gd1 ?_ ?_ | refine gd2 ?_ ?_ | refine gd3 ?_ ?_) <;> (first | exact @False.elim _ | intro hc)))
    refine nx hlt ⟨vv, lo.out, (put_other _ _ p49).trans s4, (put_other _ _ p79).trans s7, ?_⟩
    exact hWi.out
end Go.Proofs.Ytojjdkoglhecbaa
namespace Go.Proofs.Ytojjdkoglhecbaa
open Go.ChangeShapes Go.WideShapes Go.ChangeAt Go.RowKit
set_option maxRecDepth 100000

def tyWid : Ty := .st [.int, .int, .int, .sl .bool 1]
theorem dt_widV {d : Dt} (h : d.ok tyWid) : ∃ x : Int × Int × Int × List Bool, d.val = widV x.1 x.2.1 x.2.2.1 x.2.2.2 ∧ x.2.2.2.length ≤ 4611686018427387904 := by
  obtain ⟨l, _, h1, _, hv⟩ := ok_st h
  obtain ⟨d1, r1, rfl, k1, h2, e1⟩ := oks_cons h1
  obtain ⟨d2, r2, rfl, k2, h3, e2⟩ := oks_cons h2
  obtain ⟨d3, r3, rfl, k3, h4, e3⟩ := oks_cons h3
  obtain ⟨d4, r4, rfl, k4, h5, e4⟩ := oks_cons h4
  obtain ⟨a, ea, _⟩ := dt_int k1
  obtain ⟨b, eb, _⟩ := dt_int k2
  obtain ⟨c, ec, _⟩ := dt_int k3
  obtain ⟨e, ee, he⟩ := dt_bools k4
  exact ⟨(a, b, c, e), by rw [hv, e1, e2, e3, e4, oks_nil h5, ea, eb, ec, ee]; rfl, by dsimp only; omega⟩
theorem ty_wid : tyOf Try.prog 10 84 = some tyWid := by kernel_rfl
theorem dt_searchW {d : Dt} (h : d.ok tySearch) : ∃ x : Hand × List Chord, d.val = srV x.1 x.2 ∧ Fits x.2 ∧ x.2.length ≤ 4398046511103 := by
  obtain ⟨l, _, h1, _, hv⟩ := ok_st h
  obtain ⟨d1, r1, rfl, k1, h2, e1⟩ := oks_cons h1
  obtain ⟨d2, r2, rfl, k2, h3, e2⟩ := oks_cons h2
  obtain ⟨a, ea⟩ := dt_handC k1
  obtain ⟨b, eb, fb⟩ := dt_chordsC (by decide) k2
  obtain ⟨b', eb', fb', _⟩ := dt_list (enc := Chord.cells) k2 fun _ hd => dt_chord hd
  have hlen : b'.length = b.length := by rw [eb] at eb'; injection eb' with eb'; injection eb' with eb' _ _; exact eb'.symm
  exact ⟨(a, b), by rw [hv, e1, e2, oks_nil h3, ea, eb]; rfl, fb, by dsimp only; omega⟩
end Go.Proofs.Ytojjdkoglhecbaa
