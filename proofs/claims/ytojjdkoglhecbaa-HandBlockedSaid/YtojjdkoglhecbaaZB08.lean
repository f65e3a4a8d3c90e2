/- The lister, run: it is made. The best fingering of a net, in plain terms. Nothing is run here. The lister, run: the first fingering, and Best. The least costs of a net, in plain terms. Nothing is run here. The lister, run: first and Best. Two nets side by side, in plain terms: a hand that is wider or lighter. Nothing is run here. All frets and positions raised: plain. rest and chosen of the laws, on values. The law HandRaised, on values. Laws about tables: SameTable, Changed. More arguments read: tables and changes. Heavy of the laws, on values. The law HandProves, on values. The law HandCut. Passages that can be played, in plain terms: grips of chord after chord with steps between them. Nothing is run here. Functions of the program, as code on values by numbers: printed by a program from the program that was given, and held against it here. Block, run: which grips of a chord are reached, chord by chord, and back from the first that has none. Block, run. The reference's has and Block, run; the law HandBlocks. -/
import Derived.Test.YtojjdkoglhecbaaG0
import Derived.Test.YtojjdkoglhecbaaWk
import Derived.Test.YtojjdkoglhecbaaZB03
import Derived.Test.YtojjdkoglhecbaaZB04
import Derived.Test.YtojjdkoglhecbaaXw
import Derived.Test.YtojjdkoglhecbaaZB06
import Derived.Test.YtojjdkoglhecbaaZB07
set_option linter.unusedSimpArgs false
set_option linter.unusedVariables false
namespace Go.Proofs.Ytojjdkoglhecbaa
open Go.RowKit

/-- The first ways of the root. -/
noncomputable def rtL (h : Hand) (l : List Chord) (Gs : List (List Grip)) : Nat → List Way
  | 0 => []
  | j + 1 => if (rsT h l Gs 0).getD j 0 = -1 then rtL h l Gs j else rtL h l Gs j ++ [((rsT h l Gs 0).getD j 0, (j : Int), 0)]
theorem rtL_len (h : Hand) (l : List Chord) (Gs : List (List Grip)) : ∀ j, (rtL h l Gs j).length ≤ j
  | 0 => Nat.le_refl _
  | j + 1 => by
    have := rtL_len h l Gs j
    rw [rtL]; split
    · omega
    · rw [List.length_append]; simp; omega
/-- Where list stands, with i rows. -/
structure LiSt (h : Hand) (l : List Chord) (Gs : List (List Grip)) (m : Mm) (i nq : Nat) (rs : List Nat) (M : Mm) : Prop where
  nx : m.next + 7 ≤ M.next
  tbo : M.obj (m.next + 5) = some (.box [netE h l Gs, bxG i nq, .ptr (m.next + 3) 0] 162)
  rto : M.obj (m.next + 3) = some (.box [.sl 0 [] .exact, .sl 0 [] .exact, .fn 110 [], vbool false] 159)
  nqo : 0 < i → M.obj nq = some (.box (rwN rs (Gs.take i)) 163) ∧ m.next + 7 ≤ nq ∧ nq < M.next
  rl : rs.length = i
  row : ∀ y, y < i → M.obj (rs.getD y 0) = some (.box (nilR (Gs.getD y []).length) 150) ∧ m.next + 7 ≤ rs.getD y 0 ∧ rs.getD y 0 < nq
  inc : ∀ y z, y < z → z < i → rs.getD y 0 < rs.getD z 0
  fr : ∀ q, q < m.next → M.obj q = m.obj q
theorem rwN_len (rs : List Nat) (Gs : List (List Grip)) : (rwN rs Gs).length = Gs.length := by simp [rwN]
theorem rwN_one (rs : List Nat) (Gs : List (List Grip)) : (rwN rs Gs).all V.one = true := by
  rw [List.all_eq_true]
  intro v hv
  rw [rwN] at hv
  obtain ⟨y, _, rfl⟩ := List.mem_map.1 hv
  rfl
theorem rwN_snoc {rs : List Nat} {Gs : List (List Grip)} {k q : Nat} (hk : k < Gs.length) (hq : rs.length = k) : rwN (rs ++ [q]) (Gs.take (k + 1)) = rwN rs (Gs.take k) ++ [.bsl q 0 (Gs.getD k []).length (Gs.getD k []).length] := by
  have l1 : (Gs.take (k + 1)).length = k + 1 := by rw [List.length_take]; omega
  have l2 : (Gs.take k).length = k := by rw [List.length_take]; omega
  rw [rwN, rwN, l1, l2, List.range_succ, List.map_append, List.map_cons, List.map_nil]
  have ha : (rs ++ [q]).getD k 0 = q := by simp [List.getD_eq_getElem?_getD, ← hq]
  have gT : ∀ (n y : Nat), y < n → (Gs.take n).getD y [] = Gs.getD y [] := fun n y h => by simp [List.getD_eq_getElem?_getD, List.getElem?_take, h]
  rw [ha, gT (k + 1) k (by omega)]
  congr 1
  apply List.map_congr_left
  intro y hy
  have hyk := List.mem_range.1 hy
  have hc : (rs ++ [q]).getD y 0 = rs.getD y 0 := by simp [List.getD_eq_getElem?_getD, List.getElem?_append_left (show y < rs.length by omega)]
  rw [hc, gT _ _ (show y < k + 1 by omega), gT _ _ hyk]
/-- What list leaves. -/
def LsPost (h : Hand) (l : List Chord) (Gs : List (List Grip)) (m : Mm) (r : V) (M' : Mm) : Prop :=
  m.next ≤ M'.next ∧ (∀ q, q < m.next → M'.obj q = m.obj q) ∧ ∃ tb nq rt rs, r = .ptr tb 0 ∧ (m.next ≤ tb ∧ tb < M'.next) ∧ (∃ nv, M'.obj tb = some (.box [netE h l Gs, nv, .ptr rt 0] 162)) ∧
    (0 < l.length → LsM h l Gs tb nq rt rs 0 M' ∧ (m.next ≤ rt ∧ rt < M'.next) ∧ ∃ v H, M'.obj rt = some (.box [.sl 0 [] .exact, v, .fn 110 [], vbool false] 159) ∧ QV M' v H ∧ HpOk H ∧ H.Perm (rtL h l Gs (rsT h l Gs 0).length))

set_option maxHeartbeats 4000000 in
theorem list_sfn {h : Hand} {l : List Chord} {Gs : List (List Grip)} (hn : NetOk h l Gs) (m : Mm) : SFn Try.prog Gd 74 [netE h l Gs] m (LsPost h l Gs m) := by
  refine SFn.of_vxS k_hand_list_b (by simp) ?_
  have h4 := hn.len
  have gl := hn.gl
  unfold c_hand_list_b
  replace gl := Hid.mk gl
  have hnet : netE h l Gs = .ept [.sl h.low.length (h.low.map vint) .no, .sl h.high.length (h.high.map vint) .no, .sl h.barre.length (h.barre.map vbool) .no, .lit (.int .i64 h.top), .lit (.int .i64 h.jump), .lit (.int .i64 h.shift), .lit (.int .i64 h.lift), .lit (.int .i64 h.bar), .lit (.int .i64 h.stretch), .lit (.int .i64 h.slide),
    .sl l.length (l.flatMap Chord.cells) .no, .sl Gs.length (Gs.map tGs) .no, .sl (owA h l Gs).length ((owA h l Gs).map tIs) .no, .sl (rsA h l Gs).length ((rsA h l Gs).map tIs) .no] 0 := rfl
  replace hnet := Hid.mk hnet
  rw [hnet.out]
  repeat' (with_reducible first | refine x_ops ?_ | refine wk ?_ | ((first | refine gd1 ?_ ?_ | refine gd2 ?_ ?_ | refine gd3 ?_ ?_) <;> (first | exact @False.elim _ | intro hc)))
  refine x_genM (fun t M => (t 0 = .ept [.sl h.low.length (h.low.map vint) .no, .sl h.high.length (h.high.map vint) .no, .sl h.barre.length (h.barre.map vbool) .no, .lit (.int .i64 h.top), .lit (.int .i64 h.jump), .lit (.int .i64 h.shift), .lit (.int .i64 h.lift), .lit (.int .i64 h.bar), .lit (.int .i64 h.stretch), .lit (.int .i64 h.slide),
    .sl l.length (l.flatMap Chord.cells) .no, .sl Gs.length (Gs.map tGs) .no, .sl (owA h l Gs).length ((owA h l Gs).map tIs) .no, .sl (rsA h l Gs).length ((rsA h l Gs).map tIs) .no] 0 ∧ t 3 = .ptr (m.next + 5) 0 ∧ t 17 = vint l.length ∧ t 18 = vint 0) ∧ LiSt h l Gs m 0 0 [] M)
    ⟨⟨vv, vv, vv, vv⟩, ⟨Nat.le_refl _, ?_, ?_, fun h0 => by omega, rfl, fun y hy => by omega, fun y z _ hz => by omega, fun q hq => by ((simp only [put_obj]; repeat rw [if_neg (by omega)]))⟩⟩ ?_
  · rw [hnet.out]; exact put_same _ _ _
  · refine (put_other _ _ (by omega)).trans (put_same _ _ _)
  rintro t0 M0 ⟨⟨a0, a3, a17, a18⟩, hs0⟩
  refine x_loopW w_hand_list_b_p4 kr l.length (fun i t M => t 18 = vint (i : Int) ∧ ∃ nq rs, LiSt h l Gs m i nq rs M) ?_ ?_
  · exact ⟨a18, 0, [], hs0⟩
  clear a18 hs0
  rintro i t M hi ⟨h18, nq, rs, hs⟩
  have hnx := hs.nx
  have o1 := hs.tbo
  have l1 : m.next + 5 < M.next := by omega
  by_cases hil : i < l.length
  · have c1 : (i : Int) < (l.length : Int) := by omega
    have w1 := w_add1 (k := i) (by omega)
    have gle := gl.out
    have g1 := gss_at' (l := Gs) (k := i) (by omega)
    have hcnt := hn.cnt i
    have k1 : ((Gs.getD i []).length : Int) * 8 ≤ 140737488355328 := by omega
    have k2 : ((Gs.getD i []).length : Int) ≤ 140737488355328 := by omega
    have hs1 := Hid.mk hs
    have hfl : (List.replicate (Gs.getD i []).length [V.lit (Value.pointer none)]).flatten = nilR (Gs.getD i []).length := by rw [nilR]; simp
    clear hs
    repeat' (with_reducible first | refine x_ops ?_ | refine wk ?_ | ((first | refine gd1 ?_ ?_ | refine gd2 ?_ ?_ | refine gd3 ?_ ?_) <;> (first | exact @False.elim _ | intro hc)))
    refine x_appG (k := i) (oq := nq) (cs := rwN rs (Gs.take i)) (v := .bsl (M.next + 13) 0 (Gs.getD i []).length (Gs.getD i []).length) vw ?_ ?_ (by rw [rwN_len, List.length_take]; omega) (rwN_one _ _) (by omega) (by unfold Go.maxLen; omega) ?_
    · have e : ∀ (mm : Mm) c, c.one = true → rdS (mm.put (M.next + 14) (.box [c] 163)) 1 (.gsl (M.next + 14) 1 1) = some (1, [c]) := fun mm c hc => by
        simp [rdS, put_same, hc]
      exact e _ _ rfl
    · intro h0
      have := (hs1.out.nqo h0).2.2
      exact (put_other _ _ (by omega)).trans ((put_other _ _ (by omega)).trans (hs1.out.nqo h0).1)
    intro m2 n2 f2 b2
    have n2' : m2.next = M.next + 19 := n2
    have lt : ∀ q, q < M.next → (0 < i → q ≠ nq) → m2.obj q = M.obj q := fun q hq hqn => (f2 q (by show ¬ q = M.next + 15; omega) hqn).trans ((put_other _ _ (by omega)).trans (put_other _ _ (by omega)))
    have q1 : m2.obj (m.next + 5) = _ := (lt (m.next + 5) l1 (fun h0 => by have := (hs1.out.nqo h0).2.1; omega)).trans o1
    have row : m2.obj (M.next + 13) = some (.box (nilR (Gs.getD i []).length) 150) := (f2 _ (by show ¬ M.next + 13 = M.next + 15; omega) (fun h0 => by have := (hs1.out.nqo h0).2.2; omega)).trans ((put_other _ _ (by omega)).trans (put_same _ _ _))
    have hs2 : LiSt h l Gs m (i + 1) (M.next + 15) (rs ++ [M.next + 13]) (m2.put (m.next + 5) (.box [netE h l Gs, .gsl (M.next + 15) (i + 1) 1, .ptr (m.next + 3) 0] 162)) := by
      have hq := hs1.out.rl
      have gq : ∀ y, y < i → (rs ++ [M.next + 13]).getD y 0 = rs.getD y 0 := fun y hy => by simp [List.getD_eq_getElem?_getD, List.getElem?_append_left (show y < rs.length by omega)]
      have gN : (rs ++ [M.next + 13]).getD i 0 = M.next + 13 := by simp [List.getD_eq_getElem?_getD, ← hq]
      refine ⟨by show m.next + 7 ≤ m2.next; omega, put_same _ _ _, ?_, fun _ => ⟨?_, by omega, by show M.next + 15 < m2.next; omega⟩, by rw [List.length_append, hq]; rfl, fun y hy => ?_, fun y z hyz hz => ?_, fun q hq' => ?_⟩
      · exact (put_other _ _ (by omega)).trans ((lt (m.next + 3) (by omega) (fun h0 => by have := (hs1.out.nqo h0).2.1; omega)).trans hs1.out.rto)
      · rw [rwN_snoc (by omega) hq]; exact (put_other _ _ (by omega)).trans b2
      · by_cases e : y = i
        · subst e; rw [gN]; exact ⟨(put_other _ _ (by omega)).trans row, by omega, by omega⟩
        · rw [gq y (by omega)]
          obtain ⟨r1, r2, r3⟩ := hs1.out.row y (by omega)
          have r4 := (hs1.out.nqo (by omega)).2.2
          exact ⟨(put_other _ _ (by omega)).trans ((lt _ (by omega) (fun _ => by omega)).trans r1), r2, by omega⟩
      · rw [gq y (by omega)]
        by_cases e : z = i
        · subst e; rw [gN]
          have r3 := (hs1.out.row y (by omega)).2.2
          have r4 := (hs1.out.nqo (by omega)).2.2
          omega
        · rw [gq z (by omega)]; exact hs1.out.inc y z hyz (by omega)
      · exact (put_other _ _ (by omega)).trans ((lt q (by omega) (fun h0 => by have := (hs1.out.nqo h0).2.1; omega)).trans (hs1.out.fr q hq'))
    replace hs2 := Hid.mk hs2
    replace n2' := Hid.mk n2'
    clear f2 b2 n2 lt row o1 hfl
    repeat' (with_reducible first | refine x_ops ?_ | refine wk ?_ | ((first | refine gd1 ?_ ?_ | refine gd2 ?_ ?_ | refine gd3 ?_ ?_) <;> (first | exact @False.elim _ | intro hc)))
    exact nx hil ⟨vv, M.next + 15, rs ++ [M.next + 13], hs2.out⟩
  have hie : i = l.length := by omega
  subst hie
  have c1 : ¬ (l.length : Int) < (l.length : Int) := by omega
  replace hs := Hid.mk hs
  clear hi hil o1
  by_cases h0 : 0 < l.length
  case neg =>
    have c2 : ¬ (0 : Int) < (l.length : Int) := by omega
    have h0' := Hid.mk h0
    clear h0
    repeat' (with_reducible first | refine x_ops ?_ | refine wk ?_ | ((first | refine gd1 ?_ ?_ | refine gd2 ?_ ?_ | refine gd3 ?_ ?_) <;> (first | exact @False.elim _ | intro hc)))
    exact ⟨.inr rfl, .ptr (m.next + 5) 0, vv, by show m.next ≤ M.next; omega, hs.out.fr, m.next + 5, 0, m.next + 3, [], rfl, ⟨by omega, by show m.next + 5 < M.next; omega⟩, ⟨_, hs.out.tbo⟩, fun h1 => absurd h1 h0'.out⟩
  have c2 : (0 : Int) < (l.length : Int) := by omega
  have hL0 : LsM h l Gs (m.next + 5) nq (m.next + 3) rs 0 M := by
    have e5 : bxG l.length nq = .gsl nq l.length 1 := if_neg (by omega)
    have htk : Gs.take l.length = Gs := List.take_of_length_le (by rw [gl.out]; exact Nat.le_refl _)
    obtain ⟨n1, n2, n3⟩ := hs.out.nqo h0
    rw [htk] at n1
    refine ⟨by rw [← e5]; exact hs.out.tbo, n1, fun y _ hy => (hs.out.row y hy).1, hs.out.inc, l1, n3, fun y hy => by have := (hs.out.row y hy).2.2; omega, by omega, fun y hy => ⟨by have := (hs.out.row y hy).2.1; omega, by have := (hs.out.row y hy).2.2; omega⟩⟩
  have hrt := hs.out.rto
  have hfr := hs.out.fr
  replace hfr := Hid.mk hfr
  have hT0 := rsT_len (h := h) (Gs := Gs) h0
  have hcn := hn.cnt 0
  have g5 := iss_at' (l := rsA h l Gs) (k := 0) (by rw [rsA_len]; exact h0)
  rw [rsA_at h0] at g5
  have g6 := rsA_len (h := h) (l := l) (Gs := Gs)
  generalize hNe : rsT h l Gs 0 = N at *
  replace hNe := Hid.mk hNe
  replace hT0 := Hid.mk hT0
  have h0' := Hid.mk h0
  clear h0 hs
  repeat' (with_reducible first | refine x_ops ?_ | refine wk ?_ | ((first | refine gd1 ?_ ?_ | refine gd2 ?_ ?_ | refine gd3 ?_ ?_) <;> (first | exact @False.elim _ | intro hc)))
  refine x_gen (fun t => t 3 = .ptr (m.next + 5) 0 ∧ t 51 = .sl N.length (N.map vint) .no ∧ t 52 = vint N.length ∧ t 53 = vint 0) ⟨vw, vv, vv, vv⟩ ?_
  clear a0 a3 a17 h18
  rintro t6 ⟨a3, a51, a52, a53⟩
  have hrl : ∀ k, k < N.length → rtL h l Gs (k + 1) = if N.getD k 0 = -1 then rtL h l Gs k else rtL h l Gs k ++ [(N.getD k 0, (k : Int), 0)] := fun k _ => by rw [rtL, hNe.out]
  refine x_loopW w_hand_list_b_p10 kr N.length (fun k t M' => t 53 = vint (k : Int) ∧ NdM M (m.next + 3) (rtL h l Gs k) M') ?_ ?_
  · exact ⟨a53, Nat.le_refl _, ⟨_, [], hrt, .inl ⟨rfl, rfl⟩, fun j h0 hj => by simp at hj, .refl _, fun q n e => by cases e⟩, fun _ _ _ => rfl⟩
  clear a53
  rintro k t7 M' hk ⟨h53, hM'⟩
  have hM0 := Hid.mk hM'
  obtain ⟨j1, ⟨v, H, j2, j3, j4, j5, j6⟩, j7⟩ := hM'
  by_cases hkl : k < N.length
  case neg =>
    have hke : k = N.length := by omega
    subst hke
    have cc1 : ¬ (N.length : Int) < (N.length : Int) := by omega
    have lsm := hL0.mono (M' := M') (Nat.le_refl _) j1 (j7 _ l1 (by omega)) (j7 _ hL0.ltn (ne_type hL0.nqo hrt (by decide))) (fun y hy hyl => j7 _ (hL0.ltr y hyl) (ne_type (hL0.row y hy hyl) hrt (by decide)))
    have fr2 : ∀ q, q < m.next → M'.obj q = m.obj q := fun q hq => (j7 q (by omega) (by omega)).trans (hfr.out q hq)
    have hfin : LsPost h l Gs m (.ptr (m.next + 5) 0) M' := by
      refine ⟨by omega, fr2, m.next + 5, nq, m.next + 3, rs, rfl, ⟨by omega, by omega⟩, ⟨_, lsm.tbo⟩, fun _ => ⟨lsm, ⟨by omega, by omega⟩, v, H, j2, j3, j4, by rw [hNe.out]; exact j5⟩⟩
    replace hfin := Hid.mk hfin
    clear j1 j2 j3 j4 j5 j6 j7 hM0 fr2 lsm hL0 hrl hkl hk
    repeat' (with_reducible first | refine x_ops ?_ | refine wk ?_ | ((first | refine gd1 ?_ ?_ | refine gd2 ?_ ?_ | refine gd3 ?_ ?_) <;> (first | exact @False.elim _ | intro hc)))
    exact ⟨.inr rfl, .ptr (m.next + 5) 0, vw, hfin.out⟩
  have cc1 : (k : Int) < (N.length : Int) := by omega
  have g1 := ints_at hkl
  have wk' := w_add1 (k := k) (by have := hT0.out; omega)
  have q1 := (j7 (m.next + 5) l1 (by omega)).trans hL0.tbo
  have hrk := hrl k hkl
  by_cases hno : N.getD k 0 = -1
  · have e2 : (N.getD k 0 == -1) = true := by rw [hno]; rfl
    rw [if_pos hno] at hrk
    replace hrk := Hid.mk hrk
    clear hno hrl j2 j3 j4 j5 j6 j7 hk
    repeat' (with_reducible first | refine x_ops ?_ | refine wk ?_ | ((first | refine gd1 ?_ ?_ | refine gd2 ?_ ?_ | refine gd3 ?_ ?_) <;> (first | exact @False.elim _ | intro hc)))
    exact nx hkl ⟨vv, by rw [hrk.out]; exact hM0.out⟩
  have e2 : (N.getD k 0 == -1) = false := by rw [beq_eq_false_iff_ne]; exact hno
  rw [if_neg hno] at hrk
  have hHl := j5.length_eq
  have hrlen := rtL_len h l Gs k
  have PS := push_psh (w := (N.getD k 0, (k : Int), 0)) j2 (by omega) j3 j4 (by have := hT0.out; omega)
  have PE := PshPost.some (fv := .sl 0 [] .exact) (v := v) (dv := vbool false) (N.getD k 0, (k : Int), 0) (show m.next + 3 < M'.next by omega) j4
  have hpush : ∀ r M2, PshPost M' (m.next + 3) (.sl 0 [] .exact) v (vbool false) H (N.getD k 0, (k : Int), 0) r M2 → NdM M (m.next + 3) (rtL h l Gs k ++ [(N.getD k 0, (k : Int), 0)]) M2 := fun r M2 hP => ndM_push (by omega) j2 j1 j5 j6 j7 hP
  dsimp only at PS
  replace hpush := Hid.mk hpush
  replace hrk := Hid.mk hrk
  clear hno hrl j2 j3 j4 j5 j6 j7 hk hHl
  repeat' (with_reducible first | refine x_ops ?_ | refine wk ?_ | ((first | refine gd1 ?_ ?_ | refine gd2 ?_ ?_ | refine gd3 ?_ ?_) <;> (first | exact @False.elim _ | intro hc)))
  refine x_scallR [.ptr (m.next + 3) 1, .agg [vint (N.getD k 0), vint (k : Int), vint 0]] vw PS PE ?_
  rintro r M2 hP
  have hr := hP.1
  subst hr
  have hM2 := Hid.mk (hpush.out _ _ hP)
  clear PS PE hP
  repeat' (with_reducible first | refine x_ops ?_ | refine wk ?_ | ((first | refine gd1 ?_ ?_ | refine gd2 ?_ ?_ | refine gd3 ?_ ?_) <;> (first | exact @False.elim _ | intro hc)))
  exact nx hkl ⟨vv, by rw [hrk.out]; exact hM2.out⟩
end Go.Proofs.Ytojjdkoglhecbaa
namespace Go.Proofs.Ytojjdkoglhecbaa
open Go.RowKit

/-- The first of some ways. -/
noncomputable def bstW (L : List Way) : Way := (Classical.choose (heap_ex L)).getD 0 noW
/-- Ways that are told apart by their order. -/
def TotW (L : List Way) : Prop := ∀ a ∈ L, ∀ b ∈ L, befW a b = false → befW b a = false → a = b
theorem mem_getW {L : List Way} {w : Way} (h : w ∈ L) : ∃ j, j < L.length ∧ L.getD j noW = w := by
  obtain ⟨j, hj, e⟩ := List.mem_iff_getElem.1 h
  exact ⟨j, hj, by rw [List.getD_eq_getElem?_getD, List.getElem?_eq_getElem hj]; exact e⟩
theorem heap_min {H L : List Way} (hh : HpOk H) (hp : H.Perm L) (hL : L ≠ []) : H.getD 0 noW ∈ L ∧ ∀ w ∈ L, befW w (H.getD 0 noW) = false := by
  have h0 : 0 < H.length := by rw [hp.length_eq]; exact List.length_pos_iff.2 hL
  refine ⟨hp.mem_iff.1 (mem_getD _ h0), fun w hw => ?_⟩
  obtain ⟨j, hj, rfl⟩ := mem_getW (hp.mem_iff.2 hw)
  exact hp_min hh j hj
theorem bstW_ok {L : List Way} (hL : L ≠ []) : bstW L ∈ L ∧ ∀ w ∈ L, befW w (bstW L) = false := by
  have h := Classical.choose_spec (heap_ex L)
  exact heap_min h.1 h.2 hL
theorem bstW_heap {H L : List Way} (hh : HpOk H) (hp : H.Perm L) (hL : L ≠ []) (ht : TotW L) : H.getD 0 noW = bstW L := by
  have h1 := heap_min hh hp hL
  have h2 := bstW_ok hL
  exact ht _ h1.1 _ h2.1 (h2.2 _ h1.1) (h1.2 _ h2.1)
theorem befW_cost {a b : Way} (h : befW a b = false) : b.1 ≤ a.1 := by
  unfold befW at h
  split at h <;> simp only [decide_eq_false_iff_not] at h <;> omega

section
variable {h : Hand} {l : List Chord} {Gs : List (List Grip)}
theorem wayL_mem {i k : Nat} : ∀ {j : Nat} {w : Way}, w ∈ wayL h l Gs i k j → ∃ q, q < j ∧ ¬ (rsT h l Gs (i + 1)).getD q 0 = -1 ∧ (stepR h (l.getD i noC) ((Gs.getD i []).getD k noG) (l.getD (i + 1) noC) ((Gs.getD (i + 1) []).getD q noG)).2 = true ∧
    w = (ownC h (l.getD i noC) ((Gs.getD i []).getD k noG) + (stepR h (l.getD i noC) ((Gs.getD i []).getD k noG) (l.getD (i + 1) noC) ((Gs.getD (i + 1) []).getD q noG)).1 + (rsT h l Gs (i + 1)).getD q 0, (q : Int), 0)
  | 0, w, hw => by simp [wayL] at hw
  | j + 1, w, hw => by
    rw [wayL] at hw
    split at hw
    · obtain ⟨q, h1, h2⟩ := wayL_mem hw; exact ⟨q, by omega, h2⟩
    · rename_i hc
      rcases List.mem_append.1 hw with hw | hw
      · obtain ⟨q, h1, h2⟩ := wayL_mem hw; exact ⟨q, by omega, h2⟩
      · rw [List.mem_singleton] at hw
        refine ⟨j, by omega, fun e => hc (.inl e), ?_, hw⟩
        cases hs : (stepR h (l.getD i noC) ((Gs.getD i []).getD k noG) (l.getD (i + 1) noC) ((Gs.getD (i + 1) []).getD j noG)).2
        · exact absurd (.inr hs) hc
        · rfl
theorem bef_next {a b : Way} (h1 : befW a b = false) (h2 : befW b a = false) : a.2.1 = b.2.1 := by
  have e1 := befW_cost h1
  have e2 := befW_cost h2
  have e3 : a.1 = b.1 := by omega
  unfold befW at h1 h2
  rw [if_pos e3] at h1
  rw [if_pos e3.symm] at h2
  simp only [decide_eq_false_iff_not] at h1 h2
  omega
theorem wayF_tot {i k : Nat} : TotW (wayF h l Gs i k) := by
  intro a ha b hb h1 h2
  have hx := bef_next h1 h2
  rw [wayF, wayB] at ha hb
  by_cases hl : i + 1 = l.length
  · rw [if_pos hl, if_pos hl, wayL, List.append_nil, List.mem_singleton] at ha hb
    rw [ha, hb]
  · rw [if_neg hl, if_neg hl, List.nil_append] at ha hb
    obtain ⟨q, _, _, _, rfl⟩ := wayL_mem ha
    obtain ⟨p, _, _, _, rfl⟩ := wayL_mem hb
    have : q = p := by have h9 : (q : Int) = (p : Int) := hx; omega
    rw [this]
theorem rtL_mem : ∀ {j : Nat} {w : Way}, w ∈ rtL h l Gs j → ∃ q, q < j ∧ ¬ (rsT h l Gs 0).getD q 0 = -1 ∧ w = ((rsT h l Gs 0).getD q 0, (q : Int), 0)
  | 0, w, hw => by simp [rtL] at hw
  | j + 1, w, hw => by
    rw [rtL] at hw
    split at hw
    · obtain ⟨q, h1, h2⟩ := rtL_mem hw; exact ⟨q, by omega, h2⟩
    · rename_i hc
      rcases List.mem_append.1 hw with hw | hw
      · obtain ⟨q, h1, h2⟩ := rtL_mem hw; exact ⟨q, by omega, h2⟩
      · rw [List.mem_singleton] at hw; exact ⟨j, by omega, hc, hw⟩
theorem rtL_has : ∀ {j q : Nat}, q < j → ¬ (rsT h l Gs 0).getD q 0 = -1 → ((rsT h l Gs 0).getD q 0, (q : Int), 0) ∈ rtL h l Gs j
  | 0, q, hq, _ => by omega
  | j + 1, q, hq, hn => by
    rw [rtL]
    by_cases e : q = j
    · subst e; rw [if_neg hn]; exact List.mem_append.2 (.inr (List.mem_singleton.2 rfl))
    · have := rtL_has (j := j) (q := q) (by omega) hn
      split
      · exact this
      · exact List.mem_append.2 (.inl this)
theorem rtL_tot {j : Nat} : TotW (rtL h l Gs j) := by
  intro a ha b hb h1 h2
  have hx := bef_next h1 h2
  obtain ⟨q, _, _, rfl⟩ := rtL_mem ha
  obtain ⟨p, _, _, rfl⟩ := rtL_mem hb
  have : q = p := by have h9 : (q : Int) = (p : Int) := hx; omega
  rw [this]

/-- The least cost is that of the first way. -/
theorem bsU_way (hn : NetOk h l Gs) {i k : Nat} (hi : i + 1 < l.length) (hk : k < (Gs.getD i []).length) : ∀ {j : Nat}, j ≤ (Gs.getD (i + 1) []).length →
    (bsU h (l.getD i noC) ((Gs.getD i []).getD k noG) (l.getD (i + 1) noC) (Gs.getD (i + 1) []) (rsT h l Gs (i + 1)) j = -1 ∧ wayL h l Gs i k j = []) ∨
    (0 ≤ bsU h (l.getD i noC) ((Gs.getD i []).getD k noG) (l.getD (i + 1) noC) (Gs.getD (i + 1) []) (rsT h l Gs (i + 1)) j ∧ (∃ w ∈ wayL h l Gs i k j, w.1 = bsU h (l.getD i noC) ((Gs.getD i []).getD k noG) (l.getD (i + 1) noC) (Gs.getD (i + 1) []) (rsT h l Gs (i + 1)) j) ∧
      ∀ u ∈ wayL h l Gs i k j, bsU h (l.getD i noC) ((Gs.getD i []).getD k noG) (l.getD (i + 1) noC) (Gs.getD (i + 1) []) (rsT h l Gs (i + 1)) j ≤ u.1)
  | 0, _ => .inl ⟨rfl, rfl⟩
  | j + 1, hj => by
    have ih := bsU_way hn hi hk (j := j) (by omega)
    have hi0 : i < l.length := by omega
    have hown := own_bound hn.hk (hn.seq i hi0).1 (hn.grip hi0 hk).1
    have hsb := stepB hn hi hk (m := j) (by omega)
    have hNb := rsT_bound hn _ (i + 1) rfl hi j (by omega)
    by_cases hN : (rsT h l Gs (i + 1)).getD j 0 = -1
    · rw [bsU, wayL, if_pos hN, if_pos (.inl hN)]; exact ih
    have hN0 : 0 ≤ (rsT h l Gs (i + 1)).getD j 0 := by rcases hNb with h1 | h1; exact absurd h1 hN; exact h1.1
    by_cases hs : StepOk h (l.getD i noC) ((Gs.getD i []).getD k noG) (l.getD (i + 1) noC) ((Gs.getD (i + 1) []).getD j noG)
    case neg => rw [bsU, wayL, if_neg hN, stepR_no hs, if_neg (by simp), if_pos (.inr rfl)]; exact ih
    rw [stepR_ok hs] at hsb
    have e1 : bsU h (l.getD i noC) ((Gs.getD i []).getD k noG) (l.getD (i + 1) noC) (Gs.getD (i + 1) []) (rsT h l Gs (i + 1)) (j + 1) = if bsU h (l.getD i noC) ((Gs.getD i []).getD k noG) (l.getD (i + 1) noC) (Gs.getD (i + 1) []) (rsT h l Gs (i + 1)) j = -1 ∨
        ownC h (l.getD i noC) ((Gs.getD i []).getD k noG) + stepC h (l.getD i noC) ((Gs.getD i []).getD k noG) (l.getD (i + 1) noC) ((Gs.getD (i + 1) []).getD j noG) + (rsT h l Gs (i + 1)).getD j 0 < bsU h (l.getD i noC) ((Gs.getD i []).getD k noG) (l.getD (i + 1) noC) (Gs.getD (i + 1) []) (rsT h l Gs (i + 1)) j
        then ownC h (l.getD i noC) ((Gs.getD i []).getD k noG) + stepC h (l.getD i noC) ((Gs.getD i []).getD k noG) (l.getD (i + 1) noC) ((Gs.getD (i + 1) []).getD j noG) + (rsT h l Gs (i + 1)).getD j 0
        else bsU h (l.getD i noC) ((Gs.getD i []).getD k noG) (l.getD (i + 1) noC) (Gs.getD (i + 1) []) (rsT h l Gs (i + 1)) j := by rw [bsU, if_neg hN, stepR_ok hs, if_pos rfl]
    have e2 : wayL h l Gs i k (j + 1) = wayL h l Gs i k j ++ [(ownC h (l.getD i noC) ((Gs.getD i []).getD k noG) + stepC h (l.getD i noC) ((Gs.getD i []).getD k noG) (l.getD (i + 1) noC) ((Gs.getD (i + 1) []).getD j noG) + (rsT h l Gs (i + 1)).getD j 0, (j : Int), 0)] := by
      rw [wayL, stepR_ok hs, if_neg (fun hh => hh.elim hN (fun e => by cases e))]
    rw [e1, e2]
    generalize bsU h (l.getD i noC) ((Gs.getD i []).getD k noG) (l.getD (i + 1) noC) (Gs.getD (i + 1) []) (rsT h l Gs (i + 1)) j = p at *
    generalize wayL h l Gs i k j = W at *
    have hc0 : 0 ≤ ownC h (l.getD i noC) ((Gs.getD i []).getD k noG) + stepC h (l.getD i noC) ((Gs.getD i []).getD k noG) (l.getD (i + 1) noC) ((Gs.getD (i + 1) []).getD j noG) + (rsT h l Gs (i + 1)).getD j 0 := by dsimp only at hsb; omega
    generalize ownC h (l.getD i noC) ((Gs.getD i []).getD k noG) + stepC h (l.getD i noC) ((Gs.getD i []).getD k noG) (l.getD (i + 1) noC) ((Gs.getD (i + 1) []).getD j noG) + (rsT h l Gs (i + 1)).getD j 0 = c at *
    refine .inr ?_
    rcases ih with ⟨hp, rfl⟩ | ⟨hp, ⟨w, hw, hwc⟩, hle⟩
    · rw [if_pos (.inl hp)]
      exact ⟨hc0, ⟨_, List.mem_append.2 (.inr (List.mem_singleton.2 rfl)), rfl⟩, fun u hu => by
        rw [List.nil_append, List.mem_singleton] at hu; subst hu; exact Int.le_refl _⟩
    · by_cases hlt : c < p
      · rw [if_pos (.inr hlt)]
        refine ⟨hc0, ⟨_, List.mem_append.2 (.inr (List.mem_singleton.2 rfl)), rfl⟩, fun u hu => ?_⟩
        rcases List.mem_append.1 hu with hu | hu
        · have := hle u hu; omega
        · rw [List.mem_singleton] at hu; subst hu; exact Int.le_refl _
      · rw [if_neg (by rintro (h1 | h1); omega; exact hlt h1)]
        refine ⟨hp, ⟨w, List.mem_append.2 (.inl hw), hwc⟩, fun u hu => ?_⟩
        rcases List.mem_append.1 hu with hu | hu
        · exact hle u hu
        · rw [List.mem_singleton] at hu; subst hu; show p ≤ c; omega
/-- A grip that leads to the end has ways; the first of them costs what the table says. -/
theorem wayF_ok (hn : NetOk h l Gs) {i k : Nat} (hi : i < l.length) (hk : k < (Gs.getD i []).length) (hr : ¬ (rsT h l Gs i).getD k 0 = -1) :
    wayF h l Gs i k ≠ [] ∧ (bstW (wayF h l Gs i k)).1 = (rsT h l Gs i).getD k 0 ∧ (bstW (wayF h l Gs i k)).2.2 = 0 ∧
    (i + 1 < l.length → ∃ q : Nat, (bstW (wayF h l Gs i k)).2.1 = (q : Int) ∧ q < (Gs.getD (i + 1) []).length ∧ ¬ (rsT h l Gs (i + 1)).getD q 0 = -1 ∧ StepOk h (l.getD i noC) ((Gs.getD i []).getD k noG) (l.getD (i + 1) noC) ((Gs.getD (i + 1) []).getD q noG) ∧
      (rsT h l Gs i).getD k 0 = ownC h (l.getD i noC) ((Gs.getD i []).getD k noG) + stepC h (l.getD i noC) ((Gs.getD i []).getD k noG) (l.getD (i + 1) noC) ((Gs.getD (i + 1) []).getD q noG) + (rsT h l Gs (i + 1)).getD q 0) := by
  rw [rsT_at hi hk, rsE] at hr ⊢
  by_cases hlast : i + 1 = l.length
  · rw [if_pos hlast] at hr ⊢
    have e : wayF h l Gs i k = [(ownC h (l.getD i noC) ((Gs.getD i []).getD k noG), -1, 0)] := by rw [wayF, wayB, if_pos hlast, if_pos hlast, wayL, List.append_nil]
    rw [e]
    have hb := (bstW_ok (L := [(ownC h (l.getD i noC) ((Gs.getD i []).getD k noG), (-1 : Int), (0 : Int))]) (by simp)).1
    rw [List.mem_singleton] at hb
    rw [hb]
    exact ⟨by simp, rfl, rfl, fun h1 => by omega⟩
  · rw [if_neg hlast] at hr ⊢
    have hi1 : i + 1 < l.length := by omega
    have e : wayF h l Gs i k = wayL h l Gs i k (Gs.getD (i + 1) []).length := by rw [wayF, wayB, if_neg hlast, if_neg hlast, List.nil_append, rsT_len hi1]
    rw [e]
    rcases bsU_way hn hi1 hk (Nat.le_refl _) with ⟨h1, _⟩ | ⟨h1, ⟨w, hw, hwc⟩, hle⟩
    · exact absurd h1 hr
    have hne : wayL h l Gs i k (Gs.getD (i + 1) []).length ≠ [] := fun e => by rw [e] at hw; cases hw
    obtain ⟨b1, b2⟩ := bstW_ok hne
    have hc : (bstW (wayL h l Gs i k (Gs.getD (i + 1) []).length)).1 = bsU h (l.getD i noC) ((Gs.getD i []).getD k noG) (l.getD (i + 1) noC) (Gs.getD (i + 1) []) (rsT h l Gs (i + 1)) (Gs.getD (i + 1) []).length := by
      have := befW_cost (b2 w hw)
      have := hle _ b1
      omega
    obtain ⟨q, q1, q2, q3, q4⟩ := wayL_mem b1
    have hso : StepOk h (l.getD i noC) ((Gs.getD i []).getD k noG) (l.getD (i + 1) noC) ((Gs.getD (i + 1) []).getD q noG) := by
      by_cases hx : StepOk h (l.getD i noC) ((Gs.getD i []).getD k noG) (l.getD (i + 1) noC) ((Gs.getD (i + 1) []).getD q noG)
      · exact hx
      · rw [stepR_no hx] at q3; cases q3
    refine ⟨hne, hc, by rw [q4], fun _ => ⟨q, by rw [q4], q1, q2, hso, ?_⟩⟩
    rw [← hc, q4, stepR_ok hso]
end
end Go.Proofs.Ytojjdkoglhecbaa
namespace Go.Proofs.Ytojjdkoglhecbaa
open Go.RowKit

/-- The first way of the root. -/
noncomputable def rootW (h : Hand) (l : List Chord) (Gs : List (List Grip)) : Way := bstW (rtL h l Gs (rsT h l Gs 0).length)
/-- The grips of the best fingering, by their numbers. -/
noncomputable def kS (h : Hand) (l : List Chord) (Gs : List (List Grip)) : Nat → Nat
  | 0 => (rootW h l Gs).2.1.toNat
  | i + 1 => (bstW (wayF h l Gs i (kS h l Gs i))).2.1.toNat
noncomputable def pathU (h : Hand) (l : List Chord) (Gs : List (List Grip)) (n : Nat) : List Grip := (List.range n).map fun i => (Gs.getD i []).getD (kS h l Gs i) noG
theorem pathU_len (h : Hand) (l : List Chord) (Gs : List (List Grip)) (n : Nat) : (pathU h l Gs n).length = n := by simp [pathU]
theorem pathU_succ (h : Hand) (l : List Chord) (Gs : List (List Grip)) (n : Nat) : pathU h l Gs (n + 1) = pathU h l Gs n ++ [(Gs.getD n []).getD (kS h l Gs n) noG] := by simp [pathU, List.range_succ]
/-- Is there a fingering? -/
def HasF (h : Hand) (l : List Chord) (Gs : List (List Grip)) : Prop := rtL h l Gs (rsT h l Gs 0).length ≠ []
open Classical in
/-- What first answers. -/
noncomputable def fstR (h : Hand) (l : List Chord) (Gs : List (List Grip)) : List Grip × Int × Int :=
  if l.length = 0 then ([], 0, 0) else if HasF h l Gs then (pathU h l Gs l.length, (rootW h l Gs).1, 0) else ([], 0, 62)
theorem rootW_ok {h : Hand} {l : List Chord} {Gs : List (List Grip)} (hh : HasF h l Gs) : ∃ q : Nat, rootW h l Gs = ((rsT h l Gs 0).getD q 0, (q : Int), 0) ∧ q < (rsT h l Gs 0).length ∧ ¬ (rsT h l Gs 0).getD q 0 = -1 := by
  obtain ⟨q, q1, q2, q3⟩ := rtL_mem (bstW_ok hh).1
  exact ⟨q, q3, q1, q2⟩
theorem kS_ok {h : Hand} {l : List Chord} {Gs : List (List Grip)} (hn : NetOk h l Gs) (hh : HasF h l Gs) : ∀ {i : Nat}, i < l.length → kS h l Gs i < (Gs.getD i []).length ∧ ¬ (rsT h l Gs i).getD (kS h l Gs i) 0 = -1
  | 0, hi => by
    obtain ⟨q, q1, q2, q3⟩ := rootW_ok hh
    rw [rsT_len hi] at q2
    rw [kS, q1]; exact ⟨q2, q3⟩
  | i + 1, hi => by
    obtain ⟨h1, h2⟩ := kS_ok hn hh (i := i) (by omega)
    obtain ⟨_, _, _, h3⟩ := wayF_ok hn (by omega) h1 h2
    obtain ⟨q, q1, q2, q3, _⟩ := h3 hi
    rw [kS, q1, Int.toNat_natCast]
    exact ⟨q2, q3⟩
/-- The next grip, as get gives it. -/
theorem kS_next {h : Hand} {l : List Chord} {Gs : List (List Grip)} (hn : NetOk h l Gs) (hh : HasF h l Gs) {i : Nat} (hi : i < l.length) {H : List Way} (hH : HpOk H) (hp : H.Perm (wayF h l Gs i (kS h l Gs i))) :
    ∃ c x : Int, GtRes H = .tup [.agg [vint c, vint x, vint 0], vbool true] ∧ (i + 1 < l.length → x = (kS h l Gs (i + 1) : Int)) := by
  obtain ⟨h1, h2⟩ := kS_ok hn hh hi
  obtain ⟨w1, w2, w3, w4⟩ := wayF_ok hn hi h1 h2
  have e := bstW_heap hH hp w1 wayF_tot
  have hne : H ≠ [] := fun e0 => by subst e0; exact w1 (List.nil_perm.1 hp)
  refine ⟨(bstW (wayF h l Gs i (kS h l Gs i))).1, (bstW (wayF h l Gs i (kS h l Gs i))).2.1, by rw [GtRes, if_neg hne, e, w3], fun hi1 => ?_⟩
  obtain ⟨q, q1, _⟩ := w4 hi1
  rw [kS, q1, Int.toNat_natCast]

/-- All that is neither node nor way is as it was. -/
def Fr (M M' : Mm) : Prop := M.next ≤ M'.next ∧ ∀ q cs t, q < M.next → M.obj q = some (.box cs t) → t ≠ 159 → t ≠ 154 → t ≠ 150 → M'.obj q = M.obj q
/-- What fingering leaves. -/
def FgPost (h : Hand) (l : List Chord) (Gs : List (List Grip)) (M : Mm) (r : V) (M' : Mm) : Prop :=
  Fr M M' ∧ ∃ (G : List Grip) (c : Int) (is : Bool) (tok : Tok), r = .tup [.agg [.sl G.length (G.flatMap Grip.cells) tok, vint c], vbool is] ∧ ((is = true ∧ fstR h l Gs = (G, c, 0)) ∨ (is = false ∧ fstR h l Gs = ([], 0, 62)))
theorem fgPost_ex (h : Hand) (l : List Chord) (Gs : List (List Grip)) (M : Mm) : ∃ r M', FgPost h l Gs M r M' := by
  have hf : Fr M M := ⟨Nat.le_refl _, fun _ _ _ _ _ _ _ _ => rfl⟩
  unfold FgPost fstR
  split
  · exact ⟨_, M, hf, [], 0, true, .no, rfl, .inl ⟨rfl, rfl⟩⟩
  · split
    · exact ⟨_, M, hf, _, _, true, .no, rfl, .inl ⟨rfl, rfl⟩⟩
    · exact ⟨_, M, hf, [], 0, false, .no, rfl, .inr ⟨rfl, rfl⟩⟩

/-- Where fingering stands. -/
structure FgSt (h : Hand) (l : List Chord) (Gs : List (List Grip)) (tb nq rt : Nat) (rs : List Nat) (mS : Mm) (n0 : Nat) (cost : Int) (i : Nat) (M : Mm) : Prop where
  fr : Fr mS M
  nx : n0 + 11 ≤ M.next
  ls : LsM h l Gs tb nq rt rs i M
  fb : ∃ tok, M.obj n0 = some (.box [.sl i ((pathU h l Gs i).flatMap Grip.cells) tok, vint cost] 40) ∧ Apb M tok i 53 2
  wb : ∃ c x : Int, M.obj (n0 + 8) = some (.box [vint c, vint x, vint 0] 154) ∧ (i < l.length → x = (kS h l Gs i : Int))

set_option maxHeartbeats 4000000 in
theorem fing_sfn {h : Hand} {l : List Chord} {Gs : List (List Grip)} (hn : NetOk h l Gs) {m0 M : Mm} {r0 : V} (hP : LsPost h l Gs m0 r0 M) : SFn Try.prog Gd 75 [r0, vint 0] M (FgPost h l Gs M) := by
  obtain ⟨_, _, tb, nq, rt, rs, rfl, ⟨_, l1⟩, ⟨nv, o1⟩, hL⟩ := hP
  refine SFn.of_vxS k_hand_lister_fingering (by simp) ?_
  have h4 := hn.len
  have gl := hn.gl
  have x0 : ¬ tb = M.next := by omega
  have hnet : netE h l Gs = .ept [.sl h.low.length (h.low.map vint) .no, .sl h.high.length (h.high.map vint) .no, .sl h.barre.length (h.barre.map vbool) .no, .lit (.int .i64 h.top), .lit (.int .i64 h.jump), .lit (.int .i64 h.shift), .lit (.int .i64 h.lift), .lit (.int .i64 h.bar), .lit (.int .i64 h.stretch), .lit (.int .i64 h.slide),
    .sl l.length (l.flatMap Chord.cells) .no, .sl Gs.length (Gs.map tGs) .no, .sl (owA h l Gs).length ((owA h l Gs).map tIs) .no, .sl (rsA h l Gs).length ((rsA h l Gs).map tIs) .no] 0 := rfl
  replace hnet := Hid.mk hnet
  replace gl := Hid.mk gl
  have o1' := o1
  rw [hnet.out] at o1
  unfold c_hand_lister_fingering
  by_cases hl0 : l.length = 0
  · have e1 : ((l.length : Int) == 0) = true := by rw [beq_iff_eq]; omega
    have hf : fstR h l Gs = ([], 0, 0) := by rw [fstR, if_pos hl0]
    replace hf := Hid.mk hf
    clear hl0 hL o1'
    repeat' (with_reducible first | refine x_ops ?_ | refine wk ?_ | ((first | refine gd1 ?_ ?_ | refine gd2 ?_ ?_ | refine gd3 ?_ ?_) <;> (first | exact @False.elim _ | intro hc)))
    exact ⟨.inr rfl, _, vv, ⟨by show M.next ≤ M.next + 2; omega, fun q _ _ hq _ _ _ _ => (put_other _ _ (by omega)).trans (put_other _ _ (by omega))⟩, [], 0, true, .exact, rfl, .inl ⟨rfl, hf.out⟩⟩
  have e1 : ((l.length : Int) == 0) = false := by rw [beq_eq_false_iff_ne]; omega
  obtain ⟨hLs, ⟨_, l2⟩, v, H, q1, q2, q3, q4⟩ := hL (by omega)
  have hHl := q4.length_eq
  have hrl := rtL_len h l Gs (rsT h l Gs 0).length
  have hT0 := rsT_len (h := h) (Gs := Gs) (show 0 < l.length by omega)
  have hc0 := hn.cnt 0
  have low : ∀ a : AObj, ∀ q, q < M.next → ((⟨M.obj, M.next + 11⟩ : Mm).put M.next a).obj q = M.obj q := fun a q hq => put_other _ _ (by omega)
  have hL1 : LsM h l Gs tb nq rt rs 0 ((⟨M.obj, M.next + 11⟩ : Mm).put M.next (.box [.sl 0 [] .exact, vint 0] 40)) :=
    hLs.mono (Nat.le_refl _) (by show M.next ≤ M.next + 11; omega) (low _ _ l1) (low _ _ hLs.ltn) (fun y _ hy => low _ _ (hLs.ltr y hy))
  have GR := getR_sfn hL1 (v := v) (H := H) ((low _ _ l2).trans q1) (by show rt < M.next + 11; omega) (q2.mono (by show M.next ≤ M.next + 11; omega) (fun q n e => low _ _ (by
    rcases q2 with ⟨h1, _⟩ | ⟨id, R, h1, h2, h3⟩
    · rw [h1] at e; cases e
    · rw [h1] at e; injection e with e1; subst e1; exact h2))) q3 (by omega)
  have GE : ∃ r M', ((⟨M.obj, M.next + 11⟩ : Mm).put M.next (.box [.sl 0 [] .exact, vint 0] 40)).next ≤ M'.next ∧ r = GtRes H ∧ LsM h l Gs tb nq rt rs 0 M' ∧ ∀ q cs t, q < ((⟨M.obj, M.next + 11⟩ : Mm).put M.next (.box [.sl 0 [] .exact, vint 0] 40)).next → ((⟨M.obj, M.next + 11⟩ : Mm).put M.next (.box [.sl 0 [] .exact, vint 0] 40)).obj q = some (.box cs t) → t ≠ 159 → t ≠ 154 → M'.obj q = ((⟨M.obj, M.next + 11⟩ : Mm).put M.next (.box [.sl 0 [] .exact, vint 0] 40)).obj q := ⟨_, _, Nat.le_refl _, rfl, hL1, fun _ _ _ _ _ _ _ => rfl⟩
  have hl0' := Hid.mk hl0
  replace hn := Hid.mk hn
  have hrlo : ∀ y, y < l.length → rs.getD y 0 < M.next := hLs.ltr
  have hqlo := hLs.ltn
  replace hrlo := Hid.mk hrlo
  replace hqlo := Hid.mk hqlo
  clear hL hLs hL1 low hl0 q1 q2 l2
  repeat' (with_reducible first | refine x_ops ?_ | refine wk ?_ | ((first | refine gd1 ?_ ?_ | refine gd2 ?_ ?_ | refine gd3 ?_ ?_) <;> (first | exact @False.elim _ | intro hc)))
  refine x_scallR [.ptr tb 0, vint (-1), vint 0, vint 0] vw GR GE ?_
  rintro r M2 ⟨p1, rfl, hL2, p4⟩
  have p1' : M.next + 11 ≤ M2.next := p1
  have of := (p4 M.next _ _ (by show M.next < M.next + 11; omega) (put_same _ _ _) (by decide) (by decide)).trans (put_same _ _ _)
  have fr2 : Fr M M2 := ⟨by omega, fun q cs t hq ho ht1 ht2 _ => (p4 q cs t (by show q < M.next + 11; omega) ((put_other _ _ (by omega)).trans ho) ht1 ht2).trans (put_other _ _ (by omega))⟩
  replace fr2 := Hid.mk fr2
  clear GR GE p4 p1 o1
  have y1 : ¬ M.next = M.next + 8 := by omega
  by_cases hH : H = []
  · have hno : ¬ HasF h l Gs := fun hh => hh (by subst hH; exact List.nil_perm.1 q4)
    have hf : fstR h l Gs = ([], 0, 62) := by rw [fstR, if_neg hl0'.out, if_neg hno]
    have hR : GtRes H = .tup [.agg [vint 0, vint 0, vint 0], vbool false] := by rw [GtRes, if_pos hH]
    rw [hR]
    replace hf := Hid.mk hf
    replace hL2 := Hid.mk hL2
    clear hR hH hno q3 q4
    repeat' (with_reducible first | refine x_ops ?_ | refine wk ?_ | ((first | refine gd1 ?_ ?_ | refine gd2 ?_ ?_ | refine gd3 ?_ ?_) <;> (first | exact @False.elim _ | intro hc)))
    exact ⟨.inr rfl, _, vv, ⟨fr2.out.1, fun q cs t hq ho ht1 ht2 ht3 => by (refine Eq.trans (b := M2.obj q) ?_ (fr2.out.2 q cs t hq ho ht1 ht2 ht3); repeat' (first | rfl | refine Eq.trans (put_other _ _ (by omega)) ?_))⟩, [], 0, false, .exact, rfl, .inr ⟨rfl, hf.out⟩⟩
  have hhas : HasF h l Gs := fun e => by rw [e] at q4; exact hH (List.perm_nil.1 q4)
  have hw0 : H.getD 0 noW = rootW h l Gs := bstW_heap q3 q4 hhas rtL_tot
  obtain ⟨q0, w1, w2, w3⟩ := rootW_ok hhas
  have hf : fstR h l Gs = (pathU h l Gs l.length, (rsT h l Gs 0).getD q0 0, 0) := by rw [fstR, if_neg hl0'.out, if_pos hhas, w1]
  have hk0 : kS h l Gs 0 = q0 := by rw [kS, w1]; rfl
  have hR : GtRes H = .tup [.agg [vint ((rsT h l Gs 0).getD q0 0), vint (q0 : Int), vint 0], vbool true] := by rw [GtRes, if_neg hH, hw0, w1]
  rw [hR]
  generalize (rsT h l Gs 0).getD q0 0 = cost at *
  replace hf := Hid.mk hf
  have hL3 := Hid.mk hL2
  have of' := Hid.mk of
  clear hR hH q3 q4 w1 w2 w3 hw0
  have z1 : tb < M2.next := hL2.ltt
  have z2 : M.next < M2.next := by omega
  have o2 := hL2.tbo
  rw [hnet.out] at o2
  have x1 : ¬ tb = M.next + 8 := by omega
  clear hL2
  repeat' (with_reducible first | refine x_ops ?_ | refine wk ?_ | ((first | refine gd1 ?_ ?_ | refine gd2 ?_ ?_ | refine gd3 ?_ ?_) <;> (first | exact @False.elim _ | intro hc)))
  refine x_genM (fun t M' => (t 0 = .ptr tb 0 ∧ t 4 = .ptr M.next 0 ∧ t 6 = .ptr (M.next + 8) 0 ∧ t 40 = vint l.length ∧ t 41 = vint 0) ∧ FgSt h l Gs tb nq rt rs M M.next cost 0 M') ⟨⟨vv, vv, vv, vv, vv⟩, ⟨?_, p1', ?_, ⟨.exact, put_same _ _ _, .inl rfl⟩, ⟨cost, q0, ?_, fun _ => by rw [hk0]⟩⟩⟩ ?_
  · exact ⟨fr2.out.1, fun q cs t hq ho ht1 ht2 ht3 => by (refine Eq.trans (b := M2.obj q) ?_ (fr2.out.2 q cs t hq ho ht1 ht2 ht3); repeat' (first | rfl | refine Eq.trans (put_other _ _ (by omega)) ?_))⟩
  · have old : ∀ a b c : AObj, ∀ q, q < M.next → (((M2.put (M.next + 8) a).put (M.next + 8) b).put M.next c).obj q = M2.obj q := fun a b c q hq => (put_other _ _ (by omega)).trans ((put_other _ _ (by omega)).trans (put_other _ _ (by omega)))
    exact hL3.out.mono (Nat.le_refl _) (Nat.le_refl _) (old _ _ _ _ l1) (old _ _ _ _ hqlo.out) (fun y _ hy => old _ _ _ _ (hrlo.out y hy))
  · exact (put_other _ _ (fun e => y1 e.symm)).trans (put_same _ _ _)
  rintro t0 M3 ⟨⟨a0, a4, a6, a40, a41⟩, hs0⟩
  refine x_loopW w_hand_lister_fingering_p9 kr l.length (fun i t M' => t 41 = vint (i : Int) ∧ FgSt h l Gs tb nq rt rs M M.next cost i M') ⟨a41, hs0⟩ ?_
  clear a41 hs0 of o2 o1' z1 z2 p1' hL3 of'
  rintro i t M4 hi ⟨h41, hs⟩
  have hnx := hs.nx
  have fr4 := hs.fr
  replace fr4 := Hid.mk fr4
  obtain ⟨tok, f1, f2⟩ := hs.fb
  obtain ⟨c, x, g1, g2⟩ := hs.wb
  have z2 : M.next < M4.next := by omega
  have z3 : M.next + 8 < M4.next := by omega
  have hplen := pathU_len h l Gs i
  by_cases hil : i < l.length
  case neg =>
    have hie : i = l.length := by omega
    subst hie
    have c1 : ¬ (l.length : Int) < (l.length : Int) := by omega
    replace hplen := Hid.mk hplen
    clear hs f2 g1 g2 hil hi
    repeat' (with_reducible first | refine x_ops ?_ | refine wk ?_ | ((first | refine gd1 ?_ ?_ | refine gd2 ?_ ?_ | refine gd3 ?_ ?_) <;> (first | exact @False.elim _ | intro hc)))
    refine ⟨.inr rfl, .tup [.agg [.sl l.length ((pathU h l Gs l.length).flatMap Grip.cells) tok, vint cost], vbool true], vw, ⟨fr4.out.1, fun q cs t hq ho ht1 ht2 ht3 => by (refine Eq.trans (b := M4.obj q) ?_ (fr4.out.2 q cs t hq ho ht1 ht2 ht3); repeat' (first | rfl | refine Eq.trans (put_other _ _ (by omega)) ?_))⟩, pathU h l Gs l.length, cost, true, tok, by rw [hplen.out], .inl ⟨rfl, hf.out⟩⟩
  have c1 : (i : Int) < (l.length : Int) := by omega
  have w1 := w_add1 (k := i) (by omega)
  obtain ⟨hkl, hkr⟩ := kS_ok hn.out hhas hil
  have hx := g2 hil
  subst hx
  have c2 : (kS h l Gs i : Int) < ((Gs.getD i []).length : Int) := by omega
  have gle := gl.out
  have r1 := gss_at' (l := Gs) (k := i) (by omega)
  have r2 := gs_take hkl
  have r3 := gs_len (Gs.getD i [])
  have c3 : kS h l Gs i * 2 + 2 ≤ (Gs.getD i []).length * 2 := by omega
  have hg := hn.out.grip hil hkl
  have hfl : ((Gs.getD i []).getD (kS h l Gs i) noG).fingers.length ≤ 14 := by rw [hg.2]; exact chord_len (hn.out.seq i hil).1
  have CL := clone_fn ((Gs.getD i []).getD (kS h l Gs i) noG).fingers (by omega)
  have o1 := hs.ls.tbo
  rw [hnet.out] at o1
  have z1 := hs.ls.ltt
  have x2 : ∀ q j, q < M4.next → (q < M4.next + j) = True := fun q j hq => by simp; omega
  have x3 : ∀ q j, q < M4.next → (q = M4.next + j) = False := fun q j hq => by simp; omega
  have x4 : ∀ q j, q < M4.next → (M4.next + j = q) = False := fun q j hq => by simp; omega
  have hsu : pathU h l Gs (i + 1) = pathU h l Gs i ++ [(Gs.getD i []).getD (kS h l Gs i) noG] := pathU_succ h l Gs i
  have hKN : ∀ H : List Way, HpOk H → H.Perm (wayF h l Gs i (kS h l Gs i)) → ∃ c x : Int, GtRes H = .tup [.agg [vint c, vint x, vint 0], vbool true] ∧ (i + 1 < l.length → x = (kS h l Gs (i + 1) : Int)) := fun H hH hp => kS_next hn.out hhas hil hH hp
  have hs1 := Hid.mk hs
  replace hsu := Hid.mk hsu
  replace hplen := Hid.mk hplen
  replace hfl := Hid.mk hfl
  replace hg := Hid.mk hg
  replace hKN := Hid.mk hKN
  clear hs g2
  repeat' (with_reducible first | refine x_ops ?_ | refine wk ?_ | (with_reducible refine xc (CL) ?_) | ((first | refine gd1 ?_ ?_ | refine gd2 ?_ ?_ | refine gd3 ?_ ?_) <;> (first | exact @False.elim _ | intro hc)))
  refine x_appb (n := i) (xs := (pathU h l Gs i).flatMap Grip.cells) (ys := Grip.cells ((Gs.getD i []).getD (kS h l Gs i) noG)) (k := tok) (k2 := .exact) vw (by unfold Grip.cells; exact vw) (f2.mono (fun q hq _ => (put_other _ _ (by omega)).trans (put_other _ _ (by omega))) (by show M4.next ≤ M4.next + 28; omega)) (by rw [gs_len, hplen.out]) rfl (by omega) (by unfold Go.maxLen; omega) (by show M4.next + 25 < M4.next + 28; omega) ?_
  intro tok' m5 hap' hn' hbox hobj
  replace hn' : m5.next = M4.next + 28 := hn'
  have lo : ∀ q cs ty, q < M4.next → M4.obj q = some (.box cs ty) → m5.obj q = some (.box cs ty) := fun q cs ty hq ho => hbox q cs ty ((put_other _ _ (by omega)).trans ((put_other _ _ (by omega)).trans ho)) (by show ¬ q = M4.next + 25; omega)
  have q1 := lo _ _ _ z2 f1
  have q2 := lo _ _ _ z3 g1
  have q3 := lo _ _ _ z1 o1
  have l5 : M.next < m5.next := by omega
  have l6 : M.next + 8 < m5.next := by omega
  have y2 : ¬ M.next + 8 = M.next := by omega
  have y3 : ¬ M.next = M.next + 8 := by omega
  have nb1 : tb ≠ M.next := ne_type o1 f1 (by decide)
  have hLs5 : LsM h l Gs tb nq rt rs i (m5.put M.next (.box [.sl (i + 1) ((pathU h l Gs i).flatMap Grip.cells ++ Grip.cells ((Gs.getD i []).getD (kS h l Gs i) noG)) tok', vint cost] 40)) := by
    have hh := hs1.out.ls
    refine hh.mono (Nat.le_refl _) (by show M4.next ≤ m5.next; omega) ?_ ?_ (fun y hy hyl => ?_)
    · exact ((put_other _ _ nb1).trans (lo _ _ _ z1 hh.tbo)).trans hh.tbo.symm
    · exact ((put_other _ _ (ne_type hh.nqo f1 (by decide))).trans (lo _ _ _ hh.ltn hh.nqo)).trans hh.nqo.symm
    · exact ((put_other _ _ (ne_type (hh.row y hy hyl) f1 (by decide))).trans (lo _ _ _ (hh.ltr y hyl) (hh.row y hy hyl))).trans (hh.row y hy hyl).symm
  have GS := get_sfn hn.out hil hkl hLs5
  have GE := gtPost_ex (k := kS h l Gs i) hLs5
  have hri : m5.obj (rs.getD i 0) = some (.box (nilR (Gs.getD i []).length) 150) := lo _ _ _ (hs1.out.ls.ltr i hil) (hs1.out.ls.row i (Nat.le_refl _) hil)
  replace hri := Hid.mk hri
  replace hap' := Hid.mk hap'
  replace hn' := Hid.mk hn'
  replace hLs5 := Hid.mk hLs5
  replace lo := Hid.mk lo
  clear hbox hobj f1 f2 g1 o1 CL r1 r2 r3 x2 x3 x4 z1 z2 z3
  unfold Grip.cells at GS GE
  repeat' (with_reducible first | refine x_ops ?_ | refine wk ?_ | ((first | refine gd1 ?_ ?_ | refine gd2 ?_ ?_ | refine gd3 ?_ ?_) <;> (first | exact @False.elim _ | intro hc)))
  refine x_scallR [.ptr tb 0, vint i, vint (kS h l Gs i : Int), vint 0] vw (by ((refine ve ?_; try exact True.intro)); exact GS) (by ((refine ve ?_; try exact True.intro)); exact GE) ?_
  rintro r M6 ⟨p0, ⟨H', hH, hp, rfl⟩, hLs6, fr6⟩
  obtain ⟨c', x', e, hx'⟩ := hKN.out H' hH hp
  rw [e]
  have b0 : M.next ≠ rs.getD i 0 := ne_type q1 hri.out (by decide)
  have b8 : M.next + 8 ≠ rs.getD i 0 := ne_type q2 hri.out (by decide)
  have p0' : M4.next + 28 ≤ M6.next := by have : m5.next ≤ M6.next := p0; have := hn'.out; omega
  have e6 := (fr6 M.next l5 b0).trans (put_same _ _ _)
  have e8 := (fr6 (M.next + 8) l6 b8).trans ((put_other _ _ y2).trans q2)
  have hri6 : (m5.put M.next (.box [.sl (i + 1) ((pathU h l Gs i).flatMap Grip.cells ++ Grip.cells ((Gs.getD i []).getD (kS h l Gs i) noG)) tok', vint cost] 40)).obj (rs.getD i 0) = _ := (put_other _ _ (fun e => b0 e.symm)).trans hri.out
  have ap6 := (Apb.put (o := .box [.sl (i + 1) ((pathU h l Gs i).flatMap Grip.cells ++ Grip.cells ((Gs.getD i []).getD (kS h l Gs i) noG)) tok', vint cost] 40) hap'.out q1).mono (m' := M6) (fun q hq hk => fr6 q hq (fun e => by subst e; rw [hri6] at hk; cases hk)) p0
  have fr7 : Fr M M6 := ⟨by omega, fun q cs t hq ho ht1 ht2 ht3 => by
    have h5 : m5.obj q = some (.box cs t) := lo.out q cs t (Nat.lt_of_lt_of_le hq fr4.out.1) ((fr4.out.2 q cs t hq ho ht1 ht2 ht3).trans ho)
    have h7 : q ≠ M.next := by omega
    exact (fr6 q (by show q < m5.next; have := hn'.out; omega) (ne_type h5 hri.out ht3)).trans (((put_other _ _ h7).trans h5).trans ho.symm)⟩
  replace fr7 := Hid.mk fr7
  replace hx' := Hid.mk hx'
  replace hLs6 := Hid.mk hLs6
  clear GS GE fr6 p0 e q1 q2 q3 l5 l6 hp hH
  repeat' (with_reducible first | refine x_ops ?_ | refine wk ?_ | ((first | refine gd1 ?_ ?_ | refine gd2 ?_ ?_ | refine gd3 ?_ ?_) <;> (first | exact @False.elim _ | intro hc)))
  refine nx hil ⟨vv, ⟨⟨by (show M.next ≤ M6.next; omega), fun q cs t hq ho ht1 ht2 ht3 => by (refine Eq.trans (b := M6.obj q) ?_ (fr7.out.2 q cs t hq ho ht1 ht2 ht3); repeat' (first | rfl | refine Eq.trans (put_other _ _ (by omega)) ?_))⟩, ?_, ?_, ?_, ?_⟩⟩
  · show M.next + 11 ≤ M6.next; omega
  · have hl := hLs6.out
    exact hl.mono (Nat.le_refl _) (Nat.le_refl _) (put_other _ _ (ne_type hl.tbo e8 (by decide))) (put_other _ _ (ne_type hl.nqo e8 (by decide))) (fun y hy hyl => put_other _ _ (ne_type (hl.row y hy hyl) e8 (by decide)))
  · refine ⟨tok', ?_, Apb.put ap6 e8⟩
    rw [hsu.out, List.flatMap_append, List.flatMap_singleton]
    exact (put_other _ _ (fun e => y2 e.symm)).trans e6
  · exact ⟨c', x', put_same _ _ _, hx'.out⟩
end Go.Proofs.Ytojjdkoglhecbaa
namespace Go.Proofs.Ytojjdkoglhecbaa
open Go.RowKit

/-- The least cost from a grip on, by numbers. -/
noncomputable def lst (h : Hand) (l : List Chord) (Gs : List (List Grip)) (i k : Nat) : Int := (rsT h l Gs i).getD k 0
/-- The grip k of the chord i. -/
def grp (Gs : List (List Grip)) (i k : Nat) : Grip := (Gs.getD i []).getD k noG

section
variable {h : Hand} {l : List Chord} {Gs : List (List Grip)}
theorem lst_last {i k : Nat} (hi : i + 1 = l.length) (hk : k < (Gs.getD i []).length) : lst h l Gs i k = ownC h (l.getD i noC) (grp Gs i k) := by
  rw [lst, rsT_at (by omega) hk, rsE, if_pos hi]; rfl
theorem wayL_has {i k q : Nat} (hq : ¬ lst h l Gs (i + 1) q = -1) (hs : StepOk h (l.getD i noC) (grp Gs i k) (l.getD (i + 1) noC) (grp Gs (i + 1) q)) : ∀ {j : Nat}, q < j →
    (ownC h (l.getD i noC) (grp Gs i k) + stepC h (l.getD i noC) (grp Gs i k) (l.getD (i + 1) noC) (grp Gs (i + 1) q) + lst h l Gs (i + 1) q, (q : Int), 0) ∈ wayL h l Gs i k j
  | 0, h0 => by omega
  | j + 1, h0 => by
    unfold lst grp at *
    rw [wayL]
    by_cases e : q = j
    · subst e
      rw [stepR_ok hs, if_neg (by rintro (h1 | h1); exact hq h1; cases h1)]
      exact List.mem_append.2 (.inr (List.mem_singleton.2 rfl))
    · have := wayL_has hq hs (j := j) (by omega)
      unfold lst grp at this
      split
      · exact this
      · exact List.mem_append.2 (.inl this)
/-- A step to a grip that leads to the end. -/
theorem lst_ub (hn : NetOk h l Gs) {i k q : Nat} (hi : i + 1 < l.length) (hk : k < (Gs.getD i []).length) (hq : q < (Gs.getD (i + 1) []).length) (h1 : ¬ lst h l Gs (i + 1) q = -1)
    (hs : StepOk h (l.getD i noC) (grp Gs i k) (l.getD (i + 1) noC) (grp Gs (i + 1) q)) :
    ¬ lst h l Gs i k = -1 ∧ lst h l Gs i k ≤ ownC h (l.getD i noC) (grp Gs i k) + stepC h (l.getD i noC) (grp Gs i k) (l.getD (i + 1) noC) (grp Gs (i + 1) q) + lst h l Gs (i + 1) q := by
  have hm := wayL_has (k := k) h1 hs hq
  have e : lst h l Gs i k = bsU h (l.getD i noC) ((Gs.getD i []).getD k noG) (l.getD (i + 1) noC) (Gs.getD (i + 1) []) (rsT h l Gs (i + 1)) (Gs.getD (i + 1) []).length := by
    rw [lst, rsT_at (by omega) hk, rsE, if_neg (by omega)]
  rcases bsU_way hn hi hk (Nat.le_refl _) with ⟨_, h2⟩ | ⟨h2, _, h3⟩
  · rw [h2] at hm; cases hm
  · have := h3 _ hm
    rw [e]; dsimp only at this; exact ⟨by omega, this⟩
/-- Where there is a way, it is one of them. -/
theorem lst_eq (hn : NetOk h l Gs) {i k : Nat} (hi : i + 1 < l.length) (hk : k < (Gs.getD i []).length) (h1 : ¬ lst h l Gs i k = -1) :
    ∃ q, q < (Gs.getD (i + 1) []).length ∧ ¬ lst h l Gs (i + 1) q = -1 ∧ StepOk h (l.getD i noC) (grp Gs i k) (l.getD (i + 1) noC) (grp Gs (i + 1) q) ∧
      lst h l Gs i k = ownC h (l.getD i noC) (grp Gs i k) + stepC h (l.getD i noC) (grp Gs i k) (l.getD (i + 1) noC) (grp Gs (i + 1) q) + lst h l Gs (i + 1) q := by
  obtain ⟨q, _, h2, h3, h4, h5⟩ := (wayF_ok hn (by omega) hk h1).2.2.2 hi
  exact ⟨q, h2, h3, h4, h5⟩
theorem lst_own (hn : NetOk h l Gs) {i k : Nat} (hi : i < l.length) (hk : k < (Gs.getD i []).length) : 0 ≤ ownC h (l.getD i noC) (grp Gs i k) := (own_bound hn.hk (hn.seq i hi).1 (hn.grip hi hk).1).1
/-- Is there a fingering, by numbers. -/
theorem has_iff (hl : 0 < l.length) : HasF h l Gs ↔ ∃ q, q < (Gs.getD 0 []).length ∧ ¬ lst h l Gs 0 q = -1 := by
  have hT := rsT_len (h := h) (Gs := Gs) hl
  constructor
  · intro hh
    obtain ⟨q, q1, q2, q3⟩ := rootW_ok hh
    exact ⟨q, by omega, q3⟩
  · rintro ⟨q, q1, q2⟩ e
    have := rtL_has (h := h) (l := l) (Gs := Gs) (j := (rsT h l Gs 0).length) (q := q) (by omega) q2
    rw [e] at this; cases this
end
end Go.Proofs.Ytojjdkoglhecbaa
namespace Go.Proofs.Ytojjdkoglhecbaa
open Go.RowKit

/-- A memory with a lister behind all that was there. -/
noncomputable def lsM (h : Hand) (l : List Chord) (Gs : List (List Grip)) (m : Mm) (H : List Way) : Mm :=
  ⟨fun q => if q < m.next then m.obj q else if q = m.next then some (.box [netE h l Gs, .gsl (m.next + 1) l.length 1, .ptr (m.next + 2) 0] 162)
    else if q = m.next + 1 then some (.box (rwN ((List.range l.length).map (m.next + 4 + ·)) Gs) 163)
    else if q = m.next + 2 then some (.box [.sl 0 [] .exact, .gsl (m.next + 3) H.length 3, .fn 110 [], vbool false] 159)
    else if q = m.next + 3 then some (.box (wyC (H ++ [])) 154)
    else some (.box (nilR (Gs.getD (q - (m.next + 4)) []).length) 150), m.next + 4 + l.length⟩
theorem lsPost_ex (h : Hand) (l : List Chord) (Gs : List (List Grip)) (m : Mm) : ∃ r M', LsPost h l Gs m r M' := by
  obtain ⟨H, h1, h2⟩ := heap_ex (rtL h l Gs (rsT h l Gs 0).length)
  have hr : ∀ y, y < l.length → ((List.range l.length).map (m.next + 4 + ·)).getD y 0 = m.next + 4 + y := fun y hy => by
    rw [List.getD_eq_getElem?_getD, List.getElem?_map, List.getElem?_range hy]; rfl
  have o : ∀ q, (lsM h l Gs m H).obj q = if q < m.next then m.obj q else if q = m.next then some (.box [netE h l Gs, .gsl (m.next + 1) l.length 1, .ptr (m.next + 2) 0] 162)
    else if q = m.next + 1 then some (.box (rwN ((List.range l.length).map (m.next + 4 + ·)) Gs) 163)
    else if q = m.next + 2 then some (.box [.sl 0 [] .exact, .gsl (m.next + 3) H.length 3, .fn 110 [], vbool false] 159)
    else if q = m.next + 3 then some (.box (wyC (H ++ [])) 154)
    else some (.box (nilR (Gs.getD (q - (m.next + 4)) []).length) 150) := fun _ => rfl
  have n : (lsM h l Gs m H).next = m.next + 4 + l.length := rfl
  refine ⟨.ptr m.next 0, lsM h l Gs m H, by omega, fun q hq => by rw [o, if_pos hq], m.next, m.next + 1, m.next + 2, (List.range l.length).map (m.next + 4 + ·), rfl, ⟨Nat.le_refl _, by omega⟩, ⟨_, by rw [o, if_neg (by omega), if_pos rfl]⟩, fun hl => ⟨⟨?_, ?_, ?_, ?_, ?_, ?_, ?_, ?_, ?_⟩, ⟨by omega, by omega⟩, .gsl (m.next + 3) H.length 3, H, ?_, .inr ⟨m.next + 3, [], rfl, by omega, ?_⟩, h1, h2⟩⟩
  · rw [o, if_neg (by omega), if_pos rfl]
  · rw [o, if_neg (by omega), if_neg (by omega), if_pos rfl]
  · intro y _ hy
    rw [hr y hy, o, if_neg (by omega), if_neg (by omega), if_neg (by omega), if_neg (by omega), if_neg (by omega), Nat.add_sub_cancel_left]
  · intro y z hyz hz
    rw [hr y (by omega), hr z hz]; omega
  · omega
  · omega
  · intro y hy; rw [hr y hy]; omega
  · omega
  · intro y hy; rw [hr y hy]; omega
  · rw [o, if_neg (by omega), if_neg (by omega), if_neg (by omega), if_pos rfl]
  · rw [o, if_neg (by omega), if_neg (by omega), if_neg (by omega), if_neg (by omega), if_pos rfl]

/-- What first answers, as a value. -/
noncomputable def fstV (r : List Grip × Int × Int) : V := .tup [.agg [tGs r.1, vint r.2.1], vint r.2.2]
set_option maxHeartbeats 4000000 in
theorem first_fn {h : Hand} {l : List Chord} {Gs : List (List Grip)} (hn : NetOk h l Gs) : Fn Try.prog Gd 70 [netE h l Gs] (fstV (fstR h l Gs)) := by
  refine Fn.of_vx0 k_hand_first (by simp) (by rw [V.pures, V.pures]; rfl) ?_
  have LS := fun m => list_sfn hn m
  have LE := fun m => lsPost_ex h l Gs m
  have FG := fun m0 M r0 (hP : LsPost h l Gs m0 r0 M) => fing_sfn hn hP
  have FE := fgPost_ex h l Gs
  unfold c_hand_first
  replace hn := Hid.mk hn
  repeat' (with_reducible first | refine x_ops ?_ | refine wk ?_ | ((first | refine gd1 ?_ ?_ | refine gd2 ?_ ?_ | refine gd3 ?_ ?_) <;> (first | exact @False.elim _ | intro hc)))
  refine x_scallR [netE h l Gs] vw (LS _) (LE _) ?_
  intro r1 M1 hP1
  have n1 : 11 ≤ M1.next := hP1.1
  have k0 : M1.obj 0 = some (.box [.sl 0 [] .exact, vint 0] 40) := (hP1.2.1 0 (Nat.zero_lt_succ 10)).trans (by (dsimp only; exact put_same _ _ _))
  replace FG := FG _ _ _ hP1
  have FE := FE M1
  clear LS LE
  replace hP1 := Hid.mk hP1
  repeat' (with_reducible first | refine x_ops ?_ | refine wk ?_ | ((first | refine gd1 ?_ ?_ | refine gd2 ?_ ?_ | refine gd3 ?_ ?_) <;> (first | exact @False.elim _ | intro hc)))
  refine x_scallR [r1, vint 0] vw FG FE ?_
  rintro r2 M2 ⟨fr, G, c, is, tok, rfl, hr⟩
  have n2 : 11 ≤ M2.next := Nat.le_trans n1 fr.1
  have k2 := (fr.2 0 _ _ (by omega) k0 (by decide) (by decide) (by decide)).trans k0
  clear FG FE k0 fr
  replace hr := Hid.mk hr
  cases is
  · have hf : fstR h l Gs = ([], 0, 62) := by rcases hr.out with ⟨h1, _⟩ | ⟨_, h1⟩
                                              · cases h1
                                              · exact h1
    rw [hf]
    repeat' (with_reducible first | refine x_ops ?_ | refine wk ?_ | ((first | refine gd1 ?_ ?_ | refine gd2 ?_ ?_ | refine gd3 ?_ ?_) <;> (first | exact @False.elim _ | intro hc)))
    exact finV_ret vv (.tup (.cons (.agg (.cons (.sl _ _ _) (.cons (.lit _) .nil))) (.cons (.lit _) .nil)))
  · have hf : fstR h l Gs = (G, c, 0) := by rcases hr.out with ⟨_, h1⟩ | ⟨h1, _⟩
                                            · exact h1
                                            · cases h1
    rw [hf]
    repeat' (with_reducible first | refine x_ops ?_ | refine wk ?_ | ((first | refine gd1 ?_ ?_ | refine gd2 ?_ ?_ | refine gd3 ?_ ?_) <;> (first | exact @False.elim _ | intro hc)))
    exact finV_ret vv (.tup (.cons (.agg (.cons (.sl _ _ _) (.cons (.lit _) .nil))) (.cons (.lit _) .nil)))

/-- What Best answers. -/
noncomputable def bstR (h : Hand) (l : List Chord) : List Grip × Int × Int := if wvE h l = 0 then fstR h l (tabG h l) else ([], 0, wvE h l)
theorem Best_fn (h : Hand) (l : List Chord) (hl : Fits l) : Fn Try.prog Gd 31 [h.val, tCs l] (fstV (bstR h l)) := by
  refine Fn.of_vx0 k_hand_Best (by simp) (by rw [V.pures, pure_hand, V.pures, pure_tCs]; rfl) ?_
  have C1 := weave_fn h l hl
  unfold wvR at C1
  unfold bstR c_hand_Best
  by_cases hw : wvE h l = 0
  · rw [if_pos hw] at C1 ⊢
    have C2 := first_fn (wv_net hl hw)
    generalize fstR h l (tabG h l) = r at *
    obtain ⟨G, c, e⟩ := r
    unfold fstV at *
    unfold netE netC at C1 C2
    unfold tGs at C2 ⊢
    unfold tCs at C2
    unfold Hand.val tCs at C1 ⊢
    clear hw
    dsimp only at *
    repeat' (with_reducible first | refine x_ops ?_ | refine wk ?_ | (with_reducible refine xc (C1) ?_) | (with_reducible refine xc (C2) ?_) | ((first | refine gd1 ?_ ?_ | refine gd2 ?_ ?_ | refine gd3 ?_ ?_) <;> (first | exact @False.elim _ | intro hc)))
    exact finV_ret vv (.tup (.cons (.agg (.cons (.sl _ _ _) (.cons (.lit _) .nil))) (.cons (.lit _) .nil)))
  · rw [if_neg hw] at C1 ⊢
    have e1 : (wvE h l == 0) = false := by rw [beq_eq_false_iff_ne]; exact hw
    clear hw
    unfold fstV tGs
    unfold Hand.val tCs at C1 ⊢
    dsimp only
    repeat' (with_reducible first | refine x_ops ?_ | refine wk ?_ | (with_reducible refine xc (C1) ?_) | ((first | refine gd1 ?_ ?_ | refine gd2 ?_ ?_ | refine gd3 ?_ ?_) <;> (first | exact @False.elim _ | intro hc)))
    exact finV_ret vv (.tup (.cons (.agg (.cons (.sl _ _ _) (.cons (.lit _) .nil))) (.cons (.lit _) .nil)))
end Go.Proofs.Ytojjdkoglhecbaa
namespace Go.Proofs.Ytojjdkoglhecbaa
open Go.RowKit

section
variable {h h' : Hand} {l : List Chord} {Gs Gs' : List (List Grip)}
end

/-- Best answers a fingering. -/
theorem bst_yes {h : Hand} {l : List Chord} (hw : wvE h l = 0) (hh : 0 < l.length → HasF h l (tabG h l)) : (bstR h l).2.2 = 0 ∧ (bstR h l).2.1 = if l.length = 0 then 0 else (rootW h l (tabG h l)).1 := by
  rw [bstR, if_pos hw, fstR]
  by_cases hl : l.length = 0
  · rw [if_pos hl, if_pos hl]; exact ⟨rfl, rfl⟩
  · rw [if_neg hl, if_neg hl, if_pos (hh (by omega))]; exact ⟨rfl, rfl⟩
/-- There is none. -/
theorem bst_no {h : Hand} {l : List Chord} (hw : wvE h l = 0) (hl : 0 < l.length) (hh : ¬ HasF h l (tabG h l)) : bstR h l = ([], 0, 62) := by
  rw [bstR, if_pos hw, fstR, if_neg (by omega), if_neg hh]
/-! ### Lighter -/
end Go.Proofs.Ytojjdkoglhecbaa
namespace Go.Proofs.Ytojjdkoglhecbaa
open Go.RowKit

section
variable {n : Int}
end
theorem both_is {h : Hand} {l : List Chord} (h1 : HandOk h) (h2 : l.length ≤ 400) (h3 : SeqOk l) : bothE h l = 0 := by
  have e1 : chkE h = 0 := by rw [chkE, if_pos h1]
  rw [bothE, if_pos e1, seqE, if_neg (by omega), if_pos (by simpa using h3)]
end Go.Proofs.Ytojjdkoglhecbaa
namespace Go.Proofs.Ytojjdkoglhecbaa
open Go.RowKit
set_option linter.unusedSimpArgs false
set_option linter.unusedVariables false

end Go.Proofs.Ytojjdkoglhecbaa
namespace Go.Proofs.Ytojjdkoglhecbaa
open Go.RowKit
set_option linter.unusedSimpArgs false
set_option linter.unusedVariables false

/-- What is left of a row by another one's growth. -/
theorem Apb.keep {m m' : Mm} {k : Tok} {n : Nat} {e : TypeId} {z : Nat} (h : Apb m k n e z) (hn : m.next ≤ m'.next) (ho : ∀ q, q < m.next → k = .own q → m'.obj q = m.obj q) : Apb m' k n e z := by
  rcases h with h | ⟨t, h1, h2, h3⟩
  · exact .inl h
  · exact .inr ⟨t, h1, Nat.lt_of_lt_of_le h2 hn, (ho t h2 h1).trans h3⟩
theorem Apb.box {m : Mm} {k : Tok} {n : Nat} {e : TypeId} {z : Nat} (h : Apb m k n e z) {q : Nat} {cs : List V} {t : TypeId} (hq : m.obj q = some (.box cs t)) : k ≠ .own q := by
  rintro rfl
  rcases h with h | ⟨t, h1, _, h3⟩
  · cases h
  · injection h1 with h1; subst h1; rw [hq] at h3; cases h3

end Go.Proofs.Ytojjdkoglhecbaa
namespace Go.Proofs.Ytojjdkoglhecbaa
open Go.RowKit

section
variable {P : Program} {G : Ground}
end
end Go.Proofs.Ytojjdkoglhecbaa
namespace Go.Proofs.Ytojjdkoglhecbaa
open Go.ChangeShapes Go.WideShapes Go.ChangeAt Go.RowKit
set_option maxRecDepth 100000

end Go.Proofs.Ytojjdkoglhecbaa
namespace Go.Proofs.Ytojjdkoglhecbaa
open Go.RowKit

/-- The pairs of grips of the first chords. -/
noncomputable def hvU (h : Hand) (l : List Chord) : Nat → Int
  | 0 => 0
  | k + 1 => hvU h l k + (if k = 0 then 0 else ((grpA h (l.getD (k - 1) noC)).length : Int)) * ((grpA h (l.getD k noC)).length : Int)
/-- Does a search take too many steps? -/
noncomputable def hvB (h : Hand) (l : List Chord) : Bool :=
  if bothE h l = 0 then (if 24 < l.length then true else if wvE h l = 0 then decide (6000 < hvU h l l.length) else false) else false
theorem hvU_bound {h : Hand} {l : List Chord} : ∀ {k : Nat}, (∀ i, i < k → (grpA h (l.getD i noC)).length ≤ 200) → 0 ≤ hvU h l k ∧ hvU h l k ≤ 40000 * k
  | 0, _ => by simp [hvU]
  | k + 1, hk => by
    have h1 := hvU_bound (h := h) (l := l) (k := k) (fun i hi => hk i (by omega))
    have h2 := hk k (by omega)
    rw [hvU]
    by_cases k0 : k = 0
    · rw [if_pos k0, Int.zero_mul]; omega
    · rw [if_neg k0]
      have h3 := hk (k - 1) (by omega)
      have h5 : (grpA h (l.getD (k - 1) noC)).length * (grpA h (l.getD k noC)).length ≤ 200 * 200 := Nat.mul_le_mul h3 h2
      have h6 : ((grpA h (l.getD (k - 1) noC)).length : Int) * ((grpA h (l.getD k noC)).length : Int) = (((grpA h (l.getD (k - 1) noC)).length * (grpA h (l.getD k noC)).length : Nat) : Int) := by push_cast; rfl
      omega

set_option maxHeartbeats 2000000 in
theorem heavy_fn (h : Hand) (l : List Chord) (hl : Fits l) : Fn Try.prog Gd 29 [h.val, tCs l] (vbool (hvB h l)) := by
  refine Fn.of_vx0 k_theorbolaw06_Heavy (by simp) (by rw [V.pures, pure_hand, V.pures, pure_tCs]; rfl) ?_
  have C1 := rcheck_fn h
  have C2 := rcheckchords_fn l hl
  unfold hvB bothE
  unfold tCs at C2
  unfold Hand.val at C1
  unfold c_theorbolaw06_Heavy Hand.val tCs
  by_cases he : chkE h = 0
  case neg =>
    have e1 : (chkE h == 0) = false := by rw [beq_eq_false_iff_ne]; exact he
    rw [chk_bad he] at C1
    rw [if_neg he, if_neg (by decide)]
    clear he
    repeat' (with_reducible first | refine x_ops ?_ | refine wk ?_ | (with_reducible refine xc (C1) ?_) | (with_reducible refine xc (C2) ?_) | ((first | refine gd1 ?_ ?_ | refine gd2 ?_ ?_ | refine gd3 ?_ ?_) <;> (first | exact @False.elim _ | intro hc)))
    all_goals exact finV_lit vv rfl
  rw [he] at C1
  rw [if_pos he]
  by_cases hs : seqE l = 0
  case neg =>
    have e1 : (seqE l == 0) = false := by rw [beq_eq_false_iff_ne]; exact hs
    rw [if_neg hs]
    clear he hs
    repeat' (with_reducible first | refine x_ops ?_ | refine wk ?_ | (with_reducible refine xc (C1) ?_) | (with_reducible refine xc (C2) ?_) | ((first | refine gd1 ?_ ?_ | refine gd2 ?_ ?_ | refine gd3 ?_ ?_) <;> (first | exact @False.elim _ | intro hc)))
    all_goals exact finV_lit vv rfl
  rw [if_pos hs]
  have hb : bothE h l = 0 := by rw [bothE, if_pos he]; exact hs
  obtain ⟨hk, h4, hseq⟩ := both_ok hb
  rw [hs] at C2
  clear hs he
  by_cases h24 : 24 < l.length
  · have c1 : (24 : Int) < (l.length : Int) := by omega
    rw [if_pos h24]
    clear hb h24
    repeat' (with_reducible first | refine x_ops ?_ | refine wk ?_ | (with_reducible refine xc (C1) ?_) | (with_reducible refine xc (C2) ?_) | ((first | refine gd1 ?_ ?_ | refine gd2 ?_ ?_ | refine gd3 ?_ ?_) <;> (first | exact @False.elim _ | intro hc)))
    all_goals exact finV_lit vv rfl
  have c1 : ¬ (24 : Int) < (l.length : Int) := by omega
  rw [if_neg h24]
  repeat' (with_reducible first | refine x_ops ?_ | refine wk ?_ | (with_reducible refine xc (C1) ?_) | (with_reducible refine xc (C2) ?_) | ((first | refine gd1 ?_ ?_ | refine gd2 ?_ ?_ | refine gd3 ?_ ?_) <;> (first | exact @False.elim _ | intro hc)))
  refine x_gen (fun t => t 1 = .sl l.length (l.flatMap Chord.cells) .no ∧ t 2 = .ptr 0 0 ∧ t 5 = vint 0 ∧ t 6 = vint 0 ∧ t 7 = vint 0) ⟨vv, vv, vv, vv, vv⟩ ?_
  clear C1 C2 c1
  rintro t0 ⟨a1, a2, a5, a6, a7⟩
  refine x_loopF w_theorbolaw06_Heavy_p9 kr l.length (fun k t => t 7 = vint (k : Int) ∧ t 5 = vint (hvU h l k) ∧ t 6 = vint (if k = 0 then 0 else ((grpA h (l.getD (k - 1) noC)).length : Int)) ∧ ∀ i, i < k → (grpA h (l.getD i noC)).length ≤ 200) ?_ ?_
  · exact ⟨a7, by rw [hvU]; exact a5, by rw [if_pos rfl]; exact a6, fun i hi => by omega⟩
  rintro k t hkl ⟨h7, h5, h6, hcnt⟩
  by_cases hlt : k < l.length
  case neg =>
    have hke : k = l.length := by omega
    subst hke
    have c1 : ¬ (l.length : Int) < (l.length : Int) := by omega
    rw [if_pos (show wvE h l = 0 by rw [wvE, if_pos hb, if_pos hcnt])]
    clear hcnt hb hlt hkl
    repeat' (with_reducible first | refine x_ops ?_ | refine wk ?_ | ((first | refine gd1 ?_ ?_ | refine gd2 ?_ ?_ | refine gd3 ?_ ?_) <;> (first | exact @False.elim _ | intro hc)))
    exact finV_lit vv rfl
  have C2 := rGrips_fn h (l.getD k noC) (hl.at k)
  rw [grR_net hk (hseq k hlt).1] at C2
  have g1 := chs_take hlt
  have g2 := chs_len l
  have c1 : k * 3 + 3 ≤ l.length * 3 := by omega
  have c2 : (k : Int) < (l.length : Int) := by omega
  have w1 := w_add1 (k := k) (by omega)
  unfold Hand.val Chord.val Chord.cells at C2
  by_cases hc2 : (grpA h (l.getD k noC)).length ≤ 200
  case neg =>
    rw [if_neg (show ¬ wvE h l = 0 by rw [wvE, if_pos hb, if_neg (fun hh => hc2 (hh k hlt))]; decide)]
    rw [if_neg hc2] at C2
    unfold tGs at C2
    clear hc2 hcnt hb
    dsimp only at C2
    repeat' (with_reducible first | refine x_ops ?_ | refine wk ?_ | (with_reducible refine xc (C2) ?_) | ((first | refine gd1 ?_ ?_ | refine gd2 ?_ ?_ | refine gd3 ?_ ?_) <;> (first | exact @False.elim _ | intro hc)))
    exact finV_lit vv rfl
  have hcn : ∀ i, i < k + 1 → (grpA h (l.getD i noC)).length ≤ 200 := fun i hi => by
    by_cases hik : i = k
    · subst hik; exact hc2
    · exact hcnt i (by omega)
  rw [if_pos hc2] at C2
  have hb1 := hvU_bound (h := h) (l := l) (k := k) hcnt
  have hb2 := hvU_bound (h := h) (l := l) (k := k + 1) hcn
  have hU : hvU h l (k + 1) = hvU h l k + (if k = 0 then 0 else ((grpA h (l.getD (k - 1) noC)).length : Int)) * ((grpA h (l.getD k noC)).length : Int) := rfl
  have hla : 0 ≤ (if k = 0 then 0 else ((grpA h (l.getD (k - 1) noC)).length : Int)) := by split <;> omega
  have hlast : (if k + 1 = 0 then 0 else ((grpA h (l.getD (k + 1 - 1) noC)).length : Int)) = ((grpA h (l.getD k noC)).length : Int) := by rw [if_neg (by omega), Nat.add_sub_cancel]
  generalize hun : hvU h l (k + 1) = un at *
  replace hun := Hid.mk hun
  generalize hvU h l k = uk at *
  generalize (if k = 0 then 0 else ((grpA h (l.getD (k - 1) noC)).length : Int)) = la at *
  have hmul : 0 ≤ la * ((grpA h (l.getD k noC)).length : Int) := Int.mul_nonneg hla (by omega)
  have w2 : IntKind.i64.wrap (la * ((grpA h (l.getD k noC)).length : Int)) = la * ((grpA h (l.getD k noC)).length : Int) := w_in (by omega)
  have w3 : IntKind.i64.wrap (uk + la * ((grpA h (l.getD k noC)).length : Int)) = un := by rw [w_in (by omega)]; exact hU.symm
  unfold tGs at C2
  replace hlast := Hid.mk hlast
  replace hcn := Hid.mk hcn
  replace hb := Hid.mk hb
  clear hU hb1 hb2 hla hmul hcnt hc2
  generalize grpA h (l.getD k noC) = G at *
  dsimp only at C2
  repeat' (with_reducible first | refine x_ops ?_ | refine wk ?_ | (with_reducible refine xc (C2) ?_) | ((first | refine gd1 ?_ ?_ | refine gd2 ?_ ?_ | refine gd3 ?_ ?_) <;> (first | exact @False.elim _ | intro hc)))
  exact nf hlt ⟨vv, by rw [hun.out]; exact vv, by rw [hlast.out]; exact vv, hcn.out⟩ rfl
end Go.Proofs.Ytojjdkoglhecbaa
namespace Go.Proofs.Ytojjdkoglhecbaa
open Go.RowKit

end Go.Proofs.Ytojjdkoglhecbaa
namespace Go.Proofs.Ytojjdkoglhecbaa
open Go.RowKit

theorem drop_getD {α : Type} {l : List α} {d i : Nat} {z : α} : (l.drop d).getD i z = l.getD (i + d) z := by
  rw [List.getD_eq_getElem?_getD, List.getElem?_drop, List.getD_eq_getElem?_getD, Nat.add_comm]
theorem take_getD_of {α : Type} {l : List α} {d i : Nat} {z : α} (h : i < d) : (l.take d).getD i z = l.getD i z := by
  rw [List.getD_eq_getElem?_getD, List.getElem?_take, if_pos h, List.getD_eq_getElem?_getD]
theorem tab_drop (h : Hand) (l : List Chord) (d : Nat) : tabG h (l.drop d) = (tabG h l).drop d := by rw [tabG, tabG, List.map_drop]
theorem tab_take (h : Hand) (l : List Chord) (d : Nat) : tabG h (l.take d) = (tabG h l).take d := by rw [tabG, tabG, List.map_take]
section
variable {h : Hand} {l : List Chord} {Gs : List (List Grip)}
end
theorem seq_drop {l : List Chord} (hs : SeqOk l) (d : Nat) : SeqOk (l.drop d) := by
  intro k hk
  rw [List.length_drop] at hk
  obtain ⟨h1, h2⟩ := hs (k + d) (by omega)
  rw [drop_getD, drop_getD]
  exact ⟨h1, fun h0 => by have := h2 (by omega); rwa [show k + d - 1 = k - 1 + d by omega] at this⟩
theorem seq_take {l : List Chord} (hs : SeqOk l) (d : Nat) : SeqOk (l.take d) := by
  intro k hk
  rw [List.length_take] at hk
  obtain ⟨h1, h2⟩ := hs k (by omega)
  rw [take_getD_of (by omega), take_getD_of (by omega)]
  exact ⟨h1, h2⟩
theorem fits_drop {l : List Chord} (hl : Fits l) (d : Nat) : Fits (l.drop d) := ⟨by rw [List.length_drop]; have := hl.1; omega, fun c hc => hl.2 c (List.mem_of_mem_drop hc)⟩
theorem fits_take {l : List Chord} (hl : Fits l) (d : Nat) : Fits (l.take d) := ⟨by rw [List.length_take]; have := hl.1; omega, fun c hc => hl.2 c (List.mem_of_mem_take hc)⟩
theorem wv_is {h : Hand} {l : List Chord} (h1 : HandOk h) (h2 : l.length ≤ 400) (h3 : SeqOk l) (h4 : ∀ k, k < l.length → (grpA h (l.getD k noC)).length ≤ 200) : wvE h l = 0 := by
  rw [wvE, if_pos (both_is h1 h2 h3), if_pos h4]
theorem wv_drop {h : Hand} {l : List Chord} (hw : wvE h l = 0) (d : Nat) : wvE h (l.drop d) = 0 := by
  obtain ⟨hb, h1⟩ := wv_ok hw
  obtain ⟨hk, h4, hs⟩ := both_ok hb
  refine wv_is hk (by rw [List.length_drop]; omega) (seq_drop hs d) fun k hk => ?_
  rw [List.length_drop] at hk
  rw [drop_getD]; exact h1 _ (by omega)
theorem wv_take {h : Hand} {l : List Chord} (hw : wvE h l = 0) (d : Nat) : wvE h (l.take d) = 0 := by
  obtain ⟨hb, h1⟩ := wv_ok hw
  obtain ⟨hk, h4, hs⟩ := both_ok hb
  refine wv_is hk (by rw [List.length_take]; omega) (seq_take hs d) fun k hk => ?_
  rw [List.length_take] at hk
  rw [take_getD_of (by omega)]; exact h1 _ (by omega)
theorem flat_taken {α : Type} {f : α → List V} {z : Nat} (hf : ∀ x, (f x).length = z) : ∀ (l : List α) (d : Nat), (l.flatMap f).take (d * z) = (l.take d).flatMap f
  | [], d => by simp
  | a :: l, 0 => by simp
  | a :: l, d + 1 => by
    rw [List.flatMap_cons, List.take_succ_cons, List.flatMap_cons, List.take_append, hf, List.take_of_length_le (by rw [hf, Nat.succ_mul]; omega), Nat.succ_mul, Nat.add_sub_cancel, flat_taken hf l d]
theorem flat_dropped {α : Type} {f : α → List V} {z : Nat} (hf : ∀ x, (f x).length = z) : ∀ (l : List α) (d : Nat), (l.flatMap f).drop (d * z) = (l.drop d).flatMap f
  | [], d => by simp
  | a :: l, 0 => by simp
  | a :: l, d + 1 => by
    rw [List.flatMap_cons, List.drop_succ_cons, List.drop_append, hf, List.drop_of_length_le (by rw [hf, Nat.succ_mul]; omega), Nat.succ_mul, Nat.add_sub_cancel, flat_dropped hf l d, List.nil_append]
theorem chs_cut (l : List Chord) {d : Nat} (hd : d ≤ l.length) :
    vslc 3 false true (.sl l.length (l.flatMap Chord.cells) .no) [.lit (.int .i64 (d : Int))] = some (.sl (l.take d).length ((l.take d).flatMap Chord.cells) .no) ∧
    vslc 3 true false (.sl l.length (l.flatMap Chord.cells) .no) [.lit (.int .i64 (d : Int))] = some (.sl (l.drop d).length ((l.drop d).flatMap Chord.cells) .no) := by
  have hz : ∀ c : Chord, c.cells.length = 3 := fun _ => rfl
  have hfl : ((l.drop d).flatMap Chord.cells).length = (l.drop d).length * 3 := flat_len hz _
  have h1 : (0 : Int) ≤ 0 ∧ (0 : Int) ≤ (d : Int) ∧ (d : Int) ≤ (l.length : Int) := ⟨by omega, by omega, by omega⟩
  have h2 : (0 : Int) ≤ (d : Int) ∧ (d : Int) ≤ (l.length : Int) ∧ (l.length : Int) ≤ (l.length : Int) := ⟨by omega, by omega, by omega⟩
  constructor
  · show (if (0 : Int) ≤ 0 ∧ (0 : Int) ≤ (d : Int) ∧ (d : Int) ≤ (l.length : Int) then some (V.sl ((d : Int).toNat - (0 : Int).toNat) (((l.flatMap Chord.cells).drop ((0 : Int).toNat * 3)).take (((d : Int).toNat - (0 : Int).toNat) * 3)) .no) else none) = _
    rw [if_pos h1, Int.toNat_natCast, show (0 : Int).toNat = 0 from rfl, Nat.zero_mul, List.drop_zero, Nat.sub_zero, flat_taken hz, List.length_take, Nat.min_eq_left hd]
  · show (if (0 : Int) ≤ (d : Int) ∧ (d : Int) ≤ (l.length : Int) ∧ (l.length : Int) ≤ (l.length : Int) then some (V.sl ((l.length : Int).toNat - (d : Int).toNat) (((l.flatMap Chord.cells).drop ((d : Int).toNat * 3)).take (((l.length : Int).toNat - (d : Int).toNat) * 3)) .no) else none) = _
    rw [if_pos h2, Int.toNat_natCast, Int.toNat_natCast, flat_dropped hz, List.take_of_length_le (by rw [hfl, List.length_drop]; exact Nat.le_refl _), List.length_drop]

end Go.Proofs.Ytojjdkoglhecbaa
namespace Go.Proofs.Ytojjdkoglhecbaa
open Go.RowKit

section
variable {h : Hand} {l : List Chord} {Gs : List (List Grip)}
/-- A step between grips, by their numbers. -/
def StpG (h : Hand) (l : List Chord) (Gs : List (List Grip)) (i k m : Nat) : Prop := StepOk h (l.getD i noC) (grp Gs i k) (l.getD (i + 1) noC) (grp Gs (i + 1) m)
/-- Grips of the chords from i to j, with steps between them. -/
structure Psg (h : Hand) (l : List Chord) (Gs : List (List Grip)) (i j : Nat) (ks : Nat → Nat) : Prop where
  lt : ∀ y, i ≤ y → y ≤ j → ks y < (Gs.getD y []).length
  st : ∀ y, i ≤ y → y < j → StpG h l Gs y (ks y) (ks (y + 1))
/-- The passage from i to j can be played. -/
def Conn (h : Hand) (l : List Chord) (Gs : List (List Grip)) (i j : Nat) : Prop := ∃ ks, Psg h l Gs i j ks
/-- It can be played up to this grip. -/
def Fwd (h : Hand) (l : List Chord) (Gs : List (List Grip)) (i j m : Nat) : Prop := ∃ ks, Psg h l Gs i j ks ∧ ks j = m
/-- It can be played from this grip on. -/
def Bwd (h : Hand) (l : List Chord) (Gs : List (List Grip)) (i j k : Nat) : Prop := ∃ ks, Psg h l Gs i j ks ∧ ks i = k

theorem fwd_0 {i m : Nat} : Fwd h l Gs i i m ↔ m < (Gs.getD i []).length := by
  constructor
  · rintro ⟨ks, hp, rfl⟩; exact hp.lt i (Nat.le_refl _) (Nat.le_refl _)
  · intro hm
    refine ⟨fun _ => m, ⟨fun y h1 h2 => ?_, fun y h1 h2 => by omega⟩, rfl⟩
    have : y = i := by omega
    subst this; exact hm
theorem fwd_s {i j m : Nat} (hij : i ≤ j) : Fwd h l Gs i (j + 1) m ↔ m < (Gs.getD (j + 1) []).length ∧ ∃ k, k < (Gs.getD j []).length ∧ Fwd h l Gs i j k ∧ StpG h l Gs j k m := by
  constructor
  · rintro ⟨ks, hp, rfl⟩
    exact ⟨hp.lt _ (by omega) (Nat.le_refl _), ks j, hp.lt _ hij (by omega), ⟨ks, ⟨fun y h1 h2 => hp.lt y h1 (by omega), fun y h1 h2 => hp.st y h1 (by omega)⟩, rfl⟩, hp.st j hij (by omega)⟩
  · rintro ⟨hm, k, hk, ⟨ks, hp, rfl⟩, hs⟩
    refine ⟨fun y => if y ≤ j then ks y else m, ⟨fun y h1 h2 => ?_, fun y h1 h2 => ?_⟩, if_neg (by omega)⟩
    · by_cases e : y ≤ j
      · rw [if_pos e]; exact hp.lt y h1 e
      · rw [if_neg e, show y = j + 1 by omega]; exact hm
    · rw [if_pos (by omega)]
      by_cases e : y + 1 ≤ j
      · rw [if_pos e]; exact hp.st y h1 (by omega)
      · rw [if_neg e, show y = j by omega]; exact hs
theorem bwd_0 {j k : Nat} : Bwd h l Gs j j k ↔ k < (Gs.getD j []).length := fwd_0 (i := j)
theorem bwd_s {i j k : Nat} (hij : i < j) : Bwd h l Gs i j k ↔ k < (Gs.getD i []).length ∧ ∃ m, m < (Gs.getD (i + 1) []).length ∧ Bwd h l Gs (i + 1) j m ∧ StpG h l Gs i k m := by
  constructor
  · rintro ⟨ks, hp, rfl⟩
    exact ⟨hp.lt _ (Nat.le_refl _) (by omega), ks (i + 1), hp.lt _ (by omega) (by omega), ⟨ks, ⟨fun y h1 h2 => hp.lt y (by omega) h2, fun y h1 h2 => hp.st y (by omega) h2⟩, rfl⟩, hp.st i (Nat.le_refl _) hij⟩
  · rintro ⟨hk, m, hm, ⟨ks, hp, rfl⟩, hs⟩
    refine ⟨fun y => if y ≤ i then k else ks y, ⟨fun y h1 h2 => ?_, fun y h1 h2 => ?_⟩, if_pos (Nat.le_refl _)⟩
    · by_cases e : y ≤ i
      · rw [if_pos e, show y = i by omega]; exact hk
      · rw [if_neg e]; exact hp.lt y (by omega) h2
    · rw [if_neg (show ¬ y + 1 ≤ i by omega)]
      by_cases e : y ≤ i
      · rw [if_pos e, show y = i by omega]; exact hs
      · rw [if_neg e]; exact hp.st y (by omega) h2
theorem fwd_lt {i j m : Nat} (hij : i ≤ j) (hf : Fwd h l Gs i j m) : m < (Gs.getD j []).length := by obtain ⟨ks, hp, rfl⟩ := hf; exact hp.lt j hij (Nat.le_refl _)
theorem conn_fwd {i j : Nat} (hij : i ≤ j) : Conn h l Gs i j ↔ ∃ m, m < (Gs.getD j []).length ∧ Fwd h l Gs i j m :=
  ⟨fun ⟨ks, hp⟩ => ⟨ks j, hp.lt j hij (Nat.le_refl _), ks, hp, rfl⟩, fun ⟨_, _, ks, hp, _⟩ => ⟨ks, hp⟩⟩
theorem conn_bwd {i j : Nat} (hij : i ≤ j) : Conn h l Gs i j ↔ ∃ k, k < (Gs.getD i []).length ∧ Bwd h l Gs i j k :=
  ⟨fun ⟨ks, hp⟩ => ⟨ks i, hp.lt i (Nat.le_refl _) hij, ks, hp, rfl⟩, fun ⟨_, _, ks, hp, _⟩ => ⟨ks, hp⟩⟩
theorem conn_mono {i j i' j' : Nat} (hc : Conn h l Gs i j) (h1 : i ≤ i') (h2 : j' ≤ j) : Conn h l Gs i' j' := by
  obtain ⟨ks, hp⟩ := hc
  exact ⟨ks, fun y a b => hp.lt y (by omega) (by omega), fun y a b => hp.st y (by omega) (by omega)⟩

/-- The chords d, d + 1 .. alone. -/
theorem conn_drop {d i j : Nat} : Conn h (l.drop d) (Gs.drop d) i j ↔ Conn h l Gs (i + d) (j + d) := by
  have g : ∀ y k, grp (Gs.drop d) y k = grp Gs (y + d) k := fun y k => by rw [grp, grp, drop_getD]
  have s : ∀ y k m, StpG h (l.drop d) (Gs.drop d) y k m ↔ StpG h l Gs (y + d) k m := fun y k m => by
    rw [StpG, StpG, g, g, drop_getD, drop_getD, show y + 1 + d = y + d + 1 by omega]
  constructor
  · rintro ⟨ks, hp⟩
    refine ⟨fun y => ks (y - d), fun y h1 h2 => ?_, fun y h1 h2 => ?_⟩
    · have := hp.lt (y - d) (by omega) (by omega)
      rwa [drop_getD, show y - d + d = y by omega] at this
    · have := hp.st (y - d) (by omega) (by omega)
      rw [s, show y - d + d = y by omega] at this
      rwa [show y + 1 - d = y - d + 1 by omega]
  · rintro ⟨ks, hp⟩
    refine ⟨fun y => ks (y + d), fun y h1 h2 => ?_, fun y h1 h2 => ?_⟩
    · have := hp.lt (y + d) (by omega) (by omega)
      rwa [drop_getD]
    · have := hp.st (y + d) (by omega) (by omega)
      rw [s]
      rwa [show y + 1 + d = y + d + 1 by omega]
/-- The first e chords alone. -/
theorem conn_take {e i j : Nat} (hj : j < e) : Conn h (l.take e) (Gs.take e) i j ↔ Conn h l Gs i j := by
  have g : ∀ y k, y < e → grp (Gs.take e) y k = grp Gs y k := fun y k hy => by rw [grp, grp, take_getD_of hy]
  have s : ∀ y k m, y + 1 < e → (StpG h (l.take e) (Gs.take e) y k m ↔ StpG h l Gs y k m) := fun y k m hy => by
    rw [StpG, StpG, g _ _ (by omega), g _ _ hy, take_getD_of (by omega), take_getD_of hy]
  constructor
  · rintro ⟨ks, hp⟩
    refine ⟨ks, fun y h1 h2 => ?_, fun y h1 h2 => ?_⟩
    · have := hp.lt y h1 h2
      rwa [take_getD_of (by omega)] at this
    · exact (s _ _ _ (by omega)).1 (hp.st y h1 h2)
  · rintro ⟨ks, hp⟩
    refine ⟨ks, fun y h1 h2 => ?_, fun y h1 h2 => ?_⟩
    · have := hp.lt y h1 h2
      rwa [take_getD_of (by omega)]
    · exact (s _ _ _ (by omega)).2 (hp.st y h1 h2)

/-- A grip leads to the end where its least cost is a number. -/
theorem lst_bwd (hn : NetOk h l Gs) : ∀ (j i : Nat), l.length - i = j → i < l.length → ∀ k, k < (Gs.getD i []).length → (¬ lst h l Gs i k = -1 ↔ Bwd h l Gs i (l.length - 1) k)
  | 0, i, hj, hi => by omega
  | j + 1, i, hj, hi => by
    intro k hk
    by_cases hlast : i + 1 = l.length
    · have e : l.length - 1 = i := by omega
      rw [e, bwd_0, lst_last hlast hk]
      have := lst_own hn hi hk
      exact ⟨fun _ => hk, fun _ => by omega⟩
    · have hi1 : i + 1 < l.length := by omega
      rw [bwd_s (by omega)]
      constructor
      · intro h1
        obtain ⟨q, q1, q2, q3, _⟩ := lst_eq hn hi1 hk h1
        exact ⟨hk, q, q1, (lst_bwd hn j (i + 1) (by omega) hi1 q q1).1 q2, q3⟩
      · rintro ⟨_, q, q1, q2, q3⟩
        exact (lst_ub hn hi1 hk q1 ((lst_bwd hn j (i + 1) (by omega) hi1 q q1).2 q2) q3).1
theorem has_conn (hn : NetOk h l Gs) (hl : 0 < l.length) : HasF h l Gs ↔ Conn h l Gs 0 (l.length - 1) := by
  rw [has_iff hl, conn_bwd (by omega)]
  constructor
  · rintro ⟨q, q1, q2⟩; exact ⟨q, q1, (lst_bwd hn _ 0 rfl hl q q1).1 q2⟩
  · rintro ⟨q, q1, q2⟩; exact ⟨q, q1, (lst_bwd hn _ 0 rfl hl q q1).2 q2⟩

/-- The passage that cannot be played: its end is the first chord up to which it cannot be done, its beginning the last one from which it cannot. -/
structure BlkAt (h : Hand) (l : List Chord) (Gs : List (List Grip)) (f t : Nat) : Prop where
  lt : t < l.length
  le : f ≤ t
  no : ¬ Conn h l Gs f t
  hd : ∀ j, j < t → Conn h l Gs 0 j
  tl : ∀ i, f < i → i ≤ t → Conn h l Gs i t
theorem blk_uniq {f t f' t' : Nat} (h1 : BlkAt h l Gs f t) (h2 : BlkAt h l Gs f' t') : f = f' ∧ t = t' := by
  have n1 : ¬ Conn h l Gs 0 t := fun hc => h1.no (conn_mono hc (by omega) (Nat.le_refl _))
  have n2 : ¬ Conn h l Gs 0 t' := fun hc => h2.no (conn_mono hc (by omega) (Nat.le_refl _))
  have e : t = t' := by
    rcases Nat.lt_trichotomy t t' with h3 | h3 | h3
    · exact absurd (h2.hd t h3) n1
    · exact h3
    · exact absurd (h1.hd t' h3) n2
  subst e
  refine ⟨?_, rfl⟩
  rcases Nat.lt_trichotomy f f' with h3 | h3 | h3
  · exact absurd (h1.tl f' h3 h2.le) h2.no
  · exact h3
  · exact absurd (h2.tl f h3 h1.le) h1.no
theorem least_of {p : Nat → Prop} : ∀ n, p n → ∃ m, m ≤ n ∧ p m ∧ ∀ k, k < m → ¬ p k := by
  intro n
  induction n using Nat.strongRecOn with
  | ind n ih =>
    intro hn
    by_cases hx : ∃ k, k < n ∧ p k
    · obtain ⟨k, hk, hpk⟩ := hx
      obtain ⟨m, h1, h2⟩ := ih k hk hpk
      exact ⟨m, by omega, h2⟩
    · exact ⟨n, Nat.le_refl _, hn, fun k hk hp => hx ⟨k, hk, hp⟩⟩
/-- From which chord on a passage cannot be played. -/
theorem back_ex {t : Nat} (h0 : ¬ Conn h l Gs 0 t) : ∃ f, f ≤ t ∧ ¬ Conn h l Gs f t ∧ ∀ i, f < i → i ≤ t → Conn h l Gs i t := by
  obtain ⟨m, h1, ⟨h2, h3⟩, h4⟩ := least_of (p := fun d => d ≤ t ∧ ¬ Conn h l Gs (t - d) t) t ⟨Nat.le_refl _, by rw [Nat.sub_self]; exact h0⟩
  refine ⟨t - m, by omega, h3, fun i hi hit => ?_⟩
  by_cases hc : Conn h l Gs i t
  · exact hc
  · exact absurd ⟨by omega, by rw [show t - (t - i) = i by omega]; exact hc⟩ (h4 (t - i) (by omega))
theorem blk_ex (hl : 0 < l.length) (h0 : ¬ Conn h l Gs 0 (l.length - 1)) : ∃ x : Nat × Nat, BlkAt h l Gs x.1 x.2 := by
  obtain ⟨t, h1, h2, h3⟩ := least_of (p := fun t => ¬ Conn h l Gs 0 t) (l.length - 1) h0
  obtain ⟨f, f1, f2, f3⟩ := back_ex h2
  exact ⟨(f, t), by show t < _; omega, f1, f2, fun j hj => Classical.byContradiction (h3 j hj), f3⟩
/-- There is something to play. -/
def AllC (h : Hand) (l : List Chord) (Gs : List (List Grip)) : Prop := 0 < l.length → Conn h l Gs 0 (l.length - 1)
open Classical in
/-- What Block answers, of a net. -/
noncomputable def blkU (h : Hand) (l : List Chord) (Gs : List (List Grip)) : Int × Int × Int :=
  if hx : ∃ x : Nat × Nat, BlkAt h l Gs x.1 x.2 then ((hx.choose.1 : Int), (hx.choose.2 : Int), 0) else (0, 0, 3)
theorem blkU_at {f t : Nat} (hb : BlkAt h l Gs f t) : blkU h l Gs = ((f : Int), (t : Int), 0) := by
  have hx : ∃ x : Nat × Nat, BlkAt h l Gs x.1 x.2 := ⟨(f, t), hb⟩
  obtain ⟨e1, e2⟩ := blk_uniq hb hx.choose_spec
  rw [blkU, dif_pos hx, ← e1, ← e2]
theorem blkU_no (ha : AllC h l Gs) : blkU h l Gs = (0, 0, 3) := by
  rw [blkU, dif_neg]
  rintro ⟨⟨f, t⟩, hb⟩
  have := hb.lt
  dsimp only at this
  exact hb.no (conn_mono (ha (by omega)) (by omega) (by dsimp only; omega))
theorem blk_not (ha : ¬ AllC h l Gs) : ∃ x : Nat × Nat, BlkAt h l Gs x.1 x.2 := by
  rw [AllC] at ha
  by_cases hl : 0 < l.length
  · exact blk_ex hl fun hc => ha fun _ => hc
  · exact absurd (fun h1 => absurd h1 hl) ha
end
/-- What Block answers. -/
noncomputable def blkR (h : Hand) (l : List Chord) : Int × Int × Int := if wvE h l = 0 then blkU h l (tabG h l) else (0, 0, wvE h l)

open Classical in
/-- The grips up to which the first chords can be played, as yes and no. -/
noncomputable def fwL (h : Hand) (l : List Chord) (Gs : List (List Grip)) (i : Nat) : List Bool := (List.range (Gs.getD i []).length).map fun m => decide (Fwd h l Gs 0 i m)
open Classical in
/-- Those from which the chord t is reached. -/
noncomputable def bwL (h : Hand) (l : List Chord) (Gs : List (List Grip)) (t i : Nat) : List Bool := (List.range (Gs.getD i []).length).map fun k => decide (Bwd h l Gs i t k)
theorem range_get {n k : Nat} {f : Nat → Bool} (hk : k < n) : ((List.range n).map f).getD k false = f k := by
  rw [List.getD_eq_getElem?_getD, List.getElem?_map, List.getElem?_range hk]; rfl
section
variable {h : Hand} {l : List Chord} {Gs : List (List Grip)}
theorem fwL_len (i : Nat) : (fwL h l Gs i).length = (Gs.getD i []).length := by simp [fwL]
theorem bwL_len (t i : Nat) : (bwL h l Gs t i).length = (Gs.getD i []).length := by simp [bwL]
open Classical in
theorem fwL_at {i k : Nat} (hk : k < (Gs.getD i []).length) : (fwL h l Gs i).getD k false = true ↔ Fwd h l Gs 0 i k := by
  rw [fwL, range_get hk, decide_eq_true_iff]
open Classical in
theorem bwL_at {t i k : Nat} (hk : k < (Gs.getD i []).length) : (bwL h l Gs t i).getD k false = true ↔ Bwd h l Gs i t k := by
  rw [bwL, range_get hk, decide_eq_true_iff]
theorem has_true {L : List Bool} : L.contains true = true ↔ ∃ k, k < L.length ∧ L.getD k false = true := by
  rw [List.contains_iff_mem]
  constructor
  · intro hm
    obtain ⟨k, hk, e⟩ := List.mem_iff_getElem.1 hm
    exact ⟨k, hk, by rw [List.getD_eq_getElem?_getD, List.getElem?_eq_getElem hk]; exact e⟩
  · rintro ⟨k, hk, e⟩
    rw [List.getD_eq_getElem?_getD, List.getElem?_eq_getElem hk] at e
    exact List.mem_iff_getElem.2 ⟨k, hk, e⟩
theorem fwL_has {i : Nat} : (fwL h l Gs i).contains true = true ↔ Conn h l Gs 0 i := by
  rw [has_true, conn_fwd (Nat.zero_le _), fwL_len]
  exact ⟨fun ⟨k, h1, h2⟩ => ⟨k, h1, (fwL_at h1).1 h2⟩, fun ⟨k, h1, h2⟩ => ⟨k, h1, (fwL_at h1).2 h2⟩⟩
theorem bwL_has {t i : Nat} (hit : i ≤ t) : (bwL h l Gs t i).contains true = true ↔ Conn h l Gs i t := by
  rw [has_true, conn_bwd hit, bwL_len]
  exact ⟨fun ⟨k, h1, h2⟩ => ⟨k, h1, (bwL_at h1).1 h2⟩, fun ⟨k, h1, h2⟩ => ⟨k, h1, (bwL_at h1).2 h2⟩⟩
end
end Go.Proofs.Ytojjdkoglhecbaa
namespace Go.Proofs.Ytojjdkoglhecbaa
open Go.RowKit
set_option maxRecDepth 100000

abbrev c_hand_Block_p1 : VC := (.seq (.ops 0 [oo 21 .mv [.t 6], oo 4 .mv [kk 0], oo 5 .mv [kk 0], oo 6 .mv [.t 21]]) .ret)
abbrev c_hand_Block_p2 : VC := (.ops 0 [oo 62 .mv [.t 9], oo 63 .mv [.t 10], oo 64 .mv [.t 7], oo 65 .mv [.t 5], oo 66 (.bin .sub) [.t 65, kk 1], oo 67 .mv [.t 11], oo 68 .mv [.t 10], oo 69 (.call 94) [.t 64, .t 66, .t 67, .t 68], oo 61 .mv [.t 69], oo 70 (.ext 0) [.t 61], oo 71 (.ext 1) [.t 61], oo 72 (.ixA 1) [.t 62, .t 63], ⟨none, none, (.st 1), [.t 72, .t 71], none⟩])
abbrev c_hand_Block_p3 : VC := (.seq (.seq (.ops 0 [oo 53 .mv [.t 12], oo 54 (.un .not) [.t 53], oo 55 .mv [.t 54], og 56 55 false .mv [.t 9], og 57 55 false .mv [.t 10], og 58 55 false (.ixA 1) [.t 56, .t 57], og 59 55 false .ld1 [.t 58], oo 60 .pick [.t 55, (.c (.lit (.bool true))), .t 59]]) (.cond (.t 60) (.exit 5) .skip)) c_hand_Block_p2)
abbrev c_hand_Block_p4 : VC := (.ops 0 [oo 73 (.bin .add) [.t 48, kk 1], oo 48 .mv [.t 73]])
abbrev c_hand_Block_p5 : VC := (.seq (.block 5 (.seq (.ops 0 [oo 50 .mv [.t 48], oo 51 (.ixA 1) [.t 46, .t 48], oo 52 .ld1 [.t 51], oo 11 .mv [.t 50], oo 12 .mv [.t 52]]) c_hand_Block_p3)) c_hand_Block_p4)
abbrev c_hand_Block_p6 : VC := (.seq (.ops 0 [oo 49 (.bin .lss) [.t 48, .t 47]]) (.seq (.cond (.t 49) .skip (.exit 4)) c_hand_Block_p5))
@[go_sem] abbrev w_hand_Block_p6 : Nat := 18889465650003604150272
abbrev c_hand_Block_p8 : VC := (.seq (.ops 0 [oo 46 .mv [.t 8], oo 47 .len [.t 46], oo 48 .mv [kk 0]]) (.block 4 (.loop c_hand_Block_p6)))
abbrev c_hand_Block_p9 : VC := (.seq (.ops 0 [oo 41 .mv [.t 9], oo 42 .mv [.t 10], oo 43 .mv [.t 5], oo 44 (.bin .eql) [.t 43, kk 0], oo 45 (.ixA 1) [.t 41, .t 42], ⟨none, none, (.st 1), [.t 45, .t 44], none⟩]) c_hand_Block_p8)
abbrev c_hand_Block_p10 : VC := (.ops 0 [oo 74 (.bin .add) [.t 38, kk 1], oo 38 .mv [.t 74]])
abbrev c_hand_Block_p11 : VC := (.seq (.block 3 (.seq (.ops 0 [oo 40 .mv [.t 38], oo 10 .mv [.t 40]]) c_hand_Block_p9)) c_hand_Block_p10)
abbrev c_hand_Block_p12 : VC := (.seq (.ops 0 [oo 39 (.bin .lss) [.t 38, .t 37]]) (.seq (.cond (.t 39) .skip (.exit 2)) c_hand_Block_p11))
@[go_sem] abbrev w_hand_Block_p12 : Nat := 37778931862682283809792
abbrev c_hand_Block_p14 : VC := (.seq (.ops 0 [oo 79 .mv [.t 7], oo 80 .mv [.t 5], oo 81 (.call 96) [.t 79, .t 80], oo 82 .mv [.t 5], oo 4 .mv [.t 81], oo 5 .mv [.t 82], oo 6 .mv [kk 0]]) .ret)
abbrev c_hand_Block_p15 : VC := (.seq (.ops 0 [oo 76 .mv [.t 8], oo 77 (.call 95) [.t 76, (.c (.lit (.bool true)))], oo 78 (.un .not) [.t 77]]) (.cond (.t 78) c_hand_Block_p14 .skip))
abbrev c_hand_Block_p16 : VC := (.seq (.ops 0 [oo 75 .mv [.t 9], oo 8 .mv [.t 75]]) c_hand_Block_p15)
abbrev c_hand_Block_p17 : VC := (.seq (.seq (.ops 0 [oo 36 .mv [.t 9], oo 37 .len [.t 36], oo 38 .mv [kk 0]]) (.block 2 (.loop c_hand_Block_p12))) c_hand_Block_p16)
abbrev c_hand_Block_p18 : VC := (.seq (.ops 10 [oo 27 .mv [.t 7], oo 28 .nilck [.t 27], oo 29 (.fldA 11) [.t 28], oo 30 .ld1 [.t 29], oo 31 .mv [.t 5], oo 32 (.ixA 1) [.t 30, .t 31], oo 33 .ld1 [.t 32], oo 34 .len [.t 33], oo 35 (.mk 4 1 1 [(.lit (.bool false))]) [.t 34, .t 34], oo 9 .mv [.t 35]]) c_hand_Block_p17)
abbrev c_hand_Block_p19 : VC := (.ops 0 [oo 83 (.bin .add) [.t 24, kk 1], oo 24 .mv [.t 83]])
abbrev c_hand_Block_p20 : VC := (.seq (.block 1 (.seq (.ops 0 [oo 26 .mv [.t 24], oo 5 .mv [.t 26]]) c_hand_Block_p18)) c_hand_Block_p19)
abbrev c_hand_Block_p21 : VC := (.seq (.ops 0 [oo 25 (.bin .lss) [.t 24, .t 23]]) (.seq (.cond (.t 25) .skip (.exit 0)) c_hand_Block_p20))
@[go_sem] abbrev w_hand_Block_p21 : Nat := 19342813113834066778529648
abbrev c_hand_Block_p23 : VC := (.seq (.ops 0 [oo 4 .mv [kk 0], oo 5 .mv [kk 0], oo 6 .mv [kk 3]]) .ret)
abbrev c_hand_Block_p24 : VC := (.seq (.seq (.ops 0 [oo 22 .mv [.t 1], oo 23 .len [.t 22], oo 24 .mv [kk 0]]) (.block 0 (.loop c_hand_Block_p21))) c_hand_Block_p23)
abbrev c_hand_Block_p25 : VC := (.seq (.ops 0 [oo 8 .mv [(.c (.sl 0 [] .exact))]]) c_hand_Block_p24)
abbrev c_hand_Block_p26 : VC := (.seq (.seq (.ops 0 [oo 19 .mv [.t 6], oo 20 (.bin .neq) [.t 19, kk 0]]) (.cond (.t 20) c_hand_Block_p1 .skip)) c_hand_Block_p25)
abbrev c_hand_Block_p27 : VC := (.seq (.ops 0 [oo 14 (.ldA 10) [.t 2], oo 15 .mv [.t 1], oo 16 (.call 69) [.t 14, .t 15], oo 13 .mv [.t 16], oo 17 (.ext 0) [.t 13], oo 18 (.ext 1) [.t 13], oo 7 .mv [.t 17], oo 6 .mv [.t 18]]) c_hand_Block_p26)
def c_hand_Block : VC := (.seq (.ops 4 [oo 2 (.box 25) [.t 0], oo 4 .mv [kk 0], oo 5 .mv [kk 0], oo 6 .mv [kk 0]]) c_hand_Block_p27)
theorem k_hand_Block : Comp Try.prog nobx gtab 60 84 c_hand_Block [.t 4, .t 5, .t 6] := ⟨⟨Try.f60, _, Try.func60, rfl, rfl, kr, kr⟩⟩
abbrev c_hand_net_back_b_p1 : VC := (.ops 0 [oo 56 .mv [.t 7], oo 57 .mv [.t 8], oo 58 .mv [.t 0], oo 59 .mv [.t 6], oo 60 .mv [.t 8], oo 61 .mv [.t 9], oo 62 (.call 94) [.t 58, .t 59, .t 60, .t 61], oo 55 .mv [.t 62], oo 63 (.ext 0) [.t 55], oo 64 (.ext 1) [.t 55], oo 65 (.ixA 1) [.t 56, .t 57], ⟨none, none, (.st 1), [.t 65, .t 64], none⟩])
abbrev c_hand_net_back_b_p2 : VC := (.seq (.ops 0 [oo 47 .mv [.t 10], oo 48 .mv [.t 47], og 49 48 true .mv [.t 7], og 50 48 true .mv [.t 8], og 51 48 true (.ixA 1) [.t 49, .t 50], og 52 48 true .ld1 [.t 51], og 53 48 true (.un .not) [.t 52], oo 54 .pick [.t 48, .t 53, (.c (.lit (.bool false)))]]) (.cond (.t 54) c_hand_net_back_b_p1 .skip))
abbrev c_hand_net_back_b_p3 : VC := (.ops 0 [oo 66 (.bin .add) [.t 42, kk 1], oo 42 .mv [.t 66]])
abbrev c_hand_net_back_b_p4 : VC := (.seq (.block 5 (.seq (.ops 0 [oo 44 .mv [.t 42], oo 45 (.ixA 1) [.t 40, .t 42], oo 46 .ld1 [.t 45], oo 9 .mv [.t 44], oo 10 .mv [.t 46]]) c_hand_net_back_b_p2)) c_hand_net_back_b_p3)
abbrev c_hand_net_back_b_p5 : VC := (.seq (.ops 0 [oo 43 (.bin .lss) [.t 42, .t 41]]) (.seq (.cond (.t 43) .skip (.exit 4)) c_hand_net_back_b_p4))
@[go_sem] abbrev w_hand_net_back_b_p5 : Nat := 147573948191629903360
abbrev c_hand_net_back_b_p7 : VC := (.seq (.ops 0 [oo 40 .mv [.t 5], oo 41 .len [.t 40], oo 42 .mv [kk 0]]) (.block 4 (.loop c_hand_net_back_b_p5)))
abbrev c_hand_net_back_b_p8 : VC := (.ops 0 [oo 67 (.bin .add) [.t 37, kk 1], oo 37 .mv [.t 67]])
abbrev c_hand_net_back_b_p9 : VC := (.seq (.block 3 (.seq (.ops 0 [oo 39 .mv [.t 37], oo 8 .mv [.t 39]]) c_hand_net_back_b_p7)) c_hand_net_back_b_p8)
abbrev c_hand_net_back_b_p10 : VC := (.seq (.ops 0 [oo 38 (.bin .lss) [.t 37, .t 36]]) (.seq (.cond (.t 38) .skip (.exit 2)) c_hand_net_back_b_p9))
@[go_sem] abbrev w_hand_net_back_b_p10 : Nat := 295147905041913874176
abbrev c_hand_net_back_b_p12 : VC := (.ops 0 [oo 68 .mv [.t 7], oo 5 .mv [.t 68]])
abbrev c_hand_net_back_b_p13 : VC := (.seq (.seq (.ops 0 [oo 35 .mv [.t 7], oo 36 .len [.t 35], oo 37 .mv [kk 0]]) (.block 2 (.loop c_hand_net_back_b_p10))) c_hand_net_back_b_p12)
abbrev c_hand_net_back_b_p14 : VC := (.seq (.ops 10 [oo 26 .mv [.t 0], oo 27 .nilck [.t 26], oo 28 (.fldA 11) [.t 27], oo 29 .ld1 [.t 28], oo 30 .mv [.t 6], oo 31 (.ixA 1) [.t 29, .t 30], oo 32 .ld1 [.t 31], oo 33 .len [.t 32], oo 34 (.mk 4 1 1 [(.lit (.bool false))]) [.t 33, .t 33], oo 7 .mv [.t 34]]) c_hand_net_back_b_p13)
abbrev c_hand_net_back_b_p15 : VC := (.block 1 (.seq (.ops 0 [oo 24 .mv [.t 6], oo 25 (.bin .sub) [.t 24, kk 1], oo 6 .mv [.t 25]]) c_hand_net_back_b_p14))
abbrev c_hand_net_back_b_p16 : VC := (.seq (.seq (.ops 0 [oo 22 .mv [.t 5], oo 23 (.call 95) [.t 22, (.c (.lit (.bool true)))]]) (.cond (.t 23) .skip (.exit 0))) c_hand_net_back_b_p15)
@[go_sem] abbrev w_hand_net_back_b_p16 : Nat := 590295810358701459424
abbrev c_hand_net_back_b_p18 : VC := (.seq (.ops 0 [oo 69 .mv [.t 6], oo 4 .mv [.t 69]]) .ret)
abbrev c_hand_net_back_b_p19 : VC := (.seq (.block 0 (.loop c_hand_net_back_b_p16)) c_hand_net_back_b_p18)
abbrev c_hand_net_back_b_p20 : VC := (.seq (.ops 0 [oo 21 .mv [.t 1], oo 6 .mv [.t 21]]) c_hand_net_back_b_p19)
abbrev c_hand_net_back_b_p21 : VC := (.seq (.ops 11 [oo 11 (.mksl 1 1 [(.lit (.bool false))] [(0, 1)]) [(.c (.lit (.bool true)))], oo 12 .mv [.t 0], oo 13 .nilck [.t 12], oo 14 (.fldA 11) [.t 13], oo 15 .ld1 [.t 14], oo 16 .mv [.t 1], oo 17 (.ixA 1) [.t 15, .t 16], oo 18 .ld1 [.t 17], oo 19 .len [.t 18], oo 20 (.callB 127) [.t 11, .t 19], oo 5 .mv [.t 20]]) c_hand_net_back_b_p20)
def c_hand_net_back_b : VC := (.seq (.ops 0 [oo 4 .mv [kk 0]]) c_hand_net_back_b_p21)
theorem k_hand_net_back_b : Comp Try.prog (fun n => [20].contains n) gtab 96 70 c_hand_net_back_b [.t 4] := ⟨⟨Try.f96, _, Try.func96, rfl, rfl, kr, kr⟩⟩
abbrev c_theorboref06_has_p1 : VC := (.ops 0 [oo 38 .mv [.t 12], oo 39 (.bin .add) [.t 38, kk 1], oo 12 .mv [.t 39]])
abbrev c_theorboref06_has_p2 : VC := (.seq (.block 5 (.ops 0 [od 41 (.ldA 10) [.t 3] [], oo 42 .mv [.t 1], oo 43 .mv [.t 8], oo 44 (.bin .sub) [.t 43, kk 1], oo 45 (.ixA 3) [.t 42, .t 44], od 46 (.ldA 3) [.t 45] [1, 2, 3, 4], oo 47 .mv [.t 7], oo 48 .mv [.t 12], oo 49 (.ixA 2) [.t 47, .t 48], od 50 (.ldA 2) [.t 49] [6, 7, 8], oo 51 .mv [.t 1], oo 52 .mv [.t 8], oo 53 (.ixA 3) [.t 51, .t 52], od 54 (.ldA 3) [.t 53] [10, 11, 12], oo 55 .mv [.t 2], oo 56 .mv [.t 8], oo 57 (.ixA 1) [.t 55, .t 56], od 58 .ld1 [.t 57] [14, 15, 16], oo 59 .mv [.t 10], oo 60 (.ixA 2) [.t 58, .t 59], od 61 (.ldA 2) [.t 60] [14, 15, 16, 17, 18, 19], oo 62 (.call 84) [.t 41, .t 46, .t 50, .t 54, .t 61], oo 40 .mv [.t 62], oo 63 (.ext 0) [.t 40], oo 64 (.ext 1) [.t 40], oo 11 .mv [.t 64]])) c_theorboref06_has_p1)
abbrev c_theorboref06_has_p3 : VC := (.seq (.seq (.ops 0 [oo 30 .mv [.t 12], oo 31 .mv [.t 7], oo 32 .len [.t 31], oo 33 (.bin .lss) [.t 30, .t 32], oo 34 .mv [.t 33], og 35 34 true .mv [.t 11], og 36 34 true (.un .not) [.t 35], oo 37 .pick [.t 34, .t 36, (.c (.lit (.bool false)))]]) (.cond (.t 37) .skip (.exit 4))) c_theorboref06_has_p2)
@[go_sem] abbrev w_theorboref06_has_p3 : Nat := 36893488146345367552
abbrev c_theorboref06_has_p5 : VC := (.ops 11 [oo 66 .mv [.t 9], oo 67 .mv [.t 2], oo 68 .mv [.t 8], oo 69 (.ixA 1) [.t 67, .t 68], oo 70 .ld1 [.t 69], oo 71 .mv [.t 10], oo 72 (.ixA 2) [.t 70, .t 71], oo 73 (.ldA 2) [.t 72], ⟨(some 74), none, (.mksl 1 2 [li 0, (.sl 0 [] .exact)] [(0, 2)]), [.t 73], none⟩, oo 75 (.app 53 2 32) [.t 66, .t 74], oo 9 .mv [.t 75]])
abbrev c_theorboref06_has_p6 : VC := (.seq (.ops 0 [oo 65 .mv [.t 11]]) (.cond (.t 65) c_theorboref06_has_p5 .skip))
def c_theorboref06_has_p7 : VC := (.seq (.seq (.ops 0 [oo 12 .mv [kk 0]]) (.block 4 (.loop c_theorboref06_has_p3))) c_theorboref06_has_p6)
abbrev c_theorboref06_has_p8 : VC := (.ops 0 [oo 26 .mv [.t 10], oo 27 (.bin .add) [.t 26, kk 1], oo 10 .mv [.t 27]])
abbrev c_theorboref06_has_p9 : VC := (.seq (.block 3 (.seq (.ops 0 [oo 28 .mv [.t 8], oo 29 (.bin .eql) [.t 28, kk 0], oo 11 .mv [.t 29]]) c_theorboref06_has_p7)) c_theorboref06_has_p8)
abbrev c_theorboref06_has_p10 : VC := (.seq (.seq (.ops 0 [oo 19 .mv [.t 10], oo 20 .mv [.t 2], oo 21 .mv [.t 8], oo 22 (.ixA 1) [.t 20, .t 21], oo 23 .ld1 [.t 22], oo 24 .len [.t 23], oo 25 (.bin .lss) [.t 19, .t 24]]) (.cond (.t 25) .skip (.exit 2))) c_theorboref06_has_p9)
@[go_sem] abbrev w_theorboref06_has_p10 : Nat := 75557863725914322902528
abbrev c_theorboref06_has_p12 : VC := (.seq (.ops 0 [oo 6 .mv [(.c (.lit (.bool false)))]]) .ret)
abbrev c_theorboref06_has_p13 : VC := (.ops 0 [oo 79 .mv [.t 9], oo 7 .mv [.t 79]])
abbrev c_theorboref06_has_p14 : VC := (.seq (.seq (.ops 0 [oo 76 .mv [.t 9], oo 77 .len [.t 76], oo 78 (.bin .eql) [.t 77, kk 0]]) (.cond (.t 78) c_theorboref06_has_p12 .skip)) c_theorboref06_has_p13)
abbrev c_theorboref06_has_p15 : VC := (.seq (.seq (.ops 0 [oo 10 .mv [kk 0]]) (.block 2 (.loop c_theorboref06_has_p10))) c_theorboref06_has_p14)
abbrev c_theorboref06_has_p16 : VC := (.ops 0 [oo 17 .mv [.t 8], oo 18 (.bin .add) [.t 17, kk 1], oo 8 .mv [.t 18]])
abbrev c_theorboref06_has_p17 : VC := (.seq (.block 1 (.seq (.ops 0 [oo 9 .mv [(.c (.sl 0 [] .exact))]]) c_theorboref06_has_p15)) c_theorboref06_has_p16)
abbrev c_theorboref06_has_p18 : VC := (.seq (.seq (.ops 0 [oo 13 .mv [.t 8], oo 14 .mv [.t 1], oo 15 .len [.t 14], oo 16 (.bin .lss) [.t 13, .t 15]]) (.cond (.t 16) .skip (.exit 0))) c_theorboref06_has_p17)
@[go_sem] abbrev w_theorboref06_has_p18 : Nat := 1208925819614629174706112
abbrev c_theorboref06_has_p20 : VC := (.seq (.ops 0 [oo 6 .mv [(.c (.lit (.bool true)))]]) .ret)
abbrev c_theorboref06_has_p21 : VC := (.seq (.seq (.ops 0 [oo 8 .mv [kk 0]]) (.block 0 (.loop c_theorboref06_has_p18))) c_theorboref06_has_p20)
abbrev c_theorboref06_has_p22 : VC := (.seq (.ops 0 [oo 7 .mv [(.c (.sl 0 [] .exact))]]) c_theorboref06_has_p21)
def c_theorboref06_has : VC := (.seq (.ops 2 [oo 3 (.box 25) [.t 0], oo 6 .mv [(.c (.lit (.bool false)))]]) c_theorboref06_has_p22)
theorem k_theorboref06_has : Comp Try.prog nobx gtab 97 80 c_theorboref06_has [.t 6] := ⟨⟨Try.f97, _, Try.func97, rfl, rfl, kr, kr⟩⟩
abbrev c_theorboref06_Block_p1 : VC := (.seq (.ops 0 [oo 19 .mv [.t 8], oo 4 .mv [kk 0], oo 5 .mv [kk 0], oo 6 .mv [.t 19]]) .ret)
abbrev c_theorboref06_Block_p2 : VC := (.seq (.ops 0 [oo 4 .mv [kk 0], oo 5 .mv [kk 0], oo 6 .mv [kk 3]]) .ret)
abbrev c_theorboref06_Block_p3 : VC := (.block 1 (.ops 0 [oo 34 .mv [.t 9], oo 35 (.bin .add) [.t 34, kk 1], oo 9 .mv [.t 35]]))
abbrev c_theorboref06_Block_p4 : VC := (.seq (.seq (.ops 0 [oo 24 (.ldA 10) [.t 2], oo 25 .mv [.t 1], oo 26 .mv [.t 9], oo 27 (.bin .add) [.t 26, kk 1], oo 28 (.slc 3 false true) [.t 25, .t 27], oo 29 .mv [.t 7], oo 30 .mv [.t 9], oo 31 (.bin .add) [.t 30, kk 1], oo 32 (.slc 1 false true) [.t 29, .t 31], oo 33 (.call 97) [.t 24, .t 28, .t 32]]) (.cond (.t 33) .skip (.exit 0))) c_theorboref06_Block_p3)
@[go_sem] abbrev w_theorboref06_Block_p4 : Nat := 68702700032
abbrev c_theorboref06_Block_p6 : VC := (.block 3 (.ops 0 [oo 49 .mv [.t 10], oo 50 (.bin .sub) [.t 49, kk 1], oo 10 .mv [.t 50]]))
abbrev c_theorboref06_Block_p7 : VC := (.seq (.seq (.ops 0 [oo 37 (.ldA 10) [.t 2], oo 38 .mv [.t 1], oo 39 .mv [.t 10], oo 40 .mv [.t 9], oo 41 (.bin .add) [.t 40, kk 1], oo 42 (.slc 3 true true) [.t 38, .t 39, .t 41], oo 43 .mv [.t 7], oo 44 .mv [.t 10], oo 45 .mv [.t 9], oo 46 (.bin .add) [.t 45, kk 1], oo 47 (.slc 1 true true) [.t 43, .t 44, .t 46], oo 48 (.call 97) [.t 37, .t 42, .t 47]]) (.cond (.t 48) .skip (.exit 2))) c_theorboref06_Block_p6)
@[go_sem] abbrev w_theorboref06_Block_p7 : Nat := 2251662374732800
abbrev c_theorboref06_Block_p9 : VC := (.seq (.ops 0 [oo 51 .mv [.t 10], oo 52 .mv [.t 9], oo 4 .mv [.t 51], oo 5 .mv [.t 52], oo 6 .mv [kk 0]]) .ret)
abbrev c_theorboref06_Block_p10 : VC := (.seq (.block 2 (.loop c_theorboref06_Block_p7)) c_theorboref06_Block_p9)
abbrev c_theorboref06_Block_p11 : VC := (.seq (.ops 0 [oo 36 .mv [.t 9], oo 10 .mv [.t 36]]) c_theorboref06_Block_p10)
abbrev c_theorboref06_Block_p12 : VC := (.seq (.block 0 (.loop c_theorboref06_Block_p4)) c_theorboref06_Block_p11)
abbrev c_theorboref06_Block_p13 : VC := (.seq (.ops 0 [oo 9 .mv [kk 0]]) c_theorboref06_Block_p12)
abbrev c_theorboref06_Block_p14 : VC := (.seq (.seq (.ops 0 [oo 20 (.ldA 10) [.t 2], oo 21 .mv [.t 1], oo 22 .mv [.t 7], oo 23 (.call 97) [.t 20, .t 21, .t 22]]) (.cond (.t 23) c_theorboref06_Block_p2 .skip)) c_theorboref06_Block_p13)
abbrev c_theorboref06_Block_p15 : VC := (.seq (.seq (.ops 0 [oo 17 .mv [.t 8], oo 18 (.bin .neq) [.t 17, kk 0]]) (.cond (.t 18) c_theorboref06_Block_p1 .skip)) c_theorboref06_Block_p14)
abbrev c_theorboref06_Block_p16 : VC := (.seq (.ops 0 [oo 12 (.ldA 10) [.t 2], oo 13 .mv [.t 1], oo 14 (.call 76) [.t 12, .t 13], oo 11 .mv [.t 14], oo 15 (.ext 0) [.t 11], oo 16 (.ext 1) [.t 11], oo 7 .mv [.t 15], oo 8 .mv [.t 16]]) c_theorboref06_Block_p15)
def c_theorboref06_Block : VC := (.seq (.ops 4 [oo 2 (.box 25) [.t 0], oo 4 .mv [kk 0], oo 5 .mv [kk 0], oo 6 .mv [kk 0]]) c_theorboref06_Block_p16)
theorem k_theorboref06_Block : Comp Try.prog nobx gtab 61 53 c_theorboref06_Block [.t 4, .t 5, .t 6] := ⟨⟨Try.f61, _, Try.func61, rfl, rfl, kr, kr⟩⟩
abbrev c_theorbolaw06_HandBlocks_p1 : VC := (.seq (.ops 0 [oo 18 (.call 28) [], oo 2 .mv [.t 18]]) .ret)
abbrev c_theorbolaw06_HandBlocks_p2 : VC := (.seq (.ops 0 [oo 33 .mv [.t 5], oo 34 .mv [.t 8], oo 35 (.bin .eql) [.t 33, .t 34], oo 36 .mv [.t 35], og 37 36 true .mv [.t 6], og 38 36 true .mv [.t 9], og 39 36 true (.bin .eql) [.t 37, .t 38], oo 40 .pick [.t 36, .t 39, (.c (.lit (.bool false)))], oo 41 .mv [.t 40], og 42 41 true .mv [.t 7], og 43 41 true .mv [.t 10], og 44 41 true (.bin .eql) [.t 42, .t 43], oo 45 .pick [.t 41, .t 44, (.c (.lit (.bool false)))], oo 46 .mv [.t 45], og 47 46 true (.call 28) [], oo 48 .pick [.t 46, .t 47, (.c (.lit (.bool false)))], oo 2 .mv [.t 48]]) .ret)
abbrev c_theorbolaw06_HandBlocks_p3 : VC := (.seq (.ops 0 [oo 27 (.ldA 10) [.t 3], oo 28 .mv [.t 4], oo 29 (.call 61) [.t 27, .t 28], oo 26 .mv [.t 29], oo 30 (.ext 0) [.t 26], oo 31 (.ext 1) [.t 26], oo 32 (.ext 2) [.t 26], oo 8 .mv [.t 30], oo 9 .mv [.t 31], oo 10 .mv [.t 32]]) c_theorbolaw06_HandBlocks_p2)
abbrev c_theorbolaw06_HandBlocks_p4 : VC := (.seq (.ops 0 [oo 20 (.ldA 10) [.t 3], oo 21 .mv [.t 4], oo 22 (.call 60) [.t 20, .t 21], oo 19 .mv [.t 22], oo 23 (.ext 0) [.t 19], oo 24 (.ext 1) [.t 19], oo 25 (.ext 2) [.t 19], oo 5 .mv [.t 23], oo 6 .mv [.t 24], oo 7 .mv [.t 25]]) c_theorbolaw06_HandBlocks_p3)
abbrev c_theorbolaw06_HandBlocks_p5 : VC := (.seq (.seq (.ops 0 [oo 15 (.ldA 10) [.t 3], oo 16 .mv [.t 4], oo 17 (.call 29) [.t 15, .t 16]]) (.cond (.t 17) c_theorbolaw06_HandBlocks_p1 .skip)) c_theorbolaw06_HandBlocks_p4)
abbrev c_theorbolaw06_HandBlocks_p6 : VC := (.seq (.ops 7 [oo 11 (.fldA 0) [.t 1], od 12 (.ldA 10) [.t 11] [0], oo 13 (.fldA 10) [.t 1], od 14 .ld1 [.t 13] [2], ⟨(some 3), none, (.alloc 25 [(.sl 0 [] .exact), (.sl 0 [] .exact), (.sl 0 [] .exact), li 0, li 0, li 0, li 0, li 0, li 0, li 0]), [], (some [])⟩, ⟨none, none, (.st 10), [.t 3, .t 12], (some [4])⟩, oo 4 .mv [.t 14]]) c_theorbolaw06_HandBlocks_p5)
def c_theorbolaw06_HandBlocks : VC := (.seq (.ops 2 [oo 1 (.box 35) [.t 0], oo 2 .mv [(.c (.lit (.bool false)))]]) c_theorbolaw06_HandBlocks_p6)
theorem k_theorbolaw06_HandBlocks : Comp Try.prog nobx gtab 18 49 c_theorbolaw06_HandBlocks [.t 2] := ⟨⟨Try.f18, _, Try.func18, rfl, rfl, kr, kr⟩⟩
abbrev c_slices_Contains_bool_bool_p1 : VC := (.seq (.ops 0 [oo 5 .mv [.t 0], oo 6 .mv [.t 1], oo 7 (.call 126) [.t 5, .t 6], oo 8 (.bin .geq) [.t 7, kk 0], oo 4 .mv [.t 8]]) .ret)
def c_slices_Contains_bool_bool : VC := (.seq (.ops 0 [oo 4 .mv [(.c (.lit (.bool false)))]]) c_slices_Contains_bool_bool_p1)
theorem k_slices_Contains_bool_bool : Comp Try.prog nobx gtab 95 9 c_slices_Contains_bool_bool [.t 4] := ⟨⟨Try.f95, _, Try.func95, rfl, rfl, kr, kr⟩⟩
abbrev c_slices_Index_bool_bool_p1 : VC := (.seq (.ops 0 [oo 17 .mv [.t 5], oo 4 .mv [.t 17]]) .ret)
abbrev c_slices_Index_bool_bool_p2 : VC := (.seq (.ops 0 [oo 11 .mv [.t 1], oo 12 .mv [.t 0], oo 13 .mv [.t 5], oo 14 (.ixA 1) [.t 12, .t 13], oo 15 .ld1 [.t 14], oo 16 (.eqB false) [.t 11, .t 15]]) (.cond (.t 16) c_slices_Index_bool_bool_p1 .skip))
abbrev c_slices_Index_bool_bool_p3 : VC := (.ops 0 [oo 18 (.bin .add) [.t 8, kk 1], oo 8 .mv [.t 18]])
abbrev c_slices_Index_bool_bool_p4 : VC := (.seq (.block 1 (.seq (.ops 0 [oo 10 .mv [.t 8], oo 5 .mv [.t 10]]) c_slices_Index_bool_bool_p2)) c_slices_Index_bool_bool_p3)
abbrev c_slices_Index_bool_bool_p5 : VC := (.seq (.cond (.t 9) .skip (.exit 0)) c_slices_Index_bool_bool_p4)
abbrev c_slices_Index_bool_bool_p6 : VC := (.seq (.ops 0 [oo 9 (.bin .lss) [.t 8, .t 7]]) c_slices_Index_bool_bool_p5)
@[go_sem] abbrev w_slices_Index_bool_bool_p6 : Nat := 524080
abbrev c_slices_Index_bool_bool_p8 : VC := (.seq (.ops 0 [oo 4 .mv [kk (-1)]]) .ret)
abbrev c_slices_Index_bool_bool_p9 : VC := (.seq (.seq (.ops 0 [oo 6 .mv [.t 0], oo 7 .len [.t 6], oo 8 .mv [kk 0]]) (.block 0 (.loop c_slices_Index_bool_bool_p6))) c_slices_Index_bool_bool_p8)
def c_slices_Index_bool_bool : VC := (.seq (.ops 0 [oo 4 .mv [kk 0]]) c_slices_Index_bool_bool_p9)
theorem k_slices_Index_bool_bool : Comp Try.prog nobx gtab 126 19 c_slices_Index_bool_bool [.t 4] := ⟨⟨Try.f126, _, Try.func126, rfl, rfl, kr, kr⟩⟩
abbrev c_theorbolaw06_HandBlocked_p1 : VC := (.seq (.ops 0 [oo 23 (.call 28) [], oo 2 .mv [.t 23]]) .ret)
abbrev c_theorbolaw06_HandBlocked_p2 : VC := (.seq (.ops 0 [oo 39 .mv [.t 9], oo 40 (.bin .eql) [.t 39, kk 0], oo 41 .mv [.t 40], og 42 41 true (.call 28) [], oo 43 .pick [.t 41, .t 42, (.c (.lit (.bool false)))], oo 2 .mv [.t 43]]) .ret)
abbrev c_theorbolaw06_HandBlocked_p3 : VC := (.seq (.ops 9 [oo 34 (.ldA 10) [.t 3], oo 35 .mv [.t 4], oo 36 (.call 31) [.t 34, .t 35], oo 33 .mv [.t 36], oo 37 (.ext 0) [.t 33], oo 38 (.ext 1) [.t 33], ⟨(some 8), none, (.alloc 40 [(.sl 0 [] .exact), li 0]), [], none⟩, ⟨none, none, (.st 2), [.t 8, .t 37], none⟩, oo 9 .mv [.t 38]]) c_theorbolaw06_HandBlocked_p2)
abbrev c_theorbolaw06_HandBlocked_p4 : VC := (.seq (.ops 0 [oo 46 (.call 28) [], oo 2 .mv [.t 46]]) .ret)
abbrev c_theorbolaw06_HandBlocked_p5 : VC := (.seq (.ops 0 [oo 2 .mv [(.c (.lit (.bool false)))]]) .ret)
abbrev c_theorbolaw06_HandBlocked_p6 : VC := (.seq (.ops 0 [oo 90 .mv [.t 11], oo 91 (.bin .eql) [.t 90, kk 62], oo 92 .mv [.t 91], og 93 92 true .mv [.t 13], og 94 92 true (.bin .eql) [.t 93, kk 0], oo 95 .pick [.t 92, .t 94, (.c (.lit (.bool false)))], oo 96 .mv [.t 95], og 97 96 true .mv [.t 15], og 98 96 true (.bin .eql) [.t 97, kk 0], oo 99 .pick [.t 96, .t 98, (.c (.lit (.bool false)))], oo 100 .mv [.t 99], og 101 100 true (.call 28) [], oo 102 .pick [.t 100, .t 101, (.c (.lit (.bool false)))], oo 2 .mv [.t 102]]) .ret)
abbrev c_theorbolaw06_HandBlocked_p7 : VC := (.seq (.ops 12 [od 82 (.ldA 10) [.t 3] [], oo 83 .mv [.t 4], oo 84 .mv [.t 5], oo 85 .mv [.t 6], oo 86 (.slc 3 true true) [.t 83, .t 84, .t 85], od 87 (.call 31) [.t 82, .t 86] [0, 1, 2, 3, 4], oo 81 .mv [.t 87], oo 88 (.ext 0) [.t 81], oo 89 (.ext 1) [.t 81], ⟨(some 14), none, (.alloc 40 [(.sl 0 [] .exact), li 0]), [], (some [])⟩, ⟨none, none, (.st 2), [.t 14, .t 88], none⟩, oo 15 .mv [.t 89]]) c_theorbolaw06_HandBlocked_p6)
abbrev c_theorbolaw06_HandBlocked_p8 : VC := (.seq (.ops 14 [od 71 (.ldA 10) [.t 3] [], oo 72 .mv [.t 4], oo 73 .mv [.t 5], oo 74 (.bin .add) [.t 73, kk 1], oo 75 .mv [.t 6], oo 76 (.bin .add) [.t 75, kk 1], oo 77 (.slc 3 true true) [.t 72, .t 74, .t 76], od 78 (.call 31) [.t 71, .t 77] [0, 1, 2, 3, 4, 5, 6], oo 70 .mv [.t 78], oo 79 (.ext 0) [.t 70], oo 80 (.ext 1) [.t 70], ⟨(some 12), none, (.alloc 40 [(.sl 0 [] .exact), li 0]), [], (some [])⟩, ⟨none, none, (.st 2), [.t 12, .t 79], none⟩, oo 13 .mv [.t 80]]) c_theorbolaw06_HandBlocked_p7)
abbrev c_theorbolaw06_HandBlocked_p9 : VC := (.seq (.ops 13 [od 61 (.ldA 10) [.t 3] [], oo 62 .mv [.t 4], oo 63 .mv [.t 5], oo 64 .mv [.t 6], oo 65 (.bin .add) [.t 64, kk 1], oo 66 (.slc 3 true true) [.t 62, .t 63, .t 65], od 67 (.call 31) [.t 61, .t 66] [0, 1, 2, 3, 4, 5], oo 60 .mv [.t 67], oo 68 (.ext 0) [.t 60], oo 69 (.ext 1) [.t 60], ⟨(some 10), none, (.alloc 40 [(.sl 0 [] .exact), li 0]), [], (some [])⟩, ⟨none, none, (.st 2), [.t 10, .t 68], none⟩, oo 11 .mv [.t 69]]) c_theorbolaw06_HandBlocked_p8)
abbrev c_theorbolaw06_HandBlocked_p10 : VC := (.seq (.seq (.ops 0 [oo 47 .mv [.t 5], oo 48 (.bin .lss) [.t 47, kk 0], oo 49 .mv [.t 48], og 50 49 false .mv [.t 5], og 51 49 false .mv [.t 6], og 52 49 false (.bin .gtr) [.t 50, .t 51], oo 53 .pick [.t 49, (.c (.lit (.bool true))), .t 52], oo 54 .mv [.t 53], og 55 54 false .mv [.t 6], og 56 54 false .mv [.t 4], og 57 54 false .len [.t 56], og 58 54 false (.bin .geq) [.t 55, .t 57], oo 59 .pick [.t 54, (.c (.lit (.bool true))), .t 58]]) (.cond (.t 59) c_theorbolaw06_HandBlocked_p5 .skip)) c_theorbolaw06_HandBlocked_p9)
abbrev c_theorbolaw06_HandBlocked_p11 : VC := (.seq (.seq (.ops 0 [oo 44 .mv [.t 7], oo 45 (.bin .neq) [.t 44, kk 0]]) (.cond (.t 45) c_theorbolaw06_HandBlocked_p4 .skip)) c_theorbolaw06_HandBlocked_p10)
abbrev c_theorbolaw06_HandBlocked_p12 : VC := (.seq (.seq (.ops 0 [oo 31 .mv [.t 7], oo 32 (.bin .eql) [.t 31, kk 3]]) (.cond (.t 32) c_theorbolaw06_HandBlocked_p3 .skip)) c_theorbolaw06_HandBlocked_p11)
abbrev c_theorbolaw06_HandBlocked_p13 : VC := (.seq (.ops 0 [oo 25 (.ldA 10) [.t 3], oo 26 .mv [.t 4], oo 27 (.call 60) [.t 25, .t 26], oo 24 .mv [.t 27], oo 28 (.ext 0) [.t 24], oo 29 (.ext 1) [.t 24], oo 30 (.ext 2) [.t 24], oo 5 .mv [.t 28], oo 6 .mv [.t 29], oo 7 .mv [.t 30]]) c_theorbolaw06_HandBlocked_p12)
abbrev c_theorbolaw06_HandBlocked_p14 : VC := (.seq (.seq (.ops 0 [oo 20 (.ldA 10) [.t 3], oo 21 .mv [.t 4], oo 22 (.call 29) [.t 20, .t 21]]) (.cond (.t 22) c_theorbolaw06_HandBlocked_p1 .skip)) c_theorbolaw06_HandBlocked_p13)
abbrev c_theorbolaw06_HandBlocked_p15 : VC := (.seq (.ops 7 [oo 16 (.fldA 0) [.t 1], od 17 (.ldA 10) [.t 16] [0], oo 18 (.fldA 10) [.t 1], od 19 .ld1 [.t 18] [2], ⟨(some 3), none, (.alloc 25 [(.sl 0 [] .exact), (.sl 0 [] .exact), (.sl 0 [] .exact), li 0, li 0, li 0, li 0, li 0, li 0, li 0]), [], (some [])⟩, ⟨none, none, (.st 10), [.t 3, .t 17], (some [4])⟩, oo 4 .mv [.t 19]]) c_theorbolaw06_HandBlocked_p14)
def c_theorbolaw06_HandBlocked : VC := (.seq (.ops 2 [oo 1 (.box 35) [.t 0], oo 2 .mv [(.c (.lit (.bool false)))]]) c_theorbolaw06_HandBlocked_p15)
theorem k_theorbolaw06_HandBlocked : Comp Try.prog nobx gtab 19 103 c_theorbolaw06_HandBlocked [.t 2] := ⟨⟨Try.f19, _, Try.func19, rfl, rfl, kr, kr⟩⟩
end Go.Proofs.Ytojjdkoglhecbaa
namespace Go.Proofs.Ytojjdkoglhecbaa
open Go.RowKit

theorem indexB_fn (l : List Bool) (v : Bool) (hl : l.length ≤ 4611686018427387904) : Fn Try.prog Gd 126 [tBs l, vbool v] (vint (gIx (fun y => v == y) l)) := by
  refine Fn.of_vx0 k_slices_Index_bool_bool (by simp) (by rw [V.pures, pure_tBs]; rfl) ?_
  unfold c_slices_Index_bool_bool
  repeat' (with_reducible first | refine x_ops ?_ | refine wk ?_ | ((first | refine gd1 ?_ ?_ | refine gd2 ?_ ?_ | refine gd3 ?_ ?_) <;> (first | exact @False.elim _ | intro hc)))
  refine x_loopF w_slices_Index_bool_bool_p6 (by kernel_rfl) l.length (fun k t => t 8 = vint (k : Int) ∧ ∀ i, i < k → (v == l.getD i false) = false) ?_ ?_
  · exact ⟨vv, fun i h => by omega⟩
  rintro k t hk ⟨h8, hI⟩
  by_cases hlt : k < l.length
  · have g1 := bools_at hlt
    have c2 : (k : Int) < (l.length : Int) := by omega
    have w2 := w_add1 (k := k) (by omega)
    have eqk : (v == l.getD k false) = (v == l.getD k false) := rfl
    generalize hd : (v == l.getD k false) = d at eqk
    replace hI := Hid.mk hI
    have hd0 := Hid.mk hd
    cases d
    · repeat' (with_reducible first | refine x_ops ?_ | refine wk ?_ | ((first | refine gd1 ?_ ?_ | refine gd2 ?_ ?_ | refine gd3 ?_ ?_) <;> (first | exact @False.elim _ | intro hc)))
      refine nf (by omega) ⟨vv, fun i h => ?_⟩ rfl
      by_cases hi : i = k
      · subst hi; exact hd0.out
      · exact hI.out i (by omega)
    · repeat' (with_reducible first | refine x_ops ?_ | refine wk ?_ | ((first | refine gd1 ?_ ?_ | refine gd2 ?_ ?_ | refine gd3 ?_ ?_) <;> (first | exact @False.elim _ | intro hc)))
      refine finV_lit vv ?_
      rw [gIx, gI_eq (p := fun y => v == y) (d := false) hI.out hlt hd0.out, if_pos hlt]
  · have c1 : ¬ ((k : Int) < (l.length : Int)) := by omega
    repeat' (with_reducible first | refine x_ops ?_ | refine wk ?_ | ((first | refine gd1 ?_ ?_ | refine gd2 ?_ ?_ | refine gd3 ?_ ?_) <;> (first | exact @False.elim _ | intro hc)))
    refine finV_lit vv ?_
    have hI := fun i (h : i < l.length) => hI i (by omega)
    rw [gIx, gI_none (p := fun y => v == y) (d := false) hI, if_neg (by omega)]
theorem contB_fn (l : List Bool) (hl : l.length ≤ 4611686018427387904) : Fn Try.prog Gd 95 [tBs l, vbool true] (vbool (l.contains true)) := by
  refine Fn.of_vx0 k_slices_Contains_bool_bool (by simp) (by rw [V.pures, pure_tBs]; rfl) ?_
  have h1 := indexB_fn l true hl
  have h2 := gIx_ge (p := fun y => true == y) (l := l)
  have h3 : decide (gI (fun y => true == y) l < l.length) = l.contains true := by
    rw [Bool.eq_iff_iff, decide_eq_true_iff, gI_lt false, has_true]
    constructor
    · rintro ⟨j, h1, h2⟩; exact ⟨j, h1, by simpa using h2⟩
    · rintro ⟨j, h1, h2⟩; exact ⟨j, h1, by simpa using h2⟩
  rw [h3] at h2
  generalize gIx (fun y => true == y) l = gx at h1 h2
  clear h3
  unfold c_slices_Contains_bool_bool
  repeat' (with_reducible first | refine x_ops ?_ | refine wk ?_ | (with_reducible refine xc (h1) ?_) | ((first | refine gd1 ?_ ?_ | refine gd2 ?_ ?_ | refine gd3 ?_ ?_) <;> (first | exact @False.elim _ | intro hc)))
  exact finV_lit vv rfl

theorem contN_fn {L : List Bool} {n : Nat} (hL : L.length = n) (hn : n ≤ 200) : Fn Try.prog Gd 95 [.sl n (L.map vbool) .no, .lit (.bool true)] (vbool (L.contains true)) := by
  subst hL; exact contB_fn L (by omega)
/-- Repeat of one yes. -/
def RepB : Prop := ∀ n : Nat, n ≤ 200 → BFn Try.prog Gd 127 [.sl 1 [vbool true] .no, vint (n : Int)] n (List.replicate n (vbool true)) 4
/-- A box of yes and no is lent. -/
theorem lendB {M : Mm} {q n : Nat} {L : List Bool} (ho : M.obj q = some (.box (L.map vbool) 4)) : Vws M allS [.bsl q 0 n n, .lit (.bool true)] [.sl n (L.map vbool) .no, .lit (.bool true)] := by
  refine .cons (.bsl (us := L.map vbool) rfl ho (Vws.of_pure (fun v hv => ?_) rfl) ?_) (.cons (.lit _) .nil)
  · obtain ⟨b, _, rfl⟩ := List.mem_map.1 hv; exact .lit _
  · rw [List.all_eq_true]; intro v hv; obtain ⟨b, _, rfl⟩ := List.mem_map.1 hv; rfl
theorem setB {L : List Bool} {m : Nat} (hm : m < L.length) (c : Bool) : (L.map vbool).take m ++ [V.lit (.bool c)] ++ (L.map vbool).drop (m + 1) = (L.set m c).map vbool := by
  rw [List.map_set, set_eq (by rw [List.length_map]; exact hm), List.append_assoc]; rfl
theorem setB2 {L : List Bool} {m : Nat} (hm : m < L.length) (b c : Bool) : ((L.set m b).map vbool).take m ++ [V.lit (.bool c)] ++ ((L.set m b).map vbool).drop (m + 1) = (L.set m c).map vbool := by
  rw [setB (by rw [List.length_set]; exact hm), List.set_set]
theorem flatB (n : Nat) : (List.replicate n [V.lit (.bool false)]).flatten = (List.replicate n false).map vbool := by
  induction n with
  | zero => rfl
  | succ n ih => rw [List.replicate_succ, List.flatten_cons, ih, List.replicate_succ]; rfl
theorem setB_at {L : List Bool} {m : Nat} (hm : m < L.length) (b : Bool) : ((L.set m b).map vbool)[m]? = some (V.lit (.bool b)) := by
  rw [bools_at (by rw [List.length_set]; exact hm), List.getD_eq_getElem?_getD, List.getElem?_set_self hm]; rfl

section
variable {h : Hand} {l : List Chord} {Gs : List (List Grip)}
theorem stp_iff {i k m : Nat} : (stepR h (l.getD i noC) ((Gs.getD i []).getD k noG) (l.getD (i + 1) noC) ((Gs.getD (i + 1) []).getD m noG)).2 = true ↔ StpG h l Gs i k m := by
  unfold StpG grp
  by_cases hs : StepOk h (l.getD i noC) ((Gs.getD i []).getD k noG) (l.getD (i + 1) noC) ((Gs.getD (i + 1) []).getD m noG)
  · rw [stepR_ok hs]; exact ⟨fun _ => hs, fun _ => rfl⟩
  · rw [stepR_no hs]; exact ⟨fun e => (by cases e), fun e => absurd e hs⟩
/-- What is known of a grip with k grips of the chord before seen. -/
def FwP (h : Hand) (l : List Chord) (Gs : List (List Grip)) (i m k : Nat) : Prop := i = 0 ∨ ∃ k', k' < k ∧ Fwd h l Gs 0 (i - 1) k' ∧ StpG h l Gs (i - 1) k' m
theorem fwP_s {i m k : Nat} : FwP h l Gs (i + 1) m (k + 1) ↔ FwP h l Gs (i + 1) m k ∨ (Fwd h l Gs 0 i k ∧ StpG h l Gs i k m) := by
  unfold FwP
  rw [Nat.add_sub_cancel]
  constructor
  · rintro (h0 | ⟨k', h1, h2, h3⟩)
    · omega
    · by_cases e : k' = k
      · subst e; exact .inr ⟨h2, h3⟩
      · exact .inl (.inr ⟨k', by omega, h2, h3⟩)
  · rintro ((h0 | ⟨k', h1, h2, h3⟩) | ⟨h2, h3⟩)
    · omega
    · exact .inr ⟨k', by omega, h2, h3⟩
    · exact .inr ⟨k, by omega, h2, h3⟩
theorem fwP_all {i m : Nat} (hm : m < (Gs.getD i []).length) {n : Nat} (hn : 0 < i → n = (Gs.getD (i - 1) []).length) : FwP h l Gs i m n ↔ Fwd h l Gs 0 i m := by
  unfold FwP
  by_cases h0 : i = 0
  · subst h0; exact ⟨fun _ => fwd_0.2 hm, fun _ => .inl rfl⟩
  · obtain ⟨j, rfl⟩ : ∃ j, i = j + 1 := ⟨i - 1, by omega⟩
    rw [fwd_s (Nat.zero_le _), Nat.add_sub_cancel]
    rw [Nat.add_sub_cancel] at hn
    constructor
    · rintro (h1 | ⟨k, h1, h2, h3⟩)
      · omega
      · exact ⟨hm, k, fwd_lt (Nat.zero_le _) h2, h2, h3⟩
    · rintro ⟨_, k, h1, h2, h3⟩; exact .inr ⟨k, by rw [hn (by omega)]; exact h1, h2, h3⟩
/-- The same from behind. -/
def BwP (h : Hand) (l : List Chord) (Gs : List (List Grip)) (t i k m : Nat) : Prop := ∃ m', m' < m ∧ Bwd h l Gs (i + 1) t m' ∧ StpG h l Gs i k m'
theorem bwP_s {t i k m : Nat} : BwP h l Gs t i k (m + 1) ↔ BwP h l Gs t i k m ∨ (Bwd h l Gs (i + 1) t m ∧ StpG h l Gs i k m) := by
  unfold BwP
  constructor
  · rintro ⟨k', h1, h2, h3⟩
    by_cases e : k' = m
    · subst e; exact .inr ⟨h2, h3⟩
    · exact .inl ⟨k', by omega, h2, h3⟩
  · rintro (⟨k', h1, h2, h3⟩ | ⟨h2, h3⟩)
    · exact ⟨k', by omega, h2, h3⟩
    · exact ⟨m, by omega, h2, h3⟩
theorem bwP_all {t i k : Nat} (hit : i < t) (hk : k < (Gs.getD i []).length) : BwP h l Gs t i k (Gs.getD (i + 1) []).length ↔ Bwd h l Gs i t k := by
  unfold BwP
  rw [bwd_s hit]
  constructor
  · rintro ⟨m, h1, h2, h3⟩; exact ⟨hk, m, h1, h2, h3⟩
  · rintro ⟨_, m, h1, h2, h3⟩; exact ⟨m, h1, h2, h3⟩
open Classical in
theorem bwL_self {t : Nat} : bwL h l Gs t t = List.replicate (Gs.getD t []).length true := by
  rw [List.eq_replicate_iff]
  refine ⟨bwL_len t t, fun b hb => ?_⟩
  rw [bwL] at hb
  obtain ⟨q, hq, rfl⟩ := List.mem_map.1 hb
  exact decide_eq_true (bwd_0.2 (List.mem_range.1 hq))
theorem list_bool {L : List Bool} {n : Nat} {p : Nat → Prop} [DecidablePred p] (hl : L.length = n) (h : ∀ q, q < n → (L.getD q false = true ↔ p q)) : L = (List.range n).map fun q => decide (p q) := by
  apply List.ext_getElem?
  intro q
  by_cases hq : q < n
  · have := h q hq
    rw [List.getElem?_map, List.getElem?_range hq]
    rw [List.getD_eq_getElem?_getD, List.getElem?_eq_getElem (by omega)] at this
    rw [List.getElem?_eq_getElem (by omega)]
    show some _ = some (decide (p q))
    congr 1
    rw [Bool.eq_iff_iff, decide_eq_true_iff]; exact this
  · rw [List.getElem?_eq_none (by omega), List.getElem?_eq_none (by simp; omega)]
open Classical in
theorem bwL_of {L : List Bool} {t i : Nat} (hl : L.length = (Gs.getD i []).length) (hL : ∀ q, q < (Gs.getD i []).length → (L.getD q false = true ↔ Bwd h l Gs i t q)) : L = bwL h l Gs t i := by rw [bwL]; exact list_bool hl hL
open Classical in
theorem fwL_of {L : List Bool} {i : Nat} (hl : L.length = (Gs.getD i []).length) (hL : ∀ q, q < (Gs.getD i []).length → (L.getD q false = true ↔ Fwd h l Gs 0 i q)) : L = fwL h l Gs i := by rw [fwL]; exact list_bool hl hL
theorem getD_setB {L : List Bool} {m q : Nat} {b : Bool} (hm : m < L.length) : (L.set m b).getD q false = if m = q then b else L.getD q false := by
  rw [List.getD_eq_getElem?_getD, List.getElem?_set]
  by_cases e : m = q
  · subst e; rw [if_pos rfl, if_pos hm, if_pos rfl]; rfl
  · rw [if_neg e, if_neg e, List.getD_eq_getElem?_getD]
end

/-- Where back stands, before the chord i is asked for. -/
structure BkSt (h : Hand) (l : List Chord) (Gs : List (List Grip)) (t i : Nat) (lv : V) (M : Mm) : Prop where
  le : i ≤ t
  tl : ∀ y, i < y → y ≤ t → Conn h l Gs y t
  lv : ∃ q, lv = .bsl q 0 (Gs.getD i []).length (Gs.getD i []).length ∧ q < M.next ∧ M.obj q = some (.box ((bwL h l Gs t i).map vbool) 4)

set_option maxHeartbeats 4000000 in
theorem back_fn {h : Hand} {l : List Chord} {Gs : List (List Grip)} (hn : NetOk h l Gs) (RP : RepB)
    {t f : Nat} (ht : t < l.length) (h0 : ¬ Conn h l Gs 0 t) (hf : f ≤ t ∧ ¬ Conn h l Gs f t ∧ ∀ i, f < i → i ≤ t → Conn h l Gs i t) :
    Fn Try.prog Gd 96 [netE h l Gs, vint t] (vint f) := by
  refine Fn.of_vx0 k_hand_net_back_b (by simp) (by rw [V.pures]; rfl) ?_
  have h4 := hn.len
  have gl := hn.gl
  have hcnt := hn.cnt
  have huq : ∀ i, i ≤ t → ¬ Conn h l Gs i t → (∀ y, i < y → y ≤ t → Conn h l Gs y t) → i = f := fun i h1 h2 h3 => by
    rcases Nat.lt_trichotomy i f with e | e | e
    · exact absurd (h3 f e hf.1) hf.2.1
    · exact e
    · exact absurd (hf.2.2 i e h1) h2
  clear hf
  have g0 := gss_at' (l := Gs) (k := t) (by omega)
  have c0 : (t : Int) < (l.length : Int) := by omega
  have NS := fun i k m hi hk hm => netstep_fn hn (ov := tIss (owA h l Gs)) (rv := tIss (rsA h l Gs)) (by rw [V.pures, pure_tIss, V.pures, pure_tIss]; rfl) (i := i) (k := k) (m := m) hi hk hm
  unfold netC tCs tGss at NS
  have RPt := RP _ (hcnt t)
  unfold netE netC tCs tGss
  rw [gl] at NS ⊢
  unfold c_hand_net_back_b
  replace NS := Hid.mk NS
  replace huq := Hid.mk huq
  replace hn := Hid.mk hn
  replace h0 := Hid.mk h0
  replace hcnt := Hid.mk hcnt
  clear RP
  repeat' (with_reducible first | refine x_ops ?_ | refine wk ?_ | ((first | refine gd1 ?_ ?_ | refine gd2 ?_ ?_ | refine gd3 ?_ ?_) <;> (first | exact @False.elim _ | intro hc)))
  refine x_callB none RPt vw ?_
  by_cases hz : (Gs.getD t []).length = 0
  · rw [if_pos hz]
    have CT : Fn Try.prog Gd 95 [.sl 0 [] .no, vbool true] (vbool false) := contB_fn [] (by decide)
    have e1 : t = f := huq.out t (Nat.le_refl _) (fun hc => by
      obtain ⟨ks, hp⟩ := hc
      have := hp.lt t (Nat.le_refl _) (Nat.le_refl _)
      omega) (fun y h1 h2 => by omega)
    subst e1
    clear g0 c0 RPt hz
    repeat' (with_reducible first | refine x_ops ?_ | refine wk ?_ | ((first | refine gd1 ?_ ?_ | refine gd2 ?_ ?_ | refine gd3 ?_ ?_) <;> (first | exact @False.elim _ | intro hc)))
    refine x_loopF w_hand_net_back_b_p16 kr 0 (fun k s => s 5 = .sl 0 [] .exact ∧ s 6 = vint (t : Int)) ⟨vv, vv⟩ ?_
    rintro k t2 hk ⟨h5, h6⟩
    repeat' (with_reducible first | refine x_ops ?_ | refine wk ?_ | (with_reducible refine xc (CT) ?_) | ((first | refine gd1 ?_ ?_ | refine gd2 ?_ ?_ | refine gd3 ?_ ?_) <;> (first | exact @False.elim _ | intro hc)))
    exact finV_lit vv rfl
  rw [if_neg hz]
  have eL : List.replicate (Gs.getD t []).length (vbool true) = (bwL h l Gs t t).map vbool := by rw [bwL_self, List.map_replicate]
  rw [eL]
  clear RPt eL g0 c0
  replace hz := Hid.mk hz
  repeat' (with_reducible first | refine x_ops ?_ | refine wk ?_ | ((first | refine gd1 ?_ ?_ | refine gd2 ?_ ?_ | refine gd3 ?_ ?_) <;> (first | exact @False.elim _ | intro hc)))
  refine x_genM (fun s M => (s 0 = .ept [tIs h.low, tIs h.high, tBs h.barre, vint h.top, vint h.jump, vint h.shift, vint h.lift, vint h.bar, vint h.stretch, vint h.slide, .sl l.length (l.flatMap Chord.cells) .no, .sl l.length (Gs.map tGs) .no, tIss (owA h l Gs), tIss (rsA h l Gs)] 0 ∧ s 6 = vint (t : Int)) ∧
    BkSt h l Gs t t (s 5) M) ⟨⟨by ((refine ve ?_; try exact True.intro)); simp [tIs, tBs], vv⟩, ⟨Nat.le_refl _, fun y h1 h2 => by omega, ?_⟩⟩ ?_
  · refine ⟨_, vv, ?_, put_same _ _ _⟩
    show 9 < 11
    decide
  rintro s0 M0' ⟨⟨a0, a6⟩, hb⟩
  refine x_loopW w_hand_net_back_b_p16 kr t (fun k s M => ∃ i, i + k = t ∧ s 6 = vint (i : Int) ∧ BkSt h l Gs t i (s 5) M) ⟨t, rfl, a6, hb⟩ ?_
  clear a6 hb
  rintro k s M hk ⟨i, hik, h6, ⟨hle, htl, q, h5, hq, ho⟩⟩
  have hlen := bwL_len (h := h) (l := l) (Gs := Gs) t i
  have hci := hcnt.out i
  have CT := contN_fn hlen hci
  have LB0 := Hid.mk (lendB (n := (Gs.getD i []).length) ho)
  have hcc := bwL_has (h := h) (l := l) (Gs := Gs) (t := t) hle
  replace hlen := Hid.mk hlen
  cases hx : (bwL h l Gs t i).contains true
  · rw [hx] at CT hcc
    have e1 : i = f := huq.out i hle (fun hc => by have := hcc.2 hc; cases this) htl
    subst e1
    clear hx hcc htl
    repeat' (with_reducible first | refine x_ops ?_ | refine wk ?_ | ((first | refine gd1 ?_ ?_ | refine gd2 ?_ ?_ | refine gd3 ?_ ?_) <;> (first | exact @False.elim _ | intro hc)))
    refine x_lend allS CT rfl (by (simp only [go_sem, Nat.reduceAdd, Nat.reduceEqDiff, Nat.reduceLT, Nat.reduceLeDiff, Nat.reduceMul, Nat.reduceSub, Nat.reducePow, Nat.reduceDiv, Nat.reduceMod, Nat.reduceBEq, Int.reduceBEq, Int.reduceLT, reduceIte, V.norms, V.norm, tIs, tBs, tPs, *]); exact LB0.out) ?_
    repeat' (with_reducible first | refine x_ops ?_ | refine wk ?_ | ((first | refine gd1 ?_ ?_ | refine gd2 ?_ ?_ | refine gd3 ?_ ?_) <;> (first | exact @False.elim _ | intro hc)))
    exact finV_lit vv rfl
  rw [hx] at CT hcc
  have hci0 : Conn h l Gs i t := hcc.1 rfl
  have hi0 : i ≠ 0 := fun e => by subst e; exact h0.out hci0
  obtain ⟨j, rfl⟩ : ∃ j, i = j + 1 := ⟨i - 1, by omega⟩
  clear hx hcc
  have w1 : IntKind.i64.wrap (((j + 1 : Nat) : Int) - 1) = (j : Int) := by rw [w_in (by omega)]; omega
  have c1 : (j : Int) < (l.length : Int) := by omega
  have g1 := gss_at' (l := Gs) (k := j) (by omega)
  have hcj := hcnt.out j
  have k1 : ((Gs.getD j []).length : Int) * 1 ≤ 140737488355328 := by omega
  have k2 : ((Gs.getD j []).length : Int) ≤ 140737488355328 := by omega
  have fB := flatB (Gs.getD j []).length
  replace htl := Hid.mk htl
  replace hci0 := Hid.mk hci0
  have ho0 := Hid.mk ho
  clear ho
  repeat' (with_reducible first | refine x_ops ?_ | refine wk ?_ | ((first | refine gd1 ?_ ?_ | refine gd2 ?_ ?_ | refine gd3 ?_ ?_) <;> (first | exact @False.elim _ | intro hc)))
  refine x_lend allS CT rfl (by (simp only [go_sem, Nat.reduceAdd, Nat.reduceEqDiff, Nat.reduceLT, Nat.reduceLeDiff, Nat.reduceMul, Nat.reduceSub, Nat.reducePow, Nat.reduceDiv, Nat.reduceMod, Nat.reduceBEq, Int.reduceBEq, Int.reduceLT, reduceIte, V.norms, V.norm, tIs, tBs, tPs, *]); exact LB0.out) ?_
  repeat' (with_reducible first | refine x_ops ?_ | refine wk ?_ | ((first | refine gd1 ?_ ?_ | refine gd2 ?_ ?_ | refine gd3 ?_ ?_) <;> (first | exact @False.elim _ | intro hc)))
  have p1 := put_same ⟨M.obj, M.next + 10⟩ (M.next + 8) (.box ((List.replicate (Gs.getD j []).length false).map vbool) 4)
  refine x_loopW w_hand_net_back_b_p10 kr (Gs.getD j []).length (fun m s' M' => s' 37 = vint (m : Int) ∧ M'.next = M.next + 10 ∧ (∀ y, y < M.next → M'.obj y = M.obj y) ∧ ∃ L : List Bool, L.length = (Gs.getD j []).length ∧ M'.obj (M.next + 8) = some (.box (L.map vbool) 4) ∧
    (∀ y, y < m → (L.getD y false = true ↔ Bwd h l Gs j t y)) ∧ ∀ y, m ≤ y → L.getD y false = false) ⟨vv, rfl, fun y hy => put_other _ _ (by omega), List.replicate (Gs.getD j []).length false, List.length_replicate, p1, fun y hy => by omega, fun y hy => ?_⟩ ?_
  · rw [List.getD_eq_getElem?_getD, List.getElem?_replicate]; split <;> rfl
  clear p1 CT fB
  rintro m s' M' hm ⟨h37, hn', hfr, L, hL, hoL, hLd, hLr⟩
  have hq8 : M.next + 8 < M'.next := by omega
  replace hn' := Hid.mk hn'
  by_cases hmj : m < (Gs.getD j []).length
  case neg =>
    have hme : m = (Gs.getD j []).length := by omega
    have c2 : ¬ (m : Int) < ((Gs.getD j []).length : Int) := by omega
    have eL : L = bwL h l Gs t j := bwL_of hL (fun y hy => hLd y (by omega))
    subst eL
    replace hLd := Hid.mk hLd
    replace hLr := Hid.mk hLr
    replace hfr := Hid.mk hfr
    have hL0 := Hid.mk hL
    clear hme hmj hm hL
    repeat' (with_reducible first | refine x_ops ?_ | refine wk ?_ | ((first | refine gd1 ?_ ?_ | refine gd2 ?_ ?_ | refine gd3 ?_ ?_) <;> (first | exact @False.elim _ | intro hc)))
    refine nx (by omega) ⟨j, by omega, vw, ⟨by omega, fun y h1 h2 => ?_, M.next + 8, ?_, hq8, hoL⟩⟩
    · by_cases e : y = j + 1
      · subst e; exact hci0.out
      · exact htl.out y (by omega) h2
    · exact vw
  have c2 : (m : Int) < ((Gs.getD j []).length : Int) := by omega
  have w2 := w_add1 (k := m) (by omega)
  have hqM : q < M'.next := by have := hn'.out; omega
  have oq := (hfr q hq).trans ho0.out
  have q9 : ¬ q = M.next + 8 := by omega
  have q9' : ¬ M.next + 8 = q := by omega
  have eset : ∀ b, M'.obj (M.next + 8) = some (.box (L.map vbool) 4) → b = false → L.set m b = L := fun b _ hb => by
    subst hb
    apply List.ext_getElem?
    intro y
    rw [List.getElem?_set]
    by_cases e : m = y
    · subst e
      rw [if_pos rfl, if_pos (by omega)]
      have := hLr m (Nat.le_refl _)
      rw [List.getD_eq_getElem?_getD, List.getElem?_eq_getElem (by omega)] at this
      rw [List.getElem?_eq_getElem (by omega)]
      exact congrArg some this.symm
    · rw [if_neg e]
  repeat' (with_reducible first | refine x_ops ?_ | refine wk ?_ | ((first | refine gd1 ?_ ?_ | refine gd2 ?_ ?_ | refine gd3 ?_ ?_) <;> (first | exact @False.elim _ | intro hc)))
  refine x_loopW w_hand_net_back_b_p5 kr (Gs.getD (j + 1) []).length (fun x s2 M2 => s2 42 = vint (x : Int) ∧ M2.next = M.next + 10 ∧ (∀ y, y < M.next → M2.obj y = M.obj y) ∧ ∃ b : Bool, M2.obj (M.next + 8) = some (.box ((L.set m b).map vbool) 4) ∧ (b = true ↔ BwP h l Gs t j m x))
    ⟨vv, hn'.out, hfr, false, by rw [eset false hoL rfl]; exact hoL, ⟨fun e => (by cases e), fun ⟨y, hy, _⟩ => by omega⟩⟩ ?_
  clear hoL oq hqM hfr eset
  rintro x s2 M2 hx ⟨h42, hn2, hfr2, b, hob, hbi⟩
  have hq8 : M.next + 8 < M2.next := by omega
  replace hn2 := Hid.mk hn2
  have hqM : q < M2.next := by have := hn2.out; omega
  have oq := (hfr2 q hq).trans ho0.out
  by_cases hxl : x < (Gs.getD (j + 1) []).length
  case neg =>
    have c3 : ¬ (x : Int) < ((Gs.getD (j + 1) []).length : Int) := by omega
    have hxe : x = (Gs.getD (j + 1) []).length := by omega
    have hfin : b = true ↔ Bwd h l Gs j t m := by rw [hbi, hxe]; exact bwP_all (by omega) hmj
    replace hfin := Hid.mk hfin
    replace hfr2 := Hid.mk hfr2
    replace hLd := Hid.mk hLd
    replace hLr := Hid.mk hLr
    clear hbi hxe hxl hx
    repeat' (with_reducible first | refine x_ops ?_ | refine wk ?_ | ((first | refine gd1 ?_ ?_ | refine gd2 ?_ ?_ | refine gd3 ?_ ?_) <;> (first | exact @False.elim _ | intro hc)))
    refine nx hmj ⟨vw, by show M2.next = _; exact hn2.out, hfr2.out, L.set m b, by rw [List.length_set]; exact hL, hob, fun y hy => ?_, fun y hy => ?_⟩
    · rw [getD_setB (by omega)]
      by_cases e : m = y
      · subst e; rw [if_pos rfl]; exact hfin.out
      · rw [if_neg e]; exact hLd.out y (by omega)
    · rw [getD_setB (by omega), if_neg (by omega)]; exact hLr.out y (by omega)
  have c3 : (x : Int) < ((Gs.getD (j + 1) []).length : Int) := by omega
  have w3 := w_add1 (k := x) (by omega)
  have g2 := bools_at (l := bwL h l Gs t (j + 1)) (k := x) (by rw [hlen.out]; exact hxl)
  have hxG : x < (Gs.getD (j + 1) []).length := hxl
  have hbw := bwL_at (h := h) (l := l) (Gs := Gs) (t := t) hxG
  have g3 := setB_at (L := L) (m := m) (by omega) b
  have g4 : ((L.set m b).map vbool).length = (Gs.getD j []).length := by rw [List.length_map, List.length_set]; exact hL
  have c4 : m + 1 ≤ (Gs.getD j []).length := hmj
  have hs := bwP_s (h := h) (l := l) (Gs := Gs) (t := t) (i := j) (k := m) (m := x)
  replace hfr2 := Hid.mk hfr2
  replace hLd := Hid.mk hLd
  replace hLr := Hid.mk hLr
  cases hlive : (bwL h l Gs t (j + 1)).getD x false
  · rw [hlive] at g2 hbw
    have hnb : ¬ Bwd h l Gs (j + 1) t x := fun hb => by have := hbw.2 hb; cases this
    have hbi' : b = true ↔ BwP h l Gs t j m (x + 1) := by rw [hbi, hs]; exact ⟨fun h1 => .inl h1, fun h1 => h1.elim id fun h2 => absurd h2.1 hnb⟩
    replace hbi' := Hid.mk hbi'
    clear hbi hs hnb hbw hlive hx
    repeat' (with_reducible first | refine x_ops ?_ | refine wk ?_ | ((first | refine gd1 ?_ ?_ | refine gd2 ?_ ?_ | refine gd3 ?_ ?_) <;> (first | exact @False.elim _ | intro hc)))
    exact nx hxl ⟨vv, hn2.out, hfr2.out, b, hob, hbi'.out⟩
  rw [hlive] at g2 hbw
  have hyb : Bwd h l Gs (j + 1) t x := hbw.1 rfl
  cases b
  case true =>
    have hbi' : true = true ↔ BwP h l Gs t j m (x + 1) := ⟨fun _ => hs.2 (.inl (hbi.1 rfl)), fun _ => rfl⟩
    replace hbi' := Hid.mk hbi'
    clear hbi hs hyb hbw hlive hx
    repeat' (with_reducible first | refine x_ops ?_ | refine wk ?_ | ((first | refine gd1 ?_ ?_ | refine gd2 ?_ ?_ | refine gd3 ?_ ?_) <;> (first | exact @False.elim _ | intro hc)))
    exact nx hxl ⟨vv, hn2.out, hfr2.out, true, hob, hbi'.out⟩
  have NSx := NS.out j m x (by omega) hmj hxG
  have hst := stp_iff (h := h) (l := l) (Gs := Gs) (i := j) (k := m) (m := x)
  generalize stepR h (l.getD j noC) ((Gs.getD j []).getD m noG) (l.getD (j + 1) noC) ((Gs.getD (j + 1) []).getD x noG) = sr at NSx hst
  obtain ⟨sn, sb⟩ := sr
  dsimp only at NSx hst
  have hbi' : sb = true ↔ BwP h l Gs t j m (x + 1) := by
    rw [hs, hst]
    exact ⟨fun h1 => .inr ⟨hyb, h1⟩, fun h1 => h1.elim (fun h2 => absurd (hbi.2 h2) (by decide)) fun h2 => h2.2⟩
  have eS := setB2 (L := L) (m := m) (by omega) false sb
  replace hbi' := Hid.mk hbi'
  replace eS := Hid.mk eS
  clear hbi hs hyb hbw hlive hx hst
  repeat' (with_reducible first | refine x_ops ?_ | refine wk ?_ | (with_reducible refine xc (NSx) ?_) | ((first | refine gd1 ?_ ?_ | refine gd2 ?_ ?_ | refine gd3 ?_ ?_) <;> (first | exact @False.elim _ | intro hc)))
  exact nx hxl ⟨vv, hn2.out, fun y hy => (put_other _ _ (by omega)).trans (hfr2.out y hy), sb, (put_same _ _ _).trans (by rw [eS.out]), hbi'.out⟩
end Go.Proofs.Ytojjdkoglhecbaa
namespace Go.Proofs.Ytojjdkoglhecbaa
open Go.RowKit

/-- The grips that are reached, ahead of the chord i. -/
def LvSt (h : Hand) (l : List Chord) (Gs : List (List Grip)) (i : Nat) (lv : V) (M : Mm) : Prop :=
  (i = 0 ∧ lv = .sl 0 [] .exact) ∨ (0 < i ∧ ∃ q, lv = .bsl q 0 (Gs.getD (i - 1) []).length (Gs.getD (i - 1) []).length ∧ q < M.next ∧ M.obj q = some (.box ((fwL h l Gs (i - 1)).map vbool) 4))
theorem lvSt_len {h : Hand} {l : List Chord} {Gs : List (List Grip)} {i : Nat} {lv : V} {M : Mm} (hl : LvSt h l Gs i lv M) : ∃ nl : Nat, pureSem .len [lv] = some (vint (nl : Int)) ∧ (0 < i → nl = (Gs.getD (i - 1) []).length) ∧
    ∀ k, k < nl → 0 < i ∧ ∃ q, lv = .bsl q 0 nl nl ∧ q < M.next ∧ M.obj q = some (.box ((fwL h l Gs (i - 1)).map vbool) 4) := by
  rcases hl with ⟨rfl, rfl⟩ | ⟨h0, q, rfl, h1, h2⟩
  · exact ⟨0, rfl, fun h => by omega, fun k hk => by omega⟩
  · exact ⟨_, rfl, fun _ => rfl, fun k hk => ⟨h0, q, rfl, h1, h2⟩⟩

set_option maxHeartbeats 4000000 in
theorem Block_fn (h : Hand) (l : List Chord) (hl : Fits l) (RP : RepB) : Fn Try.prog Gd 60 [h.val, tCs l] (.tup [vint (blkR h l).1, vint (blkR h l).2.1, vint (blkR h l).2.2]) := by
  refine Fn.of_vx0 k_hand_Block (by simp) (by rw [V.pures, pure_hand, V.pures, pure_tCs]; rfl) ?_
  have C1 := weave_fn h l hl
  unfold wvR at C1
  unfold blkR c_hand_Block
  by_cases hw : wvE h l = 0
  case neg =>
    rw [if_neg hw] at C1 ⊢
    have e1 : (wvE h l == 0) = false := by rw [beq_eq_false_iff_ne]; exact hw
    clear hw
    unfold Hand.val tCs at C1 ⊢
    dsimp only
    repeat' (with_reducible first | refine x_ops ?_ | refine wk ?_ | (with_reducible refine xc (C1) ?_) | ((first | refine gd1 ?_ ?_ | refine gd2 ?_ ?_ | refine gd3 ?_ ?_) <;> (first | exact @False.elim _ | intro hc)))
    exact finV_dry rfl vv
  have hn := wv_net hl hw
  rw [if_pos hw] at C1 ⊢
  generalize tabG h l = Gs at *
  have h4 := hn.len
  have gl := hn.gl
  have hcnt := hn.cnt
  have BK := fun t f ht h0 hf => back_fn hn RP (t := t) (f := f) ht h0 hf
  have NS := fun i k m hi hk hm => netstep_fn hn (ov := tIss (owA h l Gs)) (rv := tIss (rsA h l Gs)) (by rw [V.pures, pure_tIss, V.pures, pure_tIss]; rfl) (i := i) (k := k) (m := m) hi hk hm
  have hblk := fun f t (hb : BlkAt h l Gs f t) => blkU_at hb
  have hall := fun (ha : AllC h l Gs) => blkU_no ha
  have hbe := fun t (h0 : ¬ Conn h l Gs 0 t) => back_ex h0
  unfold netE netC tCs tGss at C1 BK
  unfold netC tCs tGss at NS
  rw [gl] at C1 BK NS
  unfold Hand.val at C1 ⊢
  unfold tCs
  replace BK := Hid.mk BK
  replace NS := Hid.mk NS
  replace hblk := Hid.mk hblk
  replace hall := Hid.mk hall
  replace hbe := Hid.mk hbe
  replace hcnt := Hid.mk hcnt
  replace hn := Hid.mk hn
  clear hw RP
  repeat' (with_reducible first | refine x_ops ?_ | refine wk ?_ | (with_reducible refine xc (C1) ?_) | ((first | refine gd1 ?_ ?_ | refine gd2 ?_ ?_ | refine gd3 ?_ ?_) <;> (first | exact @False.elim _ | intro hc)))
  refine x_genM (fun s M => (s 1 = .sl l.length (l.flatMap Chord.cells) .no ∧ s 7 = .ept [tIs h.low, tIs h.high, tBs h.barre, vint h.top, vint h.jump, vint h.shift, vint h.lift, vint h.bar, vint h.stretch, vint h.slide, .sl l.length (l.flatMap Chord.cells) .no, .sl l.length (Gs.map tGs) .no, tIss (owA h l Gs), tIss (rsA h l Gs)] 0 ∧ s 8 = .sl 0 [] .exact ∧ s 23 = vint l.length ∧ s 24 = vint 0) ∧ 4 ≤ M.next)
    ⟨⟨vv, by ((refine ve ?_; try exact True.intro)); simp [tIs, tBs], vv, vv, vv⟩, by (show 4 ≤ 4; decide)⟩ ?_
  clear C1
  rintro s0 M0' ⟨⟨a1, a7, a8, a23, a24⟩, hM0⟩
  refine x_loopW w_hand_Block_p21 kr l.length (fun i s M => s 24 = vint (i : Int) ∧ 4 ≤ M.next ∧ (∀ j, j < i → Conn h l Gs 0 j) ∧ LvSt h l Gs i (s 8) M) ⟨a24, hM0, fun j hj => by omega, .inl ⟨rfl, a8⟩⟩ ?_
  clear a24 a8 hM0
  rintro i s M hi ⟨h24, hM, hpre, hlv⟩
  by_cases hil : i < l.length
  case neg =>
    have hie : i = l.length := by omega
    have c1 : ¬ (i : Int) < (l.length : Int) := by omega
    rw [hall.out (fun h0 => hpre (l.length - 1) (by omega))]
    clear hpre hlv hie hil hi
    repeat' (with_reducible first | refine x_ops ?_ | refine wk ?_ | ((first | refine gd1 ?_ ?_ | refine gd2 ?_ ?_ | refine gd3 ?_ ?_) <;> (first | exact @False.elim _ | intro hc)))
    exact finV_dry rfl vv
  have c1 : (i : Int) < (l.length : Int) := by omega
  have w1 := w_add1 (k := i) (by omega)
  have g1 := gss_at' (l := Gs) (k := i) (by omega)
  have hci := hcnt.out i
  have k1 : ((Gs.getD i []).length : Int) * 1 ≤ 140737488355328 := by omega
  have k2 : ((Gs.getD i []).length : Int) ≤ 140737488355328 := by omega
  have fB := flatB (Gs.getD i []).length
  generalize hlve : s 8 = lv at hlv
  obtain ⟨nl, hnl, hnl2, hlvk⟩ := lvSt_len hlv
  simp only [pureSem, vint] at hnl
  replace hnl2 := Hid.mk hnl2
  replace hlvk := Hid.mk hlvk
  replace hlv := Hid.mk hlv
  replace hpre := Hid.mk hpre
  have q8 : M.next + 8 < M.next + 10 := by omega
  have p1 := put_same ⟨M.obj, M.next + 10⟩ (M.next + 8) (.box ((List.replicate (Gs.getD i []).length false).map vbool) 4)
  repeat' (with_reducible first | refine x_ops ?_ | refine wk ?_ | ((first | refine gd1 ?_ ?_ | refine gd2 ?_ ?_ | refine gd3 ?_ ?_) <;> (first | exact @False.elim _ | intro hc)))
  refine x_loopW w_hand_Block_p12 kr (Gs.getD i []).length (fun m s' M' => s' 38 = vint (m : Int) ∧ M'.next = M.next + 10 ∧ (∀ y, y < M.next → M'.obj y = M.obj y) ∧ ∃ L : List Bool, L.length = (Gs.getD i []).length ∧ M'.obj (M.next + 8) = some (.box (L.map vbool) 4) ∧
    ∀ y, y < m → (L.getD y false = true ↔ Fwd h l Gs 0 i y)) ⟨vv, rfl, fun y hy => put_other _ _ (by omega), List.replicate (Gs.getD i []).length false, List.length_replicate, p1, fun y hy => by omega⟩ ?_
  clear p1 fB q8
  rintro m s' M' hm ⟨h38, hn', hfr, L, hL, hoL, hLd⟩
  have hq8 : M.next + 8 < M'.next := by omega
  replace hn' := Hid.mk hn'
  by_cases hmj : m < (Gs.getD i []).length
  case neg =>
    have c2 : ¬ (m : Int) < ((Gs.getD i []).length : Int) := by omega
    have eL : L = fwL h l Gs i := fwL_of hL (fun y hy => hLd y (by omega))
    subst eL
    have CT := contN_fn hL hci
    have LB := Hid.mk (lendB (n := (Gs.getD i []).length) hoL)
    have hcc := fwL_has (h := h) (l := l) (Gs := Gs) (i := i)
    replace hLd := Hid.mk hLd
    replace hfr := Hid.mk hfr
    have hL0 := Hid.mk hL
    have hoL0 := Hid.mk hoL
    clear hmj hm hL hoL
    cases hx : (fwL h l Gs i).contains true
    · rw [hx] at CT hcc
      have hnc : ¬ Conn h l Gs 0 i := fun hc => by have := hcc.2 hc; cases this
      obtain ⟨f, hf⟩ := hbe.out i hnc
      have BKi := BK.out i f hil hnc hf
      rw [hblk.out f i ⟨hil, hf.1, hf.2.1, hpre.out, hf.2.2⟩]
      clear hx hcc hf hnc
      repeat' (with_reducible first | refine x_ops ?_ | refine wk ?_ | ((first | refine gd1 ?_ ?_ | refine gd2 ?_ ?_ | refine gd3 ?_ ?_) <;> (first | exact @False.elim _ | intro hc)))
      refine x_lend allS CT rfl (by (simp only [go_sem, Nat.reduceAdd, Nat.reduceEqDiff, Nat.reduceLT, Nat.reduceLeDiff, Nat.reduceMul, Nat.reduceSub, Nat.reducePow, Nat.reduceDiv, Nat.reduceMod, Nat.reduceBEq, Int.reduceBEq, Int.reduceLT, reduceIte, V.norms, V.norm, tIs, tBs, tPs, *]); exact LB.out) ?_
      repeat' (with_reducible first | refine x_ops ?_ | refine wk ?_ | (with_reducible refine xc (BKi) ?_) | ((first | refine gd1 ?_ ?_ | refine gd2 ?_ ?_ | refine gd3 ?_ ?_) <;> (first | exact @False.elim _ | intro hc)))
      exact finV_dry rfl vv
    · rw [hx] at CT hcc
      have hcn := Hid.mk (hcc.1 rfl)
      clear hx hcc
      repeat' (with_reducible first | refine x_ops ?_ | refine wk ?_ | ((first | refine gd1 ?_ ?_ | refine gd2 ?_ ?_ | refine gd3 ?_ ?_) <;> (first | exact @False.elim _ | intro hc)))
      refine x_lend allS CT rfl (by (simp only [go_sem, Nat.reduceAdd, Nat.reduceEqDiff, Nat.reduceLT, Nat.reduceLeDiff, Nat.reduceMul, Nat.reduceSub, Nat.reducePow, Nat.reduceDiv, Nat.reduceMod, Nat.reduceBEq, Int.reduceBEq, Int.reduceLT, reduceIte, V.norms, V.norm, tIs, tBs, tPs, *]); exact LB.out) ?_
      repeat' (with_reducible first | refine x_ops ?_ | refine wk ?_ | ((first | refine gd1 ?_ ?_ | refine gd2 ?_ ?_ | refine gd3 ?_ ?_) <;> (first | exact @False.elim _ | intro hc)))
      refine nx hil ⟨vv, by (show 4 ≤ M'.next; have := hn'.out; omega), fun j hj => ?_, .inr ⟨Nat.succ_pos _, M.next + 8, ?_, hq8, ?_⟩⟩
      · by_cases e : j = i
        · subst e; exact hcn.out
        · exact hpre.out j (by omega)
      · rw [Nat.add_sub_cancel]; exact vv
      · rw [Nat.add_sub_cancel]; exact hoL0.out
  have c2 : (m : Int) < ((Gs.getD i []).length : Int) := by omega
  have c4 : m + 1 ≤ (Gs.getD i []).length := hmj
  have w2 := w_add1 (k := m) (by omega)
  have g4 : (L.map vbool).length = (Gs.getD i []).length := by rw [List.length_map]; exact hL
  have e0 : ((i : Int) == 0) = decide (i = 0) := by rw [Bool.eq_iff_iff, beq_iff_eq, decide_eq_true_iff]; omega
  have eS0 := setB (L := L) (m := m) (by omega) (decide (i = 0))
  replace eS0 := Hid.mk eS0
  replace hLd := Hid.mk hLd
  replace hfr := Hid.mk hfr
  repeat' (with_reducible first | refine x_ops ?_ | refine wk ?_ | ((first | refine gd1 ?_ ?_ | refine gd2 ?_ ?_ | refine gd3 ?_ ?_) <;> (first | exact @False.elim _ | intro hc)))
  refine x_loopW w_hand_Block_p6 kr nl (fun x s2 M2 => s2 48 = vint (x : Int) ∧ M2.next = M.next + 10 ∧ (∀ y, y < M.next → M2.obj y = M.obj y) ∧ ∃ b : Bool, M2.obj (M.next + 8) = some (.box ((L.set m b).map vbool) 4) ∧ (b = true ↔ FwP h l Gs i m x))
    ⟨vv, hn'.out, fun y hy => (put_other _ _ (by omega)).trans (hfr.out y hy), decide (i = 0), (put_same _ _ _).trans (by rw [eS0.out]), ?_⟩ ?_
  · rw [decide_eq_true_iff]
    exact ⟨fun e => .inl e, fun hh => hh.elim id fun ⟨y, hy, _⟩ => by omega⟩
  clear hoL hfr eS0 e0 g4
  rintro x s2 M2 hx ⟨h48, hn2, hfr2, b, hob, hbi⟩
  have hq8 : M.next + 8 < M2.next := by omega
  replace hn2 := Hid.mk hn2
  replace hfr2 := Hid.mk hfr2
  by_cases hxl : x < nl
  case neg =>
    have c3 : ¬ (x : Int) < (nl : Int) := by omega
    have hfin : b = true ↔ Fwd h l Gs 0 i m := by rw [hbi]; exact fwP_all hmj (fun h0 => by have := hnl2.out h0; omega)
    replace hfin := Hid.mk hfin
    clear hbi hxl hx
    repeat' (with_reducible first | refine x_ops ?_ | refine wk ?_ | ((first | refine gd1 ?_ ?_ | refine gd2 ?_ ?_ | refine gd3 ?_ ?_) <;> (first | exact @False.elim _ | intro hc)))
    refine nx hmj ⟨vw, by show M2.next = _; exact hn2.out, hfr2.out, L.set m b, by rw [List.length_set]; exact hL, hob, fun y hy => ?_⟩
    rw [getD_setB (by omega)]
    by_cases e : m = y
    · subst e; rw [if_pos rfl]; exact hfin.out
    · rw [if_neg e]; exact hLd.out y (by omega)
  obtain ⟨hi0, q, rfl, hq, ho⟩ := hlvk.out x hxl
  obtain ⟨j, rfl⟩ : ∃ j, i = j + 1 := ⟨i - 1, by omega⟩
  rw [Nat.add_sub_cancel] at ho
  have hnl3 := hnl2.out hi0
  rw [Nat.add_sub_cancel] at hnl3
  have hqM : q < M2.next := by have := hn2.out; omega
  have oq := (hfr2.out q hq).trans ho
  have q9 : ¬ q = M.next + 8 := by omega
  have q9' : ¬ M.next + 8 = q := by omega
  have c3 : (x : Int) < (nl : Int) := by omega
  have w3 := w_add1 (k := x) (by have := hcnt.out j; omega)
  have w4 : IntKind.i64.wrap (((j + 1 : Nat) : Int) - 1) = (j : Int) := by rw [w_in (by omega)]; omega
  have hxG : x < (Gs.getD j []).length := by omega
  clear hnl3
  have g2 := bools_at (l := fwL h l Gs j) (k := x) (by rw [fwL_len]; exact hxG)
  have hfw := fwL_at (h := h) (l := l) (Gs := Gs) hxG
  have g3 := setB_at (L := L) (m := m) (by omega) b
  have g4 : ((L.set m b).map vbool).length = (Gs.getD (j + 1) []).length := by rw [List.length_map, List.length_set]; exact hL
  have hs := fwP_s (h := h) (l := l) (Gs := Gs) (i := j) (m := m) (k := x)
  clear hnl
  cases hlive : (fwL h l Gs j).getD x false
  · rw [hlive] at g2 hfw
    have hnb : ¬ Fwd h l Gs 0 j x := fun hb => by have := hfw.2 hb; cases this
    have hbi' : b = true ↔ FwP h l Gs (j + 1) m (x + 1) := by rw [hbi, hs]; exact ⟨fun h1 => .inl h1, fun h1 => h1.elim id fun h2 => absurd h2.1 hnb⟩
    replace hbi' := Hid.mk hbi'
    clear hbi hs hnb hfw hlive hx
    repeat' (with_reducible first | refine x_ops ?_ | refine wk ?_ | ((first | refine gd1 ?_ ?_ | refine gd2 ?_ ?_ | refine gd3 ?_ ?_) <;> (first | exact @False.elim _ | intro hc)))
    exact nx hxl ⟨vv, hn2.out, hfr2.out, b, hob, hbi'.out⟩
  rw [hlive] at g2 hfw
  have hyb : Fwd h l Gs 0 j x := hfw.1 rfl
  cases b
  case true =>
    have hbi' : true = true ↔ FwP h l Gs (j + 1) m (x + 1) := ⟨fun _ => hs.2 (.inl (hbi.1 rfl)), fun _ => rfl⟩
    replace hbi' := Hid.mk hbi'
    clear hbi hs hyb hfw hlive hx
    repeat' (with_reducible first | refine x_ops ?_ | refine wk ?_ | ((first | refine gd1 ?_ ?_ | refine gd2 ?_ ?_ | refine gd3 ?_ ?_) <;> (first | exact @False.elim _ | intro hc)))
    exact nx hxl ⟨vv, hn2.out, hfr2.out, true, hob, hbi'.out⟩
  have NSx := NS.out j x m (by omega) hxG hmj
  have hst := stp_iff (h := h) (l := l) (Gs := Gs) (i := j) (k := x) (m := m)
  generalize stepR h (l.getD j noC) ((Gs.getD j []).getD x noG) (l.getD (j + 1) noC) ((Gs.getD (j + 1) []).getD m noG) = sr at NSx hst
  obtain ⟨sn, sb⟩ := sr
  dsimp only at NSx hst
  have hbi' : sb = true ↔ FwP h l Gs (j + 1) m (x + 1) := by
    rw [hs, hst]
    exact ⟨fun h1 => .inr ⟨hyb, h1⟩, fun h1 => h1.elim (fun h2 => absurd (hbi.2 h2) (by decide)) fun h2 => h2.2⟩
  have eS := setB2 (L := L) (m := m) (by omega) false sb
  replace hbi' := Hid.mk hbi'
  replace eS := Hid.mk eS
  clear hbi hs hyb hfw hlive hx hst
  repeat' (with_reducible first | refine x_ops ?_ | refine wk ?_ | (with_reducible refine xc (NSx) ?_) | ((first | refine gd1 ?_ ?_ | refine gd2 ?_ ?_ | refine gd3 ?_ ?_) <;> (first | exact @False.elim _ | intro hc)))
  exact nx hxl ⟨vv, hn2.out, fun y hy => (put_other _ _ (by omega)).trans (hfr2.out y hy), sb, (put_same _ _ _).trans (by rw [eS.out]), hbi'.out⟩
end Go.Proofs.Ytojjdkoglhecbaa
namespace Go.Proofs.Ytojjdkoglhecbaa
open Go.RowKit

open Classical in
/-- Has a sequence a fingering? -/
noncomputable def hasB (h : Hand) (l : List Chord) (Gs : List (List Grip)) : Bool := decide (AllC h l Gs)
/-- The grips of a chord that are reached, of the first n. -/
structure RcU (h : Hand) (l : List Chord) (Gs : List (List Grip)) (i n : Nat) (L : List Grip) : Prop where
  fw : ∀ g ∈ L, ∃ k, k < n ∧ Fwd h l Gs 0 i k ∧ g = grp Gs i k
  bw : ∀ k, k < n → Fwd h l Gs 0 i k → grp Gs i k ∈ L
  len : L.length ≤ n
section
variable {h : Hand} {l : List Chord} {Gs : List (List Grip)}
theorem rcU_0 {i : Nat} : RcU h l Gs i 0 [] := ⟨fun g hg => (by cases hg), fun k hk => by omega, Nat.le_refl _⟩
theorem rcU_yes {i n : Nat} {L : List Grip} (hL : RcU h l Gs i n L) (hf : Fwd h l Gs 0 i n) : RcU h l Gs i (n + 1) (L ++ [grp Gs i n]) := by
  refine ⟨fun g hg => ?_, fun k hk hfk => ?_, by rw [List.length_append]; have := hL.len; simp; omega⟩
  · rcases List.mem_append.1 hg with hg | hg
    · obtain ⟨k, h1, h2⟩ := hL.fw g hg; exact ⟨k, by omega, h2⟩
    · rw [List.mem_singleton] at hg; exact ⟨n, by omega, hf, hg⟩
  · by_cases e : k = n
    · subst e; exact List.mem_append.2 (.inr (List.mem_singleton.2 rfl))
    · exact List.mem_append.2 (.inl (hL.bw k (by omega) hfk))
theorem rcU_no {i n : Nat} {L : List Grip} (hL : RcU h l Gs i n L) (hf : ¬ Fwd h l Gs 0 i n) : RcU h l Gs i (n + 1) L := by
  refine ⟨fun g hg => ?_, fun k hk hfk => ?_, by have := hL.len; omega⟩
  · obtain ⟨k, h1, h2⟩ := hL.fw g hg; exact ⟨k, by omega, h2⟩
  · exact hL.bw k (by
      by_cases e : k = n
      · subst e; exact absurd hfk hf
      · omega) hfk
theorem rcU_nil {i : Nat} {L : List Grip} (hL : RcU h l Gs i (Gs.getD i []).length L) : L.length = 0 ↔ ¬ Conn h l Gs 0 i := by
  rw [conn_fwd (Nat.zero_le _)]
  constructor
  · rintro h0 ⟨m, hm, hf⟩
    have := hL.bw m hm hf
    rw [List.eq_nil_of_length_eq_zero h0] at this; cases this
  · intro hn
    cases L with
    | nil => rfl
    | cons g L => obtain ⟨k, h1, h2, _⟩ := hL.fw g (List.mem_cons_self ..); exact absurd ⟨k, h1, h2⟩ hn
theorem net_drop (hn : NetOk h l Gs) (d : Nat) : NetOk h (l.drop d) (Gs.drop d) := by
  refine ⟨hn.hk, fits_drop hn.fits d, seq_drop hn.seq d, by rw [List.length_drop]; have := hn.len; omega, by rw [List.length_drop, List.length_drop, hn.gl], fun i hi g hg => ?_, fun i => ?_⟩
  · rw [List.length_drop] at hi
    rw [drop_getD] at hg ⊢
    exact hn.fit _ (by omega) g hg
  · rw [drop_getD]; exact hn.cnt _
theorem net_take (hn : NetOk h l Gs) (d : Nat) : NetOk h (l.take d) (Gs.take d) := by
  refine ⟨hn.hk, fits_take hn.fits d, seq_take hn.seq d, by rw [List.length_take]; have := hn.len; omega, by rw [List.length_take, List.length_take, hn.gl], fun i hi g hg => ?_, fun i => ?_⟩
  · rw [List.length_take] at hi
    rw [take_getD_of (by omega)] at hg ⊢
    exact hn.fit _ (by omega) g hg
  · by_cases e : i < d
    · rw [take_getD_of e]; exact hn.cnt _
    · rw [List.getD_eq_getElem?_getD, List.getElem?_eq_none (by rw [List.length_take]; omega)]; simp
/-- Of the chords f .. e - 1 alone. -/
theorem has_sub {f e : Nat} (hf : f < e) (he : e ≤ l.length) : (Conn h l Gs f (e - 1) → hasB h ((l.drop f).take (e - f)) ((Gs.drop f).take (e - f)) = true) ∧ (¬ Conn h l Gs f (e - 1) → hasB h ((l.drop f).take (e - f)) ((Gs.drop f).take (e - f)) = false) := by
  have hl : ((l.drop f).take (e - f)).length = e - f := by rw [List.length_take, List.length_drop]; omega
  have hiff : AllC h ((l.drop f).take (e - f)) ((Gs.drop f).take (e - f)) ↔ Conn h l Gs f (e - 1) := by
    rw [AllC, hl, conn_take (by omega), conn_drop, show 0 + f = f by omega, show e - f - 1 + f = e - 1 by omega]
    exact ⟨fun h1 => h1 (by omega), fun h1 _ => h1⟩
  constructor
  · intro hc; unfold hasB; simp [hiff.2 hc]
  · intro hc
    have : ¬ AllC h ((l.drop f).take (e - f)) ((Gs.drop f).take (e - f)) := fun ha => hc (hiff.1 ha)
    unfold hasB; simp [this]
end
theorem cutCs (l : List Chord) {f e : Nat} (hf : f ≤ e) (he : e ≤ l.length) :
    vslc 3 true true (.sl l.length (l.flatMap Chord.cells) .no) [.lit (.int .i64 (f : Int)), .lit (.int .i64 (e : Int))] = some (.sl ((l.drop f).take (e - f)).length (((l.drop f).take (e - f)).flatMap Chord.cells) .no) := by
  have hz : ∀ c : Chord, c.cells.length = 3 := fun _ => rfl
  have h1 : (0 : Int) ≤ (f : Int) ∧ (f : Int) ≤ (e : Int) ∧ (e : Int) ≤ (l.length : Int) := ⟨by omega, by omega, by omega⟩
  show (if (0 : Int) ≤ (f : Int) ∧ (f : Int) ≤ (e : Int) ∧ (e : Int) ≤ (l.length : Int) then some (V.sl ((e : Int).toNat - (f : Int).toNat) (((l.flatMap Chord.cells).drop ((f : Int).toNat * 3)).take (((e : Int).toNat - (f : Int).toNat) * 3)) .no) else none) = _
  rw [if_pos h1, Int.toNat_natCast, Int.toNat_natCast, flat_dropped hz, flat_taken hz, List.length_take, List.length_drop, Nat.min_eq_left (by omega)]
theorem cutGs (l : List (List Grip)) {f e : Nat} (hf : f ≤ e) (he : e ≤ l.length) :
    vslc 1 true true (.sl l.length (l.map tGs) .no) [.lit (.int .i64 (f : Int)), .lit (.int .i64 (e : Int))] = some (.sl ((l.drop f).take (e - f)).length (((l.drop f).take (e - f)).map tGs) .no) := by
  have h1 : (0 : Int) ≤ (f : Int) ∧ (f : Int) ≤ (e : Int) ∧ (e : Int) ≤ (l.length : Int) := ⟨by omega, by omega, by omega⟩
  show (if (0 : Int) ≤ (f : Int) ∧ (f : Int) ≤ (e : Int) ∧ (e : Int) ≤ (l.length : Int) then some (V.sl ((e : Int).toNat - (f : Int).toNat) (((l.map tGs).drop ((f : Int).toNat * 1)).take (((e : Int).toNat - (f : Int).toNat) * 1)) .no) else none) = _
  rw [if_pos h1, Int.toNat_natCast, Int.toNat_natCast, Nat.mul_one, Nat.mul_one, List.map_take, List.map_drop, List.length_take, List.length_drop, Nat.min_eq_left (by omega)]
theorem cutG0 (l : List (List Grip)) {e : Nat} (he : e ≤ l.length) : vslc 1 false true (.sl l.length (l.map tGs) .no) [.lit (.int .i64 (e : Int))] = some (.sl (l.take e).length ((l.take e).map tGs) .no) := by
  have h1 : (0 : Int) ≤ 0 ∧ (0 : Int) ≤ (e : Int) ∧ (e : Int) ≤ (l.length : Int) := ⟨by omega, by omega, by omega⟩
  show (if (0 : Int) ≤ 0 ∧ (0 : Int) ≤ (e : Int) ∧ (e : Int) ≤ (l.length : Int) then some (V.sl ((e : Int).toNat - (0 : Int).toNat) (((l.map tGs).drop ((0 : Int).toNat * 1)).take (((e : Int).toNat - (0 : Int).toNat) * 1)) .no) else none) = _
  rw [if_pos h1, Int.toNat_natCast, show (0 : Int).toNat = 0 from rfl, Nat.zero_mul, List.drop_zero, Nat.sub_zero, Nat.mul_one, List.map_take, List.length_take, Nat.min_eq_left he]

set_option maxHeartbeats 4000000 in
theorem rhas_fn {h : Hand} {l : List Chord} {Gs : List (List Grip)} (hn : NetOk h l Gs) : Fn Try.prog Gd 97 [h.val, tCs l, tGss Gs] (vbool (hasB h l Gs)) := by
  refine Fn.of_vx0 k_theorboref06_has (by simp) (by rw [V.pures, pure_hand, V.pures, pure_tCs, V.pures, pure_tGss]; rfl) ?_
  have h4 := hn.len
  have gl := hn.gl
  have hcnt := hn.cnt
  have ST := fun (i k m : Nat) (hi : i + 1 < l.length) (hk : k < (Gs.getD i []).length) (hm : m < (Gs.getD (i + 1) []).length) =>
    rstep_fn h hn.hk (l.getD i noC) (l.getD (i + 1) noC) (hn.seq i (by omega)).1 (hn.seq (i + 1) hi).1 (hn.follows hi) (hn.fits.at i) (hn.fits.at (i + 1)) _ _ (hn.grip (by omega) hk).2 (hn.grip hi hm).2 (hn.grip (by omega) hk).1 (hn.grip hi hm).1
  have yes : AllC h l Gs → hasB h l Gs = true := fun ha => by unfold hasB; simp [ha]
  have no : ∀ i, i < l.length → ¬ Conn h l Gs 0 i → hasB h l Gs = false := fun i hi hc => by
    have : ¬ AllC h l Gs := fun ha => hc (conn_mono (ha (by omega)) (Nat.le_refl _) (by omega))
    unfold hasB; simp [this]
  unfold Hand.val Chord.val Chord.cells Grip.val Grip.cells at ST
  unfold Hand.val tCs tGss
  rw [gl]
  unfold c_theorboref06_has
  replace ST := Hid.mk ST
  replace yes := Hid.mk yes
  replace no := Hid.mk no
  replace hcnt := Hid.mk hcnt
  replace hn := Hid.mk hn
  repeat' (with_reducible first | refine x_ops ?_ | refine wk ?_ | ((first | refine gd1 ?_ ?_ | refine gd2 ?_ ?_ | refine gd3 ?_ ?_) <;> (first | exact @False.elim _ | intro hc)))
  refine x_genM (fun s M => (s 1 = .sl l.length (l.flatMap Chord.cells) .no ∧ s 2 = .sl l.length (Gs.map tGs) .no ∧ s 3 = .ptr 0 0 ∧ s 7 = .sl 0 [] .exact ∧ s 8 = vint 0) ∧ 2 ≤ M.next ∧ M.obj 0 = some (.box [tIs h.low, tIs h.high, tBs h.barre, vint h.top, vint h.jump, vint h.shift, vint h.lift, vint h.bar, vint h.stretch, vint h.slide] 25))
    ⟨⟨vv, vv, vv, vv, vv⟩, by (show 2 ≤ 2; decide), by ((refine ve ?_; try exact True.intro)); simp [tIs, tBs]⟩ ?_
  rintro s0 M0' ⟨⟨a1, a2, a3, a7, a8⟩, hM0, hO0⟩
  refine x_loopW w_theorboref06_has_p18 kr l.length (fun i s M => s 8 = vint (i : Int) ∧ 2 ≤ M.next ∧ M.obj 0 = some (.box [tIs h.low, tIs h.high, tBs h.barre, vint h.top, vint h.jump, vint h.shift, vint h.lift, vint h.bar, vint h.stretch, vint h.slide] 25) ∧ (∀ j, j < i → Conn h l Gs 0 j) ∧
    ∃ (L : List Grip) (tok : Tok), s 7 = .sl L.length (L.flatMap Grip.cells) tok ∧ (0 < i → RcU h l Gs (i - 1) (Gs.getD (i - 1) []).length L) ∧ (i = 0 → L = [])) ⟨a8, hM0, hO0, fun j hj => by omega, [], .exact, a7, fun h0 => by omega, fun _ => rfl⟩ ?_
  clear a8 a7 hM0 hO0
  rintro i s M hi ⟨h8, hM, hO, hpre, Lst, tk, h7, hL1, hL0⟩
  by_cases hil : i < l.length
  case neg =>
    have c1 : ¬ (i : Int) < (l.length : Int) := by omega
    rw [yes.out (fun h0 => hpre (l.length - 1) (by omega))]
    clear hpre hL1 hL0
    repeat' (with_reducible first | refine x_ops ?_ | refine wk ?_ | ((first | refine gd1 ?_ ?_ | refine gd2 ?_ ?_ | refine gd3 ?_ ?_) <;> (first | exact @False.elim _ | intro hc)))
    exact finV_lit vv rfl
  have c1 : (i : Int) < (l.length : Int) := by omega
  have w1 := w_add1 (k := i) (by omega)
  have g1 := gss_at' (l := Gs) (k := i) (by omega)
  have hci := hcnt.out i
  have g8 := gs_len (Gs.getD i [])
  have gL := gs_len Lst
  have hLlen : Lst.length ≤ 200 := by
    by_cases h0 : i = 0
    · rw [hL0 h0]; simp
    · have := (hL1 (by omega)).len; have := hcnt.out (i - 1); omega
  replace hpre := Hid.mk hpre
  replace hL1 := Hid.mk hL1
  replace hL0 := Hid.mk hL0
  repeat' (with_reducible first | refine x_ops ?_ | refine wk ?_ | ((first | refine gd1 ?_ ?_ | refine gd2 ?_ ?_ | refine gd3 ?_ ?_) <;> (first | exact @False.elim _ | intro hc)))
  refine x_loopW w_theorboref06_has_p10 kr (Gs.getD i []).length (fun j s' M' => s' 10 = vint (j : Int) ∧ 2 ≤ M'.next ∧ M'.obj 0 = some (.box [tIs h.low, tIs h.high, tBs h.barre, vint h.top, vint h.jump, vint h.shift, vint h.lift, vint h.bar, vint h.stretch, vint h.slide] 25) ∧
    ∃ (L : List Grip) (tok : Tok), s' 9 = .sl L.length (L.flatMap Grip.cells) tok ∧ Apb M' tok L.length 53 2 ∧ RcU h l Gs i j L) ⟨vv, hM, hO, [], .exact, vv, .inl rfl, rcU_0⟩ ?_
  clear hM hO
  rintro j s' M' hj ⟨h10, hM', hO', L, tok, h9, hap, hRc⟩
  have hZ : 0 < M'.next := by omega
  by_cases hjl : j < (Gs.getD i []).length
  case neg =>
    have c2 : ¬ (j : Int) < ((Gs.getD i []).length : Int) := by omega
    have hje : j = (Gs.getD i []).length := by omega
    rw [hje] at hRc
    have hnil := rcU_nil hRc
    replace hRc := Hid.mk hRc
    replace hap := Hid.mk hap
    clear hje hjl hj
    by_cases h0 : L.length = 0
    · have e0 : ((L.length : Int) == 0) = true := by rw [beq_iff_eq]; omega
      rw [no.out i hil (hnil.1 h0)]
      clear hnil h0
      repeat' (with_reducible first | refine x_ops ?_ | refine wk ?_ | ((first | refine gd1 ?_ ?_ | refine gd2 ?_ ?_ | refine gd3 ?_ ?_) <;> (first | exact @False.elim _ | intro hc)))
      exact finV_lit vv rfl
    · have e0 : ((L.length : Int) == 0) = false := by rw [beq_eq_false_iff_ne]; omega
      have hc : Conn h l Gs 0 i := Classical.byContradiction fun hc => h0 (hnil.2 hc)
      replace hc := Hid.mk hc
      clear hnil h0
      repeat' (with_reducible first | refine x_ops ?_ | refine wk ?_ | ((first | refine gd1 ?_ ?_ | refine gd2 ?_ ?_ | refine gd3 ?_ ?_) <;> (first | exact @False.elim _ | intro hc)))
      refine nx hil ⟨vv, hM', hO', fun y hy => ?_, L, tok, vv, fun _ => by rw [Nat.add_sub_cancel]; exact hRc.out, fun h0 => by omega⟩
      by_cases e : y = i
      · subst e; exact hc.out
      · exact hpre.out y (by omega)
  have c2 : (j : Int) < ((Gs.getD i []).length : Int) := by omega
  have w2 := w_add1 (k := j) (by omega)
  have g6 := gs_take hjl
  have c5 : j * 2 + 2 ≤ (Gs.getD i []).length * 2 := by omega
  have e0 : ((i : Int) == 0) = decide (i = 0) := by rw [Bool.eq_iff_iff, beq_iff_eq, decide_eq_true_iff]; omega
  replace hap := Hid.mk hap
  replace hRc := Hid.mk hRc
  repeat' (with_reducible first | refine x_ops ?_ | refine wk ?_ | ((first | refine gd1 ?_ ?_ | refine gd2 ?_ ?_ | refine gd3 ?_ ?_) <;> (first | exact @False.elim _ | intro hc)))
  unfold c_theorboref06_has_p7
  refine x_join 36893488146345367552 kr (fun t => ∃ b : Bool, t 11 = vbool b ∧ (b = true ↔ Fwd h l Gs 0 i j)) ?_ ?_
  · repeat' (with_reducible first | refine x_ops ?_ | refine wk ?_ | ((first | refine gd1 ?_ ?_ | refine gd2 ?_ ?_ | refine gd3 ?_ ?_) <;> (first | exact @False.elim _ | intro hc)))
    refine x_loopF w_theorboref06_has_p3 kr Lst.length (fun k t => t 12 = vint (k : Int) ∧ ∃ b : Bool, t 11 = vbool b ∧ (b = true ↔ i = 0 ∨ ∃ x, x < k ∧ StepOk h (l.getD (i - 1) noC) (Lst.getD x noG) (l.getD i noC) (grp Gs i j))) ⟨vv, decide (i = 0), vv, ?_⟩ ?_
    · rw [decide_eq_true_iff]; exact ⟨.inl, fun hh => hh.elim id fun ⟨x, hx, _⟩ => by omega⟩
    clear e0
    rintro k t hk ⟨h12, b, h11, hb⟩
    -- what is known at the end
    have fin : (b = true ∨ ¬ k < Lst.length) → (b = true ↔ Fwd h l Gs 0 i j) := by
      intro hx
      by_cases h0 : i = 0
      · rw [hb]; subst h0; exact ⟨fun _ => fwd_0.2 hjl, fun _ => .inl rfl⟩
      · obtain ⟨i', rfl⟩ : ∃ i', i = i' + 1 := ⟨i - 1, by omega⟩
        have hR := hL1.out (by omega)
        rw [Nat.add_sub_cancel] at hR hb
        rw [fwd_s (Nat.zero_le _)]
        constructor
        · intro hbt
          rcases hb.1 hbt with h1 | ⟨x, h1, h2⟩
          · omega
          · obtain ⟨k', k1, k2, k3⟩ := hR.fw _ (mem_getD noG (show x < Lst.length by omega))
            exact ⟨hjl, k', k1, k2, by unfold StpG; rw [← k3]; exact h2⟩
        · rintro ⟨_, k', k1, k2, k3⟩
          rcases hx with hx | hx
          · exact hx
          · obtain ⟨x, x1, x2⟩ := List.mem_iff_getElem.1 (hR.bw k' k1 k2)
            refine hb.2 (.inr ⟨x, by omega, ?_⟩)
            have e : Lst.getD x noG = Lst[x] := by rw [List.getD_eq_getElem?_getD, List.getElem?_eq_getElem x1]; rfl
            rw [e, x2]; exact k3
    by_cases hkl : k < Lst.length
    case neg =>
      have c3 : ¬ (k : Int) < (Lst.length : Int) := by omega
      have hf := Hid.mk (fin (.inr hkl))
      clear fin hb hkl hk
      repeat' (with_reducible first | refine x_ops ?_ | refine wk ?_ | ((first | refine gd1 ?_ ?_ | refine gd2 ?_ ?_ | refine gd3 ?_ ?_) <;> (first | exact @False.elim _ | intro hc)))
      exact jn rfl ⟨b, vw, hf.out⟩
    have c3 : (k : Int) < (Lst.length : Int) := by omega
    cases b
    case true =>
      have hf := Hid.mk (fin (.inl rfl))
      clear fin hb
      repeat' (with_reducible first | refine x_ops ?_ | refine wk ?_ | ((first | refine gd1 ?_ ?_ | refine gd2 ?_ ?_ | refine gd3 ?_ ?_) <;> (first | exact @False.elim _ | intro hc)))
      exact jn rfl ⟨true, vw, hf.out⟩
    have h0 : i ≠ 0 := fun e => by have := hb.2 (.inl e); cases this
    obtain ⟨i', rfl⟩ : ∃ i', i = i' + 1 := ⟨i - 1, by omega⟩
    rw [Nat.add_sub_cancel] at hb
    have hR := hL1.out (by omega)
    rw [Nat.add_sub_cancel] at hR
    obtain ⟨k', k1, k2, k3⟩ := hR.fw _ (mem_getD noG hkl)
    have STk := ST.out i' k' j (by omega) k1 hjl
    have w3 := w_add1 (k := k) (by omega)
    have w4 : IntKind.i64.wrap (((i' + 1 : Nat) : Int) - 1) = (i' : Int) := by rw [w_in (by omega)]; omega
    have d1 := chs_take (l := l) (k := i') (by omega)
    have d2 := chs_take (l := l) (k := i' + 1) (by omega)
    have d3 := chs_len l
    have c6 : i' * 3 + 3 ≤ l.length * 3 := by omega
    have c7 : (i' + 1) * 3 + 3 ≤ l.length * 3 := by omega
    have c8 : (i' : Int) < (l.length : Int) := by omega
    have c9 : k * 2 + 2 ≤ Lst.length * 2 := by omega
    have d4 := gs_take hkl
    have eg : grp Gs i' k' = (Gs.getD i' []).getD k' noG := rfl
    rw [← eg, ← k3] at STk
    have hstp : ∀ b : Bool, (b = true ↔ StepOk h (l.getD i' noC) (Lst.getD k noG) (l.getD (i' + 1) noC) (grp Gs (i' + 1) j)) → (b = true ↔ i' + 1 = 0 ∨ ∃ x, x < k + 1 ∧ StepOk h (l.getD (i' + 1 - 1) noC) (Lst.getD x noG) (l.getD (i' + 1) noC) (grp Gs (i' + 1) j)) := fun b hbb => by
      rw [hbb, Nat.add_sub_cancel]
      constructor
      · intro h1; exact .inr ⟨k, by omega, h1⟩
      · rintro (h1 | ⟨x, h1, h2⟩)
        · omega
        · by_cases e : x = k
          · subst e; exact h2
          · have := hb.2 (.inr ⟨x, by omega, h2⟩); cases this
    have hiff : (stepR h (l.getD i' noC) (Lst.getD k noG) (l.getD (i' + 1) noC) ((Gs.getD (i' + 1) []).getD j noG)).2 = true ↔ StepOk h (l.getD i' noC) (Lst.getD k noG) (l.getD (i' + 1) noC) (grp Gs (i' + 1) j) := by
      unfold grp
      by_cases hs : StepOk h (l.getD i' noC) (Lst.getD k noG) (l.getD (i' + 1) noC) ((Gs.getD (i' + 1) []).getD j noG)
      · rw [stepR_ok hs]; exact ⟨fun _ => hs, fun _ => rfl⟩
      · rw [stepR_no hs]; exact ⟨fun e => (by cases e), fun e => absurd e hs⟩
    replace hstp := hstp _ hiff
    generalize stepR h (l.getD i' noC) (Lst.getD k noG) (l.getD (i' + 1) noC) ((Gs.getD (i' + 1) []).getD j noG) = sr at STk hstp
    obtain ⟨sn, sb⟩ := sr
    dsimp only at STk hstp
    replace hstp := Hid.mk hstp
    clear fin hb hR hiff k3 eg
    repeat' (with_reducible first | refine x_ops ?_ | refine wk ?_ | (with_reducible refine xc (STk) ?_) | ((first | refine gd1 ?_ ?_ | refine gd2 ?_ ?_ | refine gd3 ?_ ?_) <;> (first | exact @False.elim _ | intro hc)))
    exact nf hkl ⟨vv, sb, vv, hstp.out.trans (by simp)⟩ rfl
  rintro t ⟨b, h11, hb⟩
  cases b
  · have hno := rcU_no hRc.out (fun hf => by have := hb.2 hf; cases this)
    replace hno := Hid.mk hno
    clear hb
    repeat' (with_reducible first | refine x_ops ?_ | refine wk ?_ | ((first | refine gd1 ?_ ?_ | refine gd2 ?_ ?_ | refine gd3 ?_ ?_) <;> (first | exact @False.elim _ | intro hc)))
    exact nx hjl ⟨vv, hM', hO', L, tok, vw, hap.out, hno.out⟩
  have hyes := rcU_yes hRc.out (hb.1 rfl)
  have hLj := hRc.out.len
  replace hyes := Hid.mk hyes
  have gL9 := gs_len L
  clear hb
  repeat' (with_reducible first | refine x_ops ?_ | refine wk ?_ | ((first | refine gd1 ?_ ?_ | refine gd2 ?_ ?_ | refine gd3 ?_ ?_) <;> (first | exact @False.elim _ | intro hc)))
  refine x_appb (n := L.length) (xs := L.flatMap Grip.cells) (ys := Grip.cells ((Gs.getD i []).getD j noG)) (k := tok) (k2 := .exact) vw (by unfold Grip.cells; exact vw) (hap.out.mono (fun q hq _ => rfl) (by show M'.next ≤ M'.next + 11; omega)) (by rw [gL9]) rfl (by omega) (by unfold Go.maxLen; omega) (by show M'.next + 9 < M'.next + 11; omega) ?_
  intro tok' m5 hap' hn5 hbox hobj
  replace hn5 : m5.next = M'.next + 11 := hn5
  have o5 := hbox 0 _ _ hO' (by show ¬ 0 = M'.next + 9; omega)
  replace hap' := Hid.mk hap'
  replace hn5 := Hid.mk hn5
  clear hbox hobj hO'
  repeat' (with_reducible first | refine x_ops ?_ | refine wk ?_ | ((first | refine gd1 ?_ ?_ | refine gd2 ?_ ?_ | refine gd3 ?_ ?_) <;> (first | exact @False.elim _ | intro hc)))
  refine nx hjl ⟨vv, by (show 2 ≤ m5.next; have := hn5.out; omega), o5, L ++ [grp Gs i j], tok', ?_, ?_, hyes.out⟩
  · rw [List.length_append, List.flatMap_append, List.flatMap_singleton]; exact vv
  · rw [List.length_append]; exact hap'.out
end Go.Proofs.Ytojjdkoglhecbaa
