/- The queue of the lister, run: before and push. The queue of the lister, run: pop. The lister, run: the ways of a net that stands; the ways of a grip, in plain terms. The lister, run: a node, as it is made. The lister, run: a node is made. The lister, run: the node of a grip. The lister, run: the first of what a node lists. The lister, run: get, for the first rank. A list in a box that grows. Nothing is proved of the program here. The lister, run: it is made. The best fingering of a net, in plain terms. Nothing is run here. The lister, run: the first fingering, and Best. The least costs of a net, in plain terms. Nothing is run here. What each grip's node lists, in plain terms: all ways to the end, in order. Nothing is run here. Tails, as the reference's search makes them: values, and what is left where only the first few are kept. Nothing is run here. Where a node stands: what it has found, and what is in its queue, in plain terms. Nothing is run here. Where nodes stand at first: the first ways, in plain terms. Nothing is run here. -/
import Derived.Test.YtojjdkoglhecbaaG0
import Derived.Test.YtojjdkoglhecbaaWk
import Derived.Test.YtojjdkoglhecbaaYB03
import Derived.Test.YtojjdkoglhecbaaYB04
import Derived.Test.YtojjdkoglhecbaaXw
import Derived.Test.YtojjdkoglhecbaaYB06
import Derived.Test.YtojjdkoglhecbaaYB07
set_option linter.unusedSimpArgs false
set_option linter.unusedVariables false
namespace Go.Proofs.Ytojjdkoglhecbaa
open Go.RowKit

theorem wbefore_fn (a b : Way) : Fn Try.prog Gd 110 [.agg (wyE a), .agg (wyE b)] (vbool (befW a b)) := by
  refine Fn.of_vx0 k_hand_way_before (by simp) (by simp [V.pures, V.pure, wyE, vint]) ?_
  unfold c_hand_way_before wyE befW
  by_cases h : a.1 = b.1
  · have e1 : (a.1 == b.1) = true := by rw [beq_iff_eq]; exact h
    rw [if_pos h]
    clear h
    repeat' (with_reducible first | refine x_ops ?_ | refine wk ?_ | ((first | refine gd1 ?_ ?_ | refine gd2 ?_ ?_ | refine gd3 ?_ ?_) <;> (first | exact @False.elim _ | intro hc)))
    exact finV_lit vv rfl
  · have e1 : (a.1 == b.1) = false := by rw [beq_eq_false_iff_ne]; exact h
    rw [if_neg h]
    clear h
    repeat' (with_reducible first | refine x_ops ?_ | refine wk ?_ | ((first | refine gd1 ?_ ?_ | refine gd2 ?_ ?_ | refine gd3 ?_ ?_) <;> (first | exact @False.elim _ | intro hc)))
    exact finV_lit vv rfl
theorem call_before : callable Try.prog 110 = true := by kernel_rfl

/-- The cells of ways. -/
def wyC (L : List Way) : List V := L.flatMap wyE
theorem wyC_len (L : List Way) : (wyC L).length = L.length * 3 := flat_len wy_l L
theorem wyC_at {L : List Way} {i : Nat} (hi : i < L.length) : ((wyC L).drop (i * 3)).take 3 = [vint (L.getD i noW).1, vint (L.getD i noW).2.1, vint (L.getD i noW).2.2] := flat_take wy_l noW hi
theorem wyC_one (L : List Way) : (wyC L).all V.one = true := by
  rw [List.all_eq_true]
  intro v hv
  rw [wyC, List.mem_flatMap] at hv
  obtain ⟨w, _, hw⟩ := hv
  unfold wyE at hw
  simp only [List.mem_cons, List.not_mem_nil, or_false] at hw
  rcases hw with rfl | rfl | rfl <;> rfl
theorem wyC_app (L R : List Way) : wyC (L ++ R) = wyC L ++ wyC R := List.flatMap_append
theorem wyC_take (L : List Way) (k : Nat) : (wyC L).take (k * 3) = wyC (L.take k) := flat_take_n wy_l L k
theorem wyC_set {L : List Way} {i : Nat} (hi : i < L.length) (w : Way) : wyC (L.set i w) = (wyC L).take (i * 3) ++ wyE w ++ (wyC L).drop (i * 3 + 3) := by
  rw [set_eq hi, wyC, List.flatMap_append, List.flatMap_cons, ← List.append_assoc]
  congr 1
  · congr 1; exact (flat_take_n wy_l L i).symm
  · have := flat_drop_n wy_l L (i + 1)
    rw [Nat.add_mul, Nat.one_mul] at this
    exact this.symm
/-- The list of a queue in memory: its ways, and what lies behind them. -/
def QV (M : Mm) (v : V) (H : List Way) : Prop := (v = .sl 0 [] .exact ∧ H = []) ∨ ∃ id R, v = .gsl id H.length 3 ∧ id < M.next ∧ M.obj id = some (.box (wyC (H ++ R)) 154)
theorem QV.mono {M M' : Mm} {v : V} {H : List Way} (h : QV M v H) (hn : M.next ≤ M'.next) (ho : ∀ q n, v = .gsl q n 3 → M'.obj q = M.obj q) : QV M' v H := by
  rcases h with h | ⟨id, R, h1, h2, h3⟩
  · exact .inl h
  · exact .inr ⟨id, R, h1, Nat.lt_of_lt_of_le h2 hn, by rw [ho id _ h1]; exact h3⟩
section
variable {P : Program} {G : Ground}
/-- One more at the end of a queue's list. -/
theorem x_appQ {base i : Nat} {d : Option Nat} {x y : Opd} {l : List VI} {s : St} {K : St → Prop} {v : V} {H : List Way} {w : Way} {k2 : Tok} (hx : s.ev x = v) (hq : QV s.m v H) (hy : s.ev y = .sl 1 [vint w.1, vint w.2.1, vint w.2.2] k2) (hl : H.length ≤ 1000000)
    (h : ∀ m', m'.next = s.m.next → (∀ q, q ≠ base + i → (∀ n, v ≠ .gsl q n 3) → m'.obj q = s.m.obj q) → m'.obj (base + i) = some (.box (wyC (H ++ [w])) 154) → goR P G base (some ⟨putT s.t d (.gsl (base + i) (H.length + 1) 3), m'⟩) l (i + 1) K) :
    vrun P G base i (⟨d, none, .appM 154 3 24, [x, y], none⟩ :: l) s K := by
  have hr : rdS s.m 3 (s.ev y) = some (1, [vint w.1, vint w.2.1, vint w.2.2]) := by rw [hy]; rfl
  rcases hq with ⟨rfl, rfl⟩ | ⟨id, R, rfl, hid, ho⟩
  · refine x_appM0 (n := 0) (j := 1) (xs := []) hx hr rfl (by decide) (by decide) ?_
    rw [if_neg (by decide)]
    exact h _ rfl (fun q hq _ => put_other _ _ hq) (put_same _ _ _)
  · have e1 : (wyC (H ++ R)).take (H.length * 3) = wyC H := by rw [wyC_take, List.take_left' rfl]
    refine x_appM (j := 1) hx hr ho (by rw [wyC_len, List.length_append]; exact Nat.mul_le_mul_right 3 (Nat.le_add_right _ _)) (by rw [e1]; exact wyC_one H) (by omega) (by unfold Go.maxLen; omega) ?_
    rw [e1]
    refine h _ rfl (fun q hq hq2 => (put_other _ _ hq).trans (if_neg fun e => hq2 H.length (by rw [e]))) ?_
    rw [wyC_app]; exact put_same _ _ _
end

/-- Where push stands. -/
structure PsSt (M : Mm) (nb : Nat) (fv v dv : V) (H : List Way) (w : Way) (i : Nat) (L : List Way) (M' : Mm) : Prop where
  nx : M'.next = M.next + 12
  len : L.length = H.length + 1
  up : UpOk L i
  perm : L.Perm (H ++ [w])
  qo : M'.obj (M.next + 8) = some (.box (wyC L) 154)
  nbo : M'.obj nb = some (.box [fv, .gsl (M.next + 8) (H.length + 1) 3, .fn 110 [], dv] 159)
  fr : ∀ q, q < M.next → q ≠ nb → (∀ n, v ≠ .gsl q n 3) → M'.obj q = M.obj q
theorem up_new {H : List Way} (hh : HpOk H) (w : Way) : UpOk (H ++ [w]) H.length := by
  have lo : ∀ y, y < H.length → (H ++ [w]).getD y noW = H.getD y noW := fun y hy => by
    rw [List.getD_eq_getElem?_getD, List.getElem?_append_left hy, List.getD_eq_getElem?_getD]
  refine ⟨by simp, fun j j0 hj hjn => ?_, fun h0 j j0 hj hjp => ?_⟩
  · rw [List.length_append] at hj
    have : j < H.length := by simp at hj; omega
    rw [lo j this, lo _ (by omega)]
    exact hh j j0 this
  · simp at hj; omega

set_option maxHeartbeats 4000000 in
theorem push_sfn {M : Mm} {nb : Nat} {fv v dv : V} {H : List Way} {w : Way} (hb : M.obj nb = some (.box [fv, v, .fn 110 [], dv] 159)) (hn : nb < M.next) (hq : QV M v H) (hh : HpOk H) (hl : H.length ≤ 100000) :
    SFn Try.prog Gd 111 [.ptr nb 1, .agg (wyE w)] M fun r M' => r = .tup [] ∧ M.next ≤ M'.next ∧ ∃ id H', M.next ≤ id ∧ M'.obj nb = some (.box [fv, .gsl id (H.length + 1) 3, .fn 110 [], dv] 159) ∧
      id < M'.next ∧ M'.obj id = some (.box (wyC H') 154) ∧ H'.length = H.length + 1 ∧ HpOk H' ∧ H'.Perm (H ++ [w]) ∧ ∀ q, q < M.next → q ≠ nb → (∀ n, v ≠ .gsl q n 3) → M'.obj q = M.obj q := by
  refine SFn.of_vxS k_hand_queue_hand_way_push_b (by simp) ?_
  have x0 : ¬ nb = M.next := by omega
  have x1 : nb < M.next + 1 := by omega
  have x2 : M.next < M.next + 1 := by omega
  have hvn : ∀ q n, v = .gsl q n 3 → q < M.next ∧ q ≠ nb := fun q n e => by
    rcases hq with ⟨h1, _⟩ | ⟨id, R, h1, h2, h3⟩
    · rw [h1] at e; cases e
    · rw [h1] at e; injection e with e1 e2; subst e1
      exact ⟨h2, fun e => by subst e; rw [h3] at hb; injection hb with hb; injection hb with _ hb; cases hb⟩
  unfold c_hand_queue_hand_way_push_b wyE
  have hq0 := Hid.mk hq
  clear hq
  repeat' (with_reducible first | refine x_ops ?_ | refine wk ?_ | ((first | refine gd1 ?_ ?_ | refine gd2 ?_ ?_ | refine gd3 ?_ ?_) <;> (first | exact @False.elim _ | intro hc)))
  refine x_appQ (v := v) (H := H) (w := w) (k2 := .exact) vw (hq0.out.mono (by show M.next ≤ M.next + 12; omega) (fun q n e => put_other _ _ (by have := (hvn q n e).1; omega))) vw (by omega) ?_
  intro m1 n1 f1 b1
  replace n1 : m1.next = M.next + 12 := n1
  have hb1 : m1.obj nb = some (.box [fv, v, .fn 110 [], dv] 159) := by
    rw [f1 nb (by show ¬ nb = M.next + 8; omega) (fun n e => (hvn nb n e).2 rfl)]
    exact (put_other _ _ x0).trans hb
  have old1 : ∀ q, q < M.next → (∀ n, v ≠ .gsl q n 3) → m1.obj q = M.obj q := fun q hq hv => (f1 q (by show ¬ q = M.next + 8; omega) hv).trans (put_other _ _ (by omega))
  have w1 : IntKind.i64.wrap (((H.length + 1 : Nat) : Int) - 1) = (H.length : Int) := by rw [w_in (by omega)]; omega
  have b1' : m1.obj (M.next + 8) = some (.box (wyC (H ++ [w])) 154) := b1
  have y0 : ¬ M.next + 8 = nb := by omega
  replace n1 := Hid.mk n1
  replace old1 := Hid.mk old1
  clear f1 b1 hb
  repeat' (with_reducible first | refine x_ops ?_ | refine wk ?_ | ((first | refine gd1 ?_ ?_ | refine gd2 ?_ ?_ | refine gd3 ?_ ?_) <;> (first | exact @False.elim _ | intro hc)))
  refine x_genM (fun t M' => (t 0 = .ptr nb 1 ∧ t 4 = vint H.length) ∧ PsSt M nb fv v dv H w H.length (H ++ [w]) M') ⟨⟨vv, vv⟩, ⟨n1.out, by simp, up_new hh w, .refl _, ?_, ?_, fun q hq hqn hv => ?_⟩⟩ ?_
  · exact (put_other _ _ y0).trans b1'
  · exact put_same _ _ _
  · exact (put_other _ _ hqn).trans (old1.out q hq hv)
  clear w1 b1' hb1 n1 old1 hh hq0
  rintro t1 M1 ⟨⟨a0, a4⟩, hs0⟩
  refine x_loopW w_hand_queue_hand_way_push_b_p3 kr H.length (fun k t M' => ∃ (i : Nat) (L : List Way), t 4 = vint (i : Int) ∧ i + k ≤ H.length ∧ PsSt M nb fv v dv H w i L M') ?_ ?_
  · exact ⟨H.length, H ++ [w], a4, by omega, hs0⟩
  clear a4 hs0
  rintro k t M' hk ⟨i, L, h4, hik, hs⟩
  have hnx := hs.nx
  have hqo := hs.qo
  have hnb := hs.nbo
  have q0 : nb < M'.next := by omega
  have q1 : M.next + 8 < M'.next := by omega
  have fin : HpOk L → ∃ id H', M.next ≤ id ∧ M'.obj nb = some (.box [fv, .gsl id (H.length + 1) 3, .fn 110 [], dv] 159) ∧
      id < M'.next ∧ M'.obj id = some (.box (wyC H') 154) ∧ H'.length = H.length + 1 ∧ HpOk H' ∧ H'.Perm (H ++ [w]) ∧ ∀ q, q < M.next → q ≠ nb → (∀ n, v ≠ .gsl q n 3) → M'.obj q = M.obj q :=
    fun hp => ⟨M.next + 8, L, by omega, hnb, q1, hqo, hs.len, hp, hs.perm, hs.fr⟩
  have hMM : M.next ≤ M'.next := by omega
  replace fin := Hid.mk fin
  by_cases hi0 : i = 0
  · subst hi0
    have c1 : ¬ (0 : Int) < ((0 : Nat) : Int) := by decide
    have hfin := Hid.mk (fin.out (up_end hs.up (.inl rfl)))
    replace hs := Hid.mk hs
    replace hnx := Hid.mk hnx
    clear hqo hnb
    repeat' (with_reducible first | refine x_ops ?_ | refine wk ?_ | ((first | refine gd1 ?_ ?_ | refine gd2 ?_ ?_ | refine gd3 ?_ ?_) <;> (first | exact @False.elim _ | intro hc)))
    exact ⟨.inl rfl, .tup [], vv, rfl, hMM, hfin.out⟩
  have hiL : i < L.length := hs.up.lt
  have hpL : (i - 1) / 2 < L.length := by omega
  have c1 : (0 : Int) < (i : Int) := by omega
  have hlen := hs.len
  have c2 : (i : Int) < ((H.length + 1 : Nat) : Int) := by omega
  have c3 : (((i - 1) / 2 : Nat) : Int) < ((H.length + 1 : Nat) : Int) := by omega
  have w1 : IntKind.i64.wrap ((i : Int) - 1) = ((i - 1 : Nat) : Int) := by rw [w_in (by omega)]; omega
  have w2 : ((i - 1 : Nat) : Int).tdiv 2 = (((i - 1) / 2 : Nat) : Int) := rfl
  have w3 : IntKind.i64.wrap (((i - 1) / 2 : Nat) : Int) = (((i - 1) / 2 : Nat) : Int) := w_in (by omega)
  have n2 : ¬ (2 : Int) = 0 := by decide
  have g1 := wyC_at hiL
  have g2 := wyC_at hpL
  have g3 := wyC_len L
  rw [hlen] at g3
  have c4 : i * 3 + 3 ≤ (H.length + 1) * 3 := by omega
  have c5 : (i - 1) / 2 * 3 + 3 ≤ (H.length + 1) * 3 := by omega
  have BF := wbefore_fn (L.getD i noW) (L.getD ((i - 1) / 2) noW)
  unfold wyE at BF
  have hbad : befW (L.getD i noW) (L.getD ((i - 1) / 2) noW) = false → HpOk L := fun h1 => up_end hs.up (.inr h1)
  have hstp : befW (L.getD i noW) (L.getD ((i - 1) / 2) noW) = true → UpOk (swW L i ((i - 1) / 2)) ((i - 1) / 2) := fun h1 => up_step hs.up (by omega) h1
  have eA := (wyC_set hiL (L.getD ((i - 1) / 2) noW)).symm
  have eB := (wyC_set (L := L.set i (L.getD ((i - 1) / 2) noW)) (i := (i - 1) / 2) (by rw [List.length_set]; exact hpL) (L.getD i noW)).symm
  have lA := wyC_len (L.set i (L.getD ((i - 1) / 2) noW))
  rw [List.length_set, hlen] at lA
  unfold wyE vint at eA eB
  have esw : (L.set i (L.getD ((i - 1) / 2) noW)).set ((i - 1) / 2) (L.getD i noW) = swW L i ((i - 1) / 2) := rfl
  rw [esw] at eB
  have hperm := (swW_perm hiL hpL).trans hs.perm
  have hlsw := (swW_len L i ((i - 1) / 2)).trans hlen
  have hpi : (i - 1) / 2 + (k + 1) ≤ H.length := by omega
  have hkN : k < H.length := by omega
  have hfr := hs.fr
  generalize hpe : (i - 1) / 2 = p at *
  replace hs := Hid.mk hs
  replace hpe := Hid.mk hpe
  replace hlen := Hid.mk hlen
  replace hperm := Hid.mk hperm
  replace hlsw := Hid.mk hlsw
  replace hfr := Hid.mk hfr
  replace hnx := Hid.mk hnx
  replace hstp := Hid.mk hstp
  replace hbad := Hid.mk hbad
  replace hpi := Hid.mk hpi
  replace hik := Hid.mk hik
  clear hi0 hk esw
  cases hbf : befW (L.getD i noW) (L.getD p noW)
  · rw [hbf] at BF
    have hfin := Hid.mk (fin.out (hbad.out hbf))
    clear hbf
    repeat' (with_reducible first | refine x_ops ?_ | refine wk ?_ | ((first | refine gd1 ?_ ?_ | refine gd2 ?_ ?_ | refine gd3 ?_ ?_) <;> (first | exact @False.elim _ | intro hc)))
    refine x_callv (f := 110) (cs := []) (Post := fun r m' => r = vbool false ∧ m' = M') vw call_before (by (simp only [go_sem, Nat.reduceAdd, Nat.reduceEqDiff, Nat.reduceLT, Nat.reduceLeDiff, Nat.reduceMul, Nat.reduceSub, Nat.reducePow, Nat.reduceDiv, Nat.reduceMod, Nat.reduceBEq, Int.reduceBEq, Int.reduceLT, reduceIte, V.norms, V.norm, tIs, tBs, tPs, *]); exact BF M') ⟨_, _, rfl, rfl⟩ ?_
    rintro r m' ⟨rfl, rfl⟩
    repeat' (with_reducible first | refine x_ops ?_ | refine wk ?_ | ((first | refine gd1 ?_ ?_ | refine gd2 ?_ ?_ | refine gd3 ?_ ?_) <;> (first | exact @False.elim _ | intro hc)))
    exact ⟨.inl rfl, .tup [], vv, rfl, hMM, hfin.out⟩
  rw [hbf] at BF
  have hnup := Hid.mk (hstp.out hbf)
  clear hbf
  repeat' (with_reducible first | refine x_ops ?_ | refine wk ?_ | ((first | refine gd1 ?_ ?_ | refine gd2 ?_ ?_ | refine gd3 ?_ ?_) <;> (first | exact @False.elim _ | intro hc)))
  refine x_callv (f := 110) (cs := []) (Post := fun r m' => r = vbool true ∧ m' = M') vw call_before (by (simp only [go_sem, Nat.reduceAdd, Nat.reduceEqDiff, Nat.reduceLT, Nat.reduceLeDiff, Nat.reduceMul, Nat.reduceSub, Nat.reducePow, Nat.reduceDiv, Nat.reduceMod, Nat.reduceBEq, Int.reduceBEq, Int.reduceLT, reduceIte, V.norms, V.norm, tIs, tBs, tPs, *]); exact BF M') ⟨_, _, rfl, rfl⟩ ?_
  rintro r m' ⟨rfl, rfl⟩
  repeat' (with_reducible first | refine x_ops ?_ | refine wk ?_ | ((first | refine gd1 ?_ ?_ | refine gd2 ?_ ?_ | refine gd3 ?_ ?_) <;> (first | exact @False.elim _ | intro hc)))
  have e5 : ∀ a b : AObj, ((m'.put (M.next + 8) a).put (M.next + 8) b).obj (M.next + 8) = some b := fun a b => put_same _ _ _
  refine nx hkN ⟨p, swW L i p, vv, hpi.out, ⟨hnx.out, hlsw.out, hnup.out, hperm.out, put_same _ _ _, ?_, fun q hq hqn hv => ?_⟩⟩
  · exact (put_other _ _ (fun e => y0 e.symm)).trans ((put_other _ _ (fun e => y0 e.symm)).trans hnb)
  · exact (put_other _ _ (by omega)).trans ((put_other _ _ (by omega)).trans (hfr.out q hq hqn hv))
/-- What push leaves. -/
def PshPost (M : Mm) (nb : Nat) (fv v dv : V) (H : List Way) (w : Way) (r : V) (M' : Mm) : Prop :=
  r = .tup [] ∧ M.next ≤ M'.next ∧ ∃ id H', M.next ≤ id ∧ M'.obj nb = some (.box [fv, .gsl id (H.length + 1) 3, .fn 110 [], dv] 159) ∧
      id < M'.next ∧ M'.obj id = some (.box (wyC H') 154) ∧ H'.length = H.length + 1 ∧ HpOk H' ∧ H'.Perm (H ++ [w]) ∧ ∀ q, q < M.next → q ≠ nb → (∀ n, v ≠ .gsl q n 3) → M'.obj q = M.obj q
theorem push_psh {M : Mm} {nb : Nat} {fv v dv : V} {H : List Way} {w : Way} (hb : M.obj nb = some (.box [fv, v, .fn 110 [], dv] 159)) (hn : nb < M.next) (hq : QV M v H) (hh : HpOk H) (hl : H.length ≤ 100000) :
    SFn Try.prog Gd 111 [.ptr nb 1, .agg [vint w.1, vint w.2.1, vint w.2.2]] M (PshPost M nb fv v dv H w) := push_sfn hb hn hq hh hl
theorem up_all : ∀ (i : Nat) (L : List Way), UpOk L i → ∃ L', HpOk L' ∧ L'.Perm L := by
  intro i
  induction i using Nat.strongRecOn with
  | ind i ih =>
    intro L h
    by_cases h0 : i = 0
    · exact ⟨L, up_end h (.inl h0), .refl _⟩
    · cases hb : befW (L.getD i noW) (L.getD ((i - 1) / 2) noW)
      · exact ⟨L, up_end h (.inr hb), .refl _⟩
      · obtain ⟨L', h1, h2⟩ := ih ((i - 1) / 2) (by omega) _ (up_step h (by omega) hb)
        have := h.lt
        exact ⟨L', h1, h2.trans (swW_perm h.lt (by omega))⟩
theorem PshPost.some {M : Mm} {nb : Nat} {fv v dv : V} {H : List Way} (w : Way) (hn : nb < M.next) (hh : HpOk H) : ∃ r M', PshPost M nb fv v dv H w r M' := by
  obtain ⟨L, h1, h2⟩ := up_all _ _ (up_new hh w)
  refine ⟨.tup [], ((⟨M.obj, M.next + 1⟩ : Mm).put M.next (.box (wyC L) 154)).put nb (.box [fv, .gsl M.next (H.length + 1) 3, .fn 110 [], dv] 159), rfl, Nat.le_succ _, M.next, L, Nat.le_refl _, put_same _ _ _, Nat.lt_succ_self _, (put_other _ _ (by omega)).trans (put_same _ _ _), by have := h2.length_eq; simpa using this, h1, h2, fun q hq hqn _ => (put_other _ _ hqn).trans (put_other _ _ (by omega))⟩
end Go.Proofs.Ytojjdkoglhecbaa
namespace Go.Proofs.Ytojjdkoglhecbaa
open Go.RowKit

/-- The first is gone, the last is in its place. -/
def hdW (H : List Way) : List Way := (H.set 0 (H.getD (H.length - 1) noW)).take (H.length - 1)
theorem hdW_len (H : List Way) : (hdW H).length = H.length - 1 := by rw [hdW, List.length_take, List.length_set]; omega
theorem hdW_at {H : List Way} {j : Nat} (hj : j < H.length - 1) : (hdW H).getD j noW = if j = 0 then H.getD (H.length - 1) noW else H.getD j noW := by
  have gen : ∀ (L : List Way) (k : Nat), j < k → (L.take k).getD j noW = L.getD j noW := fun L k h => by simp [List.getD_eq_getElem?_getD, List.getElem?_take, h]
  rw [hdW, gen _ _ hj, getD_setW]
  by_cases e : j = 0
  · subst e; rw [if_pos ⟨rfl, by omega⟩, if_pos rfl]
  · rw [if_neg (fun h => e h.1.symm), if_neg e]
theorem hdW_dn {H : List Way} (h : HpOk H) : DnOk (hdW H) 0 := by
  refine ⟨fun j j0 hj hjp => ?_, fun h0 => by omega⟩
  rw [hdW_len] at hj
  rw [hdW_at hj, hdW_at (show (j - 1) / 2 < H.length - 1 by omega), if_neg (by omega), if_neg hjp]
  exact h j j0 (by omega)
theorem hdW_perm {H : List Way} (h0 : 0 < H.length) : (H.getD 0 noW :: hdW H).Perm H := by
  obtain ⟨a, T, rfl⟩ : ∃ a T, H = a :: T := by
    cases H with
    | nil => simp at h0
    | cons a T => exact ⟨a, T, rfl⟩
  rcases List.eq_nil_or_concat T with rfl | ⟨T', b, rfl⟩
  · exact .refl _
  · have e1 : (a :: T'.concat b).getD ((a :: T'.concat b).length - 1) noW = b := by simp [List.getD_eq_getElem?_getD]
    have e2 : hdW (a :: T'.concat b) = b :: T' := by
      rw [hdW, e1]; simp
    rw [e2]
    show (a :: b :: T').Perm (a :: T'.concat b)
    rw [List.concat_eq_append]
    exact .cons a (List.perm_append_singleton b T').symm

/-- Where pop stands. -/
structure PpSt (M : Mm) (nb id : Nat) (fv dv : V) (H R : List Way) (i : Nat) (L : List Way) (M' : Mm) : Prop where
  nx : M'.next = M.next + 2
  len : L.length = H.length - 1
  dn : DnOk L i
  perm : L.Perm (hdW H)
  qo : M'.obj id = some (.box (wyC (L ++ R)) 154)
  xo : M'.obj M.next = some (.box [vint (H.getD 0 noW).1, vint (H.getD 0 noW).2.1, vint (H.getD 0 noW).2.2] 154)
  nbo : M'.obj nb = some (.box [fv, .gsl id (H.length - 1) 3, .fn 110 [], dv] 159)
  fr : ∀ q, q < M.next → q ≠ nb → q ≠ id → M'.obj q = M.obj q

set_option maxHeartbeats 4000000 in
theorem pop_none {M : Mm} {nb : Nat} {fv v dv : V} (hb : M.obj nb = some (.box [fv, v, .fn 110 [], dv] 159)) (hn : nb < M.next) (hq : QV M v []) :
    SFn Try.prog Gd 135 [.ptr nb 1] M fun r M' => r = .tup [.agg [vint 0, vint 0, vint 0], vbool false] ∧ M.next ≤ M'.next ∧ ∀ q, q < M.next → M'.obj q = M.obj q := by
  refine SFn.of_vxS k_hand_queue_hand_way_pop (by simp) ?_
  have x0 : ¬ nb = M.next := by omega
  have x1 : nb < M.next + 2 := by omega
  have hl : pureSem .len [v] = some (vint 0) := by
    rcases hq with ⟨rfl, _⟩ | ⟨id, R, rfl, _⟩ <;> rfl
  simp only [pureSem, vint] at hl
  unfold c_hand_queue_hand_way_pop
  clear hq
  repeat' (with_reducible first | refine x_ops ?_ | refine wk ?_ | ((first | refine gd1 ?_ ?_ | refine gd2 ?_ ?_ | refine gd3 ?_ ?_) <;> (first | exact @False.elim _ | intro hc)))
  exact ⟨.inr rfl, _, vv, rfl, by show M.next ≤ M.next + 2; omega, fun q hq => by ((simp only [put_obj]; repeat rw [if_neg (by omega)]))⟩

set_option maxHeartbeats 4000000 in
theorem pop_sfn {M : Mm} {nb id : Nat} {fv dv : V} {H R : List Way} (hb : M.obj nb = some (.box [fv, .gsl id H.length 3, .fn 110 [], dv] 159)) (hn : nb < M.next) (hid : id < M.next)
    (ho : M.obj id = some (.box (wyC (H ++ R)) 154)) (h0 : 0 < H.length) (hh : HpOk H) (hl : H.length ≤ 100000) :
    SFn Try.prog Gd 135 [.ptr nb 1] M fun r M' => r = .tup [.agg [vint (H.getD 0 noW).1, vint (H.getD 0 noW).2.1, vint (H.getD 0 noW).2.2], vbool true] ∧ M.next ≤ M'.next ∧ ∃ H' R', M'.obj nb = some (.box [fv, .gsl id (H.length - 1) 3, .fn 110 [], dv] 159) ∧
      M'.obj id = some (.box (wyC (H' ++ R')) 154) ∧ H'.length = H.length - 1 ∧ HpOk H' ∧ (H.getD 0 noW :: H').Perm H ∧ ∀ q, q < M.next → q ≠ nb → q ≠ id → M'.obj q = M.obj q := by
  refine SFn.of_vxS k_hand_queue_hand_way_pop (by simp) ?_
  have hne : nb ≠ id := fun e => by subst e; rw [ho] at hb; injection hb with hb; injection hb with _ hb; cases hb
  have x0 : ¬ nb = M.next := by omega
  have x1 : nb < M.next + 2 := by omega
  have x2 : ¬ id = M.next := by omega
  have x3 : id < M.next + 2 := by omega
  have x4 : ¬ id = nb := fun e => hne e.symm
  have x5 : ¬ M.next = id := by omega
  have x6 : ¬ nb = id := hne
  have x7 : ¬ M.next = nb := by omega
  have e1 : ((H.length : Int) == 0) = false := by rw [beq_eq_false_iff_ne]; omega
  have c1 : (0 : Int) < (H.length : Int) := by omega
  have c2 : ((H.length - 1 : Nat) : Int) < (H.length : Int) := by omega
  have w1 : IntKind.i64.wrap ((H.length : Int) - 1) = ((H.length - 1 : Nat) : Int) := by rw [w_in (by omega)]; omega
  have lo : ∀ j, j < H.length → (H ++ R).getD j noW = H.getD j noW := fun j hj => by
    rw [List.getD_eq_getElem?_getD, List.getElem?_append_left hj, List.getD_eq_getElem?_getD]
  have g0 := wyC_at (L := H ++ R) (i := 0) (by rw [List.length_append]; omega)
  rw [lo 0 h0, Nat.zero_mul, List.drop_zero] at g0
  have g1 := wyC_at (L := H ++ R) (i := H.length - 1) (by rw [List.length_append]; omega)
  rw [lo _ (by omega)] at g1
  have g2 := wyC_len (H ++ R)
  have c3 : 3 ≤ (H ++ R).length * 3 := by rw [List.length_append]; omega
  have c4 : (H.length - 1) * 3 + 3 ≤ (H ++ R).length * 3 := by rw [List.length_append]; omega
  have hsl : vslc 3 false true (.gsl id H.length 3) [.lit (.int .i64 ((H.length - 1 : Nat) : Int))] = some (.gsl id (H.length - 1) 3) := by
    simp only [vslc, bnds, Bool.false_eq_true, if_false, if_true]
    rw [if_pos ⟨Int.le_refl _, Int.natCast_nonneg _, by omega⟩]
    rfl
  unfold c_hand_queue_hand_way_pop
  replace hl := Hid.mk hl
  replace h0 := Hid.mk h0
  have hb0 := Hid.mk hb
  have ho0 := Hid.mk ho
  clear lo hne
  repeat' (with_reducible first | refine x_ops ?_ | refine wk ?_ | ((first | refine gd1 ?_ ?_ | refine gd2 ?_ ?_ | refine gd3 ?_ ?_) <;> (first | exact @False.elim _ | intro hc)))
  have hW : wyC (hdW H ++ ((H.set 0 (H.getD (H.length - 1) noW)).drop (H.length - 1) ++ R)) = wyE (H.getD (H.length - 1) noW) ++ (wyC (H ++ R)).drop 3 := by
    rw [← List.append_assoc, hdW, List.take_append_drop, ← List.set_append_left _ _ h0.out, wyC_set (by rw [List.length_append]; have := h0.out; omega)]
    simp
  have hhd := hdW_dn hh
  generalize (H.set 0 (H.getD (H.length - 1) noW)).drop (H.length - 1) ++ R = R1 at hW
  refine x_genM (fun t M' => (t 0 = .ptr nb 1 ∧ t 2 = .ptr M.next 0 ∧ t 4 = vint ((H.length - 1 : Nat) : Int) ∧ t 5 = vint 0) ∧ PpSt M nb id fv dv H R1 0 (hdW H) M') ⟨⟨vv, vv, vv, vv⟩, ⟨rfl, hdW_len H, hhd, .refl _, ?_, ?_, ?_, fun q hq hqn hqi => ?_⟩⟩ ?_
  · refine (put_other _ _ x4).trans ((put_same _ _ _).trans ?_)
    rw [hW]; unfold wyE; simp [vint]
  · simp only [put_obj]; repeat rw [if_neg (by omega)]
    rw [if_pos True.intro]; rfl
  · exact put_same _ _ _
  · simp only [put_obj]; repeat rw [if_neg (by omega)]
  clear g0 g1 g2 hW hhd hb ho c1 c2 c3 c4 w1 hsl e1 hh
  rintro t1 M1 ⟨⟨a0, a2, a4, a5⟩, hs0⟩
  have h0' := h0.out
  have hl' := hl.out
  refine x_loopW w_hand_queue_hand_way_pop_p12 kr (H.length - 1) (fun k t M' => ∃ (i : Nat) (L : List Way), t 5 = vint (i : Int) ∧ (k ≤ i ∧ (i < H.length - 1 ∨ i = 0)) ∧ PpSt M nb id fv dv H R1 i L M') ?_ ?_
  · exact ⟨0, hdW H, a5, ⟨Nat.le_refl _, .inr rfl⟩, hs0⟩
  clear a5 hs0
  rintro k t M' hk ⟨i, L, h5, ⟨hki, hiL⟩, hs⟩
  have hnx := hs.nx
  have hqo := hs.qo
  have hnb := hs.nbo
  have hxo := hs.xo
  have hlen := hs.len
  have q0 : nb < M'.next := by omega
  have q1 : id < M'.next := by omega
  have q2 : M.next < M'.next := by omega
  have hMM : M.next ≤ M'.next := by omega
  have w1 : IntKind.i64.wrap (2 * (i : Int)) = ((2 * i : Nat) : Int) := by rw [w_in (by omega)]; omega
  have w2 : IntKind.i64.wrap (((2 * i : Nat) : Int) + 1) = ((2 * i + 1 : Nat) : Int) := by rw [w_in (by omega)]; omega
  have w3 : IntKind.i64.wrap (((2 * i : Nat) : Int) + 2) = ((2 * i + 2 : Nat) : Int) := by rw [w_in (by omega)]; omega
  have lo : ∀ j, j < L.length → (L ++ R1).getD j noW = L.getD j noW := fun j hj => by
    rw [List.getD_eq_getElem?_getD, List.getElem?_append_left hj, List.getD_eq_getElem?_getD]
  have gA : ∀ j, j < L.length → ((wyC (L ++ R1)).drop (j * 3)).take 3 = [vint (L.getD j noW).1, vint (L.getD j noW).2.1, vint (L.getD j noW).2.2] := fun j hj => by
    rw [wyC_at (by rw [List.length_append]; omega), lo j hj]
  have gB : (wyC (L ++ R1)).length = (L ++ R1).length * 3 := wyC_len _
  have gC : ∀ j, j < L.length → j * 3 + 3 ≤ (L ++ R1).length * 3 := fun j hj => by rw [List.length_append]; omega
  replace hs := Hid.mk hs
  replace hlen := Hid.mk hlen
  replace hnx := Hid.mk hnx
  replace gA := Hid.mk gA
  replace gC := Hid.mk gC
  replace lo := Hid.mk lo
  replace hk := Hid.mk hk
  repeat' (with_reducible first | refine x_ops ?_ | refine wk ?_ | ((first | refine gd1 ?_ ?_ | refine gd2 ?_ ?_ | refine gd3 ?_ ?_) <;> (first | exact @False.elim _ | intro hc)))
  refine x_loopF w_hand_queue_hand_way_pop_p5 kr 2 (fun j t => ∃ e c : Nat, c = 2 * i + 1 + j ∧ t 7 = vint (c : Int) ∧ t 6 = vint (e : Int) ∧ (e = i ∨ ((e = 2 * i + 1 ∨ e = 2 * i + 2) ∧ e < L.length)) ∧ ∀ d, (d = i ∨ (2 * i + 1 ≤ d ∧ d < c)) → d < L.length → befW (L.getD d noW) (L.getD e noW) = false) ?_ ?_
  · exact ⟨i, 2 * i + 1, rfl, vv, vv, .inl rfl, fun d hd _ => by
      rcases hd with hd | hd
      · subst hd; exact befW_irr _
      · omega⟩
  rintro j t2 hj ⟨e, c, hc, h7, h6, he, hmin⟩
  replace hmin := Hid.mk hmin
  replace hc := Hid.mk hc
  by_cases hj2 : j < 2 ∧ c < L.length
  · obtain ⟨hj2, hcL⟩ := hj2
    have hce := hc.out
    have cc1 : (c : Int) ≤ ((2 * i + 2 : Nat) : Int) := by omega
    have cc2 : (c : Int) < ((H.length - 1 : Nat) : Int) := by have := hlen.out; omega
    have heL : e < L.length := by rcases he with he | he; omega; exact he.2
    have cc3 : (e : Int) < ((H.length - 1 : Nat) : Int) := by have := hlen.out; omega
    have g1 := gA.out _ hcL
    have g2 := gA.out _ heL
    have g3 := gC.out _ hcL
    have g4 := gC.out _ heL
    have w4 := w_add1 (k := c) (by have := hlen.out; omega)
    have BF := wbefore_fn (L.getD c noW) (L.getD e noW)
    unfold wyE at BF
    have hc1 : c + 1 = 2 * i + 1 + (j + 1) := by omega
    replace hc1 := Hid.mk hc1
    cases hbf : befW (L.getD c noW) (L.getD e noW)
    · rw [hbf] at BF
      have hmin' : ∀ d, (d = i ∨ (2 * i + 1 ≤ d ∧ d < c + 1)) → d < L.length → befW (L.getD d noW) (L.getD e noW) = false := fun d hd hdL => by
        by_cases e9 : d = c
        · subst e9; exact hbf
        · exact hmin.out d (by omega) hdL
      replace hmin' := Hid.mk hmin'
      clear hbf hce
      repeat' (with_reducible first | refine x_ops ?_ | refine wk ?_ | ((first | refine gd1 ?_ ?_ | refine gd2 ?_ ?_ | refine gd3 ?_ ?_) <;> (first | exact @False.elim _ | intro hc)))
      refine x_callv (f := 110) (cs := []) (Post := fun r m' => r = vbool false ∧ m' = M') vw call_before (by (simp only [go_sem, Nat.reduceAdd, Nat.reduceEqDiff, Nat.reduceLT, Nat.reduceLeDiff, Nat.reduceMul, Nat.reduceSub, Nat.reducePow, Nat.reduceDiv, Nat.reduceMod, Nat.reduceBEq, Int.reduceBEq, Int.reduceLT, reduceIte, V.norms, V.norm, tIs, tBs, tPs, *]); exact BF M') ⟨_, _, rfl, rfl⟩ ?_
      rintro r m' ⟨rfl, rfl⟩
      repeat' (with_reducible first | refine x_ops ?_ | refine wk ?_ | ((first | refine gd1 ?_ ?_ | refine gd2 ?_ ?_ | refine gd3 ?_ ?_) <;> (first | exact @False.elim _ | intro hc)))
      exact nf hj2 ⟨e, c + 1, by have := hc1.out; omega, vv, vw, he, hmin'.out⟩ rfl
    · rw [hbf] at BF
      have hmin' : ∀ d, (d = i ∨ (2 * i + 1 ≤ d ∧ d < c + 1)) → d < L.length → befW (L.getD d noW) (L.getD c noW) = false := fun d hd hdL => by
        by_cases e9 : d = c
        · subst e9; exact befW_irr _
        · exact befW_tr (hmin.out d (by omega) hdL) (befW_as hbf)
      replace hmin' := Hid.mk hmin'
      have hcc : (c = i ∨ ((c = 2 * i + 1 ∨ c = 2 * i + 2) ∧ c < L.length)) := .inr ⟨by omega, hcL⟩
      clear hbf hce
      repeat' (with_reducible first | refine x_ops ?_ | refine wk ?_ | ((first | refine gd1 ?_ ?_ | refine gd2 ?_ ?_ | refine gd3 ?_ ?_) <;> (first | exact @False.elim _ | intro hc)))
      refine x_callv (f := 110) (cs := []) (Post := fun r m' => r = vbool true ∧ m' = M') vw call_before (by (simp only [go_sem, Nat.reduceAdd, Nat.reduceEqDiff, Nat.reduceLT, Nat.reduceLeDiff, Nat.reduceMul, Nat.reduceSub, Nat.reducePow, Nat.reduceDiv, Nat.reduceMod, Nat.reduceBEq, Int.reduceBEq, Int.reduceLT, reduceIte, V.norms, V.norm, tIs, tBs, tPs, *]); exact BF M') ⟨_, _, rfl, rfl⟩ ?_
      rintro r m' ⟨rfl, rfl⟩
      repeat' (with_reducible first | refine x_ops ?_ | refine wk ?_ | ((first | refine gd1 ?_ ?_ | refine gd2 ?_ ?_ | refine gd3 ?_ ?_) <;> (first | exact @False.elim _ | intro hc)))
      exact nf hj2 ⟨c, c + 1, by have := hc1.out; omega, vv, vv, hcc, hmin'.out⟩ rfl
  -- all children are seen
  have hall : ∀ d, (d = i ∨ d = 2 * i + 1 ∨ d = 2 * i + 2) → d < L.length → befW (L.getD d noW) (L.getD e noW) = false := fun d hd hdL => hmin.out d (by have := hc.out; omega) hdL
  have hout : (c : Int) ≤ ((2 * i + 2 : Nat) : Int) → ¬ (c : Int) < ((H.length - 1 : Nat) : Int) := fun h1 h2 => hj2 ⟨by have := hc.out; omega, by have := hlen.out; omega⟩
  have fin : HpOk L → ∀ M2 : Mm, (∀ q, q ≠ M.next → M2.obj q = M'.obj q) → ∃ H' R', M2.obj nb = some (.box [fv, .gsl id (H.length - 1) 3, .fn 110 [], dv] 159) ∧
      M2.obj id = some (.box (wyC (H' ++ R')) 154) ∧ H'.length = H.length - 1 ∧ HpOk H' ∧ (H.getD 0 noW :: H').Perm H ∧ ∀ q, q < M.next → q ≠ nb → q ≠ id → M2.obj q = M.obj q :=
    fun hp M2 h2 => ⟨L, R1, (h2 nb x0).trans hnb, (h2 id x2).trans hqo, hs.out.len, hp, (List.Perm.cons _ hs.out.perm).trans (hdW_perm h0.out), fun q hq h3 h4 => (h2 q (by omega)).trans (hs.out.fr q hq h3 h4)⟩
  replace fin := Hid.mk fin
  by_cases hei : e = i
  · have e1 : ((e : Int) == (i : Int)) = true := by rw [beq_iff_eq]; omega
    have hfin := Hid.mk (fin.out (dn_end hs.out.dn (fun c hc hcl => by rw [← hei]; exact hall c (.inr hc) hcl)))
    clear hmin hall hei he
    by_cases hcc : (c : Int) ≤ ((2 * i + 2 : Nat) : Int)
    · have hc2 := hout hcc
      clear hout
      repeat' (with_reducible first | refine x_ops ?_ | refine wk ?_ | ((first | refine gd1 ?_ ?_ | refine gd2 ?_ ?_ | refine gd3 ?_ ?_) <;> (first | exact @False.elim _ | intro hc)))
      exact ⟨.inr rfl, _, vw, rfl, hMM, hfin.out _ (fun q hq => put_other _ _ hq)⟩
    · clear hout
      repeat' (with_reducible first | refine x_ops ?_ | refine wk ?_ | ((first | refine gd1 ?_ ?_ | refine gd2 ?_ ?_ | refine gd3 ?_ ?_) <;> (first | exact @False.elim _ | intro hc)))
      exact ⟨.inr rfl, _, vw, rfl, hMM, hfin.out _ (fun q hq => put_other _ _ hq)⟩
  have heL : e < L.length ∧ (e = 2 * i + 1 ∨ e = 2 * i + 2) := by rcases he with he | he; exact absurd he hei; exact ⟨he.2, he.1⟩
  have hiL2 : i < L.length := by omega
  have e1 : ((e : Int) == (i : Int)) = false := by rw [beq_eq_false_iff_ne]; omega
  have hbi := hall i (.inl rfl) hiL2
  have hdn := dn_step hs.out.dn hiL2 heL.2 heL.1 hbi (fun d hd hdl => hall d (.inr hd) hdl)
  have cc3 : (e : Int) < ((H.length - 1 : Nat) : Int) := by have := hlen.out; omega
  have cc4 : (i : Int) < ((H.length - 1 : Nat) : Int) := by have := hlen.out; omega
  have g1 := gA.out _ hiL2
  have g2 := gA.out _ heL.1
  have g3 := gC.out _ hiL2
  have g4 := gC.out _ heL.1
  have iA : i < (L ++ R1).length := by rw [List.length_append]; omega
  have eiA : e < (L ++ R1).length := by rw [List.length_append]; omega
  have eA := (wyC_set iA (L.getD e noW)).symm
  have eB := (wyC_set (L := (L ++ R1).set i (L.getD e noW)) (i := e) (by rw [List.length_set]; exact eiA) (L.getD i noW)).symm
  have lA := wyC_len ((L ++ R1).set i (L.getD e noW))
  rw [List.length_set] at lA
  unfold wyE vint at eA eB
  have esw : ((L ++ R1).set i (L.getD e noW)).set e (L.getD i noW) = swW L i e ++ R1 := by
    rw [List.set_append_left _ _ hiL2, List.set_append_left _ _ (by rw [List.length_set]; exact heL.1)]; rfl
  rw [esw] at eB
  have hperm := (swW_perm hiL2 heL.1).trans hs.out.perm
  have hlsw := (swW_len L i e).trans hlen.out
  have hki' : k + 1 ≤ e ∧ (e < H.length - 1 ∨ e = 0) := by have := hlen.out; omega
  have hkN : k < H.length - 1 := by have := hlen.out; omega
  have hfr := hs.out.fr
  have hnx' := hnx.out
  replace hfr := Hid.mk hfr
  replace hdn := Hid.mk hdn
  replace hperm := Hid.mk hperm
  replace hlsw := Hid.mk hlsw
  replace hki' := Hid.mk hki'
  replace hnx' := Hid.mk hnx'
  clear hmin hall hbi hei he fin
  have fin : ∀ (a b : AObj), b = .box (wyC (swW L i e ++ R1)) 154 → PpSt M nb id fv dv H R1 e (swW L i e) ((M'.put id a).put id b) := fun a b hb => by
    subst hb
    exact ⟨hnx'.out, hlsw.out, hdn.out, hperm.out, put_same _ _ _, (put_other _ _ x5).trans ((put_other _ _ x5).trans hxo), (put_other _ _ x6).trans ((put_other _ _ x6).trans hnb), fun q hq hqn hqi => (put_other _ _ hqi).trans ((put_other _ _ hqi).trans (hfr.out q hq hqn hqi))⟩
  replace fin := Hid.mk fin
  by_cases hcc : (c : Int) ≤ ((2 * i + 2 : Nat) : Int)
  · have hc2 := hout hcc
    clear hout
    repeat' (with_reducible first | refine x_ops ?_ | refine wk ?_ | ((first | refine gd1 ?_ ?_ | refine gd2 ?_ ?_ | refine gd3 ?_ ?_) <;> (first | exact @False.elim _ | intro hc)))
    exact nx hkN ⟨e, swW L i e, vv, hki'.out, fin.out _ _ rfl⟩
  · clear hout
    repeat' (with_reducible first | refine x_ops ?_ | refine wk ?_ | ((first | refine gd1 ?_ ?_ | refine gd2 ?_ ?_ | refine gd3 ?_ ?_) <;> (first | exact @False.elim _ | intro hc)))
    exact nx hkN ⟨e, swW L i e, vv, hki'.out, fin.out _ _ rfl⟩
end Go.Proofs.Ytojjdkoglhecbaa
namespace Go.Proofs.Ytojjdkoglhecbaa
open Go.RowKit

set_option maxHeartbeats 2000000 in
/-- The ways from a grip, over a net that stands. -/
theorem ways_sfnE {h : Hand} {l : List Chord} {Gs : List (List Grip)} (hn : NetOk h l Gs) {i k : Nat} (hi : i < l.length) (hk : k < (Gs.getD i []).length) (f : FuncId) (cs : List V) (hc : callable Try.prog f = true)
    (J : Nat → Mm → Prop) (m : Mm) (h0 : J 0 m) (hJ : ∀ j, j ≤ (rsT h l Gs (i + 1)).length → ∃ M, J j M)
    (hF : ∀ j M, J j M → i + 1 < l.length → j < (rsT h l Gs (i + 1)).length → ¬ (rsT h l Gs (i + 1)).getD j 0 = -1 → (stepR h (l.getD i noC) ((Gs.getD i []).getD k noG) (l.getD (i + 1) noC) ((Gs.getD (i + 1) []).getD j noG)).2 = true →
      SFn Try.prog Gd f (vint j :: vint (stepR h (l.getD i noC) ((Gs.getD i []).getD k noG) (l.getD (i + 1) noC) ((Gs.getD (i + 1) []).getD j noG)).1 :: cs) M fun r M' => r = .tup [] ∧ J (j + 1) M')
    (hS : ∀ j M, J j M → i + 1 < l.length → j < (rsT h l Gs (i + 1)).length → ((rsT h l Gs (i + 1)).getD j 0 = -1 ∨ (stepR h (l.getD i noC) ((Gs.getD i []).getD k noG) (l.getD (i + 1) noC) ((Gs.getD (i + 1) []).getD j noG)).2 = false) → J (j + 1) M) :
    SFn Try.prog Gd 88 [netE h l Gs, vint i, vint k, .fn f cs] m fun r M => r = .tup [] ∧ J (if i + 1 = l.length then 0 else (rsT h l Gs (i + 1)).length) M := by
  refine SFn.of_vxS k_hand_net_ways (by simp) ?_
  have h4 := hn.len
  have w1 : IntKind.i64.wrap ((l.length : Int) - 1) = (l.length : Int) - 1 := w_in (by omega)
  unfold c_hand_net_ways netE netC tCs tIss
  by_cases hlast : i + 1 = l.length
  · rw [if_pos hlast]
    have e1 : ((i : Int) == (l.length : Int) - 1) = true := by rw [beq_iff_eq]; omega
    replace h0 := Hid.mk h0
    clear hF hS hJ
    repeat' (with_reducible first | refine x_ops ?_ | refine wk ?_ | ((first | refine gd1 ?_ ?_ | refine gd2 ?_ ?_ | refine gd3 ?_ ?_) <;> (first | exact @False.elim _ | intro hc)))
    exact finS_ret vv ⟨rfl, h0.out⟩
  rw [if_neg hlast]
  have hi1 : i + 1 < l.length := by omega
  have hNl := rsT_len (h := h) (Gs := Gs) hi1
  have e1 : ((i : Int) == (l.length : Int) - 1) = false := by rw [beq_eq_false_iff_ne]; omega
  have w2 := w_add1 (k := i) (by omega)
  have g0 := rsA_len (h := h) (l := l) (Gs := Gs)
  have c1 : ((i + 1 : Nat) : Int) < (l.length : Int) := by omega
  have gR := iss_at' (l := rsA h l Gs) (k := i + 1) (by rw [g0]; exact hi1)
  rw [rsA_at hi1] at gR
  have hcnt := hn.cnt (i + 1)
  have NS := fun m hm => netstep_fn hn (ov := tIss (owA h l Gs)) (rv := tIss (rsA h l Gs)) (by rw [V.pures, pure_tIss, V.pures, pure_tIss]; rfl) (i := i) (k := k) (m := m) hi1 hk hm
  unfold netC tIss tCs at NS
  simp only [rsA_len] at NS
  generalize hNe : rsT h l Gs (i + 1) = N at *
  replace hNe := Hid.mk hNe
  replace hlast := Hid.mk hlast
  replace hNl := Hid.mk hNl
  have h00 := Hid.mk h0
  clear h0
  repeat' (with_reducible first | refine x_ops ?_ | refine wk ?_ | ((first | refine gd1 ?_ ?_ | refine gd2 ?_ ?_ | refine gd3 ?_ ?_) <;> (first | exact @False.elim _ | intro hc)))
  refine x_gen (fun t => t 0 = .ept [tIs h.low, tIs h.high, tBs h.barre, vint h.top, vint h.jump, vint h.shift, vint h.lift, vint h.bar, vint h.stretch, vint h.slide, .sl l.length (l.flatMap Chord.cells) .no, tGss Gs, .sl (owA h l Gs).length ((owA h l Gs).map tIs) .no, .sl l.length ((rsA h l Gs).map tIs) .no] 0 ∧
    t 1 = vint i ∧ t 2 = vint k ∧ t 3 = .fn f cs ∧ t 27 = .sl N.length (N.map vint) .no ∧ t 28 = vint N.length ∧ t 29 = vint 0) ⟨by ((refine ve ?_; try exact True.intro)); simp [tIs, tBs], vv, vv, vv, vv, vv, vv⟩ ?_
  rintro t0 ⟨a0, a1, a2, a3, a27, a28, a29⟩
  refine x_loopW w_hand_net_ways_p7 kr N.length (fun j t M => t 29 = vint (j : Int) ∧ J j M) ?_ ?_
  · exact ⟨a29, h00.out⟩
  clear h00 gR c1 w2 e1 w1
  rintro j t M hj ⟨h29, hJM⟩
  by_cases hjl : j < N.length
  case neg =>
    have hje : j = N.length := by omega
    subst hje
    have c2 : ¬ (N.length : Int) < (N.length : Int) := by omega
    replace hJM := Hid.mk hJM
    clear hF hS hJ NS hjl
    repeat' (with_reducible first | refine x_ops ?_ | refine wk ?_ | ((first | refine gd1 ?_ ?_ | refine gd2 ?_ ?_ | refine gd3 ?_ ?_) <;> (first | exact @False.elim _ | intro hc)))
    exact ⟨.inl rfl, .tup [], vv, rfl, hJM.out⟩
  have c2 : (j : Int) < (N.length : Int) := by omega
  have g1 := ints_at hjl
  have w3 := w_add1 (k := j) (by have := hNl.out; omega)
  have NSj := NS j (by have := hNl.out; omega)
  have hSj := Hid.mk (hS j M hJM hi1 hjl)
  have hFj := Hid.mk (hF j M hJM hi1 hjl)
  obtain ⟨M9, hM9⟩ := hJ (j + 1) (by omega)
  replace hM9 := Hid.mk hM9
  replace hjl := Hid.mk hjl
  clear hF hS hJ NS hJM hj
  by_cases hno : N.getD j 0 = -1
  · have e2 : (N.getD j 0 == -1) = true := by rw [hno]; rfl
    have hnx := Hid.mk (hSj.out (.inl hno))
    clear hno NSj
    repeat' (with_reducible first | refine x_ops ?_ | refine wk ?_ | ((first | refine gd1 ?_ ?_ | refine gd2 ?_ ?_ | refine gd3 ?_ ?_) <;> (first | exact @False.elim _ | intro hc)))
    exact nx hjl.out ⟨vv, hnx.out⟩
  have e2 : (N.getD j 0 == -1) = false := by rw [beq_eq_false_iff_ne]; exact hno
  replace hno := Hid.mk hno
  generalize hst : stepR h (l.getD i noC) ((Gs.getD i []).getD k noG) (l.getD (i + 1) noC) ((Gs.getD (i + 1) []).getD j noG) = st at *
  obtain ⟨sn, sb⟩ := st
  dsimp only at *
  cases sb
  · have hnx := Hid.mk (hSj.out (.inr rfl))
    clear hst
    repeat' (with_reducible first | refine x_ops ?_ | refine wk ?_ | (with_reducible refine xc (NSj) ?_) | ((first | refine gd1 ?_ ?_ | refine gd2 ?_ ?_ | refine gd3 ?_ ?_) <;> (first | exact @False.elim _ | intro hc)))
    exact nx hjl.out ⟨vv, hnx.out⟩
  have hFj' := hFj.out hno.out rfl
  replace hst := Hid.mk hst
  repeat' (with_reducible first | refine x_ops ?_ | refine wk ?_ | (with_reducible refine xc (NSj) ?_) | ((first | refine gd1 ?_ ?_ | refine gd2 ?_ ?_ | refine gd3 ?_ ?_) <;> (first | exact @False.elim _ | intro hc)))
  refine x_callv (f := f) (cs := cs) (Post := fun r M' => r = .tup [] ∧ J (j + 1) M') vw hc ?_ ⟨_, M9, rfl, hM9.out⟩ ?_
  · (simp only [go_sem, Nat.reduceAdd, Nat.reduceEqDiff, Nat.reduceLT, Nat.reduceLeDiff, Nat.reduceMul, Nat.reduceSub, Nat.reducePow, Nat.reduceDiv, Nat.reduceMod, Nat.reduceBEq, Int.reduceBEq, Int.reduceLT, reduceIte, V.norms, V.norm, tIs, tBs, tPs, *]); exact hFj'
  rintro r M' ⟨rfl, hJ'⟩
  replace hJ' := Hid.mk hJ'
  repeat' (with_reducible first | refine x_ops ?_ | refine wk ?_ | ((first | refine gd1 ?_ ?_ | refine gd2 ?_ ?_ | refine gd3 ?_ ?_) <;> (first | exact @False.elim _ | intro hc)))
  exact nx hjl.out ⟨vv, hJ'.out⟩
end Go.Proofs.Ytojjdkoglhecbaa
namespace Go.Proofs.Ytojjdkoglhecbaa
open Go.RowKit

/-- The first ways from a grip. -/
noncomputable def wayL (h : Hand) (l : List Chord) (Gs : List (List Grip)) (i k : Nat) : Nat → List Way
  | 0 => []
  | j + 1 => if (rsT h l Gs (i + 1)).getD j 0 = -1 ∨ (stepR h (l.getD i noC) ((Gs.getD i []).getD k noG) (l.getD (i + 1) noC) ((Gs.getD (i + 1) []).getD j noG)).2 = false then wayL h l Gs i k j
    else wayL h l Gs i k j ++ [(ownC h (l.getD i noC) ((Gs.getD i []).getD k noG) + (stepR h (l.getD i noC) ((Gs.getD i []).getD k noG) (l.getD (i + 1) noC) ((Gs.getD (i + 1) []).getD j noG)).1 + (rsT h l Gs (i + 1)).getD j 0, (j : Int), 0)]
/-- What stands there ahead of them. -/
noncomputable def wayB (h : Hand) (l : List Chord) (Gs : List (List Grip)) (i k : Nat) : List Way := if i + 1 = l.length then [(ownC h (l.getD i noC) ((Gs.getD i []).getD k noG), -1, 0)] else []
/-- All of them. -/
noncomputable def wayF (h : Hand) (l : List Chord) (Gs : List (List Grip)) (i k : Nat) : List Way := wayB h l Gs i k ++ wayL h l Gs i k (if i + 1 = l.length then 0 else (rsT h l Gs (i + 1)).length)
theorem wayL_len (h : Hand) (l : List Chord) (Gs : List (List Grip)) (i k : Nat) : ∀ j, (wayL h l Gs i k j).length ≤ j
  | 0 => Nat.le_refl _
  | j + 1 => by
    have := wayL_len h l Gs i k j
    rw [wayL]; split
    · omega
    · rw [List.length_append]; simp; omega
theorem wayB_len (h : Hand) (l : List Chord) (Gs : List (List Grip)) (i k : Nat) : (wayB h l Gs i k).length ≤ 1 := by rw [wayB]; split <;> simp

theorem stepB {h : Hand} {l : List Chord} {Gs : List (List Grip)} (hn : NetOk h l Gs) {i k m : Nat} (hi : i + 1 < l.length) (hk : k < (Gs.getD i []).length) (hm : m < (Gs.getD (i + 1) []).length) :
    0 ≤ (stepR h (l.getD i noC) ((Gs.getD i []).getD k noG) (l.getD (i + 1) noC) ((Gs.getD (i + 1) []).getD m noG)).1 ∧ (stepR h (l.getD i noC) ((Gs.getD i []).getD k noG) (l.getD (i + 1) noC) ((Gs.getD (i + 1) []).getD m noG)).1 ≤ 105000 := by
  by_cases hs : StepOk h (l.getD i noC) ((Gs.getD i []).getD k noG) (l.getD (i + 1) noC) ((Gs.getD (i + 1) []).getD m noG)
  · rw [stepR_ok hs]; exact stepC_bound hn.hk (hn.grip (by omega) hk).1 (hn.grip hi hm).1
  · rw [stepR_no hs]; omega
set_option maxHeartbeats 2000000 in
/-- What a node does at a way: it is pushed. -/
theorem node1_sfn {h : Hand} {l : List Chord} {Gs : List (List Grip)} (hn : NetOk h l Gs) {i k j : Nat} (hi : i + 1 < l.length) (hk : k < (Gs.getD i []).length) (hj : j < (rsT h l Gs (i + 1)).length) (hN : ¬ (rsT h l Gs (i + 1)).getD j 0 = -1)
    {M : Mm} {nb tb xb tp ib kb : Nat} {fv v dv nv rv : V} {H : List Way} {s : Int} (hs : 0 ≤ s ∧ s ≤ 105000)
    (o1 : M.obj xb = some (.box [.ptr nb 0] 150)) (o2 : M.obj tp = some (.box [.ptr tb 0] 110)) (o3 : M.obj ib = some (.box [vint i] 3)) (o4 : M.obj kb = some (.box [vint k] 3))
    (o5 : M.obj tb = some (.box [netE h l Gs, nv, rv] 162)) (n1 : xb < M.next) (n2 : tp < M.next) (n3 : ib < M.next) (n4 : kb < M.next) (n5 : tb < M.next)
    (hb : M.obj nb = some (.box [fv, v, .fn 110 [], dv] 159)) (hnb : nb < M.next) (hq : QV M v H) (hh : HpOk H) (hl : H.length ≤ 100000) :
    SFn Try.prog Gd 138 [vint j, vint s, .ptr xb 0, .ptr tp 0, .ptr ib 0, .ptr kb 0] M (PshPost M nb fv v dv H (ownC h (l.getD i noC) ((Gs.getD i []).getD k noG) + s + (rsT h l Gs (i + 1)).getD j 0, (j : Int), 0)) := by
  refine SFn.of_vxS k_hand_lister_node_1 (by simp) ?_
  have h4 := hn.len
  have hi0 : i < l.length := by omega
  have PE := PshPost.some (fv := fv) (v := v) (dv := dv) (ownC h (l.getD i noC) ((Gs.getD i []).getD k noG) + s + (rsT h l Gs (i + 1)).getD j 0, (j : Int), 0) hnb hh
  have PS := push_psh (w := (ownC h (l.getD i noC) ((Gs.getD i []).getD k noG) + s + (rsT h l Gs (i + 1)).getD j 0, (j : Int), 0)) hb hnb hq hh hl
  have hown := own_bound hn.hk (hn.seq i hi0).1 (hn.grip hi0 hk).1
  have hNl := rsT_len (h := h) (Gs := Gs) hi
  have hNb := rsT_bound hn _ (i + 1) rfl hi j (by omega)
  have hN0 : 0 ≤ (rsT h l Gs (i + 1)).getD j 0 ∧ (rsT h l Gs (i + 1)).getD j 0 ≤ 509000 * 400 := by rcases hNb with h1 | h1; exact absurd h1 hN; exact ⟨h1.1, by omega⟩
  have w1 := w_add1 (k := i) (by omega)
  have w2 : IntKind.i64.wrap (ownC h (l.getD i noC) ((Gs.getD i []).getD k noG) + s) = ownC h (l.getD i noC) ((Gs.getD i []).getD k noG) + s := w_in (by omega)
  have w3 : IntKind.i64.wrap (ownC h (l.getD i noC) ((Gs.getD i []).getD k noG) + s + (rsT h l Gs (i + 1)).getD j 0) = ownC h (l.getD i noC) ((Gs.getD i []).getD k noG) + s + (rsT h l Gs (i + 1)).getD j 0 := w_in (by omega)
  have c1 : (i : Int) < (l.length : Int) := by omega
  have c2 : ((i + 1 : Nat) : Int) < (l.length : Int) := by omega
  have c3 : (k : Int) < ((Gs.getD i []).length : Int) := by omega
  have c4 : (j : Int) < ((rsT h l Gs (i + 1)).length : Int) := by omega
  have g1 := iss_at' (l := owA h l Gs) (k := i) (by rw [owA_len]; exact hi0)
  rw [owA_at hi0] at g1
  have g2 := ints_at (l := owR h l Gs i) (k := k) (by rw [owR_len]; exact hk)
  rw [owR_at hk] at g2
  have g3 := owR_len h l Gs i
  have g4 := owA_len h l Gs
  have g5 := iss_at' (l := rsA h l Gs) (k := i + 1) (by rw [rsA_len]; exact hi)
  rw [rsA_at hi] at g5
  have g6 := rsA_len (h := h) (l := l) (Gs := Gs)
  have g7 := ints_at hj
  unfold netE netC tIss at o5
  unfold c_hand_lister_node_1
  dsimp only at PS
  replace hNl := Hid.mk hNl
  clear hN hNb hN0 hown hs hb hnb hq hh hl hn hi hi0 hk hj
  repeat' (with_reducible first | refine x_ops ?_ | refine wk ?_ | ((first | refine gd1 ?_ ?_ | refine gd2 ?_ ?_ | refine gd3 ?_ ?_) <;> (first | exact @False.elim _ | intro hc)))
  refine x_scallR [.ptr nb 1, .agg [vint (ownC h (l.getD i noC) ((Gs.getD i []).getD k noG) + s + (rsT h l Gs (i + 1)).getD j 0), vint (j : Int), vint 0]] vw PS PE ?_
  rintro r M2 hP
  have hr := hP.1
  subst hr
  replace hP := Hid.mk hP
  clear PS PE
  repeat' (with_reducible first | refine x_ops ?_ | refine wk ?_ | ((first | refine gd1 ?_ ?_ | refine gd2 ?_ ?_ | refine gd3 ?_ ?_) <;> (first | exact @False.elim _ | intro hc)))
  exact ⟨.inl rfl, .tup [], vv, hP.out⟩
end Go.Proofs.Ytojjdkoglhecbaa
namespace Go.Proofs.Ytojjdkoglhecbaa
open Go.RowKit

theorem heap_ex (L : List Way) : ∃ L', HpOk L' ∧ L'.Perm L := by
  have gen : ∀ n (L : List Way), L.length = n → ∃ L', HpOk L' ∧ L'.Perm L := by
    intro n
    induction n with
    | zero => intro L h; have : L = [] := List.eq_nil_of_length_eq_zero h; subst this; exact ⟨[], fun j h0 hj => by simp at hj, .refl _⟩
    | succ n ih =>
      intro L h
      rcases List.eq_nil_or_concat L with rfl | ⟨L1, w, rfl⟩
      · exact ⟨[], fun j h0 hj => by simp at hj, .refl _⟩
      · obtain ⟨L2, h1, h2⟩ := ih L1 (by simpa using h)
        obtain ⟨L3, h3, h4⟩ := up_all _ _ (up_new h1 w)
        exact ⟨L3, h3, h4.trans (by rw [List.concat_eq_append]; exact h2.append_right [w])⟩
  exact gen _ L rfl
/-- A node whose queue has these ways. -/
def NdM (M0 : Mm) (nb : Nat) (W : List Way) (M' : Mm) : Prop :=
  M0.next ≤ M'.next ∧ (∃ v H, M'.obj nb = some (.box [.sl 0 [] .exact, v, .fn 110 [], vbool false] 159) ∧ QV M' v H ∧ HpOk H ∧ H.Perm W ∧ ∀ q n, v = .gsl q n 3 → M0.next ≤ q) ∧ ∀ q, q < M0.next → q ≠ nb → M'.obj q = M0.obj q
theorem ndM_ex (M0 : Mm) {nb : Nat} (hn : nb < M0.next) (W : List Way) : ∃ M', NdM M0 nb W M' := by
  obtain ⟨L, h1, h2⟩ := heap_ex W
  refine ⟨((⟨M0.obj, M0.next + 1⟩ : Mm).put M0.next (.box (wyC L) 154)).put nb (.box [.sl 0 [] .exact, .gsl M0.next L.length 3, .fn 110 [], vbool false] 159), Nat.le_succ _,
    ⟨_, L, put_same _ _ _, .inr ⟨M0.next, [], rfl, Nat.lt_succ_self _, ?_⟩, h1, h2, fun q n e => by injection e with e; omega⟩, fun q hq hqn => (put_other _ _ hqn).trans (put_other _ _ (by omega))⟩
  rw [List.append_nil]
  exact (put_other _ _ (by omega)).trans (put_same _ _ _)
theorem ndM_push {M0 M1 M2 : Mm} {nb : Nat} {W : List Way} {w : Way} {v : V} {H : List Way} {r : V} (hn : nb < M0.next) (hb : M1.obj nb = some (.box [.sl 0 [] .exact, v, .fn 110 [], vbool false] 159)) (hM : M0.next ≤ M1.next) (hW : H.Perm W) (hv : ∀ q n, v = .gsl q n 3 → M0.next ≤ q)
    (hfr : ∀ q, q < M0.next → q ≠ nb → M1.obj q = M0.obj q) (hp : PshPost M1 nb (.sl 0 [] .exact) v (vbool false) H w r M2) : NdM M0 nb (W ++ [w]) M2 := by
  obtain ⟨_, p1, id, H', p2, p3, p4, p5, p6, p7, p8, p9⟩ := hp
  refine ⟨by omega, ⟨_, H', p3, .inr ⟨id, [], by rw [p6], p4, by rw [List.append_nil]; exact p5⟩, p7, p8.trans (hW.append_right _), fun q n e => by injection e with e; omega⟩, fun q hq hqn => (p9 q (by omega) hqn (fun n e => by have := hv q n e; omega)).trans (hfr q hq hqn)⟩

set_option maxHeartbeats 4000000 in
theorem node_fill {h : Hand} {l : List Chord} {Gs : List (List Grip)} (hn : NetOk h l Gs) {i k : Nat} (hi : i < l.length) (hk : k < (Gs.getD i []).length) {M : Mm} {nb tb xb tp ib kb : Nat} {nv rv : V} {t : Nat → V}
    (s3 : t 3 = .ptr tp 0) (s4 : t 4 = .ptr ib 0) (s5 : t 5 = .ptr kb 0) (s7 : t 7 = .ptr xb 0)
    (o1 : M.obj xb = some (.box [.ptr nb 0] 150)) (o2 : M.obj tp = some (.box [.ptr tb 0] 110)) (o3 : M.obj ib = some (.box [vint i] 3)) (o4 : M.obj kb = some (.box [vint k] 3))
    (o5 : M.obj tb = some (.box [netE h l Gs, nv, rv] 162)) (n1 : xb < M.next) (n2 : tp < M.next) (n3 : ib < M.next) (n4 : kb < M.next) (n5 : tb < M.next) (nn : xb ≠ nb ∧ tp ≠ nb ∧ ib ≠ nb ∧ kb ≠ nb ∧ tb ≠ nb)
    (hb : M.obj nb = some (.box [.sl 0 [] .exact, .sl 0 [] .exact, .fn 110 [], vbool false] 159)) (hnb : nb < M.next) :
    (c_hand_lister_node_p3).vx Try.prog Gd (fun e s' => e = .nrm ∧ NdM M nb (wayF h l Gs i k) s'.m) ⟨t, M⟩ := by
  have h4 := hn.len
  have hcnt2 := hn.cnt (i + 1)
  let J : Nat → Mm → Prop := fun j M' => NdM M nb (wayB h l Gs i k ++ wayL h l Gs i k j) M'
  have key : ∀ M1, NdM M nb (wayB h l Gs i k) M1 → SFn Try.prog Gd 88 [netE h l Gs, vint i, vint k, .fn 138 [.ptr xb 0, .ptr tp 0, .ptr ib 0, .ptr kb 0]] M1 fun r M' => r = .tup [] ∧ NdM M nb (wayF h l Gs i k) M' := by
    intro M1 hM1
    have W := ways_sfnE hn hi hk 138 [.ptr xb 0, .ptr tp 0, .ptr ib 0, .ptr kb 0] kr J M1 (by show NdM M nb (wayB h l Gs i k ++ []) M1; rw [List.append_nil]; exact hM1) (fun j _ => ndM_ex M hnb _) ?_ ?_
    · refine W.mono fun r M' ⟨h1, h2⟩ => ⟨h1, h2⟩
    · rintro j M' ⟨j1, ⟨v, H, j2, j3, j4, j5, j6⟩, j7⟩ hi1 hj hN hst
      have hb := stepB hn hi1 hk (m := j) (by rw [rsT_len hi1] at hj; exact hj)
      have hHl := j5.length_eq
      have hl1 := wayL_len h l Gs i k j
      have hl2 := wayB_len h l Gs i k
      rw [List.length_append] at hHl
      have hj2 : j < (Gs.getD (i + 1) []).length := by rw [rsT_len hi1] at hj; exact hj
      have S1 := node1_sfn hn hi1 hk hj hN (M := M') (nb := nb) (tb := tb) (xb := xb) (tp := tp) (ib := ib) (kb := kb) (fv := .sl 0 [] .exact) (v := v) (dv := vbool false) (nv := nv) (rv := rv) (H := H) hb
        ((j7 xb n1 nn.1).trans o1) ((j7 tp n2 nn.2.1).trans o2) ((j7 ib n3 nn.2.2.1).trans o3) ((j7 kb n4 nn.2.2.2.1).trans o4) ((j7 tb n5 nn.2.2.2.2).trans o5) (by omega) (by omega) (by omega) (by omega) (by omega) j2 (by omega) j3 j4 (by omega)
      refine S1.mono fun r M2 hP => ⟨hP.1, ?_⟩
      have := ndM_push hnb j2 j1 j5 j6 j7 hP
      show NdM M nb (wayB h l Gs i k ++ wayL h l Gs i k (j + 1)) M2
      rw [wayL, if_neg (by rw [hst]; rintro (h1 | h1); exact hN h1; cases h1), ← List.append_assoc]
      exact this
    · intro j M' hJ hi1 hj hsk
      show NdM M nb (wayB h l Gs i k ++ wayL h l Gs i k (j + 1)) M'
      rw [wayL, if_pos hsk]; exact hJ
  have keyE : ∃ r M', r = V.tup [] ∧ NdM M nb (wayF h l Gs i k) M' := by obtain ⟨M', h1⟩ := ndM_ex M hnb (wayF h l Gs i k); exact ⟨_, M', rfl, h1⟩
  have w1 : IntKind.i64.wrap ((l.length : Int) - 1) = (l.length : Int) - 1 := w_in (by omega)
  have w2 := w_add1 (k := i) (by omega)
  unfold c_hand_lister_node_p3
  by_cases hlast : i + 1 = l.length
  · have e1 : ((i : Int) == (l.length : Int) - 1) = true := by rw [beq_iff_eq]; omega
    have hBe : wayB h l Gs i k = [(ownC h (l.getD i noC) ((Gs.getD i []).getD k noG), -1, 0)] := by rw [wayB, if_pos hlast]
    have hPS := push_psh (w := (ownC h (l.getD i noC) ((Gs.getD i []).getD k noG), -1, 0)) hb hnb (.inl ⟨rfl, rfl⟩) (fun j h0 hj => by simp at hj) (by decide)
    have hPE := PshPost.some (fv := .sl 0 [] .exact) (v := .sl 0 [] .exact) (dv := vbool false) (H := []) (ownC h (l.getD i noC) ((Gs.getD i []).getD k noG), -1, 0) hnb (fun j h0 hj => by simp at hj)
    have c1 : (i : Int) < (l.length : Int) := by omega
    have c3 : (k : Int) < ((Gs.getD i []).length : Int) := by omega
    have g1 := iss_at' (l := owA h l Gs) (k := i) (by rw [owA_len]; exact hi)
    rw [owA_at hi] at g1
    have g2 := ints_at (l := owR h l Gs i) (k := k) (by rw [owR_len]; exact hk)
    rw [owR_at hk] at g2
    have g3 := owR_len h l Gs i
    have g4 := owA_len h l Gs
    have o5' := o5
    have hpush : ∀ r M2, PshPost M nb (.sl 0 [] .exact) (.sl 0 [] .exact) (vbool false) [] (ownC h (l.getD i noC) ((Gs.getD i []).getD k noG), -1, 0) r M2 → NdM M nb (wayB h l Gs i k) M2 := fun r M2 hP => by
      rw [hBe]; exact ndM_push hnb hb (Nat.le_refl _) (.refl []) (fun q n e => by cases e) (fun _ _ _ => rfl) hP
    unfold netE netC tIss tCs at o5
    dsimp only at hPS
    replace hlast := Hid.mk hlast
    replace hpush := Hid.mk hpush
    replace key := Hid.mk key
    replace o5' := Hid.mk o5'
    clear hBe hb hn hi hk
    repeat' (with_reducible first | refine x_ops ?_ | refine wk ?_ | ((first | refine gd1 ?_ ?_ | refine gd2 ?_ ?_ | refine gd3 ?_ ?_) <;> (first | exact @False.elim _ | intro hc)))
    refine x_scallR [.ptr nb 1, .agg [vint (ownC h (l.getD i noC) ((Gs.getD i []).getD k noG)), vint (-1), vint 0]] vw hPS hPE ?_
    rintro r M2 hP
    have hr := hP.1
    subst hr
    have hM2 := hpush.out _ _ hP
    have W := key.out M2 hM2
    have l0 := hM2.1
    have q2 := (hM2.2.2 tp n2 nn.2.1).trans o2
    have q3 := (hM2.2.2 ib n3 nn.2.2.1).trans o3
    have q4 := (hM2.2.2 kb n4 nn.2.2.2.1).trans o4
    have q5 := (hM2.2.2 tb n5 nn.2.2.2.2).trans o5'.out
    have l2 : tp < M2.next := by omega
    have l3 : ib < M2.next := by omega
    have l4 : kb < M2.next := by omega
    have l5 : tb < M2.next := by omega
    replace hP := Hid.mk hP
    replace hM2 := Hid.mk hM2
    replace l0 := Hid.mk l0
    clear hPS hPE o1 o2 o3 o4 o5 n1 n2 n3 n4 n5
    repeat' (with_reducible first | refine x_ops ?_ | refine wk ?_ | ((first | refine gd1 ?_ ?_ | refine gd2 ?_ ?_ | refine gd3 ?_ ?_) <;> (first | exact @False.elim _ | intro hc)))
    refine x_scallR [netE h l Gs, vint i, vint k, .fn 138 [.ptr xb 0, .ptr tp 0, .ptr ib 0, .ptr kb 0]] vw W keyE ?_
    rintro r M3 ⟨rfl, hM3⟩
    replace hM3 := Hid.mk hM3
    clear W
    repeat' (with_reducible first | refine x_ops ?_ | refine wk ?_ | ((first | refine gd1 ?_ ?_ | refine gd2 ?_ ?_ | refine gd3 ?_ ?_) <;> (first | exact @False.elim _ | intro hc)))
    exact hM3.out
  have e1 : ((i : Int) == (l.length : Int) - 1) = false := by rw [beq_eq_false_iff_ne]; omega
  have hBe : wayB h l Gs i k = [] := by rw [wayB, if_neg hlast]
  have W := key M (by rw [hBe]; exact ⟨Nat.le_refl _, ⟨_, [], hb, .inl ⟨rfl, rfl⟩, fun j h0 hj => by simp at hj, .refl _, fun q n e => by cases e⟩, fun _ _ _ => rfl⟩)
  have o5' := o5
  unfold netE netC tIss tCs at o5'
  replace hlast := Hid.mk hlast
  replace o5 := Hid.mk o5
  clear hBe hb hn hi hk key
  unfold netE netC tIss tCs at W
  repeat' (with_reducible first | refine x_ops ?_ | refine wk ?_ | ((first | refine gd1 ?_ ?_ | refine gd2 ?_ ?_ | refine gd3 ?_ ?_) <;> (first | exact @False.elim _ | intro hc)))
  refine x_scallR _ ?_ W keyE ?_
  · (simp only [go_sem, Nat.reduceAdd, Nat.reduceEqDiff, Nat.reduceLT, Nat.reduceLeDiff, Nat.reduceMul, Nat.reduceSub, Nat.reducePow, Nat.reduceDiv, Nat.reduceMod, Nat.reduceBEq, Int.reduceBEq, Int.reduceLT, reduceIte, V.norms, V.norm, tIs, tBs, tPs, *])
  rintro r M3 ⟨rfl, hM3⟩
  replace hM3 := Hid.mk hM3
  clear W
  repeat' (with_reducible first | refine x_ops ?_ | refine wk ?_ | ((first | refine gd1 ?_ ?_ | refine gd2 ?_ ?_ | refine gd3 ?_ ?_) <;> (first | exact @False.elim _ | intro hc)))
  exact hM3.out
end Go.Proofs.Ytojjdkoglhecbaa
namespace Go.Proofs.Ytojjdkoglhecbaa
open Go.RowKit

/-- The rows of nodes, as they are listed. -/
def rwN (rs : List Nat) (Gs : List (List Grip)) : List V := (List.range Gs.length).map fun y => .bsl (rs.getD y 0) 0 (Gs.getD y []).length (Gs.getD y []).length
theorem rwN_at {rs : List Nat} {Gs : List (List Grip)} {y : Nat} (hy : y < Gs.length) : (rwN rs Gs)[y]? = some (.bsl (rs.getD y 0) 0 (Gs.getD y []).length (Gs.getD y []).length) := by
  rw [rwN, List.getElem?_map, List.getElem?_range hy]; rfl
/-- A row of nodes that are not made yet. -/
def nilR (n : Nat) : List V := List.replicate n (.lit (.pointer none))
theorem nilR_at {n k : Nat} (hk : k < n) : (nilR n)[k]? = some (.lit (.pointer none)) := by rw [nilR, List.getElem?_replicate, if_pos hk]
theorem nilR_len (n : Nat) : (nilR n).length = n := List.length_replicate
/-- A lister in memory, of which no node from the chord i on is made. -/
structure LsM (h : Hand) (l : List Chord) (Gs : List (List Grip)) (tb nq rt : Nat) (rs : List Nat) (i : Nat) (M : Mm) : Prop where
  tbo : M.obj tb = some (.box [netE h l Gs, .gsl nq l.length 1, .ptr rt 0] 162)
  nqo : M.obj nq = some (.box (rwN rs Gs) 163)
  row : ∀ y, i ≤ y → y < l.length → M.obj (rs.getD y 0) = some (.box (nilR (Gs.getD y []).length) 150)
  inj : ∀ y z, y < z → z < l.length → rs.getD y 0 < rs.getD z 0
  ltt : tb < M.next
  ltn : nq < M.next
  ltr : ∀ y, y < l.length → rs.getD y 0 < M.next
  nen : tb ≠ nq
  ner : ∀ y, y < l.length → rs.getD y 0 ≠ tb ∧ rs.getD y 0 ≠ nq
/-- What node leaves. -/
def NdPost (h : Hand) (l : List Chord) (Gs : List (List Grip)) (rs : List Nat) (i k : Nat) (M : Mm) (r : V) (M' : Mm) : Prop :=
  M.next ≤ M'.next ∧ ∃ nb v H, r = .ptr nb 0 ∧ (M.next ≤ nb ∧ nb < M'.next) ∧ M'.obj nb = some (.box [.sl 0 [] .exact, v, .fn 110 [], vbool false] 159) ∧ QV M' v H ∧ HpOk H ∧ H.Perm (wayF h l Gs i k) ∧
    (∀ q n, v = .gsl q n 3 → M.next ≤ q) ∧ ∀ q, q < M.next → q ≠ rs.getD i 0 → M'.obj q = M.obj q
theorem ndPost_ex (h : Hand) (l : List Chord) (Gs : List (List Grip)) (rs : List Nat) (i k : Nat) (M : Mm) : ∃ r M', NdPost h l Gs rs i k M r M' := by
  obtain ⟨L, h1, h2⟩ := heap_ex (wayF h l Gs i k)
  refine ⟨.ptr M.next 0, ((⟨M.obj, M.next + 2⟩ : Mm).put M.next (.box [.sl 0 [] .exact, .gsl (M.next + 1) L.length 3, .fn 110 [], vbool false] 159)).put (M.next + 1) (.box (wyC L) 154), by show M.next ≤ M.next + 2; omega,
    M.next, _, L, rfl, ⟨Nat.le_refl _, by show M.next < M.next + 2; omega⟩, (put_other _ _ (by omega)).trans (put_same _ _ _), .inr ⟨M.next + 1, [], rfl, by show M.next + 1 < M.next + 2; omega, by rw [List.append_nil]; exact put_same _ _ _⟩, h1, h2, fun q n e => by injection e with e; omega,
    fun q hq _ => (put_other _ _ (by omega)).trans (put_other _ _ (by omega))⟩

set_option maxHeartbeats 4000000 in
theorem node_sfn {h : Hand} {l : List Chord} {Gs : List (List Grip)} (hn : NetOk h l Gs) {i k : Nat} (hi : i < l.length) (hk : k < (Gs.getD i []).length) {M : Mm} {tb nq rt : Nat} {rs : List Nat} (hL : LsM h l Gs tb nq rt rs i M) :
    SFn Try.prog Gd 134 [.ptr tb 0, vint i, vint k] M (NdPost h l Gs rs i k M) := by
  refine SFn.of_vxS k_hand_lister_node (by simp) ?_
  have o1 := hL.tbo
  have o2 := hL.nqo
  have o3 := hL.row i (Nat.le_refl _) hi
  have l1 := hL.ltt
  have l2 := hL.ltn
  have l3 := hL.ltr i hi
  have gl := hn.gl
  have r1 := rwN_at (rs := rs) (Gs := Gs) (y := i) (by omega)
  have r2 := nilR_at hk
  have r3 := nilR_len (Gs.getD i []).length
  have c1 : (i : Int) < (l.length : Int) := by omega
  have c2 : (k : Int) < ((Gs.getD i []).length : Int) := by omega
  have hne : ∀ q j, q < M.next → (q = M.next + j) = False := fun q j hq => by simp; omega
  have hne0 : ∀ q, q < M.next → (q = M.next) = False := fun q hq => by simp; omega
  have hlt : ∀ q j, q < M.next → (q < M.next + j) = True := fun q j hq => by simp; omega
  have hnf : ∀ q j, q < M.next → (M.next + j = q) = False := fun q j hq => by simp; omega
  have hnf0 : ∀ q, q < M.next → (M.next = q) = False := fun q hq => by simp; omega
  have zp : ∀ n k : Nat, (n < n + k) = (0 < k) := fun n k => by simp
  have n1 := hL.nen
  have n2 := (hL.ner i hi).1
  have n3 := (hL.ner i hi).2
  have n1' := n1.symm
  have n2' := n2.symm
  have n3' := n3.symm
  have k1 : k + 1 ≤ (Gs.getD i []).length := hk
  generalize hre : rs.getD i 0 = ri at *
  replace hre := Hid.mk hre
  have hL0 := Hid.mk hL
  unfold c_hand_lister_node
  clear hL
  repeat' (with_reducible first | refine x_ops ?_ | refine wk ?_ | ((first | refine gd1 ?_ ?_ | refine gd2 ?_ ?_ | refine gd3 ?_ ?_) <;> (first | exact @False.elim _ | intro hc)))
  have hset := set_eq (L := nilR (Gs.getD i []).length) (i := k) (by rw [nilR_len]; exact hk) (.ptr (M.next + 6) 0)
  have hget : ((nilR (Gs.getD i []).length).set k (.ptr (M.next + 6) 0))[k]? = some (.ptr (M.next + 6) 0) := List.getElem?_set_self (by rw [nilR_len]; exact hk)
  refine x_genM (fun t M5 => (t 3 = .ptr M.next 0 ∧ t 4 = .ptr (M.next + 1) 0 ∧ t 5 = .ptr (M.next + 2) 0 ∧ t 7 = .ptr (M.next + 7) 0) ∧ M5.next = M.next + 9 ∧ M5.obj M.next = some (.box [.ptr tb 0] 110) ∧ M5.obj (M.next + 1) = some (.box [vint i] 3) ∧ M5.obj (M.next + 2) = some (.box [vint k] 3) ∧
    M5.obj (M.next + 6) = some (.box [.sl 0 [] .exact, .sl 0 [] .exact, .fn 110 [], vbool false] 159) ∧ M5.obj (M.next + 7) = some (.box [.ptr (M.next + 6) 0] 150) ∧ M5.obj ri = some (.box ((nilR (Gs.getD i []).length).set k (.ptr (M.next + 6) 0)) 150) ∧ ∀ q, q < M.next → q ≠ ri → M5.obj q = M.obj q)
    ⟨⟨vv, vv, vv, vv⟩, rfl, ?_, ?_, ?_, ?_, ?_, ?_, fun q hq hqr => ?_⟩ ?_
  · simp only [put_obj]; repeat rw [if_neg (by omega)]
    rw [if_pos True.intro]
  · simp only [put_obj]; repeat rw [if_neg (by omega)]
    rw [if_pos True.intro]; rfl
  · simp only [put_obj]; repeat rw [if_neg (by omega)]
    rw [if_pos True.intro]; rfl
  · simp only [put_obj]; repeat rw [if_neg (by omega)]
    rw [if_pos True.intro]; rfl
  · simp only [put_obj]; repeat rw [if_neg (by omega)]
    rw [if_pos True.intro]
  · refine (put_same _ _ _).trans ?_
    rw [hset]; simp
  · simp only [put_obj]; repeat rw [if_neg (by omega)]
  rintro t5 M5 ⟨⟨s3, s4, s5, s7⟩, m0, m1, m2, m3, m4, m5, m6, m7⟩
  have q1 := (m7 tb l1 n2').trans o1
  have q2 := (m7 nq l2 n3').trans o2
  have NF := node_fill hn hi hk (M := M5) (nb := M.next + 6) (tb := tb) (xb := M.next + 7) (tp := M.next) (ib := M.next + 1) (kb := M.next + 2) (nv := .gsl nq l.length 1) (rv := .ptr rt 0) (t := t5) s3 s4 s5 s7 m5 m1 m2 m3 q1 (by omega) (by omega) (by omega) (by omega) (by omega) ⟨by omega, by omega, by omega, by omega, by omega⟩ m4 (by omega)
  with_reducible refine x_sum 590295810354410684416 ?hw (R := fun e t m' => e = .nrm ∧ NdM M5 (M.next + 6) (wayF h l Gs i k) m') NF ?h2
  case hw => kernel_rfl
  rintro e t6 M6 ⟨rfl, k0, ⟨v, H, k2, k3, k4, k5, k6⟩, k7⟩
  have p1 := (k7 M.next (by omega) (by omega)).trans m1
  have p2 := (k7 (M.next + 1) (by omega) (by omega)).trans m2
  have p3 := (k7 (M.next + 2) (by omega) (by omega)).trans m3
  have p4 := (k7 tb (by omega) (by omega)).trans q1
  have p5 := (k7 nq (by omega) (by omega)).trans q2
  have p6 := (k7 ri (by omega) (by omega)).trans m6
  have y1 : M.next < M6.next := by omega
  have y2 : M.next + 1 < M6.next := by omega
  have y3 : M.next + 2 < M6.next := by omega
  have y4 : tb < M6.next := by omega
  have y5 : nq < M6.next := by omega
  have y6 : ri < M6.next := by omega
  have fr : ∀ q, q < M.next → q ≠ ri → M6.obj q = M.obj q := fun q hq hqr => (k7 q (by omega) (by omega)).trans (m7 q hq hqr)
  have ids : ∀ q n, v = .gsl q n 3 → M.next ≤ q := fun q n e => by have := k6 q n e; omega
  replace fr := Hid.mk fr
  replace ids := Hid.mk ids
  replace k2 := Hid.mk k2
  replace m0 := Hid.mk m0
  clear k7 k6 m1 m2 m3 m4 m5 m6 m7 q1 q2 o1 o2 o3 hset NF hne hne0 hlt hnf hnf0
  repeat' (with_reducible first | refine x_ops ?_ | refine wk ?_ | ((first | refine gd1 ?_ ?_ | refine gd2 ?_ ?_ | refine gd3 ?_ ?_) <;> (first | exact @False.elim _ | intro hc)))
  exact ⟨.inr rfl, .ptr (M.next + 6) 0, vv, by show M.next ≤ M6.next; omega, M.next + 6, v, H, rfl, ⟨by omega, by have := m0.out; show M.next + 6 < M6.next; omega⟩, k2.out, k3, k4, k5, ids.out, fun q hq hqr => fr.out q hq (by rw [← hre.out]; exact hqr)⟩
end Go.Proofs.Ytojjdkoglhecbaa
namespace Go.Proofs.Ytojjdkoglhecbaa
open Go.RowKit

theorem ne_type {M : Mm} {p q : Nat} {a b : List V} {s t : TypeId} (h1 : M.obj p = some (.box a s)) (h2 : M.obj q = some (.box b t)) (h : s ≠ t) : p ≠ q := fun e => by
  subst e; rw [h1] at h2; injection h2 with h2; injection h2 with _ h2; exact h h2
/-- What is found first in a heap. -/
def GtRes (H : List Way) : V := if H = [] then .tup [.agg [vint 0, vint 0, vint 0], vbool false] else .tup [.agg [vint (H.getD 0 noW).1, vint (H.getD 0 noW).2.1, vint (H.getD 0 noW).2.2], vbool true]
/-- What get leaves. -/
def GtEnd (M : Mm) (nb rb : Nat) (v : V) (H : List Way) (e : VX) (s : St) : Prop :=
  e = .ret ∧ M.next ≤ s.m.next ∧ (∀ q, q < M.next → q ≠ nb → q ≠ rb → (∀ n, v ≠ .gsl q n 3) → s.m.obj q = M.obj q) ∧ ∃ cs b, s.m.obj rb = some (.box cs 154) ∧ s.t 9 = vbool b ∧ s.t 8 = .ptr rb 0 ∧ cs.length = 3 ∧ GtRes H = .tup [.agg cs, vbool b]

set_option maxHeartbeats 4000000 in
theorem get_tail {M : Mm} {nb rb : Nat} {v : V} {H : List Way} {t : Nat → V} (s3 : t 3 = vint 0) (s8 : t 8 = .ptr rb 0) (s10 : t 10 = .ptr nb 0)
    (hb : M.obj nb = some (.box [.sl 0 [] .exact, v, .fn 110 [], vbool false] 159)) (hr : M.obj rb = some (.box [vint 0, vint 0, vint 0] 154)) (hnb : nb < M.next) (hrb : rb < M.next) (hq : QV M v H) (hqr : ∀ n, v ≠ .gsl rb n 3) (hh : HpOk H) (hl : H.length ≤ 100000) :
    (c_hand_lister_get_p17).vx Try.prog Gd (GtEnd M nb rb v H) ⟨t, M⟩ := by
  have hne := ne_type hb hr (by decide)
  unfold c_hand_lister_get_p17
  by_cases hH : H = []
  · subst hH
    have PN := pop_none (M := ⟨M.obj, M.next + 10⟩) (nb := nb) (fv := .sl 0 [] .exact) (v := v) (dv := vbool false) hb (by show nb < M.next + 10; omega) (hq.mono (by show M.next ≤ M.next + 10; omega) (fun _ _ _ => rfl))
    have x1 : ∀ q j, q < M.next → (q < M.next + j) = True := fun q j hq => by simp; omega
    replace hq := Hid.mk hq
    repeat' (with_reducible first | refine x_ops ?_ | refine wk ?_ | ((first | refine gd1 ?_ ?_ | refine gd2 ?_ ?_ | refine gd3 ?_ ?_) <;> (first | exact @False.elim _ | intro hc)))
    refine x_loopW w_hand_lister_get_p14 kr 0 (fun k t M' => M' = M) rfl ?_
    rintro k t2 M' hk rfl
    have x2 : ¬ rb = M'.next + 7 := by omega
    repeat' (with_reducible first | refine x_ops ?_ | refine wk ?_ | ((first | refine gd1 ?_ ?_ | refine gd2 ?_ ?_ | refine gd3 ?_ ?_) <;> (first | exact @False.elim _ | intro hc)))
    refine x_scallR [.ptr nb 1] vw PN ⟨_, ⟨M'.obj, M'.next + 10⟩, rfl, Nat.le_refl _, fun _ _ => rfl⟩ ?_
    rintro r m2 ⟨rfl, p1, p2⟩
    have p1' : M'.next + 10 ≤ m2.next := p1
    have q1 := (p2 rb (by show rb < M'.next + 10; omega)).trans hr
    have p2' : ∀ q, q < M'.next → m2.obj q = M'.obj q := fun q hq => p2 q (by show q < M'.next + 10; omega)
    replace p2' := Hid.mk p2'
    clear p2 PN p1 hr hb
    repeat' (with_reducible first | refine x_ops ?_ | refine wk ?_ | ((first | refine gd1 ?_ ?_ | refine gd2 ?_ ?_ | refine gd3 ?_ ?_) <;> (first | exact @False.elim _ | intro hc)))
    refine ⟨rfl, by show M'.next ≤ m2.next; omega, fun q hq _ hqr2 _ => ?_, _, false, put_same _ _ _, vv, vw, rfl, by rw [GtRes, if_pos rfl]; rfl⟩
    exact (put_other _ _ hqr2).trans ((put_other _ _ (by omega)).trans ((put_other _ _ (by omega)).trans (p2'.out q hq)))
  have h0 : 0 < H.length := List.length_pos_iff.2 hH
  obtain ⟨id, R, rfl, hid, ho⟩ : ∃ id R, v = .gsl id H.length 3 ∧ id < M.next ∧ M.obj id = some (.box (wyC (H ++ R)) 154) := by
    rcases hq with ⟨_, h1⟩ | h1
    · exact absurd h1 hH
    · exact h1
  have PP := pop_sfn (M := ⟨M.obj, M.next + 10⟩) (nb := nb) (id := id) (fv := .sl 0 [] .exact) (dv := vbool false) (H := H) (R := R) hb (by show nb < M.next + 10; omega) (by show id < M.next + 10; omega) ho h0 hh hl
  have hR : GtRes H = .tup [.agg [vint (H.getD 0 noW).1, vint (H.getD 0 noW).2.1, vint (H.getD 0 noW).2.2], vbool true] := by rw [GtRes, if_neg hH]
  have x1 : ∀ q j, q < M.next → (q < M.next + j) = True := fun q j hq => by simp; omega
  have x2 : ¬ rb = M.next + 7 := by omega
  have x3 : ¬ nb = M.next + 7 := by omega
  have x4 : rb ≠ id := fun e => hqr H.length (by rw [e])
  have PE : ∃ (r : V) (M' : Mm), r = V.tup [.agg [vint (H.getD 0 noW).1, vint (H.getD 0 noW).2.1, vint (H.getD 0 noW).2.2], vbool true] ∧ (⟨M.obj, M.next + 10⟩ : Mm).next ≤ M'.next ∧ ∃ H' R', M'.obj nb = some (.box [.sl 0 [] .exact, .gsl id (H.length - 1) 3, .fn 110 [], vbool false] 159) ∧
      M'.obj id = some (.box (wyC (H' ++ R')) 154) ∧ H'.length = H.length - 1 ∧ HpOk H' ∧ (H.getD 0 noW :: H').Perm H ∧ ∀ q, q < (⟨M.obj, M.next + 10⟩ : Mm).next → q ≠ nb → q ≠ id → M'.obj q = (⟨M.obj, M.next + 10⟩ : Mm).obj q := by
    obtain ⟨L, h1, h2⟩ := heap_ex (hdW H)
    have hni := ne_type hb ho (by decide)
    exact ⟨_, ((⟨M.obj, M.next + 10⟩ : Mm).put id (.box (wyC (L ++ [])) 154)).put nb (.box [.sl 0 [] .exact, .gsl id (H.length - 1) 3, .fn 110 [], vbool false] 159), rfl, Nat.le_refl _, L, [], put_same _ _ _, (put_other _ _ (fun e => hni e.symm)).trans (put_same _ _ _),
      h2.length_eq.trans (hdW_len H), h1, (List.Perm.cons _ h2).trans (hdW_perm h0), fun q hq hqn hqi => (put_other _ _ hqn).trans (put_other _ _ hqi)⟩
  replace h0 := Hid.mk h0
  replace hR := Hid.mk hR
  generalize H.getD 0 noW = w at *
  obtain ⟨wc, wn, wr⟩ := w
  dsimp only at *
  refine x_seq ?_
  refine x_block ?_
  refine x_loopW w_hand_lister_get_p14 kr 1 (fun k t M' => (k = 0 → M' = M) ∧ (k = 1 → M.next ≤ M'.next ∧ (∃ tok v' dv, M'.obj nb = some (.box [.sl 1 [vint wc, vint wn, vint wr] tok, v', .fn 110 [], dv] 159)) ∧ M'.obj rb = some (.box [vint 0, vint 0, vint 0] 154) ∧
    ∀ q, q < M.next → q ≠ nb → q ≠ rb → q ≠ id → M'.obj q = M.obj q)) ⟨fun _ => rfl, fun h => by cases h⟩ ?_
  rintro k t2 M' hk ⟨hk0, hk1⟩
  by_cases hk00 : k = 0
  · have hMe := hk0 hk00
    subst hMe
    subst hk00
    clear hk0 hk1
    repeat' (with_reducible first | refine x_ops ?_ | refine wk ?_ | ((first | refine gd1 ?_ ?_ | refine gd2 ?_ ?_ | refine gd3 ?_ ?_) <;> (first | exact @False.elim _ | intro hc)))
    refine x_scallR [.ptr nb 1] vw PP PE ?_
    rintro r m2 ⟨rfl, p1, H', R', p3, _, _, _, _, p4⟩
    have q1 := (p4 rb (by omega) (fun e => hne e.symm) x4).trans hr
    have l1 : nb < m2.next := by omega
    have l2 : M'.next + 7 < m2.next := by omega
    have l3 : rb < m2.next := by omega
    have y1 : ¬ nb = m2.next + 7 := by omega
    have y2 : ¬ M'.next + 7 = m2.next + 7 := by omega
    have y3 : ¬ M'.next + 7 = nb := by omega
    have y4 : ¬ rb = m2.next + 7 := by omega
    have y5 : ¬ rb = nb := fun e => hne e.symm
    have fr : ∀ q, q < M'.next → q ≠ nb → q ≠ id → m2.obj q = M'.obj q := fun q hq h1 h2 => p4 q (by omega) h1 h2
    replace fr := Hid.mk fr
    clear p4 PP PE hb hr ho hq hh
    repeat' (with_reducible first | refine x_ops ?_ | refine wk ?_ | ((first | refine gd1 ?_ ?_ | refine gd2 ?_ ?_ | refine gd3 ?_ ?_) <;> (first | exact @False.elim _ | intro hc)))
    refine x_appE (n := 0) (xs := []) (j := 1) (ys := [vint wc, vint wn, vint wr]) (k2 := .exact) vw vw rfl rfl (by decide) (by decide) ?_
    repeat' (with_reducible first | refine x_ops ?_ | refine wk ?_ | ((first | refine gd1 ?_ ?_ | refine gd2 ?_ ?_ | refine gd3 ?_ ?_) <;> (first | exact @False.elim _ | intro hc)))
    refine nx (by decide) ⟨fun h => by omega, fun _ => ⟨?_, ⟨_, _, _, put_same _ _ _⟩, ?_, fun q hq h1 h2 h3 => ?_⟩⟩
    · show M'.next ≤ m2.next + 11; omega
    · exact (put_other _ _ y5).trans ((put_other _ _ y5).trans ((put_other _ _ y4).trans ((put_other _ _ (by omega)).trans ((put_other _ _ (by omega)).trans q1))))
    · exact (put_other _ _ h1).trans ((put_other _ _ h1).trans ((put_other _ _ (by omega)).trans ((put_other _ _ (by omega)).trans ((put_other _ _ (by omega)).trans (fr.out q hq h1 h3)))))
  have hk1' : k = 1 := by omega
  obtain ⟨j1, ⟨tok, v', dv, j2⟩, j3, j4⟩ := hk1 hk1'
  clear hk0 hk1 PP PE hb hr ho hq hh
  replace j4 := Hid.mk j4
  have e5 : ¬ rb = nb := fun e => hne e.symm
  have c9 : ¬ (1 : Int) ≤ 0 := by decide
  repeat' (with_reducible first | refine x_ops ?_ | refine wk ?_ | ((first | refine gd1 ?_ ?_ | refine gd2 ?_ ?_ | refine gd3 ?_ ?_) <;> (first | exact @False.elim _ | intro hc)))
  refine ⟨rfl, j1, fun q hq h1 h2 h3 => (put_other _ _ h2).trans (j4.out q hq h1 h2 (fun e => h3 H.length (by rw [e]))), _, true, put_same _ _ _, vv, vw, rfl, by rw [hR.out]; rfl⟩
end Go.Proofs.Ytojjdkoglhecbaa
namespace Go.Proofs.Ytojjdkoglhecbaa
open Go.RowKit

theorem LsM.mono {h : Hand} {l : List Chord} {Gs : List (List Grip)} {tb nq rt : Nat} {rs : List Nat} {i j : Nat} {M M' : Mm} (hL : LsM h l Gs tb nq rt rs i M) (hij : i ≤ j) (hn : M.next ≤ M'.next)
    (h1 : M'.obj tb = M.obj tb) (h2 : M'.obj nq = M.obj nq) (h3 : ∀ y, j ≤ y → y < l.length → M'.obj (rs.getD y 0) = M.obj (rs.getD y 0)) : LsM h l Gs tb nq rt rs j M' :=
  ⟨h1.trans hL.tbo, h2.trans hL.nqo, fun y hy hyl => (h3 y hy hyl).trans (hL.row y (by omega) hyl), hL.inj, Nat.lt_of_lt_of_le hL.ltt hn, Nat.lt_of_lt_of_le hL.ltn hn, fun y hy => Nat.lt_of_lt_of_le (hL.ltr y hy) hn, hL.nen, hL.ner⟩
theorem wayF_len {h : Hand} {l : List Chord} {Gs : List (List Grip)} (hn : NetOk h l Gs) {i : Nat} (hi : i < l.length) (k : Nat) : (wayF h l Gs i k).length ≤ 201 := by
  rw [wayF, List.length_append]
  have h1 := wayB_len h l Gs i k
  have h2 := wayL_len h l Gs i k (if i + 1 = l.length then 0 else (rsT h l Gs (i + 1)).length)
  have h3 : (if i + 1 = l.length then 0 else (rsT h l Gs (i + 1)).length) ≤ 200 := by
    split
    · omega
    · rw [rsT_len (by omega)]; exact hn.cnt _
  omega
/-- What get leaves, of a node. -/
def GtPost (h : Hand) (l : List Chord) (Gs : List (List Grip)) (tb nq rt : Nat) (rs : List Nat) (i k : Nat) (M : Mm) (r : V) (M' : Mm) : Prop :=
  M.next ≤ M'.next ∧ (∃ H, HpOk H ∧ H.Perm (wayF h l Gs i k) ∧ r = GtRes H) ∧ LsM h l Gs tb nq rt rs (i + 1) M' ∧ ∀ q, q < M.next → q ≠ rs.getD i 0 → M'.obj q = M.obj q
theorem gtPost_ex {h : Hand} {l : List Chord} {Gs : List (List Grip)} {tb nq rt : Nat} {rs : List Nat} {i : Nat} (k : Nat) {M : Mm} (hL : LsM h l Gs tb nq rt rs i M) : ∃ r M', GtPost h l Gs tb nq rt rs i k M r M' := by
  obtain ⟨L, h1, h2⟩ := heap_ex (wayF h l Gs i k)
  exact ⟨_, M, Nat.le_refl _, ⟨L, h1, h2, rfl⟩, hL.mono (by omega) (Nat.le_refl _) rfl rfl fun _ _ _ => rfl, fun _ _ _ => rfl⟩

theorem gtEnd_fin {M : Mm} {nb rb : Nat} {v : V} {H : List Way} {e : VX} {s : St} {Post : V → Mm → Prop} (hE : GtEnd M nb rb v H e s) (h : Post (GtRes H) s.m) : FinS [.c 8 3 true, .t 9] Post e s := by
  obtain ⟨rfl, _, _, cs, b, h1, h2, h3, h4, h5⟩ := hE
  refine ⟨.inr rfl, GtRes H, ?_, h⟩
  obtain ⟨x, y, z, rfl⟩ : ∃ x y z, cs = [x, y, z] := by
    match cs, h4 with
    | [x, y, z], _ => exact ⟨x, y, z, rfl⟩
  simp only [resV, resAll, resOne, h3, h1, h2]
  rw [h5]
  rfl

set_option maxHeartbeats 4000000 in
theorem get_sfn {h : Hand} {l : List Chord} {Gs : List (List Grip)} (hn : NetOk h l Gs) {i k : Nat} (hi : i < l.length) (hk : k < (Gs.getD i []).length) {M : Mm} {tb nq rt : Nat} {rs : List Nat} (hL : LsM h l Gs tb nq rt rs i M) :
    SFn Try.prog Gd 112 [.ptr tb 0, vint i, vint k, vint 0] M (GtPost h l Gs tb nq rt rs i k M) := by
  refine SFn.of_vxS k_hand_lister_get (by simp) ?_
  have o1 := hL.tbo
  have l1 := hL.ltt
  have x0 : ¬ tb = M.next := by omega
  have low : ∀ a : AObj, ∀ q, q < M.next → ((⟨M.obj, M.next + 2⟩ : Mm).put M.next a).obj q = M.obj q := fun a q hq => put_other _ _ (by omega)
  have hL1 : LsM h l Gs tb nq rt rs i ((⟨M.obj, M.next + 2⟩ : Mm).put M.next (.box [vint 0, vint 0, vint 0] 154)) :=
    hL.mono (Nat.le_refl _) (by show M.next ≤ M.next + 2; omega) (low _ _ l1) (low _ _ hL.ltn) (fun y _ hy => low _ _ (hL.ltr y hy))
  have NS := node_sfn hn hi hk hL1
  have NE := ndPost_ex h l Gs rs i k ((⟨M.obj, M.next + 2⟩ : Mm).put M.next (.box [vint 0, vint 0, vint 0] 154))
  unfold c_hand_lister_get
  have hL0 := Hid.mk hL
  replace low := Hid.mk low
  clear hL hL1
  repeat' (with_reducible first | refine x_ops ?_ | refine wk ?_ | ((first | refine gd1 ?_ ?_ | refine gd2 ?_ ?_ | refine gd3 ?_ ?_) <;> (first | exact @False.elim _ | intro hc)))
  refine x_scallR [.ptr tb 0, vint i, vint k] vw NS NE ?_
  rintro r M2 ⟨p0, nb, v, H, rfl, p1, p2, p3, p4, p5, p6, p7⟩
  clear NS NE
  repeat' (with_reducible first | refine x_ops ?_ | refine wk ?_ | ((first | refine gd1 ?_ ?_ | refine gd2 ?_ ?_ | refine gd3 ?_ ?_) <;> (first | exact @False.elim _ | intro hc)))
  have p0' : M.next + 2 ≤ M2.next := p0
  have p6' : ∀ q n, v = .gsl q n 3 → M.next + 2 ≤ q := p6
  have hrb : M2.obj M.next = some (.box [vint 0, vint 0, vint 0] 154) := (p7 M.next (by show M.next < M.next + 2; omega) (by have := hL0.out.ltr i hi; omega)).trans (put_same _ _ _)
  have fr : ∀ q, q < M.next → q ≠ rs.getD i 0 → M2.obj q = M.obj q := fun q hq hqr => (p7 q (by show q < M.next + 2; omega) hqr).trans (low.out _ _ hq)
  have hHl := p5.length_eq
  have hwl := wayF_len hn hi k
  have p1' : M.next + 2 ≤ nb := p1.1
  refine vx_mono (get_tail (M := M2) (nb := nb) (rb := M.next) (v := v) (H := H) vv vv vv p2 hrb p1.2 (by omega) p3 (fun n e => by have := p6' _ _ e; omega) p4 (by omega)) fun e s' hE => gtEnd_fin hE ?_
  obtain ⟨_, g1, g2, _⟩ := hE
  have fr' : ∀ q, q < M.next → q ≠ rs.getD i 0 → s'.m.obj q = M.obj q := fun q hq hqr => (g2 q (by omega) (by omega) (by omega) (fun n e => by have := p6' _ _ e; omega)).trans (fr q hq hqr)
  have hner := hL0.out.ner i hi
  refine ⟨by omega, ⟨H, p4, p5, rfl⟩, hL0.out.mono (by omega) (by omega) (fr' tb l1 (fun e => hner.1 e.symm)) (fr' nq hL0.out.ltn (fun e => hner.2 e.symm)) (fun y hy hyl => fr' _ (hL0.out.ltr y hyl) (by have := hL0.out.inj i y (by omega) hyl; omega)), fr'⟩

set_option maxHeartbeats 4000000 in
/-- The same of the root. -/
theorem getR_sfn {h : Hand} {l : List Chord} {Gs : List (List Grip)} {M : Mm} {tb nq rt : Nat} {rs : List Nat} (hL : LsM h l Gs tb nq rt rs 0 M) {v : V} {H : List Way}
    (hb : M.obj rt = some (.box [.sl 0 [] .exact, v, .fn 110 [], vbool false] 159)) (hnb : rt < M.next) (hq : QV M v H) (hh : HpOk H) (hl : H.length ≤ 100000) :
    SFn Try.prog Gd 112 [.ptr tb 0, vint (-1), vint 0, vint 0] M fun r M' => M.next ≤ M'.next ∧ r = GtRes H ∧ LsM h l Gs tb nq rt rs 0 M' ∧ ∀ q cs t, q < M.next → M.obj q = some (.box cs t) → t ≠ 159 → t ≠ 154 → M'.obj q = M.obj q := by
  refine SFn.of_vxS k_hand_lister_get (by simp) ?_
  have o1 := hL.tbo
  have l1 := hL.ltt
  have x0 : ¬ tb = M.next := by omega
  have c1 : ¬ (0 : Int) ≤ -1 := by decide
  have low : ∀ a : AObj, ∀ q, q < M.next → ((⟨M.obj, M.next + 2⟩ : Mm).put M.next a).obj q = M.obj q := fun a q hq => put_other _ _ (by omega)
  have hvlt : ∀ q n, v = .gsl q n 3 → q < M.next ∧ ∃ cs, M.obj q = some (.box cs 154) := fun q n e => by
    rcases hq with ⟨h1, _⟩ | ⟨id, R, h1, h2, h3⟩
    · rw [h1] at e; cases e
    · rw [h1] at e; injection e with e1; subst e1; exact ⟨h2, _, h3⟩
  have hq1 := hq.mono (M' := (⟨M.obj, M.next + 2⟩ : Mm).put M.next (.box [vint 0, vint 0, vint 0] 154)) (by show M.next ≤ M.next + 2; omega) (fun q n e => low _ _ (hvlt q n e).1)
  have GT := fun (t : Nat → V) s3 s8 s10 => get_tail (M := (⟨M.obj, M.next + 2⟩ : Mm).put M.next (.box [vint 0, vint 0, vint 0] 154)) (nb := rt) (rb := M.next) (v := v) (H := H) (t := t) s3 s8 s10 ((low _ _ hnb).trans hb) (put_same _ _ _) (by show rt < M.next + 2; omega) (by show M.next < M.next + 2; omega) hq1
    (fun n e => by have := (hvlt _ _ e).1; omega) hh hl
  unfold c_hand_lister_get
  have hL0 := Hid.mk hL
  replace low := Hid.mk low
  replace GT := Hid.mk GT
  replace hvlt := Hid.mk hvlt
  have hb0 := Hid.mk hb
  clear hL hq hq1 hb
  repeat' (with_reducible first | refine x_ops ?_ | refine wk ?_ | ((first | refine gd1 ?_ ?_ | refine gd2 ?_ ?_ | refine gd3 ?_ ?_) <;> (first | exact @False.elim _ | intro hc)))
  refine vx_mono (GT.out _ vv vv vv) fun e s' hE => gtEnd_fin hE ?_
  obtain ⟨_, g1, g2, _⟩ := hE
  have g1' : M.next + 2 ≤ s'.m.next := g1
  have fr : ∀ q cs t, q < M.next → M.obj q = some (.box cs t) → t ≠ 159 → t ≠ 154 → s'.m.obj q = M.obj q := fun q cs t hq ho ht1 ht2 =>
    (g2 q (by show q < M.next + 2; omega) (ne_type ho hb0.out ht1) (by omega) (fun n e => by
      obtain ⟨_, cs', h1⟩ := hvlt.out _ _ e
      exact ne_type ho h1 ht2 rfl)).trans (low.out _ _ hq)
  exact ⟨by omega, rfl, hL0.out.mono (Nat.le_refl _) (by omega) (fr tb _ _ l1 hL0.out.tbo (by decide) (by decide)) (fr nq _ _ hL0.out.ltn hL0.out.nqo (by decide) (by decide)) (fun y hy hyl => fr _ _ _ (hL0.out.ltr y hyl) (hL0.out.row y hy hyl) (by decide) (by decide)), fr⟩
end Go.Proofs.Ytojjdkoglhecbaa
namespace Go.Proofs.Ytojjdkoglhecbaa
open Go.RowKit

/-- A list in a box, that may grow. -/
def bxG (k q : Nat) : V := if k = 0 then .sl 0 [] .exact else .gsl q k 1
section
variable {P : Program} {G : Ground}
/-- One more to a list in a box. -/
theorem x_appG {base i : Nat} {d : Option Nat} {e : TypeId} {bytes : Nat} {x y : Opd} {l : List VI} {s : St} {K : St → Prop} {k oq : Nat} {cs : List V} {v : V} (hx : s.ev x = bxG k oq) (hy : rdS s.m 1 (s.ev y) = some (1, [v]))
    (ho : 0 < k → s.m.obj oq = some (.box cs e)) (hl : cs.length = k) (hone : cs.all V.one = true) (h3 : (k + 1) * bytes ≤ 140737488355328) (h4 : k + 1 ≤ maxLen)
    (h : ∀ m', m'.next = s.m.next → (∀ q, q ≠ base + i → (0 < k → q ≠ oq) → m'.obj q = s.m.obj q) → m'.obj (base + i) = some (.box (cs ++ [v]) e) → goR P G base (some ⟨putT s.t d (.gsl (base + i) (k + 1) 1), m'⟩) l (i + 1) K) :
    vrun P G base i (⟨d, none, .appM e 1 bytes, [x, y], none⟩ :: l) s K := by
  unfold bxG at hx
  by_cases h0 : k = 0
  · rw [if_pos h0] at hx
    subst h0
    have hc : cs = [] := List.eq_nil_of_length_eq_zero hl
    subst hc
    refine x_appM0 (j := 1) (ys := [v]) hx hy rfl h3 h4 ?_
    rw [if_neg (by decide)]
    exact h _ rfl (fun q hq _ => put_other _ _ hq) (put_same _ _ _)
  · rw [if_neg h0] at hx
    have ht : cs.take (k * 1) = cs := List.take_of_length_le (by omega)
    refine x_appM (j := 1) (ys := [v]) hx hy (ho (by omega)) (by omega) (by rw [ht]; exact hone) h3 h4 ?_
    rw [ht]
    exact h _ rfl (fun q hq hq2 => (put_other _ _ hq).trans (if_neg (hq2 (by omega)))) (put_same _ _ _)
end
end Go.Proofs.Ytojjdkoglhecbaa
namespace Go.Proofs.Ytojjdkoglhecbaa
open Go.RowKit

/-- The first ways of the root. -/
noncomputable def rtL (h : Hand) (l : List Chord) (Gs : List (List Grip)) : Nat → List Way
  | 0 => []
  | j + 1 => if (rsT h l Gs 0).getD j 0 = -1 then rtL h l Gs j else rtL h l Gs j ++ [((rsT h l Gs 0).getD j 0, (j : Int), 0)]
theorem rtL_len (h : Hand) (l : List Chord) (Gs : List (List Grip)) : ∀ j, (rtL h l Gs j).length ≤ j
  | 0 => Nat.le_refl _
  | j + 1 => by
    have := rtL_len h l Gs j
    rw [rtL]; split
    · omega
    · rw [List.length_append]; simp; omega
/-- Where list stands, with i rows. -/
structure LiSt (h : Hand) (l : List Chord) (Gs : List (List Grip)) (m : Mm) (i nq : Nat) (rs : List Nat) (M : Mm) : Prop where
  nx : m.next + 7 ≤ M.next
  tbo : M.obj (m.next + 5) = some (.box [netE h l Gs, bxG i nq, .ptr (m.next + 3) 0] 162)
  rto : M.obj (m.next + 3) = some (.box [.sl 0 [] .exact, .sl 0 [] .exact, .fn 110 [], vbool false] 159)
  nqo : 0 < i → M.obj nq = some (.box (rwN rs (Gs.take i)) 163) ∧ m.next + 7 ≤ nq ∧ nq < M.next
  rl : rs.length = i
  row : ∀ y, y < i → M.obj (rs.getD y 0) = some (.box (nilR (Gs.getD y []).length) 150) ∧ m.next + 7 ≤ rs.getD y 0 ∧ rs.getD y 0 < nq
  inc : ∀ y z, y < z → z < i → rs.getD y 0 < rs.getD z 0
  fr : ∀ q, q < m.next → M.obj q = m.obj q
theorem rwN_len (rs : List Nat) (Gs : List (List Grip)) : (rwN rs Gs).length = Gs.length := by simp [rwN]
theorem rwN_one (rs : List Nat) (Gs : List (List Grip)) : (rwN rs Gs).all V.one = true := by
  rw [List.all_eq_true]
  intro v hv
  rw [rwN] at hv
  obtain ⟨y, _, rfl⟩ := List.mem_map.1 hv
  rfl
theorem rwN_snoc {rs : List Nat} {Gs : List (List Grip)} {k q : Nat} (hk : k < Gs.length) (hq : rs.length = k) : rwN (rs ++ [q]) (Gs.take (k + 1)) = rwN rs (Gs.take k) ++ [.bsl q 0 (Gs.getD k []).length (Gs.getD k []).length] := by
  have l1 : (Gs.take (k + 1)).length = k + 1 := by rw [List.length_take]; omega
  have l2 : (Gs.take k).length = k := by rw [List.length_take]; omega
  rw [rwN, rwN, l1, l2, List.range_succ, List.map_append, List.map_cons, List.map_nil]
  have ha : (rs ++ [q]).getD k 0 = q := by simp [List.getD_eq_getElem?_getD, ← hq]
  have gT : ∀ (n y : Nat), y < n → (Gs.take n).getD y [] = Gs.getD y [] := fun n y h => by simp [List.getD_eq_getElem?_getD, List.getElem?_take, h]
  rw [ha, gT (k + 1) k (by omega)]
  congr 1
  apply List.map_congr_left
  intro y hy
  have hyk := List.mem_range.1 hy
  have hc : (rs ++ [q]).getD y 0 = rs.getD y 0 := by simp [List.getD_eq_getElem?_getD, List.getElem?_append_left (show y < rs.length by omega)]
  rw [hc, gT _ _ (show y < k + 1 by omega), gT _ _ hyk]
/-- What list leaves. -/
def LsPost (h : Hand) (l : List Chord) (Gs : List (List Grip)) (m : Mm) (r : V) (M' : Mm) : Prop :=
  m.next ≤ M'.next ∧ (∀ q, q < m.next → M'.obj q = m.obj q) ∧ ∃ tb nq rt rs, r = .ptr tb 0 ∧ (m.next ≤ tb ∧ tb < M'.next) ∧ (∃ nv, M'.obj tb = some (.box [netE h l Gs, nv, .ptr rt 0] 162)) ∧
    (0 < l.length → LsM h l Gs tb nq rt rs 0 M' ∧ (m.next ≤ rt ∧ rt < M'.next) ∧ ∃ v H, M'.obj rt = some (.box [.sl 0 [] .exact, v, .fn 110 [], vbool false] 159) ∧ QV M' v H ∧ HpOk H ∧ H.Perm (rtL h l Gs (rsT h l Gs 0).length))

set_option maxHeartbeats 4000000 in
theorem list_sfn {h : Hand} {l : List Chord} {Gs : List (List Grip)} (hn : NetOk h l Gs) (m : Mm) : SFn Try.prog Gd 74 [netE h l Gs] m (LsPost h l Gs m) := by
  refine SFn.of_vxS k_hand_list_b (by simp) ?_
  have h4 := hn.len
  have gl := hn.gl
  unfold c_hand_list_b
  replace gl := Hid.mk gl
  have hnet : netE h l Gs = .ept [.sl h.low.length (h.low.map vint) .no, .sl h.high.length (h.high.map vint) .no, .sl h.barre.length (h.barre.map vbool) .no, .lit (.int .i64 h.top), .lit (.int .i64 h.jump), .lit (.int .i64 h.shift), .lit (.int .i64 h.lift), .lit (.int .i64 h.bar), .lit (.int .i64 h.stretch), .lit (.int .i64 h.slide),
    .sl l.length (l.flatMap Chord.cells) .no, .sl Gs.length (Gs.map tGs) .no, .sl (owA h l Gs).length ((owA h l Gs).map tIs) .no, .sl (rsA h l Gs).length ((rsA h l Gs).map tIs) .no] 0 := rfl
  replace hnet := Hid.mk hnet
  rw [hnet.out]
  repeat' (with_reducible first | refine x_ops ?_ | refine wk ?_ | ((first | refine gd1 ?_ ?_ | refine gd2 ?_ ?_ | refine gd3 ?_ ?_) <;> (first | exact @False.elim _ | intro hc)))
  refine x_genM (fun t M => (t 0 = .ept [.sl h.low.length (h.low.map vint) .no, .sl h.high.length (h.high.map vint) .no, .sl h.barre.length (h.barre.map vbool) .no, .lit (.int .i64 h.top), .lit (.int .i64 h.jump), .lit (.int .i64 h.shift), .lit (.int .i64 h.lift), .lit (.int .i64 h.bar), .lit (.int .i64 h.stretch), .lit (.int .i64 h.slide),
    .sl l.length (l.flatMap Chord.cells) .no, .sl Gs.length (Gs.map tGs) .no, .sl (owA h l Gs).length ((owA h l Gs).map tIs) .no, .sl (rsA h l Gs).length ((rsA h l Gs).map tIs) .no] 0 ∧ t 3 = .ptr (m.next + 5) 0 ∧ t 17 = vint l.length ∧ t 18 = vint 0) ∧ LiSt h l Gs m 0 0 [] M)
    ⟨⟨vv, vv, vv, vv⟩, ⟨Nat.le_refl _, ?_, ?_, fun h0 => by omega, rfl, fun y hy => by omega, fun y z _ hz => by omega, fun q hq => by ((simp only [put_obj]; repeat rw [if_neg (by omega)]))⟩⟩ ?_
  · rw [hnet.out]; exact put_same _ _ _
  · refine (put_other _ _ (by omega)).trans (put_same _ _ _)
  rintro t0 M0 ⟨⟨a0, a3, a17, a18⟩, hs0⟩
  refine x_loopW w_hand_list_b_p4 kr l.length (fun i t M => t 18 = vint (i : Int) ∧ ∃ nq rs, LiSt h l Gs m i nq rs M) ?_ ?_
  · exact ⟨a18, 0, [], hs0⟩
  clear a18 hs0
  rintro i t M hi ⟨h18, nq, rs, hs⟩
  have hnx := hs.nx
  have o1 := hs.tbo
  have l1 : m.next + 5 < M.next := by omega
  by_cases hil : i < l.length
  · have c1 : (i : Int) < (l.length : Int) := by omega
    have w1 := w_add1 (k := i) (by omega)
    have gle := gl.out
    have g1 := gss_at' (l := Gs) (k := i) (by omega)
    have hcnt := hn.cnt i
    have k1 : ((Gs.getD i []).length : Int) * 8 ≤ 140737488355328 := by omega
    have k2 : ((Gs.getD i []).length : Int) ≤ 140737488355328 := by omega
    have hs1 := Hid.mk hs
    have hfl : (List.replicate (Gs.getD i []).length [V.lit (Value.pointer none)]).flatten = nilR (Gs.getD i []).length := by rw [nilR]; simp
    clear hs
    repeat' (with_reducible first | refine x_ops ?_ | refine wk ?_ | ((first | refine gd1 ?_ ?_ | refine gd2 ?_ ?_ | refine gd3 ?_ ?_) <;> (first | exact @False.elim _ | intro hc)))
    refine x_appG (k := i) (oq := nq) (cs := rwN rs (Gs.take i)) (v := .bsl (M.next + 13) 0 (Gs.getD i []).length (Gs.getD i []).length) vw ?_ ?_ (by rw [rwN_len, List.length_take]; omega) (rwN_one _ _) (by omega) (by unfold Go.maxLen; omega) ?_
    · have e : ∀ (mm : Mm) c, c.one = true → rdS (mm.put (M.next + 14) (.box [c] 163)) 1 (.gsl (M.next + 14) 1 1) = some (1, [c]) := fun mm c hc => by
        simp [rdS, put_same, hc]
      exact e _ _ rfl
    · intro h0
      have := (hs1.out.nqo h0).2.2
      exact (put_other _ _ (by omega)).trans ((put_other _ _ (by omega)).trans (hs1.out.nqo h0).1)
    intro m2 n2 f2 b2
    have n2' : m2.next = M.next + 19 := n2
    have lt : ∀ q, q < M.next → (0 < i → q ≠ nq) → m2.obj q = M.obj q := fun q hq hqn => (f2 q (by show ¬ q = M.next + 15; omega) hqn).trans ((put_other _ _ (by omega)).trans (put_other _ _ (by omega)))
    have q1 : m2.obj (m.next + 5) = _ := (lt (m.next + 5) l1 (fun h0 => by have := (hs1.out.nqo h0).2.1; omega)).trans o1
    have row : m2.obj (M.next + 13) = some (.box (nilR (Gs.getD i []).length) 150) := (f2 _ (by show ¬ M.next + 13 = M.next + 15; omega) (fun h0 => by have := (hs1.out.nqo h0).2.2; omega)).trans ((put_other _ _ (by omega)).trans (put_same _ _ _))
    have hs2 : LiSt h l Gs m (i + 1) (M.next + 15) (rs ++ [M.next + 13]) (m2.put (m.next + 5) (.box [netE h l Gs, .gsl (M.next + 15) (i + 1) 1, .ptr (m.next + 3) 0] 162)) := by
      have hq := hs1.out.rl
      have gq : ∀ y, y < i → (rs ++ [M.next + 13]).getD y 0 = rs.getD y 0 := fun y hy => by simp [List.getD_eq_getElem?_getD, List.getElem?_append_left (show y < rs.length by omega)]
      have gN : (rs ++ [M.next + 13]).getD i 0 = M.next + 13 := by simp [List.getD_eq_getElem?_getD, ← hq]
      refine ⟨by show m.next + 7 ≤ m2.next; omega, put_same _ _ _, ?_, fun _ => ⟨?_, by omega, by show M.next + 15 < m2.next; omega⟩, by rw [List.length_append, hq]; rfl, fun y hy => ?_, fun y z hyz hz => ?_, fun q hq' => ?_⟩
      · exact (put_other _ _ (by omega)).trans ((lt (m.next + 3) (by omega) (fun h0 => by have := (hs1.out.nqo h0).2.1; omega)).trans hs1.out.rto)
      · rw [rwN_snoc (by omega) hq]; exact (put_other _ _ (by omega)).trans b2
      · by_cases e : y = i
        · subst e; rw [gN]; exact ⟨(put_other _ _ (by omega)).trans row, by omega, by omega⟩
        · rw [gq y (by omega)]
          obtain ⟨r1, r2, r3⟩ := hs1.out.row y (by omega)
          have r4 := (hs1.out.nqo (by omega)).2.2
          exact ⟨(put_other _ _ (by omega)).trans ((lt _ (by omega) (fun _ => by omega)).trans r1), r2, by omega⟩
      · rw [gq y (by omega)]
        by_cases e : z = i
        · subst e; rw [gN]
          have r3 := (hs1.out.row y (by omega)).2.2
          have r4 := (hs1.out.nqo (by omega)).2.2
          omega
        · rw [gq z (by omega)]; exact hs1.out.inc y z hyz (by omega)
      · exact (put_other _ _ (by omega)).trans ((lt q (by omega) (fun h0 => by have := (hs1.out.nqo h0).2.1; omega)).trans (hs1.out.fr q hq'))
    replace hs2 := Hid.mk hs2
    replace n2' := Hid.mk n2'
    clear f2 b2 n2 lt row o1 hfl
    repeat' (with_reducible first | refine x_ops ?_ | refine wk ?_ | ((first | refine gd1 ?_ ?_ | refine gd2 ?_ ?_ | refine gd3 ?_ ?_) <;> (first | exact @False.elim _ | intro hc)))
    exact nx hil ⟨vv, M.next + 15, rs ++ [M.next + 13], hs2.out⟩
  have hie : i = l.length := by omega
  subst hie
  have c1 : ¬ (l.length : Int) < (l.length : Int) := by omega
  replace hs := Hid.mk hs
  clear hi hil o1
  by_cases h0 : 0 < l.length
  case neg =>
    have c2 : ¬ (0 : Int) < (l.length : Int) := by omega
    have h0' := Hid.mk h0
    clear h0
    repeat' (with_reducible first | refine x_ops ?_ | refine wk ?_ | ((first | refine gd1 ?_ ?_ | refine gd2 ?_ ?_ | refine gd3 ?_ ?_) <;> (first | exact @False.elim _ | intro hc)))
    exact ⟨.inr rfl, .ptr (m.next + 5) 0, vv, by show m.next ≤ M.next; omega, hs.out.fr, m.next + 5, 0, m.next + 3, [], rfl, ⟨by omega, by show m.next + 5 < M.next; omega⟩, ⟨_, hs.out.tbo⟩, fun h1 => absurd h1 h0'.out⟩
  have c2 : (0 : Int) < (l.length : Int) := by omega
  have hL0 : LsM h l Gs (m.next + 5) nq (m.next + 3) rs 0 M := by
    have e5 : bxG l.length nq = .gsl nq l.length 1 := if_neg (by omega)
    have htk : Gs.take l.length = Gs := List.take_of_length_le (by rw [gl.out]; exact Nat.le_refl _)
    obtain ⟨n1, n2, n3⟩ := hs.out.nqo h0
    rw [htk] at n1
    refine ⟨by rw [← e5]; exact hs.out.tbo, n1, fun y _ hy => (hs.out.row y hy).1, hs.out.inc, l1, n3, fun y hy => by have := (hs.out.row y hy).2.2; omega, by omega, fun y hy => ⟨by have := (hs.out.row y hy).2.1; omega, by have := (hs.out.row y hy).2.2; omega⟩⟩
  have hrt := hs.out.rto
  have hfr := hs.out.fr
  replace hfr := Hid.mk hfr
  have hT0 := rsT_len (h := h) (Gs := Gs) h0
  have hcn := hn.cnt 0
  have g5 := iss_at' (l := rsA h l Gs) (k := 0) (by rw [rsA_len]; exact h0)
  rw [rsA_at h0] at g5
  have g6 := rsA_len (h := h) (l := l) (Gs := Gs)
  generalize hNe : rsT h l Gs 0 = N at *
  replace hNe := Hid.mk hNe
  replace hT0 := Hid.mk hT0
  have h0' := Hid.mk h0
  clear h0 hs
  repeat' (with_reducible first | refine x_ops ?_ | refine wk ?_ | ((first | refine gd1 ?_ ?_ | refine gd2 ?_ ?_ | refine gd3 ?_ ?_) <;> (first | exact @False.elim _ | intro hc)))
  refine x_gen (fun t => t 3 = .ptr (m.next + 5) 0 ∧ t 51 = .sl N.length (N.map vint) .no ∧ t 52 = vint N.length ∧ t 53 = vint 0) ⟨vw, vv, vv, vv⟩ ?_
  clear a0 a3 a17 h18
  rintro t6 ⟨a3, a51, a52, a53⟩
  have hrl : ∀ k, k < N.length → rtL h l Gs (k + 1) = if N.getD k 0 = -1 then rtL h l Gs k else rtL h l Gs k ++ [(N.getD k 0, (k : Int), 0)] := fun k _ => by rw [rtL, hNe.out]
  refine x_loopW w_hand_list_b_p10 kr N.length (fun k t M' => t 53 = vint (k : Int) ∧ NdM M (m.next + 3) (rtL h l Gs k) M') ?_ ?_
  · exact ⟨a53, Nat.le_refl _, ⟨_, [], hrt, .inl ⟨rfl, rfl⟩, fun j h0 hj => by simp at hj, .refl _, fun q n e => by cases e⟩, fun _ _ _ => rfl⟩
  clear a53
  rintro k t7 M' hk ⟨h53, hM'⟩
  have hM0 := Hid.mk hM'
  obtain ⟨j1, ⟨v, H, j2, j3, j4, j5, j6⟩, j7⟩ := hM'
  by_cases hkl : k < N.length
  case neg =>
    have hke : k = N.length := by omega
    subst hke
    have cc1 : ¬ (N.length : Int) < (N.length : Int) := by omega
    have lsm := hL0.mono (M' := M') (Nat.le_refl _) j1 (j7 _ l1 (by omega)) (j7 _ hL0.ltn (ne_type hL0.nqo hrt (by decide))) (fun y hy hyl => j7 _ (hL0.ltr y hyl) (ne_type (hL0.row y hy hyl) hrt (by decide)))
    have fr2 : ∀ q, q < m.next → M'.obj q = m.obj q := fun q hq => (j7 q (by omega) (by omega)).trans (hfr.out q hq)
    have hfin : LsPost h l Gs m (.ptr (m.next + 5) 0) M' := by
      refine ⟨by omega, fr2, m.next + 5, nq, m.next + 3, rs, rfl, ⟨by omega, by omega⟩, ⟨_, lsm.tbo⟩, fun _ => ⟨lsm, ⟨by omega, by omega⟩, v, H, j2, j3, j4, by rw [hNe.out]; exact j5⟩⟩
    replace hfin := Hid.mk hfin
    clear j1 j2 j3 j4 j5 j6 j7 hM0 fr2 lsm hL0 hrl hkl hk
    repeat' (with_reducible first | refine x_ops ?_ | refine wk ?_ | ((first | refine gd1 ?_ ?_ | refine gd2 ?_ ?_ | refine gd3 ?_ ?_) <;> (first | exact @False.elim _ | intro hc)))
    exact ⟨.inr rfl, .ptr (m.next + 5) 0, vw, hfin.out⟩
  have cc1 : (k : Int) < (N.length : Int) := by omega
  have g1 := ints_at hkl
  have wk' := w_add1 (k := k) (by have := hT0.out; omega)
  have q1 := (j7 (m.next + 5) l1 (by omega)).trans hL0.tbo
  have hrk := hrl k hkl
  by_cases hno : N.getD k 0 = -1
  · have e2 : (N.getD k 0 == -1) = true := by rw [hno]; rfl
    rw [if_pos hno] at hrk
    replace hrk := Hid.mk hrk
    clear hno hrl j2 j3 j4 j5 j6 j7 hk
    repeat' (with_reducible first | refine x_ops ?_ | refine wk ?_ | ((first | refine gd1 ?_ ?_ | refine gd2 ?_ ?_ | refine gd3 ?_ ?_) <;> (first | exact @False.elim _ | intro hc)))
    exact nx hkl ⟨vv, by rw [hrk.out]; exact hM0.out⟩
  have e2 : (N.getD k 0 == -1) = false := by rw [beq_eq_false_iff_ne]; exact hno
  rw [if_neg hno] at hrk
  have hHl := j5.length_eq
  have hrlen := rtL_len h l Gs k
  have PS := push_psh (w := (N.getD k 0, (k : Int), 0)) j2 (by omega) j3 j4 (by have := hT0.out; omega)
  have PE := PshPost.some (fv := .sl 0 [] .exact) (v := v) (dv := vbool false) (N.getD k 0, (k : Int), 0) (show m.next + 3 < M'.next by omega) j4
  have hpush : ∀ r M2, PshPost M' (m.next + 3) (.sl 0 [] .exact) v (vbool false) H (N.getD k 0, (k : Int), 0) r M2 → NdM M (m.next + 3) (rtL h l Gs k ++ [(N.getD k 0, (k : Int), 0)]) M2 := fun r M2 hP => ndM_push (by omega) j2 j1 j5 j6 j7 hP
  dsimp only at PS
  replace hpush := Hid.mk hpush
  replace hrk := Hid.mk hrk
  clear hno hrl j2 j3 j4 j5 j6 j7 hk hHl
  repeat' (with_reducible first | refine x_ops ?_ | refine wk ?_ | ((first | refine gd1 ?_ ?_ | refine gd2 ?_ ?_ | refine gd3 ?_ ?_) <;> (first | exact @False.elim _ | intro hc)))
  refine x_scallR [.ptr (m.next + 3) 1, .agg [vint (N.getD k 0), vint (k : Int), vint 0]] vw PS PE ?_
  rintro r M2 hP
  have hr := hP.1
  subst hr
  have hM2 := Hid.mk (hpush.out _ _ hP)
  clear PS PE hP
  repeat' (with_reducible first | refine x_ops ?_ | refine wk ?_ | ((first | refine gd1 ?_ ?_ | refine gd2 ?_ ?_ | refine gd3 ?_ ?_) <;> (first | exact @False.elim _ | intro hc)))
  exact nx hkl ⟨vv, by rw [hrk.out]; exact hM2.out⟩
end Go.Proofs.Ytojjdkoglhecbaa
namespace Go.Proofs.Ytojjdkoglhecbaa
open Go.RowKit

/-- The first of some ways. -/
noncomputable def bstW (L : List Way) : Way := (Classical.choose (heap_ex L)).getD 0 noW
/-- Ways that are told apart by their order. -/
def TotW (L : List Way) : Prop := ∀ a ∈ L, ∀ b ∈ L, befW a b = false → befW b a = false → a = b
theorem mem_getW {L : List Way} {w : Way} (h : w ∈ L) : ∃ j, j < L.length ∧ L.getD j noW = w := by
  obtain ⟨j, hj, e⟩ := List.mem_iff_getElem.1 h
  exact ⟨j, hj, by rw [List.getD_eq_getElem?_getD, List.getElem?_eq_getElem hj]; exact e⟩
theorem heap_min {H L : List Way} (hh : HpOk H) (hp : H.Perm L) (hL : L ≠ []) : H.getD 0 noW ∈ L ∧ ∀ w ∈ L, befW w (H.getD 0 noW) = false := by
  have h0 : 0 < H.length := by rw [hp.length_eq]; exact List.length_pos_iff.2 hL
  refine ⟨hp.mem_iff.1 (mem_getD _ h0), fun w hw => ?_⟩
  obtain ⟨j, hj, rfl⟩ := mem_getW (hp.mem_iff.2 hw)
  exact hp_min hh j hj
theorem bstW_ok {L : List Way} (hL : L ≠ []) : bstW L ∈ L ∧ ∀ w ∈ L, befW w (bstW L) = false := by
  have h := Classical.choose_spec (heap_ex L)
  exact heap_min h.1 h.2 hL
theorem bstW_heap {H L : List Way} (hh : HpOk H) (hp : H.Perm L) (hL : L ≠ []) (ht : TotW L) : H.getD 0 noW = bstW L := by
  have h1 := heap_min hh hp hL
  have h2 := bstW_ok hL
  exact ht _ h1.1 _ h2.1 (h2.2 _ h1.1) (h1.2 _ h2.1)
theorem befW_cost {a b : Way} (h : befW a b = false) : b.1 ≤ a.1 := by
  unfold befW at h
  split at h <;> simp only [decide_eq_false_iff_not] at h <;> omega

section
variable {h : Hand} {l : List Chord} {Gs : List (List Grip)}
theorem wayL_mem {i k : Nat} : ∀ {j : Nat} {w : Way}, w ∈ wayL h l Gs i k j → ∃ q, q < j ∧ ¬ (rsT h l Gs (i + 1)).getD q 0 = -1 ∧ (stepR h (l.getD i noC) ((Gs.getD i []).getD k noG) (l.getD (i + 1) noC) ((Gs.getD (i + 1) []).getD q noG)).2 = true ∧
    w = (ownC h (l.getD i noC) ((Gs.getD i []).getD k noG) + (stepR h (l.getD i noC) ((Gs.getD i []).getD k noG) (l.getD (i + 1) noC) ((Gs.getD (i + 1) []).getD q noG)).1 + (rsT h l Gs (i + 1)).getD q 0, (q : Int), 0)
  | 0, w, hw => by simp [wayL] at hw
  | j + 1, w, hw => by
    rw [wayL] at hw
    split at hw
    · obtain ⟨q, h1, h2⟩ := wayL_mem hw; exact ⟨q, by omega, h2⟩
    · rename_i hc
      rcases List.mem_append.1 hw with hw | hw
      · obtain ⟨q, h1, h2⟩ := wayL_mem hw; exact ⟨q, by omega, h2⟩
      · rw [List.mem_singleton] at hw
        refine ⟨j, by omega, fun e => hc (.inl e), ?_, hw⟩
        cases hs : (stepR h (l.getD i noC) ((Gs.getD i []).getD k noG) (l.getD (i + 1) noC) ((Gs.getD (i + 1) []).getD j noG)).2
        · exact absurd (.inr hs) hc
        · rfl
theorem bef_next {a b : Way} (h1 : befW a b = false) (h2 : befW b a = false) : a.2.1 = b.2.1 := by
  have e1 := befW_cost h1
  have e2 := befW_cost h2
  have e3 : a.1 = b.1 := by omega
  unfold befW at h1 h2
  rw [if_pos e3] at h1
  rw [if_pos e3.symm] at h2
  simp only [decide_eq_false_iff_not] at h1 h2
  omega
theorem wayF_tot {i k : Nat} : TotW (wayF h l Gs i k) := by
  intro a ha b hb h1 h2
  have hx := bef_next h1 h2
  rw [wayF, wayB] at ha hb
  by_cases hl : i + 1 = l.length
  · rw [if_pos hl, if_pos hl, wayL, List.append_nil, List.mem_singleton] at ha hb
    rw [ha, hb]
  · rw [if_neg hl, if_neg hl, List.nil_append] at ha hb
    obtain ⟨q, _, _, _, rfl⟩ := wayL_mem ha
    obtain ⟨p, _, _, _, rfl⟩ := wayL_mem hb
    have : q = p := by have h9 : (q : Int) = (p : Int) := hx; omega
    rw [this]
theorem rtL_mem : ∀ {j : Nat} {w : Way}, w ∈ rtL h l Gs j → ∃ q, q < j ∧ ¬ (rsT h l Gs 0).getD q 0 = -1 ∧ w = ((rsT h l Gs 0).getD q 0, (q : Int), 0)
  | 0, w, hw => by simp [rtL] at hw
  | j + 1, w, hw => by
    rw [rtL] at hw
    split at hw
    · obtain ⟨q, h1, h2⟩ := rtL_mem hw; exact ⟨q, by omega, h2⟩
    · rename_i hc
      rcases List.mem_append.1 hw with hw | hw
      · obtain ⟨q, h1, h2⟩ := rtL_mem hw; exact ⟨q, by omega, h2⟩
      · rw [List.mem_singleton] at hw; exact ⟨j, by omega, hc, hw⟩
theorem rtL_has : ∀ {j q : Nat}, q < j → ¬ (rsT h l Gs 0).getD q 0 = -1 → ((rsT h l Gs 0).getD q 0, (q : Int), 0) ∈ rtL h l Gs j
  | 0, q, hq, _ => by omega
  | j + 1, q, hq, hn => by
    rw [rtL]
    by_cases e : q = j
    · subst e; rw [if_neg hn]; exact List.mem_append.2 (.inr (List.mem_singleton.2 rfl))
    · have := rtL_has (j := j) (q := q) (by omega) hn
      split
      · exact this
      · exact List.mem_append.2 (.inl this)
theorem rtL_tot {j : Nat} : TotW (rtL h l Gs j) := by
  intro a ha b hb h1 h2
  have hx := bef_next h1 h2
  obtain ⟨q, _, _, rfl⟩ := rtL_mem ha
  obtain ⟨p, _, _, rfl⟩ := rtL_mem hb
  have : q = p := by have h9 : (q : Int) = (p : Int) := hx; omega
  rw [this]

/-- The least cost is that of the first way. -/
theorem bsU_way (hn : NetOk h l Gs) {i k : Nat} (hi : i + 1 < l.length) (hk : k < (Gs.getD i []).length) : ∀ {j : Nat}, j ≤ (Gs.getD (i + 1) []).length →
    (bsU h (l.getD i noC) ((Gs.getD i []).getD k noG) (l.getD (i + 1) noC) (Gs.getD (i + 1) []) (rsT h l Gs (i + 1)) j = -1 ∧ wayL h l Gs i k j = []) ∨
    (0 ≤ bsU h (l.getD i noC) ((Gs.getD i []).getD k noG) (l.getD (i + 1) noC) (Gs.getD (i + 1) []) (rsT h l Gs (i + 1)) j ∧ (∃ w ∈ wayL h l Gs i k j, w.1 = bsU h (l.getD i noC) ((Gs.getD i []).getD k noG) (l.getD (i + 1) noC) (Gs.getD (i + 1) []) (rsT h l Gs (i + 1)) j) ∧
      ∀ u ∈ wayL h l Gs i k j, bsU h (l.getD i noC) ((Gs.getD i []).getD k noG) (l.getD (i + 1) noC) (Gs.getD (i + 1) []) (rsT h l Gs (i + 1)) j ≤ u.1)
  | 0, _ => .inl ⟨rfl, rfl⟩
  | j + 1, hj => by
    have ih := bsU_way hn hi hk (j := j) (by omega)
    have hi0 : i < l.length := by omega
    have hown := own_bound hn.hk (hn.seq i hi0).1 (hn.grip hi0 hk).1
    have hsb := stepB hn hi hk (m := j) (by omega)
    have hNb := rsT_bound hn _ (i + 1) rfl hi j (by omega)
    by_cases hN : (rsT h l Gs (i + 1)).getD j 0 = -1
    · rw [bsU, wayL, if_pos hN, if_pos (.inl hN)]; exact ih
    have hN0 : 0 ≤ (rsT h l Gs (i + 1)).getD j 0 := by rcases hNb with h1 | h1; exact absurd h1 hN; exact h1.1
    by_cases hs : StepOk h (l.getD i noC) ((Gs.getD i []).getD k noG) (l.getD (i + 1) noC) ((Gs.getD (i + 1) []).getD j noG)
    case neg => rw [bsU, wayL, if_neg hN, stepR_no hs, if_neg (by simp), if_pos (.inr rfl)]; exact ih
    rw [stepR_ok hs] at hsb
    have e1 : bsU h (l.getD i noC) ((Gs.getD i []).getD k noG) (l.getD (i + 1) noC) (Gs.getD (i + 1) []) (rsT h l Gs (i + 1)) (j + 1) = if bsU h (l.getD i noC) ((Gs.getD i []).getD k noG) (l.getD (i + 1) noC) (Gs.getD (i + 1) []) (rsT h l Gs (i + 1)) j = -1 ∨
        ownC h (l.getD i noC) ((Gs.getD i []).getD k noG) + stepC h (l.getD i noC) ((Gs.getD i []).getD k noG) (l.getD (i + 1) noC) ((Gs.getD (i + 1) []).getD j noG) + (rsT h l Gs (i + 1)).getD j 0 < bsU h (l.getD i noC) ((Gs.getD i []).getD k noG) (l.getD (i + 1) noC) (Gs.getD (i + 1) []) (rsT h l Gs (i + 1)) j
        then ownC h (l.getD i noC) ((Gs.getD i []).getD k noG) + stepC h (l.getD i noC) ((Gs.getD i []).getD k noG) (l.getD (i + 1) noC) ((Gs.getD (i + 1) []).getD j noG) + (rsT h l Gs (i + 1)).getD j 0
        else bsU h (l.getD i noC) ((Gs.getD i []).getD k noG) (l.getD (i + 1) noC) (Gs.getD (i + 1) []) (rsT h l Gs (i + 1)) j := by rw [bsU, if_neg hN, stepR_ok hs, if_pos rfl]
    have e2 : wayL h l Gs i k (j + 1) = wayL h l Gs i k j ++ [(ownC h (l.getD i noC) ((Gs.getD i []).getD k noG) + stepC h (l.getD i noC) ((Gs.getD i []).getD k noG) (l.getD (i + 1) noC) ((Gs.getD (i + 1) []).getD j noG) + (rsT h l Gs (i + 1)).getD j 0, (j : Int), 0)] := by
      rw [wayL, stepR_ok hs, if_neg (fun hh => hh.elim hN (fun e => by cases e))]
    rw [e1, e2]
    generalize bsU h (l.getD i noC) ((Gs.getD i []).getD k noG) (l.getD (i + 1) noC) (Gs.getD (i + 1) []) (rsT h l Gs (i + 1)) j = p at *
    generalize wayL h l Gs i k j = W at *
    have hc0 : 0 ≤ ownC h (l.getD i noC) ((Gs.getD i []).getD k noG) + stepC h (l.getD i noC) ((Gs.getD i []).getD k noG) (l.getD (i + 1) noC) ((Gs.getD (i + 1) []).getD j noG) + (rsT h l Gs (i + 1)).getD j 0 := by dsimp only at hsb; omega
    generalize ownC h (l.getD i noC) ((Gs.getD i []).getD k noG) + stepC h (l.getD i noC) ((Gs.getD i []).getD k noG) (l.getD (i + 1) noC) ((Gs.getD (i + 1) []).getD j noG) + (rsT h l Gs (i + 1)).getD j 0 = c at *
    refine .inr ?_
    rcases ih with ⟨hp, rfl⟩ | ⟨hp, ⟨w, hw, hwc⟩, hle⟩
    · rw [if_pos (.inl hp)]
      exact ⟨hc0, ⟨_, List.mem_append.2 (.inr (List.mem_singleton.2 rfl)), rfl⟩, fun u hu => by
        rw [List.nil_append, List.mem_singleton] at hu; subst hu; exact Int.le_refl _⟩
    · by_cases hlt : c < p
      · rw [if_pos (.inr hlt)]
        refine ⟨hc0, ⟨_, List.mem_append.2 (.inr (List.mem_singleton.2 rfl)), rfl⟩, fun u hu => ?_⟩
        rcases List.mem_append.1 hu with hu | hu
        · have := hle u hu; omega
        · rw [List.mem_singleton] at hu; subst hu; exact Int.le_refl _
      · rw [if_neg (by rintro (h1 | h1); omega; exact hlt h1)]
        refine ⟨hp, ⟨w, List.mem_append.2 (.inl hw), hwc⟩, fun u hu => ?_⟩
        rcases List.mem_append.1 hu with hu | hu
        · exact hle u hu
        · rw [List.mem_singleton] at hu; subst hu; show p ≤ c; omega
/-- A grip that leads to the end has ways; the first of them costs what the table says. -/
theorem wayF_ok (hn : NetOk h l Gs) {i k : Nat} (hi : i < l.length) (hk : k < (Gs.getD i []).length) (hr : ¬ (rsT h l Gs i).getD k 0 = -1) :
    wayF h l Gs i k ≠ [] ∧ (bstW (wayF h l Gs i k)).1 = (rsT h l Gs i).getD k 0 ∧ (bstW (wayF h l Gs i k)).2.2 = 0 ∧
    (i + 1 < l.length → ∃ q : Nat, (bstW (wayF h l Gs i k)).2.1 = (q : Int) ∧ q < (Gs.getD (i + 1) []).length ∧ ¬ (rsT h l Gs (i + 1)).getD q 0 = -1 ∧ StepOk h (l.getD i noC) ((Gs.getD i []).getD k noG) (l.getD (i + 1) noC) ((Gs.getD (i + 1) []).getD q noG) ∧
      (rsT h l Gs i).getD k 0 = ownC h (l.getD i noC) ((Gs.getD i []).getD k noG) + stepC h (l.getD i noC) ((Gs.getD i []).getD k noG) (l.getD (i + 1) noC) ((Gs.getD (i + 1) []).getD q noG) + (rsT h l Gs (i + 1)).getD q 0) := by
  rw [rsT_at hi hk, rsE] at hr ⊢
  by_cases hlast : i + 1 = l.length
  · rw [if_pos hlast] at hr ⊢
    have e : wayF h l Gs i k = [(ownC h (l.getD i noC) ((Gs.getD i []).getD k noG), -1, 0)] := by rw [wayF, wayB, if_pos hlast, if_pos hlast, wayL, List.append_nil]
    rw [e]
    have hb := (bstW_ok (L := [(ownC h (l.getD i noC) ((Gs.getD i []).getD k noG), (-1 : Int), (0 : Int))]) (by simp)).1
    rw [List.mem_singleton] at hb
    rw [hb]
    exact ⟨by simp, rfl, rfl, fun h1 => by omega⟩
  · rw [if_neg hlast] at hr ⊢
    have hi1 : i + 1 < l.length := by omega
    have e : wayF h l Gs i k = wayL h l Gs i k (Gs.getD (i + 1) []).length := by rw [wayF, wayB, if_neg hlast, if_neg hlast, List.nil_append, rsT_len hi1]
    rw [e]
    rcases bsU_way hn hi1 hk (Nat.le_refl _) with ⟨h1, _⟩ | ⟨h1, ⟨w, hw, hwc⟩, hle⟩
    · exact absurd h1 hr
    have hne : wayL h l Gs i k (Gs.getD (i + 1) []).length ≠ [] := fun e => by rw [e] at hw; cases hw
    obtain ⟨b1, b2⟩ := bstW_ok hne
    have hc : (bstW (wayL h l Gs i k (Gs.getD (i + 1) []).length)).1 = bsU h (l.getD i noC) ((Gs.getD i []).getD k noG) (l.getD (i + 1) noC) (Gs.getD (i + 1) []) (rsT h l Gs (i + 1)) (Gs.getD (i + 1) []).length := by
      have := befW_cost (b2 w hw)
      have := hle _ b1
      omega
    obtain ⟨q, q1, q2, q3, q4⟩ := wayL_mem b1
    have hso : StepOk h (l.getD i noC) ((Gs.getD i []).getD k noG) (l.getD (i + 1) noC) ((Gs.getD (i + 1) []).getD q noG) := by
      by_cases hx : StepOk h (l.getD i noC) ((Gs.getD i []).getD k noG) (l.getD (i + 1) noC) ((Gs.getD (i + 1) []).getD q noG)
      · exact hx
      · rw [stepR_no hx] at q3; cases q3
    refine ⟨hne, hc, by rw [q4], fun _ => ⟨q, by rw [q4], q1, q2, hso, ?_⟩⟩
    rw [← hc, q4, stepR_ok hso]
end
end Go.Proofs.Ytojjdkoglhecbaa
namespace Go.Proofs.Ytojjdkoglhecbaa
open Go.RowKit

/-- The first way of the root. -/
noncomputable def rootW (h : Hand) (l : List Chord) (Gs : List (List Grip)) : Way := bstW (rtL h l Gs (rsT h l Gs 0).length)
/-- The grips of the best fingering, by their numbers. -/
noncomputable def kS (h : Hand) (l : List Chord) (Gs : List (List Grip)) : Nat → Nat
  | 0 => (rootW h l Gs).2.1.toNat
  | i + 1 => (bstW (wayF h l Gs i (kS h l Gs i))).2.1.toNat
noncomputable def pathU (h : Hand) (l : List Chord) (Gs : List (List Grip)) (n : Nat) : List Grip := (List.range n).map fun i => (Gs.getD i []).getD (kS h l Gs i) noG
theorem pathU_len (h : Hand) (l : List Chord) (Gs : List (List Grip)) (n : Nat) : (pathU h l Gs n).length = n := by simp [pathU]
theorem pathU_succ (h : Hand) (l : List Chord) (Gs : List (List Grip)) (n : Nat) : pathU h l Gs (n + 1) = pathU h l Gs n ++ [(Gs.getD n []).getD (kS h l Gs n) noG] := by simp [pathU, List.range_succ]
/-- Is there a fingering? -/
def HasF (h : Hand) (l : List Chord) (Gs : List (List Grip)) : Prop := rtL h l Gs (rsT h l Gs 0).length ≠ []
open Classical in
/-- What first answers. -/
noncomputable def fstR (h : Hand) (l : List Chord) (Gs : List (List Grip)) : List Grip × Int × Int :=
  if l.length = 0 then ([], 0, 0) else if HasF h l Gs then (pathU h l Gs l.length, (rootW h l Gs).1, 0) else ([], 0, 62)
theorem rootW_ok {h : Hand} {l : List Chord} {Gs : List (List Grip)} (hh : HasF h l Gs) : ∃ q : Nat, rootW h l Gs = ((rsT h l Gs 0).getD q 0, (q : Int), 0) ∧ q < (rsT h l Gs 0).length ∧ ¬ (rsT h l Gs 0).getD q 0 = -1 := by
  obtain ⟨q, q1, q2, q3⟩ := rtL_mem (bstW_ok hh).1
  exact ⟨q, q3, q1, q2⟩
theorem kS_ok {h : Hand} {l : List Chord} {Gs : List (List Grip)} (hn : NetOk h l Gs) (hh : HasF h l Gs) : ∀ {i : Nat}, i < l.length → kS h l Gs i < (Gs.getD i []).length ∧ ¬ (rsT h l Gs i).getD (kS h l Gs i) 0 = -1
  | 0, hi => by
    obtain ⟨q, q1, q2, q3⟩ := rootW_ok hh
    rw [rsT_len hi] at q2
    rw [kS, q1]; exact ⟨q2, q3⟩
  | i + 1, hi => by
    obtain ⟨h1, h2⟩ := kS_ok hn hh (i := i) (by omega)
    obtain ⟨_, _, _, h3⟩ := wayF_ok hn (by omega) h1 h2
    obtain ⟨q, q1, q2, q3, _⟩ := h3 hi
    rw [kS, q1, Int.toNat_natCast]
    exact ⟨q2, q3⟩
/-- The next grip, as get gives it. -/
theorem kS_next {h : Hand} {l : List Chord} {Gs : List (List Grip)} (hn : NetOk h l Gs) (hh : HasF h l Gs) {i : Nat} (hi : i < l.length) {H : List Way} (hH : HpOk H) (hp : H.Perm (wayF h l Gs i (kS h l Gs i))) :
    ∃ c x : Int, GtRes H = .tup [.agg [vint c, vint x, vint 0], vbool true] ∧ (i + 1 < l.length → x = (kS h l Gs (i + 1) : Int)) := by
  obtain ⟨h1, h2⟩ := kS_ok hn hh hi
  obtain ⟨w1, w2, w3, w4⟩ := wayF_ok hn hi h1 h2
  have e := bstW_heap hH hp w1 wayF_tot
  have hne : H ≠ [] := fun e0 => by subst e0; exact w1 (List.nil_perm.1 hp)
  refine ⟨(bstW (wayF h l Gs i (kS h l Gs i))).1, (bstW (wayF h l Gs i (kS h l Gs i))).2.1, by rw [GtRes, if_neg hne, e, w3], fun hi1 => ?_⟩
  obtain ⟨q, q1, _⟩ := w4 hi1
  rw [kS, q1, Int.toNat_natCast]

/-- All that is neither node nor way is as it was. -/
def Fr (M M' : Mm) : Prop := M.next ≤ M'.next ∧ ∀ q cs t, q < M.next → M.obj q = some (.box cs t) → t ≠ 159 → t ≠ 154 → t ≠ 150 → M'.obj q = M.obj q
/-- What fingering leaves. -/
def FgPost (h : Hand) (l : List Chord) (Gs : List (List Grip)) (M : Mm) (r : V) (M' : Mm) : Prop :=
  Fr M M' ∧ ∃ (G : List Grip) (c : Int) (is : Bool) (tok : Tok), r = .tup [.agg [.sl G.length (G.flatMap Grip.cells) tok, vint c], vbool is] ∧ ((is = true ∧ fstR h l Gs = (G, c, 0)) ∨ (is = false ∧ fstR h l Gs = ([], 0, 62)))
theorem fgPost_ex (h : Hand) (l : List Chord) (Gs : List (List Grip)) (M : Mm) : ∃ r M', FgPost h l Gs M r M' := by
  have hf : Fr M M := ⟨Nat.le_refl _, fun _ _ _ _ _ _ _ _ => rfl⟩
  unfold FgPost fstR
  split
  · exact ⟨_, M, hf, [], 0, true, .no, rfl, .inl ⟨rfl, rfl⟩⟩
  · split
    · exact ⟨_, M, hf, _, _, true, .no, rfl, .inl ⟨rfl, rfl⟩⟩
    · exact ⟨_, M, hf, [], 0, false, .no, rfl, .inr ⟨rfl, rfl⟩⟩

/-- Where fingering stands. -/
structure FgSt (h : Hand) (l : List Chord) (Gs : List (List Grip)) (tb nq rt : Nat) (rs : List Nat) (mS : Mm) (n0 : Nat) (cost : Int) (i : Nat) (M : Mm) : Prop where
  fr : Fr mS M
  nx : n0 + 11 ≤ M.next
  ls : LsM h l Gs tb nq rt rs i M
  fb : ∃ tok, M.obj n0 = some (.box [.sl i ((pathU h l Gs i).flatMap Grip.cells) tok, vint cost] 40) ∧ Apb M tok i 53 2
  wb : ∃ c x : Int, M.obj (n0 + 8) = some (.box [vint c, vint x, vint 0] 154) ∧ (i < l.length → x = (kS h l Gs i : Int))

set_option maxHeartbeats 4000000 in
theorem fing_sfn {h : Hand} {l : List Chord} {Gs : List (List Grip)} (hn : NetOk h l Gs) {m0 M : Mm} {r0 : V} (hP : LsPost h l Gs m0 r0 M) : SFn Try.prog Gd 75 [r0, vint 0] M (FgPost h l Gs M) := by
  obtain ⟨_, _, tb, nq, rt, rs, rfl, ⟨_, l1⟩, ⟨nv, o1⟩, hL⟩ := hP
  refine SFn.of_vxS k_hand_lister_fingering (by simp) ?_
  have h4 := hn.len
  have gl := hn.gl
  have x0 : ¬ tb = M.next := by omega
  have hnet : netE h l Gs = .ept [.sl h.low.length (h.low.map vint) .no, .sl h.high.length (h.high.map vint) .no, .sl h.barre.length (h.barre.map vbool) .no, .lit (.int .i64 h.top), .lit (.int .i64 h.jump), .lit (.int .i64 h.shift), .lit (.int .i64 h.lift), .lit (.int .i64 h.bar), .lit (.int .i64 h.stretch), .lit (.int .i64 h.slide),
    .sl l.length (l.flatMap Chord.cells) .no, .sl Gs.length (Gs.map tGs) .no, .sl (owA h l Gs).length ((owA h l Gs).map tIs) .no, .sl (rsA h l Gs).length ((rsA h l Gs).map tIs) .no] 0 := rfl
  replace hnet := Hid.mk hnet
  replace gl := Hid.mk gl
  have o1' := o1
  rw [hnet.out] at o1
  unfold c_hand_lister_fingering
  by_cases hl0 : l.length = 0
  · have e1 : ((l.length : Int) == 0) = true := by rw [beq_iff_eq]; omega
    have hf : fstR h l Gs = ([], 0, 0) := by rw [fstR, if_pos hl0]
    replace hf := Hid.mk hf
    clear hl0 hL o1'
    repeat' (with_reducible first | refine x_ops ?_ | refine wk ?_ | ((first | refine gd1 ?_ ?_ | refine gd2 ?_ ?_ | refine gd3 ?_ ?_) <;> (first | exact @False.elim _ | intro hc)))
    exact ⟨.inr rfl, _, vv, ⟨by show M.next ≤ M.next + 2; omega, fun q _ _ hq _ _ _ _ => (put_other _ _ (by omega)).trans (put_other _ _ (by omega))⟩, [], 0, true, .exact, rfl, .inl ⟨rfl, hf.out⟩⟩
  have e1 : ((l.length : Int) == 0) = false := by rw [beq_eq_false_iff_ne]; omega
  obtain ⟨hLs, ⟨_, l2⟩, v, H, q1, q2, q3, q4⟩ := hL (by omega)
  have hHl := q4.length_eq
  have hrl := rtL_len h l Gs (rsT h l Gs 0).length
  have hT0 := rsT_len (h := h) (Gs := Gs) (show 0 < l.length by omega)
  have hc0 := hn.cnt 0
  have low : ∀ a : AObj, ∀ q, q < M.next → ((⟨M.obj, M.next + 11⟩ : Mm).put M.next a).obj q = M.obj q := fun a q hq => put_other _ _ (by omega)
  have hL1 : LsM h l Gs tb nq rt rs 0 ((⟨M.obj, M.next + 11⟩ : Mm).put M.next (.box [.sl 0 [] .exact, vint 0] 40)) :=
    hLs.mono (Nat.le_refl _) (by show M.next ≤ M.next + 11; omega) (low _ _ l1) (low _ _ hLs.ltn) (fun y _ hy => low _ _ (hLs.ltr y hy))
  have GR := getR_sfn hL1 (v := v) (H := H) ((low _ _ l2).trans q1) (by show rt < M.next + 11; omega) (q2.mono (by show M.next ≤ M.next + 11; omega) (fun q n e => low _ _ (by
    rcases q2 with ⟨h1, _⟩ | ⟨id, R, h1, h2, h3⟩
    · rw [h1] at e; cases e
    · rw [h1] at e; injection e with e1; subst e1; exact h2))) q3 (by omega)
  have GE : ∃ r M', ((⟨M.obj, M.next + 11⟩ : Mm).put M.next (.box [.sl 0 [] .exact, vint 0] 40)).next ≤ M'.next ∧ r = GtRes H ∧ LsM h l Gs tb nq rt rs 0 M' ∧ ∀ q cs t, q < ((⟨M.obj, M.next + 11⟩ : Mm).put M.next (.box [.sl 0 [] .exact, vint 0] 40)).next → ((⟨M.obj, M.next + 11⟩ : Mm).put M.next (.box [.sl 0 [] .exact, vint 0] 40)).obj q = some (.box cs t) → t ≠ 159 → t ≠ 154 → M'.obj q = ((⟨M.obj, M.next + 11⟩ : Mm).put M.next (.box [.sl 0 [] .exact, vint 0] 40)).obj q := ⟨_, _, Nat.le_refl _, rfl, hL1, fun _ _ _ _ _ _ _ => rfl⟩
  have hl0' := Hid.mk hl0
  replace hn := Hid.mk hn
  have hrlo : ∀ y, y < l.length → rs.getD y 0 < M.next := hLs.ltr
  have hqlo := hLs.ltn
  replace hrlo := Hid.mk hrlo
  replace hqlo := Hid.mk hqlo
  clear hL hLs hL1 low hl0 q1 q2 l2
  repeat' (with_reducible first | refine x_ops ?_ | refine wk ?_ | ((first | refine gd1 ?_ ?_ | refine gd2 ?_ ?_ | refine gd3 ?_ ?_) <;> (first | exact @False.elim _ | intro hc)))
  refine x_scallR [.ptr tb 0, vint (-1), vint 0, vint 0] vw GR GE ?_
  rintro r M2 ⟨p1, rfl, hL2, p4⟩
  have p1' : M.next + 11 ≤ M2.next := p1
  have of := (p4 M.next _ _ (by show M.next < M.next + 11; omega) (put_same _ _ _) (by decide) (by decide)).trans (put_same _ _ _)
  have fr2 : Fr M M2 := ⟨by omega, fun q cs t hq ho ht1 ht2 _ => (p4 q cs t (by show q < M.next + 11; omega) ((put_other _ _ (by omega)).trans ho) ht1 ht2).trans (put_other _ _ (by omega))⟩
  replace fr2 := Hid.mk fr2
  clear GR GE p4 p1 o1
  have y1 : ¬ M.next = M.next + 8 := by omega
  by_cases hH : H = []
  · have hno : ¬ HasF h l Gs := fun hh => hh (by subst hH; exact List.nil_perm.1 q4)
    have hf : fstR h l Gs = ([], 0, 62) := by rw [fstR, if_neg hl0'.out, if_neg hno]
    have hR : GtRes H = .tup [.agg [vint 0, vint 0, vint 0], vbool false] := by rw [GtRes, if_pos hH]
    rw [hR]
    replace hf := Hid.mk hf
    replace hL2 := Hid.mk hL2
    clear hR hH hno q3 q4
    repeat' (with_reducible first | refine x_ops ?_ | refine wk ?_ | ((first | refine gd1 ?_ ?_ | refine gd2 ?_ ?_ | refine gd3 ?_ ?_) <;> (first | exact @False.elim _ | intro hc)))
    exact ⟨.inr rfl, _, vv, ⟨fr2.out.1, fun q cs t hq ho ht1 ht2 ht3 => by (refine Eq.trans (b := M2.obj q) ?_ (fr2.out.2 q cs t hq ho ht1 ht2 ht3); repeat' (first | rfl | refine Eq.trans (put_other _ _ (by omega)) ?_))⟩, [], 0, false, .exact, rfl, .inr ⟨rfl, hf.out⟩⟩
  have hhas : HasF h l Gs := fun e => by rw [e] at q4; exact hH (List.perm_nil.1 q4)
  have hw0 : H.getD 0 noW = rootW h l Gs := bstW_heap q3 q4 hhas rtL_tot
  obtain ⟨q0, w1, w2, w3⟩ := rootW_ok hhas
  have hf : fstR h l Gs = (pathU h l Gs l.length, (rsT h l Gs 0).getD q0 0, 0) := by rw [fstR, if_neg hl0'.out, if_pos hhas, w1]
  have hk0 : kS h l Gs 0 = q0 := by rw [kS, w1]; rfl
  have hR : GtRes H = .tup [.agg [vint ((rsT h l Gs 0).getD q0 0), vint (q0 : Int), vint 0], vbool true] := by rw [GtRes, if_neg hH, hw0, w1]
  rw [hR]
  generalize (rsT h l Gs 0).getD q0 0 = cost at *
  replace hf := Hid.mk hf
  have hL3 := Hid.mk hL2
  have of' := Hid.mk of
  clear hR hH q3 q4 w1 w2 w3 hw0
  have z1 : tb < M2.next := hL2.ltt
  have z2 : M.next < M2.next := by omega
  have o2 := hL2.tbo
  rw [hnet.out] at o2
  have x1 : ¬ tb = M.next + 8 := by omega
  clear hL2
  repeat' (with_reducible first | refine x_ops ?_ | refine wk ?_ | ((first | refine gd1 ?_ ?_ | refine gd2 ?_ ?_ | refine gd3 ?_ ?_) <;> (first | exact @False.elim _ | intro hc)))
  refine x_genM (fun t M' => (t 0 = .ptr tb 0 ∧ t 4 = .ptr M.next 0 ∧ t 6 = .ptr (M.next + 8) 0 ∧ t 40 = vint l.length ∧ t 41 = vint 0) ∧ FgSt h l Gs tb nq rt rs M M.next cost 0 M') ⟨⟨vv, vv, vv, vv, vv⟩, ⟨?_, p1', ?_, ⟨.exact, put_same _ _ _, .inl rfl⟩, ⟨cost, q0, ?_, fun _ => by rw [hk0]⟩⟩⟩ ?_
  · exact ⟨fr2.out.1, fun q cs t hq ho ht1 ht2 ht3 => by (refine Eq.trans (b := M2.obj q) ?_ (fr2.out.2 q cs t hq ho ht1 ht2 ht3); repeat' (first | rfl | refine Eq.trans (put_other _ _ (by omega)) ?_))⟩
  · have old : ∀ a b c : AObj, ∀ q, q < M.next → (((M2.put (M.next + 8) a).put (M.next + 8) b).put M.next c).obj q = M2.obj q := fun a b c q hq => (put_other _ _ (by omega)).trans ((put_other _ _ (by omega)).trans (put_other _ _ (by omega)))
    exact hL3.out.mono (Nat.le_refl _) (Nat.le_refl _) (old _ _ _ _ l1) (old _ _ _ _ hqlo.out) (fun y _ hy => old _ _ _ _ (hrlo.out y hy))
  · exact (put_other _ _ (fun e => y1 e.symm)).trans (put_same _ _ _)
  rintro t0 M3 ⟨⟨a0, a4, a6, a40, a41⟩, hs0⟩
  refine x_loopW w_hand_lister_fingering_p9 kr l.length (fun i t M' => t 41 = vint (i : Int) ∧ FgSt h l Gs tb nq rt rs M M.next cost i M') ⟨a41, hs0⟩ ?_
  clear a41 hs0 of o2 o1' z1 z2 p1' hL3 of'
  rintro i t M4 hi ⟨h41, hs⟩
  have hnx := hs.nx
  have fr4 := hs.fr
  replace fr4 := Hid.mk fr4
  obtain ⟨tok, f1, f2⟩ := hs.fb
  obtain ⟨c, x, g1, g2⟩ := hs.wb
  have z2 : M.next < M4.next := by omega
  have z3 : M.next + 8 < M4.next := by omega
  have hplen := pathU_len h l Gs i
  by_cases hil : i < l.length
  case neg =>
    have hie : i = l.length := by omega
    subst hie
    have c1 : ¬ (l.length : Int) < (l.length : Int) := by omega
    replace hplen := Hid.mk hplen
    clear hs f2 g1 g2 hil hi
    repeat' (with_reducible first | refine x_ops ?_ | refine wk ?_ | ((first | refine gd1 ?_ ?_ | refine gd2 ?_ ?_ | refine gd3 ?_ ?_) <;> (first | exact @False.elim _ | intro hc)))
    refine ⟨.inr rfl, .tup [.agg [.sl l.length ((pathU h l Gs l.length).flatMap Grip.cells) tok, vint cost], vbool true], vw, ⟨fr4.out.1, fun q cs t hq ho ht1 ht2 ht3 => by (refine Eq.trans (b := M4.obj q) ?_ (fr4.out.2 q cs t hq ho ht1 ht2 ht3); repeat' (first | rfl | refine Eq.trans (put_other _ _ (by omega)) ?_))⟩, pathU h l Gs l.length, cost, true, tok, by rw [hplen.out], .inl ⟨rfl, hf.out⟩⟩
  have c1 : (i : Int) < (l.length : Int) := by omega
  have w1 := w_add1 (k := i) (by omega)
  obtain ⟨hkl, hkr⟩ := kS_ok hn.out hhas hil
  have hx := g2 hil
  subst hx
  have c2 : (kS h l Gs i : Int) < ((Gs.getD i []).length : Int) := by omega
  have gle := gl.out
  have r1 := gss_at' (l := Gs) (k := i) (by omega)
  have r2 := gs_take hkl
  have r3 := gs_len (Gs.getD i [])
  have c3 : kS h l Gs i * 2 + 2 ≤ (Gs.getD i []).length * 2 := by omega
  have hg := hn.out.grip hil hkl
  have hfl : ((Gs.getD i []).getD (kS h l Gs i) noG).fingers.length ≤ 14 := by rw [hg.2]; exact chord_len (hn.out.seq i hil).1
  have CL := clone_fn ((Gs.getD i []).getD (kS h l Gs i) noG).fingers (by omega)
  have o1 := hs.ls.tbo
  rw [hnet.out] at o1
  have z1 := hs.ls.ltt
  have x2 : ∀ q j, q < M4.next → (q < M4.next + j) = True := fun q j hq => by simp; omega
  have x3 : ∀ q j, q < M4.next → (q = M4.next + j) = False := fun q j hq => by simp; omega
  have x4 : ∀ q j, q < M4.next → (M4.next + j = q) = False := fun q j hq => by simp; omega
  have hsu : pathU h l Gs (i + 1) = pathU h l Gs i ++ [(Gs.getD i []).getD (kS h l Gs i) noG] := pathU_succ h l Gs i
  have hKN : ∀ H : List Way, HpOk H → H.Perm (wayF h l Gs i (kS h l Gs i)) → ∃ c x : Int, GtRes H = .tup [.agg [vint c, vint x, vint 0], vbool true] ∧ (i + 1 < l.length → x = (kS h l Gs (i + 1) : Int)) := fun H hH hp => kS_next hn.out hhas hil hH hp
  have hs1 := Hid.mk hs
  replace hsu := Hid.mk hsu
  replace hplen := Hid.mk hplen
  replace hfl := Hid.mk hfl
  replace hg := Hid.mk hg
  replace hKN := Hid.mk hKN
  clear hs g2
  repeat' (with_reducible first | refine x_ops ?_ | refine wk ?_ | (with_reducible refine xc (CL) ?_) | ((first | refine gd1 ?_ ?_ | refine gd2 ?_ ?_ | refine gd3 ?_ ?_) <;> (first | exact @False.elim _ | intro hc)))
  refine x_appb (n := i) (xs := (pathU h l Gs i).flatMap Grip.cells) (ys := Grip.cells ((Gs.getD i []).getD (kS h l Gs i) noG)) (k := tok) (k2 := .exact) vw (by unfold Grip.cells; exact vw) (f2.mono (fun q hq _ => (put_other _ _ (by omega)).trans (put_other _ _ (by omega))) (by show M4.next ≤ M4.next + 28; omega)) (by rw [gs_len, hplen.out]) rfl (by omega) (by unfold Go.maxLen; omega) (by show M4.next + 25 < M4.next + 28; omega) ?_
  intro tok' m5 hap' hn' hbox hobj
  replace hn' : m5.next = M4.next + 28 := hn'
  have lo : ∀ q cs ty, q < M4.next → M4.obj q = some (.box cs ty) → m5.obj q = some (.box cs ty) := fun q cs ty hq ho => hbox q cs ty ((put_other _ _ (by omega)).trans ((put_other _ _ (by omega)).trans ho)) (by show ¬ q = M4.next + 25; omega)
  have q1 := lo _ _ _ z2 f1
  have q2 := lo _ _ _ z3 g1
  have q3 := lo _ _ _ z1 o1
  have l5 : M.next < m5.next := by omega
  have l6 : M.next + 8 < m5.next := by omega
  have y2 : ¬ M.next + 8 = M.next := by omega
  have y3 : ¬ M.next = M.next + 8 := by omega
  have nb1 : tb ≠ M.next := ne_type o1 f1 (by decide)
  have hLs5 : LsM h l Gs tb nq rt rs i (m5.put M.next (.box [.sl (i + 1) ((pathU h l Gs i).flatMap Grip.cells ++ Grip.cells ((Gs.getD i []).getD (kS h l Gs i) noG)) tok', vint cost] 40)) := by
    have hh := hs1.out.ls
    refine hh.mono (Nat.le_refl _) (by show M4.next ≤ m5.next; omega) ?_ ?_ (fun y hy hyl => ?_)
    · exact ((put_other _ _ nb1).trans (lo _ _ _ z1 hh.tbo)).trans hh.tbo.symm
    · exact ((put_other _ _ (ne_type hh.nqo f1 (by decide))).trans (lo _ _ _ hh.ltn hh.nqo)).trans hh.nqo.symm
    · exact ((put_other _ _ (ne_type (hh.row y hy hyl) f1 (by decide))).trans (lo _ _ _ (hh.ltr y hyl) (hh.row y hy hyl))).trans (hh.row y hy hyl).symm
  have GS := get_sfn hn.out hil hkl hLs5
  have GE := gtPost_ex (k := kS h l Gs i) hLs5
  have hri : m5.obj (rs.getD i 0) = some (.box (nilR (Gs.getD i []).length) 150) := lo _ _ _ (hs1.out.ls.ltr i hil) (hs1.out.ls.row i (Nat.le_refl _) hil)
  replace hri := Hid.mk hri
  replace hap' := Hid.mk hap'
  replace hn' := Hid.mk hn'
  replace hLs5 := Hid.mk hLs5
  replace lo := Hid.mk lo
  clear hbox hobj f1 f2 g1 o1 CL r1 r2 r3 x2 x3 x4 z1 z2 z3
  unfold Grip.cells at GS GE
  repeat' (with_reducible first | refine x_ops ?_ | refine wk ?_ | ((first | refine gd1 ?_ ?_ | refine gd2 ?_ ?_ | refine gd3 ?_ ?_) <;> (first | exact @False.elim _ | intro hc)))
  refine x_scallR [.ptr tb 0, vint i, vint (kS h l Gs i : Int), vint 0] vw (by ((refine ve ?_; try exact True.intro)); exact GS) (by ((refine ve ?_; try exact True.intro)); exact GE) ?_
  rintro r M6 ⟨p0, ⟨H', hH, hp, rfl⟩, hLs6, fr6⟩
  obtain ⟨c', x', e, hx'⟩ := hKN.out H' hH hp
  rw [e]
  have b0 : M.next ≠ rs.getD i 0 := ne_type q1 hri.out (by decide)
  have b8 : M.next + 8 ≠ rs.getD i 0 := ne_type q2 hri.out (by decide)
  have p0' : M4.next + 28 ≤ M6.next := by have : m5.next ≤ M6.next := p0; have := hn'.out; omega
  have e6 := (fr6 M.next l5 b0).trans (put_same _ _ _)
  have e8 := (fr6 (M.next + 8) l6 b8).trans ((put_other _ _ y2).trans q2)
  have hri6 : (m5.put M.next (.box [.sl (i + 1) ((pathU h l Gs i).flatMap Grip.cells ++ Grip.cells ((Gs.getD i []).getD (kS h l Gs i) noG)) tok', vint cost] 40)).obj (rs.getD i 0) = _ := (put_other _ _ (fun e => b0 e.symm)).trans hri.out
  have ap6 := (Apb.put (o := .box [.sl (i + 1) ((pathU h l Gs i).flatMap Grip.cells ++ Grip.cells ((Gs.getD i []).getD (kS h l Gs i) noG)) tok', vint cost] 40) hap'.out q1).mono (m' := M6) (fun q hq hk => fr6 q hq (fun e => by subst e; rw [hri6] at hk; cases hk)) p0
  have fr7 : Fr M M6 := ⟨by omega, fun q cs t hq ho ht1 ht2 ht3 => by
    have h5 : m5.obj q = some (.box cs t) := lo.out q cs t (Nat.lt_of_lt_of_le hq fr4.out.1) ((fr4.out.2 q cs t hq ho ht1 ht2 ht3).trans ho)
    have h7 : q ≠ M.next := by omega
    exact (fr6 q (by show q < m5.next; have := hn'.out; omega) (ne_type h5 hri.out ht3)).trans (((put_other _ _ h7).trans h5).trans ho.symm)⟩
  replace fr7 := Hid.mk fr7
  replace hx' := Hid.mk hx'
  replace hLs6 := Hid.mk hLs6
  clear GS GE fr6 p0 e q1 q2 q3 l5 l6 hp hH
  repeat' (with_reducible first | refine x_ops ?_ | refine wk ?_ | ((first | refine gd1 ?_ ?_ | refine gd2 ?_ ?_ | refine gd3 ?_ ?_) <;> (first | exact @False.elim _ | intro hc)))
  refine nx hil ⟨vv, ⟨⟨by (show M.next ≤ M6.next; omega), fun q cs t hq ho ht1 ht2 ht3 => by (refine Eq.trans (b := M6.obj q) ?_ (fr7.out.2 q cs t hq ho ht1 ht2 ht3); repeat' (first | rfl | refine Eq.trans (put_other _ _ (by omega)) ?_))⟩, ?_, ?_, ?_, ?_⟩⟩
  · show M.next + 11 ≤ M6.next; omega
  · have hl := hLs6.out
    exact hl.mono (Nat.le_refl _) (Nat.le_refl _) (put_other _ _ (ne_type hl.tbo e8 (by decide))) (put_other _ _ (ne_type hl.nqo e8 (by decide))) (fun y hy hyl => put_other _ _ (ne_type (hl.row y hy hyl) e8 (by decide)))
  · refine ⟨tok', ?_, Apb.put ap6 e8⟩
    rw [hsu.out, List.flatMap_append, List.flatMap_singleton]
    exact (put_other _ _ (fun e => y2 e.symm)).trans e6
  · exact ⟨c', x', put_same _ _ _, hx'.out⟩
end Go.Proofs.Ytojjdkoglhecbaa
namespace Go.Proofs.Ytojjdkoglhecbaa
open Go.RowKit

/-- The least cost from a grip on, by numbers. -/
noncomputable def lst (h : Hand) (l : List Chord) (Gs : List (List Grip)) (i k : Nat) : Int := (rsT h l Gs i).getD k 0
/-- The grip k of the chord i. -/
def grp (Gs : List (List Grip)) (i k : Nat) : Grip := (Gs.getD i []).getD k noG

section
variable {h : Hand} {l : List Chord} {Gs : List (List Grip)}
theorem lst_last {i k : Nat} (hi : i + 1 = l.length) (hk : k < (Gs.getD i []).length) : lst h l Gs i k = ownC h (l.getD i noC) (grp Gs i k) := by
  rw [lst, rsT_at (by omega) hk, rsE, if_pos hi]; rfl
theorem wayL_has {i k q : Nat} (hq : ¬ lst h l Gs (i + 1) q = -1) (hs : StepOk h (l.getD i noC) (grp Gs i k) (l.getD (i + 1) noC) (grp Gs (i + 1) q)) : ∀ {j : Nat}, q < j →
    (ownC h (l.getD i noC) (grp Gs i k) + stepC h (l.getD i noC) (grp Gs i k) (l.getD (i + 1) noC) (grp Gs (i + 1) q) + lst h l Gs (i + 1) q, (q : Int), 0) ∈ wayL h l Gs i k j
  | 0, h0 => by omega
  | j + 1, h0 => by
    unfold lst grp at *
    rw [wayL]
    by_cases e : q = j
    · subst e
      rw [stepR_ok hs, if_neg (by rintro (h1 | h1); exact hq h1; cases h1)]
      exact List.mem_append.2 (.inr (List.mem_singleton.2 rfl))
    · have := wayL_has hq hs (j := j) (by omega)
      unfold lst grp at this
      split
      · exact this
      · exact List.mem_append.2 (.inl this)
/-- A step to a grip that leads to the end. -/
theorem lst_ub (hn : NetOk h l Gs) {i k q : Nat} (hi : i + 1 < l.length) (hk : k < (Gs.getD i []).length) (hq : q < (Gs.getD (i + 1) []).length) (h1 : ¬ lst h l Gs (i + 1) q = -1)
    (hs : StepOk h (l.getD i noC) (grp Gs i k) (l.getD (i + 1) noC) (grp Gs (i + 1) q)) :
    ¬ lst h l Gs i k = -1 ∧ lst h l Gs i k ≤ ownC h (l.getD i noC) (grp Gs i k) + stepC h (l.getD i noC) (grp Gs i k) (l.getD (i + 1) noC) (grp Gs (i + 1) q) + lst h l Gs (i + 1) q := by
  have hm := wayL_has (k := k) h1 hs hq
  have e : lst h l Gs i k = bsU h (l.getD i noC) ((Gs.getD i []).getD k noG) (l.getD (i + 1) noC) (Gs.getD (i + 1) []) (rsT h l Gs (i + 1)) (Gs.getD (i + 1) []).length := by
    rw [lst, rsT_at (by omega) hk, rsE, if_neg (by omega)]
  rcases bsU_way hn hi hk (Nat.le_refl _) with ⟨_, h2⟩ | ⟨h2, _, h3⟩
  · rw [h2] at hm; cases hm
  · have := h3 _ hm
    rw [e]; dsimp only at this; exact ⟨by omega, this⟩
/-- Where there is a way, it is one of them. -/
theorem lst_eq (hn : NetOk h l Gs) {i k : Nat} (hi : i + 1 < l.length) (hk : k < (Gs.getD i []).length) (h1 : ¬ lst h l Gs i k = -1) :
    ∃ q, q < (Gs.getD (i + 1) []).length ∧ ¬ lst h l Gs (i + 1) q = -1 ∧ StepOk h (l.getD i noC) (grp Gs i k) (l.getD (i + 1) noC) (grp Gs (i + 1) q) ∧
      lst h l Gs i k = ownC h (l.getD i noC) (grp Gs i k) + stepC h (l.getD i noC) (grp Gs i k) (l.getD (i + 1) noC) (grp Gs (i + 1) q) + lst h l Gs (i + 1) q := by
  obtain ⟨q, _, h2, h3, h4, h5⟩ := (wayF_ok hn (by omega) hk h1).2.2.2 hi
  exact ⟨q, h2, h3, h4, h5⟩
theorem lst_own (hn : NetOk h l Gs) {i k : Nat} (hi : i < l.length) (hk : k < (Gs.getD i []).length) : 0 ≤ ownC h (l.getD i noC) (grp Gs i k) := (own_bound hn.hk (hn.seq i hi).1 (hn.grip hi hk).1).1
end
end Go.Proofs.Ytojjdkoglhecbaa
namespace Go.Proofs.Ytojjdkoglhecbaa
open Go.RowKit

/-- The own cost of a grip, and the step between two, by numbers. -/
noncomputable def owG (h : Hand) (l : List Chord) (Gs : List (List Grip)) (i k : Nat) : Int := ownC h (l.getD i noC) ((Gs.getD i []).getD k noG)
noncomputable def stG (h : Hand) (l : List Chord) (Gs : List (List Grip)) (i k m : Nat) : Int × Bool := stepR h (l.getD i noC) ((Gs.getD i []).getD k noG) (l.getD (i + 1) noC) ((Gs.getD (i + 1) []).getD m noG)
noncomputable def tlD (h : Hand) (l : List Chord) (Gs : List (List Grip)) : Nat → Nat → Nat → List Way
  | 0, i, k => [(owG h l Gs i k, -1, 0)]
  | d + 1, i, k => mrg (Gs.getD (i + 1) []).length fun m => if (stG h l Gs i k m).2 = true then (tlD h l Gs d (i + 1) m).map fun w => owG h l Gs i k + (stG h l Gs i k m).1 + w.1 else []
/-- What the grip k of the chord i lists. -/
noncomputable def tl (h : Hand) (l : List Chord) (Gs : List (List Grip)) (i k : Nat) : List Way := tlD h l Gs (l.length - 1 - i) i k
/-- The costs by way of the grip m. -/
noncomputable def tlC (h : Hand) (l : List Chord) (Gs : List (List Grip)) (i k m : Nat) : List Int := if (stG h l Gs i k m).2 = true then (tl h l Gs (i + 1) m).map fun w => owG h l Gs i k + (stG h l Gs i k m).1 + w.1 else []
/-- What the beginning lists. -/
noncomputable def rtC (h : Hand) (l : List Chord) (Gs : List (List Grip)) (k : Nat) : List Int := (tl h l Gs 0 k).map (·.1)
noncomputable def rtT (h : Hand) (l : List Chord) (Gs : List (List Grip)) : List Way := mrg (Gs.getD 0 []).length (rtC h l Gs)
section
variable {h : Hand} {l : List Chord} {Gs : List (List Grip)}
theorem tl_last {i k : Nat} (hi : i + 1 = l.length) : tl h l Gs i k = [(owG h l Gs i k, -1, 0)] := by rw [tl, show l.length - 1 - i = 0 by omega, tlD]
theorem tl_s {i k : Nat} (hi : i + 1 < l.length) : tl h l Gs i k = mrg (Gs.getD (i + 1) []).length (tlC h l Gs i k) := by
  rw [tl, show l.length - 1 - i = (l.length - 1 - (i + 1)) + 1 by omega, tlD]; rfl
theorem stp_of {i k m : Nat} (hs : (stG h l Gs i k m).2 = true) : StepOk h (l.getD i noC) (grp Gs i k) (l.getD (i + 1) noC) (grp Gs (i + 1) m) := by
  refine Classical.byContradiction fun hc => ?_
  rw [stG, show stepR h (l.getD i noC) ((Gs.getD i []).getD k noG) (l.getD (i + 1) noC) ((Gs.getD (i + 1) []).getD m noG) = (0, false) from stepR_no hc] at hs
  cases hs
theorem asc_map {L : List Way} {x : Int} (h : Asc (L.map (·.1))) : Asc (L.map fun w => x + w.1) := by
  intro i j hij hj
  rw [List.length_map] at hj
  have h1 := h i j hij (by rw [List.length_map]; exact hj)
  rw [List.getD_eq_getElem?_getD, List.getD_eq_getElem?_getD, List.getElem?_map, List.getElem?_map, List.getElem?_eq_getElem (by omega), List.getElem?_eq_getElem hj] at h1 ⊢
  simp only [Option.map_some, Option.getD_some] at h1 ⊢
  omega
theorem asc_nil : Asc [] := fun i j _ hj => by simp at hj
theorem tl_asc {i k : Nat} (hi : i < l.length) : Asc ((tl h l Gs i k).map (·.1)) := by
  by_cases e : i + 1 = l.length
  · rw [tl_last e]
    intro a b hab hb
    simp at hb
    have : a = b := by omega
    subst this; exact Int.le_refl _
  · rw [tl_s (by omega)]; exact mrg_asc
theorem tlC_asc {i k m : Nat} (hi : i + 1 < l.length) : Asc (tlC h l Gs i k m) := by
  rw [tlC]; split
  · exact asc_map (tl_asc hi)
  · exact asc_nil
theorem rtC_asc (hl : 0 < l.length) {k : Nat} : Asc (rtC h l Gs k) := tl_asc hl
theorem getD_mapW {L : List Way} {f : Way → Int} {r : Nat} (hr : r < L.length) : (L.map f).getD r 0 = f (L.getD r noW) := by
  rw [List.getD_eq_getElem?_getD, List.getElem?_map, List.getD_eq_getElem?_getD, List.getElem?_eq_getElem hr]; rfl
theorem tlC_at {i k m r : Nat} (hs : (stG h l Gs i k m).2 = true) (hr : r < (tl h l Gs (i + 1) m).length) : (tlC h l Gs i k m).getD r 0 = owG h l Gs i k + (stG h l Gs i k m).1 + ((tl h l Gs (i + 1) m).getD r noW).1 := by
  rw [tlC, if_pos hs, getD_mapW hr]
theorem tlC_len {i k m : Nat} : (tlC h l Gs i k m).length = if (stG h l Gs i k m).2 = true then (tl h l Gs (i + 1) m).length else 0 := by
  rw [tlC]; split
  · rw [List.length_map]
  · rfl
theorem mem_nthW {L : List Way} {j : Nat} (hj : j < L.length) : L.getD j noW ∈ L := by
  rw [List.getD_eq_getElem?_getD, List.getElem?_eq_getElem hj]; exact List.getElem_mem hj
/-- The costs are small; the next grip and its rank are there. -/
theorem tl_ok (hn : NetOk h l Gs) : ∀ d i, l.length - 1 - i = d → i < l.length → ∀ k, k < (Gs.getD i []).length → ∀ w ∈ tl h l Gs i k, 0 ≤ w.1 ∧ w.1 ≤ 509000 * (l.length - i : Nat) ∧
    (i + 1 = l.length → w = (owG h l Gs i k, -1, 0)) ∧ (i + 1 < l.length → ∃ m r : Nat, m < (Gs.getD (i + 1) []).length ∧ (stG h l Gs i k m).2 = true ∧ r < (tl h l Gs (i + 1) m).length ∧ w = (owG h l Gs i k + (stG h l Gs i k m).1 + ((tl h l Gs (i + 1) m).getD r noW).1, (m : Int), (r : Int))) := by
  intro d
  induction d with
  | zero =>
    intro i hd hi k hk w hw
    have e : i + 1 = l.length := by omega
    rw [tl_last e, List.mem_singleton] at hw
    have ho := own_bound hn.hk (hn.seq i hi).1 (hn.grip hi hk).1
    subst hw
    refine ⟨?_, ?_, fun _ => rfl, fun h1 => by omega⟩
    · exact ho.1
    · have := ho.2; show owG h l Gs i k ≤ _; unfold owG; omega
  | succ d ih =>
    intro i hd hi k hk w hw
    have hi1 : i + 1 < l.length := by omega
    rw [tl_s hi1, mem_mrg] at hw
    obtain ⟨m, r, hm, hr, rfl⟩ := hw
    have hs : (stG h l Gs i k m).2 = true := by
      rw [tlC_len] at hr
      split at hr
      · assumption
      · omega
    have hr1 : r < (tl h l Gs (i + 1) m).length := by rw [tlC_len, if_pos hs] at hr; exact hr
    have ho := own_bound hn.hk (hn.seq i hi).1 (hn.grip hi hk).1
    have hst := stepB hn hi1 hk hm
    have hw := ih (i + 1) (by omega) hi1 m hm _ (mem_nthW hr1)
    rw [tlC_at hs hr1]
    refine ⟨?_, ?_, fun h1 => by omega, fun _ => ⟨m, r, hm, hs, hr1, rfl⟩⟩
    · have := ho.1; have := hst.1; have := hw.1; dsimp only; unfold owG stG; omega
    · have := ho.2; have := hst.2; have := hw.2.1; dsimp only; unfold owG stG; omega
/-- The first one has the least cost; there is none where there is no way. -/
theorem tl_first (hn : NetOk h l Gs) : ∀ d i, l.length - 1 - i = d → i < l.length → ∀ k, k < (Gs.getD i []).length → (tl h l Gs i k = [] ↔ lst h l Gs i k = -1) ∧ (tl h l Gs i k ≠ [] → ((tl h l Gs i k).getD 0 noW).1 = lst h l Gs i k) := by
  intro d
  induction d with
  | zero =>
    intro i hd hi k hk
    have e : i + 1 = l.length := by omega
    rw [tl_last e, lst_last e hk]
    have ho := lst_own hn hi hk
    refine ⟨⟨(fun h1 => by cases h1), fun h1 => by omega⟩, fun _ => rfl⟩
  | succ d ih =>
    intro i hd hi k hk
    have hi1 : i + 1 < l.length := by omega
    have hne : tl h l Gs i k ≠ [] → 0 < (tl h l Gs i k).length := List.length_pos_iff.2
    have key : ∀ m, m < (Gs.getD (i + 1) []).length → StepOk h (l.getD i noC) (grp Gs i k) (l.getD (i + 1) noC) (grp Gs (i + 1) m) → ¬ lst h l Gs (i + 1) m = -1 →
        (tlC h l Gs i k m).length ≠ 0 ∧ (tlC h l Gs i k m).getD 0 0 = ownC h (l.getD i noC) (grp Gs i k) + stepC h (l.getD i noC) (grp Gs i k) (l.getD (i + 1) noC) (grp Gs (i + 1) m) + lst h l Gs (i + 1) m := by
      intro m hm hs hN
      have h1 := ih (i + 1) (by omega) hi1 m hm
      have h2 : tl h l Gs (i + 1) m ≠ [] := fun e => hN (h1.1.1 e)
      have h3 := List.length_pos_iff.2 h2
      have hst : stG h l Gs i k m = (stepC h (l.getD i noC) (grp Gs i k) (l.getD (i + 1) noC) (grp Gs (i + 1) m), true) := by rw [stG]; exact stepR_ok hs
      have hs2 : (stG h l Gs i k m).2 = true := by rw [hst]
      rw [tlC_len, if_pos hs2]
      refine ⟨by omega, ?_⟩
      rw [tlC_at hs2 h3, h1.2 h2, hst]; rfl
    have h0 := grd_0 (n := (Gs.getD (i + 1) []).length) (c := tlC h l Gs i k)
    have hmore := grd_more (n := (Gs.getD (i + 1) []).length) (c := tlC h l Gs i k) (fun m _ => tlC_asc hi1) h0
    rw [← tl_s hi1] at hmore
    replace hmore := Hid.mk hmore
    have back : ∀ m, m < (Gs.getD (i + 1) []).length → 0 < (tlC h l Gs i k m).length → StepOk h (l.getD i noC) (grp Gs i k) (l.getD (i + 1) noC) (grp Gs (i + 1) m) ∧ ¬ lst h l Gs (i + 1) m = -1 := by
      intro m hm hlen
      rw [tlC_len] at hlen
      split at hlen
      case isFalse => omega
      rename_i hs
      have h1 := ih (i + 1) (by omega) hi1 m hm
      refine ⟨stp_of hs, fun e => ?_⟩
      rw [h1.1.2 e] at hlen
      simp at hlen
    have fwd : 0 < (tl h l Gs i k).length → ¬ lst h l Gs i k = -1 := fun hp => by
      obtain ⟨m, hm, ha⟩ := hmore.out.1 hp
      obtain ⟨b1, b2⟩ := back m hm ha
      exact (lst_ub hn hi1 hk hm b2 b1).1
    refine ⟨⟨fun e => ?_, fun e => ?_⟩, fun hne' => ?_⟩
    · refine Classical.byContradiction fun hN => ?_
      obtain ⟨q, q1, q2, q3, q4⟩ := lst_eq hn hi1 hk hN
      have := hmore.out.2 ⟨q, q1, by have := (key q q1 q3 q2).1; show 0 < (tlC h l Gs i k q).length; omega⟩
      rw [e] at this
      simp at this
    · refine Classical.byContradiction fun hne' => ?_
      exact fwd (hne hne') e
    · have hp := hne hne'
      have hN := fwd hp
      obtain ⟨q, q1, q2, q3, q4⟩ := lst_eq hn hi1 hk hN
      have kq := key q q1 q3 q2
      have hp' := hp
      rw [tl_s hi1] at hp' ⊢
      obtain ⟨m, m1, m2, m3, _⟩ := grd_next (fun m _ => tlC_asc hi1) h0 hp'
      have m2' : 0 < (tlC h l Gs i k m).length := m2
      obtain ⟨b1, b2⟩ := back m m1 m2'
      have km := key m m1 b1 b2
      have hub := (lst_ub hn hi1 hk m1 b2 b1).2
      have hq := grd_hd h0 hp' q1 (by show 0 < (tlC h l Gs i k q).length; omega)
      rw [m3, lexW_iff] at hq
      rw [m3]
      unfold hdG at hq ⊢
      dsimp only at hq ⊢
      rw [km.2, kq.2] at hq
      rw [km.2]
      omega
end
end Go.Proofs.Ytojjdkoglhecbaa
namespace Go.Proofs.Ytojjdkoglhecbaa
open Go.RowKit

theorem getD_take {L : List Int} {q r : Nat} (h : r < q) : (L.take q).getD r 0 = L.getD r 0 := by
  rw [List.getD_eq_getElem?_getD, List.getElem?_take, if_pos h, List.getD_eq_getElem?_getD]
theorem asc_take {L : List Int} (h : Asc L) (q : Nat) : Asc (L.take q) := fun i j hij hj => by
  rw [List.length_take] at hj
  rw [getD_take (by omega), getD_take (by omega)]
  exact h i j hij (by omega)
/-- The first few are the same, where of each list the first few are kept. -/
theorem mrg_keep {n : Nat} {c : Nat → List Int} (hs : ∀ m, m < n → Asc (c m)) (q : Nat) : ∀ j, j ≤ q → j ≤ (mrg n c).length → ∃ a, Grd n c j a ∧ Grd n (fun m => (c m).take q) j a ∧ (∀ m, a m ≤ j) ∧ (mrg n fun m => (c m).take q).take j = (mrg n c).take j := by
  intro j
  induction j with
  | zero => exact fun _ _ => ⟨_, grd_0, grd_0, fun _ => Nat.le_refl _, by rw [List.take_zero, List.take_zero]⟩
  | succ j ih =>
    intro hq hl
    obtain ⟨a, h1, h2, h3, h4⟩ := ih (by omega) (by omega)
    obtain ⟨m, m1, m2, m3, m4⟩ := grd_next hs h1 (by omega)
    have hlen : ∀ x, ((c x).take q).length = min q (c x).length := fun x => List.length_take
    have hsT : ∀ x, x < n → Asc ((c x).take q) := fun x hx => asc_take (hs x hx) q
    have ham := h3 m
    have e : ∀ x, a x < ((c x).take q).length → hdG (fun m => (c m).take q) a x = hdG c a x := fun x hx => by
      rw [hlen] at hx
      rw [hdG, hdG, getD_take (by omega)]
    have hmT : a m < ((c m).take q).length := by rw [hlen]; omega
    have hbest : ∀ x, x < n → a x < ((c x).take q).length → befW (hdG (fun m => (c m).take q) a x) (hdG (fun m => (c m).take q) a m) = false := fun x hx hax => by
      rw [e x hax, e m hmT, ← m3]
      have := grd_hd h1 (by omega) hx (by rw [hlen] at hax; omega)
      rw [lexW_iff] at this
      unfold befW
      split <;> rw [decide_eq_false_iff_not] <;> omega
    obtain ⟨k1, k2, k3⟩ := grd_pick hsT h2 m1 hmT hbest
    refine ⟨_, m4, k3, fun x => ?_, ?_⟩
    · try dsimp only
      split
      · omega
      · have := h3 x; omega
    · have ea : (mrg n fun m => (c m).take q)[j]? = (mrg n c)[j]? := by
        rw [e m hmT, ← m3, List.getD_eq_getElem?_getD, List.getD_eq_getElem?_getD, List.getElem?_eq_getElem k1, List.getElem?_eq_getElem (show j < (mrg n c).length by omega)] at k2
        rw [List.getElem?_eq_getElem k1, List.getElem?_eq_getElem (show j < (mrg n c).length by omega)]
        exact congrArg some k2
      rw [List.take_add_one, List.take_add_one, h4, ea]
theorem mrg_take {n : Nat} {c : Nat → List Int} (hs : ∀ m, m < n → Asc (c m)) (q : Nat) : (mrg n fun m => (c m).take q).take q = (mrg n c).take q ∧ min q (mrg n fun m => (c m).take q).length = min q (mrg n c).length := by
  have hsT : ∀ x, x < n → Asc ((c x).take q) := fun x hx => asc_take (hs x hx) q
  have key : (mrg n fun m => (c m).take q).take q = (mrg n c).take q := by
    rcases Nat.lt_or_ge q (mrg n c).length with h | h
    · obtain ⟨a, _, _, _, h4⟩ := mrg_keep hs q q (Nat.le_refl _) (by omega)
      exact h4
    · obtain ⟨a, h1, h2, _, h4⟩ := mrg_keep hs q (mrg n c).length h (Nat.le_refl _)
      have hle : (mrg n fun m => (c m).take q).length ≤ (mrg n c).length := by
        rcases Nat.lt_or_ge (mrg n c).length (mrg n fun m => (c m).take q).length with h5 | h5
        · obtain ⟨m, m1, m2, _⟩ := grd_next hsT h2 h5
          rw [List.length_take] at m2
          exact absurd (show a m < (c m).length by omega) (grd_end h1 (Nat.lt_irrefl _) m1)
        · exact h5
      rw [List.take_of_length_le hle, List.take_of_length_le (Nat.le_refl _)] at h4
      rw [h4]
  refine ⟨key, ?_⟩
  have := congrArg List.length key
  rwa [List.length_take, List.length_take] at this

/-- The cells of a tail: the grip, its cost, the tail behind it. -/
noncomputable def tcD (h : Hand) (l : List Chord) (Gs : List (List Grip)) : Nat → Nat → Nat → Nat → List V
  | 0, i, k, r => (grp Gs i k).cells ++ [vint (owG h l Gs i k), .lit (.pointer none)]
  | d + 1, i, k, r => (grp Gs i k).cells ++ [vint ((tl h l Gs i k).getD r noW).1, .ept (tcD h l Gs d (i + 1) ((tl h l Gs i k).getD r noW).2.1.toNat ((tl h l Gs i k).getD r noW).2.2.toNat) 0]
noncomputable def tcE (h : Hand) (l : List Chord) (Gs : List (List Grip)) (i k r : Nat) : List V := tcD h l Gs (l.length - 1 - i) i k r
/-- Those by way of the grip m. -/
noncomputable def tcL (h : Hand) (l : List Chord) (Gs : List (List Grip)) (i k m r : Nat) : List V := (grp Gs i k).cells ++ [vint (owG h l Gs i k + (stG h l Gs i k m).1 + ((tl h l Gs (i + 1) m).getD r noW).1), .ept (tcE h l Gs (i + 1) m r) 0]
section
variable {h : Hand} {l : List Chord} {Gs : List (List Grip)}
theorem tcE_last {i k r : Nat} (hi : i + 1 = l.length) : tcE h l Gs i k r = (grp Gs i k).cells ++ [vint (owG h l Gs i k), .lit (.pointer none)] := by rw [tcE, show l.length - 1 - i = 0 by omega, tcD]
theorem tcE_s {i k r : Nat} (hi : i + 1 < l.length) : tcE h l Gs i k r = (grp Gs i k).cells ++ [vint ((tl h l Gs i k).getD r noW).1, .ept (tcE h l Gs (i + 1) ((tl h l Gs i k).getD r noW).2.1.toNat ((tl h l Gs i k).getD r noW).2.2.toNat) 0] := by
  rw [tcE, show l.length - 1 - i = (l.length - 1 - (i + 1)) + 1 by omega, tcD]; rfl
theorem tcE_cost {i k r : Nat} (hi : i < l.length) (hr : r < (tl h l Gs i k).length) : (tcE h l Gs i k r)[2]? = some (.lit (.int .i64 ((tl h l Gs i k).getD r noW).1)) := by
  by_cases e : i + 1 = l.length
  · rw [tcE_last e, tl_last e]
    rw [tl_last e] at hr
    simp at hr
    subst hr
    rfl
  · rw [tcE_s (by omega)]; rfl
/-- What first makes of the lists by way of each grip. -/
theorem out_tl {i k : Nat} (hi : i + 1 < l.length) (q : Nat) : outT (tcL h l Gs i k) ((tl h l Gs i k).take q) = (List.range (min q (tl h l Gs i k).length)).map fun r => V.ept (tcE h l Gs i k r) 0 := by
  apply List.ext_getElem?
  intro r
  rw [outT, List.getElem?_map, List.getElem?_map]
  by_cases hr : r < min q (tl h l Gs i k).length
  · rw [List.getElem?_range hr, List.getElem?_take, if_pos (by omega), List.getElem?_eq_getElem (show r < (tl h l Gs i k).length by omega)]
    simp only [Option.map_some]
    have hg : (tl h l Gs i k).getD r noW = (tl h l Gs i k)[r] := by rw [List.getD_eq_getElem?_getD, List.getElem?_eq_getElem (show r < (tl h l Gs i k).length by omega)]; rfl
    have hm : (tl h l Gs i k)[r] ∈ mrg (Gs.getD (i + 1) []).length (tlC h l Gs i k) := by rw [← tl_s hi]; exact List.getElem_mem _
    rw [tcE_s hi, hg]
    generalize (tl h l Gs i k)[r] = w at *
    obtain ⟨m, s, m1, m2, rfl⟩ := mem_mrg.1 hm
    rw [tlC_len] at m2
    split at m2
    case isFalse => omega
    rename_i hs
    rw [tlC_at hs m2]
    simp only [Int.toNat_natCast, tcL]
  · rw [List.getElem?_eq_none (by rw [List.length_take]; omega), List.getElem?_eq_none (by rw [List.length_range]; omega)]; rfl

/-- The grips of the ways from a grip on. -/
noncomputable def pthD (h : Hand) (l : List Chord) (Gs : List (List Grip)) : Nat → Nat → Nat → Nat → List Nat
  | 0, i, k, r => [k]
  | d + 1, i, k, r => k :: pthD h l Gs d (i + 1) ((tl h l Gs i k).getD r noW).2.1.toNat ((tl h l Gs i k).getD r noW).2.2.toNat
noncomputable def pth (h : Hand) (l : List Chord) (Gs : List (List Grip)) (i k r : Nat) : List Nat := pthD h l Gs (l.length - 1 - i) i k r
/-- By their grips. -/
def grps (Gs : List (List Grip)) : Nat → List Nat → List Grip
  | _, [] => []
  | i, k :: ks => grp Gs i k :: grps Gs (i + 1) ks
theorem pth_last {i k r : Nat} (hi : i + 1 = l.length) : pth h l Gs i k r = [k] := by rw [pth, show l.length - 1 - i = 0 by omega, pthD]
theorem pth_s {i k r : Nat} (hi : i + 1 < l.length) : pth h l Gs i k r = k :: pth h l Gs (i + 1) ((tl h l Gs i k).getD r noW).2.1.toNat ((tl h l Gs i k).getD r noW).2.2.toNat := by
  rw [pth, show l.length - 1 - i = (l.length - 1 - (i + 1)) + 1 by omega, pthD]; rfl
/-- A fingering: its grips and its cost. -/
noncomputable def fgW (h : Hand) (l : List Chord) (Gs : List (List Grip)) (w : Way) : List Grip × Int := (grps Gs 0 (pth h l Gs 0 w.2.1.toNat w.2.2.toNat), w.1)
/-- The first q fingerings. -/
noncomputable def fgL (h : Hand) (l : List Chord) (Gs : List (List Grip)) (q : Nat) : List (List Grip × Int) := if l.length = 0 then [([], 0)] else ((rtT h l Gs).take q).map (fgW h l Gs)
noncomputable def fgC (f : List Grip × Int) : List V := [tGs f.1, vint f.2]
noncomputable def tFs (L : List (List Grip × Int)) : V := .sl L.length (L.flatMap fgC) .no
end
end Go.Proofs.Ytojjdkoglhecbaa
namespace Go.Proofs.Ytojjdkoglhecbaa
open Go.RowKit

/-- A queue of the heads of lists, after j have been taken; where one is due, that of the list of the last one taken is not in it. -/
structure BagI (n : Nat) (c : Nat → List Int) (j : Nat) (due : Bool) (W : List Way) : Prop where
  len : W.length + (if due = true then 1 else 0) ≤ n
  nd : W.Nodup
  pos : due = true → 0 < j
  grd : ∃ a, Grd n c j a ∧ ∀ w, w ∈ W ↔ ∃ m, m < n ∧ a m < (c m).length ∧ w = hdG c a m ∧ (due = true → (m : Int) ≠ ((mrg n c).getD (j - 1) noW).2.1)
section
variable {n : Nat} {c : Nat → List Int}
theorem bag_le {j : Nat} {due : Bool} {W : List Way} (h : BagI n c j due W) : j ≤ (mrg n c).length := by obtain ⟨a, h1, _⟩ := h.grd; exact h1.le
theorem bag_end (hs : ∀ m, m < n → Asc (c m)) {j : Nat} (h : BagI n c j false []) : j = (mrg n c).length := by
  obtain ⟨a, h1, h2⟩ := h.grd
  have h3 := h1.le
  rcases Nat.lt_or_ge j (mrg n c).length with h4 | h4
  · obtain ⟨m, h5, h6⟩ := (grd_more hs h1).1 h4
    exact absurd ((h2 _).2 ⟨m, h5, h6, rfl, fun e => by cases e⟩) (by simp)
  · omega
theorem bag_pop (hs : ∀ m, m < n → Asc (c m)) {j : Nat} {W W' : List Way} {w : Way} (h : BagI n c j false W) (hw : w ∈ W) (hm : ∀ x ∈ W, befW x w = false) (hp : (w :: W').Perm W) :
    j < (mrg n c).length ∧ (mrg n c).getD j noW = w ∧ BagI n c (j + 1) true W' ∧ 0 ≤ w.2.1 := by
  obtain ⟨a, h1, h2⟩ := h.grd
  obtain ⟨m, m1, m2, rfl, _⟩ := (h2 _).1 hw
  obtain ⟨h3, h4, h5⟩ := grd_pick hs h1 m1 m2 fun x x1 x2 => hm _ ((h2 _).2 ⟨x, x1, x2, rfl, fun e => by cases e⟩)
  have hnd : (hdG c a m :: W').Nodup := hp.nodup_iff.2 h.nd
  have hl := hp.length_eq
  have hlen := h.len
  rw [List.length_cons] at hl
  rw [if_neg (by simp)] at hlen
  refine ⟨h3, h4, ⟨by rw [if_pos rfl]; omega, (List.nodup_cons.1 hnd).2, fun _ => by omega, _, h5, fun w => ?_⟩, by show (0 : Int) ≤ (m : Int); omega⟩
  rw [show j + 1 - 1 = j by omega, h4]
  have hmem : w ∈ W' ↔ w ∈ W ∧ w ≠ hdG c a m := by
    rw [← hp.mem_iff, List.mem_cons]
    constructor
    · intro hw'
      exact ⟨.inr hw', fun e => by subst e; exact (List.nodup_cons.1 hnd).1 hw'⟩
    · rintro ⟨hw' | hw', hne⟩
      · exact absurd hw' hne
      · exact hw'
  rw [hmem, h2]
  constructor
  · rintro ⟨⟨x, x1, x2, rfl, _⟩, hne⟩
    have hxm : x ≠ m := fun e => hne (by rw [e])
    refine ⟨x, x1, by rw [if_neg hxm]; exact x2, by unfold hdG; dsimp only; rw [if_neg hxm], fun _ e => hxm ?_⟩
    unfold hdG at e
    dsimp only at e
    omega
  · rintro ⟨x, x1, x2, rfl, hne⟩
    have hxm : x ≠ m := fun e => hne rfl (by subst e; rfl)
    rw [if_neg hxm] at x2
    refine ⟨⟨x, x1, x2, by unfold hdG; dsimp only; rw [if_neg hxm], fun e => by cases e⟩, fun e => hxm ?_⟩
    have h9 : ((x : Nat) : Int) = (m : Int) := congrArg (fun w : Way => w.2.1) e
    omega
/-- The one that is due: the next of the list that the last one came from. -/
theorem bag_due (hs : ∀ m, m < n → Asc (c m)) {j : Nat} {W : List Way} (h : BagI n c j true W) : ∃ m r : Nat, 0 < j ∧ r < j ∧ m < n ∧ r < (c m).length ∧ (mrg n c).getD (j - 1) noW = ((c m).getD r 0, (m : Int), (r : Int)) ∧
    (r + 1 < (c m).length → BagI n c j false (W ++ [((c m).getD (r + 1) 0, (m : Int), ((r + 1 : Nat) : Int))])) ∧ (¬ r + 1 < (c m).length → BagI n c j false W) := by
  obtain ⟨a, h1, h2⟩ := h.grd
  have hj := h.pos rfl
  have hjl := h1.le
  have hlen := h.len
  rw [if_pos rfl] at hlen
  obtain ⟨m, r, m1, m2, m3⟩ := mem_mrg.1 (mrg_mem_at (n := n) (c := c) (j := j - 1) (by omega))
  -- a m is one more than r
  have ha : a m = r + 1 := by
    have e1 := (h1.has m r m1 m2).1 (mem_take_at.2 ⟨j - 1, by omega, by omega, m3.symm⟩)
    have h3 := h1.al m m1
    rcases Nat.lt_or_ge (r + 1) (a m) with h4 | h4
    · have h5 := (h1.has m (r + 1) m1 (by omega)).2 h4
      rw [mem_take_at] at h5
      obtain ⟨i, i1, i2, i3⟩ := h5
      have h6 := hs m m1 r (r + 1) (by omega) (by omega)
      rcases Nat.lt_or_ge i (j - 1) with h7 | h7
      · have h8 := (mrg_at (n := n) (c := c) h7 (by omega)).1
        rw [← i3, m3, lexW_iff] at h8
        dsimp only at h8
        omega
      · have : i = j - 1 := by omega
        subst this
        rw [m3, Prod.mk.injEq, Prod.mk.injEq] at i3
        omega
    · omega
  rw [m3] at h2
  dsimp only at h2
  refine ⟨m, r, hj, by have := h1.aj m; omega, m1, m2, m3, fun h3 => ⟨?_, ?_, (fun e => by cases e), a, h1, fun w => ?_⟩, fun h3 => ⟨by rw [if_neg (by simp)]; omega, h.nd, (fun e => by cases e), a, h1, fun w => ?_⟩⟩
  · rw [if_neg (by simp), List.length_append]; simp; omega
  · rw [List.nodup_append]
    refine ⟨h.nd, by simp, fun x hx y hy e => ?_⟩
    rw [List.mem_singleton] at hy
    subst hy
    obtain ⟨x', x1, x2, x3, x4⟩ := (h2 _).1 hx
    rw [e, hdG, Prod.mk.injEq, Prod.mk.injEq] at x3
    exact x4 rfl x3.2.1.symm
  · rw [List.mem_append, List.mem_singleton, h2]
    constructor
    · rintro (⟨x, x1, x2, x3, x4⟩ | rfl)
      · exact ⟨x, x1, x2, x3, fun e => by cases e⟩
      · exact ⟨m, m1, by omega, by rw [hdG, ha], fun e => by cases e⟩
    · rintro ⟨x, x1, x2, x3, _⟩
      by_cases e : x = m
      · subst e
        right
        rw [x3, hdG, ha]
      · exact .inl ⟨x, x1, x2, x3, fun _ e' => e (by omega)⟩
  · rw [h2]
    constructor
    · rintro ⟨x, x1, x2, x3, x4⟩; exact ⟨x, x1, x2, x3, fun e => by cases e⟩
    · rintro ⟨x, x1, x2, x3, _⟩
      refine ⟨x, x1, x2, x3, fun _ e' => ?_⟩
      have : x = m := by omega
      subst this
      omega
end
end Go.Proofs.Ytojjdkoglhecbaa
namespace Go.Proofs.Ytojjdkoglhecbaa
open Go.RowKit

section
variable {h : Hand} {l : List Chord} {Gs : List (List Grip)}
theorem wayL_nd {i k : Nat} : ∀ j, (wayL h l Gs i k j).Nodup
  | 0 => List.nodup_nil
  | j + 1 => by
    rw [wayL]
    split
    · exact wayL_nd j
    · rw [List.nodup_append]
      refine ⟨wayL_nd j, by simp, fun x hx y hy e => ?_⟩
      rw [List.mem_singleton] at hy
      obtain ⟨q, hq, _, _, hw⟩ := wayL_mem hx
      rw [e, hy, Prod.mk.injEq, Prod.mk.injEq] at hw
      omega
theorem rtL_nd : ∀ j, (rtL h l Gs j).Nodup
  | 0 => List.nodup_nil
  | j + 1 => by
    rw [rtL]
    split
    · exact rtL_nd j
    · rw [List.nodup_append]
      refine ⟨rtL_nd j, by simp, fun x hx y hy e => ?_⟩
      rw [List.mem_singleton] at hy
      obtain ⟨q, hq, _, hw⟩ := rtL_mem hx
      rw [e, hy, Prod.mk.injEq, Prod.mk.injEq] at hw
      omega
theorem tl_pos (hn : NetOk h l Gs) {i k : Nat} (hi : i < l.length) (hk : k < (Gs.getD i []).length) : (0 < (tl h l Gs i k).length ↔ ¬ lst h l Gs i k = -1) ∧ (0 < (tl h l Gs i k).length → ((tl h l Gs i k).getD 0 noW).1 = lst h l Gs i k) := by
  have h1 := tl_first hn _ i rfl hi k hk
  rw [List.length_pos_iff]
  exact ⟨not_congr h1.1, h1.2⟩
theorem bag_way (hn : NetOk h l Gs) {i k : Nat} (hi : i + 1 < l.length) (hk : k < (Gs.getD i []).length) : BagI (Gs.getD (i + 1) []).length (tlC h l Gs i k) 0 false (wayF h l Gs i k) := by
  have hT := rsT_len (h := h) (Gs := Gs) hi
  have e : wayF h l Gs i k = wayL h l Gs i k (Gs.getD (i + 1) []).length := by rw [wayF, wayB, if_neg (by omega), if_neg (by omega), List.nil_append, hT]
  rw [e]
  refine ⟨?_, wayL_nd _, (fun e => by cases e), _, grd_0, fun w => ?_⟩
  · rw [if_neg (by simp)]; exact wayL_len _ _ _ _ _ _
  constructor
  · intro hw
    obtain ⟨q, q1, q2, q3, rfl⟩ := wayL_mem hw
    have hp := tl_pos hn (i := i + 1) hi q1
    have hs : (stG h l Gs i k q).2 = true := q3
    have hp1 := hp.1.2 q2
    refine ⟨q, q1, by rw [tlC_len, if_pos hs]; exact hp1, ?_, fun e => by cases e⟩
    rw [hdG, tlC_at hs hp1, hp.2 hp1]; rfl
  · rintro ⟨q, q1, q2, rfl, _⟩
    rw [tlC_len] at q2
    split at q2
    case isFalse => omega
    rename_i hs
    have hp := tl_pos hn (i := i + 1) hi q1
    have h2 := wayL_has (h := h) (l := l) (Gs := Gs) (k := k) (hp.1.1 q2) (stp_of hs) q1
    rw [hdG, tlC_at hs q2, hp.2 q2]
    have e2 : stG h l Gs i k q = (stepC h (l.getD i noC) (grp Gs i k) (l.getD (i + 1) noC) (grp Gs (i + 1) q), true) := by rw [stG]; exact stepR_ok (stp_of hs)
    rw [e2]
    exact h2
theorem bag_root (hn : NetOk h l Gs) (hl : 0 < l.length) : BagI (Gs.getD 0 []).length (rtC h l Gs) 0 false (rtL h l Gs (rsT h l Gs 0).length) := by
  have hT := rsT_len (h := h) (Gs := Gs) hl
  rw [hT]
  refine ⟨?_, rtL_nd _, (fun e => by cases e), _, grd_0, fun w => ?_⟩
  · rw [if_neg (by simp)]; exact rtL_len _ _ _ _
  constructor
  · intro hw
    obtain ⟨q, q1, q2, rfl⟩ := rtL_mem hw
    have hp := tl_pos hn (i := 0) hl q1
    have hp1 := hp.1.2 q2
    refine ⟨q, q1, by rw [rtC, List.length_map]; exact hp1, ?_, fun e => by cases e⟩
    rw [hdG, rtC, getD_mapW hp1, hp.2 hp1]; rfl
  · rintro ⟨q, q1, q2, rfl, _⟩
    rw [rtC, List.length_map] at q2
    have hp := tl_pos hn (i := 0) hl q1
    have h2 := rtL_has (h := h) (l := l) (Gs := Gs) q1 (hp.1.1 q2)
    rw [hdG, rtC, getD_mapW q2, hp.2 q2]
    exact h2

/-- WHERE A LIST OF WAYS STANDS, as the code sees it: T is what it lists in all, sub what lies behind. -/
structure LsI (T : List Way) (sub : Nat → List Way) (cnt : Nat) (I : Nat → Bool → List Way → Prop) : Prop where
  le : ∀ j due W, I j due W → j ≤ T.length ∧ W.length ≤ 201
  num : ∀ w ∈ T, 0 ≤ w.1 ∧ w.1 ≤ 300000000
  snum : ∀ m, m < cnt → ∀ w ∈ sub m, 0 ≤ w.1 ∧ w.1 ≤ 300000000
  due : ∀ j W, I j true W → ∃ m r : Nat, 0 < j ∧ r < j ∧ m < cnt ∧ r < (sub m).length ∧ T.getD (j - 1) noW = ((T.getD (j - 1) noW).1, (m : Int), (r : Int)) ∧
    (r + 1 < (sub m).length → I j false (W ++ [((T.getD (j - 1) noW).1 + ((sub m).getD (r + 1) noW).1 - ((sub m).getD r noW).1, (m : Int), ((r + 1 : Nat) : Int))])) ∧ (¬ r + 1 < (sub m).length → I j false W)
  pop : ∀ j W W' w, I j false W → w ∈ W → (∀ x ∈ W, befW x w = false) → (w :: W').Perm W → j < T.length ∧ T.getD j noW = w ∧ I (j + 1) (!(w.2.1 == -1)) W'
  fin : ∀ j, I j false [] → j = T.length

theorem bag_i {n : Nat} {c : Nat → List Int} {sub : Nat → List Way} (hs : ∀ m, m < n → Asc (c m)) (hnum : ∀ w ∈ mrg n c, 0 ≤ w.1 ∧ w.1 ≤ 300000000) (hsub : ∀ m, m < n → ∀ w ∈ sub m, 0 ≤ w.1 ∧ w.1 ≤ 300000000) (hn : n ≤ 201)
    (hc : ∀ m, m < n → (c m).length ≤ (sub m).length ∧ (0 < (c m).length → (c m).length = (sub m).length) ∧ ∃ x, ∀ r, r < (c m).length → (c m).getD r 0 = x + ((sub m).getD r noW).1) : LsI (mrg n c) sub n (BagI n c) := by
  refine ⟨fun j due W h => ⟨bag_le h, by have := h.len; split at this <;> omega⟩, hnum, hsub, fun j W h => ?_, fun j W W' w h hw hm hp => ?_, fun j h => bag_end hs h⟩
  · obtain ⟨m, r, h1, h1', h2, h3, h4, h5, h6⟩ := bag_due hs h
    obtain ⟨k1, k2, x, k3⟩ := hc m h2
    have k4 := k2 (by omega)
    refine ⟨m, r, h1, h1', h2, by omega, by rw [h4], fun h7 => ?_, fun h7 => h6 (by omega)⟩
    have h8 := h5 (by omega)
    rw [h4]
    dsimp only
    rw [k3 r h3, show x + ((sub m).getD r noW).1 + ((sub m).getD (r + 1) noW).1 - ((sub m).getD r noW).1 = x + ((sub m).getD (r + 1) noW).1 by omega, ← k3 (r + 1) (by omega)]
    exact h8
  · obtain ⟨h1, h2, h3, h4⟩ := bag_pop hs h hw hm hp
    refine ⟨h1, h2, ?_⟩
    rw [show (!(w.2.1 == -1)) = true by rw [Bool.not_eq_true', beq_eq_false_iff_ne]; omega]
    exact h3
/-- Where the node of the grip k of the chord i stands. -/
def NdI (h : Hand) (l : List Chord) (Gs : List (List Grip)) (i k : Nat) (j : Nat) (due : Bool) (W : List Way) : Prop :=
  if i + 1 = l.length then due = false ∧ ((j = 0 ∧ W = [(owG h l Gs i k, -1, 0)]) ∨ (j = 1 ∧ W = [])) else BagI (Gs.getD (i + 1) []).length (tlC h l Gs i k) j due W
theorem tl_num (hn : NetOk h l Gs) {i k : Nat} (hi : i < l.length) (hk : k < (Gs.getD i []).length) : ∀ w ∈ tl h l Gs i k, 0 ≤ w.1 ∧ w.1 ≤ 300000000 := fun w hw => by
  have h1 := tl_ok hn _ i rfl hi k hk w hw
  have := hn.len
  have h2 := h1.2.1
  exact ⟨h1.1, by omega⟩
theorem ndI_ls (hn : NetOk h l Gs) {i k : Nat} (hi : i < l.length) (hk : k < (Gs.getD i []).length) : LsI (tl h l Gs i k) (fun m => tl h l Gs (i + 1) m) (if i + 1 = l.length then 0 else (Gs.getD (i + 1) []).length) (NdI h l Gs i k) := by
  by_cases e : i + 1 = l.length
  · have hnum := tl_num hn hi hk
    rw [if_pos e]
    rw [tl_last e] at hnum ⊢
    have hI : NdI h l Gs i k = fun j due W => due = false ∧ ((j = 0 ∧ W = [(owG h l Gs i k, -1, 0)]) ∨ (j = 1 ∧ W = [])) := by
      funext j due W; rw [NdI, if_pos e]
    rw [hI]
    refine ⟨?_, hnum, fun m hm => by omega, ?_, ?_, ?_⟩
    · rintro j due W ⟨_, ⟨rfl, rfl⟩ | ⟨rfl, rfl⟩⟩ <;> simp
    · rintro j W ⟨h1, _⟩; cases h1
    · rintro j W W' w ⟨_, ⟨rfl, rfl⟩ | ⟨rfl, rfl⟩⟩ hw hm hp
      · rw [List.mem_singleton] at hw
        subst hw
        have hl := hp.length_eq
        have hW : W' = [] := List.eq_nil_of_length_eq_zero (by simpa using hl)
        subst hW
        exact ⟨by simp, rfl, rfl, .inr ⟨rfl, rfl⟩⟩
      · cases hw
    · rintro j ⟨_, ⟨rfl, h1⟩ | ⟨rfl, _⟩⟩
      · cases h1
      · rfl
  · have hi1 : i + 1 < l.length := by omega
    have hnum := tl_num hn hi hk
    rw [if_neg e]
    rw [tl_s hi1] at hnum ⊢
    have hI : NdI h l Gs i k = BagI (Gs.getD (i + 1) []).length (tlC h l Gs i k) := by funext j due W; rw [NdI, if_neg e]
    rw [hI]
    refine bag_i (fun m _ => tlC_asc hi1) hnum (fun m hm => tl_num hn hi1 hm) (by have := hn.cnt (i + 1); omega) fun m hm => ?_
    rw [tlC_len]
    refine ⟨by split <;> omega, (fun h0 => by
      split at h0
      · rename_i hs; rw [if_pos hs]
      · omega), owG h l Gs i k + (stG h l Gs i k m).1, fun r hr => ?_⟩
    split at hr
    · rename_i hs
      exact tlC_at hs hr
    · omega
theorem ndI_0 (hn : NetOk h l Gs) {i k : Nat} (hi : i < l.length) (hk : k < (Gs.getD i []).length) : NdI h l Gs i k 0 false (wayF h l Gs i k) := by
  by_cases e : i + 1 = l.length
  · rw [NdI, if_pos e]
    refine ⟨rfl, .inl ⟨rfl, ?_⟩⟩
    rw [wayF, wayB, if_pos e, if_pos e, wayL, List.append_nil]; rfl
  · rw [NdI, if_neg e]
    exact bag_way hn (by omega) hk
theorem rt_num (hn : NetOk h l Gs) (hl : 0 < l.length) : ∀ w ∈ rtT h l Gs, 0 ≤ w.1 ∧ w.1 ≤ 300000000 := fun w hw => by
  obtain ⟨m, r, m1, m2, rfl⟩ := mem_mrg.1 hw
  rw [rtC, List.length_map] at m2
  rw [rtC, getD_mapW m2]
  have := tl_num hn hl m1 _ (mem_nthW m2)
  exact this
theorem rtI_ls (hn : NetOk h l Gs) (hl : 0 < l.length) : LsI (rtT h l Gs) (fun m => tl h l Gs 0 m) (Gs.getD 0 []).length (BagI (Gs.getD 0 []).length (rtC h l Gs)) := by
  refine bag_i (fun m _ => rtC_asc hl) (rt_num hn hl) (fun m hm => tl_num hn hl hm) (by have := hn.cnt 0; omega) fun m hm => ?_
  rw [rtC, List.length_map]
  refine ⟨Nat.le_refl _, fun _ => rfl, 0, fun r hr => ?_⟩
  rw [getD_mapW hr]; omega
end
end Go.Proofs.Ytojjdkoglhecbaa
