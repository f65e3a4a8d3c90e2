/- The lister, run: get, for any rank. The lister, run: the node of a grip, which may be there. The lister, run: get, from any chord on. The lister, run: get, from the beginning; what a call from a chord on leaves of the whole. The lister, run: the fingering of a rank. The lister, run: the fingering of a rank, walked. Functions of the program, as code on values by numbers: printed by a program from the program that was given, and held against it here. The lister, run: the first fingering, Best and List, by fingerings in order. The lister, run: first and Best. The reference's search, run. Laws about tables: SameTable, Changed. More arguments read: tables and changes. Heavy of the laws, on values. The law HandProves, on values. List and Best, of both, run; the law HandLists. The own fingering, held against what is listed, run. What is listed: valid, in order, and all of it. Nothing is run here. -/
import Derived.Test.YtojjdkoglhecbaaG0
import Derived.Test.YtojjdkoglhecbaaWk
import Derived.Test.YtojjdkoglhecbaaVB03
import Derived.Test.YtojjdkoglhecbaaVB04
import Derived.Test.YtojjdkoglhecbaaXw
import Derived.Test.YtojjdkoglhecbaaVB06
import Derived.Test.YtojjdkoglhecbaaVB07
import Derived.Test.YtojjdkoglhecbaaVB08
set_option linter.unusedSimpArgs false
set_option linter.unusedVariables false
namespace Go.Proofs.Ytojjdkoglhecbaa
open Go.RowKit

/-- What get leaves, of a node. -/
def GtEndG (h : Hand) (l : List Chord) (Gs : List (List Grip)) (tb nq rt : Nat) (rs : List Nat) (lv : Nat) (T : List Way) (I : Nat → Bool → List Way → Prop) (o : Option (Nat × Nat)) (nb rb r : Nat) (own : Own) (tok : Tok) (v : V) (M : Mm) (e : VX) (s' : St) : Prop :=
  e = .ret ∧ s'.t 8 = .ptr rb 0 ∧ ∃ (a b c : V) (ok : Bool) (own' : Own) (Mx : Mm) (j : Nat) (due : Bool) (H : List Way) (tok' : Tok) (v' : V), s'.t 9 = vbool ok ∧ GtR T r = .tup [.agg [a, b, c], vbool ok] ∧ s'.m = Mx.put rb (.box [a, b, c] 154) ∧ LsG h l Gs tb nq rt rs lv own' Mx ∧
    Trn rs l.length lv nb own M tok v own' Mx tok' v' ∧ NdS T I own' o nb Mx j due H tok' v'

set_option maxHeartbeats 4000000 in
theorem get_tailG {h : Hand} {l : List Chord} {Gs : List (List Grip)} {tb nq rt lv nb rb j0 cnt r : Nat} {rs : List Nat} {own : Own} {o : Option (Nat × Nat)} {T : List Way} {sub : Nat → List Way} {I : Nat → Bool → List Way → Prop} {due : Bool} {H : List Way} {tok : Tok} {v : V} {M : Mm} {t : Nat → V} {y0 y1 y2 : V} {iz : Int}
    (hI : LsI T sub cnt I) (hIp : ∀ j due W W', I j due W → W'.Perm W → I j due W') (ho : ∀ y k, o = some (y, k) → y < lv) (GS : GetOk h l Gs tb nq rt rs lv cnt sub) (hL : LsG h l Gs tb nq rt rs lv own M) (hs : NdS T I own o nb M j0 due H tok v) (hr : r ≤ 100)
    (s0 : t 0 = .ptr tb 0) (s1 : t 1 = vint iz) (hz : iz + 1 = (lv : Int)) (hlv : lv ≤ 1000) (s3 : t 3 = vint r) (s8 : t 8 = .ptr rb 0) (s10 : t 10 = .ptr nb 0)
    (orb : M.obj rb = some (.box [y0, y1, y2] 154)) (lrb : rb < M.next) (nrb : ∀ n, v ≠ .gsl rb n 3) (onr : own rb = none) :
    (c_hand_lister_get_b_p17).vx Try.prog Gd (GtEndG h l Gs tb nq rt rs lv T I o nb rb r own tok v M) ⟨t, M⟩ := by
  have hrn : rb ≠ nb := fun e => by subst e; exact ne_type orb hs.box (by decide) rfl
  have hrt : tok ≠ .own rb := fun e => by have := (hs.tlt e).2; rw [orb] at this; cases this
  have hry : ∀ y, lv ≤ y → y < l.length → rb ≠ rs.getD y 0 := fun y hy hyl => by
    obtain ⟨R, r1, _⟩ := hL.row y hy hyl
    exact ne_type orb r1 (by decide)
  unfold c_hand_lister_get_b_p17
  refine x_seq ?_
  refine x_block ?_
  refine x_loopW w_hand_lister_get_b_p14 kr (r + 1 - j0) (fun k t M' => ∃ own' due' H' tok' v', LsG h l Gs tb nq rt rs lv own' M' ∧ NdS T I own' o nb M' (j0 + k) due' H' tok' v' ∧ Trn rs l.length lv nb own M tok v own' M' tok' v') ⟨own, due, H, tok, v, hL, hs, Trn.refl _ _ _ _ _ _ _ _⟩ ?_
  have hL0 := Hid.mk hL
  have hs0 := Hid.mk hs
  clear hL hs
  rintro k t2 M' hk ⟨own', due', H', tok', v', hL', hs', hT'⟩
  have hbox := hs'.box
  have hlt := hs'.lt
  have hjT := (hI.le _ due' H' hs'.st).1
  have orb' := (hT'.fr rb lrb hrn nrb hrt (fun y k e => by rw [onr] at e; cases e) hry).trans orb
  have lrb' : rb < M'.next := Nat.lt_of_lt_of_le lrb hT'.nx
  have nrb' : ∀ n, v' ≠ .gsl rb n 3 := fun n e => (hT'.vn rb n e).elim (fun ⟨n', e'⟩ => nrb n' e') (fun h9 => by omega)
  generalize hje : j0 + k = j at *
  by_cases hjr : j ≤ r
  case neg =>
    have c1 : ¬ (j : Int) ≤ (r : Int) := by omega
    have c2 : (r : Int) < (j : Int) := by omega
    have hTr : (T.take j).getD r noW = T.getD r noW := by rw [List.getD_eq_getElem?_getD, List.getElem?_take, if_pos (by omega), List.getD_eq_getElem?_getD]
    have hTl : (T.take j).length = j := by rw [List.length_take]; omega
    have g1 := wyC_at (L := T.take j) (i := r) (by omega)
    have g2 := wyC_len (T.take j)
    rw [hTr] at g1
    rw [hTl] at g2
    have c3 : r * 3 + 3 ≤ j * 3 := by omega
    have hR : GtR T r = .tup [.agg [vint (T.getD r noW).1, vint (T.getD r noW).2.1, vint (T.getD r noW).2.2], vbool true] := by rw [GtR, if_pos (by omega)]
    replace hR := Hid.mk hR
    have hL'0 := Hid.mk hL'
    have hs'0 := Hid.mk hs'
    have hT'0 := Hid.mk hT'
    clear hL' hs' hT' hTr hTl hjr
    generalize T.getD r noW = w at *
    obtain ⟨wc, wn, wr⟩ := w
    dsimp only at *
    repeat' (with_reducible first | refine x_ops ?_ | refine wk ?_ | ((first | refine gd1 ?_ ?_ | refine gd2 ?_ ?_ | refine gd3 ?_ ?_) <;> (first | exact @False.elim _ | intro hc)))
    exact ⟨rfl, vw, vint wc, vint wn, vint wr, true, own', M', j, due', H', tok', v', vv, hR.out, rfl, hL'0.out, hT'0.out, hs'0.out⟩
  have c1 : (j : Int) ≤ (r : Int) := by omega
  have hkN : k < r + 1 - j0 := by omega
  have fin : ∀ (t6 : Nat → V) (M6 : Mm) (own6 : Own) (H6 : List Way) (v6 : V) (Q' : VX → St → Prop), LsG h l Gs tb nq rt rs lv own6 M6 → NdS T I own6 o nb M6 j false H6 tok' v6 → Trn rs l.length lv nb own M tok v own6 M6 tok' v6 → t6 8 = .ptr rb 0 → t6 10 = .ptr nb 0 →
      (∀ t7 M7, (∃ own' due' H' tok' v', LsG h l Gs tb nq rt rs lv own' M7 ∧ NdS T I own' o nb M7 (j0 + (k + 1)) due' H' tok' v' ∧ Trn rs l.length lv nb own M tok v own' M7 tok' v') → Q' .nrm ⟨mix 5316911903911500977350890647577625088 t7 t6, M7⟩) →
      (∀ t7 M7, GtEndG h l Gs tb nq rt rs lv T I o nb rb r own tok v M .ret ⟨mix 5316911903911500977350890647577625088 t7 t6, M7⟩ → Q' .ret ⟨mix 5316911903911500977350890647577625088 t7 t6, M7⟩) →
      (c_hand_lister_get_b_p12).vx Try.prog Gd Q' ⟨t6, M6⟩ := by
    intro t6 M6 own6 H6 v6 Q' hL6 hs6 hT6 f8 f10 q1 q2
    have orb6 := (hT6.fr rb lrb hrn nrb hrt (fun y k e => by rw [onr] at e; cases e) hry).trans orb
    have nrb6 : ∀ n, v6 ≠ .gsl rb n 3 := fun n e => (hT6.vn rb n e).elim (fun ⟨n', e'⟩ => nrb n' e') (fun h9 => by omega)
    refine x_sum 5316911903911500977350890647577625088 ?_ (R := fun e t m => GpEnd h l Gs tb nq rt rs lv T I o nb rb j own6 tok' v6 M6 e ⟨t, m⟩) (get_popG hI ho hL6 hs6 (by omega) f8 orb6 (Nat.lt_of_lt_of_le lrb hT6.nx) nrb6 f10) ?_
    · kernel_rfl
    rintro e t7 M7 (⟨rfl, _, own7, due7, H7, tok7, v7, hL7, hs7, hT7⟩ | ⟨rfl, hjT', g8, g9, Mx, rfl, hLx, hTx, Hx, hsx⟩)
    · exact q1 t7 M7 ⟨own7, due7, H7, tok7, v7, hL7, by rw [show j0 + (k + 1) = j + 1 by omega]; exact hs7, hT6.trans hT7⟩
    · have g8' : t7 8 = .ptr rb 0 := g8
      have g9' : t7 9 = vbool false := g9
      refine q2 t7 _ ⟨rfl, ?_, vint 0, vint 0, vint 0, false, own6, Mx, j, false, Hx, tok', v6, ?_, ?_, rfl, hLx, hT6.trans hTx, hsx⟩
      · exact vw
      · exact vw
      · rw [GtR, if_neg (by omega)]
  have hL'0 := Hid.mk hL'
  have hs'0 := Hid.mk hs'
  have hT'0 := Hid.mk hT'
  replace fin := Hid.mk fin
  cases due'
  case false =>
    clear hL' hs' hT' orb'
    repeat' (with_reducible first | refine x_ops ?_ | refine wk ?_ | ((first | refine gd1 ?_ ?_ | refine gd2 ?_ ?_ | refine gd3 ?_ ?_) <;> (first | exact @False.elim _ | intro hc)))
    refine fin.out _ M' own' H' v' _ hL'0.out hs'0.out hT'0.out ?_ ?_ ?_ ?_
    · exact vw
    · exact vw
    · intro t7 M7 hx
      have hx0 := Hid.mk hx
      clear hx
      repeat' (with_reducible first | refine x_ops ?_ | refine wk ?_ | ((first | refine gd1 ?_ ?_ | refine gd2 ?_ ?_ | refine gd3 ?_ ?_) <;> (first | exact @False.elim _ | intro hc)))
      exact nx hkN hx0.out
    · intro t7 M7 hx
      have hx0 := Hid.mk hx
      clear hx
      repeat' (with_reducible first | refine x_ops ?_ | refine wk ?_ | ((first | refine gd1 ?_ ?_ | refine gd2 ?_ ?_ | refine gd3 ?_ ?_) <;> (first | exact @False.elim _ | intro hc)))
      exact hx0.out
  clear hL' hs' hT' orb'
  repeat' (with_reducible first | refine x_ops ?_ | refine wk ?_ | ((first | refine gd1 ?_ ?_ | refine gd2 ?_ ?_ | refine gd3 ?_ ?_) <;> (first | exact @False.elim _ | intro hc)))
  refine x_sum 79228162514264337043788199936 ?_ (R := fun e t m => e = .nrm ∧ GdEnd h l Gs tb nq rt rs lv T I o nb j own' tok' v' M' m) (get_due hI hIp ho GS hL'0.out hs'0.out (by omega) (fun _ _ => .inr trivial) ?_ (iz := iz) ?_ hz hlv ?_) ?_
  · kernel_rfl
  · exact vw
  · exact vw
  · exact vw
  rintro e t6 M6 ⟨rfl, own6, H6, v6, hL6, hs6, hT6⟩
  have hT66 := hT'0.out.trans hT6
  replace hL6 := Hid.mk hL6
  replace hs6 := Hid.mk hs6
  replace hT66 := Hid.mk hT66
  clear hT6 hbox
  repeat' (with_reducible first | refine x_ops ?_ | refine wk ?_ | ((first | refine gd1 ?_ ?_ | refine gd2 ?_ ?_ | refine gd3 ?_ ?_) <;> (first | exact @False.elim _ | intro hc)))
  refine fin.out _ M6 own6 H6 v6 _ hL6.out hs6.out hT66.out ?_ ?_ ?_ ?_
  · exact vw
  · exact vw
  · intro t7 M7 hx
    have hx0 := Hid.mk hx
    clear hx
    repeat' (with_reducible first | refine x_ops ?_ | refine wk ?_ | ((first | refine gd1 ?_ ?_ | refine gd2 ?_ ?_ | refine gd3 ?_ ?_) <;> (first | exact @False.elim _ | intro hc)))
    exact nx hkN hx0.out
  · intro t7 M7 hx
    have hx0 := Hid.mk hx
    clear hx
    repeat' (with_reducible first | refine x_ops ?_ | refine wk ?_ | ((first | refine gd1 ?_ ?_ | refine gd2 ?_ ?_ | refine gd3 ?_ ?_) <;> (first | exact @False.elim _ | intro hc)))
    exact hx0.out
end Go.Proofs.Ytojjdkoglhecbaa
namespace Go.Proofs.Ytojjdkoglhecbaa
open Go.RowKit

open Classical in
/-- The numbers of a new node are its own. -/
noncomputable def ownNd (n0 : Nat) (o : Option (Nat × Nat)) (own : Own) (nb : Nat) (v : V) : Own := fun q => if n0 ≤ q ∧ (q = nb ∨ ∃ n, v = .gsl q n 3) then o else own q
/-- A node is put into its row. -/
theorem nd_new {h : Hand} {l : List Chord} {Gs : List (List Grip)} (hn : NetOk h l Gs) {tb nq rt i k nb : Nat} {rs : List Nat} {own : Own} {M M' : Mm} {R : List V} {v : V} {H : List Way} (hi : i < l.length) (hk : k < (Gs.getD i []).length)
    (hL : LsG h l Gs tb nq rt rs i own M) (oR : M.obj (rs.getD i 0) = some (.box R 150)) (hRl : R.length = (Gs.getD i []).length) (hRk : ∀ k, k < (Gs.getD i []).length → ∃ x, R[k]? = some x ∧ NdAt h l Gs own i k M x) (hnx : M.next ≤ M'.next)
    (hnb : M.next ≤ nb ∧ nb < M'.next) (hfr : ∀ q, q < M.next → q ≠ rs.getD i 0 → M'.obj q = M.obj q) (oR' : M'.obj (rs.getD i 0) = some (.box (R.set k (.ptr nb 0)) 150))
    (hb : M'.obj nb = some (.box [.sl 0 [] .exact, v, .fn 110 [], vbool false] 159)) (hq : QV M' v H) (hp : HpOk H) (hw : H.Perm (wayF h l Gs i k)) (hid : ∀ q n, v = .gsl q n 3 → M.next ≤ q) :
    LsG h l Gs tb nq rt rs i (ownNd M.next (some (i, k)) own nb v) M' ∧ NdS (tl h l Gs i k) (NdI h l Gs i k) (ownNd M.next (some (i, k)) own nb v) (some (i, k)) nb M' 0 false H .exact v ∧ (∀ q, q < M.next → ownNd M.next (some (i, k)) own nb v q = own q) := by
  have hold : ∀ q, q < M.next → ownNd M.next (some (i, k)) own nb v q = own q := fun q hq => if_neg (fun h => by omega)
  have hvl : ∀ q n, v = .gsl q n 3 → q < M'.next := fun q n e => by
    rcases hq with ⟨h1, _⟩ | ⟨id, R, h1, h2, _⟩
    · rw [h1] at e; cases e
    · rw [h1] at e; injection e with e; subst e; exact h2
  have hsN : NdS (tl h l Gs i k) (NdI h l Gs i k) (ownNd M.next (some (i, k)) own nb v) (some (i, k)) nb M' 0 false H .exact v :=
    ⟨hb, hnb.2, if_pos ⟨hnb.1, .inl rfl⟩, hq, hp, ndI_perm (ndI_0 hn hi hk) hw, fun q n e => if_pos ⟨hid q n e, .inr ⟨n, e⟩⟩, .inl rfl, fun q e => by cases e⟩
  have hoR : own (rs.getD i 0) = none := hL.oy i hi
  refine ⟨⟨(hfr tb hL.ltt (ne_type hL.tbo oR (by decide))).trans hL.tbo, (hfr nq hL.ltn (ne_type hL.nqo oR (by decide))).trans hL.nqo, fun y hy hyl => ?_, hL.inj, Nat.lt_of_lt_of_le hL.ltt hnx, Nat.lt_of_lt_of_le hL.ltn hnx, fun y hy => Nat.lt_of_lt_of_le (hL.ltr y hy) hnx, (hold _ hL.ltt).trans hL.ot, (hold _ hL.ltn).trans hL.on, fun y hy => (hold _ (hL.ltr y hy)).trans (hL.oy y hy), fun q hq' => ?_⟩, hsN, hold⟩
  · by_cases e : y = i
    · subst e
      refine ⟨_, oR', by rw [List.length_set]; exact hRl, fun k' hk' => ?_⟩
      by_cases e2 : k = k'
      · subst e2
        exact ⟨.ptr nb 0, by rw [List.getElem?_set_self (by omega)], .inr ⟨nb, 0, false, H, .exact, v, rfl, hsN⟩⟩
      · obtain ⟨x, x1, x2⟩ := hRk k' hk'
        exact ⟨x, by rw [List.getElem?_set_ne e2]; exact x1, x2.keep hnx hold fun q hq hqo => hfr q hq (fun e3 => by rw [e3, hoR] at hqo; cases hqo)⟩
    · obtain ⟨R2, r1, r2, r3⟩ := hL.row y hy hyl
      have hne : rs.getD y 0 ≠ rs.getD i 0 := by have := hL.inj i y (by omega) hyl; omega
      refine ⟨R2, (hfr _ (hL.ltr y hyl) hne).trans r1, r2, fun k' hk' => ?_⟩
      obtain ⟨x, x1, x2⟩ := r3 k' hk'
      exact ⟨x, x1, x2.keep hnx hold fun q hq hqo => hfr q hq (fun e3 => by rw [e3, hoR] at hqo; cases hqo)⟩
  · refine (if_neg (fun h9 => ?_)).trans (hL.cl q (Nat.le_trans hnx hq'))
    rcases h9.2 with e | ⟨n, e⟩
    · omega
    · have := hvl q n e; omega
/-- What node leaves. -/
def NgPost (h : Hand) (l : List Chord) (Gs : List (List Grip)) (tb nq rt : Nat) (rs : List Nat) (i k : Nat) (own : Own) (M : Mm) (r : V) (M' : Mm) : Prop :=
  M.next ≤ M'.next ∧ (∀ q, q < M.next → q ≠ rs.getD i 0 → M'.obj q = M.obj q) ∧ ∃ own' nb j due H tok v, r = .ptr nb 0 ∧ (∀ q, q < M.next → own' q = own q) ∧ LsG h l Gs tb nq rt rs i own' M' ∧ NdS (tl h l Gs i k) (NdI h l Gs i k) own' (some (i, k)) nb M' j due H tok v ∧
    ∃ R, M'.obj (rs.getD i 0) = some (.box R 150) ∧ R[k]? = some (.ptr nb 0)
theorem ngPost_ex {h : Hand} {l : List Chord} {Gs : List (List Grip)} (hn : NetOk h l Gs) {tb nq rt i k : Nat} {rs : List Nat} {own : Own} {M : Mm} (hi : i < l.length) (hk : k < (Gs.getD i []).length) (hL : LsG h l Gs tb nq rt rs i own M) : ∃ r M', NgPost h l Gs tb nq rt rs i k own M r M' := by
  obtain ⟨R, r1, r2, r3⟩ := hL.row i (Nat.le_refl _) hi
  obtain ⟨x, x1, hx | ⟨nb, j, due, H, tok, v, rfl, hs⟩⟩ := r3 k hk
  · obtain ⟨L, h1, h2⟩ := heap_ex (wayF h l Gs i k)
    have hlt := hL.ltr i hi
    have hN := nd_new hn hi hk hL r1 r2 r3 (M' := (((⟨M.obj, M.next + 2⟩ : Mm).put M.next (.box [.sl 0 [] .exact, .gsl (M.next + 1) L.length 3, .fn 110 [], vbool false] 159)).put (M.next + 1) (.box (wyC L) 154)).put (rs.getD i 0) (.box (R.set k (.ptr M.next 0)) 150)) (nb := M.next) (v := .gsl (M.next + 1) L.length 3) (H := L)
      (by show M.next ≤ M.next + 2; omega) ⟨Nat.le_refl _, by show M.next < M.next + 2; omega⟩ (fun q hq hqr => (put_other _ _ hqr).trans ((put_other _ _ (by omega)).trans (put_other _ _ (by omega)))) (put_same _ _ _) ((put_other _ _ (by omega)).trans ((put_other _ _ (by omega)).trans (put_same _ _ _)))
      (.inr ⟨M.next + 1, [], rfl, by show M.next + 1 < M.next + 2; omega, by rw [List.append_nil]; exact (put_other _ _ (by omega)).trans (put_same _ _ _)⟩) h1 h2 (fun q n e => by injection e with e; omega)
    exact ⟨.ptr M.next 0, (((⟨M.obj, M.next + 2⟩ : Mm).put M.next (.box [.sl 0 [] .exact, .gsl (M.next + 1) L.length 3, .fn 110 [], vbool false] 159)).put (M.next + 1) (.box (wyC L) 154)).put (rs.getD i 0) (.box (R.set k (.ptr M.next 0)) 150), by show M.next ≤ M.next + 2; omega, fun q hq hqr => (put_other _ _ hqr).trans ((put_other _ _ (by omega)).trans (put_other _ _ (by omega))), _, M.next, 0, false, L, .exact, _, rfl, hN.2.2, hN.1, hN.2.1, R.set k (.ptr M.next 0), put_same _ _ _, by rw [List.getElem?_set_self (by omega)]⟩
  · exact ⟨_, M, Nat.le_refl _, fun _ _ _ => rfl, own, nb, j, due, H, tok, v, rfl, fun _ _ => rfl, hL, hs, R, r1, x1⟩
end Go.Proofs.Ytojjdkoglhecbaa
namespace Go.Proofs.Ytojjdkoglhecbaa
open Go.RowKit

set_option maxHeartbeats 4000000 in
theorem nodeG_sfn {h : Hand} {l : List Chord} {Gs : List (List Grip)} (hn : NetOk h l Gs) {i k : Nat} (hi : i < l.length) (hk : k < (Gs.getD i []).length) {M : Mm} {tb nq rt : Nat} {rs : List Nat} {own : Own} (hL : LsG h l Gs tb nq rt rs i own M) :
    SFn Try.prog Gd 134 [.ptr tb 0, vint i, vint k] M (NgPost h l Gs tb nq rt rs i k own M) := by
  refine SFn.of_vxS k_hand_lister_node (by simp) ?_
  obtain ⟨R, o3, hRl, hRk⟩ := hL.row i (Nat.le_refl _) hi
  have o1 := hL.tbo
  have o2 := hL.nqo
  have l1 := hL.ltt
  have l2 := hL.ltn
  have l3 := hL.ltr i hi
  have gl := hn.gl
  have r1 := rwN_at (rs := rs) (Gs := Gs) (y := i) (by omega)
  have r3 := hRl
  have c1 : (i : Int) < (l.length : Int) := by omega
  have c2 : (k : Int) < ((Gs.getD i []).length : Int) := by omega
  have hne : ∀ q j, q < M.next → (q = M.next + j) = False := fun q j hq => by simp; omega
  have hne0 : ∀ q, q < M.next → (q = M.next) = False := fun q hq => by simp; omega
  have hlt : ∀ q j, q < M.next → (q < M.next + j) = True := fun q j hq => by simp; omega
  have hnf : ∀ q j, q < M.next → (M.next + j = q) = False := fun q j hq => by simp; omega
  have hnf0 : ∀ q, q < M.next → (M.next = q) = False := fun q hq => by simp; omega
  have zp : ∀ n k : Nat, (n < n + k) = (0 < k) := fun n k => by simp
  have n1 := ne_type o1 o2 (by decide)
  have n2 := ne_type o3 o1 (by decide)
  have n3 := ne_type o3 o2 (by decide)
  have n1' := n1.symm
  have n2' := n2.symm
  have n3' := n3.symm
  have k1 : k + 1 ≤ (Gs.getD i []).length := hk
  generalize hre : rs.getD i 0 = ri at *
  replace hre := Hid.mk hre
  have hL0 := Hid.mk hL
  have hR0 := Hid.mk o3
  have hRk0 := Hid.mk hRk
  unfold c_hand_lister_node
  obtain ⟨x, r2, hx⟩ := hRk k hk
  clear hL hRk
  rcases hx with rfl | ⟨nb, j, due, H, tok, v, rfl, hs⟩
  case inr =>
    have hfin : NgPost h l Gs tb nq rt rs i k own M (.ptr nb 0) ((((⟨M.obj, M.next + 4⟩ : Mm).put M.next (.box [.ptr tb 0] 110)).put (M.next + 1) (.box [vint i] 3)).put (M.next + 2) (.box [vint k] 3)) := by
      have hf : ∀ q, q < M.next → ((((⟨M.obj, M.next + 4⟩ : Mm).put M.next (.box [.ptr tb 0] 110)).put (M.next + 1) (.box [vint i] 3)).put (M.next + 2) (.box [vint k] 3)).obj q = M.obj q := fun q hq => (put_other _ _ (by omega)).trans ((put_other _ _ (by omega)).trans (put_other _ _ (by omega)))
      have hnx : M.next ≤ ((((⟨M.obj, M.next + 4⟩ : Mm).put M.next (.box [.ptr tb 0] 110)).put (M.next + 1) (.box [vint i] 3)).put (M.next + 2) (.box [vint k] 3)).next := by show M.next ≤ M.next + 4; omega
      exact ⟨hnx, fun q hq _ => hf q hq, own, nb, j, due, H, tok, v, rfl, fun _ _ => rfl, hL0.out.up hnx hf, hs.up hnx hf, R, by rw [hre.out]; exact (hf ri l3).trans hR0.out, r2⟩
    replace hfin := Hid.mk hfin
    repeat' (with_reducible first | refine x_ops ?_ | refine wk ?_ | ((first | refine gd1 ?_ ?_ | refine gd2 ?_ ?_ | refine gd3 ?_ ?_) <;> (first | exact @False.elim _ | intro hc)))
    exact ⟨.inr rfl, .ptr nb 0, vw, hfin.out⟩
  repeat' (with_reducible first | refine x_ops ?_ | refine wk ?_ | ((first | refine gd1 ?_ ?_ | refine gd2 ?_ ?_ | refine gd3 ?_ ?_) <;> (first | exact @False.elim _ | intro hc)))
  have hset := set_eq (L := R) (i := k) (by rw [hRl]; exact hk) (.ptr (M.next + 6) 0)
  have hget : ((R).set k (.ptr (M.next + 6) 0))[k]? = some (.ptr (M.next + 6) 0) := List.getElem?_set_self (by rw [hRl]; exact hk)
  refine x_genM (fun t M5 => (t 3 = .ptr M.next 0 ∧ t 4 = .ptr (M.next + 1) 0 ∧ t 5 = .ptr (M.next + 2) 0 ∧ t 7 = .ptr (M.next + 7) 0) ∧ M5.next = M.next + 9 ∧ M5.obj M.next = some (.box [.ptr tb 0] 110) ∧ M5.obj (M.next + 1) = some (.box [vint i] 3) ∧ M5.obj (M.next + 2) = some (.box [vint k] 3) ∧
    M5.obj (M.next + 6) = some (.box [.sl 0 [] .exact, .sl 0 [] .exact, .fn 110 [], vbool false] 159) ∧ M5.obj (M.next + 7) = some (.box [.ptr (M.next + 6) 0] 150) ∧ M5.obj ri = some (.box ((R).set k (.ptr (M.next + 6) 0)) 150) ∧ ∀ q, q < M.next → q ≠ ri → M5.obj q = M.obj q)
    ⟨⟨vv, vv, vv, vv⟩, rfl, ?_, ?_, ?_, ?_, ?_, ?_, fun q hq hqr => ?_⟩ ?_
  · simp only [put_obj]; repeat rw [if_neg (by omega)]
    rw [if_pos True.intro]
  · simp only [put_obj]; repeat rw [if_neg (by omega)]
    rw [if_pos True.intro]; rfl
  · simp only [put_obj]; repeat rw [if_neg (by omega)]
    rw [if_pos True.intro]; rfl
  · simp only [put_obj]; repeat rw [if_neg (by omega)]
    rw [if_pos True.intro]; rfl
  · simp only [put_obj]; repeat rw [if_neg (by omega)]
    rw [if_pos True.intro]
  · refine (put_same _ _ _).trans ?_
    rw [hset]; simp
  · simp only [put_obj]; repeat rw [if_neg (by omega)]
  rintro t5 M5 ⟨⟨s3, s4, s5, s7⟩, m0, m1, m2, m3, m4, m5, m6, m7⟩
  have q1 := (m7 tb l1 n2').trans o1
  have q2 := (m7 nq l2 n3').trans o2
  have NF := node_fill hn hi hk (M := M5) (nb := M.next + 6) (tb := tb) (xb := M.next + 7) (tp := M.next) (ib := M.next + 1) (kb := M.next + 2) (nv := .gsl nq l.length 1) (rv := .ptr rt 0) (t := t5) s3 s4 s5 s7 m5 m1 m2 m3 q1 (by omega) (by omega) (by omega) (by omega) (by omega) ⟨by omega, by omega, by omega, by omega, by omega⟩ m4 (by omega)
  with_reducible refine x_sum 590295810354410684416 ?hw (R := fun e t m' => e = .nrm ∧ NdM M5 (M.next + 6) (wayF h l Gs i k) m') NF ?h2
  case hw => kernel_rfl
  rintro e t6 M6 ⟨rfl, k0, ⟨v, H, k2, k3, k4, k5, k6⟩, k7⟩
  have p1 := (k7 M.next (by omega) (by omega)).trans m1
  have p2 := (k7 (M.next + 1) (by omega) (by omega)).trans m2
  have p3 := (k7 (M.next + 2) (by omega) (by omega)).trans m3
  have p4 := (k7 tb (by omega) (by omega)).trans q1
  have p5 := (k7 nq (by omega) (by omega)).trans q2
  have p6 := (k7 ri (by omega) (by omega)).trans m6
  have y1 : M.next < M6.next := by omega
  have y2 : M.next + 1 < M6.next := by omega
  have y3 : M.next + 2 < M6.next := by omega
  have y4 : tb < M6.next := by omega
  have y5 : nq < M6.next := by omega
  have y6 : ri < M6.next := by omega
  have fr : ∀ q, q < M.next → q ≠ ri → M6.obj q = M.obj q := fun q hq hqr => (k7 q (by omega) (by omega)).trans (m7 q hq hqr)
  have ids : ∀ q n, v = .gsl q n 3 → M.next ≤ q := fun q n e => by have := k6 q n e; omega
  have hN := nd_new hn hi hk hL0.out (by rw [hre.out]; exact hR0.out) hRl hRk0.out (M' := M6) (nb := M.next + 6) (v := v) (H := H) (by omega) ⟨by omega, by omega⟩ (fun q hq hqr => fr q hq (by rw [← hre.out]; exact hqr)) (by rw [hre.out]; exact p6) k2 k3 k4 k5 ids
  have hfin : NgPost h l Gs tb nq rt rs i k own M (.ptr (M.next + 6) 0) M6 := ⟨by omega, fun q hq hqr => fr q hq (by rw [← hre.out]; exact hqr), _, M.next + 6, 0, false, H, .exact, v, rfl, hN.2.2, hN.1, hN.2.1, _, by rw [hre.out]; exact p6, hget⟩
  replace hfin := Hid.mk hfin
  clear fr ids k2 m0 k7 k6 m1 m2 m3 m4 m5 m6 m7 q1 q2 o1 o2 o3 hset NF hne hne0 hlt hnf hnf0 hN
  repeat' (with_reducible first | refine x_ops ?_ | refine wk ?_ | ((first | refine gd1 ?_ ?_ | refine gd2 ?_ ?_ | refine gd3 ?_ ?_) <;> (first | exact @False.elim _ | intro hc)))
  exact ⟨.inr rfl, .ptr (M.next + 6) 0, vv, hfin.out⟩
end Go.Proofs.Ytojjdkoglhecbaa
namespace Go.Proofs.Ytojjdkoglhecbaa
open Go.RowKit

theorem gtEndG_fin {h : Hand} {l : List Chord} {Gs : List (List Grip)} {tb nq rt : Nat} {rs : List Nat} {lv : Nat} {T : List Way} {I : Nat → Bool → List Way → Prop} {o : Option (Nat × Nat)} {nb rb r : Nat} {own : Own} {tok : Tok} {v : V} {M : Mm} {e : VX} {s : St} {Post : V → Mm → Prop}
    (hE : GtEndG h l Gs tb nq rt rs lv T I o nb rb r own tok v M e s) (hp : Post (GtR T r) s.m) : FinS [.c 8 3 true, .t 9] Post e s := by
  obtain ⟨rfl, h8, a, b, c, ok, own', Mx, j, due, H, tok', v', h9, hR, hm, _⟩ := hE
  refine ⟨.inr rfl, GtR T r, ?_, hp⟩
  have ho : s.m.obj rb = some (.box [a, b, c] 154) := by rw [hm]; exact put_same _ _ _
  simp only [resV, resAll, resOne, h8, ho, h9]
  rw [hR]; rfl

/-- A node of the chord i has gone on: the lister from i on. -/
theorem ls_back {h : Hand} {l : List Chord} {Gs : List (List Grip)} {tb nq rt i k nb : Nat} {rs : List Nat} {own2 own3 : Own} {M2 Mx : Mm} {j j3 : Nat} {due due3 : Bool} {H H3 : List Way} {tok tok3 : Tok} {v v3 : V} {R : List V} (hi : i < l.length) (hk : k < (Gs.getD i []).length)
    (hL2 : LsG h l Gs tb nq rt rs i own2 M2) (hs2 : NdS (tl h l Gs i k) (NdI h l Gs i k) own2 (some (i, k)) nb M2 j due H tok v) (hT : Trn rs l.length (i + 1) nb own2 M2 tok v own3 Mx tok3 v3) (hLx : LsG h l Gs tb nq rt rs (i + 1) own3 Mx)
    (hsx : NdS (tl h l Gs i k) (NdI h l Gs i k) own3 (some (i, k)) nb Mx j3 due3 H3 tok3 v3) (hR : M2.obj (rs.getD i 0) = some (.box R 150)) (hRk : R[k]? = some (.ptr nb 0)) : LsG h l Gs tb nq rt rs i own3 Mx := by
  have hor := hL2.oy i hi
  have hne : ∀ q, q < M2.next → own2 q ≠ some (i, k) → (∀ y k', own2 q = some (y, k') → y < i + 1) → (∀ y, i + 1 ≤ y → y < l.length → q ≠ rs.getD y 0) → Mx.obj q = M2.obj q := fun q hq h1 h2 h3 =>
    hT.fr q hq (fun e => h1 (by rw [e]; exact hs2.ow)) (fun n e => h1 (hs2.qo q n e)) (fun e => h1 (hs2.ao q e)) h2 h3
  have oRx : Mx.obj (rs.getD i 0) = some (.box R 150) := (hne _ (hL2.ltr i hi) (by rw [hor]; intro e; cases e) (fun y k' e => by rw [hor] at e; cases e) (fun y hy hyl => by have := hL2.inj i y (by omega) hyl; omega)).trans hR
  refine ⟨hLx.tbo, hLx.nqo, fun y hy hyl => ?_, hLx.inj, hLx.ltt, hLx.ltn, hLx.ltr, hLx.ot, hLx.on, hLx.oy, hLx.cl⟩
  by_cases e : y = i
  · subst e
    obtain ⟨R', r1, r2, r3⟩ := hL2.row y (Nat.le_refl _) hyl
    have hRR : R' = R := by rw [hR] at r1; injection r1 with r1; injection r1 with r1; exact r1.symm
    subst hRR
    refine ⟨R', oRx, r2, fun k' hk' => ?_⟩
    by_cases e2 : k' = k
    · subst e2
      exact ⟨_, hRk, .inr ⟨nb, j3, due3, H3, tok3, v3, rfl, hsx⟩⟩
    · obtain ⟨x, x1, x2⟩ := r3 k' hk'
      refine ⟨x, x1, x2.keep hT.nx hT.ow fun q hq hqo => hne q hq (by rw [hqo]; intro e3; injection e3 with e3; injection e3 with _ e3; exact e2 e3) (fun y' k2 e3 => by rw [hqo] at e3; injection e3 with e3; injection e3 with e3 _; omega) (fun y' hy' hyl' e3 => by
        rw [e3, hL2.oy y' hyl'] at hqo; cases hqo)⟩
  · exact hLx.row y (by omega) hyl

set_option maxHeartbeats 4000000 in
theorem get_sfnG {h : Hand} {l : List Chord} {Gs : List (List Grip)} (hn : NetOk h l Gs) {tb nq rt : Nat} {rs : List Nat} {i : Nat} (hi : i < l.length)
    (GS : GetOk h l Gs tb nq rt rs (i + 1) (if i + 1 = l.length then 0 else (Gs.getD (i + 1) []).length) (fun m => tl h l Gs (i + 1) m)) : GetOk h l Gs tb nq rt rs i (Gs.getD i []).length (fun m => tl h l Gs i m) := by
  intro k r own M hk hr hL
  refine SFn.of_vxS k_hand_lister_get_b (by simp) ?_
  have o1 := hL.tbo
  have l1 := hL.ltt
  have x0 : ¬ tb = M.next := by omega
  have low : ∀ a : AObj, ∀ q, q < M.next → ((⟨M.obj, M.next + 2⟩ : Mm).put M.next a).obj q = M.obj q := fun a q hq => put_other _ _ (by omega)
  have hL1 : LsG h l Gs tb nq rt rs i own ((⟨M.obj, M.next + 2⟩ : Mm).put M.next (.box [vint 0, vint 0, vint 0] 154)) := hL.up (by show M.next ≤ M.next + 2; omega) (low _)
  have NS := nodeG_sfn hn hi hk hL1
  have NE := ngPost_ex hn hi hk hL1
  have h4 := hn.len
  unfold c_hand_lister_get_b
  have hL0 := Hid.mk hL
  replace low := Hid.mk low
  clear hL hL1
  repeat' (with_reducible first | refine x_ops ?_ | refine wk ?_ | ((first | refine gd1 ?_ ?_ | refine gd2 ?_ ?_ | refine gd3 ?_ ?_) <;> (first | exact @False.elim _ | intro hc)))
  refine x_scallR [.ptr tb 0, vint i, vint k] vw NS NE ?_
  rintro res M2 ⟨p0, p1, own2, nb, j, due, H, tok, v, rfl, p2, p3, p4, R, p5, p6⟩
  clear NS NE
  repeat' (with_reducible first | refine x_ops ?_ | refine wk ?_ | ((first | refine gd1 ?_ ?_ | refine gd2 ?_ ?_ | refine gd3 ?_ ?_) <;> (first | exact @False.elim _ | intro hc)))
  have p0' : M.next + 2 ≤ M2.next := p0
  have hor : own2 M.next = none := (p2 M.next (by show M.next < M.next + 2; omega)).trans (hL0.out.cl _ (Nat.le_refl _))
  have hrb : M2.obj M.next = some (.box [vint 0, vint 0, vint 0] 154) := (p1 M.next (by show M.next < M.next + 2; omega) (by have := hL0.out.ltr i hi; omega)).trans (put_same _ _ _)
  have hL2 : LsG h l Gs tb nq rt rs (i + 1) own2 M2 := p3.keep (Nat.le_succ _) (Nat.le_refl _) (fun _ _ => rfl) p3.cl rfl rfl (fun _ _ _ => rfl) fun _ _ _ _ _ _ => rfl
  refine vx_mono (get_tailG (nb := nb) (rb := M.next) (r := r) (iz := (i : Int)) (ndI_ls hn hi hk) (fun j due W W' h1 h2 => ndI_perm h1 h2) (fun y k e => by injection e with e; injection e with e; omega) GS hL2 p4 (by omega) vw vw (by omega) (by omega) vw vw vw hrb (by omega) (fun n e => by have := p4.qo _ _ e; rw [hor] at this; cases this) hor) fun e s' hE => gtEndG_fin hE ?_
  obtain ⟨_, _, a, b, c, ok, own3, Mx, j3, due3, H3, tok3, v3, _, _, hm, hLx, hTx, hsx⟩ := hE
  have hLi := ls_back hi hk p3 p4 hTx hLx hsx p5 p6
  have hor3 : own3 M.next = none := (hTx.ow _ (by omega)).trans hor
  rw [hm]
  refine ⟨rfl, own3, fun q hq => (hTx.ow q (by omega)).trans (p2 q (by show q < M.next + 2; omega)), hL0.out.put hLi (Nat.le_refl _) hor3 _, by have := hTx.nx; show M.next ≤ Mx.next; omega, fun q hq h1 h2 => ?_⟩
  have hq2 : own2 q = own q := p2 q (by show q < M.next + 2; omega)
  have hno : own2 q ≠ some (i, k) := fun e => by have := h1 i k (by rw [← hq2]; exact e); omega
  refine (put_other _ _ (by omega)).trans ((hTx.fr q (by omega) (fun e => hno (by rw [e]; exact p4.ow)) (fun n e => hno (p4.qo q n e)) (fun e => hno (p4.ao q e)) (fun y k' e => by have := h1 y k' (by rw [← hq2]; exact e); omega) (fun y hy hyl => h2 y (by omega) hyl)).trans ((p1 q (by show q < M.next + 2; omega) (h2 i (Nat.le_refl _) hi)).trans (low.out _ q hq)))
/-- From any chord on. -/
theorem get_all {h : Hand} {l : List Chord} {Gs : List (List Grip)} (hn : NetOk h l Gs) (tb nq rt : Nat) (rs : List Nat) : ∀ d i, l.length - 1 - i = d → i < l.length → GetOk h l Gs tb nq rt rs i (Gs.getD i []).length (fun m => tl h l Gs i m) := by
  intro d
  induction d with
  | zero =>
    intro i hd hi
    refine get_sfnG hn hi ?_
    rw [if_pos (by omega)]
    intro k r own M hk
    omega
  | succ d ih =>
    intro i hd hi
    refine get_sfnG hn hi ?_
    rw [if_neg (by omega)]
    exact ih (i + 1) (by omega) (by omega)
end Go.Proofs.Ytojjdkoglhecbaa
namespace Go.Proofs.Ytojjdkoglhecbaa
open Go.RowKit

theorem grd_ex {n : Nat} {c : Nat → List Int} (hs : ∀ m, m < n → Asc (c m)) : ∀ j, j ≤ (mrg n c).length → ∃ a, Grd n c j a
  | 0, _ => ⟨_, grd_0⟩
  | j + 1, h => by
    obtain ⟨a, h1⟩ := grd_ex hs j (by omega)
    obtain ⟨m, _, _, _, h2⟩ := grd_next hs h1 (by omega)
    exact ⟨_, h2⟩
/-- A rank is not greater than the place. -/
theorem mrg_rank {n : Nat} {c : Nat → List Int} (hs : ∀ m, m < n → Asc (c m)) {j : Nat} (hj : j < (mrg n c).length) : ((mrg n c).getD j noW).2.2 ≤ (j : Int) := by
  obtain ⟨a, h1⟩ := grd_ex hs j (by omega)
  obtain ⟨m, _, _, h2, _⟩ := grd_next hs h1 hj
  have := h1.aj m
  rw [h2, hdG]
  dsimp only
  omega
theorem tl_rank {h : Hand} {l : List Chord} {Gs : List (List Grip)} {i k r : Nat} (hi : i + 1 < l.length) (hr : r < (tl h l Gs i k).length) : ((tl h l Gs i k).getD r noW).2.2 ≤ (r : Int) := by
  rw [tl_s hi] at hr ⊢
  exact mrg_rank (fun m _ => tlC_asc hi) hr
theorem rt_rank {h : Hand} {l : List Chord} {Gs : List (List Grip)} {r : Nat} (hl : 0 < l.length) (hr : r < (rtT h l Gs).length) : ((rtT h l Gs).getD r noW).2.2 ≤ (r : Int) := mrg_rank (fun m _ => rtC_asc hl) hr

/-- The whole, behind a call from the chord i on. -/
theorem ls_lift {h : Hand} {l : List Chord} {Gs : List (List Grip)} {tb nq rt i : Nat} {rs : List Nat} {own own' : Own} {M M' : Mm} (hL : LsG h l Gs tb nq rt rs 0 own M) (ho : ∀ q, q < M.next → own' q = own q) (hL' : LsG h l Gs tb nq rt rs i own' M') (hf : FgL rs l.length own i M M') : LsG h l Gs tb nq rt rs 0 own' M' := by
  refine ⟨hL'.tbo, hL'.nqo, fun y _ hyl => ?_, hL'.inj, hL'.ltt, hL'.ltn, hL'.ltr, hL'.ot, hL'.on, hL'.oy, hL'.cl⟩
  by_cases e : i ≤ y
  · exact hL'.row y e hyl
  · obtain ⟨R, r1, r2, r3⟩ := hL.row y (Nat.zero_le _) hyl
    refine ⟨R, (hf.2 _ (hL.ltr y hyl) (fun y' k e2 => by rw [hL.oy y hyl] at e2; cases e2) (fun y' hy' hyl' => by have := hL.inj y y' (by omega) hyl'; omega)).trans r1, r2, fun k hk => ?_⟩
    obtain ⟨x, x1, x2⟩ := r3 k hk
    refine ⟨x, x1, x2.keep hf.1 ho fun q hq hqo => hf.2 q hq (fun y' k' e2 => by rw [hqo] at e2; injection e2 with e2; injection e2 with e2 _; omega) (fun y' hy' hyl' e2 => by rw [e2, hL.oy y' hyl'] at hqo; cases hqo)⟩
/-- A lister, as a whole. -/
structure LiS (h : Hand) (l : List Chord) (Gs : List (List Grip)) (tb nq rt : Nat) (rs : List Nat) (own : Own) (tok : Tok) (v : V) (M : Mm) : Prop where
  ls : LsG h l Gs tb nq rt rs 0 own M
  nd : ∃ j due H, NdS (rtT h l Gs) (BagI (Gs.getD 0 []).length (rtC h l Gs)) own none rt M j due H tok v
/-- It goes on. -/
def LiT (h : Hand) (l : List Chord) (Gs : List (List Grip)) (tb nq rt : Nat) (rs : List Nat) (own : Own) (tok : Tok) (v : V) (M M' : Mm) : Prop :=
  ∃ own' tok' v', LiS h l Gs tb nq rt rs own' tok' v' M' ∧ Trn rs l.length 0 rt own M tok v own' M' tok' v'
/-- What get leaves, of a chord on, for the whole. -/
theorem li_get {h : Hand} {l : List Chord} {Gs : List (List Grip)} {tb nq rt i r : Nat} {rs : List Nat} {own : Own} {tok : Tok} {v : V} {M : Mm} {T' : List Way} {res : V} {M' : Mm} (hS : LiS h l Gs tb nq rt rs own tok v M) (hp : GpPost h l Gs tb nq rt rs T' i r own M res M') :
    ∃ own', LiS h l Gs tb nq rt rs own' tok v M' ∧ Trn rs l.length 0 rt own M tok v own' M' tok v := by
  obtain ⟨_, own', h1, h2, h3⟩ := hp
  obtain ⟨j, due, H, hs⟩ := hS.nd
  have hk : ∀ q, q < M.next → own q = none → (∀ y, 0 ≤ y → y < l.length → q ≠ rs.getD y 0) → M'.obj q = M.obj q := fun q hq ho hy => h3.2 q hq (fun y k e => by rw [ho] at e; cases e) fun y _ hyl => hy y (Nat.zero_le _) hyl
  refine ⟨own', ⟨ls_lift hS.ls h1 h2 h3, j, due, H, hs.keep h3.1 h1 fun q hq hqo hqc => hk q hq hqo (hS.ls.nrs hs hqc)⟩, ⟨h3.1, h1, fun q hq _ _ _ h4 h5 => hk q hq (by
    cases ho : own q with
    | none => rfl
    | some x => obtain ⟨y, k⟩ := x; have := h4 y k ho; omega) h5, fun q n e => .inl ⟨n, e⟩, fun q e => .inl e⟩⟩

/-- What get leaves, from the beginning. -/
def GrPost (h : Hand) (l : List Chord) (Gs : List (List Grip)) (tb nq rt : Nat) (rs : List Nat) (r : Nat) (own : Own) (tok : Tok) (v : V) (M : Mm) (res : V) (M' : Mm) : Prop := res = GtR (rtT h l Gs) r ∧ LiT h l Gs tb nq rt rs own tok v M M'
theorem grPost_ex {h : Hand} {l : List Chord} {Gs : List (List Grip)} {tb nq rt : Nat} {rs : List Nat} (r : Nat) {own : Own} {tok : Tok} {v : V} {M : Mm} (hS : LiS h l Gs tb nq rt rs own tok v M) : ∃ res M', GrPost h l Gs tb nq rt rs r own tok v M res M' := ⟨_, M, rfl, own, tok, v, hS, Trn.refl _ _ _ _ _ _ _ _⟩

set_option maxHeartbeats 4000000 in
theorem get_root {h : Hand} {l : List Chord} {Gs : List (List Grip)} (hn : NetOk h l Gs) (hl : 0 < l.length) {tb nq rt r : Nat} {rs : List Nat} {own : Own} {tok : Tok} {v : V} {M : Mm} (hS : LiS h l Gs tb nq rt rs own tok v M) (hr : r ≤ 100) :
    SFn Try.prog Gd 112 [.ptr tb 0, vint (-1), vint 0, vint r] M (GrPost h l Gs tb nq rt rs r own tok v M) := by
  refine SFn.of_vxS k_hand_lister_get_b (by simp) ?_
  obtain ⟨hL, j, due, H, hs⟩ := hS
  have o1 := hL.tbo
  have l1 := hL.ltt
  have x0 : ¬ tb = M.next := by omega
  have c1 : ¬ (0 : Int) ≤ -1 := by decide
  have low : ∀ a : AObj, ∀ q, q < M.next → ((⟨M.obj, M.next + 2⟩ : Mm).put M.next a).obj q = M.obj q := fun a q hq => put_other _ _ (by omega)
  have GS := get_all hn tb nq rt rs _ 0 rfl hl
  unfold c_hand_lister_get_b
  have hL0 := Hid.mk hL
  have hs0 := Hid.mk hs
  replace low := Hid.mk low
  clear hL hs
  repeat' (with_reducible first | refine x_ops ?_ | refine wk ?_ | ((first | refine gd1 ?_ ?_ | refine gd2 ?_ ?_ | refine gd3 ?_ ?_) <;> (first | exact @False.elim _ | intro hc)))
  have hL2 : LsG h l Gs tb nq rt rs 0 own ((⟨M.obj, M.next + 2⟩ : Mm).put M.next (.box [vint 0, vint 0, vint 0] 154)) := hL0.out.up (by show M.next ≤ M.next + 2; omega) (low.out _)
  have hs2 : NdS (rtT h l Gs) (BagI (Gs.getD 0 []).length (rtC h l Gs)) own none rt ((⟨M.obj, M.next + 2⟩ : Mm).put M.next (.box [vint 0, vint 0, vint 0] 154)) j due H tok v := hs0.out.up (by show M.next ≤ M.next + 2; omega) (low.out _)
  have hor := hL0.out.cl M.next (Nat.le_refl _)
  refine vx_mono (get_tailG (nb := rt) (rb := M.next) (r := r) (iz := -1) (lv := 0) (rtI_ls hn hl) (fun j due W W' h1 h2 => bag_perm h1 h2) (fun y k e => by cases e) GS hL2 hs2 (by omega) vw vw (by omega) (by omega) vw vw vw (put_same _ _ _) (by show M.next < M.next + 2; omega) (fun n e => by have := (hs0.out.vlt e).1; omega) hor) fun e s' hE => gtEndG_fin hE ?_
  obtain ⟨_, _, a, b, c, ok, own3, Mx, j3, due3, H3, tok3, v3, _, _, hm, hLx, hTx, hsx⟩ := hE
  have hor3 : own3 M.next = none := (hTx.ow _ (by show M.next < M.next + 2; omega)).trans hor
  have hTM : Trn rs l.length 0 rt own M tok v own3 Mx tok3 v3 := (⟨by show M.next ≤ M.next + 2; omega, fun _ _ => rfl, fun q hq _ _ _ _ _ => low.out _ q hq, fun q n e => .inl ⟨n, e⟩, fun q e => .inl e⟩ : Trn rs l.length 0 rt own M tok v own ((⟨M.obj, M.next + 2⟩ : Mm).put M.next (.box [vint 0, vint 0, vint 0] 154)) tok v).trans hTx
  rw [hm]
  refine ⟨rfl, own3, tok3, v3, ⟨hL0.out.put hLx (Nat.le_refl _) hor3 _, j3, due3, H3, ?_⟩, hTM.put (Nat.le_refl _) _⟩
  refine hsx.keep (Nat.le_refl _) (fun _ _ => rfl) fun q hq hqo hqc => put_other _ _ ?_
  rcases hqc with rfl | ⟨n, e⟩ | e
  · have := hs0.out.lt; omega
  · rcases hTx.vn q n e with ⟨n', e'⟩ | h9
    · have := (hs0.out.vlt e').1; omega
    · have h8 : M.next + 2 ≤ q := h9; omega
  · rcases hTx.tn q e with e' | h9
    · have := (hs0.out.tlt e').1; omega
    · have h8 : M.next + 2 ≤ q := h9; omega
end Go.Proofs.Ytojjdkoglhecbaa
namespace Go.Proofs.Ytojjdkoglhecbaa
open Go.RowKit

/-- What fingering leaves. -/
def FgPostG (h : Hand) (l : List Chord) (Gs : List (List Grip)) (tb nq rt : Nat) (rs : List Nat) (r : Nat) (own : Own) (tok : Tok) (v : V) (M : Mm) (res : V) (M' : Mm) : Prop :=
  LiT h l Gs tb nq rt rs own tok v M M' ∧ ((r < (rtT h l Gs).length ∧ ∃ tf, res = .tup [.agg [.sl (fgW h l Gs ((rtT h l Gs).getD r noW)).1.length ((fgW h l Gs ((rtT h l Gs).getD r noW)).1.flatMap Grip.cells) tf, vint (fgW h l Gs ((rtT h l Gs).getD r noW)).2], vbool true]) ∨
    (¬ r < (rtT h l Gs).length ∧ res = .tup [.agg [.sl 0 [] .exact, vint 0], vbool false]))
theorem fgPostG_ex {h : Hand} {l : List Chord} {Gs : List (List Grip)} {tb nq rt : Nat} {rs : List Nat} (r : Nat) {own : Own} {tok : Tok} {v : V} {M : Mm} (hS : LiS h l Gs tb nq rt rs own tok v M) : ∃ res M', FgPostG h l Gs tb nq rt rs r own tok v M res M' := by
  by_cases hr : r < (rtT h l Gs).length
  · exact ⟨_, M, ⟨own, tok, v, hS, Trn.refl _ _ _ _ _ _ _ _⟩, .inl ⟨hr, .no, rfl⟩⟩
  · exact ⟨_, M, ⟨own, tok, v, hS, Trn.refl _ _ _ _ _ _ _ _⟩, .inr ⟨hr, rfl⟩⟩
/-- Where fingering stands. -/
structure FgG (h : Hand) (l : List Chord) (Gs : List (List Grip)) (tb nq rt : Nat) (rs : List Nat) (own0 : Own) (tok0 : Tok) (v0 : V) (mS : Mm) (fb wb : Nat) (T : List Grip) (cost : Int) (i : Nat) (own : Own) (tok : Tok) (v : V) (tf : Tok) (G : List Grip) (c x y : Int) (M : Mm) : Prop where
  st : LiS h l Gs tb nq rt rs own tok v M
  tr : Trn rs l.length 0 rt own0 mS tok0 v0 own M tok v
  fo : mS.next ≤ fb ∧ fb < M.next ∧ own fb = none
  wo : mS.next ≤ wb ∧ wb < M.next ∧ own wb = none
  vw : ∀ n, v ≠ .gsl wb n 3
  ne : fb ≠ wb
  gl : G.length = i
  f : M.obj fb = some (.box [.sl i (G.flatMap Grip.cells) tf, vint cost] 40)
  ap : Apb M tf i 53 2
  ao : ∀ q, tf = .own q → mS.next ≤ q ∧ own q = none
  w : M.obj wb = some (.box [vint c, vint x, vint y] 154)
  p : i < l.length → ∃ k r : Nat, x = k ∧ y = r ∧ k < (Gs.getD i []).length ∧ r < (tl h l Gs i k).length ∧ r ≤ 100 ∧ G ++ grps Gs i (pth h l Gs i k r) = T
  e : i = l.length → G = T
/-- The root's numbers are none of theirs. -/
theorem LiS.nb {h : Hand} {l : List Chord} {Gs : List (List Grip)} {tb nq rt : Nat} {rs : List Nat} {own : Own} {tok : Tok} {v : V} {M : Mm} (hS : LiS h l Gs tb nq rt rs own tok v M) {q : Nat} {cs : List V} {t : TypeId} (ho : M.obj q = some (.box cs t)) (h1 : t ≠ 159) (h2 : t ≠ 154) (h3 : t ≠ 150) :
    q ≠ rt ∧ (∀ n, v ≠ .gsl q n 3) ∧ tok ≠ .own q ∧ ∀ y, 0 ≤ y → y < l.length → q ≠ rs.getD y 0 := by
  obtain ⟨j, due, H, hs⟩ := hS.nd
  refine ⟨ne_type ho hs.box h1, fun n e => ?_, fun e => ?_, fun y hy hyl => ?_⟩
  · obtain ⟨_, _, cs', h9⟩ := hs.vlt e
    exact ne_type ho h9 h2 rfl
  · have := (hs.tlt e).2; rw [ho] at this; cases this
  · obtain ⟨R, r1, _⟩ := hS.ls.row y hy hyl
    exact ne_type ho r1 h3
theorem LiS.nr {h : Hand} {l : List Chord} {Gs : List (List Grip)} {tb nq rt : Nat} {rs : List Nat} {own : Own} {tok : Tok} {v : V} {M : Mm} (hS : LiS h l Gs tb nq rt rs own tok v M) {q n z : Nat} {e : TypeId} (ho : M.obj q = some (.row n e z)) (h1 : e ≠ 154) :
    q ≠ rt ∧ (∀ n, v ≠ .gsl q n 3) ∧ tok ≠ .own q ∧ ∀ y, 0 ≤ y → y < l.length → q ≠ rs.getD y 0 := by
  obtain ⟨j, due, H, hs⟩ := hS.nd
  refine ⟨fun e2 => ?_, fun n e2 => ?_, fun e2 => ?_, fun y hy hyl e2 => ?_⟩
  · subst e2; rw [hs.box] at ho; cases ho
  · obtain ⟨_, _, cs', h9⟩ := hs.vlt e2
    rw [h9] at ho; cases ho
  · have := (hs.tlt e2).2; rw [ho] at this; injection this with this; injection this with _ this; exact h1 this
  · obtain ⟨R, r1, _⟩ := hS.ls.row y hy hyl
    rw [e2, r1] at ho; cases ho
/-- New numbers are set aside; boxes that are nobody's are written. -/
theorem LiS.up {h : Hand} {l : List Chord} {Gs : List (List Grip)} {tb nq rt : Nat} {rs : List Nat} {own : Own} {tok : Tok} {v : V} {M M' : Mm} (hS : LiS h l Gs tb nq rt rs own tok v M) (hn : M.next ≤ M'.next) (hf : ∀ q, q < M.next → M'.obj q = M.obj q) : LiS h l Gs tb nq rt rs own tok v M' := by
  obtain ⟨j, due, H, hs⟩ := hS.nd
  exact ⟨hS.ls.up hn hf, j, due, H, hs.up hn hf⟩
/-- What is nobody's may change. -/
theorem LiS.keep {h : Hand} {l : List Chord} {Gs : List (List Grip)} {tb nq rt : Nat} {rs : List Nat} {own : Own} {tok : Tok} {v : V} {M M' : Mm} (hS : LiS h l Gs tb nq rt rs own tok v M) (hn : M.next ≤ M'.next) (hf : ∀ q, q < M.next → (own q ≠ none ∨ q = tb ∨ q = nq ∨ q = rt ∨ (∃ n, v = .gsl q n 3) ∨ tok = .own q ∨ ∃ y, y < l.length ∧ q = rs.getD y 0) → M'.obj q = M.obj q) : LiS h l Gs tb nq rt rs own tok v M' := by
  obtain ⟨j, due, H, hs⟩ := hS.nd
  have hL := hS.ls
  refine ⟨hL.keep (Nat.le_refl _) hn (fun _ _ => rfl) (fun q hq => hL.cl q (Nat.le_trans hn hq)) (hf _ hL.ltt (.inr (.inl rfl))) (hf _ hL.ltn (.inr (.inr (.inl rfl)))) (fun y _ hy => hf _ (hL.ltr y hy) (.inr (.inr (.inr (.inr (.inr (.inr ⟨y, hy, rfl⟩))))))) fun q y k hq hqo _ => hf q hq (.inl (by rw [hqo]; intro e; cases e)), j, due, H, hs.keep hn (fun _ _ => rfl) fun q hq _ hqc => ?_⟩
  rcases hqc with e | e | e
  · exact hf q hq (.inr (.inr (.inr (.inl e))))
  · exact hf q hq (.inr (.inr (.inr (.inr (.inl e)))))
  · exact hf q hq (.inr (.inr (.inr (.inr (.inr (.inl e))))))
/-- A box of a call's own is written: it is none of the lister's. -/
theorem LiS.put {h : Hand} {l : List Chord} {Gs : List (List Grip)} {tb nq rt : Nat} {rs : List Nat} {own : Own} {tok : Tok} {v : V} {M : Mm} (hS : LiS h l Gs tb nq rt rs own tok v M) {b : Nat} (hb : own b = none) (h1 : b ≠ tb ∧ b ≠ nq ∧ b ≠ rt) (h2 : ∀ n, v ≠ .gsl b n 3) (h3 : tok ≠ .own b) (h4 : ∀ y, y < l.length → b ≠ rs.getD y 0) (a : AObj) : LiS h l Gs tb nq rt rs own tok v (M.put b a) :=
  hS.keep (Nat.le_refl _) fun q _ hq => put_other _ _ (fun e => by
    subst e
    rcases hq with h5 | h5 | h5 | h5 | ⟨n, h5⟩ | h5 | ⟨y, hy, h5⟩
    · exact h5 hb
    · exact h1.1 h5
    · exact h1.2.1 h5
    · exact h1.2.2 h5
    · exact h2 n h5
    · exact h3 h5
    · exact h4 y hy h5)
theorem LiS.putB {h : Hand} {l : List Chord} {Gs : List (List Grip)} {tb nq rt : Nat} {rs : List Nat} {own : Own} {tok : Tok} {v : V} {M : Mm} (hS : LiS h l Gs tb nq rt rs own tok v M) {b : Nat} {cs : List V} {t : TypeId} (ho : M.obj b = some (.box cs t)) (hb : own b = none)
    (h1 : t ≠ 159 ∧ t ≠ 150 ∧ t ≠ 162 ∧ t ≠ 163) (hv : ∀ n, v ≠ .gsl b n 3) (a : AObj) : LiS h l Gs tb nq rt rs own tok v (M.put b a) := by
  obtain ⟨j, due, H, hs⟩ := hS.nd
  refine hS.put hb ⟨ne_type ho hS.ls.tbo h1.2.2.1, ne_type ho hS.ls.nqo h1.2.2.2, ne_type ho hs.box h1.1⟩ hv (fun e => ?_) (fun y hy => ?_) a
  · have := (hs.tlt e).2; rw [ho] at this; cases this
  · obtain ⟨R, r1, _⟩ := hS.ls.row y (Nat.zero_le _) hy
    exact ne_type ho r1 h1.2.1
/-- Such a box is kept by the lister's calls. -/
theorem LiS.box {h : Hand} {l : List Chord} {Gs : List (List Grip)} {tb nq rt : Nat} {rs : List Nat} {own own' : Own} {tok tok' : Tok} {v v' : V} {M M' : Mm} (hS : LiS h l Gs tb nq rt rs own tok v M) (hT : Trn rs l.length 0 rt own M tok v own' M' tok' v') {b : Nat} {cs : List V} {t : TypeId} (hlt : b < M.next) (ho : M.obj b = some (.box cs t)) (hb : own b = none)
    (h1 : t ≠ 159 ∧ t ≠ 150) (hv : ∀ n, v ≠ .gsl b n 3) : M'.obj b = some (.box cs t) := by
  obtain ⟨j, due, H, hs⟩ := hS.nd
  refine (hT.fr b hlt (ne_type ho hs.box h1.1) hv (fun e => ?_) (fun y k e => by rw [hb] at e; cases e) (fun y hy hyl => ?_)).trans ho
  · have := (hs.tlt e).2; rw [ho] at this; cases this
  · obtain ⟨R, r1, _⟩ := hS.ls.row y hy hyl
    exact ne_type ho r1 h1.2
end Go.Proofs.Ytojjdkoglhecbaa
namespace Go.Proofs.Ytojjdkoglhecbaa
open Go.RowKit

theorem rt_at {h : Hand} {l : List Chord} {Gs : List (List Grip)} (hl : 0 < l.length) {r : Nat} (hr : r < (rtT h l Gs).length) : ∃ m s : Nat, m < (Gs.getD 0 []).length ∧ s < (tl h l Gs 0 m).length ∧ s ≤ r ∧ (rtT h l Gs).getD r noW = (((rtT h l Gs).getD r noW).1, (m : Int), (s : Int)) := by
  have h1 := rt_rank hl hr
  obtain ⟨m, s, m1, m2, m3⟩ := mem_mrg.1 (mem_nthW hr)
  rw [rtC, List.length_map] at m2
  have m4 : (rtT h l Gs).getD r noW = ((rtC h l Gs m).getD s 0, (m : Int), (s : Int)) := m3
  rw [m4] at h1 ⊢
  exact ⟨m, s, m1, m2, by dsimp only at h1; omega, rfl⟩

set_option maxHeartbeats 4000000 in
theorem fingG_sfn {h : Hand} {l : List Chord} {Gs : List (List Grip)} (hn : NetOk h l Gs) (hl : 0 < l.length) {tb nq rt r : Nat} {rs : List Nat} {own : Own} {tok : Tok} {v : V} {M : Mm} (hS : LiS h l Gs tb nq rt rs own tok v M) (hr : r ≤ 100) :
    SFn Try.prog Gd 75 [.ptr tb 0, vint r] M (FgPostG h l Gs tb nq rt rs r own tok v M) := by
  refine SFn.of_vxS k_hand_lister_fingering_b (by simp) ?_
  have h4 := hn.len
  have gl := hn.gl
  have l1 := hS.ls.ltt
  have x0 : ¬ tb = M.next := by omega
  have hnet : netE h l Gs = .ept [.sl h.low.length (h.low.map vint) .no, .sl h.high.length (h.high.map vint) .no, .sl h.barre.length (h.barre.map vbool) .no, .lit (.int .i64 h.top), .lit (.int .i64 h.jump), .lit (.int .i64 h.shift), .lit (.int .i64 h.lift), .lit (.int .i64 h.bar), .lit (.int .i64 h.stretch), .lit (.int .i64 h.slide),
    .sl l.length (l.flatMap Chord.cells) .no, .sl Gs.length (Gs.map tGs) .no, .sl (owA h l Gs).length ((owA h l Gs).map tIs) .no, .sl (rsA h l Gs).length ((rsA h l Gs).map tIs) .no] 0 := rfl
  replace hnet := Hid.mk hnet
  replace gl := Hid.mk gl
  have o1 := hS.ls.tbo
  rw [hnet.out] at o1
  have e1 : ((l.length : Int) == 0) = false := by rw [beq_eq_false_iff_ne]; omega
  have low : ∀ a : AObj, ∀ q, q < M.next → ((⟨M.obj, M.next + 11⟩ : Mm).put M.next a).obj q = M.obj q := fun a q hq => put_other _ _ (by omega)
  have hS1 : LiS h l Gs tb nq rt rs own tok v ((⟨M.obj, M.next + 11⟩ : Mm).put M.next (.box [.sl 0 [] .exact, vint 0] 40)) := hS.up (by show M.next ≤ M.next + 11; omega) (low _)
  have GR := get_root hn hl hS1 hr
  have GE := grPost_ex r hS1
  have hof : own M.next = none := hS.ls.cl _ (Nat.le_refl _)
  have how : own (M.next + 8) = none := hS.ls.cl _ (Nat.le_add_right _ _)
  have hnf := hS1.nb (put_same _ _ _) (by decide) (by decide) (by decide)
  unfold c_hand_lister_fingering_b
  have hS0 := Hid.mk hS
  replace hS1 := Hid.mk hS1
  replace hn := Hid.mk hn
  replace low := Hid.mk low
  clear hS
  repeat' (with_reducible first | refine x_ops ?_ | refine wk ?_ | ((first | refine gd1 ?_ ?_ | refine gd2 ?_ ?_ | refine gd3 ?_ ?_) <;> (first | exact @False.elim _ | intro hc)))
  refine x_scallR [.ptr tb 0, vint (-1), vint 0, vint r] vw GR GE ?_
  rintro res M2 ⟨hres, own2, tok2, v2, hS2, hT2⟩
  have p1' : M.next + 11 ≤ M2.next := hT2.nx
  have of := (hT2.fr M.next (by show M.next < M.next + 11; omega) hnf.1 hnf.2.1 hnf.2.2.1 (fun y k e => by rw [hof] at e; cases e) hnf.2.2.2).trans (put_same _ _ _)
  have hof2 : own2 M.next = none := (hT2.ow _ (by show M.next < M.next + 11; omega)).trans hof
  have how2 : own2 (M.next + 8) = none := (hT2.ow _ (by show M.next + 8 < M.next + 11; omega)).trans how
  have hTa : Trn rs l.length 0 rt own M tok v own2 M2 tok2 v2 := (⟨by show M.next ≤ M.next + 11; omega, fun _ _ => rfl, fun q hq _ _ _ _ _ => low.out _ q hq, fun q n e => .inl ⟨n, e⟩, fun q e => .inl e⟩ : Trn rs l.length 0 rt own M tok v own ((⟨M.obj, M.next + 11⟩ : Mm).put M.next (.box [.sl 0 [] .exact, vint 0] 40)) tok v).trans hT2
  have hvw : ∀ n, v2 ≠ .gsl (M.next + 8) n 3 := fun n e => by
    rcases hT2.vn _ n e with ⟨n', e'⟩ | h9
    · obtain ⟨j, due, H, hs⟩ := hS0.out.nd
      have := (hs.vlt e').1; omega
    · have h8 : M.next + 11 ≤ M.next + 8 := h9; omega
  have hvf : ∀ n, v2 ≠ .gsl M.next n 3 := fun n e => by
    rcases hT2.vn _ n e with ⟨n', e'⟩ | h9
    · obtain ⟨j, due, H, hs⟩ := hS0.out.nd
      have := (hs.vlt e').1; omega
    · have h8 : M.next + 11 ≤ M.next := h9; omega
  have htw : ∀ q, M.next ≤ q → q < M.next + 11 → tok2 ≠ .own q := fun q h8 h7 e => by
    rcases hT2.tn q e with e' | h9
    · obtain ⟨j, due, H, hs⟩ := hS0.out.nd
      have := (hs.tlt e').1; omega
    · have h6 : M.next + 11 ≤ q := h9; omega
  have hold : (M.next ≠ tb ∧ M.next ≠ nq ∧ M.next ≠ rt) ∧ (M.next + 8 ≠ tb ∧ M.next + 8 ≠ nq ∧ M.next + 8 ≠ rt) ∧ (∀ y, y < l.length → M.next ≠ rs.getD y 0) ∧ ∀ y, y < l.length → M.next + 8 ≠ rs.getD y 0 := by
    obtain ⟨j, due, H, hs⟩ := hS0.out.nd
    have a1 := hS0.out.ls.ltt
    have a2 := hS0.out.ls.ltn
    have a3 := hs.lt
    exact ⟨⟨by omega, by omega, by omega⟩, ⟨by omega, by omega, by omega⟩, fun y hy => by have := hS0.out.ls.ltr y hy; omega, fun y hy => by have := hS0.out.ls.ltr y hy; omega⟩
  have putF : ∀ (Mx : Mm) a, LiS h l Gs tb nq rt rs own2 tok2 v2 Mx → LiS h l Gs tb nq rt rs own2 tok2 v2 (Mx.put M.next a) := fun Mx a hx => hx.put hof2 hold.1 hvf (htw _ (Nat.le_refl _) (by omega)) hold.2.2.1 a
  have putW : ∀ (Mx : Mm) a, LiS h l Gs tb nq rt rs own2 tok2 v2 Mx → LiS h l Gs tb nq rt rs own2 tok2 v2 (Mx.put (M.next + 8) a) := fun Mx a hx => hx.put how2 hold.2.1 hvw (htw _ (by omega) (by omega)) hold.2.2.2 a
  replace hTa := Hid.mk hTa
  replace hS2 := Hid.mk hS2
  replace putF := Hid.mk putF
  replace putW := Hid.mk putW
  replace hvw := Hid.mk hvw
  replace htw := Hid.mk htw
  clear GR GE hT2 hnf hvf
  have y1 : ¬ M.next = M.next + 8 := by omega
  have z2 : M.next < M2.next := by omega
  have z8 : M.next + 8 < M2.next := by omega
  by_cases hrl : r < (rtT h l Gs).length
  case neg =>
    rw [GtR, if_neg hrl] at hres
    subst hres
    replace hrl := Hid.mk hrl
    replace hold := Hid.mk hold
    clear o1
    repeat' (with_reducible first | refine x_ops ?_ | refine wk ?_ | ((first | refine gd1 ?_ ?_ | refine gd2 ?_ ?_ | refine gd3 ?_ ?_) <;> (first | exact @False.elim _ | intro hc)))
    refine ⟨.inr rfl, .tup [.agg [.sl 0 [] .exact, vint 0], vbool false], vv, ⟨own2, tok2, v2, ?_, ?_⟩, .inr ⟨hrl.out, rfl⟩⟩
    · repeat' (first | exact hS2.out | refine putF.out _ _ ?_ | refine putW.out _ _ ?_)
    · repeat' (first | exact hTa.out | refine Trn.put ?_ (by omega) _)
  obtain ⟨m, s, m1, m2, m3, m4⟩ := rt_at hl hrl
  have hfg : fgW h l Gs ((rtT h l Gs).getD r noW) = (grps Gs 0 (pth h l Gs 0 m s), ((rtT h l Gs).getD r noW).1) := by
    rw [fgW, m4]; simp only [Int.toNat_natCast]
  have hR : GtR (rtT h l Gs) r = .tup [.agg [vint ((rtT h l Gs).getD r noW).1, vint (m : Int), vint (s : Int)], vbool true] := by
    rw [GtR, if_pos hrl, m4]
  rw [hR] at hres
  subst hres
  have hPo : ∀ (Q : V → Mm → Prop), True := fun _ => trivial
  replace hfg := Hid.mk hfg
  generalize hT : grps Gs 0 (pth h l Gs 0 m s) = T at *
  generalize hw : (rtT h l Gs).getD r noW = w at *
  obtain ⟨cost, wm, ws⟩ := w
  dsimp only at m4
  replace hw := Hid.mk hw
  replace hT := Hid.mk hT
  replace hrl := Hid.mk hrl
  have z1 : tb < M2.next := hS2.out.ls.ltt
  have o2 := hS2.out.ls.tbo
  rw [hnet.out] at o2
  have x1 : ¬ tb = M.next + 8 := by omega
  replace hold := Hid.mk hold
  clear o1 m4 hR hPo
  repeat' (with_reducible first | refine x_ops ?_ | refine wk ?_ | ((first | refine gd1 ?_ ?_ | refine gd2 ?_ ?_ | refine gd3 ?_ ?_) <;> (first | exact @False.elim _ | intro hc)))
  refine x_genM (fun t M' => (t 0 = .ptr tb 0 ∧ t 4 = .ptr M.next 0 ∧ t 6 = .ptr (M.next + 8) 0 ∧ t 40 = vint l.length ∧ t 41 = vint 0) ∧ ∃ c x y, FgG h l Gs tb nq rt rs own tok v M M.next (M.next + 8) T cost 0 own2 tok2 v2 .exact [] c x y M')
    ⟨⟨vv, vv, vv, vv, vv⟩, cost, m, s, ⟨?_, ?_, ⟨Nat.le_refl _, ?_, hof2⟩, ⟨by omega, ?_, how2⟩, hvw.out, by omega, rfl, put_same _ _ _, .inl rfl, (fun q e => by cases e), ?_, fun _ => ⟨m, s, rfl, rfl, m1, m2, by omega, hT.out⟩, fun e => by omega⟩⟩ ?_
  · repeat' (first | exact hS2.out | refine putF.out _ _ ?_ | refine putW.out _ _ ?_)
  · repeat' (first | exact hTa.out | refine Trn.put ?_ (by omega) _)
  · exact z2
  · exact z8
  · exact (put_other _ _ (fun e => y1 e.symm)).trans (put_same _ _ _)
  rintro t0 M3 ⟨⟨a0, a4, a6, a40, a41⟩, c0, x0', y0', hs0⟩
  have hgM : M.next ≤ M.next := Nat.le_refl _
  refine x_loopW w_hand_lister_fingering_b_p9 kr l.length (fun i t M' => t 41 = vint (i : Int) ∧ ∃ own4 tok4 v4 tf G c x y, FgG h l Gs tb nq rt rs own tok v M M.next (M.next + 8) T cost i own4 tok4 v4 tf G c x y M') ⟨a41, own2, tok2, v2, .exact, [], c0, x0', y0', hs0⟩ ?_
  clear a41 hs0 of o2 z1 p1' hS2 hTa putF putW hvw htw hold hof2 how2 hof how
  rintro i t M4 hi ⟨h41, own4, tok4, v4, tf, G, c, x, y, hs⟩
  have f1 := hs.f
  have z2 := hs.fo.2.1
  have z3 := hs.wo.2.1
  have hgl := hs.gl
  have hs1 := Hid.mk hs
  by_cases hil : i < l.length
  case neg =>
    have hie : i = l.length := by omega
    subst hie
    have c1 : ¬ (l.length : Int) < (l.length : Int) := by omega
    have hGT := hs.e rfl
    subst hGT
    have hput : ∀ a, LiS h l Gs tb nq rt rs own4 tok4 v4 (M4.put M.next a) := fun a => hs.st.putB hs.f hs.fo.2.2 ⟨by decide, by decide, by decide, by decide⟩ (fun n e => by obtain ⟨j, due, H, hsn⟩ := hs.st.nd; obtain ⟨_, _, cs, h9⟩ := hsn.vlt e; exact ne_type hs.f h9 (by decide) rfl) a
    have htr := hs.tr
    replace hput := Hid.mk hput
    replace htr := Hid.mk htr
    replace hgl := Hid.mk hgl
    clear hs hil hi
    repeat' (with_reducible first | refine x_ops ?_ | refine wk ?_ | ((first | refine gd1 ?_ ?_ | refine gd2 ?_ ?_ | refine gd3 ?_ ?_) <;> (first | exact @False.elim _ | intro hc)))
    refine ⟨.inr rfl, .tup [.agg [.sl l.length (G.flatMap Grip.cells) tf, vint cost], vbool true], vw, ⟨own4, tok4, v4, hput.out _, htr.out.put (Nat.le_refl _) _⟩, .inl ⟨hrl.out, tf, ?_⟩⟩
    rw [hw.out, hfg.out, hgl.out]
  have c1 : (i : Int) < (l.length : Int) := by omega
  have w1 := w_add1 (k := i) (by omega)
  obtain ⟨k, ra, rfl, rfl, hkl, hra, hrb, hGp⟩ := hs.p hil
  have c2 : (k : Int) < ((Gs.getD i []).length : Int) := by omega
  have gle := gl.out
  have r1 := gss_at' (l := Gs) (k := i) (by omega)
  have r2 := gs_take hkl
  have r3 := gs_len (Gs.getD i [])
  have c3 : k * 2 + 2 ≤ (Gs.getD i []).length * 2 := by omega
  have hg := hn.out.grip hil hkl
  have hfl : ((Gs.getD i []).getD k noG).fingers.length ≤ 14 := by rw [hg.2]; exact chord_len (hn.out.seq i hil).1
  have CL := clone_fn ((Gs.getD i []).getD k noG).fingers (by omega)
  have o1 := hs.st.ls.tbo
  rw [hnet.out] at o1
  have z1 := hs.st.ls.ltt
  have g1 := hs.w
  have f2 := hs.ap
  have x2 : ∀ q j, q < M4.next → (q < M4.next + j) = True := fun q j hq => by simp; omega
  have x3 : ∀ q j, q < M4.next → (q = M4.next + j) = False := fun q j hq => by simp; omega
  have x4 : ∀ q j, q < M4.next → (M4.next + j = q) = False := fun q j hq => by simp; omega
  have hgcl := gs_len G
  rw [hgl] at hgcl
  replace hgl := Hid.mk hgl
  replace hGp := Hid.mk hGp
  replace hfl := Hid.mk hfl
  replace hg := Hid.mk hg
  replace hgcl := Hid.mk hgcl
  clear hs
  repeat' (with_reducible first | refine x_ops ?_ | refine wk ?_ | (with_reducible refine xc (CL) ?_) | ((first | refine gd1 ?_ ?_ | refine gd2 ?_ ?_ | refine gd3 ?_ ?_) <;> (first | exact @False.elim _ | intro hc)))
  refine x_appg (n := i) (xs := G.flatMap Grip.cells) (ys := Grip.cells ((Gs.getD i []).getD k noG)) (k := tf) (k2 := .exact) vw (by unfold Grip.cells; exact vw) (f2.mono (fun q hq _ => (put_other _ _ (by omega)).trans (put_other _ _ (by omega))) (by show M4.next ≤ M4.next + 28; omega)) hgcl.out rfl (by omega) (by unfold Go.maxLen; omega) (by show M4.next + 25 < M4.next + 28; omega) ?_
  intro tok' m5 hap' htk' hn' hobj
  replace hn' : m5.next = M4.next + 28 := hn'
  have hfo := hs1.out.fo
  have hwo := hs1.out.wo
  have hao := hs1.out.ao
  have lo : ∀ q, q < M4.next → tf ≠ .own q → m5.obj q = M4.obj q := fun q hq hne => (hobj q (by show ¬ q = M4.next + 25; omega) hne).trans ((put_other _ _ (by omega)).trans (put_other _ _ (by omega)))
  have hS5 : LiS h l Gs tb nq rt rs own4 tok4 v4 m5 := hs1.out.st.keep (by omega) fun q hq hqc => lo q hq (fun e => by
    obtain ⟨_, e2⟩ := f2.elim (fun h => by rw [h] at e; cases e) (fun h => h)
    obtain ⟨e3, _, e4⟩ := e2
    rw [e3] at e; injection e with e; subst e
    have hnr := hs1.out.st.nr e4 (by decide)
    rcases hqc with h5 | h5 | h5 | h5 | ⟨n, h5⟩ | h5 | ⟨y, hy, h5⟩
    · exact h5 (hao _ e3).2
    · rw [h5, hs1.out.st.ls.tbo] at e4; cases e4
    · rw [h5, hs1.out.st.ls.nqo] at e4; cases e4
    · exact hnr.1 h5
    · exact hnr.2.1 n h5
    · exact hnr.2.2.1 h5
    · exact hnr.2.2.2 y (Nat.zero_le _) hy h5)
  have q1 := (lo _ z2 (apbT_box f2 f1)).trans f1
  have q2 := (lo _ z3 (apbT_box f2 g1)).trans g1
  have q3 := (lo _ z1 (apbT_box f2 hs1.out.st.ls.tbo)).trans o1
  have l5 : M.next < m5.next := by omega
  have l6 : M.next + 8 < m5.next := by omega
  have y2 : ¬ M.next + 8 = M.next := by omega
  have y3 : ¬ M.next = M.next + 8 := by omega
  have nb1 : tb ≠ M.next := by omega
  have hvf : ∀ n, v4 ≠ .gsl M.next n 3 := fun n e => by obtain ⟨j, due, H, hsn⟩ := hs1.out.st.nd; obtain ⟨_, _, cs, h9⟩ := hsn.vlt e; exact ne_type f1 h9 (by decide) rfl
  have hS5p : LiS h l Gs tb nq rt rs own4 tok4 v4 (m5.put M.next (.box [.sl (i + 1) (G.flatMap Grip.cells ++ Grip.cells ((Gs.getD i []).getD k noG)) tok', vint cost] 40)) := hS5.putB q1 hfo.2.2 ⟨by decide, by decide, by decide, by decide⟩ hvf _
  have hLi := hS5p.ls.keep (Nat.zero_le i) (Nat.le_refl _) (fun _ _ => rfl) hS5p.ls.cl rfl rfl (fun _ _ _ => rfl) fun _ _ _ _ _ _ => rfl
  have GS := get_all hn.out tb nq rt rs _ i rfl hil k ra own4 _ hkl hrb hLi
  have GE := gpPost_ex (tb := tb) (nq := nq) (rt := rt) (tl h l Gs i k) ra hLi
  have hap5 : Apb m5 tok' (i + 1) 53 2 := hap'
  have hao5 : ∀ q, tok' = .own q → M.next ≤ q ∧ own4 q = none := fun q e => (htk' q e).elim (hao q) fun h => by
    have h9 : q = M4.next + 25 := h
    subst h9
    exact ⟨by omega, hs1.out.st.ls.cl _ (by omega)⟩
  replace hap5 := Hid.mk hap5
  replace hn' := Hid.mk hn'
  replace hS5 := Hid.mk hS5
  replace hS5p := Hid.mk hS5p
  replace lo := Hid.mk lo
  replace hao5 := Hid.mk hao5
  clear hobj htk' hap' hLi f1 f2 g1 o1 CL r1 r2 r3 x2 x3 x4 hao
  unfold Grip.cells at GS GE
  repeat' (with_reducible first | refine x_ops ?_ | refine wk ?_ | ((first | refine gd1 ?_ ?_ | refine gd2 ?_ ?_ | refine gd3 ?_ ?_) <;> (first | exact @False.elim _ | intro hc)))
  refine x_scallR [.ptr tb 0, vint i, vint (k : Int), vint (ra : Int)] vw (by ((refine ve ?_; try exact True.intro)); exact GS) (by ((refine ve ?_; try exact True.intro)); exact GE) ?_
  rintro res M6 hp6
  have hres := hp6.1
  obtain ⟨own6, hS6, hT6⟩ := li_get hS5p.out hp6
  rw [GtR, if_pos hra] at hres
  subst hres
  have p0 := hT6.nx
  have p0' : m5.next ≤ M6.next := p0
  have e6 := hS5p.out.box hT6 (show M.next < m5.next from l5) (put_same _ _ _) hfo.2.2 ⟨by decide, by decide⟩ hvf
  have e8 := hS5p.out.box hT6 (show M.next + 8 < m5.next from l6) ((put_other _ _ y2).trans q2) hwo.2.2 ⟨by decide, by decide⟩ hs1.out.vw
  have hof6 : own6 M.next = none := (hT6.ow _ l5).trans hfo.2.2
  have how6 : own6 (M.next + 8) = none := (hT6.ow _ l6).trans hwo.2.2
  have ap6 : Apb M6 tok' (i + 1) 53 2 := by
    rcases hap5.out with h1 | ⟨tr, h1, h2, h3⟩
    · exact .inl h1
    · have h3' : (m5.put M.next (.box [.sl (i + 1) (G.flatMap Grip.cells ++ Grip.cells ((Gs.getD i []).getD k noG)) tok', vint cost] 40)).obj tr = some (.row (i + 1) 53 2) := (put_other _ _ (fun e => by subst e; rw [q1] at h3; cases h3)).trans h3
      have hnr := hS5p.out.nr h3' (by decide)
      exact .inr ⟨tr, h1, Nat.lt_of_lt_of_le h2 p0', (hT6.fr tr h2 hnr.1 hnr.2.1 hnr.2.2.1 (fun y k e => by rw [(hao5.out tr h1).2] at e; cases e) hnr.2.2.2).trans h3'⟩
  have ao6 : ∀ q, tok' = .own q → M.next ≤ q ∧ own6 q = none := fun q e => ⟨(hao5.out q e).1, by
    rcases hap5.out with h1 | ⟨tr, h1, h2, _⟩
    · rw [h1] at e; cases e
    · rw [h1] at e; injection e with e; subst e; exact (hT6.ow _ h2).trans (hao5.out _ h1).2⟩
  have hT5 : Trn rs l.length 0 rt own M tok v own4 (m5.put M.next (.box [.sl (i + 1) (G.flatMap Grip.cells ++ Grip.cells ((Gs.getD i []).getD k noG)) tok', vint cost] 40)) tok4 v4 := by
    have ht := hs1.out.tr
    refine ⟨by have := ht.nx; have := hn'.out; show M.next ≤ m5.next; omega, ht.ow, fun q hq h1 h2 h3 h5 h6 => ?_, ht.vn, ht.tn⟩
    exact (put_other _ _ (by omega)).trans ((lo.out q (by omega) (fun e => by have := (hs1.out.ao q e).1; omega)).trans (ht.fr q hq h1 h2 h3 h5 h6))
  have hT7 := hT5.trans hT6
  have hS7 := hS6.putB e8 how6 ⟨by decide, by decide, by decide, by decide⟩ hs1.out.vw (.box [vint ((tl h l Gs i k).getD ra noW).1, vint ((tl h l Gs i k).getD ra noW).2.1, vint ((tl h l Gs i k).getD ra noW).2.2] 154)
  have hnext : i + 1 < l.length → ∃ k' r' : Nat, ((tl h l Gs i k).getD ra noW).2.1 = k' ∧ ((tl h l Gs i k).getD ra noW).2.2 = r' ∧ k' < (Gs.getD (i + 1) []).length ∧ r' < (tl h l Gs (i + 1) k').length ∧ r' ≤ 100 ∧ (G ++ [grp Gs i k]) ++ grps Gs (i + 1) (pth h l Gs (i + 1) k' r') = T := fun hi1 => by
    obtain ⟨m', s', h5, h6, h7⟩ := tl_at hn.out hi1 hkl hra
    have h8 := tl_rank hi1 hra
    rw [h7] at h8 ⊢
    refine ⟨m', s', rfl, rfl, h5, h6, by dsimp only at h8; omega, ?_⟩
    have h9 := hGp.out
    rw [pth_s hi1, h7] at h9
    simp only [Int.toNat_natCast] at h9
    rw [← h9, grps, List.append_assoc]; rfl
  have hlast : i + 1 = l.length → G ++ [grp Gs i k] = T := fun e => by
    have h9 := hGp.out
    rw [pth_last e] at h9
    exact h9
  have l7 : M.next + 8 < M6.next := by omega
  generalize (tl h l Gs i k).getD ra noW = w2 at *
  obtain ⟨wc2, wn2, wr2⟩ := w2
  dsimp only at *
  replace hnext := Hid.mk hnext
  replace hlast := Hid.mk hlast
  replace hS7 := Hid.mk hS7
  replace hT7 := Hid.mk hT7
  replace e6 := Hid.mk e6
  have hvw4 := Hid.mk hs1.out.vw
  clear GS GE hp6 hT6 hS6 hT5 q1 q2 q3 l5 l6 p0
  repeat' (with_reducible first | refine x_ops ?_ | refine wk ?_ | ((first | refine gd1 ?_ ?_ | refine gd2 ?_ ?_ | refine gd3 ?_ ?_) <;> (first | exact @False.elim _ | intro hc)))
  refine nx hil ⟨vv, own6, tok4, v4, tok', G ++ [grp Gs i k], wc2, wn2, wr2, ⟨hS7.out, hT7.out.put (by omega) _, ⟨Nat.le_refl _, by show M.next < M6.next; omega, hof6⟩, ⟨by omega, l7, how6⟩, hvw4.out, y3, by rw [List.length_append, hgl.out]; rfl, ?_, Apb.put ap6 e8, ao6, put_same _ _ _, hnext.out, hlast.out⟩⟩
  refine (put_other _ _ y3).trans (e6.out.trans ?_)
  rw [List.flatMap_append, List.flatMap_singleton]; rfl
end Go.Proofs.Ytojjdkoglhecbaa
namespace Go.Proofs.Ytojjdkoglhecbaa
open Go.RowKit
set_option maxRecDepth 100000

abbrev c_hand_List_p1 : VC := (.seq (.ops 0 [oo 21 .mv [.t 7], oo 6 .mv [(.c (.sl 0 [] .exact))], oo 7 .mv [.t 21]]) .ret)
abbrev c_hand_List_p2 : VC := (.seq (.ops 0 [oo 6 .mv [(.c (.sl 0 [] .exact))], oo 7 .mv [kk 1]]) .ret)
abbrev c_hand_List_p3 : VC := (.ops 5 [oo 39 .mv [.t 6], oo 40 (.ldA 2) [.t 11], ⟨(some 41), none, (.mksl 1 2 [(.sl 0 [] .exact), li 0] [(0, 2)]), [.t 40], none⟩, oo 42 (.app 40 2 32) [.t 39, .t 41], oo 6 .mv [.t 42]])
abbrev c_hand_List_p4 : VC := (.seq (.seq (.ops 0 [oo 37 .mv [.t 12], oo 38 (.un .not) [.t 37]]) (.cond (.t 38) (.exit 0) .skip)) c_hand_List_p3)
abbrev c_hand_List_p5 : VC := (.seq (.ops 9 [oo 32 .mv [.t 9], oo 33 .mv [.t 10], oo 34 (.call 75) [.t 32, .t 33], oo 31 .mv [.t 34], oo 35 (.ext 0) [.t 31], oo 36 (.ext 1) [.t 31], ⟨(some 11), none, (.alloc 40 [(.sl 0 [] .exact), li 0]), [], none⟩, ⟨none, none, (.st 2), [.t 11, .t 35], none⟩, oo 12 .mv [.t 36]]) c_hand_List_p4)
abbrev c_hand_List_p6 : VC := (.ops 0 [oo 43 (.bin .add) [.t 28, kk 1], oo 28 .mv [.t 43]])
abbrev c_hand_List_p7 : VC := (.seq (.block 1 (.seq (.ops 0 [oo 30 .mv [.t 28], oo 10 .mv [.t 30]]) c_hand_List_p5)) c_hand_List_p6)
abbrev c_hand_List_p8 : VC := (.seq (.ops 0 [oo 29 (.bin .lss) [.t 28, .t 27]]) (.seq (.cond (.t 29) .skip (.exit 0)) c_hand_List_p7))
@[go_sem] abbrev w_hand_List_p8 : Nat := 17591917616192
abbrev c_hand_List_p10 : VC := (.seq (.ops 0 [oo 6 .mv [(.c (.sl 0 [] .exact))], oo 7 .mv [kk 62]]) .ret)
abbrev c_hand_List_p11 : VC := (.seq (.ops 0 [oo 47 .mv [.t 6], oo 6 .mv [.t 47], oo 7 .mv [kk 0]]) .ret)
def c_hand_List_p12 : VC := (.seq (.seq (.ops 0 [oo 44 .mv [.t 6], oo 45 .len [.t 44], oo 46 (.bin .eql) [.t 45, kk 0]]) (.cond (.t 46) c_hand_List_p10 .skip)) c_hand_List_p11)
def c_hand_List_p13 : VC := (.seq (.seq (.ops 0 [oo 27 .mv [.t 2], oo 28 .mv [kk 0]]) (.block 0 (.loop c_hand_List_p8))) c_hand_List_p12)
abbrev c_hand_List_p14 : VC := (.seq (.ops 0 [oo 25 .mv [.t 8], oo 26 (.call 74) [.t 25], oo 9 .mv [.t 26]]) c_hand_List_p13)
abbrev c_hand_List_p15 : VC := (.seq (.seq (.ops 0 [oo 22 .mv [.t 2], oo 23 (.call 63) [.t 22, kk 1, kk 64], oo 24 (.un .not) [.t 23]]) (.cond (.t 24) c_hand_List_p2 .skip)) c_hand_List_p14)
abbrev c_hand_List_p16 : VC := (.seq (.seq (.ops 0 [oo 19 .mv [.t 7], oo 20 (.bin .neq) [.t 19, kk 0]]) (.cond (.t 20) c_hand_List_p1 .skip)) c_hand_List_p15)
abbrev c_hand_List_p17 : VC := (.seq (.ops 0 [oo 14 (.ldA 10) [.t 3], oo 15 .mv [.t 1], oo 16 (.call 69) [.t 14, .t 15], oo 13 .mv [.t 16], oo 17 (.ext 0) [.t 13], oo 18 (.ext 1) [.t 13], oo 8 .mv [.t 17], oo 7 .mv [.t 18]]) c_hand_List_p16)
def c_hand_List : VC := (.seq (.ops 3 [oo 3 (.box 25) [.t 0], oo 6 .mv [(.c (.sl 0 [] .exact))], oo 7 .mv [kk 0]]) c_hand_List_p17)
theorem k_hand_List : Comp Try.prog nobx gtab 37 48 c_hand_List [.t 6, .t 7] := ⟨⟨Try.f37, _, Try.func37, rfl, rfl, kr, kr⟩⟩
end Go.Proofs.Ytojjdkoglhecbaa
namespace Go.Proofs.Ytojjdkoglhecbaa
open Go.RowKit

/-- A new lister. -/
theorem li_new {h : Hand} {l : List Chord} {Gs : List (List Grip)} (hn : NetOk h l Gs) (hl : 0 < l.length) {m M : Mm} {r : V} (hP : LsPost h l Gs m r M) : ∃ tb nq rt rs v, r = .ptr tb 0 ∧ LiS h l Gs tb nq rt rs (fun _ => none) .exact v M := by
  obtain ⟨_, _, tb, nq, rt, rs, rfl, _, _, hL⟩ := hP
  obtain ⟨hLs, ⟨_, l2⟩, v, H, q1, q2, q3, q4⟩ := hL hl
  refine ⟨tb, nq, rt, rs, v, rfl, ⟨hLs.tbo, hLs.nqo, fun y hy hyl => ⟨_, hLs.row y hy hyl, nilR_len _, fun k hk => ⟨_, nilR_at hk, .inl rfl⟩⟩, hLs.inj, hLs.ltt, hLs.ltn, hLs.ltr, rfl, rfl, fun _ _ => rfl, fun _ _ => rfl⟩, 0, false, H, ⟨q1, l2, rfl, q2, q3, bag_perm (bag_root hn hl) q4, fun _ _ _ => rfl, .inl rfl, fun q e => by cases e⟩⟩

set_option maxHeartbeats 2000000 in
theorem fing0_sfn {h : Hand} {l : List Chord} {Gs : List (List Grip)} (hl0 : l.length = 0) {M : Mm} {tb rt : Nat} {nv : V} (o1 : M.obj tb = some (.box [netE h l Gs, nv, .ptr rt 0] 162)) (l1 : tb < M.next) (r : Nat) :
    SFn Try.prog Gd 75 [.ptr tb 0, vint r] M (fun res M' => res = .tup [.agg [.sl 0 [] .exact, vint 0], vbool ((r : Int) == 0)] ∧ M.next ≤ M'.next ∧ ∀ q, q < M.next → M'.obj q = M.obj q) := by
  refine SFn.of_vxS k_hand_lister_fingering_b (by simp) ?_
  have x0 : ¬ tb = M.next := by omega
  have hnet : netE h l Gs = .ept [.sl h.low.length (h.low.map vint) .no, .sl h.high.length (h.high.map vint) .no, .sl h.barre.length (h.barre.map vbool) .no, .lit (.int .i64 h.top), .lit (.int .i64 h.jump), .lit (.int .i64 h.shift), .lit (.int .i64 h.lift), .lit (.int .i64 h.bar), .lit (.int .i64 h.stretch), .lit (.int .i64 h.slide),
    .sl l.length (l.flatMap Chord.cells) .no, .sl Gs.length (Gs.map tGs) .no, .sl (owA h l Gs).length ((owA h l Gs).map tIs) .no, .sl (rsA h l Gs).length ((rsA h l Gs).map tIs) .no] 0 := rfl
  rw [hnet] at o1
  have e1 : ((l.length : Int) == 0) = true := by rw [beq_iff_eq]; omega
  unfold c_hand_lister_fingering_b
  clear hl0 hnet
  repeat' (with_reducible first | refine x_ops ?_ | refine wk ?_ | ((first | refine gd1 ?_ ?_ | refine gd2 ?_ ?_ | refine gd3 ?_ ?_) <;> (first | exact @False.elim _ | intro hc)))
  exact ⟨.inr rfl, .tup [.agg [.sl 0 [] .exact, vint 0], vbool ((r : Int) == 0)], vv, rfl, by show M.next ≤ M.next + 2; omega, fun q hq => (put_other _ _ (by omega)).trans (put_other _ _ (by omega))⟩

/-- What List answers, of both. -/
noncomputable def lsR (h : Hand) (l : List Chord) (most : Int) : List (List Grip × Int) × Int :=
  if wvE h l = 0 then (if 1 ≤ most ∧ most ≤ 64 then (if fgL h l (tabG h l) most.toNat = [] then ([], 62) else (fgL h l (tabG h l) most.toNat, 0)) else ([], 1)) else ([], wvE h l)
theorem fgL_len {h : Hand} {l : List Chord} {Gs : List (List Grip)} (q : Nat) (hl : 0 < l.length) : (fgL h l Gs q).length = min q (rtT h l Gs).length := by rw [fgL, if_neg (by omega), List.length_map, List.length_take]
theorem fgL_take {h : Hand} {l : List Chord} {Gs : List (List Grip)} {q k : Nat} (hl : 0 < l.length) (hk : k < q) (hr : k < (rtT h l Gs).length) : (fgL h l Gs q).take (k + 1) = (fgL h l Gs q).take k ++ [fgW h l Gs ((rtT h l Gs).getD k noW)] := by
  rw [fgL, if_neg (by omega), List.take_add_one, List.getElem?_map, List.getElem?_take, if_pos hk, List.getD_eq_getElem?_getD, List.getElem?_eq_getElem hr]; rfl
theorem fgC_lG (f : List Grip × Int) : (fgC f).length = 2 := rfl

set_option maxHeartbeats 4000000 in
/-- The loop of List, where there are chords. -/
theorem List_loop {h : Hand} {l : List Chord} {Gs : List (List Grip)} (hn : NetOk h l Gs) (hl : 0 < l.length) {q : Nat} (hq : 1 ≤ q ∧ q ≤ 64) {tb nq rt : Nat} {rs : List Nat} {v : V} {M : Mm} (hS : LiS h l Gs tb nq rt rs (fun _ => none) .exact v M) {t : Nat → V}
    (s2 : t 2 = vint q) (s6 : t 6 = .sl 0 [] .exact) (s7 : t 7 = vint 0) (s9 : t 9 = .ptr tb 0) :
    (c_hand_List_p13).vx Try.prog Gd (FinV [.t 6, .t 7] (.tup [tFs (fgL h l Gs q), vint (if fgL h l Gs q = [] then 62 else 0)])) ⟨t, M⟩ := by
  have FG := fun (k : Nat) (hk : k ≤ 100) own tok v M (hS : LiS h l Gs tb nq rt rs own tok v M) => fingG_sfn hn hl hS hk
  have hlen := fgL_len (h := h) (l := l) (Gs := Gs) q hl
  have htk := fun k => fgL_take (h := h) (l := l) (Gs := Gs) (q := q) (k := k) hl
  replace hn := Hid.mk hn
  unfold c_hand_List_p13
  repeat' (with_reducible first | refine x_ops ?_ | refine wk ?_ | ((first | refine gd1 ?_ ?_ | refine gd2 ?_ ?_ | refine gd3 ?_ ?_) <;> (first | exact @False.elim _ | intro hc)))
  have fin : ∀ (t' : Nat → V) (M' : Mm) (k : Nat) (tf : Tok), t' 6 = .sl k (((fgL h l Gs q).take k).flatMap fgC) tf → k = (fgL h l Gs q).length → (c_hand_List_p12).vx Try.prog Gd (FinV [.t 6, .t 7] (.tup [tFs (fgL h l Gs q), vint (if fgL h l Gs q = [] then 62 else 0)])) ⟨t', M'⟩ := by
    intro t' M' k tf f6 hk
    rw [hk, List.take_length] at f6
    generalize fgL h l Gs q = F at *
    unfold c_hand_List_p12 tFs
    by_cases hF : F = []
    · subst hF
      rw [if_pos rfl]
      have e1 : (((([] : List (List Grip × Int)).length : Nat) : Int) == 0) = true := rfl
      clear hlen htk FG hk
      repeat' (with_reducible first | refine x_ops ?_ | refine wk ?_ | ((first | refine gd1 ?_ ?_ | refine gd2 ?_ ?_ | refine gd3 ?_ ?_) <;> (first | exact @False.elim _ | intro hc)))
      exact finV_ret vw (.tup (.cons (.sl _ _ _) (.cons (.lit _) .nil)))
    · rw [if_neg hF]
      have e1 : (((F.length : Nat) : Int) == 0) = false := by
        rw [beq_eq_false_iff_ne]; have := List.length_pos_iff.2 hF; omega
      clear hlen htk FG hk hF
      repeat' (with_reducible first | refine x_ops ?_ | refine wk ?_ | ((first | refine gd1 ?_ ?_ | refine gd2 ?_ ?_ | refine gd3 ?_ ?_) <;> (first | exact @False.elim _ | intro hc)))
      exact finV_ret vw (.tup (.cons (.sl _ _ _) (.cons (.lit _) .nil)))
  replace fin := Hid.mk fin
  replace FG := Hid.mk FG
  replace htk := Hid.mk htk
  refine x_loopW w_hand_List_p8 kr q (fun k t M => t 28 = vint (k : Int) ∧ k ≤ (rtT h l Gs).length ∧ ∃ own tok v tf, LiS h l Gs tb nq rt rs own tok v M ∧ t 6 = .sl k (((fgL h l Gs q).take k).flatMap fgC) tf ∧ Apb M tf k 40 2 ∧ ∀ b, tf = .own b → own b = none) ⟨vv, Nat.zero_le _, _, _, v, .exact, hS, s6, .inl rfl, fun b e => by cases e⟩ ?_
  clear hS s6
  rintro k t1 M1 hk ⟨h28, hkl, own, tok, v1, tf, hS, h6, hap, hao⟩
  by_cases hkq : k < q
  case neg =>
    have hke : k = q := by omega
    subst hke
    have c1 : ¬ (k : Int) < (k : Int) := by omega
    replace hap := Hid.mk hap
    clear hkq hk hao
    repeat' (with_reducible first | refine x_ops ?_ | refine wk ?_ | ((first | refine gd1 ?_ ?_ | refine gd2 ?_ ?_ | refine gd3 ?_ ?_) <;> (first | exact @False.elim _ | intro hc)))
    refine fin.out _ _ k tf ?_ (by rw [hlen]; omega)
    exact vw
  have c1 : (k : Int) < (q : Int) := by omega
  have hSc := hS.up (M' := ⟨M1.obj, M1.next + 9⟩) (Nat.le_add_right _ _) fun _ _ => rfl
  have F1 := FG.out k (by omega) own tok v1 _ hSc
  have F2 := fgPostG_ex k hSc
  have hS0 := Hid.mk hS
  have hkq0 := Hid.mk hkq
  clear hS hkq hk
  repeat' (with_reducible first | refine x_ops ?_ | refine wk ?_ | ((first | refine gd1 ?_ ?_ | refine gd2 ?_ ?_ | refine gd3 ?_ ?_) <;> (first | exact @False.elim _ | intro hc)))
  refine x_scallR [.ptr tb 0, vint (k : Int)] vw F1 F2 ?_
  rintro res M2 ⟨⟨own2, tok2, v2, hS2, hT2⟩, hres⟩
  have hn2 : M1.next + 9 ≤ M2.next := hT2.nx
  have hxb : own2 (M1.next + 6) = none := (hT2.ow _ (by show M1.next + 6 < M1.next + 9; omega)).trans (hS0.out.ls.cl _ (by omega))
  have hap2 : Apb M2 tf k 40 2 := by
    rcases hap with h1 | ⟨tr, h1, h2, h3⟩
    · exact .inl h1
    · have hnr := hSc.nr (q := tr) h3 (by decide)
      exact .inr ⟨tr, h1, by omega, (hT2.fr tr (by show tr < M1.next + 9; omega) hnr.1 hnr.2.1 hnr.2.2.1 (fun y k e => by rw [hao tr h1] at e; cases e) hnr.2.2.2).trans h3⟩
  have hao2 : ∀ b, tf = .own b → own2 b = none := fun b e => by
    rcases hap with h1 | ⟨tr, h1, h2, h3⟩
    · rw [h1] at e; cases e
    · rw [h1] at e; injection e with e; subst e; exact (hT2.ow _ (by show tr < M1.next + 9; omega)).trans (hao _ h1)
  have htl : ∀ b, tf = .own b → b < M1.next := fun b e => by
    rcases hap with h1 | ⟨tr, h1, h2, h3⟩
    · rw [h1] at e; cases e
    · rw [h1] at e; injection e with e; subst e; exact h2
  have hx6 : M1.next + 6 < M2.next := by omega
  have hnv : ∀ n, v2 ≠ .gsl (M1.next + 6) n 3 := fun n e => by
    rcases hT2.vn _ n e with ⟨n', e'⟩ | h9
    · obtain ⟨j, due, H, hs⟩ := hS0.out.nd
      have := (hs.vlt e').1; omega
    · have h8 : M1.next + 9 ≤ M1.next + 6 := h9; omega
  have hnt : tok2 ≠ .own (M1.next + 6) := fun e => by
    rcases hT2.tn _ e with e' | h9
    · obtain ⟨j, due, H, hs⟩ := hS0.out.nd
      have := (hs.tlt e').1; omega
    · have h8 : M1.next + 9 ≤ M1.next + 6 := h9; omega
  have hS2p : ∀ a, LiS h l Gs tb nq rt rs own2 tok2 v2 (M2.put (M1.next + 6) a) := fun a => by
    obtain ⟨j, due, H, hs⟩ := hS0.out.nd
    have a1 := hS0.out.ls.ltt
    have a2 := hS0.out.ls.ltn
    have a3 := hs.lt
    exact hS2.put hxb ⟨by omega, by omega, by omega⟩ hnv hnt (fun y hy => by have := hS0.out.ls.ltr y hy; omega) a
  have hS2pp : ∀ a b, LiS h l Gs tb nq rt rs own2 tok2 v2 ((M2.put (M1.next + 6) a).put (M1.next + 6) b) := fun a b => by
    obtain ⟨j, due, H, hs⟩ := hS0.out.nd
    have a1 := hS0.out.ls.ltt
    have a2 := hS0.out.ls.ltn
    have a3 := hs.lt
    exact (hS2p a).put hxb ⟨by omega, by omega, by omega⟩ hnv hnt (fun y hy => by have := hS0.out.ls.ltr y hy; omega) b
  have hrw : ∀ (Mx : Mm), LiS h l Gs tb nq rt rs own2 tok2 v2 Mx → Apb Mx tf k 40 2 → ∀ (My : Mm), Mx.next ≤ My.next → (∀ b, b < Mx.next → tf ≠ .own b → My.obj b = Mx.obj b) → LiS h l Gs tb nq rt rs own2 tok2 v2 My := fun Mx hx hax My hn1 hf => hx.keep hn1 fun b hb hbc => hf b hb (fun e => by
    rcases hax with h1 | ⟨tr, h1, h2, h3⟩
    · rw [h1] at e; cases e
    · rw [h1] at e; injection e with e; subst e
      have hnr := hx.nr h3 (by decide)
      rcases hbc with h5 | h5 | h5 | h5 | ⟨n, h5⟩ | h5 | ⟨y, hy, h5⟩
      · exact h5 (hao2 _ h1)
      · rw [h5, hx.ls.tbo] at h3; cases h3
      · rw [h5, hx.ls.nqo] at h3; cases h3
      · exact hnr.1 h5
      · exact hnr.2.1 n h5
      · exact hnr.2.2.1 h5
      · exact hnr.2.2.2 y (Nat.zero_le _) hy h5)
  replace hrw := Hid.mk hrw
  replace hS2pp := Hid.mk hS2pp
  replace htl := Hid.mk htl
  clear hS2p hnv hnt
  have w1 := w_add1 (k := k) (by have := hkq0.out; omega)
  replace hT2 := Hid.mk hT2
  replace hS2 := Hid.mk hS2
  replace hap2 := Hid.mk hap2
  replace hao2 := Hid.mk hao2
  clear F1 F2 hap hao
  rcases hres with ⟨hkr, t9, rfl⟩ | ⟨hkr, rfl⟩
  case inr =>
    have hke : k = (fgL h l Gs q).length := by rw [hlen]; have := hkq0.out; omega
    replace hke := Hid.mk hke
    repeat' (with_reducible first | refine x_ops ?_ | refine wk ?_ | ((first | refine gd1 ?_ ?_ | refine gd2 ?_ ?_ | refine gd3 ?_ ?_) <;> (first | exact @False.elim _ | intro hc)))
    refine fin.out _ _ k tf ?_ hke.out
    exact vw
  have ht := htk.out k hkq0.out hkr
  have hxl : (((fgL h l Gs q).take k).flatMap fgC).length = k * 2 := by
    rw [flat_len fgC_lG, List.length_take, hlen]; have := hkq0.out; omega
  generalize fgW h l Gs ((rtT h l Gs).getD k noW) = f at *
  obtain ⟨G, c⟩ := f
  replace ht := Hid.mk ht
  replace hxl := Hid.mk hxl
  dsimp only
  repeat' (with_reducible first | refine x_ops ?_ | refine wk ?_ | ((first | refine gd1 ?_ ?_ | refine gd2 ?_ ?_ | refine gd3 ?_ ?_) <;> (first | exact @False.elim _ | intro hc)))
  have hap3 : ∀ a b, Apb ((M2.put (M1.next + 6) a).put (M1.next + 6) b) tf k 40 2 := fun a b => by
    rcases hap2.out with h1 | ⟨tr, h1, h2, h3⟩
    · exact .inl h1
    · have := htl.out tr h1
      exact .inr ⟨tr, h1, h2, (put_other _ _ (by omega)).trans ((put_other _ _ (by omega)).trans h3)⟩
  refine x_appg (n := k) (xs := ((fgL h l Gs q).take k).flatMap fgC) (ys := [.sl G.length (G.flatMap Grip.cells) .no, vint c]) (k := tf) vw vw ((hap3 _ _).mono (fun _ _ _ => rfl) (Nat.le_add_right _ _)) hxl.out rfl (by have := hkq0.out; omega) (by have := hkq0.out; unfold Go.maxLen; omega) (by show M2.next + 3 < M2.next + 5; omega) ?_
  intro tf3 M3 hap4 htf3 hn3 hf3
  have hn3' : M3.next = M2.next + 5 := hn3
  have hS3 : LiS h l Gs tb nq rt rs own2 tok2 v2 M3 := hrw.out _ (hS2pp.out _ _) (hap3 _ _) M3 (by rw [hn3']; exact Nat.le_add_right _ _) (fun b hb hne => hf3 b (by have h9 : b < M2.next := hb; show ¬ b = M2.next + 3; omega) hne)
  have hao3 : ∀ b, tf3 = .own b → own2 b = none := fun b e => (htf3 b e).elim (hao2.out b) fun h9 => by
    have h8 : b = M2.next + 3 := h9
    subst h8
    exact hS2.out.ls.cl _ (by omega)
  replace hS3 := Hid.mk hS3
  replace hap4 := Hid.mk hap4
  replace hao3 := Hid.mk hao3
  clear hf3 htf3 hn3 hap3
  repeat' (with_reducible first | refine x_ops ?_ | refine wk ?_ | ((first | refine gd1 ?_ ?_ | refine gd2 ?_ ?_ | refine gd3 ?_ ?_) <;> (first | exact @False.elim _ | intro hc)))
  refine nx hkq0.out ⟨vv, hkr, own2, tok2, v2, tf3, hS3.out.up (by show M3.next ≤ M2.next + 5; omega) (fun _ _ => rfl), ?_, hap4.out.mono (fun _ _ _ => rfl) (by show M3.next ≤ M2.next + 5; omega), hao3.out⟩
  rw [ht.out, List.flatMap_append, List.flatMap_singleton]
  exact vw

set_option maxHeartbeats 4000000 in
/-- The loop of List, where there are none. -/
theorem List_loop0 {h : Hand} {l : List Chord} {Gs : List (List Grip)} (hl0 : l.length = 0) {q : Nat} (hq : 1 ≤ q ∧ q ≤ 64) {tb rt : Nat} {nv : V} {M : Mm} (o1 : M.obj tb = some (.box [netE h l Gs, nv, .ptr rt 0] 162)) (l1 : tb < M.next) {t : Nat → V}
    (s2 : t 2 = vint q) (s6 : t 6 = .sl 0 [] .exact) (s7 : t 7 = vint 0) (s9 : t 9 = .ptr tb 0) :
    (c_hand_List_p13).vx Try.prog Gd (FinV [.t 6, .t 7] (.tup [tFs [([], 0)], vint 0])) ⟨t, M⟩ := by
  have FG := fun (k : Nat) (M : Mm) (o1 : M.obj tb = some (.box [netE h l Gs, nv, .ptr rt 0] 162)) (l1 : tb < M.next) => fing0_sfn hl0 o1 l1 k
  unfold c_hand_List_p13
  replace FG := Hid.mk FG
  have o10 := Hid.mk o1
  clear o1
  repeat' (with_reducible first | refine x_ops ?_ | refine wk ?_ | ((first | refine gd1 ?_ ?_ | refine gd2 ?_ ?_ | refine gd3 ?_ ?_) <;> (first | exact @False.elim _ | intro hc)))
  have fin : ∀ (t' : Nat → V) (M' : Mm) (tf : Tok), t' 6 = .sl 1 [.sl 0 [] .no, vint 0] tf → (c_hand_List_p12).vx Try.prog Gd (FinV [.t 6, .t 7] (.tup [tFs [([], 0)], vint 0])) ⟨t', M'⟩ := by
    intro t' M' tf f6
    unfold c_hand_List_p12 tFs
    repeat' (with_reducible first | refine x_ops ?_ | refine wk ?_ | ((first | refine gd1 ?_ ?_ | refine gd2 ?_ ?_ | refine gd3 ?_ ?_) <;> (first | exact @False.elim _ | intro hc)))
    exact finV_ret vw (.tup (.cons (.sl _ _ _) (.cons (.lit _) .nil)))
  replace fin := Hid.mk fin
  refine x_loopW w_hand_List_p8 kr 1 (fun k t M' => t 28 = vint (k : Int) ∧ (tb < M'.next ∧ M'.obj tb = some (.box [netE h l Gs, nv, .ptr rt 0] 162)) ∧ ∃ tf, (k = 0 → t 6 = .sl 0 [] .exact) ∧ (k = 1 → t 6 = .sl 1 [.sl 0 [] .no, vint 0] tf)) ⟨vv, ⟨l1, o10.out⟩, .exact, fun _ => s6, fun e => by cases e⟩ ?_
  clear s6
  rintro k t1 M1 hk ⟨h28, ⟨hlt, ho⟩, tf, h60, h61⟩
  by_cases hk1 : k = 1
  · have h6 := h61 hk1
    have e9 : ((k : Int) == 0) = false := by rw [beq_eq_false_iff_ne]; omega
    clear h60 h61
    by_cases hq1 : q = 1
    · have c1 : ¬ (k : Int) < (q : Int) := by omega
      clear ho hq1 hk1 e9
      repeat' (with_reducible first | refine x_ops ?_ | refine wk ?_ | ((first | refine gd1 ?_ ?_ | refine gd2 ?_ ?_ | refine gd3 ?_ ?_) <;> (first | exact @False.elim _ | intro hc)))
      refine fin.out _ _ tf ?_
      exact vw
    have c1 : (k : Int) < (q : Int) := by omega
    clear hq1 hk1
    have F1 := FG.out k ⟨M1.obj, M1.next + 9⟩ ho (by show tb < M1.next + 9; omega)
    clear ho
    repeat' (with_reducible first | refine x_ops ?_ | refine wk ?_ | ((first | refine gd1 ?_ ?_ | refine gd2 ?_ ?_ | refine gd3 ?_ ?_) <;> (first | exact @False.elim _ | intro hc)))
    refine x_scallR [.ptr tb 0, vint (k : Int)] vw F1 ⟨_, ⟨M1.obj, M1.next + 9⟩, rfl, Nat.le_refl _, fun _ _ => rfl⟩ ?_
    rintro res M2 ⟨rfl, hn2, hf2⟩
    have hn2' : M1.next + 9 ≤ M2.next := hn2
    have hx6 : M1.next + 6 < M2.next := by omega
    clear F1 hf2 hn2
    repeat' (with_reducible first | refine x_ops ?_ | refine wk ?_ | ((first | refine gd1 ?_ ?_ | refine gd2 ?_ ?_ | refine gd3 ?_ ?_) <;> (first | exact @False.elim _ | intro hc)))
    refine fin.out _ _ tf ?_
    exact vw
  have hk0 : k = 0 := by omega
  have h6 := h60 hk0
  have e9 : ((k : Int) == 0) = true := by rw [beq_iff_eq]; omega
  have c1 : (k : Int) < (q : Int) := by omega
  have F1 := FG.out k ⟨M1.obj, M1.next + 9⟩ ho (by show tb < M1.next + 9; omega)
  have w1 := w_add1 (k := k) (by omega)
  have ho0 := Hid.mk ho
  clear h60 h61 ho
  replace hk0 := Hid.mk hk0
  clear hk1 hk
  repeat' (with_reducible first | refine x_ops ?_ | refine wk ?_ | ((first | refine gd1 ?_ ?_ | refine gd2 ?_ ?_ | refine gd3 ?_ ?_) <;> (first | exact @False.elim _ | intro hc)))
  refine x_scallR [.ptr tb 0, vint (k : Int)] vw F1 ⟨_, ⟨M1.obj, M1.next + 9⟩, rfl, Nat.le_refl _, fun _ _ => rfl⟩ ?_
  rintro res M2 ⟨rfl, hn2, hf2⟩
  have hn2' : M1.next + 9 ≤ M2.next := hn2
  have hx6 : M1.next + 6 < M2.next := by omega
  have ho2 := (hf2 tb (by show tb < M1.next + 9; omega)).trans ho0.out
  have htx : tb ≠ M1.next + 6 := by omega
  have ho20 := Hid.mk ho2
  clear F1 hf2 hn2 ho2
  repeat' (with_reducible first | refine x_ops ?_ | refine wk ?_ | ((first | refine gd1 ?_ ?_ | refine gd2 ?_ ?_ | refine gd3 ?_ ?_) <;> (first | exact @False.elim _ | intro hc)))
  refine x_appE (n := 0) (xs := []) (j := 1) (ys := [.sl 0 [] .no, vint 0]) vw vw rfl rfl (by decide) (by decide) ?_
  repeat' (with_reducible first | refine x_ops ?_ | refine wk ?_ | ((first | refine gd1 ?_ ?_ | refine gd2 ?_ ?_ | refine gd3 ?_ ?_) <;> (first | exact @False.elim _ | intro hc)))
  refine nx (by have := hk0.out; omega) ⟨vv, ⟨by show tb < M2.next + 5; omega, ?_⟩, _, (fun e => by cases e), fun _ => vw⟩
  exact (put_other _ _ (by omega)).trans ((put_other _ _ htx).trans ((put_other _ _ htx).trans ho20.out))
end Go.Proofs.Ytojjdkoglhecbaa
namespace Go.Proofs.Ytojjdkoglhecbaa
open Go.RowKit

/-- A memory with a lister behind all that was there. -/
noncomputable def lsM (h : Hand) (l : List Chord) (Gs : List (List Grip)) (m : Mm) (H : List Way) : Mm :=
  ⟨fun q => if q < m.next then m.obj q else if q = m.next then some (.box [netE h l Gs, .gsl (m.next + 1) l.length 1, .ptr (m.next + 2) 0] 162)
    else if q = m.next + 1 then some (.box (rwN ((List.range l.length).map (m.next + 4 + ·)) Gs) 163)
    else if q = m.next + 2 then some (.box [.sl 0 [] .exact, .gsl (m.next + 3) H.length 3, .fn 110 [], vbool false] 159)
    else if q = m.next + 3 then some (.box (wyC (H ++ [])) 154)
    else some (.box (nilR (Gs.getD (q - (m.next + 4)) []).length) 150), m.next + 4 + l.length⟩
theorem lsPost_ex (h : Hand) (l : List Chord) (Gs : List (List Grip)) (m : Mm) : ∃ r M', LsPost h l Gs m r M' := by
  obtain ⟨H, h1, h2⟩ := heap_ex (rtL h l Gs (rsT h l Gs 0).length)
  have hr : ∀ y, y < l.length → ((List.range l.length).map (m.next + 4 + ·)).getD y 0 = m.next + 4 + y := fun y hy => by
    rw [List.getD_eq_getElem?_getD, List.getElem?_map, List.getElem?_range hy]; rfl
  have o : ∀ q, (lsM h l Gs m H).obj q = if q < m.next then m.obj q else if q = m.next then some (.box [netE h l Gs, .gsl (m.next + 1) l.length 1, .ptr (m.next + 2) 0] 162)
    else if q = m.next + 1 then some (.box (rwN ((List.range l.length).map (m.next + 4 + ·)) Gs) 163)
    else if q = m.next + 2 then some (.box [.sl 0 [] .exact, .gsl (m.next + 3) H.length 3, .fn 110 [], vbool false] 159)
    else if q = m.next + 3 then some (.box (wyC (H ++ [])) 154)
    else some (.box (nilR (Gs.getD (q - (m.next + 4)) []).length) 150) := fun _ => rfl
  have n : (lsM h l Gs m H).next = m.next + 4 + l.length := rfl
  refine ⟨.ptr m.next 0, lsM h l Gs m H, by omega, fun q hq => by rw [o, if_pos hq], m.next, m.next + 1, m.next + 2, (List.range l.length).map (m.next + 4 + ·), rfl, ⟨Nat.le_refl _, by omega⟩, ⟨_, by rw [o, if_neg (by omega), if_pos rfl]⟩, fun hl => ⟨⟨?_, ?_, ?_, ?_, ?_, ?_, ?_, ?_, ?_⟩, ⟨by omega, by omega⟩, .gsl (m.next + 3) H.length 3, H, ?_, .inr ⟨m.next + 3, [], rfl, by omega, ?_⟩, h1, h2⟩⟩
  · rw [o, if_neg (by omega), if_pos rfl]
  · rw [o, if_neg (by omega), if_neg (by omega), if_pos rfl]
  · intro y _ hy
    rw [hr y hy, o, if_neg (by omega), if_neg (by omega), if_neg (by omega), if_neg (by omega), if_neg (by omega), Nat.add_sub_cancel_left]
  · intro y z hyz hz
    rw [hr y (by omega), hr z hz]; omega
  · omega
  · omega
  · intro y hy; rw [hr y hy]; omega
  · omega
  · intro y hy; rw [hr y hy]; omega
  · rw [o, if_neg (by omega), if_neg (by omega), if_neg (by omega), if_pos rfl]
  · rw [o, if_neg (by omega), if_neg (by omega), if_neg (by omega), if_neg (by omega), if_pos rfl]

end Go.Proofs.Ytojjdkoglhecbaa
namespace Go.Proofs.Ytojjdkoglhecbaa
open Go.RowKit

theorem fgC_l (f : List Grip × Int) : (fgC f).length = 2 := rfl
end Go.Proofs.Ytojjdkoglhecbaa
namespace Go.Proofs.Ytojjdkoglhecbaa
open Go.RowKit

section
variable {P : Program} {G : Ground}
end
end Go.Proofs.Ytojjdkoglhecbaa
namespace Go.Proofs.Ytojjdkoglhecbaa
open Go.ChangeShapes Go.WideShapes Go.ChangeAt Go.RowKit
set_option maxRecDepth 100000

end Go.Proofs.Ytojjdkoglhecbaa
namespace Go.Proofs.Ytojjdkoglhecbaa
open Go.RowKit

/-- The pairs of grips of the first chords. -/
noncomputable def hvU (h : Hand) (l : List Chord) : Nat → Int
  | 0 => 0
  | k + 1 => hvU h l k + (if k = 0 then 0 else ((grpA h (l.getD (k - 1) noC)).length : Int)) * ((grpA h (l.getD k noC)).length : Int)
/-- Does a search take too many steps? -/
noncomputable def hvB (h : Hand) (l : List Chord) : Bool :=
  if bothE h l = 0 then (if 24 < l.length then true else if wvE h l = 0 then decide (6000 < hvU h l l.length) else false) else false
theorem hvU_bound {h : Hand} {l : List Chord} : ∀ {k : Nat}, (∀ i, i < k → (grpA h (l.getD i noC)).length ≤ 200) → 0 ≤ hvU h l k ∧ hvU h l k ≤ 40000 * k
  | 0, _ => by simp [hvU]
  | k + 1, hk => by
    have h1 := hvU_bound (h := h) (l := l) (k := k) (fun i hi => hk i (by omega))
    have h2 := hk k (by omega)
    rw [hvU]
    by_cases k0 : k = 0
    · rw [if_pos k0, Int.zero_mul]; omega
    · rw [if_neg k0]
      have h3 := hk (k - 1) (by omega)
      have h5 : (grpA h (l.getD (k - 1) noC)).length * (grpA h (l.getD k noC)).length ≤ 200 * 200 := Nat.mul_le_mul h3 h2
      have h6 : ((grpA h (l.getD (k - 1) noC)).length : Int) * ((grpA h (l.getD k noC)).length : Int) = (((grpA h (l.getD (k - 1) noC)).length * (grpA h (l.getD k noC)).length : Nat) : Int) := by push_cast; rfl
      omega

set_option maxHeartbeats 2000000 in
theorem heavy_fn (h : Hand) (l : List Chord) (hl : Fits l) : Fn Try.prog Gd 29 [h.val, tCs l] (vbool (hvB h l)) := by
  refine Fn.of_vx0 k_theorbolaw06_Heavy (by simp) (by rw [V.pures, pure_hand, V.pures, pure_tCs]; rfl) ?_
  have C1 := rcheck_fn h
  have C2 := rcheckchords_fn l hl
  unfold hvB bothE
  unfold tCs at C2
  unfold Hand.val at C1
  unfold c_theorbolaw06_Heavy Hand.val tCs
  by_cases he : chkE h = 0
  case neg =>
    have e1 : (chkE h == 0) = false := by rw [beq_eq_false_iff_ne]; exact he
    rw [chk_bad he] at C1
    rw [if_neg he, if_neg (by decide)]
    clear he
    repeat' (with_reducible first | refine x_ops ?_ | refine wk ?_ | (with_reducible refine xc (C1) ?_) | (with_reducible refine xc (C2) ?_) | ((first | refine gd1 ?_ ?_ | refine gd2 ?_ ?_ | refine gd3 ?_ ?_) <;> (first | exact @False.elim _ | intro hc)))
    all_goals exact finV_lit vv rfl
  rw [he] at C1
  rw [if_pos he]
  by_cases hs : seqE l = 0
  case neg =>
    have e1 : (seqE l == 0) = false := by rw [beq_eq_false_iff_ne]; exact hs
    rw [if_neg hs]
    clear he hs
    repeat' (with_reducible first | refine x_ops ?_ | refine wk ?_ | (with_reducible refine xc (C1) ?_) | (with_reducible refine xc (C2) ?_) | ((first | refine gd1 ?_ ?_ | refine gd2 ?_ ?_ | refine gd3 ?_ ?_) <;> (first | exact @False.elim _ | intro hc)))
    all_goals exact finV_lit vv rfl
  rw [if_pos hs]
  have hb : bothE h l = 0 := by rw [bothE, if_pos he]; exact hs
  obtain ⟨hk, h4, hseq⟩ := both_ok hb
  rw [hs] at C2
  clear hs he
  by_cases h24 : 24 < l.length
  · have c1 : (24 : Int) < (l.length : Int) := by omega
    rw [if_pos h24]
    clear hb h24
    repeat' (with_reducible first | refine x_ops ?_ | refine wk ?_ | (with_reducible refine xc (C1) ?_) | (with_reducible refine xc (C2) ?_) | ((first | refine gd1 ?_ ?_ | refine gd2 ?_ ?_ | refine gd3 ?_ ?_) <;> (first | exact @False.elim _ | intro hc)))
    all_goals exact finV_lit vv rfl
  have c1 : ¬ (24 : Int) < (l.length : Int) := by omega
  rw [if_neg h24]
  repeat' (with_reducible first | refine x_ops ?_ | refine wk ?_ | (with_reducible refine xc (C1) ?_) | (with_reducible refine xc (C2) ?_) | ((first | refine gd1 ?_ ?_ | refine gd2 ?_ ?_ | refine gd3 ?_ ?_) <;> (first | exact @False.elim _ | intro hc)))
  refine x_gen (fun t => t 1 = .sl l.length (l.flatMap Chord.cells) .no ∧ t 2 = .ptr 0 0 ∧ t 5 = vint 0 ∧ t 6 = vint 0 ∧ t 7 = vint 0) ⟨vv, vv, vv, vv, vv⟩ ?_
  clear C1 C2 c1
  rintro t0 ⟨a1, a2, a5, a6, a7⟩
  refine x_loopF w_theorbolaw06_Heavy_p9 kr l.length (fun k t => t 7 = vint (k : Int) ∧ t 5 = vint (hvU h l k) ∧ t 6 = vint (if k = 0 then 0 else ((grpA h (l.getD (k - 1) noC)).length : Int)) ∧ ∀ i, i < k → (grpA h (l.getD i noC)).length ≤ 200) ?_ ?_
  · exact ⟨a7, by rw [hvU]; exact a5, by rw [if_pos rfl]; exact a6, fun i hi => by omega⟩
  rintro k t hkl ⟨h7, h5, h6, hcnt⟩
  by_cases hlt : k < l.length
  case neg =>
    have hke : k = l.length := by omega
    subst hke
    have c1 : ¬ (l.length : Int) < (l.length : Int) := by omega
    rw [if_pos (show wvE h l = 0 by rw [wvE, if_pos hb, if_pos hcnt])]
    clear hcnt hb hlt hkl
    repeat' (with_reducible first | refine x_ops ?_ | refine wk ?_ | ((first | refine gd1 ?_ ?_ | refine gd2 ?_ ?_ | refine gd3 ?_ ?_) <;> (first | exact @False.elim _ | intro hc)))
    exact finV_lit vv rfl
  have C2 := rGrips_fn h (l.getD k noC) (hl.at k)
  rw [grR_net hk (hseq k hlt).1] at C2
  have g1 := chs_take hlt
  have g2 := chs_len l
  have c1 : k * 3 + 3 ≤ l.length * 3 := by omega
  have c2 : (k : Int) < (l.length : Int) := by omega
  have w1 := w_add1 (k := k) (by omega)
  unfold Hand.val Chord.val Chord.cells at C2
  by_cases hc2 : (grpA h (l.getD k noC)).length ≤ 200
  case neg =>
    rw [if_neg (show ¬ wvE h l = 0 by rw [wvE, if_pos hb, if_neg (fun hh => hc2 (hh k hlt))]; decide)]
    rw [if_neg hc2] at C2
    unfold tGs at C2
    clear hc2 hcnt hb
    dsimp only at C2
    repeat' (with_reducible first | refine x_ops ?_ | refine wk ?_ | (with_reducible refine xc (C2) ?_) | ((first | refine gd1 ?_ ?_ | refine gd2 ?_ ?_ | refine gd3 ?_ ?_) <;> (first | exact @False.elim _ | intro hc)))
    exact finV_lit vv rfl
  have hcn : ∀ i, i < k + 1 → (grpA h (l.getD i noC)).length ≤ 200 := fun i hi => by
    by_cases hik : i = k
    · subst hik; exact hc2
    · exact hcnt i (by omega)
  rw [if_pos hc2] at C2
  have hb1 := hvU_bound (h := h) (l := l) (k := k) hcnt
  have hb2 := hvU_bound (h := h) (l := l) (k := k + 1) hcn
  have hU : hvU h l (k + 1) = hvU h l k + (if k = 0 then 0 else ((grpA h (l.getD (k - 1) noC)).length : Int)) * ((grpA h (l.getD k noC)).length : Int) := rfl
  have hla : 0 ≤ (if k = 0 then 0 else ((grpA h (l.getD (k - 1) noC)).length : Int)) := by split <;> omega
  have hlast : (if k + 1 = 0 then 0 else ((grpA h (l.getD (k + 1 - 1) noC)).length : Int)) = ((grpA h (l.getD k noC)).length : Int) := by rw [if_neg (by omega), Nat.add_sub_cancel]
  generalize hun : hvU h l (k + 1) = un at *
  replace hun := Hid.mk hun
  generalize hvU h l k = uk at *
  generalize (if k = 0 then 0 else ((grpA h (l.getD (k - 1) noC)).length : Int)) = la at *
  have hmul : 0 ≤ la * ((grpA h (l.getD k noC)).length : Int) := Int.mul_nonneg hla (by omega)
  have w2 : IntKind.i64.wrap (la * ((grpA h (l.getD k noC)).length : Int)) = la * ((grpA h (l.getD k noC)).length : Int) := w_in (by omega)
  have w3 : IntKind.i64.wrap (uk + la * ((grpA h (l.getD k noC)).length : Int)) = un := by rw [w_in (by omega)]; exact hU.symm
  unfold tGs at C2
  replace hlast := Hid.mk hlast
  replace hcn := Hid.mk hcn
  replace hb := Hid.mk hb
  clear hU hb1 hb2 hla hmul hcnt hc2
  generalize grpA h (l.getD k noC) = G at *
  dsimp only at C2
  repeat' (with_reducible first | refine x_ops ?_ | refine wk ?_ | (with_reducible refine xc (C2) ?_) | ((first | refine gd1 ?_ ?_ | refine gd2 ?_ ?_ | refine gd3 ?_ ?_) <;> (first | exact @False.elim _ | intro hc)))
  exact nf hlt ⟨vv, by rw [hun.out]; exact vv, by rw [hlast.out]; exact vv, hcn.out⟩ rfl
end Go.Proofs.Ytojjdkoglhecbaa
namespace Go.Proofs.Ytojjdkoglhecbaa
open Go.RowKit

end Go.Proofs.Ytojjdkoglhecbaa
namespace Go.Proofs.Ytojjdkoglhecbaa
open Go.RowKit

noncomputable def lsV (r : List (List Grip × Int) × Int) : V := .tup [tFs r.1, vint r.2]
theorem lsV_nil (e : Int) : lsV ([], e) = .tup [.sl 0 [] .no, vint e] := rfl
set_option maxHeartbeats 4000000 in
theorem List_fn (h : Hand) (l : List Chord) (hl : Fits l) (most : Int) : Fn Try.prog Gd 37 [h.val, tCs l, vint most] (lsV (lsR h l most)) := by
  refine Fn.of_vx0 k_hand_List (by simp) (by rw [V.pures, pure_hand, V.pures, pure_tCs]; rfl) ?_
  have C1 := weave_fn h l hl
  have C2 := within_fn most 1 64
  unfold wvR at C1
  rw [lsR]
  unfold c_hand_List
  by_cases hw : wvE h l = 0
  case neg =>
    rw [if_neg hw] at C1 ⊢
    have e1 : (wvE h l == 0) = false := by rw [beq_eq_false_iff_ne]; exact hw
    clear hw
    rw [lsV_nil]
    unfold Hand.val tCs at C1 ⊢
    repeat' (with_reducible first | refine x_ops ?_ | refine wk ?_ | (with_reducible refine xc (C1) ?_) | ((first | refine gd1 ?_ ?_ | refine gd2 ?_ ?_ | refine gd3 ?_ ?_) <;> (first | exact @False.elim _ | intro hc)))
    exact finV_ret vv (.tup (.cons (.sl _ _ _) (.cons (.lit _) .nil)))
  rw [if_pos hw] at C1 ⊢
  have hn := wv_net hl hw
  by_cases hm : 1 ≤ most ∧ most ≤ 64
  case neg =>
    rw [if_neg hm, lsV_nil]
    have e2 : (decide (1 ≤ most) && decide (most ≤ 64)) = false := by
      rw [Bool.and_eq_false_iff, decide_eq_false_iff_not, decide_eq_false_iff_not]; omega
    rw [e2] at C2
    unfold netE netC Hand.val tCs at C1
    unfold Hand.val tCs
    clear hw hn hm
    repeat' (with_reducible first | refine x_ops ?_ | refine wk ?_ | (with_reducible refine xc (C1) ?_) | (with_reducible refine xc (C2) ?_) | ((first | refine gd1 ?_ ?_ | refine gd2 ?_ ?_ | refine gd3 ?_ ?_) <;> (first | exact @False.elim _ | intro hc)))
    exact finV_ret vv (.tup (.cons (.sl _ _ _) (.cons (.lit _) .nil)))
  rw [if_pos hm]
  obtain ⟨q, rfl⟩ : ∃ q : Nat, most = (q : Int) := ⟨most.toNat, by omega⟩
  have hq : 1 ≤ q ∧ q ≤ 64 := by omega
  have e2 : (decide (1 ≤ (q : Int)) && decide ((q : Int) ≤ 64)) = true := by
    rw [Bool.and_eq_true, decide_eq_true_eq, decide_eq_true_eq]; omega
  rw [e2] at C2
  rw [Int.toNat_natCast]
  have LS := fun m => list_sfn hn m
  have LE := fun m => lsPost_ex h l (tabG h l) m
  have hln := fun m M r (hP : LsPost h l (tabG h l) m r M) (h0 : 0 < l.length) => li_new hn h0 hP
  have hL0 := fun (h0 : l.length = 0) => @List_loop0 h l (tabG h l) h0 q hq
  have hL1 := fun (h0 : 0 < l.length) => @List_loop h l (tabG h l) hn h0 q hq
  have hF0 : l.length = 0 → fgL h l (tabG h l) q = [([], 0)] := fun h0 => by rw [fgL, if_pos h0]
  have hlV : lsV (if fgL h l (tabG h l) q = [] then ([], 62) else (fgL h l (tabG h l) q, 0)) = .tup [tFs (fgL h l (tabG h l) q), vint (if fgL h l (tabG h l) q = [] then 62 else 0)] := by
    by_cases hF : fgL h l (tabG h l) q = []
    · rw [if_pos hF, if_pos hF, hF]; rfl
    · rw [if_neg hF, if_neg hF]; rfl
  rw [hlV]
  generalize hG : tabG h l = Gs at *
  replace hn := Hid.mk hn
  replace hln := Hid.mk hln
  replace hL0 := Hid.mk hL0
  replace hL1 := Hid.mk hL1
  replace hF0 := Hid.mk hF0
  unfold Hand.val tCs at C1 ⊢
  clear hw hm hlV hG
  have hpr : (netE h l Gs).pure = true := rfl
  generalize hNE : netE h l Gs = NE at *
  replace hNE := Hid.mk hNE
  repeat' (with_reducible first | refine x_ops ?_ | refine wk ?_ | (with_reducible refine xc (C1) ?_) | (with_reducible refine xc (C2) ?_) | ((first | refine gd1 ?_ ?_ | refine gd2 ?_ ?_ | refine gd3 ?_ ?_) <;> (first | exact @False.elim _ | intro hc)))
  refine x_scallR [NE] vw (LS _) (LE _) ?_
  intro r1 M1 hP1
  replace hln := Hid.mk (hln.out _ _ _ hP1)
  by_cases h0 : l.length = 0
  · have hf := hF0.out h0
    rw [hf, if_neg (by simp)]
    obtain ⟨_, _, tb, nq, rt, rs, rfl, ⟨_, l1⟩, ⟨nv, o1⟩, _⟩ := hP1
    have o10 := Hid.mk o1
    have l10 := Hid.mk l1
    clear C1 C2 LS LE hln
    repeat' (with_reducible first | refine x_ops ?_ | refine wk ?_ | ((first | refine gd1 ?_ ?_ | refine gd2 ?_ ?_ | refine gd3 ?_ ?_) <;> (first | exact @False.elim _ | intro hc)))
    rw [hNE.out] at o10
    exact hL0.out h0 o10.out l10.out vw vw vw vw
  · obtain ⟨tb, nq, rt, rs, v, rfl, hS⟩ := hln.out (by omega)
    have hS0 := Hid.mk hS
    have h00 := Hid.mk h0
    clear C1 C2 LS LE hln hP1 hS h0
    repeat' (with_reducible first | refine x_ops ?_ | refine wk ?_ | ((first | refine gd1 ?_ ?_ | refine gd2 ?_ ?_ | refine gd3 ?_ ?_) <;> (first | exact @False.elim _ | intro hc)))
    exact hL1.out (by have := h00.out; omega) hS0.out vw vw vw vw

theorem fgs_take {l : List (List Grip × Int)} {k : Nat} (h : k < l.length) : ((l.flatMap fgC).drop (k * 2)).take 2 = [tGs (l.getD k ([], 0)).1, vint (l.getD k ([], 0)).2] := flat_take fgC_l _ h
theorem ls_fits {h : Hand} {l : List Chord} (hl : Fits l) (most : Int) : ∀ f ∈ (lsR h l most).1, FitsG f.1 := by
  rw [lsR]
  by_cases hw : wvE h l = 0
  · rw [if_pos hw]
    split
    · split
      · intro f hf; cases hf
      · intro f hf; exact fg_fits (wv_net hl hw) hf
    · intro f hf; cases hf
  · rw [if_neg hw]; intro f hf; cases hf
theorem ls_big {h : Hand} {l : List Chord} (most : Int) : (lsR h l most).1.length ≤ 64 := by
  rw [lsR]
  split
  · split
    · split
      · exact Nat.zero_le _
      · by_cases h0 : l.length = 0
        · rw [fgL, if_pos h0]; decide
        · have := fgL_len (h := h) (l := l) (Gs := tabG h l) most.toNat (by omega)
          dsimp only; omega
    · exact Nat.zero_le _
  · exact Nat.zero_le _
end Go.Proofs.Ytojjdkoglhecbaa
namespace Go.Proofs.Ytojjdkoglhecbaa
open Go.RowKit

/-- A call that is guarded by what was skipped is skipped. -/
theorem vrun_skip {P : Program} {G : Ground} {base : Nat} {K : St → Prop} {d : Option Nat} {g : Nat} {w : Bool} {op : VO} {args : List Opd} {md : Option (List Nat)} {l : List VI} {i : Nat} {s : St} (hb : s.t g = vund)
    (h2 : goR P G base (some ⟨putT s.t d vund, s.m⟩) l (i + 1) K) : vrun P G base i (⟨d, some (g, w), op, args, md⟩ :: l) s K := by
  have := goR_vrun l (i + 1) _ h2
  rw [vrun]
  unfold vstep VI.on
  simp only [hb, onB, vund]
  rw [if_neg (by simp)]
  exact this
def noF : List Grip × Int := ([], 0)
/-- Whether it is among the first ones. -/
def lstB (A : List (List Grip × Int)) (G : List Grip) : Nat → Bool
  | 0 => false
  | k + 1 => lstB A G k || decide ((A.getD k noF).1 = G)
theorem lstB_of {A : List (List Grip × Int)} {G : List Grip} {j : Nat} (hG : (A.getD j noF).1 = G) : ∀ n, j < n → lstB A G n = true
  | 0, h => absurd h (Nat.not_lt_zero _)
  | n + 1, h => by
    rw [lstB]
    by_cases e : j = n
    · subst e; rw [decide_eq_true hG, Bool.or_true]
    · rw [lstB_of hG n (by omega), Bool.true_or]
theorem fgs_take2 {A : List (List Grip × Int)} {k : Nat} (h : k < A.length) : ((A.flatMap fgC).drop (k * 2)).take 2 = [tGs (A.getD k noF).1, vint (A.getD k noF).2] := fgs_take h

set_option maxHeartbeats 4000000 in
/-- The own fingering, held against what is listed. -/
theorem listed_tail (h : Hand) (l : List Chord) (hl : Fits l) (hl4 : l.length ≤ 400) (picks : List Int) (hp : picks.length ≤ 17592186044416) (most : Int) (A : List (List Grip × Int)) (hA0 : 1 ≤ A.length) (hA1 : (A.length : Int) ≤ most) (hA64 : A.length ≤ 64) (hAf : ∀ f ∈ A, FitsG f.1)
    (hall : (valR h l (choL h l picks)).2.2 = 0 → lstB A (choL h l picks) A.length = true ∨ (¬ (A.length : Int) < most ∧ soonB (choL h l picks, (valR h l (choL h l picks)).1) (A.getD (A.length - 1) noF) = false))
    {t : Nat → V} {M : Mm} {hb : Nat} {tk : Tok} (s1 : t 1 = vint most) (s2 : t 2 = tIs picks) (s7 : t 7 = .ptr hb 0) (s8 : t 8 = .sl l.length (l.flatMap Chord.cells) .no) (s9 : t 9 = .sl A.length (A.flatMap fgC) tk)
    (o7 : M.obj hb = some (.box [tIs h.low, tIs h.high, tBs h.barre, vint h.top, vint h.jump, vint h.shift, vint h.lift, vint h.bar, vint h.stretch, vint h.slide] 25)) (l7 : hb < M.next) :
    (c_theorbolaw06_HandListed_p24).vx Try.prog Gd (FinV [.t 6] (vbool true)) ⟨t, M⟩ := by
  have CH := chosen_fn h l hl (by omega) picks hp
  have hG := choL_fits hl (by omega) (h := h) picks
  have V1 := valid_fn h l hl _ hG
  have C5 := works_fn
  have hSG := fun (k : Nat) (hk : k < A.length) => samegrips_fn (A.getD k noF).1 (choL h l picks) (hAf _ (by rw [List.getD_eq_getElem?_getD, List.getElem?_eq_getElem hk]; exact List.getElem_mem hk))
  have hSO := sooner_fn (choL h l picks) (A.getD (A.length - 1) noF).1 (valR h l (choL h l picks)).1 (A.getD (A.length - 1) noF).2 hG (hAf _ (by rw [List.getD_eq_getElem?_getD, List.getElem?_eq_getElem (by omega : A.length - 1 < A.length)]; exact List.getElem_mem _))
  have hgt := fun (k : Nat) (hk : k < A.length) => fgs_take2 hk
  have hgl := fgs_take2 (A := A) (k := A.length - 1) (by omega)
  have hfl : (A.flatMap fgC).length = A.length * 2 := flat_len fgC_l A
  generalize valR h l (choL h l picks) = r at *
  obtain ⟨rc, r2, re⟩ := r
  have hlstS : ∀ k, lstB A (choL h l picks) (k + 1) = (lstB A (choL h l picks) k || decide ((A.getD k noF).1 = choL h l picks)) := fun k => rfl
  have hlst0 : lstB A (choL h l picks) 0 = false := rfl
  generalize hLB : lstB A (choL h l picks) = LB at *
  generalize choL h l picks = G at *
  dsimp only at hall V1 hSO
  unfold Hand.val tCs tGs at CH V1
  unfold tGs at hSG hSO hgt hgl
  have c1 : ¬ (A.length : Int) < 1 := by omega
  have c2 : ¬ most < (A.length : Int) := by omega
  have x1 : ¬ hb = M.next + 5 := by omega
  have x2 : ¬ M.next + 5 = hb := by omega
  have l2 : M.next + 5 < M.next + 7 := by omega
  unfold c_theorbolaw06_HandListed_p24
  replace hgt := Hid.mk hgt
  replace hSG := Hid.mk hSG
  replace hSO := Hid.mk hSO
  replace hgl := Hid.mk hgl
  replace hall := Hid.mk hall
  replace hlstS := Hid.mk hlstS
  by_cases hre : re = 0
  case neg =>
    have e1 : (re == 0) = false := by rw [beq_eq_false_iff_ne]; exact hre
    clear hre hlst0
    repeat' (with_reducible first | refine x_ops ?_ | simp only [go_sem, Nat.reduceAdd, Nat.reduceEqDiff, Nat.reduceLT, Nat.reduceLeDiff, Nat.reduceMul, Nat.reduceSub, Nat.reducePow, Nat.reduceDiv, Nat.reduceMod, Nat.reduceBEq, Int.reduceBEq, Int.reduceLT, reduceIte, tIs, tBs, tPs, vund, *] | (with_reducible refine xc (CH) ?_) | (with_reducible refine xc (V1) ?_) | (with_reducible refine xc (C5) ?_) | ((first | refine gd1 ?_ ?_ | refine gd2 ?_ ?_ | refine gd3 ?_ ?_) <;> (first | exact @False.elim _ | intro hc)))
    exact finV_dry rfl vv
  subst hre
  have hall2 := Hid.mk (hall.out rfl)
  clear hall
  repeat' (with_reducible first | refine x_ops ?_ | simp only [go_sem, Nat.reduceAdd, Nat.reduceEqDiff, Nat.reduceLT, Nat.reduceLeDiff, Nat.reduceMul, Nat.reduceSub, Nat.reducePow, Nat.reduceDiv, Nat.reduceMod, Nat.reduceBEq, Int.reduceBEq, Int.reduceLT, reduceIte, tIs, tBs, tPs, vund, *] | (with_reducible refine xc (CH) ?_) | (with_reducible refine xc (V1) ?_) | (with_reducible refine xc (C5) ?_) | ((first | refine gd1 ?_ ?_ | refine gd2 ?_ ?_ | refine gd3 ?_ ?_) <;> (first | exact @False.elim _ | intro hc)))
  refine x_genT (fun t M' => (t 1 = vint most ∧ t 9 = .sl A.length (A.flatMap fgC) tk ∧ t 18 = vbool false ∧ t 19 = vint 0) ∧ ∃ ob, t 15 = .ptr ob 0 ∧ M'.obj ob = some (.box [.sl G.length (G.flatMap Grip.cells) .no, vint rc] 40) ∧ ob < M'.next) ⟨⟨vw, vw, vv, vv⟩, _, vv, (by ((refine ve ?_; try exact True.intro))), by show M.next + 5 < M.next + 7; omega⟩ ?_
  clear s1 s2 s7 s8 s9 o7 l7 CH V1 x1 x2 l2 c1 c2
  rintro t0 M0' ⟨⟨s1, s9, s18, s19⟩, ob, s15, oo15, lo15⟩
  refine x_loopF w_theorbolaw06_HandListed_p13 kr A.length (fun k t => t 19 = vint (k : Int) ∧ t 18 = vbool (LB k)) ⟨s19, by rw [hlst0]; exact s18⟩ ?_
  clear s18 s19 hlst0
  rintro k t1 hk ⟨h19, h18⟩
  by_cases hkl : k < A.length
  case pos =>
    have c1 : (k : Int) < (A.length : Int) := by omega
    have c3 : k * 2 + 2 ≤ A.length * 2 := by omega
    have g1 := hgt.out k hkl
    have C3 := hSG.out k hkl
    have w1 := w_add1 (k := k) (by omega)
    have hz := hlstS.out k
    have g2 : (A.flatMap fgC)[k * 2]? = some (.sl (A.getD k noF).1.length ((A.getD k noF).1.flatMap Grip.cells) .no) := by
      have h1 : (((A.flatMap fgC).drop (k * 2)).take 2)[0]? = some (.sl (A.getD k noF).1.length ((A.getD k noF).1.flatMap Grip.cells) .no) := by rw [g1]; rfl
      rwa [List.getElem?_take, if_pos (by decide), List.getElem?_drop, Nat.add_zero] at h1
    generalize (A.getD k noF).1 = Gk at *
    generalize A.flatMap fgC = FL at *
    clear g1 hk
    replace hkl := Hid.mk hkl
    cases hb1 : LB k
    · rw [hb1, Bool.false_or] at hz
      rw [hb1] at h18
      replace hz := Hid.mk hz
      replace hb1 := Hid.mk hb1
      repeat' (with_reducible first | refine x_ops ?_ | simp only [go_sem, Nat.reduceAdd, Nat.reduceEqDiff, Nat.reduceLT, Nat.reduceLeDiff, Nat.reduceMul, Nat.reduceSub, Nat.reducePow, Nat.reduceDiv, Nat.reduceMod, Nat.reduceBEq, Int.reduceBEq, Int.reduceLT, reduceIte, tIs, tBs, tPs, vund, *] | (with_reducible refine xc (C3) ?_) | ((first | refine gd1 ?_ ?_ | refine gd2 ?_ ?_ | refine gd3 ?_ ?_) <;> (first | exact @False.elim _ | intro hc)))
      exact nf hkl.out ⟨vv, by rw [hz.out]; exact vw⟩ rfl
    · rw [hb1, Bool.true_or] at hz
      rw [hb1] at h18
      replace hz := Hid.mk hz
      replace hb1 := Hid.mk hb1
      repeat' (with_reducible first | refine x_ops ?_ | simp only [go_sem, Nat.reduceAdd, Nat.reduceEqDiff, Nat.reduceLT, Nat.reduceLeDiff, Nat.reduceMul, Nat.reduceSub, Nat.reducePow, Nat.reduceDiv, Nat.reduceMod, Nat.reduceBEq, Int.reduceBEq, Int.reduceLT, reduceIte, tIs, tBs, tPs, vund, *] | (with_reducible refine xc (C3) ?_) | ((first | refine gd1 ?_ ?_ | refine gd2 ?_ ?_ | refine gd3 ?_ ?_) <;> (first | exact @False.elim _ | intro hc)))
      exact nf hkl.out ⟨vv, by rw [hz.out]; exact vw⟩ rfl
  have hke : k = A.length := by omega
  subst hke
  have c1 : ¬ (A.length : Int) < (A.length : Int) := by omega
  clear hkl hk
  rcases hall2.out with hL | ⟨hn, hs⟩
  · rw [hL] at h18
    replace hL := Hid.mk hL
    repeat' (with_reducible first | refine x_ops ?_ | refine wk ?_ | ((first | refine gd1 ?_ ?_ | refine gd2 ?_ ?_ | refine gd3 ?_ ?_) <;> (first | exact @False.elim _ | intro hc)))
    unfold c_theorbolaw06_HandListed_p17
    repeat' (with_reducible first | refine x_ops ?_ | simp only [go_sem, Nat.reduceAdd, Nat.reduceEqDiff, Nat.reduceLT, Nat.reduceLeDiff, Nat.reduceMul, Nat.reduceSub, Nat.reducePow, Nat.reduceDiv, Nat.reduceMod, Nat.reduceBEq, Int.reduceBEq, Int.reduceLT, reduceIte, tIs, tBs, tPs, vund, *] | ((first | refine gd1 ?_ ?_ | refine gd2 ?_ ?_ | refine gd3 ?_ ?_) <;> (first | exact @False.elim _ | intro hc)))
    refine vrun_skip vv ?_
    repeat' (with_reducible first | refine x_ops ?_ | simp only [go_sem, Nat.reduceAdd, Nat.reduceEqDiff, Nat.reduceLT, Nat.reduceLeDiff, Nat.reduceMul, Nat.reduceSub, Nat.reducePow, Nat.reduceDiv, Nat.reduceMod, Nat.reduceBEq, Int.reduceBEq, Int.reduceLT, reduceIte, tIs, tBs, tPs, vund, *] | (with_reducible refine xc (C5) ?_) | ((first | refine gd1 ?_ ?_ | refine gd2 ?_ ?_ | refine gd3 ?_ ?_) <;> (first | exact @False.elim _ | intro hc)))
    exact finV_dry rfl vv
  have hs' : soonB (G, rc) ((A.getD (A.length - 1) noF).1, (A.getD (A.length - 1) noF).2) = false := hs
  have C4 := hSO.out
  rw [hs'] at C4
  have g1 := hgl.out
  have w1 : IntKind.i64.wrap ((A.length : Int) - 1) = ((A.length - 1 : Nat) : Int) := by rw [w_in (by omega)]; omega
  have c5 : ((A.length - 1 : Nat) : Int) < (A.length : Int) := by omega
  have c6 : (A.length - 1) * 2 + 2 ≤ A.length * 2 := by omega
  generalize A.getD (A.length - 1) noF = f at *
  obtain ⟨Gf, cf⟩ := f
  dsimp only at C4 g1
  clear hs hs' hSO hSG hgt hgl hall2 hlstS
  cases hb1 : LB A.length
  · rw [hb1] at h18
    replace hb1 := Hid.mk hb1
    repeat' (with_reducible first | refine x_ops ?_ | refine wk ?_ | ((first | refine gd1 ?_ ?_ | refine gd2 ?_ ?_ | refine gd3 ?_ ?_) <;> (first | exact @False.elim _ | intro hc)))
    unfold c_theorbolaw06_HandListed_p17
    repeat' (with_reducible first | refine x_ops ?_ | simp only [go_sem, Nat.reduceAdd, Nat.reduceEqDiff, Nat.reduceLT, Nat.reduceLeDiff, Nat.reduceMul, Nat.reduceSub, Nat.reducePow, Nat.reduceDiv, Nat.reduceMod, Nat.reduceBEq, Int.reduceBEq, Int.reduceLT, reduceIte, tIs, tBs, tPs, vund, *] | (with_reducible refine xc (C4) ?_) | (with_reducible refine xc (C5) ?_) | ((first | refine gd1 ?_ ?_ | refine gd2 ?_ ?_ | refine gd3 ?_ ?_) <;> (first | exact @False.elim _ | intro hc)))
    exact finV_dry rfl vv
  · rw [hb1] at h18
    replace hb1 := Hid.mk hb1
    repeat' (with_reducible first | refine x_ops ?_ | refine wk ?_ | ((first | refine gd1 ?_ ?_ | refine gd2 ?_ ?_ | refine gd3 ?_ ?_) <;> (first | exact @False.elim _ | intro hc)))
    unfold c_theorbolaw06_HandListed_p17
    repeat' (with_reducible first | refine x_ops ?_ | simp only [go_sem, Nat.reduceAdd, Nat.reduceEqDiff, Nat.reduceLT, Nat.reduceLeDiff, Nat.reduceMul, Nat.reduceSub, Nat.reducePow, Nat.reduceDiv, Nat.reduceMod, Nat.reduceBEq, Int.reduceBEq, Int.reduceLT, reduceIte, tIs, tBs, tPs, vund, *] | ((first | refine gd1 ?_ ?_ | refine gd2 ?_ ?_ | refine gd3 ?_ ?_) <;> (first | exact @False.elim _ | intro hc)))
    refine vrun_skip vv ?_
    repeat' (with_reducible first | refine x_ops ?_ | simp only [go_sem, Nat.reduceAdd, Nat.reduceEqDiff, Nat.reduceLT, Nat.reduceLeDiff, Nat.reduceMul, Nat.reduceSub, Nat.reducePow, Nat.reduceDiv, Nat.reduceMod, Nat.reduceBEq, Int.reduceBEq, Int.reduceLT, reduceIte, tIs, tBs, tPs, vund, *] | (with_reducible refine xc (C4) ?_) | (with_reducible refine xc (C5) ?_) | ((first | refine gd1 ?_ ?_ | refine gd2 ?_ ?_ | refine gd3 ?_ ?_) <;> (first | exact @False.elim _ | intro hc)))
    exact finV_dry rfl vv
end Go.Proofs.Ytojjdkoglhecbaa
namespace Go.Proofs.Ytojjdkoglhecbaa
open Go.RowKit

theorem wv_both {h : Hand} {l : List Chord} (hw : wvE h l = 0) : bothE h l = 0 := by
  rw [wvE] at hw
  by_cases hb : bothE h l = 0
  · exact hb
  · rw [if_neg hb] at hw; exact hw
theorem fgL_at {h : Hand} {l : List Chord} {Gs : List (List Grip)} {q i : Nat} (hl : 0 < l.length) (hi : i < (fgL h l Gs q).length) : i < q ∧ i < (rtT h l Gs).length ∧ (fgL h l Gs q).getD i noF = fgW h l Gs ((rtT h l Gs).getD i noW) := by
  rw [fgL_len q hl] at hi
  have h1 : i < q := by omega
  have h2 : i < (rtT h l Gs).length := by omega
  refine ⟨h1, h2, ?_⟩
  rw [fgL, if_neg (by omega), List.getD_eq_getElem?_getD, List.getElem?_map, List.getElem?_take, if_pos h1, List.getD_eq_getElem?_getD, List.getElem?_eq_getElem h2]; rfl
theorem ls_all {h : Hand} {l : List Chord} (hl : Fits l) (hw : wvE h l = 0) {q : Nat} (hq : 1 ≤ q) :
    (∀ i, i < (fgL h l (tabG h l) q).length → valR h l ((fgL h l (tabG h l) q).getD i noF).1 = (((fgL h l (tabG h l) q).getD i noF).2, 0, 0)) ∧
    (∀ i, 0 < i → i < (fgL h l (tabG h l) q).length → soonB ((fgL h l (tabG h l) q).getD (i - 1) noF) ((fgL h l (tabG h l) q).getD i noF) = true) ∧
    ∀ G, (valR h l G).2.2 = 0 → lstB (fgL h l (tabG h l) q) G (fgL h l (tabG h l) q).length = true ∨ (¬ (fgL h l (tabG h l) q).length < q ∧ soonB (G, (valR h l G).1) ((fgL h l (tabG h l) q).getD ((fgL h l (tabG h l) q).length - 1) noF) = false) := by
  have hn := wv_net hl hw
  have hb := wv_both hw
  have hT : ∀ i, i < l.length → (tabG h l).getD i [] = grpA h (l.getD i noC) := fun i hi => tabG_at hi
  by_cases h0 : l.length = 0
  · have hA : fgL h l (tabG h l) q = [([], 0)] := by rw [fgL, if_pos h0]
    rw [hA]
    have hv : valR h l [] = (0, 0, 0) := val_isG hb (by rw [h0]; rfl) True.intro
    refine ⟨fun i hi => ?_, fun i h1 hi => ?_, fun G hG => .inl ?_⟩
    · have : i = 0 := by simp at hi; omega
      subst this; exact hv
    · simp at hi; omega
    · obtain ⟨_, h2, _, _⟩ := val_okG hG
      have : G = [] := List.eq_nil_of_length_eq_zero (by omega)
      subst this; exact lstB_of (j := 0) rfl 1 (by decide)
  have hp : 0 < l.length := by omega
  refine ⟨fun i hi => ?_, fun i h1 hi => ?_, fun G hG => ?_⟩
  · obtain ⟨h1, h2, h3⟩ := fgL_at hp hi
    obtain ⟨r1, r2, r3⟩ := rt_path hn hT hp h2
    rw [h3, val_isG hb r3 r1, r2]
  · obtain ⟨a1, a2, a3⟩ := fgL_at hp hi
    obtain ⟨b1, b2, b3⟩ := fgL_at hp (show i - 1 < (fgL h l (tabG h l) q).length by omega)
    rw [a3, b3]
    exact rt_lex hn hT hp (by omega) a2
  · obtain ⟨_, h2, h3, h4⟩ := val_okG hG
    obtain ⟨j, hj, h5⟩ := rt_all hn hT hp h2 h3
    have hlen := fgL_len (h := h) (l := l) (Gs := tabG h l) q hp
    by_cases hjq : j < q
    · left
      have hj2 : j < (fgL h l (tabG h l) q).length := by omega
      exact lstB_of (j := j) (by rw [(fgL_at hp hj2).2.2, h5]) _ hj2
    · right
      have hlq : (fgL h l (tabG h l) q).length = q := by omega
      refine ⟨by omega, ?_⟩
      rw [(fgL_at hp (show (fgL h l (tabG h l) q).length - 1 < (fgL h l (tabG h l) q).length by omega)).2.2, hlq, h4, ← h5]
      exact soonB_asym (rt_lex hn hT hp (by omega) hj)
set_option maxHeartbeats 4000000 in
theorem handlisted_fn (h : Hand) (l : List Chord) (hl : Fits l) (most : Int) (picks : List Int) (hp : picks.length ≤ 17592186044416) : Fn Try.prog Gd 20 [srV h l, vint most, tIs picks] (vbool true) := by
  refine Fn.of_vx0 k_theorbolaw06_HandListed (by simp) (by rw [V.pures, pure_sr, V.pures, V.pures, pure_tIs]; rfl) ?_
  have C0 := heavy_fn h l hl
  have C1 := List_fn h l hl most
  have C5 := works_fn
  have hl0 := hl.1
  have hfi := ls_fits (h := h) hl most
  have hbg := ls_big (h := h) (l := l) most
  unfold Hand.val tCs at C0 C1
  unfold c_theorbolaw06_HandListed srV tCs
  generalize hvB h l = hv at *
  cases hv
  case true =>
    clear C1 hfi hbg
    repeat' (with_reducible first | refine x_ops ?_ | refine wk ?_ | (with_reducible refine xc (C0) ?_) | (with_reducible refine xc (C5) ?_) | ((first | refine gd1 ?_ ?_ | refine gd2 ?_ ?_ | refine gd3 ?_ ?_) <;> (first | exact @False.elim _ | intro hc)))
    all_goals exact finV_dry rfl vv
  by_cases hok : (lsR h l most).2 = 0
  case neg =>
    have e1 : ((lsR h l most).2 == 0) = false := by rw [beq_eq_false_iff_ne]; exact hok
    unfold lsV tFs at C1
    generalize lsR h l most = r at *
    obtain ⟨A, e⟩ := r
    dsimp only at C1 e1
    generalize A.flatMap fgC = FL at *
    generalize A.length = N at *
    clear hok hfi hbg hl hl0
    repeat' (with_reducible first | refine x_ops ?_ | refine wk ?_ | (with_reducible refine xc (C0) ?_) | (with_reducible refine xc (C1) ?_) | (with_reducible refine xc (C5) ?_) | ((first | refine gd1 ?_ ?_ | refine gd2 ?_ ?_ | refine gd3 ?_ ?_) <;> (first | exact @False.elim _ | intro hc)))
    all_goals exact finV_dry rfl vv
  have hle : (lsR h l most) = (fgL h l (tabG h l) most.toNat, 0) ∧ wvE h l = 0 ∧ (1 ≤ most ∧ most ≤ 64) ∧ ¬ fgL h l (tabG h l) most.toNat = [] := by
    rw [lsR] at hok ⊢
    by_cases hw : wvE h l = 0
    · rw [if_pos hw] at hok ⊢
      by_cases hm : 1 ≤ most ∧ most ≤ 64
      · rw [if_pos hm] at hok ⊢
        by_cases hF : fgL h l (tabG h l) most.toNat = []
        · rw [if_pos hF] at hok; cases hok
        · rw [if_neg hF]; exact ⟨rfl, hw, hm, hF⟩
      · rw [if_neg hm] at hok; cases hok
    · rw [if_neg hw] at hok; exact absurd hok hw
  obtain ⟨e0, hw, hm, hne⟩ := hle
  rw [e0] at C1 hfi hbg
  obtain ⟨q, rfl⟩ : ∃ q : Nat, most = (q : Int) := ⟨most.toNat, by omega⟩
  rw [Int.toNat_natCast] at *
  have hl4 := (both_ok (wv_both hw)).2.1
  obtain ⟨f1, f2, f3⟩ := ls_all hl hw (q := q) (by omega)
  have hN1 : 1 ≤ (fgL h l (tabG h l) q).length := List.length_pos_iff.2 hne
  have hNq : (fgL h l (tabG h l) q).length ≤ q := by
    by_cases h0 : l.length = 0
    · rw [fgL, if_pos h0]; simp; omega
    · rw [fgL_len q (by omega)]; omega
  unfold lsV tFs at C1
  dsimp only at C1 hfi hbg
  generalize fgL h l (tabG h l) q = A at *
  have T := fun (t : Nat → V) (M : Mm) (hb : Nat) (tk : Tok) s1 s2 s7 s8 s9 o7 l7 => listed_tail h l hl hl4 picks hp (q : Int) A hN1 (by omega) hbg hfi (fun hv => by
    rcases f3 _ hv with h1 | ⟨h1, h2⟩
    · exact .inl h1
    · exact .inr ⟨by omega, h2⟩) (t := t) (M := M) (hb := hb) (tk := tk) s1 s2 s7 s8 s9 o7 l7
  have hmem : ∀ k, k < A.length → FitsG (A.getD k noF).1 := fun k hk => hfi _ (by rw [List.getD_eq_getElem?_getD, List.getElem?_eq_getElem hk]; exact List.getElem_mem hk)
  have VA := fun (k : Nat) (hk : k < A.length) => valid_fn h l hl (A.getD k noF).1 (hmem k hk)
  have SO := fun (k : Nat) (h0 : 0 < k) (hk : k < A.length) => sooner_fn (A.getD (k - 1) noF).1 (A.getD k noF).1 (A.getD (k - 1) noF).2 (A.getD k noF).2 (hmem _ (by omega)) (hmem k hk)
  have hgt := fun (k : Nat) (hk : k < A.length) => fgs_take2 hk
  have hfl : (A.flatMap fgC).length = A.length * 2 := flat_len fgC_l A
  replace T := Hid.mk T
  replace VA := Hid.mk VA
  replace SO := Hid.mk SO
  replace f1 := Hid.mk f1
  replace f2 := Hid.mk f2
  replace hgt := Hid.mk hgt
  clear e0 hw hok hfi hmem f3 hne
  repeat' (with_reducible first | refine x_ops ?_ | refine wk ?_ | (with_reducible refine xc (C0) ?_) | (with_reducible refine xc (C1) ?_) | (with_reducible refine xc (C5) ?_) | ((first | refine gd1 ?_ ?_ | refine gd2 ?_ ?_ | refine gd3 ?_ ?_) <;> (first | exact @False.elim _ | intro hc)))
  refine x_genT (fun t M' => (t 1 = vint q ∧ t 2 = tIs picks ∧ t 8 = .sl l.length (l.flatMap Chord.cells) .no ∧ t 9 = .sl A.length (A.flatMap fgC) .no ∧ t 11 = vint 0) ∧ ∃ hb, t 7 = .ptr hb 0 ∧ M'.obj hb = some (.box [tIs h.low, tIs h.high, tBs h.barre, vint h.top, vint h.jump, vint h.shift, vint h.lift, vint h.bar, vint h.stretch, vint h.slide] 25) ∧ hb < M'.next) ⟨⟨vv, vv, vv, vv, vv⟩, _, vv, (by ((refine ve ?_; try exact True.intro)); simp [tIs, tBs]), by show 6 < 9; decide⟩ ?_
  clear C0 C1
  rintro t0 M0' ⟨⟨s1, s2, s8, s9, s11⟩, hb, s7, o7, l7⟩
  replace T := T.out
  refine x_loopF w_theorbolaw06_HandListed_p7 kr A.length (fun k t => t 11 = vint (k : Int)) s11 ?_
  clear s11
  rintro k t1 hk h11
  by_cases hkl : k < A.length
  case neg =>
    have hke : k = A.length := by omega
    subst hke
    have c1 : ¬ (A.length : Int) < (A.length : Int) := by omega
    replace T := Hid.mk T
    have o70 := Hid.mk o7
    clear hkl hk o7
    repeat' (with_reducible first | refine x_ops ?_ | refine wk ?_ | ((first | refine gd1 ?_ ?_ | refine gd2 ?_ ?_ | refine gd3 ?_ ?_) <;> (first | exact @False.elim _ | intro hc)))
    exact T.out _ _ _ _ vw vw vw vw vw o70.out l7
  have c1 : (k : Int) < (A.length : Int) := by omega
  have c3 : k * 2 + 2 ≤ A.length * 2 := by omega
  have g1 := hgt.out k hkl
  have V1 := VA.out k hkl
  rw [f1.out k hkl] at V1
  have w1 := w_add1 (k := k) (by omega)
  have g2 : (A.flatMap fgC)[k * 2]? = some (tGs (A.getD k noF).1) := by
    have h1 : (((A.flatMap fgC).drop (k * 2)).take 2)[0]? = some (tGs (A.getD k noF).1) := by rw [g1]; rfl
    rwa [List.getElem?_take, if_pos (by decide), List.getElem?_drop, Nat.add_zero] at h1
  have g3 : (A.flatMap fgC)[k * 2 + 1]? = some (vint (A.getD k noF).2) := by
    have h1 : (((A.flatMap fgC).drop (k * 2)).take 2)[1]? = some (vint (A.getD k noF).2) := by rw [g1]; rfl
    rwa [List.getElem?_take, if_pos (by decide), List.getElem?_drop] at h1
  unfold Hand.val tCs tGs at V1
  unfold tGs at g1 g2
  have e1 : ((A.getD k noF).2 == (A.getD k noF).2) = true := beq_self_eq_true _
  dsimp only at V1
  by_cases hk0 : k = 0
  · have c4 : ¬ (0 : Int) < (k : Int) := by omega
    generalize A.getD k noF = f at *
    obtain ⟨G, c⟩ := f
    generalize A.flatMap fgC = FL at *
    replace hkl := Hid.mk hkl
    dsimp only at V1 e1 g1 g2 g3
    clear hk hk0 T VA SO f1 f2 hgt
    repeat' (with_reducible first | refine x_ops ?_ | simp only [go_sem, Nat.reduceAdd, Nat.reduceEqDiff, Nat.reduceLT, Nat.reduceLeDiff, Nat.reduceMul, Nat.reduceSub, Nat.reducePow, Nat.reduceDiv, Nat.reduceMod, Nat.reduceBEq, Int.reduceBEq, Int.reduceLT, reduceIte, tIs, tBs, tPs, vund, *] | (with_reducible refine xc (V1) ?_) | ((first | refine gd1 ?_ ?_ | refine gd2 ?_ ?_ | refine gd3 ?_ ?_) <;> (first | exact @False.elim _ | intro hc)))
    exact nf hkl.out vv rfl
  have c4 : (0 : Int) < (k : Int) := by omega
  have S1 := SO.out k (by omega) hkl
  have h2 := f2.out k (by omega) hkl
  have hs' : soonB ((A.getD (k - 1) noF).1, (A.getD (k - 1) noF).2) ((A.getD k noF).1, (A.getD k noF).2) = true := h2
  rw [hs'] at S1
  have g4 := hgt.out (k - 1) (by omega)
  have w2 : IntKind.i64.wrap ((k : Int) - 1) = ((k - 1 : Nat) : Int) := by rw [w_in (by omega)]; omega
  have c5 : ((k - 1 : Nat) : Int) < (A.length : Int) := by omega
  have c6 : (k - 1) * 2 + 2 ≤ A.length * 2 := by omega
  unfold tGs at S1 g4
  clear h2 hs'
  generalize A.getD k noF = f at *
  generalize A.getD (k - 1) noF = f' at *
  obtain ⟨G, c⟩ := f
  obtain ⟨G', c'⟩ := f'
  generalize A.flatMap fgC = FL at *
  replace hkl := Hid.mk hkl
  dsimp only at V1 e1 g1 g2 g3 g4 S1
  clear hk hk0 T VA SO f1 f2 hgt
  repeat' (with_reducible first | refine x_ops ?_ | simp only [go_sem, Nat.reduceAdd, Nat.reduceEqDiff, Nat.reduceLT, Nat.reduceLeDiff, Nat.reduceMul, Nat.reduceSub, Nat.reducePow, Nat.reduceDiv, Nat.reduceMod, Nat.reduceBEq, Int.reduceBEq, Int.reduceLT, reduceIte, tIs, tBs, tPs, vund, *] | (with_reducible refine xc (V1) ?_) | (with_reducible refine xc (S1) ?_) | ((first | refine gd1 ?_ ?_ | refine gd2 ?_ ?_ | refine gd3 ?_ ?_) <;> (first | exact @False.elim _ | intro hc)))
  exact nf hkl.out vv rfl
end Go.Proofs.Ytojjdkoglhecbaa
