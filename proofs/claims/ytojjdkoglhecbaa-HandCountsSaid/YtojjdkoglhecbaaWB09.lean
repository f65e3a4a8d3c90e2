/- The lister, run: the fingering of a rank. The lister, run: the fingering of a rank, walked. Functions of the program, as code on values by numbers: printed by a program from the program that was given, and held against it here. The lister, run: the first fingering, Best and List, by fingerings in order. The lister, run: first and Best. All frets and positions raised: plain. rest and chosen of the laws, on values. The law HandRaised, on values. Laws about tables: SameTable, Changed. More arguments read: tables and changes. Heavy of the laws, on values. The law HandProves, on values. List and Best, of both, run; the law HandLists. The reference's Count, run; the law HandCounts. The law HandCounts, run. -/
import Derived.Test.YtojjdkoglhecbaaG0
import Derived.Test.YtojjdkoglhecbaaWk
import Derived.Test.YtojjdkoglhecbaaWB03
import Derived.Test.YtojjdkoglhecbaaWB04
import Derived.Test.YtojjdkoglhecbaaXw
import Derived.Test.YtojjdkoglhecbaaWB06
import Derived.Test.YtojjdkoglhecbaaWB07
import Derived.Test.YtojjdkoglhecbaaWB08
set_option linter.unusedSimpArgs false
set_option linter.unusedVariables false
namespace Go.Proofs.Ytojjdkoglhecbaa
open Go.RowKit

/-- What fingering leaves. -/
def FgPostG (h : Hand) (l : List Chord) (Gs : List (List Grip)) (tb nq rt : Nat) (rs : List Nat) (r : Nat) (own : Own) (tok : Tok) (v : V) (M : Mm) (res : V) (M' : Mm) : Prop :=
  LiT h l Gs tb nq rt rs own tok v M M' ∧ ((r < (rtT h l Gs).length ∧ ∃ tf, res = .tup [.agg [.sl (fgW h l Gs ((rtT h l Gs).getD r noW)).1.length ((fgW h l Gs ((rtT h l Gs).getD r noW)).1.flatMap Grip.cells) tf, vint (fgW h l Gs ((rtT h l Gs).getD r noW)).2], vbool true]) ∨
    (¬ r < (rtT h l Gs).length ∧ res = .tup [.agg [.sl 0 [] .exact, vint 0], vbool false]))
theorem fgPostG_ex {h : Hand} {l : List Chord} {Gs : List (List Grip)} {tb nq rt : Nat} {rs : List Nat} (r : Nat) {own : Own} {tok : Tok} {v : V} {M : Mm} (hS : LiS h l Gs tb nq rt rs own tok v M) : ∃ res M', FgPostG h l Gs tb nq rt rs r own tok v M res M' := by
  by_cases hr : r < (rtT h l Gs).length
  · exact ⟨_, M, ⟨own, tok, v, hS, Trn.refl _ _ _ _ _ _ _ _⟩, .inl ⟨hr, .no, rfl⟩⟩
  · exact ⟨_, M, ⟨own, tok, v, hS, Trn.refl _ _ _ _ _ _ _ _⟩, .inr ⟨hr, rfl⟩⟩
/-- Where fingering stands. -/
structure FgG (h : Hand) (l : List Chord) (Gs : List (List Grip)) (tb nq rt : Nat) (rs : List Nat) (own0 : Own) (tok0 : Tok) (v0 : V) (mS : Mm) (fb wb : Nat) (T : List Grip) (cost : Int) (i : Nat) (own : Own) (tok : Tok) (v : V) (tf : Tok) (G : List Grip) (c x y : Int) (M : Mm) : Prop where
  st : LiS h l Gs tb nq rt rs own tok v M
  tr : Trn rs l.length 0 rt own0 mS tok0 v0 own M tok v
  fo : mS.next ≤ fb ∧ fb < M.next ∧ own fb = none
  wo : mS.next ≤ wb ∧ wb < M.next ∧ own wb = none
  vw : ∀ n, v ≠ .gsl wb n 3
  ne : fb ≠ wb
  gl : G.length = i
  f : M.obj fb = some (.box [.sl i (G.flatMap Grip.cells) tf, vint cost] 40)
  ap : Apb M tf i 53 2
  ao : ∀ q, tf = .own q → mS.next ≤ q ∧ own q = none
  w : M.obj wb = some (.box [vint c, vint x, vint y] 154)
  p : i < l.length → ∃ k r : Nat, x = k ∧ y = r ∧ k < (Gs.getD i []).length ∧ r < (tl h l Gs i k).length ∧ r ≤ 100 ∧ G ++ grps Gs i (pth h l Gs i k r) = T
  e : i = l.length → G = T
/-- The root's numbers are none of theirs. -/
theorem LiS.nb {h : Hand} {l : List Chord} {Gs : List (List Grip)} {tb nq rt : Nat} {rs : List Nat} {own : Own} {tok : Tok} {v : V} {M : Mm} (hS : LiS h l Gs tb nq rt rs own tok v M) {q : Nat} {cs : List V} {t : TypeId} (ho : M.obj q = some (.box cs t)) (h1 : t ≠ 159) (h2 : t ≠ 154) (h3 : t ≠ 150) :
    q ≠ rt ∧ (∀ n, v ≠ .gsl q n 3) ∧ tok ≠ .own q ∧ ∀ y, 0 ≤ y → y < l.length → q ≠ rs.getD y 0 := by
  obtain ⟨j, due, H, hs⟩ := hS.nd
  refine ⟨ne_type ho hs.box h1, fun n e => ?_, fun e => ?_, fun y hy hyl => ?_⟩
  · obtain ⟨_, _, cs', h9⟩ := hs.vlt e
    exact ne_type ho h9 h2 rfl
  · have := (hs.tlt e).2; rw [ho] at this; cases this
  · obtain ⟨R, r1, _⟩ := hS.ls.row y hy hyl
    exact ne_type ho r1 h3
theorem LiS.nr {h : Hand} {l : List Chord} {Gs : List (List Grip)} {tb nq rt : Nat} {rs : List Nat} {own : Own} {tok : Tok} {v : V} {M : Mm} (hS : LiS h l Gs tb nq rt rs own tok v M) {q n z : Nat} {e : TypeId} (ho : M.obj q = some (.row n e z)) (h1 : e ≠ 154) :
    q ≠ rt ∧ (∀ n, v ≠ .gsl q n 3) ∧ tok ≠ .own q ∧ ∀ y, 0 ≤ y → y < l.length → q ≠ rs.getD y 0 := by
  obtain ⟨j, due, H, hs⟩ := hS.nd
  refine ⟨fun e2 => ?_, fun n e2 => ?_, fun e2 => ?_, fun y hy hyl e2 => ?_⟩
  · subst e2; rw [hs.box] at ho; cases ho
  · obtain ⟨_, _, cs', h9⟩ := hs.vlt e2
    rw [h9] at ho; cases ho
  · have := (hs.tlt e2).2; rw [ho] at this; injection this with this; injection this with _ this; exact h1 this
  · obtain ⟨R, r1, _⟩ := hS.ls.row y hy hyl
    rw [e2, r1] at ho; cases ho
/-- New numbers are set aside; boxes that are nobody's are written. -/
theorem LiS.up {h : Hand} {l : List Chord} {Gs : List (List Grip)} {tb nq rt : Nat} {rs : List Nat} {own : Own} {tok : Tok} {v : V} {M M' : Mm} (hS : LiS h l Gs tb nq rt rs own tok v M) (hn : M.next ≤ M'.next) (hf : ∀ q, q < M.next → M'.obj q = M.obj q) : LiS h l Gs tb nq rt rs own tok v M' := by
  obtain ⟨j, due, H, hs⟩ := hS.nd
  exact ⟨hS.ls.up hn hf, j, due, H, hs.up hn hf⟩
/-- What is nobody's may change. -/
theorem LiS.keep {h : Hand} {l : List Chord} {Gs : List (List Grip)} {tb nq rt : Nat} {rs : List Nat} {own : Own} {tok : Tok} {v : V} {M M' : Mm} (hS : LiS h l Gs tb nq rt rs own tok v M) (hn : M.next ≤ M'.next) (hf : ∀ q, q < M.next → (own q ≠ none ∨ q = tb ∨ q = nq ∨ q = rt ∨ (∃ n, v = .gsl q n 3) ∨ tok = .own q ∨ ∃ y, y < l.length ∧ q = rs.getD y 0) → M'.obj q = M.obj q) : LiS h l Gs tb nq rt rs own tok v M' := by
  obtain ⟨j, due, H, hs⟩ := hS.nd
  have hL := hS.ls
  refine ⟨hL.keep (Nat.le_refl _) hn (fun _ _ => rfl) (fun q hq => hL.cl q (Nat.le_trans hn hq)) (hf _ hL.ltt (.inr (.inl rfl))) (hf _ hL.ltn (.inr (.inr (.inl rfl)))) (fun y _ hy => hf _ (hL.ltr y hy) (.inr (.inr (.inr (.inr (.inr (.inr ⟨y, hy, rfl⟩))))))) fun q y k hq hqo _ => hf q hq (.inl (by rw [hqo]; intro e; cases e)), j, due, H, hs.keep hn (fun _ _ => rfl) fun q hq _ hqc => ?_⟩
  rcases hqc with e | e | e
  · exact hf q hq (.inr (.inr (.inr (.inl e))))
  · exact hf q hq (.inr (.inr (.inr (.inr (.inl e)))))
  · exact hf q hq (.inr (.inr (.inr (.inr (.inr (.inl e))))))
/-- A box of a call's own is written: it is none of the lister's. -/
theorem LiS.put {h : Hand} {l : List Chord} {Gs : List (List Grip)} {tb nq rt : Nat} {rs : List Nat} {own : Own} {tok : Tok} {v : V} {M : Mm} (hS : LiS h l Gs tb nq rt rs own tok v M) {b : Nat} (hb : own b = none) (h1 : b ≠ tb ∧ b ≠ nq ∧ b ≠ rt) (h2 : ∀ n, v ≠ .gsl b n 3) (h3 : tok ≠ .own b) (h4 : ∀ y, y < l.length → b ≠ rs.getD y 0) (a : AObj) : LiS h l Gs tb nq rt rs own tok v (M.put b a) :=
  hS.keep (Nat.le_refl _) fun q _ hq => put_other _ _ (fun e => by
    subst e
    rcases hq with h5 | h5 | h5 | h5 | ⟨n, h5⟩ | h5 | ⟨y, hy, h5⟩
    · exact h5 hb
    · exact h1.1 h5
    · exact h1.2.1 h5
    · exact h1.2.2 h5
    · exact h2 n h5
    · exact h3 h5
    · exact h4 y hy h5)
theorem LiS.putB {h : Hand} {l : List Chord} {Gs : List (List Grip)} {tb nq rt : Nat} {rs : List Nat} {own : Own} {tok : Tok} {v : V} {M : Mm} (hS : LiS h l Gs tb nq rt rs own tok v M) {b : Nat} {cs : List V} {t : TypeId} (ho : M.obj b = some (.box cs t)) (hb : own b = none)
    (h1 : t ≠ 159 ∧ t ≠ 150 ∧ t ≠ 162 ∧ t ≠ 163) (hv : ∀ n, v ≠ .gsl b n 3) (a : AObj) : LiS h l Gs tb nq rt rs own tok v (M.put b a) := by
  obtain ⟨j, due, H, hs⟩ := hS.nd
  refine hS.put hb ⟨ne_type ho hS.ls.tbo h1.2.2.1, ne_type ho hS.ls.nqo h1.2.2.2, ne_type ho hs.box h1.1⟩ hv (fun e => ?_) (fun y hy => ?_) a
  · have := (hs.tlt e).2; rw [ho] at this; cases this
  · obtain ⟨R, r1, _⟩ := hS.ls.row y (Nat.zero_le _) hy
    exact ne_type ho r1 h1.2.1
/-- Such a box is kept by the lister's calls. -/
theorem LiS.box {h : Hand} {l : List Chord} {Gs : List (List Grip)} {tb nq rt : Nat} {rs : List Nat} {own own' : Own} {tok tok' : Tok} {v v' : V} {M M' : Mm} (hS : LiS h l Gs tb nq rt rs own tok v M) (hT : Trn rs l.length 0 rt own M tok v own' M' tok' v') {b : Nat} {cs : List V} {t : TypeId} (hlt : b < M.next) (ho : M.obj b = some (.box cs t)) (hb : own b = none)
    (h1 : t ≠ 159 ∧ t ≠ 150) (hv : ∀ n, v ≠ .gsl b n 3) : M'.obj b = some (.box cs t) := by
  obtain ⟨j, due, H, hs⟩ := hS.nd
  refine (hT.fr b hlt (ne_type ho hs.box h1.1) hv (fun e => ?_) (fun y k e => by rw [hb] at e; cases e) (fun y hy hyl => ?_)).trans ho
  · have := (hs.tlt e).2; rw [ho] at this; cases this
  · obtain ⟨R, r1, _⟩ := hS.ls.row y hy hyl
    exact ne_type ho r1 h1.2
end Go.Proofs.Ytojjdkoglhecbaa
namespace Go.Proofs.Ytojjdkoglhecbaa
open Go.RowKit

theorem rt_at {h : Hand} {l : List Chord} {Gs : List (List Grip)} (hl : 0 < l.length) {r : Nat} (hr : r < (rtT h l Gs).length) : ∃ m s : Nat, m < (Gs.getD 0 []).length ∧ s < (tl h l Gs 0 m).length ∧ s ≤ r ∧ (rtT h l Gs).getD r noW = (((rtT h l Gs).getD r noW).1, (m : Int), (s : Int)) := by
  have h1 := rt_rank hl hr
  obtain ⟨m, s, m1, m2, m3⟩ := mem_mrg.1 (mem_nthW hr)
  rw [rtC, List.length_map] at m2
  have m4 : (rtT h l Gs).getD r noW = ((rtC h l Gs m).getD s 0, (m : Int), (s : Int)) := m3
  rw [m4] at h1 ⊢
  exact ⟨m, s, m1, m2, by dsimp only at h1; omega, rfl⟩

set_option maxHeartbeats 4000000 in
theorem fingG_sfn {h : Hand} {l : List Chord} {Gs : List (List Grip)} (hn : NetOk h l Gs) (hl : 0 < l.length) {tb nq rt r : Nat} {rs : List Nat} {own : Own} {tok : Tok} {v : V} {M : Mm} (hS : LiS h l Gs tb nq rt rs own tok v M) (hr : r ≤ 100) :
    SFn Try.prog Gd 75 [.ptr tb 0, vint r] M (FgPostG h l Gs tb nq rt rs r own tok v M) := by
  refine SFn.of_vxS k_hand_lister_fingering_b (by simp) ?_
  have h4 := hn.len
  have gl := hn.gl
  have l1 := hS.ls.ltt
  have x0 : ¬ tb = M.next := by omega
  have hnet : netE h l Gs = .ept [.sl h.low.length (h.low.map vint) .no, .sl h.high.length (h.high.map vint) .no, .sl h.barre.length (h.barre.map vbool) .no, .lit (.int .i64 h.top), .lit (.int .i64 h.jump), .lit (.int .i64 h.shift), .lit (.int .i64 h.lift), .lit (.int .i64 h.bar), .lit (.int .i64 h.stretch), .lit (.int .i64 h.slide),
    .sl l.length (l.flatMap Chord.cells) .no, .sl Gs.length (Gs.map tGs) .no, .sl (owA h l Gs).length ((owA h l Gs).map tIs) .no, .sl (rsA h l Gs).length ((rsA h l Gs).map tIs) .no] 0 := rfl
  replace hnet := Hid.mk hnet
  replace gl := Hid.mk gl
  have o1 := hS.ls.tbo
  rw [hnet.out] at o1
  have e1 : ((l.length : Int) == 0) = false := by rw [beq_eq_false_iff_ne]; omega
  have low : ∀ a : AObj, ∀ q, q < M.next → ((⟨M.obj, M.next + 11⟩ : Mm).put M.next a).obj q = M.obj q := fun a q hq => put_other _ _ (by omega)
  have hS1 : LiS h l Gs tb nq rt rs own tok v ((⟨M.obj, M.next + 11⟩ : Mm).put M.next (.box [.sl 0 [] .exact, vint 0] 40)) := hS.up (by show M.next ≤ M.next + 11; omega) (low _)
  have GR := get_root hn hl hS1 hr
  have GE := grPost_ex r hS1
  have hof : own M.next = none := hS.ls.cl _ (Nat.le_refl _)
  have how : own (M.next + 8) = none := hS.ls.cl _ (Nat.le_add_right _ _)
  have hnf := hS1.nb (put_same _ _ _) (by decide) (by decide) (by decide)
  unfold c_hand_lister_fingering_b
  have hS0 := Hid.mk hS
  replace hS1 := Hid.mk hS1
  replace hn := Hid.mk hn
  replace low := Hid.mk low
  clear hS
  repeat' (with_reducible first | refine x_ops ?_ | refine wk ?_ | ((first | refine gd1 ?_ ?_ | refine gd2 ?_ ?_ | refine gd3 ?_ ?_) <;> (first | exact @False.elim _ | intro hc)))
  refine x_scallR [.ptr tb 0, vint (-1), vint 0, vint r] vw GR GE ?_
  rintro res M2 ⟨hres, own2, tok2, v2, hS2, hT2⟩
  have p1' : M.next + 11 ≤ M2.next := hT2.nx
  have of := (hT2.fr M.next (by show M.next < M.next + 11; omega) hnf.1 hnf.2.1 hnf.2.2.1 (fun y k e => by rw [hof] at e; cases e) hnf.2.2.2).trans (put_same _ _ _)
  have hof2 : own2 M.next = none := (hT2.ow _ (by show M.next < M.next + 11; omega)).trans hof
  have how2 : own2 (M.next + 8) = none := (hT2.ow _ (by show M.next + 8 < M.next + 11; omega)).trans how
  have hTa : Trn rs l.length 0 rt own M tok v own2 M2 tok2 v2 := (⟨by show M.next ≤ M.next + 11; omega, fun _ _ => rfl, fun q hq _ _ _ _ _ => low.out _ q hq, fun q n e => .inl ⟨n, e⟩, fun q e => .inl e⟩ : Trn rs l.length 0 rt own M tok v own ((⟨M.obj, M.next + 11⟩ : Mm).put M.next (.box [.sl 0 [] .exact, vint 0] 40)) tok v).trans hT2
  have hvw : ∀ n, v2 ≠ .gsl (M.next + 8) n 3 := fun n e => by
    rcases hT2.vn _ n e with ⟨n', e'⟩ | h9
    · obtain ⟨j, due, H, hs⟩ := hS0.out.nd
      have := (hs.vlt e').1; omega
    · have h8 : M.next + 11 ≤ M.next + 8 := h9; omega
  have hvf : ∀ n, v2 ≠ .gsl M.next n 3 := fun n e => by
    rcases hT2.vn _ n e with ⟨n', e'⟩ | h9
    · obtain ⟨j, due, H, hs⟩ := hS0.out.nd
      have := (hs.vlt e').1; omega
    · have h8 : M.next + 11 ≤ M.next := h9; omega
  have htw : ∀ q, M.next ≤ q → q < M.next + 11 → tok2 ≠ .own q := fun q h8 h7 e => by
    rcases hT2.tn q e with e' | h9
    · obtain ⟨j, due, H, hs⟩ := hS0.out.nd
      have := (hs.tlt e').1; omega
    · have h6 : M.next + 11 ≤ q := h9; omega
  have hold : (M.next ≠ tb ∧ M.next ≠ nq ∧ M.next ≠ rt) ∧ (M.next + 8 ≠ tb ∧ M.next + 8 ≠ nq ∧ M.next + 8 ≠ rt) ∧ (∀ y, y < l.length → M.next ≠ rs.getD y 0) ∧ ∀ y, y < l.length → M.next + 8 ≠ rs.getD y 0 := by
    obtain ⟨j, due, H, hs⟩ := hS0.out.nd
    have a1 := hS0.out.ls.ltt
    have a2 := hS0.out.ls.ltn
    have a3 := hs.lt
    exact ⟨⟨by omega, by omega, by omega⟩, ⟨by omega, by omega, by omega⟩, fun y hy => by have := hS0.out.ls.ltr y hy; omega, fun y hy => by have := hS0.out.ls.ltr y hy; omega⟩
  have putF : ∀ (Mx : Mm) a, LiS h l Gs tb nq rt rs own2 tok2 v2 Mx → LiS h l Gs tb nq rt rs own2 tok2 v2 (Mx.put M.next a) := fun Mx a hx => hx.put hof2 hold.1 hvf (htw _ (Nat.le_refl _) (by omega)) hold.2.2.1 a
  have putW : ∀ (Mx : Mm) a, LiS h l Gs tb nq rt rs own2 tok2 v2 Mx → LiS h l Gs tb nq rt rs own2 tok2 v2 (Mx.put (M.next + 8) a) := fun Mx a hx => hx.put how2 hold.2.1 hvw (htw _ (by omega) (by omega)) hold.2.2.2 a
  replace hTa := Hid.mk hTa
  replace hS2 := Hid.mk hS2
  replace putF := Hid.mk putF
  replace putW := Hid.mk putW
  replace hvw := Hid.mk hvw
  replace htw := Hid.mk htw
  clear GR GE hT2 hnf hvf
  have y1 : ¬ M.next = M.next + 8 := by omega
  have z2 : M.next < M2.next := by omega
  have z8 : M.next + 8 < M2.next := by omega
  by_cases hrl : r < (rtT h l Gs).length
  case neg =>
    rw [GtR, if_neg hrl] at hres
    subst hres
    replace hrl := Hid.mk hrl
    replace hold := Hid.mk hold
    clear o1
    repeat' (with_reducible first | refine x_ops ?_ | refine wk ?_ | ((first | refine gd1 ?_ ?_ | refine gd2 ?_ ?_ | refine gd3 ?_ ?_) <;> (first | exact @False.elim _ | intro hc)))
    refine ⟨.inr rfl, .tup [.agg [.sl 0 [] .exact, vint 0], vbool false], vv, ⟨own2, tok2, v2, ?_, ?_⟩, .inr ⟨hrl.out, rfl⟩⟩
    · repeat' (first | exact hS2.out | refine putF.out _ _ ?_ | refine putW.out _ _ ?_)
    · repeat' (first | exact hTa.out | refine Trn.put ?_ (by omega) _)
  obtain ⟨m, s, m1, m2, m3, m4⟩ := rt_at hl hrl
  have hfg : fgW h l Gs ((rtT h l Gs).getD r noW) = (grps Gs 0 (pth h l Gs 0 m s), ((rtT h l Gs).getD r noW).1) := by
    rw [fgW, m4]; simp only [Int.toNat_natCast]
  have hR : GtR (rtT h l Gs) r = .tup [.agg [vint ((rtT h l Gs).getD r noW).1, vint (m : Int), vint (s : Int)], vbool true] := by
    rw [GtR, if_pos hrl, m4]
  rw [hR] at hres
  subst hres
  have hPo : ∀ (Q : V → Mm → Prop), True := fun _ => trivial
  replace hfg := Hid.mk hfg
  generalize hT : grps Gs 0 (pth h l Gs 0 m s) = T at *
  generalize hw : (rtT h l Gs).getD r noW = w at *
  obtain ⟨cost, wm, ws⟩ := w
  dsimp only at m4
  replace hw := Hid.mk hw
  replace hT := Hid.mk hT
  replace hrl := Hid.mk hrl
  have z1 : tb < M2.next := hS2.out.ls.ltt
  have o2 := hS2.out.ls.tbo
  rw [hnet.out] at o2
  have x1 : ¬ tb = M.next + 8 := by omega
  replace hold := Hid.mk hold
  clear o1 m4 hR hPo
  repeat' (with_reducible first | refine x_ops ?_ | refine wk ?_ | ((first | refine gd1 ?_ ?_ | refine gd2 ?_ ?_ | refine gd3 ?_ ?_) <;> (first | exact @False.elim _ | intro hc)))
  refine x_genM (fun t M' => (t 0 = .ptr tb 0 ∧ t 4 = .ptr M.next 0 ∧ t 6 = .ptr (M.next + 8) 0 ∧ t 40 = vint l.length ∧ t 41 = vint 0) ∧ ∃ c x y, FgG h l Gs tb nq rt rs own tok v M M.next (M.next + 8) T cost 0 own2 tok2 v2 .exact [] c x y M')
    ⟨⟨vv, vv, vv, vv, vv⟩, cost, m, s, ⟨?_, ?_, ⟨Nat.le_refl _, ?_, hof2⟩, ⟨by omega, ?_, how2⟩, hvw.out, by omega, rfl, put_same _ _ _, .inl rfl, (fun q e => by cases e), ?_, fun _ => ⟨m, s, rfl, rfl, m1, m2, by omega, hT.out⟩, fun e => by omega⟩⟩ ?_
  · repeat' (first | exact hS2.out | refine putF.out _ _ ?_ | refine putW.out _ _ ?_)
  · repeat' (first | exact hTa.out | refine Trn.put ?_ (by omega) _)
  · exact z2
  · exact z8
  · exact (put_other _ _ (fun e => y1 e.symm)).trans (put_same _ _ _)
  rintro t0 M3 ⟨⟨a0, a4, a6, a40, a41⟩, c0, x0', y0', hs0⟩
  have hgM : M.next ≤ M.next := Nat.le_refl _
  refine x_loopW w_hand_lister_fingering_b_p9 kr l.length (fun i t M' => t 41 = vint (i : Int) ∧ ∃ own4 tok4 v4 tf G c x y, FgG h l Gs tb nq rt rs own tok v M M.next (M.next + 8) T cost i own4 tok4 v4 tf G c x y M') ⟨a41, own2, tok2, v2, .exact, [], c0, x0', y0', hs0⟩ ?_
  clear a41 hs0 of o2 z1 p1' hS2 hTa putF putW hvw htw hold hof2 how2 hof how
  rintro i t M4 hi ⟨h41, own4, tok4, v4, tf, G, c, x, y, hs⟩
  have f1 := hs.f
  have z2 := hs.fo.2.1
  have z3 := hs.wo.2.1
  have hgl := hs.gl
  have hs1 := Hid.mk hs
  by_cases hil : i < l.length
  case neg =>
    have hie : i = l.length := by omega
    subst hie
    have c1 : ¬ (l.length : Int) < (l.length : Int) := by omega
    have hGT := hs.e rfl
    subst hGT
    have hput : ∀ a, LiS h l Gs tb nq rt rs own4 tok4 v4 (M4.put M.next a) := fun a => hs.st.putB hs.f hs.fo.2.2 ⟨by decide, by decide, by decide, by decide⟩ (fun n e => by obtain ⟨j, due, H, hsn⟩ := hs.st.nd; obtain ⟨_, _, cs, h9⟩ := hsn.vlt e; exact ne_type hs.f h9 (by decide) rfl) a
    have htr := hs.tr
    replace hput := Hid.mk hput
    replace htr := Hid.mk htr
    replace hgl := Hid.mk hgl
    clear hs hil hi
    repeat' (with_reducible first | refine x_ops ?_ | refine wk ?_ | ((first | refine gd1 ?_ ?_ | refine gd2 ?_ ?_ | refine gd3 ?_ ?_) <;> (first | exact @False.elim _ | intro hc)))
    refine ⟨.inr rfl, .tup [.agg [.sl l.length (G.flatMap Grip.cells) tf, vint cost], vbool true], vw, ⟨own4, tok4, v4, hput.out _, htr.out.put (Nat.le_refl _) _⟩, .inl ⟨hrl.out, tf, ?_⟩⟩
    rw [hw.out, hfg.out, hgl.out]
  have c1 : (i : Int) < (l.length : Int) := by omega
  have w1 := w_add1 (k := i) (by omega)
  obtain ⟨k, ra, rfl, rfl, hkl, hra, hrb, hGp⟩ := hs.p hil
  have c2 : (k : Int) < ((Gs.getD i []).length : Int) := by omega
  have gle := gl.out
  have r1 := gss_at' (l := Gs) (k := i) (by omega)
  have r2 := gs_take hkl
  have r3 := gs_len (Gs.getD i [])
  have c3 : k * 2 + 2 ≤ (Gs.getD i []).length * 2 := by omega
  have hg := hn.out.grip hil hkl
  have hfl : ((Gs.getD i []).getD k noG).fingers.length ≤ 14 := by rw [hg.2]; exact chord_len (hn.out.seq i hil).1
  have CL := clone_fn ((Gs.getD i []).getD k noG).fingers (by omega)
  have o1 := hs.st.ls.tbo
  rw [hnet.out] at o1
  have z1 := hs.st.ls.ltt
  have g1 := hs.w
  have f2 := hs.ap
  have x2 : ∀ q j, q < M4.next → (q < M4.next + j) = True := fun q j hq => by simp; omega
  have x3 : ∀ q j, q < M4.next → (q = M4.next + j) = False := fun q j hq => by simp; omega
  have x4 : ∀ q j, q < M4.next → (M4.next + j = q) = False := fun q j hq => by simp; omega
  have hgcl := gs_len G
  rw [hgl] at hgcl
  replace hgl := Hid.mk hgl
  replace hGp := Hid.mk hGp
  replace hfl := Hid.mk hfl
  replace hg := Hid.mk hg
  replace hgcl := Hid.mk hgcl
  clear hs
  repeat' (with_reducible first | refine x_ops ?_ | refine wk ?_ | (with_reducible refine xc (CL) ?_) | ((first | refine gd1 ?_ ?_ | refine gd2 ?_ ?_ | refine gd3 ?_ ?_) <;> (first | exact @False.elim _ | intro hc)))
  refine x_appg (n := i) (xs := G.flatMap Grip.cells) (ys := Grip.cells ((Gs.getD i []).getD k noG)) (k := tf) (k2 := .exact) vw (by unfold Grip.cells; exact vw) (f2.mono (fun q hq _ => (put_other _ _ (by omega)).trans (put_other _ _ (by omega))) (by show M4.next ≤ M4.next + 28; omega)) hgcl.out rfl (by omega) (by unfold Go.maxLen; omega) (by show M4.next + 25 < M4.next + 28; omega) ?_
  intro tok' m5 hap' htk' hn' hobj
  replace hn' : m5.next = M4.next + 28 := hn'
  have hfo := hs1.out.fo
  have hwo := hs1.out.wo
  have hao := hs1.out.ao
  have lo : ∀ q, q < M4.next → tf ≠ .own q → m5.obj q = M4.obj q := fun q hq hne => (hobj q (by show ¬ q = M4.next + 25; omega) hne).trans ((put_other _ _ (by omega)).trans (put_other _ _ (by omega)))
  have hS5 : LiS h l Gs tb nq rt rs own4 tok4 v4 m5 := hs1.out.st.keep (by omega) fun q hq hqc => lo q hq (fun e => by
    obtain ⟨_, e2⟩ := f2.elim (fun h => by rw [h] at e; cases e) (fun h => h)
    obtain ⟨e3, _, e4⟩ := e2
    rw [e3] at e; injection e with e; subst e
    have hnr := hs1.out.st.nr e4 (by decide)
    rcases hqc with h5 | h5 | h5 | h5 | ⟨n, h5⟩ | h5 | ⟨y, hy, h5⟩
    · exact h5 (hao _ e3).2
    · rw [h5, hs1.out.st.ls.tbo] at e4; cases e4
    · rw [h5, hs1.out.st.ls.nqo] at e4; cases e4
    · exact hnr.1 h5
    · exact hnr.2.1 n h5
    · exact hnr.2.2.1 h5
    · exact hnr.2.2.2 y (Nat.zero_le _) hy h5)
  have q1 := (lo _ z2 (apbT_box f2 f1)).trans f1
  have q2 := (lo _ z3 (apbT_box f2 g1)).trans g1
  have q3 := (lo _ z1 (apbT_box f2 hs1.out.st.ls.tbo)).trans o1
  have l5 : M.next < m5.next := by omega
  have l6 : M.next + 8 < m5.next := by omega
  have y2 : ¬ M.next + 8 = M.next := by omega
  have y3 : ¬ M.next = M.next + 8 := by omega
  have nb1 : tb ≠ M.next := by omega
  have hvf : ∀ n, v4 ≠ .gsl M.next n 3 := fun n e => by obtain ⟨j, due, H, hsn⟩ := hs1.out.st.nd; obtain ⟨_, _, cs, h9⟩ := hsn.vlt e; exact ne_type f1 h9 (by decide) rfl
  have hS5p : LiS h l Gs tb nq rt rs own4 tok4 v4 (m5.put M.next (.box [.sl (i + 1) (G.flatMap Grip.cells ++ Grip.cells ((Gs.getD i []).getD k noG)) tok', vint cost] 40)) := hS5.putB q1 hfo.2.2 ⟨by decide, by decide, by decide, by decide⟩ hvf _
  have hLi := hS5p.ls.keep (Nat.zero_le i) (Nat.le_refl _) (fun _ _ => rfl) hS5p.ls.cl rfl rfl (fun _ _ _ => rfl) fun _ _ _ _ _ _ => rfl
  have GS := get_all hn.out tb nq rt rs _ i rfl hil k ra own4 _ hkl hrb hLi
  have GE := gpPost_ex (tb := tb) (nq := nq) (rt := rt) (tl h l Gs i k) ra hLi
  have hap5 : Apb m5 tok' (i + 1) 53 2 := hap'
  have hao5 : ∀ q, tok' = .own q → M.next ≤ q ∧ own4 q = none := fun q e => (htk' q e).elim (hao q) fun h => by
    have h9 : q = M4.next + 25 := h
    subst h9
    exact ⟨by omega, hs1.out.st.ls.cl _ (by omega)⟩
  replace hap5 := Hid.mk hap5
  replace hn' := Hid.mk hn'
  replace hS5 := Hid.mk hS5
  replace hS5p := Hid.mk hS5p
  replace lo := Hid.mk lo
  replace hao5 := Hid.mk hao5
  clear hobj htk' hap' hLi f1 f2 g1 o1 CL r1 r2 r3 x2 x3 x4 hao
  unfold Grip.cells at GS GE
  repeat' (with_reducible first | refine x_ops ?_ | refine wk ?_ | ((first | refine gd1 ?_ ?_ | refine gd2 ?_ ?_ | refine gd3 ?_ ?_) <;> (first | exact @False.elim _ | intro hc)))
  refine x_scallR [.ptr tb 0, vint i, vint (k : Int), vint (ra : Int)] vw (by ((refine ve ?_; try exact True.intro)); exact GS) (by ((refine ve ?_; try exact True.intro)); exact GE) ?_
  rintro res M6 hp6
  have hres := hp6.1
  obtain ⟨own6, hS6, hT6⟩ := li_get hS5p.out hp6
  rw [GtR, if_pos hra] at hres
  subst hres
  have p0 := hT6.nx
  have p0' : m5.next ≤ M6.next := p0
  have e6 := hS5p.out.box hT6 (show M.next < m5.next from l5) (put_same _ _ _) hfo.2.2 ⟨by decide, by decide⟩ hvf
  have e8 := hS5p.out.box hT6 (show M.next + 8 < m5.next from l6) ((put_other _ _ y2).trans q2) hwo.2.2 ⟨by decide, by decide⟩ hs1.out.vw
  have hof6 : own6 M.next = none := (hT6.ow _ l5).trans hfo.2.2
  have how6 : own6 (M.next + 8) = none := (hT6.ow _ l6).trans hwo.2.2
  have ap6 : Apb M6 tok' (i + 1) 53 2 := by
    rcases hap5.out with h1 | ⟨tr, h1, h2, h3⟩
    · exact .inl h1
    · have h3' : (m5.put M.next (.box [.sl (i + 1) (G.flatMap Grip.cells ++ Grip.cells ((Gs.getD i []).getD k noG)) tok', vint cost] 40)).obj tr = some (.row (i + 1) 53 2) := (put_other _ _ (fun e => by subst e; rw [q1] at h3; cases h3)).trans h3
      have hnr := hS5p.out.nr h3' (by decide)
      exact .inr ⟨tr, h1, Nat.lt_of_lt_of_le h2 p0', (hT6.fr tr h2 hnr.1 hnr.2.1 hnr.2.2.1 (fun y k e => by rw [(hao5.out tr h1).2] at e; cases e) hnr.2.2.2).trans h3'⟩
  have ao6 : ∀ q, tok' = .own q → M.next ≤ q ∧ own6 q = none := fun q e => ⟨(hao5.out q e).1, by
    rcases hap5.out with h1 | ⟨tr, h1, h2, _⟩
    · rw [h1] at e; cases e
    · rw [h1] at e; injection e with e; subst e; exact (hT6.ow _ h2).trans (hao5.out _ h1).2⟩
  have hT5 : Trn rs l.length 0 rt own M tok v own4 (m5.put M.next (.box [.sl (i + 1) (G.flatMap Grip.cells ++ Grip.cells ((Gs.getD i []).getD k noG)) tok', vint cost] 40)) tok4 v4 := by
    have ht := hs1.out.tr
    refine ⟨by have := ht.nx; have := hn'.out; show M.next ≤ m5.next; omega, ht.ow, fun q hq h1 h2 h3 h5 h6 => ?_, ht.vn, ht.tn⟩
    exact (put_other _ _ (by omega)).trans ((lo.out q (by omega) (fun e => by have := (hs1.out.ao q e).1; omega)).trans (ht.fr q hq h1 h2 h3 h5 h6))
  have hT7 := hT5.trans hT6
  have hS7 := hS6.putB e8 how6 ⟨by decide, by decide, by decide, by decide⟩ hs1.out.vw (.box [vint ((tl h l Gs i k).getD ra noW).1, vint ((tl h l Gs i k).getD ra noW).2.1, vint ((tl h l Gs i k).getD ra noW).2.2] 154)
  have hnext : i + 1 < l.length → ∃ k' r' : Nat, ((tl h l Gs i k).getD ra noW).2.1 = k' ∧ ((tl h l Gs i k).getD ra noW).2.2 = r' ∧ k' < (Gs.getD (i + 1) []).length ∧ r' < (tl h l Gs (i + 1) k').length ∧ r' ≤ 100 ∧ (G ++ [grp Gs i k]) ++ grps Gs (i + 1) (pth h l Gs (i + 1) k' r') = T := fun hi1 => by
    obtain ⟨m', s', h5, h6, h7⟩ := tl_at hn.out hi1 hkl hra
    have h8 := tl_rank hi1 hra
    rw [h7] at h8 ⊢
    refine ⟨m', s', rfl, rfl, h5, h6, by dsimp only at h8; omega, ?_⟩
    have h9 := hGp.out
    rw [pth_s hi1, h7] at h9
    simp only [Int.toNat_natCast] at h9
    rw [← h9, grps, List.append_assoc]; rfl
  have hlast : i + 1 = l.length → G ++ [grp Gs i k] = T := fun e => by
    have h9 := hGp.out
    rw [pth_last e] at h9
    exact h9
  have l7 : M.next + 8 < M6.next := by omega
  generalize (tl h l Gs i k).getD ra noW = w2 at *
  obtain ⟨wc2, wn2, wr2⟩ := w2
  dsimp only at *
  replace hnext := Hid.mk hnext
  replace hlast := Hid.mk hlast
  replace hS7 := Hid.mk hS7
  replace hT7 := Hid.mk hT7
  replace e6 := Hid.mk e6
  have hvw4 := Hid.mk hs1.out.vw
  clear GS GE hp6 hT6 hS6 hT5 q1 q2 q3 l5 l6 p0
  repeat' (with_reducible first | refine x_ops ?_ | refine wk ?_ | ((first | refine gd1 ?_ ?_ | refine gd2 ?_ ?_ | refine gd3 ?_ ?_) <;> (first | exact @False.elim _ | intro hc)))
  refine nx hil ⟨vv, own6, tok4, v4, tok', G ++ [grp Gs i k], wc2, wn2, wr2, ⟨hS7.out, hT7.out.put (by omega) _, ⟨Nat.le_refl _, by show M.next < M6.next; omega, hof6⟩, ⟨by omega, l7, how6⟩, hvw4.out, y3, by rw [List.length_append, hgl.out]; rfl, ?_, Apb.put ap6 e8, ao6, put_same _ _ _, hnext.out, hlast.out⟩⟩
  refine (put_other _ _ y3).trans (e6.out.trans ?_)
  rw [List.flatMap_append, List.flatMap_singleton]; rfl
end Go.Proofs.Ytojjdkoglhecbaa
namespace Go.Proofs.Ytojjdkoglhecbaa
open Go.RowKit
set_option maxRecDepth 100000

abbrev c_hand_List_p1 : VC := (.seq (.ops 0 [oo 21 .mv [.t 7], oo 6 .mv [(.c (.sl 0 [] .exact))], oo 7 .mv [.t 21]]) .ret)
abbrev c_hand_List_p2 : VC := (.seq (.ops 0 [oo 6 .mv [(.c (.sl 0 [] .exact))], oo 7 .mv [kk 1]]) .ret)
abbrev c_hand_List_p3 : VC := (.ops 5 [oo 39 .mv [.t 6], oo 40 (.ldA 2) [.t 11], ⟨(some 41), none, (.mksl 1 2 [(.sl 0 [] .exact), li 0] [(0, 2)]), [.t 40], none⟩, oo 42 (.app 40 2 32) [.t 39, .t 41], oo 6 .mv [.t 42]])
abbrev c_hand_List_p4 : VC := (.seq (.seq (.ops 0 [oo 37 .mv [.t 12], oo 38 (.un .not) [.t 37]]) (.cond (.t 38) (.exit 0) .skip)) c_hand_List_p3)
abbrev c_hand_List_p5 : VC := (.seq (.ops 9 [oo 32 .mv [.t 9], oo 33 .mv [.t 10], oo 34 (.call 75) [.t 32, .t 33], oo 31 .mv [.t 34], oo 35 (.ext 0) [.t 31], oo 36 (.ext 1) [.t 31], ⟨(some 11), none, (.alloc 40 [(.sl 0 [] .exact), li 0]), [], none⟩, ⟨none, none, (.st 2), [.t 11, .t 35], none⟩, oo 12 .mv [.t 36]]) c_hand_List_p4)
abbrev c_hand_List_p6 : VC := (.ops 0 [oo 43 (.bin .add) [.t 28, kk 1], oo 28 .mv [.t 43]])
abbrev c_hand_List_p7 : VC := (.seq (.block 1 (.seq (.ops 0 [oo 30 .mv [.t 28], oo 10 .mv [.t 30]]) c_hand_List_p5)) c_hand_List_p6)
abbrev c_hand_List_p8 : VC := (.seq (.ops 0 [oo 29 (.bin .lss) [.t 28, .t 27]]) (.seq (.cond (.t 29) .skip (.exit 0)) c_hand_List_p7))
@[go_sem] abbrev w_hand_List_p8 : Nat := 17591917616192
abbrev c_hand_List_p10 : VC := (.seq (.ops 0 [oo 6 .mv [(.c (.sl 0 [] .exact))], oo 7 .mv [kk 62]]) .ret)
abbrev c_hand_List_p11 : VC := (.seq (.ops 0 [oo 47 .mv [.t 6], oo 6 .mv [.t 47], oo 7 .mv [kk 0]]) .ret)
def c_hand_List_p12 : VC := (.seq (.seq (.ops 0 [oo 44 .mv [.t 6], oo 45 .len [.t 44], oo 46 (.bin .eql) [.t 45, kk 0]]) (.cond (.t 46) c_hand_List_p10 .skip)) c_hand_List_p11)
def c_hand_List_p13 : VC := (.seq (.seq (.ops 0 [oo 27 .mv [.t 2], oo 28 .mv [kk 0]]) (.block 0 (.loop c_hand_List_p8))) c_hand_List_p12)
abbrev c_hand_List_p14 : VC := (.seq (.ops 0 [oo 25 .mv [.t 8], oo 26 (.call 74) [.t 25], oo 9 .mv [.t 26]]) c_hand_List_p13)
abbrev c_hand_List_p15 : VC := (.seq (.seq (.ops 0 [oo 22 .mv [.t 2], oo 23 (.call 63) [.t 22, kk 1, kk 64], oo 24 (.un .not) [.t 23]]) (.cond (.t 24) c_hand_List_p2 .skip)) c_hand_List_p14)
abbrev c_hand_List_p16 : VC := (.seq (.seq (.ops 0 [oo 19 .mv [.t 7], oo 20 (.bin .neq) [.t 19, kk 0]]) (.cond (.t 20) c_hand_List_p1 .skip)) c_hand_List_p15)
abbrev c_hand_List_p17 : VC := (.seq (.ops 0 [oo 14 (.ldA 10) [.t 3], oo 15 .mv [.t 1], oo 16 (.call 69) [.t 14, .t 15], oo 13 .mv [.t 16], oo 17 (.ext 0) [.t 13], oo 18 (.ext 1) [.t 13], oo 8 .mv [.t 17], oo 7 .mv [.t 18]]) c_hand_List_p16)
def c_hand_List : VC := (.seq (.ops 3 [oo 3 (.box 25) [.t 0], oo 6 .mv [(.c (.sl 0 [] .exact))], oo 7 .mv [kk 0]]) c_hand_List_p17)
theorem k_hand_List : Comp Try.prog nobx gtab 37 48 c_hand_List [.t 6, .t 7] := ⟨⟨Try.f37, _, Try.func37, rfl, rfl, kr, kr⟩⟩
end Go.Proofs.Ytojjdkoglhecbaa
namespace Go.Proofs.Ytojjdkoglhecbaa
open Go.RowKit

/-- A new lister. -/
theorem li_new {h : Hand} {l : List Chord} {Gs : List (List Grip)} (hn : NetOk h l Gs) (hl : 0 < l.length) {m M : Mm} {r : V} (hP : LsPost h l Gs m r M) : ∃ tb nq rt rs v, r = .ptr tb 0 ∧ LiS h l Gs tb nq rt rs (fun _ => none) .exact v M := by
  obtain ⟨_, _, tb, nq, rt, rs, rfl, _, _, hL⟩ := hP
  obtain ⟨hLs, ⟨_, l2⟩, v, H, q1, q2, q3, q4⟩ := hL hl
  refine ⟨tb, nq, rt, rs, v, rfl, ⟨hLs.tbo, hLs.nqo, fun y hy hyl => ⟨_, hLs.row y hy hyl, nilR_len _, fun k hk => ⟨_, nilR_at hk, .inl rfl⟩⟩, hLs.inj, hLs.ltt, hLs.ltn, hLs.ltr, rfl, rfl, fun _ _ => rfl, fun _ _ => rfl⟩, 0, false, H, ⟨q1, l2, rfl, q2, q3, bag_perm (bag_root hn hl) q4, fun _ _ _ => rfl, .inl rfl, fun q e => by cases e⟩⟩

set_option maxHeartbeats 2000000 in
theorem fing0_sfn {h : Hand} {l : List Chord} {Gs : List (List Grip)} (hl0 : l.length = 0) {M : Mm} {tb rt : Nat} {nv : V} (o1 : M.obj tb = some (.box [netE h l Gs, nv, .ptr rt 0] 162)) (l1 : tb < M.next) (r : Nat) :
    SFn Try.prog Gd 75 [.ptr tb 0, vint r] M (fun res M' => res = .tup [.agg [.sl 0 [] .exact, vint 0], vbool ((r : Int) == 0)] ∧ M.next ≤ M'.next ∧ ∀ q, q < M.next → M'.obj q = M.obj q) := by
  refine SFn.of_vxS k_hand_lister_fingering_b (by simp) ?_
  have x0 : ¬ tb = M.next := by omega
  have hnet : netE h l Gs = .ept [.sl h.low.length (h.low.map vint) .no, .sl h.high.length (h.high.map vint) .no, .sl h.barre.length (h.barre.map vbool) .no, .lit (.int .i64 h.top), .lit (.int .i64 h.jump), .lit (.int .i64 h.shift), .lit (.int .i64 h.lift), .lit (.int .i64 h.bar), .lit (.int .i64 h.stretch), .lit (.int .i64 h.slide),
    .sl l.length (l.flatMap Chord.cells) .no, .sl Gs.length (Gs.map tGs) .no, .sl (owA h l Gs).length ((owA h l Gs).map tIs) .no, .sl (rsA h l Gs).length ((rsA h l Gs).map tIs) .no] 0 := rfl
  rw [hnet] at o1
  have e1 : ((l.length : Int) == 0) = true := by rw [beq_iff_eq]; omega
  unfold c_hand_lister_fingering_b
  clear hl0 hnet
  repeat' (with_reducible first | refine x_ops ?_ | refine wk ?_ | ((first | refine gd1 ?_ ?_ | refine gd2 ?_ ?_ | refine gd3 ?_ ?_) <;> (first | exact @False.elim _ | intro hc)))
  exact ⟨.inr rfl, .tup [.agg [.sl 0 [] .exact, vint 0], vbool ((r : Int) == 0)], vv, rfl, by show M.next ≤ M.next + 2; omega, fun q hq => (put_other _ _ (by omega)).trans (put_other _ _ (by omega))⟩

/-- What List answers, of both. -/
noncomputable def lsR (h : Hand) (l : List Chord) (most : Int) : List (List Grip × Int) × Int :=
  if wvE h l = 0 then (if 1 ≤ most ∧ most ≤ 64 then (if fgL h l (tabG h l) most.toNat = [] then ([], 62) else (fgL h l (tabG h l) most.toNat, 0)) else ([], 1)) else ([], wvE h l)
theorem fgL_len {h : Hand} {l : List Chord} {Gs : List (List Grip)} (q : Nat) (hl : 0 < l.length) : (fgL h l Gs q).length = min q (rtT h l Gs).length := by rw [fgL, if_neg (by omega), List.length_map, List.length_take]
theorem fgL_take {h : Hand} {l : List Chord} {Gs : List (List Grip)} {q k : Nat} (hl : 0 < l.length) (hk : k < q) (hr : k < (rtT h l Gs).length) : (fgL h l Gs q).take (k + 1) = (fgL h l Gs q).take k ++ [fgW h l Gs ((rtT h l Gs).getD k noW)] := by
  rw [fgL, if_neg (by omega), List.take_add_one, List.getElem?_map, List.getElem?_take, if_pos hk, List.getD_eq_getElem?_getD, List.getElem?_eq_getElem hr]; rfl
theorem fgC_lG (f : List Grip × Int) : (fgC f).length = 2 := rfl

set_option maxHeartbeats 4000000 in
/-- The loop of List, where there are chords. -/
theorem List_loop {h : Hand} {l : List Chord} {Gs : List (List Grip)} (hn : NetOk h l Gs) (hl : 0 < l.length) {q : Nat} (hq : 1 ≤ q ∧ q ≤ 64) {tb nq rt : Nat} {rs : List Nat} {v : V} {M : Mm} (hS : LiS h l Gs tb nq rt rs (fun _ => none) .exact v M) {t : Nat → V}
    (s2 : t 2 = vint q) (s6 : t 6 = .sl 0 [] .exact) (s7 : t 7 = vint 0) (s9 : t 9 = .ptr tb 0) :
    (c_hand_List_p13).vx Try.prog Gd (FinV [.t 6, .t 7] (.tup [tFs (fgL h l Gs q), vint (if fgL h l Gs q = [] then 62 else 0)])) ⟨t, M⟩ := by
  have FG := fun (k : Nat) (hk : k ≤ 100) own tok v M (hS : LiS h l Gs tb nq rt rs own tok v M) => fingG_sfn hn hl hS hk
  have hlen := fgL_len (h := h) (l := l) (Gs := Gs) q hl
  have htk := fun k => fgL_take (h := h) (l := l) (Gs := Gs) (q := q) (k := k) hl
  replace hn := Hid.mk hn
  unfold c_hand_List_p13
  repeat' (with_reducible first | refine x_ops ?_ | refine wk ?_ | ((first | refine gd1 ?_ ?_ | refine gd2 ?_ ?_ | refine gd3 ?_ ?_) <;> (first | exact @False.elim _ | intro hc)))
  have fin : ∀ (t' : Nat → V) (M' : Mm) (k : Nat) (tf : Tok), t' 6 = .sl k (((fgL h l Gs q).take k).flatMap fgC) tf → k = (fgL h l Gs q).length → (c_hand_List_p12).vx Try.prog Gd (FinV [.t 6, .t 7] (.tup [tFs (fgL h l Gs q), vint (if fgL h l Gs q = [] then 62 else 0)])) ⟨t', M'⟩ := by
    intro t' M' k tf f6 hk
    rw [hk, List.take_length] at f6
    generalize fgL h l Gs q = F at *
    unfold c_hand_List_p12 tFs
    by_cases hF : F = []
    · subst hF
      rw [if_pos rfl]
      have e1 : (((([] : List (List Grip × Int)).length : Nat) : Int) == 0) = true := rfl
      clear hlen htk FG hk
      repeat' (with_reducible first | refine x_ops ?_ | refine wk ?_ | ((first | refine gd1 ?_ ?_ | refine gd2 ?_ ?_ | refine gd3 ?_ ?_) <;> (first | exact @False.elim _ | intro hc)))
      exact finV_ret vw (.tup (.cons (.sl _ _ _) (.cons (.lit _) .nil)))
    · rw [if_neg hF]
      have e1 : (((F.length : Nat) : Int) == 0) = false := by
        rw [beq_eq_false_iff_ne]; have := List.length_pos_iff.2 hF; omega
      clear hlen htk FG hk hF
      repeat' (with_reducible first | refine x_ops ?_ | refine wk ?_ | ((first | refine gd1 ?_ ?_ | refine gd2 ?_ ?_ | refine gd3 ?_ ?_) <;> (first | exact @False.elim _ | intro hc)))
      exact finV_ret vw (.tup (.cons (.sl _ _ _) (.cons (.lit _) .nil)))
  replace fin := Hid.mk fin
  replace FG := Hid.mk FG
  replace htk := Hid.mk htk
  refine x_loopW w_hand_List_p8 kr q (fun k t M => t 28 = vint (k : Int) ∧ k ≤ (rtT h l Gs).length ∧ ∃ own tok v tf, LiS h l Gs tb nq rt rs own tok v M ∧ t 6 = .sl k (((fgL h l Gs q).take k).flatMap fgC) tf ∧ Apb M tf k 40 2 ∧ ∀ b, tf = .own b → own b = none) ⟨vv, Nat.zero_le _, _, _, v, .exact, hS, s6, .inl rfl, fun b e => by cases e⟩ ?_
  clear hS s6
  rintro k t1 M1 hk ⟨h28, hkl, own, tok, v1, tf, hS, h6, hap, hao⟩
  by_cases hkq : k < q
  case neg =>
    have hke : k = q := by omega
    subst hke
    have c1 : ¬ (k : Int) < (k : Int) := by omega
    replace hap := Hid.mk hap
    clear hkq hk hao
    repeat' (with_reducible first | refine x_ops ?_ | refine wk ?_ | ((first | refine gd1 ?_ ?_ | refine gd2 ?_ ?_ | refine gd3 ?_ ?_) <;> (first | exact @False.elim _ | intro hc)))
    refine fin.out _ _ k tf ?_ (by rw [hlen]; omega)
    exact vw
  have c1 : (k : Int) < (q : Int) := by omega
  have hSc := hS.up (M' := ⟨M1.obj, M1.next + 9⟩) (Nat.le_add_right _ _) fun _ _ => rfl
  have F1 := FG.out k (by omega) own tok v1 _ hSc
  have F2 := fgPostG_ex k hSc
  have hS0 := Hid.mk hS
  have hkq0 := Hid.mk hkq
  clear hS hkq hk
  repeat' (with_reducible first | refine x_ops ?_ | refine wk ?_ | ((first | refine gd1 ?_ ?_ | refine gd2 ?_ ?_ | refine gd3 ?_ ?_) <;> (first | exact @False.elim _ | intro hc)))
  refine x_scallR [.ptr tb 0, vint (k : Int)] vw F1 F2 ?_
  rintro res M2 ⟨⟨own2, tok2, v2, hS2, hT2⟩, hres⟩
  have hn2 : M1.next + 9 ≤ M2.next := hT2.nx
  have hxb : own2 (M1.next + 6) = none := (hT2.ow _ (by show M1.next + 6 < M1.next + 9; omega)).trans (hS0.out.ls.cl _ (by omega))
  have hap2 : Apb M2 tf k 40 2 := by
    rcases hap with h1 | ⟨tr, h1, h2, h3⟩
    · exact .inl h1
    · have hnr := hSc.nr (q := tr) h3 (by decide)
      exact .inr ⟨tr, h1, by omega, (hT2.fr tr (by show tr < M1.next + 9; omega) hnr.1 hnr.2.1 hnr.2.2.1 (fun y k e => by rw [hao tr h1] at e; cases e) hnr.2.2.2).trans h3⟩
  have hao2 : ∀ b, tf = .own b → own2 b = none := fun b e => by
    rcases hap with h1 | ⟨tr, h1, h2, h3⟩
    · rw [h1] at e; cases e
    · rw [h1] at e; injection e with e; subst e; exact (hT2.ow _ (by show tr < M1.next + 9; omega)).trans (hao _ h1)
  have htl : ∀ b, tf = .own b → b < M1.next := fun b e => by
    rcases hap with h1 | ⟨tr, h1, h2, h3⟩
    · rw [h1] at e; cases e
    · rw [h1] at e; injection e with e; subst e; exact h2
  have hx6 : M1.next + 6 < M2.next := by omega
  have hnv : ∀ n, v2 ≠ .gsl (M1.next + 6) n 3 := fun n e => by
    rcases hT2.vn _ n e with ⟨n', e'⟩ | h9
    · obtain ⟨j, due, H, hs⟩ := hS0.out.nd
      have := (hs.vlt e').1; omega
    · have h8 : M1.next + 9 ≤ M1.next + 6 := h9; omega
  have hnt : tok2 ≠ .own (M1.next + 6) := fun e => by
    rcases hT2.tn _ e with e' | h9
    · obtain ⟨j, due, H, hs⟩ := hS0.out.nd
      have := (hs.tlt e').1; omega
    · have h8 : M1.next + 9 ≤ M1.next + 6 := h9; omega
  have hS2p : ∀ a, LiS h l Gs tb nq rt rs own2 tok2 v2 (M2.put (M1.next + 6) a) := fun a => by
    obtain ⟨j, due, H, hs⟩ := hS0.out.nd
    have a1 := hS0.out.ls.ltt
    have a2 := hS0.out.ls.ltn
    have a3 := hs.lt
    exact hS2.put hxb ⟨by omega, by omega, by omega⟩ hnv hnt (fun y hy => by have := hS0.out.ls.ltr y hy; omega) a
  have hS2pp : ∀ a b, LiS h l Gs tb nq rt rs own2 tok2 v2 ((M2.put (M1.next + 6) a).put (M1.next + 6) b) := fun a b => by
    obtain ⟨j, due, H, hs⟩ := hS0.out.nd
    have a1 := hS0.out.ls.ltt
    have a2 := hS0.out.ls.ltn
    have a3 := hs.lt
    exact (hS2p a).put hxb ⟨by omega, by omega, by omega⟩ hnv hnt (fun y hy => by have := hS0.out.ls.ltr y hy; omega) b
  have hrw : ∀ (Mx : Mm), LiS h l Gs tb nq rt rs own2 tok2 v2 Mx → Apb Mx tf k 40 2 → ∀ (My : Mm), Mx.next ≤ My.next → (∀ b, b < Mx.next → tf ≠ .own b → My.obj b = Mx.obj b) → LiS h l Gs tb nq rt rs own2 tok2 v2 My := fun Mx hx hax My hn1 hf => hx.keep hn1 fun b hb hbc => hf b hb (fun e => by
    rcases hax with h1 | ⟨tr, h1, h2, h3⟩
    · rw [h1] at e; cases e
    · rw [h1] at e; injection e with e; subst e
      have hnr := hx.nr h3 (by decide)
      rcases hbc with h5 | h5 | h5 | h5 | ⟨n, h5⟩ | h5 | ⟨y, hy, h5⟩
      · exact h5 (hao2 _ h1)
      · rw [h5, hx.ls.tbo] at h3; cases h3
      · rw [h5, hx.ls.nqo] at h3; cases h3
      · exact hnr.1 h5
      · exact hnr.2.1 n h5
      · exact hnr.2.2.1 h5
      · exact hnr.2.2.2 y (Nat.zero_le _) hy h5)
  replace hrw := Hid.mk hrw
  replace hS2pp := Hid.mk hS2pp
  replace htl := Hid.mk htl
  clear hS2p hnv hnt
  have w1 := w_add1 (k := k) (by have := hkq0.out; omega)
  replace hT2 := Hid.mk hT2
  replace hS2 := Hid.mk hS2
  replace hap2 := Hid.mk hap2
  replace hao2 := Hid.mk hao2
  clear F1 F2 hap hao
  rcases hres with ⟨hkr, t9, rfl⟩ | ⟨hkr, rfl⟩
  case inr =>
    have hke : k = (fgL h l Gs q).length := by rw [hlen]; have := hkq0.out; omega
    replace hke := Hid.mk hke
    repeat' (with_reducible first | refine x_ops ?_ | refine wk ?_ | ((first | refine gd1 ?_ ?_ | refine gd2 ?_ ?_ | refine gd3 ?_ ?_) <;> (first | exact @False.elim _ | intro hc)))
    refine fin.out _ _ k tf ?_ hke.out
    exact vw
  have ht := htk.out k hkq0.out hkr
  have hxl : (((fgL h l Gs q).take k).flatMap fgC).length = k * 2 := by
    rw [flat_len fgC_lG, List.length_take, hlen]; have := hkq0.out; omega
  generalize fgW h l Gs ((rtT h l Gs).getD k noW) = f at *
  obtain ⟨G, c⟩ := f
  replace ht := Hid.mk ht
  replace hxl := Hid.mk hxl
  dsimp only
  repeat' (with_reducible first | refine x_ops ?_ | refine wk ?_ | ((first | refine gd1 ?_ ?_ | refine gd2 ?_ ?_ | refine gd3 ?_ ?_) <;> (first | exact @False.elim _ | intro hc)))
  have hap3 : ∀ a b, Apb ((M2.put (M1.next + 6) a).put (M1.next + 6) b) tf k 40 2 := fun a b => by
    rcases hap2.out with h1 | ⟨tr, h1, h2, h3⟩
    · exact .inl h1
    · have := htl.out tr h1
      exact .inr ⟨tr, h1, h2, (put_other _ _ (by omega)).trans ((put_other _ _ (by omega)).trans h3)⟩
  refine x_appg (n := k) (xs := ((fgL h l Gs q).take k).flatMap fgC) (ys := [.sl G.length (G.flatMap Grip.cells) .no, vint c]) (k := tf) vw vw ((hap3 _ _).mono (fun _ _ _ => rfl) (Nat.le_add_right _ _)) hxl.out rfl (by have := hkq0.out; omega) (by have := hkq0.out; unfold Go.maxLen; omega) (by show M2.next + 3 < M2.next + 5; omega) ?_
  intro tf3 M3 hap4 htf3 hn3 hf3
  have hn3' : M3.next = M2.next + 5 := hn3
  have hS3 : LiS h l Gs tb nq rt rs own2 tok2 v2 M3 := hrw.out _ (hS2pp.out _ _) (hap3 _ _) M3 (by rw [hn3']; exact Nat.le_add_right _ _) (fun b hb hne => hf3 b (by have h9 : b < M2.next := hb; show ¬ b = M2.next + 3; omega) hne)
  have hao3 : ∀ b, tf3 = .own b → own2 b = none := fun b e => (htf3 b e).elim (hao2.out b) fun h9 => by
    have h8 : b = M2.next + 3 := h9
    subst h8
    exact hS2.out.ls.cl _ (by omega)
  replace hS3 := Hid.mk hS3
  replace hap4 := Hid.mk hap4
  replace hao3 := Hid.mk hao3
  clear hf3 htf3 hn3 hap3
  repeat' (with_reducible first | refine x_ops ?_ | refine wk ?_ | ((first | refine gd1 ?_ ?_ | refine gd2 ?_ ?_ | refine gd3 ?_ ?_) <;> (first | exact @False.elim _ | intro hc)))
  refine nx hkq0.out ⟨vv, hkr, own2, tok2, v2, tf3, hS3.out.up (by show M3.next ≤ M2.next + 5; omega) (fun _ _ => rfl), ?_, hap4.out.mono (fun _ _ _ => rfl) (by show M3.next ≤ M2.next + 5; omega), hao3.out⟩
  rw [ht.out, List.flatMap_append, List.flatMap_singleton]
  exact vw

set_option maxHeartbeats 4000000 in
/-- The loop of List, where there are none. -/
theorem List_loop0 {h : Hand} {l : List Chord} {Gs : List (List Grip)} (hl0 : l.length = 0) {q : Nat} (hq : 1 ≤ q ∧ q ≤ 64) {tb rt : Nat} {nv : V} {M : Mm} (o1 : M.obj tb = some (.box [netE h l Gs, nv, .ptr rt 0] 162)) (l1 : tb < M.next) {t : Nat → V}
    (s2 : t 2 = vint q) (s6 : t 6 = .sl 0 [] .exact) (s7 : t 7 = vint 0) (s9 : t 9 = .ptr tb 0) :
    (c_hand_List_p13).vx Try.prog Gd (FinV [.t 6, .t 7] (.tup [tFs [([], 0)], vint 0])) ⟨t, M⟩ := by
  have FG := fun (k : Nat) (M : Mm) (o1 : M.obj tb = some (.box [netE h l Gs, nv, .ptr rt 0] 162)) (l1 : tb < M.next) => fing0_sfn hl0 o1 l1 k
  unfold c_hand_List_p13
  replace FG := Hid.mk FG
  have o10 := Hid.mk o1
  clear o1
  repeat' (with_reducible first | refine x_ops ?_ | refine wk ?_ | ((first | refine gd1 ?_ ?_ | refine gd2 ?_ ?_ | refine gd3 ?_ ?_) <;> (first | exact @False.elim _ | intro hc)))
  have fin : ∀ (t' : Nat → V) (M' : Mm) (tf : Tok), t' 6 = .sl 1 [.sl 0 [] .no, vint 0] tf → (c_hand_List_p12).vx Try.prog Gd (FinV [.t 6, .t 7] (.tup [tFs [([], 0)], vint 0])) ⟨t', M'⟩ := by
    intro t' M' tf f6
    unfold c_hand_List_p12 tFs
    repeat' (with_reducible first | refine x_ops ?_ | refine wk ?_ | ((first | refine gd1 ?_ ?_ | refine gd2 ?_ ?_ | refine gd3 ?_ ?_) <;> (first | exact @False.elim _ | intro hc)))
    exact finV_ret vw (.tup (.cons (.sl _ _ _) (.cons (.lit _) .nil)))
  replace fin := Hid.mk fin
  refine x_loopW w_hand_List_p8 kr 1 (fun k t M' => t 28 = vint (k : Int) ∧ (tb < M'.next ∧ M'.obj tb = some (.box [netE h l Gs, nv, .ptr rt 0] 162)) ∧ ∃ tf, (k = 0 → t 6 = .sl 0 [] .exact) ∧ (k = 1 → t 6 = .sl 1 [.sl 0 [] .no, vint 0] tf)) ⟨vv, ⟨l1, o10.out⟩, .exact, fun _ => s6, fun e => by cases e⟩ ?_
  clear s6
  rintro k t1 M1 hk ⟨h28, ⟨hlt, ho⟩, tf, h60, h61⟩
  by_cases hk1 : k = 1
  · have h6 := h61 hk1
    have e9 : ((k : Int) == 0) = false := by rw [beq_eq_false_iff_ne]; omega
    clear h60 h61
    by_cases hq1 : q = 1
    · have c1 : ¬ (k : Int) < (q : Int) := by omega
      clear ho hq1 hk1 e9
      repeat' (with_reducible first | refine x_ops ?_ | refine wk ?_ | ((first | refine gd1 ?_ ?_ | refine gd2 ?_ ?_ | refine gd3 ?_ ?_) <;> (first | exact @False.elim _ | intro hc)))
      refine fin.out _ _ tf ?_
      exact vw
    have c1 : (k : Int) < (q : Int) := by omega
    clear hq1 hk1
    have F1 := FG.out k ⟨M1.obj, M1.next + 9⟩ ho (by show tb < M1.next + 9; omega)
    clear ho
    repeat' (with_reducible first | refine x_ops ?_ | refine wk ?_ | ((first | refine gd1 ?_ ?_ | refine gd2 ?_ ?_ | refine gd3 ?_ ?_) <;> (first | exact @False.elim _ | intro hc)))
    refine x_scallR [.ptr tb 0, vint (k : Int)] vw F1 ⟨_, ⟨M1.obj, M1.next + 9⟩, rfl, Nat.le_refl _, fun _ _ => rfl⟩ ?_
    rintro res M2 ⟨rfl, hn2, hf2⟩
    have hn2' : M1.next + 9 ≤ M2.next := hn2
    have hx6 : M1.next + 6 < M2.next := by omega
    clear F1 hf2 hn2
    repeat' (with_reducible first | refine x_ops ?_ | refine wk ?_ | ((first | refine gd1 ?_ ?_ | refine gd2 ?_ ?_ | refine gd3 ?_ ?_) <;> (first | exact @False.elim _ | intro hc)))
    refine fin.out _ _ tf ?_
    exact vw
  have hk0 : k = 0 := by omega
  have h6 := h60 hk0
  have e9 : ((k : Int) == 0) = true := by rw [beq_iff_eq]; omega
  have c1 : (k : Int) < (q : Int) := by omega
  have F1 := FG.out k ⟨M1.obj, M1.next + 9⟩ ho (by show tb < M1.next + 9; omega)
  have w1 := w_add1 (k := k) (by omega)
  have ho0 := Hid.mk ho
  clear h60 h61 ho
  replace hk0 := Hid.mk hk0
  clear hk1 hk
  repeat' (with_reducible first | refine x_ops ?_ | refine wk ?_ | ((first | refine gd1 ?_ ?_ | refine gd2 ?_ ?_ | refine gd3 ?_ ?_) <;> (first | exact @False.elim _ | intro hc)))
  refine x_scallR [.ptr tb 0, vint (k : Int)] vw F1 ⟨_, ⟨M1.obj, M1.next + 9⟩, rfl, Nat.le_refl _, fun _ _ => rfl⟩ ?_
  rintro res M2 ⟨rfl, hn2, hf2⟩
  have hn2' : M1.next + 9 ≤ M2.next := hn2
  have hx6 : M1.next + 6 < M2.next := by omega
  have ho2 := (hf2 tb (by show tb < M1.next + 9; omega)).trans ho0.out
  have htx : tb ≠ M1.next + 6 := by omega
  have ho20 := Hid.mk ho2
  clear F1 hf2 hn2 ho2
  repeat' (with_reducible first | refine x_ops ?_ | refine wk ?_ | ((first | refine gd1 ?_ ?_ | refine gd2 ?_ ?_ | refine gd3 ?_ ?_) <;> (first | exact @False.elim _ | intro hc)))
  refine x_appE (n := 0) (xs := []) (j := 1) (ys := [.sl 0 [] .no, vint 0]) vw vw rfl rfl (by decide) (by decide) ?_
  repeat' (with_reducible first | refine x_ops ?_ | refine wk ?_ | ((first | refine gd1 ?_ ?_ | refine gd2 ?_ ?_ | refine gd3 ?_ ?_) <;> (first | exact @False.elim _ | intro hc)))
  refine nx (by have := hk0.out; omega) ⟨vv, ⟨by show tb < M2.next + 5; omega, ?_⟩, _, (fun e => by cases e), fun _ => vw⟩
  exact (put_other _ _ (by omega)).trans ((put_other _ _ htx).trans ((put_other _ _ htx).trans ho20.out))
end Go.Proofs.Ytojjdkoglhecbaa
namespace Go.Proofs.Ytojjdkoglhecbaa
open Go.RowKit

/-- A memory with a lister behind all that was there. -/
noncomputable def lsM (h : Hand) (l : List Chord) (Gs : List (List Grip)) (m : Mm) (H : List Way) : Mm :=
  ⟨fun q => if q < m.next then m.obj q else if q = m.next then some (.box [netE h l Gs, .gsl (m.next + 1) l.length 1, .ptr (m.next + 2) 0] 162)
    else if q = m.next + 1 then some (.box (rwN ((List.range l.length).map (m.next + 4 + ·)) Gs) 163)
    else if q = m.next + 2 then some (.box [.sl 0 [] .exact, .gsl (m.next + 3) H.length 3, .fn 110 [], vbool false] 159)
    else if q = m.next + 3 then some (.box (wyC (H ++ [])) 154)
    else some (.box (nilR (Gs.getD (q - (m.next + 4)) []).length) 150), m.next + 4 + l.length⟩
theorem lsPost_ex (h : Hand) (l : List Chord) (Gs : List (List Grip)) (m : Mm) : ∃ r M', LsPost h l Gs m r M' := by
  obtain ⟨H, h1, h2⟩ := heap_ex (rtL h l Gs (rsT h l Gs 0).length)
  have hr : ∀ y, y < l.length → ((List.range l.length).map (m.next + 4 + ·)).getD y 0 = m.next + 4 + y := fun y hy => by
    rw [List.getD_eq_getElem?_getD, List.getElem?_map, List.getElem?_range hy]; rfl
  have o : ∀ q, (lsM h l Gs m H).obj q = if q < m.next then m.obj q else if q = m.next then some (.box [netE h l Gs, .gsl (m.next + 1) l.length 1, .ptr (m.next + 2) 0] 162)
    else if q = m.next + 1 then some (.box (rwN ((List.range l.length).map (m.next + 4 + ·)) Gs) 163)
    else if q = m.next + 2 then some (.box [.sl 0 [] .exact, .gsl (m.next + 3) H.length 3, .fn 110 [], vbool false] 159)
    else if q = m.next + 3 then some (.box (wyC (H ++ [])) 154)
    else some (.box (nilR (Gs.getD (q - (m.next + 4)) []).length) 150) := fun _ => rfl
  have n : (lsM h l Gs m H).next = m.next + 4 + l.length := rfl
  refine ⟨.ptr m.next 0, lsM h l Gs m H, by omega, fun q hq => by rw [o, if_pos hq], m.next, m.next + 1, m.next + 2, (List.range l.length).map (m.next + 4 + ·), rfl, ⟨Nat.le_refl _, by omega⟩, ⟨_, by rw [o, if_neg (by omega), if_pos rfl]⟩, fun hl => ⟨⟨?_, ?_, ?_, ?_, ?_, ?_, ?_, ?_, ?_⟩, ⟨by omega, by omega⟩, .gsl (m.next + 3) H.length 3, H, ?_, .inr ⟨m.next + 3, [], rfl, by omega, ?_⟩, h1, h2⟩⟩
  · rw [o, if_neg (by omega), if_pos rfl]
  · rw [o, if_neg (by omega), if_neg (by omega), if_pos rfl]
  · intro y _ hy
    rw [hr y hy, o, if_neg (by omega), if_neg (by omega), if_neg (by omega), if_neg (by omega), if_neg (by omega), Nat.add_sub_cancel_left]
  · intro y z hyz hz
    rw [hr y (by omega), hr z hz]; omega
  · omega
  · omega
  · intro y hy; rw [hr y hy]; omega
  · omega
  · intro y hy; rw [hr y hy]; omega
  · rw [o, if_neg (by omega), if_neg (by omega), if_neg (by omega), if_pos rfl]
  · rw [o, if_neg (by omega), if_neg (by omega), if_neg (by omega), if_neg (by omega), if_pos rfl]

end Go.Proofs.Ytojjdkoglhecbaa
namespace Go.Proofs.Ytojjdkoglhecbaa
open Go.RowKit

section
variable {n : Int}
end
end Go.Proofs.Ytojjdkoglhecbaa
namespace Go.Proofs.Ytojjdkoglhecbaa
open Go.RowKit
set_option linter.unusedSimpArgs false
set_option linter.unusedVariables false

end Go.Proofs.Ytojjdkoglhecbaa
namespace Go.Proofs.Ytojjdkoglhecbaa
open Go.RowKit
set_option linter.unusedSimpArgs false
set_option linter.unusedVariables false

/-- Two rows of different things are two rows. -/
theorem Apb.ne {m : Mm} {k k' : Tok} {n n' : Nat} {e e' : TypeId} {z z' : Nat} (h : Apb m k n e z) (h' : Apb m k' n' e' z') (he : e ≠ e') : ∀ q, k = .own q → k' ≠ .own q := by
  rintro q rfl rfl
  rcases h with h | ⟨t, h1, _, h2⟩
  · cases h
  · rcases h' with h | ⟨t', h3, _, h4⟩
    · cases h
    · injection h1 with h1; injection h3 with h3
      subst h1; subst h3
      rw [h2] at h4
      injection h4 with h4
      injection h4 with _ h4
      exact he h4
/-- What is left of a row by another one's growth. -/
theorem Apb.keep {m m' : Mm} {k : Tok} {n : Nat} {e : TypeId} {z : Nat} (h : Apb m k n e z) (hn : m.next ≤ m'.next) (ho : ∀ q, q < m.next → k = .own q → m'.obj q = m.obj q) : Apb m' k n e z := by
  rcases h with h | ⟨t, h1, h2, h3⟩
  · exact .inl h
  · exact .inr ⟨t, h1, Nat.lt_of_lt_of_le h2 hn, (ho t h2 h1).trans h3⟩
theorem Apb.box {m : Mm} {k : Tok} {n : Nat} {e : TypeId} {z : Nat} (h : Apb m k n e z) {q : Nat} {cs : List V} {t : TypeId} (hq : m.obj q = some (.box cs t)) : k ≠ .own q := by
  rintro rfl
  rcases h with h | ⟨t, h1, _, h3⟩
  · cases h
  · injection h1 with h1; subst h1; rw [hq] at h3; cases h3

end Go.Proofs.Ytojjdkoglhecbaa
namespace Go.Proofs.Ytojjdkoglhecbaa
open Go.RowKit

section
variable {P : Program} {G : Ground}
end
end Go.Proofs.Ytojjdkoglhecbaa
namespace Go.Proofs.Ytojjdkoglhecbaa
open Go.ChangeShapes Go.WideShapes Go.ChangeAt Go.RowKit
set_option maxRecDepth 100000

end Go.Proofs.Ytojjdkoglhecbaa
namespace Go.Proofs.Ytojjdkoglhecbaa
open Go.RowKit

/-- The pairs of grips of the first chords. -/
noncomputable def hvU (h : Hand) (l : List Chord) : Nat → Int
  | 0 => 0
  | k + 1 => hvU h l k + (if k = 0 then 0 else ((grpA h (l.getD (k - 1) noC)).length : Int)) * ((grpA h (l.getD k noC)).length : Int)
/-- Does a search take too many steps? -/
noncomputable def hvB (h : Hand) (l : List Chord) : Bool :=
  if bothE h l = 0 then (if 24 < l.length then true else if wvE h l = 0 then decide (6000 < hvU h l l.length) else false) else false
theorem hvU_bound {h : Hand} {l : List Chord} : ∀ {k : Nat}, (∀ i, i < k → (grpA h (l.getD i noC)).length ≤ 200) → 0 ≤ hvU h l k ∧ hvU h l k ≤ 40000 * k
  | 0, _ => by simp [hvU]
  | k + 1, hk => by
    have h1 := hvU_bound (h := h) (l := l) (k := k) (fun i hi => hk i (by omega))
    have h2 := hk k (by omega)
    rw [hvU]
    by_cases k0 : k = 0
    · rw [if_pos k0, Int.zero_mul]; omega
    · rw [if_neg k0]
      have h3 := hk (k - 1) (by omega)
      have h5 : (grpA h (l.getD (k - 1) noC)).length * (grpA h (l.getD k noC)).length ≤ 200 * 200 := Nat.mul_le_mul h3 h2
      have h6 : ((grpA h (l.getD (k - 1) noC)).length : Int) * ((grpA h (l.getD k noC)).length : Int) = (((grpA h (l.getD (k - 1) noC)).length * (grpA h (l.getD k noC)).length : Nat) : Int) := by push_cast; rfl
      omega

set_option maxHeartbeats 2000000 in
theorem heavy_fn (h : Hand) (l : List Chord) (hl : Fits l) : Fn Try.prog Gd 29 [h.val, tCs l] (vbool (hvB h l)) := by
  refine Fn.of_vx0 k_theorbolaw06_Heavy (by simp) (by rw [V.pures, pure_hand, V.pures, pure_tCs]; rfl) ?_
  have C1 := rcheck_fn h
  have C2 := rcheckchords_fn l hl
  unfold hvB bothE
  unfold tCs at C2
  unfold Hand.val at C1
  unfold c_theorbolaw06_Heavy Hand.val tCs
  by_cases he : chkE h = 0
  case neg =>
    have e1 : (chkE h == 0) = false := by rw [beq_eq_false_iff_ne]; exact he
    rw [chk_bad he] at C1
    rw [if_neg he, if_neg (by decide)]
    clear he
    repeat' (with_reducible first | refine x_ops ?_ | refine wk ?_ | (with_reducible refine xc (C1) ?_) | (with_reducible refine xc (C2) ?_) | ((first | refine gd1 ?_ ?_ | refine gd2 ?_ ?_ | refine gd3 ?_ ?_) <;> (first | exact @False.elim _ | intro hc)))
    all_goals exact finV_lit vv rfl
  rw [he] at C1
  rw [if_pos he]
  by_cases hs : seqE l = 0
  case neg =>
    have e1 : (seqE l == 0) = false := by rw [beq_eq_false_iff_ne]; exact hs
    rw [if_neg hs]
    clear he hs
    repeat' (with_reducible first | refine x_ops ?_ | refine wk ?_ | (with_reducible refine xc (C1) ?_) | (with_reducible refine xc (C2) ?_) | ((first | refine gd1 ?_ ?_ | refine gd2 ?_ ?_ | refine gd3 ?_ ?_) <;> (first | exact @False.elim _ | intro hc)))
    all_goals exact finV_lit vv rfl
  rw [if_pos hs]
  have hb : bothE h l = 0 := by rw [bothE, if_pos he]; exact hs
  obtain ⟨hk, h4, hseq⟩ := both_ok hb
  rw [hs] at C2
  clear hs he
  by_cases h24 : 24 < l.length
  · have c1 : (24 : Int) < (l.length : Int) := by omega
    rw [if_pos h24]
    clear hb h24
    repeat' (with_reducible first | refine x_ops ?_ | refine wk ?_ | (with_reducible refine xc (C1) ?_) | (with_reducible refine xc (C2) ?_) | ((first | refine gd1 ?_ ?_ | refine gd2 ?_ ?_ | refine gd3 ?_ ?_) <;> (first | exact @False.elim _ | intro hc)))
    all_goals exact finV_lit vv rfl
  have c1 : ¬ (24 : Int) < (l.length : Int) := by omega
  rw [if_neg h24]
  repeat' (with_reducible first | refine x_ops ?_ | refine wk ?_ | (with_reducible refine xc (C1) ?_) | (with_reducible refine xc (C2) ?_) | ((first | refine gd1 ?_ ?_ | refine gd2 ?_ ?_ | refine gd3 ?_ ?_) <;> (first | exact @False.elim _ | intro hc)))
  refine x_gen (fun t => t 1 = .sl l.length (l.flatMap Chord.cells) .no ∧ t 2 = .ptr 0 0 ∧ t 5 = vint 0 ∧ t 6 = vint 0 ∧ t 7 = vint 0) ⟨vv, vv, vv, vv, vv⟩ ?_
  clear C1 C2 c1
  rintro t0 ⟨a1, a2, a5, a6, a7⟩
  refine x_loopF w_theorbolaw06_Heavy_p9 kr l.length (fun k t => t 7 = vint (k : Int) ∧ t 5 = vint (hvU h l k) ∧ t 6 = vint (if k = 0 then 0 else ((grpA h (l.getD (k - 1) noC)).length : Int)) ∧ ∀ i, i < k → (grpA h (l.getD i noC)).length ≤ 200) ?_ ?_
  · exact ⟨a7, by rw [hvU]; exact a5, by rw [if_pos rfl]; exact a6, fun i hi => by omega⟩
  rintro k t hkl ⟨h7, h5, h6, hcnt⟩
  by_cases hlt : k < l.length
  case neg =>
    have hke : k = l.length := by omega
    subst hke
    have c1 : ¬ (l.length : Int) < (l.length : Int) := by omega
    rw [if_pos (show wvE h l = 0 by rw [wvE, if_pos hb, if_pos hcnt])]
    clear hcnt hb hlt hkl
    repeat' (with_reducible first | refine x_ops ?_ | refine wk ?_ | ((first | refine gd1 ?_ ?_ | refine gd2 ?_ ?_ | refine gd3 ?_ ?_) <;> (first | exact @False.elim _ | intro hc)))
    exact finV_lit vv rfl
  have C2 := rGrips_fn h (l.getD k noC) (hl.at k)
  rw [grR_net hk (hseq k hlt).1] at C2
  have g1 := chs_take hlt
  have g2 := chs_len l
  have c1 : k * 3 + 3 ≤ l.length * 3 := by omega
  have c2 : (k : Int) < (l.length : Int) := by omega
  have w1 := w_add1 (k := k) (by omega)
  unfold Hand.val Chord.val Chord.cells at C2
  by_cases hc2 : (grpA h (l.getD k noC)).length ≤ 200
  case neg =>
    rw [if_neg (show ¬ wvE h l = 0 by rw [wvE, if_pos hb, if_neg (fun hh => hc2 (hh k hlt))]; decide)]
    rw [if_neg hc2] at C2
    unfold tGs at C2
    clear hc2 hcnt hb
    dsimp only at C2
    repeat' (with_reducible first | refine x_ops ?_ | refine wk ?_ | (with_reducible refine xc (C2) ?_) | ((first | refine gd1 ?_ ?_ | refine gd2 ?_ ?_ | refine gd3 ?_ ?_) <;> (first | exact @False.elim _ | intro hc)))
    exact finV_lit vv rfl
  have hcn : ∀ i, i < k + 1 → (grpA h (l.getD i noC)).length ≤ 200 := fun i hi => by
    by_cases hik : i = k
    · subst hik; exact hc2
    · exact hcnt i (by omega)
  rw [if_pos hc2] at C2
  have hb1 := hvU_bound (h := h) (l := l) (k := k) hcnt
  have hb2 := hvU_bound (h := h) (l := l) (k := k + 1) hcn
  have hU : hvU h l (k + 1) = hvU h l k + (if k = 0 then 0 else ((grpA h (l.getD (k - 1) noC)).length : Int)) * ((grpA h (l.getD k noC)).length : Int) := rfl
  have hla : 0 ≤ (if k = 0 then 0 else ((grpA h (l.getD (k - 1) noC)).length : Int)) := by split <;> omega
  have hlast : (if k + 1 = 0 then 0 else ((grpA h (l.getD (k + 1 - 1) noC)).length : Int)) = ((grpA h (l.getD k noC)).length : Int) := by rw [if_neg (by omega), Nat.add_sub_cancel]
  generalize hun : hvU h l (k + 1) = un at *
  replace hun := Hid.mk hun
  generalize hvU h l k = uk at *
  generalize (if k = 0 then 0 else ((grpA h (l.getD (k - 1) noC)).length : Int)) = la at *
  have hmul : 0 ≤ la * ((grpA h (l.getD k noC)).length : Int) := Int.mul_nonneg hla (by omega)
  have w2 : IntKind.i64.wrap (la * ((grpA h (l.getD k noC)).length : Int)) = la * ((grpA h (l.getD k noC)).length : Int) := w_in (by omega)
  have w3 : IntKind.i64.wrap (uk + la * ((grpA h (l.getD k noC)).length : Int)) = un := by rw [w_in (by omega)]; exact hU.symm
  unfold tGs at C2
  replace hlast := Hid.mk hlast
  replace hcn := Hid.mk hcn
  replace hb := Hid.mk hb
  clear hU hb1 hb2 hla hmul hcnt hc2
  generalize grpA h (l.getD k noC) = G at *
  dsimp only at C2
  repeat' (with_reducible first | refine x_ops ?_ | refine wk ?_ | (with_reducible refine xc (C2) ?_) | ((first | refine gd1 ?_ ?_ | refine gd2 ?_ ?_ | refine gd3 ?_ ?_) <;> (first | exact @False.elim _ | intro hc)))
  exact nf hlt ⟨vv, by rw [hun.out]; exact vv, by rw [hlast.out]; exact vv, hcn.out⟩ rfl
end Go.Proofs.Ytojjdkoglhecbaa
namespace Go.Proofs.Ytojjdkoglhecbaa
open Go.RowKit

end Go.Proofs.Ytojjdkoglhecbaa
namespace Go.Proofs.Ytojjdkoglhecbaa
open Go.RowKit

noncomputable def lsV (r : List (List Grip × Int) × Int) : V := .tup [tFs r.1, vint r.2]
theorem lsV_nil (e : Int) : lsV ([], e) = .tup [.sl 0 [] .no, vint e] := rfl
set_option maxHeartbeats 4000000 in
theorem List_fn (h : Hand) (l : List Chord) (hl : Fits l) (most : Int) : Fn Try.prog Gd 37 [h.val, tCs l, vint most] (lsV (lsR h l most)) := by
  refine Fn.of_vx0 k_hand_List (by simp) (by rw [V.pures, pure_hand, V.pures, pure_tCs]; rfl) ?_
  have C1 := weave_fn h l hl
  have C2 := within_fn most 1 64
  unfold wvR at C1
  rw [lsR]
  unfold c_hand_List
  by_cases hw : wvE h l = 0
  case neg =>
    rw [if_neg hw] at C1 ⊢
    have e1 : (wvE h l == 0) = false := by rw [beq_eq_false_iff_ne]; exact hw
    clear hw
    rw [lsV_nil]
    unfold Hand.val tCs at C1 ⊢
    repeat' (with_reducible first | refine x_ops ?_ | refine wk ?_ | (with_reducible refine xc (C1) ?_) | ((first | refine gd1 ?_ ?_ | refine gd2 ?_ ?_ | refine gd3 ?_ ?_) <;> (first | exact @False.elim _ | intro hc)))
    exact finV_ret vv (.tup (.cons (.sl _ _ _) (.cons (.lit _) .nil)))
  rw [if_pos hw] at C1 ⊢
  have hn := wv_net hl hw
  by_cases hm : 1 ≤ most ∧ most ≤ 64
  case neg =>
    rw [if_neg hm, lsV_nil]
    have e2 : (decide (1 ≤ most) && decide (most ≤ 64)) = false := by
      rw [Bool.and_eq_false_iff, decide_eq_false_iff_not, decide_eq_false_iff_not]; omega
    rw [e2] at C2
    unfold netE netC Hand.val tCs at C1
    unfold Hand.val tCs
    clear hw hn hm
    repeat' (with_reducible first | refine x_ops ?_ | refine wk ?_ | (with_reducible refine xc (C1) ?_) | (with_reducible refine xc (C2) ?_) | ((first | refine gd1 ?_ ?_ | refine gd2 ?_ ?_ | refine gd3 ?_ ?_) <;> (first | exact @False.elim _ | intro hc)))
    exact finV_ret vv (.tup (.cons (.sl _ _ _) (.cons (.lit _) .nil)))
  rw [if_pos hm]
  obtain ⟨q, rfl⟩ : ∃ q : Nat, most = (q : Int) := ⟨most.toNat, by omega⟩
  have hq : 1 ≤ q ∧ q ≤ 64 := by omega
  have e2 : (decide (1 ≤ (q : Int)) && decide ((q : Int) ≤ 64)) = true := by
    rw [Bool.and_eq_true, decide_eq_true_eq, decide_eq_true_eq]; omega
  rw [e2] at C2
  rw [Int.toNat_natCast]
  have LS := fun m => list_sfn hn m
  have LE := fun m => lsPost_ex h l (tabG h l) m
  have hln := fun m M r (hP : LsPost h l (tabG h l) m r M) (h0 : 0 < l.length) => li_new hn h0 hP
  have hL0 := fun (h0 : l.length = 0) => @List_loop0 h l (tabG h l) h0 q hq
  have hL1 := fun (h0 : 0 < l.length) => @List_loop h l (tabG h l) hn h0 q hq
  have hF0 : l.length = 0 → fgL h l (tabG h l) q = [([], 0)] := fun h0 => by rw [fgL, if_pos h0]
  have hlV : lsV (if fgL h l (tabG h l) q = [] then ([], 62) else (fgL h l (tabG h l) q, 0)) = .tup [tFs (fgL h l (tabG h l) q), vint (if fgL h l (tabG h l) q = [] then 62 else 0)] := by
    by_cases hF : fgL h l (tabG h l) q = []
    · rw [if_pos hF, if_pos hF, hF]; rfl
    · rw [if_neg hF, if_neg hF]; rfl
  rw [hlV]
  generalize hG : tabG h l = Gs at *
  replace hn := Hid.mk hn
  replace hln := Hid.mk hln
  replace hL0 := Hid.mk hL0
  replace hL1 := Hid.mk hL1
  replace hF0 := Hid.mk hF0
  unfold Hand.val tCs at C1 ⊢
  clear hw hm hlV hG
  have hpr : (netE h l Gs).pure = true := rfl
  generalize hNE : netE h l Gs = NE at *
  replace hNE := Hid.mk hNE
  repeat' (with_reducible first | refine x_ops ?_ | refine wk ?_ | (with_reducible refine xc (C1) ?_) | (with_reducible refine xc (C2) ?_) | ((first | refine gd1 ?_ ?_ | refine gd2 ?_ ?_ | refine gd3 ?_ ?_) <;> (first | exact @False.elim _ | intro hc)))
  refine x_scallR [NE] vw (LS _) (LE _) ?_
  intro r1 M1 hP1
  replace hln := Hid.mk (hln.out _ _ _ hP1)
  by_cases h0 : l.length = 0
  · have hf := hF0.out h0
    rw [hf, if_neg (by simp)]
    obtain ⟨_, _, tb, nq, rt, rs, rfl, ⟨_, l1⟩, ⟨nv, o1⟩, _⟩ := hP1
    have o10 := Hid.mk o1
    have l10 := Hid.mk l1
    clear C1 C2 LS LE hln
    repeat' (with_reducible first | refine x_ops ?_ | refine wk ?_ | ((first | refine gd1 ?_ ?_ | refine gd2 ?_ ?_ | refine gd3 ?_ ?_) <;> (first | exact @False.elim _ | intro hc)))
    rw [hNE.out] at o10
    exact hL0.out h0 o10.out l10.out vw vw vw vw
  · obtain ⟨tb, nq, rt, rs, v, rfl, hS⟩ := hln.out (by omega)
    have hS0 := Hid.mk hS
    have h00 := Hid.mk h0
    clear C1 C2 LS LE hln hP1 hS h0
    repeat' (with_reducible first | refine x_ops ?_ | refine wk ?_ | ((first | refine gd1 ?_ ?_ | refine gd2 ?_ ?_ | refine gd3 ?_ ?_) <;> (first | exact @False.elim _ | intro hc)))
    exact hL1.out (by have := h00.out; omega) hS0.out vw vw vw vw

end Go.Proofs.Ytojjdkoglhecbaa
namespace Go.Proofs.Ytojjdkoglhecbaa
open Go.RowKit

set_option maxHeartbeats 4000000 in
/-- The count of a grip. -/
theorem rcount_elem {h : Hand} {l : List Chord} {Gs : List (List Grip)} (hn : NetOk h l Gs) {i k : Nat} (hi : i < l.length) (hk : k < (Gs.getD i []).length) {hb : Nat} {AV : V} {M : Mm} {tok : Tok} {xs : List V} {t : Nat → V}
    (s1 : t 1 = .sl l.length (l.flatMap Chord.cells) .no) (s2 : t 2 = .ptr hb 0) (s6 : t 6 = .sl l.length (Gs.map tGs) .no) (s8 : t 8 = AV) (s9 : t 9 = vint i) (s10 : t 10 = .sl k xs tok) (s11 : t 11 = vint k) (s12 : t 12 = vint 0) (hxl : xs.length = k)
    (hap : Apb M tok k 3 1) (o2 : M.obj hb = some (.box [tIs h.low, tIs h.high, tBs h.barre, vint h.top, vint h.jump, vint h.shift, vint h.lift, vint h.bar, vint h.stretch, vint h.slide] 25)) (l2 : hb < M.next)
    (hav1 : i + 1 = l.length → ∃ k9, AV = .sl 1 [vint 1] k9) (hav : i + 1 < l.length → ∃ k9, AV = .sl (Gs.getD (i + 1) []).length ((cnR h l Gs (i + 1)).map vint) k9) :
    (c_theorboref06_Count_p11).vx Try.prog Gd (fun e s' => e = .nrm ∧ (∃ tok', s'.t 10 = .sl (k + 1) (xs ++ [vint (cn h l Gs i k)]) tok' ∧ Apb s'.m tok' (k + 1) 3 1) ∧ s'.m.obj hb = some (.box [tIs h.low, tIs h.high, tBs h.barre, vint h.top, vint h.jump, vint h.shift, vint h.lift, vint h.bar, vint h.stretch, vint h.slide] 25) ∧ M.next ≤ s'.m.next) ⟨t, M⟩ := by
  have h4 := hn.len
  have hcnt := hn.cnt i
  have hgl := hn.gl
  have w1 : IntKind.i64.wrap ((l.length : Int) - 1) = (l.length : Int) - 1 := w_in (by omega)
  have hnt : tok ≠ .own hb := fun e => by
    rcases hap with h9 | ⟨tr, h9, _, h8⟩
    · rw [h9] at e; cases e
    · rw [h9] at e; injection e with e; rw [e, o2] at h8; cases h8
  have hok := Hid.mk o2
  replace hap := Hid.mk hap
  replace hcnt := Hid.mk hcnt
  replace hnt := Hid.mk hnt
  have fin : ∀ (t' : Nat → V), t' 10 = .sl k xs tok → t' 12 = vint (cn h l Gs i k) → (c_theorboref06_Count_p10).vx Try.prog Gd (fun e s' => e = .nrm ∧ (∃ tok', s'.t 10 = .sl (k + 1) (xs ++ [vint (cn h l Gs i k)]) tok' ∧ Apb s'.m tok' (k + 1) 3 1) ∧ s'.m.obj hb = some (.box [tIs h.low, tIs h.high, tBs h.barre, vint h.top, vint h.jump, vint h.shift, vint h.lift, vint h.bar, vint h.stretch, vint h.slide] 25) ∧ M.next ≤ s'.m.next) ⟨t', M⟩ := by
    intro t' f10 f12
    generalize cn h l Gs i k = ck at *
    clear o2 hav hav1 hn s1 s2 s6 s8 s9 s10 s11 s12
    unfold c_theorboref06_Count_p10
    repeat' (with_reducible first | refine x_ops ?_ | refine wk ?_ | ((first | refine gd1 ?_ ?_ | refine gd2 ?_ ?_ | refine gd3 ?_ ?_) <;> (first | exact @False.elim _ | intro hc)))
    refine x_appg (n := k) (xs := xs) (ys := [vint ck]) (k := tok) vw vw (hap.out.mono (fun _ _ _ => rfl) (by show M.next ≤ M.next + 5; omega)) (hxl.trans (Nat.mul_one k).symm) rfl (by have := hcnt.out; omega) (by unfold Go.maxLen; have := hcnt.out; omega) (by show M.next + 3 < M.next + 5; omega) ?_
    intro k' m' ha hk' hn' hf'
    have hn2 : m'.next = M.next + 5 := hn'
    have ob2 := (hf' hb (by show ¬ hb = M.next + 3; omega) hnt.out).trans hok.out
    replace ha := Hid.mk ha
    replace ob2 := Hid.mk ob2
    clear hf' hk' hn'
    repeat' (with_reducible first | refine x_ops ?_ | refine wk ?_ | ((first | refine gd1 ?_ ?_ | refine gd2 ?_ ?_ | refine gd3 ?_ ?_) <;> (first | exact @False.elim _ | intro hc)))
    exact ⟨⟨k', rfl, ha.out⟩, ob2.out⟩
  replace fin := Hid.mk fin
  clear hap hcnt hnt hxl
  unfold c_theorboref06_Count_p11
  by_cases hlast : i + 1 = l.length
  · have e1 : ((i : Int) == (l.length : Int) - 1) = true := by rw [beq_iff_eq]; omega
    obtain ⟨k9, rfl⟩ := hav1 hlast
    have hcn := cn_last (h := h) (Gs := Gs) (k := k) hlast
    rw [hcn] at fin
    rw [hcn]
    have hc : ¬ (1099511627776 : Int) < 1 := by decide
    have w2 : IntKind.i64.wrap ((0 : Int) + 1) = 1 := by decide
    replace hlast := Hid.mk hlast
    clear hav hav1 hcn o2 hn
    repeat' (with_reducible first | refine x_ops ?_ | refine wk ?_ | ((first | refine gd1 ?_ ?_ | refine gd2 ?_ ?_ | refine gd3 ?_ ?_) <;> (first | exact @False.elim _ | intro hc)))
    refine x_loopF w_theorboref06_Count_p8 kr 1 (fun q t => t 13 = vint (q : Int) ∧ (q = 0 → t 12 = vint 0) ∧ (q = 1 → t 12 = vint 1)) ⟨vv, fun _ => vw, fun e => by cases e⟩ ?_
    rintro q t2 hq ⟨h13, h120, h121⟩
    by_cases hq1 : q = 1
    · have h12 := h121 hq1
      have c1 : ¬ (q : Int) < 1 := by omega
      clear h120 h121 hq1 hq s12
      repeat' (with_reducible first | refine x_ops ?_ | refine wk ?_ | ((first | refine gd1 ?_ ?_ | refine gd2 ?_ ?_ | refine gd3 ?_ ?_) <;> (first | exact @False.elim _ | intro hc)))
      exact fin.out _ vw vw
    have hq0 : q = 0 := by omega
    have h12 := h120 hq0
    have c1 : (q : Int) < 1 := by omega
    have e2 : ([V.lit (.int .i64 1)])[q]? = some (V.lit (.int .i64 1)) := by rw [hq0]; rfl
    have w3 := w_add1 (k := q) (by omega)
    replace hq0 := Hid.mk hq0
    clear h120 h121 hq1 hq s12
    repeat' (with_reducible first | refine x_ops ?_ | refine wk ?_ | ((first | refine gd1 ?_ ?_ | refine gd2 ?_ ?_ | refine gd3 ?_ ?_) <;> (first | exact @False.elim _ | intro hc)))
    exact nf (by have := hq0.out; omega) ⟨vv, (fun e => by cases e), fun _ => vv⟩ rfl
  have hi1 : i + 1 < l.length := by omega
  have e1 : ((i : Int) == (l.length : Int) - 1) = false := by rw [beq_eq_false_iff_ne]; omega
  obtain ⟨k9, rfl⟩ := hav hi1
  have hN := hn.cnt (i + 1)
  have ST := fun q hq => rstep_fn h hn.hk (l.getD i noC) (l.getD (i + 1) noC) (hn.seq i hi).1 (hn.seq (i + 1) hi1).1 (hn.follows hi1) (hn.fits.at i) (hn.fits.at (i + 1)) ((Gs.getD i []).getD k noG) ((Gs.getD (i + 1) []).getD q noG) (hn.grip hi hk).2 (hn.grip hi1 hq).2 (hn.grip hi hk).1 (hn.grip hi1 hq).1
  have hcn := cn_s (h := h) (Gs := Gs) (k := k) hi1
  have hok1 : ∀ q, q ≤ (Gs.getD (i + 1) []).length → 0 ≤ cnS (cnF h l Gs i k) q ∧ cnS (cnF h l Gs i k) q ≤ 1099511627776 := cnS_ok fun m _ => (cnF_ok i k m).1
  have hsk : ∀ q, q < (Gs.getD (i + 1) []).length → (stG h l Gs i k q).2 = false → cnS (cnF h l Gs i k) (q + 1) = cnS (cnF h l Gs i k) q := fun q hq hs => cnS_skip (n := (Gs.getD (i + 1) []).length) (fun m _ => (cnF_ok i k m).1) hq (cnF_none hn hi1 hq (.inr hs))
  have hdo : ∀ q, (stG h l Gs i k q).2 = true → cnS (cnF h l Gs i k) (q + 1) = capI (cnS (cnF h l Gs i k) q + cn h l Gs (i + 1) q) := fun q hs => by rw [cnS, cnF, if_pos hs]
  have hJ := fun q (hq : q < (Gs.getD (i + 1) []).length) => ints_at (l := cnR h l Gs (i + 1)) (k := q) (by rw [cnR_len]; exact hq)
  have hJ2 := fun q (hq : q < (Gs.getD (i + 1) []).length) => cnR_at (h := h) (l := l) hq
  rw [hcn] at fin
  rw [hcn]
  have hci := hn.cnt i
  have g0 := gss_at' (l := Gs) (k := i) (by omega)
  have g1 := gss_at' (l := Gs) (k := i + 1) (by omega)
  have g2 := chs_take hi
  have g3 := chs_take hi1
  have g4 := chs_len l
  have g5 := gs_len (Gs.getD (i + 1) [])
  have g6 := gs_len (Gs.getD i [])
  have g7 := gs_take hk
  have g8 : (Gs.map tGs).length = l.length := by rw [List.length_map, hgl]
  have c0 : (i : Int) < (l.length : Int) := by omega
  have c1 : ((i + 1 : Nat) : Int) < (l.length : Int) := by omega
  have c2 : i * 3 + 3 ≤ l.length * 3 := by omega
  have c3 : (i + 1) * 3 + 3 ≤ l.length * 3 := by omega
  have c4 : k * 2 + 2 ≤ (Gs.getD i []).length * 2 := by omega
  have c5 : (k : Int) < ((Gs.getD i []).length : Int) := by omega
  have wi := w_add1 (k := i) (by omega)
  unfold Hand.val Chord.val Chord.cells Grip.val Grip.cells at ST
  generalize hSS : cnS (cnF h l Gs i k) = SS at *
  have hS0 : SS 0 = 0 := by rw [← hSS]; rfl
  replace hn := Hid.mk hn
  replace ST := Hid.mk ST
  replace hlast := Hid.mk hlast
  replace hok1 := Hid.mk hok1
  replace hsk := Hid.mk hsk
  replace hdo := Hid.mk hdo
  replace hJ := Hid.mk hJ
  replace hJ2 := Hid.mk hJ2
  replace hSS := Hid.mk hSS
  clear hav hav1 hcn
  repeat' (with_reducible first | refine x_ops ?_ | refine wk ?_ | ((first | refine gd1 ?_ ?_ | refine gd2 ?_ ?_ | refine gd3 ?_ ?_) <;> (first | exact @False.elim _ | intro hc)))
  refine x_loopF w_theorboref06_Count_p8 kr (Gs.getD (i + 1) []).length (fun q t => t 13 = vint (q : Int) ∧ t 12 = vint (SS q)) ⟨vv, by rw [hS0]; exact vw⟩ ?_
  clear s12
  rintro q t2 hq ⟨h13, h12⟩
  by_cases hql : q < (Gs.getD (i + 1) []).length
  case neg =>
    have hqe : q = (Gs.getD (i + 1) []).length := by omega
    subst hqe
    have c6 : ¬ ((Gs.getD (i + 1) []).length : Int) < ((Gs.getD (i + 1) []).length : Int) := by omega
    clear hql hq
    repeat' (with_reducible first | refine x_ops ?_ | refine wk ?_ | ((first | refine gd1 ?_ ?_ | refine gd2 ?_ ?_ | refine gd3 ?_ ?_) <;> (first | exact @False.elim _ | intro hc)))
    exact fin.out _ vw vw
  have c6 : (q : Int) < ((Gs.getD (i + 1) []).length : Int) := by omega
  have c7 : q * 2 + 2 ≤ (Gs.getD (i + 1) []).length * 2 := by omega
  have g9 := gs_take hql
  have g10 := cnR_len (h := h) (l := l) (Gs := Gs) (i + 1)
  have wq := w_add1 (k := q) (by omega)
  have STq := ST.out q hql
  have gJ := hJ.out q hql
  rw [hJ2.out q hql] at gJ
  have hb1 := hok1.out q hq
  have hb2 := cn_ok (h := h) (l := l) (Gs := Gs) (i + 1) q
  have hskq := hsk.out q hql
  have hdoq := hdo.out q
  unfold stG at hskq hdoq
  generalize stepR h (l.getD i noC) ((Gs.getD i []).getD k noG) (l.getD (i + 1) noC) ((Gs.getD (i + 1) []).getD q noG) = st at *
  obtain ⟨sc, sb⟩ := st
  dsimp only at STq hskq hdoq
  replace hql := Hid.mk hql
  generalize cn h l Gs (i + 1) q = nq at *
  cases sb
  · have hz := Hid.mk (hskq rfl)
    clear hskq hdoq hb1 hb2 hq
    repeat' (with_reducible first | refine x_ops ?_ | refine wk ?_ | (with_reducible refine xc (STq) ?_) | ((first | refine gd1 ?_ ?_ | refine gd2 ?_ ?_ | refine gd3 ?_ ?_) <;> (first | exact @False.elim _ | intro hc)))
    exact nf hql.out ⟨vv, by rw [hz.out]; exact vw⟩ rfl
  have hz := hdoq rfl
  have w2 : IntKind.i64.wrap (SS q + nq) = SS q + nq := w_in (by omega)
  rw [← capI_if] at hz
  clear hskq hdoq hb1 hb2 hq
  by_cases hc : 1099511627776 < SS q + nq
  · rw [if_pos hc] at hz
    replace hz := Hid.mk hz
    repeat' (with_reducible first | refine x_ops ?_ | refine wk ?_ | (with_reducible refine xc (STq) ?_) | ((first | refine gd1 ?_ ?_ | refine gd2 ?_ ?_ | refine gd3 ?_ ?_) <;> (first | exact @False.elim _ | intro hc)))
    exact nf hql.out ⟨vv, by rw [hz.out]; exact vw⟩ rfl
  · rw [if_neg hc] at hz
    replace hz := Hid.mk hz
    repeat' (with_reducible first | refine x_ops ?_ | refine wk ?_ | (with_reducible refine xc (STq) ?_) | ((first | refine gd1 ?_ ?_ | refine gd2 ?_ ?_ | refine gd3 ?_ ?_) <;> (first | exact @False.elim _ | intro hc)))
    exact nf hql.out ⟨vv, by rw [hz.out]; exact vw⟩ rfl

set_option maxHeartbeats 2000000 in
theorem rcount_end {L : List Int} {tk : Tok} {M : Mm} {t : Nat → V} (hL : L.length ≤ 200) (hv : ∀ j, j < L.length → 0 ≤ L.getD j 0 ∧ L.getD j 0 ≤ 1099511627776) (s8 : t 8 = .sl L.length (L.map vint) tk) :
    (c_theorboref06_Count_p28).vx Try.prog Gd (FinV [.t 4, .t 5] (.tup [vint (cnS (fun j => L.getD j 0) L.length), vint 0])) ⟨t, M⟩ := by
  unfold c_theorboref06_Count_p28
  replace hv := Hid.mk hv
  repeat' (with_reducible first | refine x_ops ?_ | refine wk ?_ | ((first | refine gd1 ?_ ?_ | refine gd2 ?_ ?_ | refine gd3 ?_ ?_) <;> (first | exact @False.elim _ | intro hc)))
  refine x_loopW w_theorboref06_Count_p24 kr L.length (fun k t M => t 16 = vint (k : Int) ∧ t 15 = vint (cnS (fun j => L.getD j 0) k)) ⟨vv, vv⟩ ?_
  rintro k t1 M1 hk ⟨h64, h13⟩
  by_cases hkl : k < L.length
  case neg =>
    have hke : k = L.length := by omega
    subst hke
    have c1 : ¬ (L.length : Int) < (L.length : Int) := by omega
    repeat' (with_reducible first | refine x_ops ?_ | refine wk ?_ | ((first | refine gd1 ?_ ?_ | refine gd2 ?_ ?_ | refine gd3 ?_ ?_) <;> (first | exact @False.elim _ | intro hc)))
    exact finV_dry rfl vw
  have c1 : (k : Int) < (L.length : Int) := by omega
  have g1 := ints_at hkl
  have w1 := w_add1 (k := k) (by omega)
  have hb := cnS_ok (f := fun j => L.getD j 0) (n := L.length) (fun m hm => (hv.out m hm).1) k hk
  have hb2 := hv.out k hkl
  have hsv : cnS (fun j => L.getD j 0) (k + 1) = capI (cnS (fun j => L.getD j 0) k + L.getD k 0) := rfl
  have w2 : IntKind.i64.wrap (cnS (fun j => L.getD j 0) k + L.getD k 0) = cnS (fun j => L.getD j 0) k + L.getD k 0 := w_in (by omega)
  rw [← capI_if] at hsv
  replace hsv := Hid.mk hsv
  replace hkl := Hid.mk hkl
  generalize hS : cnS (fun j => L.getD j 0) k = S at *
  clear hb hb2 hS
  by_cases hc : 1099511627776 < S + L.getD k 0
  · have h9 := hsv.out
    rw [if_pos hc] at h9
    replace h9 := Hid.mk h9
    repeat' (with_reducible first | refine x_ops ?_ | refine wk ?_ | ((first | refine gd1 ?_ ?_ | refine gd2 ?_ ?_ | refine gd3 ?_ ?_) <;> (first | exact @False.elim _ | intro hc)))
    exact nx hkl.out ⟨vv, by rw [h9.out]; exact vv⟩
  · have h9 := hsv.out
    rw [if_neg hc] at h9
    replace h9 := Hid.mk h9
    repeat' (with_reducible first | refine x_ops ?_ | refine wk ?_ | ((first | refine gd1 ?_ ?_ | refine gd2 ?_ ?_ | refine gd3 ?_ ?_) <;> (first | exact @False.elim _ | intro hc)))
    exact nx hkl.out ⟨vv, by rw [h9.out]; exact vv⟩

set_option maxHeartbeats 4000000 in
theorem rCount_fn (h : Hand) (l : List Chord) (hl : Fits l) : Fn Try.prog Gd 54 [h.val, tCs l] (.tup [vint (cntR h l).1, vint (cntR h l).2]) := by
  refine Fn.of_vx0 k_theorboref06_Count (by simp) (by rw [V.pures, pure_hand, V.pures, pure_tCs]; rfl) ?_
  have C1 := rTable_fn h l hl
  rw [tbR] at C1
  rw [cntR]
  unfold c_theorboref06_Count
  by_cases hw : wvE h l = 0
  case neg =>
    rw [if_neg hw] at C1 ⊢
    have e1 : (wvE h l == 0) = false := by rw [beq_eq_false_iff_ne]; exact hw
    clear hw
    unfold Hand.val tCs tGss at C1
    unfold Hand.val tCs
    dsimp only at C1 ⊢
    repeat' (with_reducible first | refine x_ops ?_ | refine wk ?_ | (with_reducible refine xc (C1) ?_) | ((first | refine gd1 ?_ ?_ | refine gd2 ?_ ?_ | refine gd3 ?_ ?_) <;> (first | exact @False.elim _ | intro hc)))
    exact finV_dry rfl vv
  rw [if_pos hw] at C1 ⊢
  have hn := wv_net hl hw
  have h4 := hn.len
  have hgl := hn.gl
  generalize tabG h l = Gs at *
  dsimp only at C1 ⊢
  have w1 : IntKind.i64.wrap ((l.length : Int) - 1) = (l.length : Int) - 1 := w_in (by omega)
  unfold Hand.val tCs tGss at C1
  unfold Hand.val tCs
  rw [hgl] at C1
  replace hn := Hid.mk hn
  replace hgl := Hid.mk hgl
  clear hw
  repeat' (with_reducible first | refine x_ops ?_ | refine wk ?_ | (with_reducible refine xc (C1) ?_) | ((first | refine gd1 ?_ ?_ | refine gd2 ?_ ?_ | refine gd3 ?_ ?_) <;> (first | exact @False.elim _ | intro hc)))
  clear C1
  refine x_genT (fun t M => t 1 = .sl l.length (l.flatMap Chord.cells) .no ∧ t 6 = .sl l.length (Gs.map tGs) .no ∧ t 9 = vint ((l.length : Int) - 1) ∧ t 8 = .sl 1 [vint 1] .exact ∧ ∃ hb, t 2 = .ptr hb 0 ∧ M.obj hb = some (.box [tIs h.low, tIs h.high, tBs h.barre, vint h.top, vint h.jump, vint h.shift, vint h.lift, vint h.bar, vint h.stretch, vint h.slide] 25) ∧ hb < M.next)
    ⟨vv, vv, vv, vv, 0, vv, by ((refine ve ?_; try exact True.intro)); simp [tIs, tBs], by first | exact (show 0 < 3 by decide) | exact (by decide)⟩ ?_
  rintro t0 M0' ⟨a1, a6, a9, a8, hb, a2, ho, hlt⟩
  refine x_loopW w_theorboref06_Count_p20 kr l.length (fun x t M => t 9 = vint ((l.length : Int) - 1 - x) ∧ (x = 0 → t 8 = .sl 1 [vint 1] .exact) ∧ (0 < x → ∃ k9, t 8 = .sl (Gs.getD (l.length - x) []).length ((cnR h l Gs (l.length - x)).map vint) k9) ∧ M.obj hb = some (.box [tIs h.low, tIs h.high, tBs h.barre, vint h.top, vint h.jump, vint h.shift, vint h.lift, vint h.bar, vint h.stretch, vint h.slide] 25) ∧ hb < M.next) ⟨by simpa using a9, fun _ => a8, fun h9 => by omega, ho, hlt⟩ ?_
  clear a9 a8 ho hlt w1
  rintro x t M hx ⟨h9, h80, h81, ho, hlt⟩
  by_cases hxl : x < l.length
  case neg =>
    have hxe : x = l.length := by omega
    subst hxe
    have c1 : ¬ (0 : Int) ≤ (l.length : Int) - 1 - (l.length : Int) := by omega
    have E : ∃ (L : List Int) (k9 : Tok), t 8 = .sl L.length (L.map vint) k9 ∧ L.length ≤ 200 ∧ (∀ j, j < L.length → 0 ≤ L.getD j 0 ∧ L.getD j 0 ≤ 1099511627776) ∧ cnS (fun j => L.getD j 0) L.length = cnT h l Gs := by
      by_cases h0 : l.length = 0
      · refine ⟨[1], .exact, h80 h0, by decide, fun j hj => ?_, ?_⟩
        · have : j = 0 := by simp at hj; omega
          subst this; decide
        · rw [cnT, if_pos h0]; rfl
      · obtain ⟨k9, h8⟩ := h81 (by omega)
        rw [Nat.sub_self] at h8
        refine ⟨cnR h l Gs 0, k9, by rw [cnR_len]; exact h8, by rw [cnR_len]; exact hn.out.cnt 0, fun j hj => by rw [cnR_len] at hj; rw [cnR_at hj]; exact cn_ok _ _, ?_⟩
        rw [cn_t (by omega), cnR_len]
        have : ∀ j, j ≤ (Gs.getD 0 []).length → cnS (fun j => (cnR h l Gs 0).getD j 0) j = cnS (cn h l Gs 0) j := by
          intro j
          induction j with
          | zero => intro _; rfl
          | succ j ih => intro hj; rw [cnS, cnS, ih (by omega), cnR_at (by omega)]
        exact this _ (Nat.le_refl _)
    obtain ⟨L, k9, h8, hL, hLv, hfin⟩ := E
    have E := fun t M (s8 : t 8 = .sl L.length (L.map vint) k9) => rcount_end (t := t) (M := M) (L := L) hL hLv s8
    rw [hfin] at E
    replace E := Hid.mk E
    clear hfin h80 h81 hL hLv hxl hx
    repeat' (with_reducible first | refine x_ops ?_ | refine wk ?_ | ((first | refine gd1 ?_ ?_ | refine gd2 ?_ ?_ | refine gd3 ?_ ?_) <;> (first | exact @False.elim _ | intro hc)))
    exact E.out _ _ vw
  obtain ⟨i, hi⟩ : ∃ i : Nat, i + 1 + x = l.length := ⟨l.length - 1 - x, by omega⟩
  have ei : (l.length : Int) - 1 - (x : Int) = (i : Int) := by omega
  rw [ei] at h9
  have hil : i < l.length := by omega
  have hav : ∃ AV, t 8 = AV ∧ (i + 1 = l.length → ∃ k9, AV = .sl 1 [vint 1] k9) ∧ (i + 1 < l.length → ∃ k9, AV = .sl (Gs.getD (i + 1) []).length ((cnR h l Gs (i + 1)).map vint) k9) := by
    refine ⟨t 8, rfl, fun h1 => ⟨_, h80 (by omega)⟩, fun h1 => ?_⟩
    have := h81 (by omega)
    rwa [show l.length - x = i + 1 by omega] at this
  obtain ⟨AV, h8, hav1, hav2⟩ := hav
  have c0 : (0 : Int) ≤ (i : Int) := by omega
  have c1 : (i : Int) < (l.length : Int) := by omega
  have g1 := gss_at' (l := Gs) (k := i) (by rw [hgl.out]; exact hil)
  have g2 : (Gs.map tGs).length = l.length := by rw [List.length_map, hgl.out]
  have hgl1 := hgl.out
  have hcnt := hn.out.cnt i
  replace hi := Hid.mk hi
  replace ho := Hid.mk ho
  replace hav1 := Hid.mk hav1
  replace hav2 := Hid.mk hav2
  replace ei := Hid.mk ei
  clear h80 h81 hx
  repeat' (with_reducible first | refine x_ops ?_ | refine wk ?_ | ((first | refine gd1 ?_ ?_ | refine gd2 ?_ ?_ | refine gd3 ?_ ?_) <;> (first | exact @False.elim _ | intro hc)))
  refine x_genT (fun t M' => (t 1 = .sl l.length (l.flatMap Chord.cells) .no ∧ t 2 = .ptr hb 0 ∧ t 6 = .sl l.length (Gs.map tGs) .no ∧ t 8 = AV ∧ t 9 = vint i) ∧ (t 10 = .sl 0 [] .exact ∧ t 11 = vint 0) ∧ M'.obj hb = some (.box [tIs h.low, tIs h.high, tBs h.barre, vint h.top, vint h.jump, vint h.shift, vint h.lift, vint h.bar, vint h.stretch, vint h.slide] 25) ∧ hb < M'.next) ⟨⟨vw, vw, vw, vw, vw⟩, ⟨vw, vw⟩, ho.out, hlt⟩ ?_
  clear a1 a2 a6 h8 h9 ho hlt c0
  rintro t2 M2 ⟨⟨a1, a2, a6, a8, a9⟩, ⟨a10, a11⟩, ho, hlt⟩
  refine x_loopW w_theorboref06_Count_p14 kr (Gs.getD i []).length (fun k t M' => t 11 = vint (k : Int) ∧ (∃ tok, t 10 = .sl k (((cnR h l Gs i).take k).map vint) tok ∧ Apb M' tok k 3 1) ∧ M'.obj hb = some (.box [tIs h.low, tIs h.high, tBs h.barre, vint h.top, vint h.jump, vint h.shift, vint h.lift, vint h.bar, vint h.stretch, vint h.slide] 25) ∧ hb < M'.next) ⟨a11, ⟨.exact, a10, .inl rfl⟩, ho, hlt⟩ ?_
  clear a11 a10 ho hlt
  rintro k t3 M3 hk ⟨h43, ⟨tok, h10, hap⟩, ho, hlt⟩
  by_cases hkl : k < (Gs.getD i []).length
  case neg =>
    have hke : k = (Gs.getD i []).length := by omega
    subst hke
    have c2 : ¬ ((Gs.getD i []).length : Int) < ((Gs.getD i []).length : Int) := by omega
    have htk : (cnR h l Gs i).take (Gs.getD i []).length = cnR h l Gs i := List.take_of_length_le (by rw [cnR_len]; exact Nat.le_refl _)
    rw [htk] at h10
    have w1 : IntKind.i64.wrap ((i : Int) - 1) = (i : Int) - 1 := w_in (by omega)
    have ex : (i : Int) - 1 = (l.length : Int) - 1 - ((x + 1 : Nat) : Int) := by have := hi.out; omega
    have el : l.length - (x + 1) = i := by have := hi.out; omega
    replace hxl := Hid.mk hxl
    replace ex := Hid.mk ex
    replace el := Hid.mk el
    replace ho := Hid.mk ho
    clear htk hkl hk hap hcnt
    repeat' (with_reducible first | refine x_ops ?_ | refine wk ?_ | ((first | refine gd1 ?_ ?_ | refine gd2 ?_ ?_ | refine gd3 ?_ ?_) <;> (first | exact @False.elim _ | intro hc)))
    exact nx hxl.out ⟨by rw [← ex.out]; exact vw, (fun e => by cases e), fun _ => ⟨tok, by rw [el.out]; exact vw⟩, ho.out, hlt⟩
  have c2 : (k : Int) < ((Gs.getD i []).length : Int) := by omega
  have w1 := w_add1 (k := k) (by omega)
  have htk := ints_take (l := cnR h l Gs i) (k := k) (by rw [cnR_len]; exact hkl)
  rw [cnR_at hkl] at htk
  have hxs : (((cnR h l Gs i).take k).map vint).length = k := by rw [List.length_map, List.length_take, cnR_len]; omega
  have E := fun t (s1 : t 1 = _) (s2 : t 2 = _) (s6 : t 6 = _) (s8 : t 8 = AV) (s9 : t 9 = _) (s10 : t 10 = _) (s11 : t 11 = vint k) (s12 : t 12 = vint 0) => rcount_elem (t := t) hn.out hil hkl s1 s2 s6 s8 s9 s10 s11 s12 hxs hap ho hlt hav1.out hav2.out
  rw [← htk] at E
  replace E := Hid.mk E
  replace hkl := Hid.mk hkl
  clear hap ho hk htk hxs
  repeat' (with_reducible first | refine x_ops ?_ | refine wk ?_ | ((first | refine gd1 ?_ ?_ | refine gd2 ?_ ?_ | refine gd3 ?_ ?_) <;> (first | exact @False.elim _ | intro hc)))
  refine x_sum 158456325028528666390994908160 kr (R := fun e t m' => e = .nrm ∧ (∃ tok', t 10 = .sl (k + 1) (((cnR h l Gs i).take (k + 1)).map vint) tok' ∧ Apb m' tok' (k + 1) 3 1) ∧ m'.obj hb = some (.box [tIs h.low, tIs h.high, tBs h.barre, vint h.top, vint h.jump, vint h.shift, vint h.lift, vint h.bar, vint h.stretch, vint h.slide] 25) ∧ M3.next ≤ m'.next) (E.out _ vw vw vw vw vw vw vw vw) ?_
  rintro e t4 M4 ⟨rfl, ⟨tok4, h104, hap4⟩, ho4, hn4⟩
  have hl4 : hb < M4.next := by omega
  replace hap4 := Hid.mk hap4
  replace ho4 := Hid.mk ho4
  clear E
  repeat' (with_reducible first | refine x_ops ?_ | refine wk ?_ | ((first | refine gd1 ?_ ?_ | refine gd2 ?_ ?_ | refine gd3 ?_ ?_) <;> (first | exact @False.elim _ | intro hc)))
  exact nx hkl.out ⟨vw, ⟨tok4, vw, hap4.out⟩, ho4.out, hl4⟩
end Go.Proofs.Ytojjdkoglhecbaa
namespace Go.Proofs.Ytojjdkoglhecbaa
open Go.RowKit

/-- As many are listed as are counted. -/
theorem cnt_ls (h : Hand) (l : List Chord) (Gs : List (List Grip)) : (64 < cnT h l Gs → (fgL h l Gs 64).length = 64) ∧ (¬ 64 < cnT h l Gs → ((fgL h l Gs 64).length : Int) = cnT h l Gs) := by
  by_cases h0 : l.length = 0
  · rw [cnT, if_pos h0, fgL, if_pos h0]; exact ⟨fun h1 => by omega, fun _ => rfl⟩
  · rw [cnT, if_neg h0, fgL_len 64 (by omega), capI]
    refine ⟨fun h1 => ?_, fun h1 => ?_⟩
    · split at h1 <;> omega
    · split at h1 <;> split <;> omega
set_option maxHeartbeats 4000000 in
theorem handcounts_fn (h : Hand) (l : List Chord) (hl : Fits l) : Fn Try.prog Gd 14 [srV h l] (vbool true) := by
  refine Fn.of_vx0 k_theorbolaw06_HandCounts (by simp) (by rw [V.pures, pure_sr]; rfl) ?_
  have C0 := heavy_fn h l hl
  have C1 := Count_fn h l hl
  have C2 := rCount_fn h l hl
  have C3 := List_fn h l hl 64
  have C5 := works_fn
  have hl0 := hl.1
  unfold Hand.val tCs at C0 C1 C2 C3
  unfold c_theorbolaw06_HandCounts srV tCs
  generalize hvB h l = hv at *
  cases hv
  case true =>
    clear C1 C2 C3
    repeat' (with_reducible first | refine x_ops ?_ | refine wk ?_ | (with_reducible refine xc (C0) ?_) | (with_reducible refine xc (C5) ?_) | ((first | refine gd1 ?_ ?_ | refine gd2 ?_ ?_ | refine gd3 ?_ ?_) <;> (first | exact @False.elim _ | intro hc)))
    all_goals exact finV_dry rfl vv
  rw [cntR] at C1 C2
  rw [lsR] at C3
  by_cases hw : wvE h l = 0
  case neg =>
    rw [if_neg hw] at C1 C2 C3
    rw [lsV_nil] at C3
    have e1 : (wvE h l == 0) = false := by rw [beq_eq_false_iff_ne]; exact hw
    have e2 : (wvE h l == wvE h l) = true := beq_self_eq_true _
    dsimp only at C1 C2
    clear hw hl hl0
    generalize wvE h l = e at *
    repeat' (with_reducible first | refine x_ops ?_ | simp only [go_sem, Nat.reduceAdd, Nat.reduceEqDiff, Nat.reduceLT, Nat.reduceLeDiff, Nat.reduceMul, Nat.reduceSub, Nat.reducePow, Nat.reduceDiv, Nat.reduceMod, Nat.reduceBEq, Int.reduceBEq, Int.reduceLT, reduceIte, tIs, tBs, tPs, vund, *] | (with_reducible refine xc (C0) ?_) | (with_reducible refine xc (C1) ?_) | (with_reducible refine xc (C2) ?_) | (with_reducible refine xc (C3) ?_) | (with_reducible refine xc (C5) ?_) | ((first | refine gd1 ?_ ?_ | refine gd2 ?_ ?_ | refine gd3 ?_ ?_) <;> (first | exact @False.elim _ | intro hc)))
    all_goals exact finV_dry rfl vv
  have hcl := cnt_ls h l (tabG h l)
  rw [if_pos hw] at C1 C2 C3
  rw [if_pos (by decide)] at C3
  dsimp only at C1 C2
  rw [show (64 : Int).toNat = 64 from rfl] at C3
  generalize cnT h l (tabG h l) = n at *
  generalize fgL h l (tabG h l) 64 = A at *
  have e2 : (n == n) = true := beq_self_eq_true _
  clear hw hl hl0
  by_cases hA : A = []
  · have hn0 : n = 0 := by
      subst hA
      by_cases h64 : 64 < n
      · have := hcl.1 h64; simp at this
      · have := hcl.2 h64; simp at this; omega
    rw [if_pos hA, lsV_nil] at C3
    subst hn0
    clear hcl hA e2
    repeat' (with_reducible first | refine x_ops ?_ | simp only [go_sem, Nat.reduceAdd, Nat.reduceEqDiff, Nat.reduceLT, Nat.reduceLeDiff, Nat.reduceMul, Nat.reduceSub, Nat.reducePow, Nat.reduceDiv, Nat.reduceMod, Nat.reduceBEq, Int.reduceBEq, Int.reduceLT, reduceIte, tIs, tBs, tPs, vund, *] | (with_reducible refine xc (C0) ?_) | (with_reducible refine xc (C1) ?_) | (with_reducible refine xc (C2) ?_) | (with_reducible refine xc (C3) ?_) | (with_reducible refine xc (C5) ?_) | ((first | refine gd1 ?_ ?_ | refine gd2 ?_ ?_ | refine gd3 ?_ ?_) <;> (first | exact @False.elim _ | intro hc)))
    all_goals exact finV_dry rfl vv
  rw [if_neg hA] at C3
  unfold lsV tFs at C3
  dsimp only at C3
  by_cases h64 : 64 < n
  · have hN := hcl.1 h64
    rw [hN] at C3
    clear hcl hA
    repeat' (with_reducible first | refine x_ops ?_ | simp only [go_sem, Nat.reduceAdd, Nat.reduceEqDiff, Nat.reduceLT, Nat.reduceLeDiff, Nat.reduceMul, Nat.reduceSub, Nat.reducePow, Nat.reduceDiv, Nat.reduceMod, Nat.reduceBEq, Int.reduceBEq, Int.reduceLT, reduceIte, tIs, tBs, tPs, vund, *] | (with_reducible refine xc (C0) ?_) | (with_reducible refine xc (C1) ?_) | (with_reducible refine xc (C2) ?_) | (with_reducible refine xc (C3) ?_) | (with_reducible refine xc (C5) ?_) | ((first | refine gd1 ?_ ?_ | refine gd2 ?_ ?_ | refine gd3 ?_ ?_) <;> (first | exact @False.elim _ | intro hc)))
    all_goals exact finV_dry rfl vv
  · have hN := hcl.2 h64
    have e4 : ((A.length : Int) == n) = true := by rw [beq_iff_eq]; exact hN
    clear hcl hA hN
    generalize A.flatMap fgC = FL at *
    generalize A.length = N at *
    repeat' (with_reducible first | refine x_ops ?_ | simp only [go_sem, Nat.reduceAdd, Nat.reduceEqDiff, Nat.reduceLT, Nat.reduceLeDiff, Nat.reduceMul, Nat.reduceSub, Nat.reducePow, Nat.reduceDiv, Nat.reduceMod, Nat.reduceBEq, Int.reduceBEq, Int.reduceLT, reduceIte, tIs, tBs, tPs, vund, *] | (with_reducible refine xc (C0) ?_) | (with_reducible refine xc (C1) ?_) | (with_reducible refine xc (C2) ?_) | (with_reducible refine xc (C3) ?_) | (with_reducible refine xc (C5) ?_) | ((first | refine gd1 ?_ ?_ | refine gd2 ?_ ?_ | refine gd3 ?_ ?_) <;> (first | exact @False.elim _ | intro hc)))
    all_goals exact finV_dry rfl vv
end Go.Proofs.Ytojjdkoglhecbaa
