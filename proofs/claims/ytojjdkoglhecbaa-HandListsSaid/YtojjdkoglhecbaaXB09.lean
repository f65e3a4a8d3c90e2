/- The reference's search, run: a fingering out of a tail. The lister, run: get, from the beginning; what a call from a chord on leaves of the whole. The lister, run: the fingering of a rank. The lister, run: the fingering of a rank, walked. Functions of the program, as code on values by numbers: printed by a program from the program that was given, and held against it here. The lister, run: the first fingering, Best and List, by fingerings in order. The lister, run: first and Best. The reference's search, run: the tails from a grip on. The reference's search, run. The first of all ways is the best one: two roads to the same fingering. Nothing is run here. All frets and positions raised: plain. rest and chosen of the laws, on values. The law HandRaised, on values. Laws about tables: SameTable, Changed. More arguments read: tables and changes. Heavy of the laws, on values. The law HandProves, on values. List and Best, of both, run; the law HandLists. The law HandLists, run. -/
import Derived.Test.YtojjdkoglhecbaaG0
import Derived.Test.YtojjdkoglhecbaaWk
import Derived.Test.YtojjdkoglhecbaaXB03
import Derived.Test.YtojjdkoglhecbaaXB04
import Derived.Test.YtojjdkoglhecbaaXw
import Derived.Test.YtojjdkoglhecbaaXB06
import Derived.Test.YtojjdkoglhecbaaXB07
import Derived.Test.YtojjdkoglhecbaaXB08
set_option linter.unusedSimpArgs false
set_option linter.unusedVariables false
namespace Go.Proofs.Ytojjdkoglhecbaa
open Go.RowKit

/-- Where the decoding of a tail stands, with the grips G. -/
def DcV (h : Hand) (l : List Chord) (Gs : List (List Grip)) (T : List Grip) (y : Nat) (G : List Grip) (v : V) : Prop :=
  G.length = y ∧ ((y < l.length ∧ ∃ k r, k < (Gs.getD y []).length ∧ r < (tl h l Gs y k).length ∧ v = .ept (tcE h l Gs y k r) 0 ∧ G ++ grps Gs y (pth h l Gs y k r) = T) ∨ (y = l.length ∧ v = .lit (.pointer none) ∧ G = T))
theorem tl_at {h : Hand} {l : List Chord} {Gs : List (List Grip)} (hn : NetOk h l Gs) {i k r : Nat} (hi : i + 1 < l.length) (hk : k < (Gs.getD i []).length) (hr : r < (tl h l Gs i k).length) : ∃ m s : Nat, m < (Gs.getD (i + 1) []).length ∧ s < (tl h l Gs (i + 1) m).length ∧ (tl h l Gs i k).getD r noW = (((tl h l Gs i k).getD r noW).1, (m : Int), (s : Int)) := by
  obtain ⟨_, _, _, h4⟩ := tl_ok hn _ i rfl (by omega) k hk _ (mem_nthW hr)
  obtain ⟨m, s, h5, _, h6, h7⟩ := h4 hi
  exact ⟨m, s, h5, h6, by rw [h7]⟩
/-- One more grip: the cells of the tail, what is behind it. -/
theorem dc_next {h : Hand} {l : List Chord} {Gs : List (List Grip)} (hn : NetOk h l Gs) {T : List Grip} {y : Nat} {G : List Grip} {v : V} (hd : DcV h l Gs T y G v) (hy : y < l.length) :
    ∃ g c w, v = .ept [vint g.pos, tIs g.fingers, c, w] 0 ∧ g.fingers.length ≤ 8796093022208 ∧ DcV h l Gs T (y + 1) (G ++ [g]) w := by
  obtain ⟨hl, ⟨_, k, r, hk, hr, rfl, hT⟩ | ⟨h1, _⟩⟩ := hd
  case inr => omega
  refine ⟨grp Gs y k, ?_⟩
  have hfl : (grp Gs y k).fingers.length ≤ 8796093022208 := by
    have h1 := (hn.grip hy hk).2
    have h2 := (hn.fits.at y).1
    rw [grp, h1]; exact h2
  by_cases e : y + 1 = l.length
  · refine ⟨_, _, by rw [tcE_last e]; rfl, hfl, by rw [List.length_append, hl]; rfl, .inr ⟨e, rfl, ?_⟩⟩
    rw [← hT, pth_last e]; rfl
  · have hy1 : y + 1 < l.length := by omega
    obtain ⟨m, s, h5, h6, h7⟩ := tl_at hn hy1 hk hr
    refine ⟨_, _, by rw [tcE_s hy1]; rfl, hfl, by rw [List.length_append, hl]; rfl, .inl ⟨hy1, m, s, h5, h6, ?_, ?_⟩⟩
    · rw [h7]; simp only [Int.toNat_natCast]
    · rw [← hT, pth_s hy1, h7]
      simp only [Int.toNat_natCast]
      rw [grps, List.append_assoc]; rfl
theorem dc_end {h : Hand} {l : List Chord} {Gs : List (List Grip)} {T : List Grip} {G : List Grip} {v : V} (hd : DcV h l Gs T l.length G v) : v = .lit (.pointer none) ∧ G = T := by
  obtain ⟨hl, ⟨h1, _⟩ | ⟨_, h2, h3⟩⟩ := hd
  · omega
  · exact ⟨h2, h3⟩

set_option maxHeartbeats 4000000 in
/-- A tail's fingering is appended. -/
theorem search_dec {h : Hand} {l : List Chord} {Gs : List (List Grip)} (hn : NetOk h l Gs) (hl : 0 < l.length) {k r j : Nat} (hk : k < (Gs.getD 0 []).length) (hr : r < (tl h l Gs 0 k).length) (hj : j ≤ 1000) {t : Nat → V} {M : Mm} {xs : List V} {tok : Tok}
    (s21 : t 21 = .sl j xs tok) (hxs : xs.length = j * 2) (hap : Apb M tok j 40 2) (s23 : t 23 = .ept (tcE h l Gs 0 k r) 0) :
    (c_theorboref06_search_b_p35).vx Try.prog Gd (fun e s' => e = .nrm ∧ ∃ tok', s'.t 21 = .sl (j + 1) (xs ++ fgC (grps Gs 0 (pth h l Gs 0 k r), ((tl h l Gs 0 k).getD r noW).1)) tok' ∧ Apb s'.m tok' (j + 1) 40 2) ⟨t, M⟩ := by
  have h4 := hn.len
  have hc := tcE_cost (h := h) (l := l) (Gs := Gs) hl hr
  have hd0 : DcV h l Gs (grps Gs 0 (pth h l Gs 0 k r)) 0 [] (.ept (tcE h l Gs 0 k r) 0) := ⟨rfl, .inl ⟨hl, k, r, hk, hr, rfl, rfl⟩⟩
  generalize grps Gs 0 (pth h l Gs 0 k r) = T at *
  generalize ((tl h l Gs 0 k).getD r noW).1 = cost at *
  generalize tcE h l Gs 0 k r = tc0 at *
  unfold c_theorboref06_search_b_p35
  have hap0 := Hid.mk hap
  replace hd0 := Hid.mk hd0
  replace hn := Hid.mk hn
  clear hap hk hr
  repeat' (with_reducible first | refine x_ops ?_ | refine wk ?_ | ((first | refine gd1 ?_ ?_ | refine gd2 ?_ ?_ | refine gd3 ?_ ?_) <;> (first | exact @False.elim _ | intro hc)))
  refine x_genT (fun t M1 => t 21 = .sl j xs tok ∧ t 25 = .ept tc0 0 ∧ Kf M M1 ∧ ∃ fb, t 24 = .ptr fb 0 ∧ fb < M1.next ∧ M1.obj fb = some (.box [.sl 0 [] .exact, vint cost] 40))
    ⟨vw, vv, ⟨by show M.next ≤ M.next + 7; omega, fun q hq => (put_otherT _ _ (by omega)).trans (put_otherT _ _ (by omega))⟩, M.next + 5, vv, by show M.next + 5 < M.next + 7; omega, put_sameT _ _ _⟩ ?_
  clear s21 s23 hc
  rintro t1 M1 ⟨s21, s25, hkf, fb, s24, hfb, ofb⟩
  refine x_loopW w_theorboref06_search_b_p31 kr l.length (fun y t M' => ∃ G tk, DcV h l Gs T y G (t 25) ∧ (M'.obj fb = some (.box [.sl G.length (G.flatMap Grip.cells) tk, vint cost] 40) ∧ fb < M'.next) ∧ Apb M' tk G.length 53 2 ∧ Apb M' tok j 40 2)
    ⟨[], .exact, by show DcV h l Gs T 0 [] (t1 25); rw [s25]; exact hd0.out, ⟨ofb, hfb⟩, .inl rfl, hkf.apb hap0.out⟩ ?_
  clear hkf s25 hfb ofb
  rintro y t2 M2 hy ⟨G, tk, hd, ⟨ofb, hfb⟩, hapk, hapt⟩
  by_cases hyl : y < l.length
  case neg =>
    have hye : y = l.length := by omega
    subst hye
    obtain ⟨s25, rfl⟩ := dc_end hd
    replace hd := Hid.mk hd
    have hapt0 := Hid.mk hapt
    clear hapk hyl hy hapt
    repeat' (with_reducible first | refine x_ops ?_ | refine wk ?_ | ((first | refine gd1 ?_ ?_ | refine gd2 ?_ ?_ | refine gd3 ?_ ?_) <;> (first | exact @False.elim _ | intro hc)))
    refine x_appg (xs := xs) (ys := [.sl G.length (G.flatMap Grip.cells) .no, vint cost]) vw vw (hapt0.out.mono (fun _ _ _ => rfl) (Nat.le_add_right _ _)) hxs rfl (by omega) (by unfold Go.maxLen; omega) (by show M2.next + 3 < M2.next + 5; omega) ?_
    intro tok2 M3 hap3 _ _ _
    replace hap3 := Hid.mk hap3
    repeat' (with_reducible first | refine x_ops ?_ | refine wk ?_ | ((first | refine gd1 ?_ ?_ | refine gd2 ?_ ?_ | refine gd3 ?_ ?_) <;> (first | exact @False.elim _ | intro hc)))
    exact ⟨tok2, rfl, hap3.out⟩
  obtain ⟨g, c, w, s25, hgf, hd2⟩ := dc_next hn.out hd hyl
  have hGl := hd.1
  have gcl := gs_len G
  have hnb : tk ≠ .own fb := apbT_box hapk ofb
  have hnt := apbT_ne hapk hapt (by decide)
  replace hd := Hid.mk hd
  replace hd2 := Hid.mk hd2
  replace hGl := Hid.mk hGl
  have hyl0 := Hid.mk hyl
  have hapk0 := Hid.mk hapk
  have hapt0 := Hid.mk hapt
  have ofb0 := Hid.mk ofb
  clear hyl hy hapk hapt
  repeat' (with_reducible first | refine x_ops ?_ | refine wk ?_ | ((first | refine gd1 ?_ ?_ | refine gd2 ?_ ?_ | refine gd3 ?_ ?_) <;> (first | exact @False.elim _ | intro hc)))
  refine x_appE (n := 0) (j := g.fingers.length) (xs := []) (ys := g.fingers.map vint) (k2 := .no) vw vw rfl (by simp) (by omega) (by unfold Go.maxLen; omega) ?_
  repeat' (with_reducible first | refine x_ops ?_ | refine wk ?_ | ((first | refine gd1 ?_ ?_ | refine gd2 ?_ ?_ | refine gd3 ?_ ?_) <;> (first | exact @False.elim _ | intro hc)))
  refine x_appg (xs := G.flatMap Grip.cells) (ys := Grip.cells g) (k := tk) vw (by unfold Grip.cells; exact vw) (hapk0.out.mono (fun q hq _ => put_otherT _ _ (by omega)) (by simp only [put_next]; omega)) gcl rfl (by have := hGl.out; have := hyl0.out; omega) (by have := hGl.out; have := hyl0.out; unfold Go.maxLen; omega) (by simp only [put_next]; omega) ?_
  intro tk2 M3 hap3 htk3 hn3 hf3
  have hn3' : M2.next ≤ M3.next := by rw [hn3]; simp only [put_next]; omega
  have old : ∀ p, p < M2.next → tk ≠ .own p → M3.obj p = M2.obj p := fun p hp hne => (hf3 p (by omega) hne).trans (put_otherT _ _ (by omega))
  have ofb3 := (old fb hfb hnb).trans ofb0.out
  have hfb3 : fb < M3.next := by omega
  have hapt3 : Apb M3 tok j 40 2 := hapt0.out.mono (fun p hp ho => old p hp (fun e => by
    rcases hapk0.out with h1 | ⟨t, h1, _, h3⟩
    · rw [h1] at e; cases e
    · rw [h1] at e; injection e with e; subst e; rw [h3] at ho; injection ho with ho; injection ho with _ ho; cases ho)) hn3'
  have hfc : (G ++ [g]).flatMap Grip.cells = G.flatMap Grip.cells ++ Grip.cells g := by rw [List.flatMap_append]; simp
  have hgl : (G ++ [g]).length = G.length + 1 := by simp
  replace hfc := Hid.mk hfc
  replace hgl := Hid.mk hgl
  replace hap3 := Hid.mk hap3
  replace hapt3 := Hid.mk hapt3
  clear hn3 hf3 htk3 old ofb hnt
  repeat' (with_reducible first | refine x_ops ?_ | refine wk ?_ | ((first | refine gd1 ?_ ?_ | refine gd2 ?_ ?_ | refine gd3 ?_ ?_) <;> (first | exact @False.elim _ | intro hc)))
  have e9 : ∀ v, v = w → DcV h l Gs T (y + 1) (G ++ [g]) v := fun v hv => hv ▸ hd2.out
  have nrow : ∀ (o : AObj) {k : Tok} {n : Nat} {e : TypeId} {z : Nat}, Apb M3 k n e z → Apb (⟨(M3.put fb o).obj, M3.next⟩ : Mm) k n e z := fun o _ _ _ _ ha => ha.mono (fun q _ ho => put_otherT _ _ (fun e => by subst e; rw [ofb3] at ho; cases ho)) (Nat.le_refl _)
  refine nx hyl0.out ⟨G ++ [g], tk2, e9 _ vw, ⟨(put_sameT _ _ _).trans (by rw [hfc.out, hgl.out]), ?_⟩, ?_, ?_⟩
  · exact hfb3
  · rw [hgl.out]; exact nrow _ hap3.out
  · exact nrow _ hapt3.out
end Go.Proofs.Ytojjdkoglhecbaa
namespace Go.Proofs.Ytojjdkoglhecbaa
open Go.RowKit

theorem grd_ex {n : Nat} {c : Nat → List Int} (hs : ∀ m, m < n → Asc (c m)) : ∀ j, j ≤ (mrg n c).length → ∃ a, Grd n c j a
  | 0, _ => ⟨_, grd_0⟩
  | j + 1, h => by
    obtain ⟨a, h1⟩ := grd_ex hs j (by omega)
    obtain ⟨m, _, _, _, h2⟩ := grd_next hs h1 (by omega)
    exact ⟨_, h2⟩
/-- A rank is not greater than the place. -/
theorem mrg_rank {n : Nat} {c : Nat → List Int} (hs : ∀ m, m < n → Asc (c m)) {j : Nat} (hj : j < (mrg n c).length) : ((mrg n c).getD j noW).2.2 ≤ (j : Int) := by
  obtain ⟨a, h1⟩ := grd_ex hs j (by omega)
  obtain ⟨m, _, _, h2, _⟩ := grd_next hs h1 hj
  have := h1.aj m
  rw [h2, hdG]
  dsimp only
  omega
theorem tl_rank {h : Hand} {l : List Chord} {Gs : List (List Grip)} {i k r : Nat} (hi : i + 1 < l.length) (hr : r < (tl h l Gs i k).length) : ((tl h l Gs i k).getD r noW).2.2 ≤ (r : Int) := by
  rw [tl_s hi] at hr ⊢
  exact mrg_rank (fun m _ => tlC_asc hi) hr
theorem rt_rank {h : Hand} {l : List Chord} {Gs : List (List Grip)} {r : Nat} (hl : 0 < l.length) (hr : r < (rtT h l Gs).length) : ((rtT h l Gs).getD r noW).2.2 ≤ (r : Int) := mrg_rank (fun m _ => rtC_asc hl) hr

/-- The whole, behind a call from the chord i on. -/
theorem ls_lift {h : Hand} {l : List Chord} {Gs : List (List Grip)} {tb nq rt i : Nat} {rs : List Nat} {own own' : Own} {M M' : Mm} (hL : LsG h l Gs tb nq rt rs 0 own M) (ho : ∀ q, q < M.next → own' q = own q) (hL' : LsG h l Gs tb nq rt rs i own' M') (hf : FgL rs l.length own i M M') : LsG h l Gs tb nq rt rs 0 own' M' := by
  refine ⟨hL'.tbo, hL'.nqo, fun y _ hyl => ?_, hL'.inj, hL'.ltt, hL'.ltn, hL'.ltr, hL'.ot, hL'.on, hL'.oy, hL'.cl⟩
  by_cases e : i ≤ y
  · exact hL'.row y e hyl
  · obtain ⟨R, r1, r2, r3⟩ := hL.row y (Nat.zero_le _) hyl
    refine ⟨R, (hf.2 _ (hL.ltr y hyl) (fun y' k e2 => by rw [hL.oy y hyl] at e2; cases e2) (fun y' hy' hyl' => by have := hL.inj y y' (by omega) hyl'; omega)).trans r1, r2, fun k hk => ?_⟩
    obtain ⟨x, x1, x2⟩ := r3 k hk
    refine ⟨x, x1, x2.keep hf.1 ho fun q hq hqo => hf.2 q hq (fun y' k' e2 => by rw [hqo] at e2; injection e2 with e2; injection e2 with e2 _; omega) (fun y' hy' hyl' e2 => by rw [e2, hL.oy y' hyl'] at hqo; cases hqo)⟩
/-- A lister, as a whole. -/
structure LiS (h : Hand) (l : List Chord) (Gs : List (List Grip)) (tb nq rt : Nat) (rs : List Nat) (own : Own) (tok : Tok) (v : V) (M : Mm) : Prop where
  ls : LsG h l Gs tb nq rt rs 0 own M
  nd : ∃ j due H, NdS (rtT h l Gs) (BagI (Gs.getD 0 []).length (rtC h l Gs)) own none rt M j due H tok v
/-- It goes on. -/
def LiT (h : Hand) (l : List Chord) (Gs : List (List Grip)) (tb nq rt : Nat) (rs : List Nat) (own : Own) (tok : Tok) (v : V) (M M' : Mm) : Prop :=
  ∃ own' tok' v', LiS h l Gs tb nq rt rs own' tok' v' M' ∧ Trn rs l.length 0 rt own M tok v own' M' tok' v'
/-- What get leaves, of a chord on, for the whole. -/
theorem li_get {h : Hand} {l : List Chord} {Gs : List (List Grip)} {tb nq rt i r : Nat} {rs : List Nat} {own : Own} {tok : Tok} {v : V} {M : Mm} {T' : List Way} {res : V} {M' : Mm} (hS : LiS h l Gs tb nq rt rs own tok v M) (hp : GpPost h l Gs tb nq rt rs T' i r own M res M') :
    ∃ own', LiS h l Gs tb nq rt rs own' tok v M' ∧ Trn rs l.length 0 rt own M tok v own' M' tok v := by
  obtain ⟨_, own', h1, h2, h3⟩ := hp
  obtain ⟨j, due, H, hs⟩ := hS.nd
  have hk : ∀ q, q < M.next → own q = none → (∀ y, 0 ≤ y → y < l.length → q ≠ rs.getD y 0) → M'.obj q = M.obj q := fun q hq ho hy => h3.2 q hq (fun y k e => by rw [ho] at e; cases e) fun y _ hyl => hy y (Nat.zero_le _) hyl
  refine ⟨own', ⟨ls_lift hS.ls h1 h2 h3, j, due, H, hs.keep h3.1 h1 fun q hq hqo hqc => hk q hq hqo (hS.ls.nrs hs hqc)⟩, ⟨h3.1, h1, fun q hq _ _ _ h4 h5 => hk q hq (by
    cases ho : own q with
    | none => rfl
    | some x => obtain ⟨y, k⟩ := x; have := h4 y k ho; omega) h5, fun q n e => .inl ⟨n, e⟩, fun q e => .inl e⟩⟩

/-- What get leaves, from the beginning. -/
def GrPost (h : Hand) (l : List Chord) (Gs : List (List Grip)) (tb nq rt : Nat) (rs : List Nat) (r : Nat) (own : Own) (tok : Tok) (v : V) (M : Mm) (res : V) (M' : Mm) : Prop := res = GtR (rtT h l Gs) r ∧ LiT h l Gs tb nq rt rs own tok v M M'
theorem grPost_ex {h : Hand} {l : List Chord} {Gs : List (List Grip)} {tb nq rt : Nat} {rs : List Nat} (r : Nat) {own : Own} {tok : Tok} {v : V} {M : Mm} (hS : LiS h l Gs tb nq rt rs own tok v M) : ∃ res M', GrPost h l Gs tb nq rt rs r own tok v M res M' := ⟨_, M, rfl, own, tok, v, hS, Trn.refl _ _ _ _ _ _ _ _⟩

set_option maxHeartbeats 4000000 in
theorem get_root {h : Hand} {l : List Chord} {Gs : List (List Grip)} (hn : NetOk h l Gs) (hl : 0 < l.length) {tb nq rt r : Nat} {rs : List Nat} {own : Own} {tok : Tok} {v : V} {M : Mm} (hS : LiS h l Gs tb nq rt rs own tok v M) (hr : r ≤ 100) :
    SFn Try.prog Gd 112 [.ptr tb 0, vint (-1), vint 0, vint r] M (GrPost h l Gs tb nq rt rs r own tok v M) := by
  refine SFn.of_vxS k_hand_lister_get_b (by simp) ?_
  obtain ⟨hL, j, due, H, hs⟩ := hS
  have o1 := hL.tbo
  have l1 := hL.ltt
  have x0 : ¬ tb = M.next := by omega
  have c1 : ¬ (0 : Int) ≤ -1 := by decide
  have low : ∀ a : AObj, ∀ q, q < M.next → ((⟨M.obj, M.next + 2⟩ : Mm).put M.next a).obj q = M.obj q := fun a q hq => put_other _ _ (by omega)
  have GS := get_all hn tb nq rt rs _ 0 rfl hl
  unfold c_hand_lister_get_b
  have hL0 := Hid.mk hL
  have hs0 := Hid.mk hs
  replace low := Hid.mk low
  clear hL hs
  repeat' (with_reducible first | refine x_ops ?_ | refine wk ?_ | ((first | refine gd1 ?_ ?_ | refine gd2 ?_ ?_ | refine gd3 ?_ ?_) <;> (first | exact @False.elim _ | intro hc)))
  have hL2 : LsG h l Gs tb nq rt rs 0 own ((⟨M.obj, M.next + 2⟩ : Mm).put M.next (.box [vint 0, vint 0, vint 0] 154)) := hL0.out.up (by show M.next ≤ M.next + 2; omega) (low.out _)
  have hs2 : NdS (rtT h l Gs) (BagI (Gs.getD 0 []).length (rtC h l Gs)) own none rt ((⟨M.obj, M.next + 2⟩ : Mm).put M.next (.box [vint 0, vint 0, vint 0] 154)) j due H tok v := hs0.out.up (by show M.next ≤ M.next + 2; omega) (low.out _)
  have hor := hL0.out.cl M.next (Nat.le_refl _)
  refine vx_mono (get_tailG (nb := rt) (rb := M.next) (r := r) (iz := -1) (lv := 0) (rtI_ls hn hl) (fun j due W W' h1 h2 => bag_perm h1 h2) (fun y k e => by cases e) GS hL2 hs2 (by omega) vw vw (by omega) (by omega) vw vw vw (put_same _ _ _) (by show M.next < M.next + 2; omega) (fun n e => by have := (hs0.out.vlt e).1; omega) hor) fun e s' hE => gtEndG_fin hE ?_
  obtain ⟨_, _, a, b, c, ok, own3, Mx, j3, due3, H3, tok3, v3, _, _, hm, hLx, hTx, hsx⟩ := hE
  have hor3 : own3 M.next = none := (hTx.ow _ (by show M.next < M.next + 2; omega)).trans hor
  have hTM : Trn rs l.length 0 rt own M tok v own3 Mx tok3 v3 := (⟨by show M.next ≤ M.next + 2; omega, fun _ _ => rfl, fun q hq _ _ _ _ _ => low.out _ q hq, fun q n e => .inl ⟨n, e⟩, fun q e => .inl e⟩ : Trn rs l.length 0 rt own M tok v own ((⟨M.obj, M.next + 2⟩ : Mm).put M.next (.box [vint 0, vint 0, vint 0] 154)) tok v).trans hTx
  rw [hm]
  refine ⟨rfl, own3, tok3, v3, ⟨hL0.out.put hLx (Nat.le_refl _) hor3 _, j3, due3, H3, ?_⟩, hTM.put (Nat.le_refl _) _⟩
  refine hsx.keep (Nat.le_refl _) (fun _ _ => rfl) fun q hq hqo hqc => put_other _ _ ?_
  rcases hqc with rfl | ⟨n, e⟩ | e
  · have := hs0.out.lt; omega
  · rcases hTx.vn q n e with ⟨n', e'⟩ | h9
    · have := (hs0.out.vlt e').1; omega
    · have h8 : M.next + 2 ≤ q := h9; omega
  · rcases hTx.tn q e with e' | h9
    · have := (hs0.out.tlt e').1; omega
    · have h8 : M.next + 2 ≤ q := h9; omega
end Go.Proofs.Ytojjdkoglhecbaa
namespace Go.Proofs.Ytojjdkoglhecbaa
open Go.RowKit

/-- What fingering leaves. -/
def FgPostG (h : Hand) (l : List Chord) (Gs : List (List Grip)) (tb nq rt : Nat) (rs : List Nat) (r : Nat) (own : Own) (tok : Tok) (v : V) (M : Mm) (res : V) (M' : Mm) : Prop :=
  LiT h l Gs tb nq rt rs own tok v M M' ∧ ((r < (rtT h l Gs).length ∧ ∃ tf, res = .tup [.agg [.sl (fgW h l Gs ((rtT h l Gs).getD r noW)).1.length ((fgW h l Gs ((rtT h l Gs).getD r noW)).1.flatMap Grip.cells) tf, vint (fgW h l Gs ((rtT h l Gs).getD r noW)).2], vbool true]) ∨
    (¬ r < (rtT h l Gs).length ∧ res = .tup [.agg [.sl 0 [] .exact, vint 0], vbool false]))
theorem fgPostG_ex {h : Hand} {l : List Chord} {Gs : List (List Grip)} {tb nq rt : Nat} {rs : List Nat} (r : Nat) {own : Own} {tok : Tok} {v : V} {M : Mm} (hS : LiS h l Gs tb nq rt rs own tok v M) : ∃ res M', FgPostG h l Gs tb nq rt rs r own tok v M res M' := by
  by_cases hr : r < (rtT h l Gs).length
  · exact ⟨_, M, ⟨own, tok, v, hS, Trn.refl _ _ _ _ _ _ _ _⟩, .inl ⟨hr, .no, rfl⟩⟩
  · exact ⟨_, M, ⟨own, tok, v, hS, Trn.refl _ _ _ _ _ _ _ _⟩, .inr ⟨hr, rfl⟩⟩
/-- Where fingering stands. -/
structure FgG (h : Hand) (l : List Chord) (Gs : List (List Grip)) (tb nq rt : Nat) (rs : List Nat) (own0 : Own) (tok0 : Tok) (v0 : V) (mS : Mm) (fb wb : Nat) (T : List Grip) (cost : Int) (i : Nat) (own : Own) (tok : Tok) (v : V) (tf : Tok) (G : List Grip) (c x y : Int) (M : Mm) : Prop where
  st : LiS h l Gs tb nq rt rs own tok v M
  tr : Trn rs l.length 0 rt own0 mS tok0 v0 own M tok v
  fo : mS.next ≤ fb ∧ fb < M.next ∧ own fb = none
  wo : mS.next ≤ wb ∧ wb < M.next ∧ own wb = none
  vw : ∀ n, v ≠ .gsl wb n 3
  ne : fb ≠ wb
  gl : G.length = i
  f : M.obj fb = some (.box [.sl i (G.flatMap Grip.cells) tf, vint cost] 40)
  ap : Apb M tf i 53 2
  ao : ∀ q, tf = .own q → mS.next ≤ q ∧ own q = none
  w : M.obj wb = some (.box [vint c, vint x, vint y] 154)
  p : i < l.length → ∃ k r : Nat, x = k ∧ y = r ∧ k < (Gs.getD i []).length ∧ r < (tl h l Gs i k).length ∧ r ≤ 100 ∧ G ++ grps Gs i (pth h l Gs i k r) = T
  e : i = l.length → G = T
/-- The root's numbers are none of theirs. -/
theorem LiS.nb {h : Hand} {l : List Chord} {Gs : List (List Grip)} {tb nq rt : Nat} {rs : List Nat} {own : Own} {tok : Tok} {v : V} {M : Mm} (hS : LiS h l Gs tb nq rt rs own tok v M) {q : Nat} {cs : List V} {t : TypeId} (ho : M.obj q = some (.box cs t)) (h1 : t ≠ 159) (h2 : t ≠ 154) (h3 : t ≠ 150) :
    q ≠ rt ∧ (∀ n, v ≠ .gsl q n 3) ∧ tok ≠ .own q ∧ ∀ y, 0 ≤ y → y < l.length → q ≠ rs.getD y 0 := by
  obtain ⟨j, due, H, hs⟩ := hS.nd
  refine ⟨ne_type ho hs.box h1, fun n e => ?_, fun e => ?_, fun y hy hyl => ?_⟩
  · obtain ⟨_, _, cs', h9⟩ := hs.vlt e
    exact ne_type ho h9 h2 rfl
  · have := (hs.tlt e).2; rw [ho] at this; cases this
  · obtain ⟨R, r1, _⟩ := hS.ls.row y hy hyl
    exact ne_type ho r1 h3
theorem LiS.nr {h : Hand} {l : List Chord} {Gs : List (List Grip)} {tb nq rt : Nat} {rs : List Nat} {own : Own} {tok : Tok} {v : V} {M : Mm} (hS : LiS h l Gs tb nq rt rs own tok v M) {q n z : Nat} {e : TypeId} (ho : M.obj q = some (.row n e z)) (h1 : e ≠ 154) :
    q ≠ rt ∧ (∀ n, v ≠ .gsl q n 3) ∧ tok ≠ .own q ∧ ∀ y, 0 ≤ y → y < l.length → q ≠ rs.getD y 0 := by
  obtain ⟨j, due, H, hs⟩ := hS.nd
  refine ⟨fun e2 => ?_, fun n e2 => ?_, fun e2 => ?_, fun y hy hyl e2 => ?_⟩
  · subst e2; rw [hs.box] at ho; cases ho
  · obtain ⟨_, _, cs', h9⟩ := hs.vlt e2
    rw [h9] at ho; cases ho
  · have := (hs.tlt e2).2; rw [ho] at this; injection this with this; injection this with _ this; exact h1 this
  · obtain ⟨R, r1, _⟩ := hS.ls.row y hy hyl
    rw [e2, r1] at ho; cases ho
/-- New numbers are set aside; boxes that are nobody's are written. -/
theorem LiS.up {h : Hand} {l : List Chord} {Gs : List (List Grip)} {tb nq rt : Nat} {rs : List Nat} {own : Own} {tok : Tok} {v : V} {M M' : Mm} (hS : LiS h l Gs tb nq rt rs own tok v M) (hn : M.next ≤ M'.next) (hf : ∀ q, q < M.next → M'.obj q = M.obj q) : LiS h l Gs tb nq rt rs own tok v M' := by
  obtain ⟨j, due, H, hs⟩ := hS.nd
  exact ⟨hS.ls.up hn hf, j, due, H, hs.up hn hf⟩
/-- What is nobody's may change. -/
theorem LiS.keep {h : Hand} {l : List Chord} {Gs : List (List Grip)} {tb nq rt : Nat} {rs : List Nat} {own : Own} {tok : Tok} {v : V} {M M' : Mm} (hS : LiS h l Gs tb nq rt rs own tok v M) (hn : M.next ≤ M'.next) (hf : ∀ q, q < M.next → (own q ≠ none ∨ q = tb ∨ q = nq ∨ q = rt ∨ (∃ n, v = .gsl q n 3) ∨ tok = .own q ∨ ∃ y, y < l.length ∧ q = rs.getD y 0) → M'.obj q = M.obj q) : LiS h l Gs tb nq rt rs own tok v M' := by
  obtain ⟨j, due, H, hs⟩ := hS.nd
  have hL := hS.ls
  refine ⟨hL.keep (Nat.le_refl _) hn (fun _ _ => rfl) (fun q hq => hL.cl q (Nat.le_trans hn hq)) (hf _ hL.ltt (.inr (.inl rfl))) (hf _ hL.ltn (.inr (.inr (.inl rfl)))) (fun y _ hy => hf _ (hL.ltr y hy) (.inr (.inr (.inr (.inr (.inr (.inr ⟨y, hy, rfl⟩))))))) fun q y k hq hqo _ => hf q hq (.inl (by rw [hqo]; intro e; cases e)), j, due, H, hs.keep hn (fun _ _ => rfl) fun q hq _ hqc => ?_⟩
  rcases hqc with e | e | e
  · exact hf q hq (.inr (.inr (.inr (.inl e))))
  · exact hf q hq (.inr (.inr (.inr (.inr (.inl e)))))
  · exact hf q hq (.inr (.inr (.inr (.inr (.inr (.inl e))))))
/-- A box of a call's own is written: it is none of the lister's. -/
theorem LiS.put {h : Hand} {l : List Chord} {Gs : List (List Grip)} {tb nq rt : Nat} {rs : List Nat} {own : Own} {tok : Tok} {v : V} {M : Mm} (hS : LiS h l Gs tb nq rt rs own tok v M) {b : Nat} (hb : own b = none) (h1 : b ≠ tb ∧ b ≠ nq ∧ b ≠ rt) (h2 : ∀ n, v ≠ .gsl b n 3) (h3 : tok ≠ .own b) (h4 : ∀ y, y < l.length → b ≠ rs.getD y 0) (a : AObj) : LiS h l Gs tb nq rt rs own tok v (M.put b a) :=
  hS.keep (Nat.le_refl _) fun q _ hq => put_other _ _ (fun e => by
    subst e
    rcases hq with h5 | h5 | h5 | h5 | ⟨n, h5⟩ | h5 | ⟨y, hy, h5⟩
    · exact h5 hb
    · exact h1.1 h5
    · exact h1.2.1 h5
    · exact h1.2.2 h5
    · exact h2 n h5
    · exact h3 h5
    · exact h4 y hy h5)
theorem LiS.putB {h : Hand} {l : List Chord} {Gs : List (List Grip)} {tb nq rt : Nat} {rs : List Nat} {own : Own} {tok : Tok} {v : V} {M : Mm} (hS : LiS h l Gs tb nq rt rs own tok v M) {b : Nat} {cs : List V} {t : TypeId} (ho : M.obj b = some (.box cs t)) (hb : own b = none)
    (h1 : t ≠ 159 ∧ t ≠ 150 ∧ t ≠ 162 ∧ t ≠ 163) (hv : ∀ n, v ≠ .gsl b n 3) (a : AObj) : LiS h l Gs tb nq rt rs own tok v (M.put b a) := by
  obtain ⟨j, due, H, hs⟩ := hS.nd
  refine hS.put hb ⟨ne_type ho hS.ls.tbo h1.2.2.1, ne_type ho hS.ls.nqo h1.2.2.2, ne_type ho hs.box h1.1⟩ hv (fun e => ?_) (fun y hy => ?_) a
  · have := (hs.tlt e).2; rw [ho] at this; cases this
  · obtain ⟨R, r1, _⟩ := hS.ls.row y (Nat.zero_le _) hy
    exact ne_type ho r1 h1.2.1
/-- Such a box is kept by the lister's calls. -/
theorem LiS.box {h : Hand} {l : List Chord} {Gs : List (List Grip)} {tb nq rt : Nat} {rs : List Nat} {own own' : Own} {tok tok' : Tok} {v v' : V} {M M' : Mm} (hS : LiS h l Gs tb nq rt rs own tok v M) (hT : Trn rs l.length 0 rt own M tok v own' M' tok' v') {b : Nat} {cs : List V} {t : TypeId} (hlt : b < M.next) (ho : M.obj b = some (.box cs t)) (hb : own b = none)
    (h1 : t ≠ 159 ∧ t ≠ 150) (hv : ∀ n, v ≠ .gsl b n 3) : M'.obj b = some (.box cs t) := by
  obtain ⟨j, due, H, hs⟩ := hS.nd
  refine (hT.fr b hlt (ne_type ho hs.box h1.1) hv (fun e => ?_) (fun y k e => by rw [hb] at e; cases e) (fun y hy hyl => ?_)).trans ho
  · have := (hs.tlt e).2; rw [ho] at this; cases this
  · obtain ⟨R, r1, _⟩ := hS.ls.row y hy hyl
    exact ne_type ho r1 h1.2
end Go.Proofs.Ytojjdkoglhecbaa
namespace Go.Proofs.Ytojjdkoglhecbaa
open Go.RowKit

theorem rt_at {h : Hand} {l : List Chord} {Gs : List (List Grip)} (hl : 0 < l.length) {r : Nat} (hr : r < (rtT h l Gs).length) : ∃ m s : Nat, m < (Gs.getD 0 []).length ∧ s < (tl h l Gs 0 m).length ∧ s ≤ r ∧ (rtT h l Gs).getD r noW = (((rtT h l Gs).getD r noW).1, (m : Int), (s : Int)) := by
  have h1 := rt_rank hl hr
  obtain ⟨m, s, m1, m2, m3⟩ := mem_mrg.1 (mem_nthW hr)
  rw [rtC, List.length_map] at m2
  have m4 : (rtT h l Gs).getD r noW = ((rtC h l Gs m).getD s 0, (m : Int), (s : Int)) := m3
  rw [m4] at h1 ⊢
  exact ⟨m, s, m1, m2, by dsimp only at h1; omega, rfl⟩

set_option maxHeartbeats 4000000 in
theorem fingG_sfn {h : Hand} {l : List Chord} {Gs : List (List Grip)} (hn : NetOk h l Gs) (hl : 0 < l.length) {tb nq rt r : Nat} {rs : List Nat} {own : Own} {tok : Tok} {v : V} {M : Mm} (hS : LiS h l Gs tb nq rt rs own tok v M) (hr : r ≤ 100) :
    SFn Try.prog Gd 75 [.ptr tb 0, vint r] M (FgPostG h l Gs tb nq rt rs r own tok v M) := by
  refine SFn.of_vxS k_hand_lister_fingering_b (by simp) ?_
  have h4 := hn.len
  have gl := hn.gl
  have l1 := hS.ls.ltt
  have x0 : ¬ tb = M.next := by omega
  have hnet : netE h l Gs = .ept [.sl h.low.length (h.low.map vint) .no, .sl h.high.length (h.high.map vint) .no, .sl h.barre.length (h.barre.map vbool) .no, .lit (.int .i64 h.top), .lit (.int .i64 h.jump), .lit (.int .i64 h.shift), .lit (.int .i64 h.lift), .lit (.int .i64 h.bar), .lit (.int .i64 h.stretch), .lit (.int .i64 h.slide),
    .sl l.length (l.flatMap Chord.cells) .no, .sl Gs.length (Gs.map tGs) .no, .sl (owA h l Gs).length ((owA h l Gs).map tIs) .no, .sl (rsA h l Gs).length ((rsA h l Gs).map tIs) .no] 0 := rfl
  replace hnet := Hid.mk hnet
  replace gl := Hid.mk gl
  have o1 := hS.ls.tbo
  rw [hnet.out] at o1
  have e1 : ((l.length : Int) == 0) = false := by rw [beq_eq_false_iff_ne]; omega
  have low : ∀ a : AObj, ∀ q, q < M.next → ((⟨M.obj, M.next + 11⟩ : Mm).put M.next a).obj q = M.obj q := fun a q hq => put_other _ _ (by omega)
  have hS1 : LiS h l Gs tb nq rt rs own tok v ((⟨M.obj, M.next + 11⟩ : Mm).put M.next (.box [.sl 0 [] .exact, vint 0] 40)) := hS.up (by show M.next ≤ M.next + 11; omega) (low _)
  have GR := get_root hn hl hS1 hr
  have GE := grPost_ex r hS1
  have hof : own M.next = none := hS.ls.cl _ (Nat.le_refl _)
  have how : own (M.next + 8) = none := hS.ls.cl _ (Nat.le_add_right _ _)
  have hnf := hS1.nb (put_same _ _ _) (by decide) (by decide) (by decide)
  unfold c_hand_lister_fingering_b
  have hS0 := Hid.mk hS
  replace hS1 := Hid.mk hS1
  replace hn := Hid.mk hn
  replace low := Hid.mk low
  clear hS
  repeat' (with_reducible first | refine x_ops ?_ | refine wk ?_ | ((first | refine gd1 ?_ ?_ | refine gd2 ?_ ?_ | refine gd3 ?_ ?_) <;> (first | exact @False.elim _ | intro hc)))
  refine x_scallR [.ptr tb 0, vint (-1), vint 0, vint r] vw GR GE ?_
  rintro res M2 ⟨hres, own2, tok2, v2, hS2, hT2⟩
  have p1' : M.next + 11 ≤ M2.next := hT2.nx
  have of := (hT2.fr M.next (by show M.next < M.next + 11; omega) hnf.1 hnf.2.1 hnf.2.2.1 (fun y k e => by rw [hof] at e; cases e) hnf.2.2.2).trans (put_same _ _ _)
  have hof2 : own2 M.next = none := (hT2.ow _ (by show M.next < M.next + 11; omega)).trans hof
  have how2 : own2 (M.next + 8) = none := (hT2.ow _ (by show M.next + 8 < M.next + 11; omega)).trans how
  have hTa : Trn rs l.length 0 rt own M tok v own2 M2 tok2 v2 := (⟨by show M.next ≤ M.next + 11; omega, fun _ _ => rfl, fun q hq _ _ _ _ _ => low.out _ q hq, fun q n e => .inl ⟨n, e⟩, fun q e => .inl e⟩ : Trn rs l.length 0 rt own M tok v own ((⟨M.obj, M.next + 11⟩ : Mm).put M.next (.box [.sl 0 [] .exact, vint 0] 40)) tok v).trans hT2
  have hvw : ∀ n, v2 ≠ .gsl (M.next + 8) n 3 := fun n e => by
    rcases hT2.vn _ n e with ⟨n', e'⟩ | h9
    · obtain ⟨j, due, H, hs⟩ := hS0.out.nd
      have := (hs.vlt e').1; omega
    · have h8 : M.next + 11 ≤ M.next + 8 := h9; omega
  have hvf : ∀ n, v2 ≠ .gsl M.next n 3 := fun n e => by
    rcases hT2.vn _ n e with ⟨n', e'⟩ | h9
    · obtain ⟨j, due, H, hs⟩ := hS0.out.nd
      have := (hs.vlt e').1; omega
    · have h8 : M.next + 11 ≤ M.next := h9; omega
  have htw : ∀ q, M.next ≤ q → q < M.next + 11 → tok2 ≠ .own q := fun q h8 h7 e => by
    rcases hT2.tn q e with e' | h9
    · obtain ⟨j, due, H, hs⟩ := hS0.out.nd
      have := (hs.tlt e').1; omega
    · have h6 : M.next + 11 ≤ q := h9; omega
  have hold : (M.next ≠ tb ∧ M.next ≠ nq ∧ M.next ≠ rt) ∧ (M.next + 8 ≠ tb ∧ M.next + 8 ≠ nq ∧ M.next + 8 ≠ rt) ∧ (∀ y, y < l.length → M.next ≠ rs.getD y 0) ∧ ∀ y, y < l.length → M.next + 8 ≠ rs.getD y 0 := by
    obtain ⟨j, due, H, hs⟩ := hS0.out.nd
    have a1 := hS0.out.ls.ltt
    have a2 := hS0.out.ls.ltn
    have a3 := hs.lt
    exact ⟨⟨by omega, by omega, by omega⟩, ⟨by omega, by omega, by omega⟩, fun y hy => by have := hS0.out.ls.ltr y hy; omega, fun y hy => by have := hS0.out.ls.ltr y hy; omega⟩
  have putF : ∀ (Mx : Mm) a, LiS h l Gs tb nq rt rs own2 tok2 v2 Mx → LiS h l Gs tb nq rt rs own2 tok2 v2 (Mx.put M.next a) := fun Mx a hx => hx.put hof2 hold.1 hvf (htw _ (Nat.le_refl _) (by omega)) hold.2.2.1 a
  have putW : ∀ (Mx : Mm) a, LiS h l Gs tb nq rt rs own2 tok2 v2 Mx → LiS h l Gs tb nq rt rs own2 tok2 v2 (Mx.put (M.next + 8) a) := fun Mx a hx => hx.put how2 hold.2.1 hvw (htw _ (by omega) (by omega)) hold.2.2.2 a
  replace hTa := Hid.mk hTa
  replace hS2 := Hid.mk hS2
  replace putF := Hid.mk putF
  replace putW := Hid.mk putW
  replace hvw := Hid.mk hvw
  replace htw := Hid.mk htw
  clear GR GE hT2 hnf hvf
  have y1 : ¬ M.next = M.next + 8 := by omega
  have z2 : M.next < M2.next := by omega
  have z8 : M.next + 8 < M2.next := by omega
  by_cases hrl : r < (rtT h l Gs).length
  case neg =>
    rw [GtR, if_neg hrl] at hres
    subst hres
    replace hrl := Hid.mk hrl
    replace hold := Hid.mk hold
    clear o1
    repeat' (with_reducible first | refine x_ops ?_ | refine wk ?_ | ((first | refine gd1 ?_ ?_ | refine gd2 ?_ ?_ | refine gd3 ?_ ?_) <;> (first | exact @False.elim _ | intro hc)))
    refine ⟨.inr rfl, .tup [.agg [.sl 0 [] .exact, vint 0], vbool false], vv, ⟨own2, tok2, v2, ?_, ?_⟩, .inr ⟨hrl.out, rfl⟩⟩
    · repeat' (first | exact hS2.out | refine putF.out _ _ ?_ | refine putW.out _ _ ?_)
    · repeat' (first | exact hTa.out | refine Trn.put ?_ (by omega) _)
  obtain ⟨m, s, m1, m2, m3, m4⟩ := rt_at hl hrl
  have hfg : fgW h l Gs ((rtT h l Gs).getD r noW) = (grps Gs 0 (pth h l Gs 0 m s), ((rtT h l Gs).getD r noW).1) := by
    rw [fgW, m4]; simp only [Int.toNat_natCast]
  have hR : GtR (rtT h l Gs) r = .tup [.agg [vint ((rtT h l Gs).getD r noW).1, vint (m : Int), vint (s : Int)], vbool true] := by
    rw [GtR, if_pos hrl, m4]
  rw [hR] at hres
  subst hres
  have hPo : ∀ (Q : V → Mm → Prop), True := fun _ => trivial
  replace hfg := Hid.mk hfg
  generalize hT : grps Gs 0 (pth h l Gs 0 m s) = T at *
  generalize hw : (rtT h l Gs).getD r noW = w at *
  obtain ⟨cost, wm, ws⟩ := w
  dsimp only at m4
  replace hw := Hid.mk hw
  replace hT := Hid.mk hT
  replace hrl := Hid.mk hrl
  have z1 : tb < M2.next := hS2.out.ls.ltt
  have o2 := hS2.out.ls.tbo
  rw [hnet.out] at o2
  have x1 : ¬ tb = M.next + 8 := by omega
  replace hold := Hid.mk hold
  clear o1 m4 hR hPo
  repeat' (with_reducible first | refine x_ops ?_ | refine wk ?_ | ((first | refine gd1 ?_ ?_ | refine gd2 ?_ ?_ | refine gd3 ?_ ?_) <;> (first | exact @False.elim _ | intro hc)))
  refine x_genM (fun t M' => (t 0 = .ptr tb 0 ∧ t 4 = .ptr M.next 0 ∧ t 6 = .ptr (M.next + 8) 0 ∧ t 40 = vint l.length ∧ t 41 = vint 0) ∧ ∃ c x y, FgG h l Gs tb nq rt rs own tok v M M.next (M.next + 8) T cost 0 own2 tok2 v2 .exact [] c x y M')
    ⟨⟨vv, vv, vv, vv, vv⟩, cost, m, s, ⟨?_, ?_, ⟨Nat.le_refl _, ?_, hof2⟩, ⟨by omega, ?_, how2⟩, hvw.out, by omega, rfl, put_same _ _ _, .inl rfl, (fun q e => by cases e), ?_, fun _ => ⟨m, s, rfl, rfl, m1, m2, by omega, hT.out⟩, fun e => by omega⟩⟩ ?_
  · repeat' (first | exact hS2.out | refine putF.out _ _ ?_ | refine putW.out _ _ ?_)
  · repeat' (first | exact hTa.out | refine Trn.put ?_ (by omega) _)
  · exact z2
  · exact z8
  · exact (put_other _ _ (fun e => y1 e.symm)).trans (put_same _ _ _)
  rintro t0 M3 ⟨⟨a0, a4, a6, a40, a41⟩, c0, x0', y0', hs0⟩
  have hgM : M.next ≤ M.next := Nat.le_refl _
  refine x_loopW w_hand_lister_fingering_b_p9 kr l.length (fun i t M' => t 41 = vint (i : Int) ∧ ∃ own4 tok4 v4 tf G c x y, FgG h l Gs tb nq rt rs own tok v M M.next (M.next + 8) T cost i own4 tok4 v4 tf G c x y M') ⟨a41, own2, tok2, v2, .exact, [], c0, x0', y0', hs0⟩ ?_
  clear a41 hs0 of o2 z1 p1' hS2 hTa putF putW hvw htw hold hof2 how2 hof how
  rintro i t M4 hi ⟨h41, own4, tok4, v4, tf, G, c, x, y, hs⟩
  have f1 := hs.f
  have z2 := hs.fo.2.1
  have z3 := hs.wo.2.1
  have hgl := hs.gl
  have hs1 := Hid.mk hs
  by_cases hil : i < l.length
  case neg =>
    have hie : i = l.length := by omega
    subst hie
    have c1 : ¬ (l.length : Int) < (l.length : Int) := by omega
    have hGT := hs.e rfl
    subst hGT
    have hput : ∀ a, LiS h l Gs tb nq rt rs own4 tok4 v4 (M4.put M.next a) := fun a => hs.st.putB hs.f hs.fo.2.2 ⟨by decide, by decide, by decide, by decide⟩ (fun n e => by obtain ⟨j, due, H, hsn⟩ := hs.st.nd; obtain ⟨_, _, cs, h9⟩ := hsn.vlt e; exact ne_type hs.f h9 (by decide) rfl) a
    have htr := hs.tr
    replace hput := Hid.mk hput
    replace htr := Hid.mk htr
    replace hgl := Hid.mk hgl
    clear hs hil hi
    repeat' (with_reducible first | refine x_ops ?_ | refine wk ?_ | ((first | refine gd1 ?_ ?_ | refine gd2 ?_ ?_ | refine gd3 ?_ ?_) <;> (first | exact @False.elim _ | intro hc)))
    refine ⟨.inr rfl, .tup [.agg [.sl l.length (G.flatMap Grip.cells) tf, vint cost], vbool true], vw, ⟨own4, tok4, v4, hput.out _, htr.out.put (Nat.le_refl _) _⟩, .inl ⟨hrl.out, tf, ?_⟩⟩
    rw [hw.out, hfg.out, hgl.out]
  have c1 : (i : Int) < (l.length : Int) := by omega
  have w1 := w_add1 (k := i) (by omega)
  obtain ⟨k, ra, rfl, rfl, hkl, hra, hrb, hGp⟩ := hs.p hil
  have c2 : (k : Int) < ((Gs.getD i []).length : Int) := by omega
  have gle := gl.out
  have r1 := gss_at' (l := Gs) (k := i) (by omega)
  have r2 := gs_take hkl
  have r3 := gs_len (Gs.getD i [])
  have c3 : k * 2 + 2 ≤ (Gs.getD i []).length * 2 := by omega
  have hg := hn.out.grip hil hkl
  have hfl : ((Gs.getD i []).getD k noG).fingers.length ≤ 14 := by rw [hg.2]; exact chord_len (hn.out.seq i hil).1
  have CL := clone_fn ((Gs.getD i []).getD k noG).fingers (by omega)
  have o1 := hs.st.ls.tbo
  rw [hnet.out] at o1
  have z1 := hs.st.ls.ltt
  have g1 := hs.w
  have f2 := hs.ap
  have x2 : ∀ q j, q < M4.next → (q < M4.next + j) = True := fun q j hq => by simp; omega
  have x3 : ∀ q j, q < M4.next → (q = M4.next + j) = False := fun q j hq => by simp; omega
  have x4 : ∀ q j, q < M4.next → (M4.next + j = q) = False := fun q j hq => by simp; omega
  have hgcl := gs_len G
  rw [hgl] at hgcl
  replace hgl := Hid.mk hgl
  replace hGp := Hid.mk hGp
  replace hfl := Hid.mk hfl
  replace hg := Hid.mk hg
  replace hgcl := Hid.mk hgcl
  clear hs
  repeat' (with_reducible first | refine x_ops ?_ | refine wk ?_ | (with_reducible refine xc (CL) ?_) | ((first | refine gd1 ?_ ?_ | refine gd2 ?_ ?_ | refine gd3 ?_ ?_) <;> (first | exact @False.elim _ | intro hc)))
  refine x_appg (n := i) (xs := G.flatMap Grip.cells) (ys := Grip.cells ((Gs.getD i []).getD k noG)) (k := tf) (k2 := .exact) vw (by unfold Grip.cells; exact vw) (f2.mono (fun q hq _ => (put_other _ _ (by omega)).trans (put_other _ _ (by omega))) (by show M4.next ≤ M4.next + 28; omega)) hgcl.out rfl (by omega) (by unfold Go.maxLen; omega) (by show M4.next + 25 < M4.next + 28; omega) ?_
  intro tok' m5 hap' htk' hn' hobj
  replace hn' : m5.next = M4.next + 28 := hn'
  have hfo := hs1.out.fo
  have hwo := hs1.out.wo
  have hao := hs1.out.ao
  have lo : ∀ q, q < M4.next → tf ≠ .own q → m5.obj q = M4.obj q := fun q hq hne => (hobj q (by show ¬ q = M4.next + 25; omega) hne).trans ((put_other _ _ (by omega)).trans (put_other _ _ (by omega)))
  have hS5 : LiS h l Gs tb nq rt rs own4 tok4 v4 m5 := hs1.out.st.keep (by omega) fun q hq hqc => lo q hq (fun e => by
    obtain ⟨_, e2⟩ := f2.elim (fun h => by rw [h] at e; cases e) (fun h => h)
    obtain ⟨e3, _, e4⟩ := e2
    rw [e3] at e; injection e with e; subst e
    have hnr := hs1.out.st.nr e4 (by decide)
    rcases hqc with h5 | h5 | h5 | h5 | ⟨n, h5⟩ | h5 | ⟨y, hy, h5⟩
    · exact h5 (hao _ e3).2
    · rw [h5, hs1.out.st.ls.tbo] at e4; cases e4
    · rw [h5, hs1.out.st.ls.nqo] at e4; cases e4
    · exact hnr.1 h5
    · exact hnr.2.1 n h5
    · exact hnr.2.2.1 h5
    · exact hnr.2.2.2 y (Nat.zero_le _) hy h5)
  have q1 := (lo _ z2 (apbT_box f2 f1)).trans f1
  have q2 := (lo _ z3 (apbT_box f2 g1)).trans g1
  have q3 := (lo _ z1 (apbT_box f2 hs1.out.st.ls.tbo)).trans o1
  have l5 : M.next < m5.next := by omega
  have l6 : M.next + 8 < m5.next := by omega
  have y2 : ¬ M.next + 8 = M.next := by omega
  have y3 : ¬ M.next = M.next + 8 := by omega
  have nb1 : tb ≠ M.next := by omega
  have hvf : ∀ n, v4 ≠ .gsl M.next n 3 := fun n e => by obtain ⟨j, due, H, hsn⟩ := hs1.out.st.nd; obtain ⟨_, _, cs, h9⟩ := hsn.vlt e; exact ne_type f1 h9 (by decide) rfl
  have hS5p : LiS h l Gs tb nq rt rs own4 tok4 v4 (m5.put M.next (.box [.sl (i + 1) (G.flatMap Grip.cells ++ Grip.cells ((Gs.getD i []).getD k noG)) tok', vint cost] 40)) := hS5.putB q1 hfo.2.2 ⟨by decide, by decide, by decide, by decide⟩ hvf _
  have hLi := hS5p.ls.keep (Nat.zero_le i) (Nat.le_refl _) (fun _ _ => rfl) hS5p.ls.cl rfl rfl (fun _ _ _ => rfl) fun _ _ _ _ _ _ => rfl
  have GS := get_all hn.out tb nq rt rs _ i rfl hil k ra own4 _ hkl hrb hLi
  have GE := gpPost_ex (tb := tb) (nq := nq) (rt := rt) (tl h l Gs i k) ra hLi
  have hap5 : Apb m5 tok' (i + 1) 53 2 := hap'
  have hao5 : ∀ q, tok' = .own q → M.next ≤ q ∧ own4 q = none := fun q e => (htk' q e).elim (hao q) fun h => by
    have h9 : q = M4.next + 25 := h
    subst h9
    exact ⟨by omega, hs1.out.st.ls.cl _ (by omega)⟩
  replace hap5 := Hid.mk hap5
  replace hn' := Hid.mk hn'
  replace hS5 := Hid.mk hS5
  replace hS5p := Hid.mk hS5p
  replace lo := Hid.mk lo
  replace hao5 := Hid.mk hao5
  clear hobj htk' hap' hLi f1 f2 g1 o1 CL r1 r2 r3 x2 x3 x4 hao
  unfold Grip.cells at GS GE
  repeat' (with_reducible first | refine x_ops ?_ | refine wk ?_ | ((first | refine gd1 ?_ ?_ | refine gd2 ?_ ?_ | refine gd3 ?_ ?_) <;> (first | exact @False.elim _ | intro hc)))
  refine x_scallR [.ptr tb 0, vint i, vint (k : Int), vint (ra : Int)] vw (by ((refine ve ?_; try exact True.intro)); exact GS) (by ((refine ve ?_; try exact True.intro)); exact GE) ?_
  rintro res M6 hp6
  have hres := hp6.1
  obtain ⟨own6, hS6, hT6⟩ := li_get hS5p.out hp6
  rw [GtR, if_pos hra] at hres
  subst hres
  have p0 := hT6.nx
  have p0' : m5.next ≤ M6.next := p0
  have e6 := hS5p.out.box hT6 (show M.next < m5.next from l5) (put_same _ _ _) hfo.2.2 ⟨by decide, by decide⟩ hvf
  have e8 := hS5p.out.box hT6 (show M.next + 8 < m5.next from l6) ((put_other _ _ y2).trans q2) hwo.2.2 ⟨by decide, by decide⟩ hs1.out.vw
  have hof6 : own6 M.next = none := (hT6.ow _ l5).trans hfo.2.2
  have how6 : own6 (M.next + 8) = none := (hT6.ow _ l6).trans hwo.2.2
  have ap6 : Apb M6 tok' (i + 1) 53 2 := by
    rcases hap5.out with h1 | ⟨tr, h1, h2, h3⟩
    · exact .inl h1
    · have h3' : (m5.put M.next (.box [.sl (i + 1) (G.flatMap Grip.cells ++ Grip.cells ((Gs.getD i []).getD k noG)) tok', vint cost] 40)).obj tr = some (.row (i + 1) 53 2) := (put_other _ _ (fun e => by subst e; rw [q1] at h3; cases h3)).trans h3
      have hnr := hS5p.out.nr h3' (by decide)
      exact .inr ⟨tr, h1, Nat.lt_of_lt_of_le h2 p0', (hT6.fr tr h2 hnr.1 hnr.2.1 hnr.2.2.1 (fun y k e => by rw [(hao5.out tr h1).2] at e; cases e) hnr.2.2.2).trans h3'⟩
  have ao6 : ∀ q, tok' = .own q → M.next ≤ q ∧ own6 q = none := fun q e => ⟨(hao5.out q e).1, by
    rcases hap5.out with h1 | ⟨tr, h1, h2, _⟩
    · rw [h1] at e; cases e
    · rw [h1] at e; injection e with e; subst e; exact (hT6.ow _ h2).trans (hao5.out _ h1).2⟩
  have hT5 : Trn rs l.length 0 rt own M tok v own4 (m5.put M.next (.box [.sl (i + 1) (G.flatMap Grip.cells ++ Grip.cells ((Gs.getD i []).getD k noG)) tok', vint cost] 40)) tok4 v4 := by
    have ht := hs1.out.tr
    refine ⟨by have := ht.nx; have := hn'.out; show M.next ≤ m5.next; omega, ht.ow, fun q hq h1 h2 h3 h5 h6 => ?_, ht.vn, ht.tn⟩
    exact (put_other _ _ (by omega)).trans ((lo.out q (by omega) (fun e => by have := (hs1.out.ao q e).1; omega)).trans (ht.fr q hq h1 h2 h3 h5 h6))
  have hT7 := hT5.trans hT6
  have hS7 := hS6.putB e8 how6 ⟨by decide, by decide, by decide, by decide⟩ hs1.out.vw (.box [vint ((tl h l Gs i k).getD ra noW).1, vint ((tl h l Gs i k).getD ra noW).2.1, vint ((tl h l Gs i k).getD ra noW).2.2] 154)
  have hnext : i + 1 < l.length → ∃ k' r' : Nat, ((tl h l Gs i k).getD ra noW).2.1 = k' ∧ ((tl h l Gs i k).getD ra noW).2.2 = r' ∧ k' < (Gs.getD (i + 1) []).length ∧ r' < (tl h l Gs (i + 1) k').length ∧ r' ≤ 100 ∧ (G ++ [grp Gs i k]) ++ grps Gs (i + 1) (pth h l Gs (i + 1) k' r') = T := fun hi1 => by
    obtain ⟨m', s', h5, h6, h7⟩ := tl_at hn.out hi1 hkl hra
    have h8 := tl_rank hi1 hra
    rw [h7] at h8 ⊢
    refine ⟨m', s', rfl, rfl, h5, h6, by dsimp only at h8; omega, ?_⟩
    have h9 := hGp.out
    rw [pth_s hi1, h7] at h9
    simp only [Int.toNat_natCast] at h9
    rw [← h9, grps, List.append_assoc]; rfl
  have hlast : i + 1 = l.length → G ++ [grp Gs i k] = T := fun e => by
    have h9 := hGp.out
    rw [pth_last e] at h9
    exact h9
  have l7 : M.next + 8 < M6.next := by omega
  generalize (tl h l Gs i k).getD ra noW = w2 at *
  obtain ⟨wc2, wn2, wr2⟩ := w2
  dsimp only at *
  replace hnext := Hid.mk hnext
  replace hlast := Hid.mk hlast
  replace hS7 := Hid.mk hS7
  replace hT7 := Hid.mk hT7
  replace e6 := Hid.mk e6
  have hvw4 := Hid.mk hs1.out.vw
  clear GS GE hp6 hT6 hS6 hT5 q1 q2 q3 l5 l6 p0
  repeat' (with_reducible first | refine x_ops ?_ | refine wk ?_ | ((first | refine gd1 ?_ ?_ | refine gd2 ?_ ?_ | refine gd3 ?_ ?_) <;> (first | exact @False.elim _ | intro hc)))
  refine nx hil ⟨vv, own6, tok4, v4, tok', G ++ [grp Gs i k], wc2, wn2, wr2, ⟨hS7.out, hT7.out.put (by omega) _, ⟨Nat.le_refl _, by show M.next < M6.next; omega, hof6⟩, ⟨by omega, l7, how6⟩, hvw4.out, y3, by rw [List.length_append, hgl.out]; rfl, ?_, Apb.put ap6 e8, ao6, put_same _ _ _, hnext.out, hlast.out⟩⟩
  refine (put_other _ _ y3).trans (e6.out.trans ?_)
  rw [List.flatMap_append, List.flatMap_singleton]; rfl
end Go.Proofs.Ytojjdkoglhecbaa
namespace Go.Proofs.Ytojjdkoglhecbaa
open Go.RowKit
set_option maxRecDepth 100000

abbrev c_theorboref06_List_p1 : VC := (.seq (.ops 0 [oo 19 .mv [.t 9], oo 6 .mv [(.c (.sl 0 [] .exact))], oo 7 .mv [.t 19]]) .ret)
abbrev c_theorboref06_List_p2 : VC := (.seq (.ops 0 [oo 6 .mv [(.c (.sl 0 [] .exact))], oo 7 .mv [kk 1]]) .ret)
abbrev c_theorboref06_List_p3 : VC := (.seq (.ops 0 [oo 6 .mv [(.c (.sl 0 [] .exact))], oo 7 .mv [kk 62]]) .ret)
abbrev c_theorboref06_List_p4 : VC := (.seq (.ops 0 [oo 34 .mv [.t 10], oo 6 .mv [.t 34], oo 7 .mv [kk 0]]) .ret)
abbrev c_theorboref06_List_p5 : VC := (.seq (.seq (.ops 0 [oo 31 .mv [.t 10], oo 32 .len [.t 31], oo 33 (.bin .eql) [.t 32, kk 0]]) (.cond (.t 33) c_theorboref06_List_p3 .skip)) c_theorboref06_List_p4)
abbrev c_theorboref06_List_p6 : VC := (.seq (.ops 0 [oo 26 (.ldA 10) [.t 3], oo 27 .mv [.t 1], oo 28 .mv [.t 8], oo 29 .mv [.t 2], oo 30 (.call 77) [.t 26, .t 27, .t 28, .t 29], oo 10 .mv [.t 30]]) c_theorboref06_List_p5)
abbrev c_theorboref06_List_p7 : VC := (.seq (.seq (.ops 0 [oo 20 .mv [.t 2], oo 21 (.bin .lss) [.t 20, kk 1], oo 22 .mv [.t 21], og 23 22 false .mv [.t 2], og 24 22 false (.bin .gtr) [.t 23, kk 64], oo 25 .pick [.t 22, (.c (.lit (.bool true))), .t 24]]) (.cond (.t 25) c_theorboref06_List_p2 .skip)) c_theorboref06_List_p6)
abbrev c_theorboref06_List_p8 : VC := (.seq (.seq (.ops 0 [oo 17 .mv [.t 9], oo 18 (.bin .neq) [.t 17, kk 0]]) (.cond (.t 18) c_theorboref06_List_p1 .skip)) c_theorboref06_List_p7)
abbrev c_theorboref06_List_p9 : VC := (.seq (.ops 0 [oo 12 (.ldA 10) [.t 3], oo 13 .mv [.t 1], oo 14 (.call 76) [.t 12, .t 13], oo 11 .mv [.t 14], oo 15 (.ext 0) [.t 11], oo 16 (.ext 1) [.t 11], oo 8 .mv [.t 15], oo 9 .mv [.t 16]]) c_theorboref06_List_p8)
def c_theorboref06_List : VC := (.seq (.ops 3 [oo 3 (.box 25) [.t 0], oo 6 .mv [(.c (.sl 0 [] .exact))], oo 7 .mv [kk 0]]) c_theorboref06_List_p9)
theorem k_theorboref06_List : Comp Try.prog nobx gtab 38 35 c_theorboref06_List [.t 6, .t 7] := ⟨⟨Try.f38, _, Try.func38, rfl, rfl, kr, kr⟩⟩
abbrev c_theorboref06_Best_p1 : VC := (.seq (.ops 0 [⟨(some 16), none, (.build [(.sl 0 [] .exact), li 0] []), [], none⟩, oo 17 .mv [.t 7], ⟨none, none, (.st 2), [.t 4, .t 16], none⟩, oo 5 .mv [.t 17]]) .ret)
abbrev c_theorboref06_Best_p2 : VC := (.seq (.ops 0 [oo 18 .mv [.t 6], oo 19 (.ixA 2) [.t 18, kk 0], oo 20 (.ldA 2) [.t 19], ⟨none, none, (.st 2), [.t 4, .t 20], none⟩, oo 5 .mv [kk 0]]) .ret)
abbrev c_theorboref06_Best_p3 : VC := (.seq (.seq (.ops 0 [oo 14 .mv [.t 7], oo 15 (.bin .neq) [.t 14, kk 0]]) (.cond (.t 15) c_theorboref06_Best_p1 .skip)) c_theorboref06_Best_p2)
abbrev c_theorboref06_Best_p4 : VC := (.seq (.ops 0 [oo 9 (.ldA 10) [.t 2], oo 10 .mv [.t 1], oo 11 (.call 38) [.t 9, .t 10, kk 1], oo 8 .mv [.t 11], oo 12 (.ext 0) [.t 8], oo 13 (.ext 1) [.t 8], oo 6 .mv [.t 12], oo 7 .mv [.t 13]]) c_theorboref06_Best_p3)
def c_theorboref06_Best : VC := (.seq (.ops 3 [oo 2 (.box 25) [.t 0], ⟨(some 4), none, (.alloc 40 [(.sl 0 [] .exact), li 0]), [], none⟩, oo 5 .mv [kk 0]]) c_theorboref06_Best_p4)
theorem k_theorboref06_Best : Comp Try.prog nobx gtab 40 21 c_theorboref06_Best [(.c 4 2 true), .t 5] := ⟨⟨Try.f40, _, Try.func40, rfl, rfl, kr, kr⟩⟩
abbrev c_hand_List_p1 : VC := (.seq (.ops 0 [oo 21 .mv [.t 7], oo 6 .mv [(.c (.sl 0 [] .exact))], oo 7 .mv [.t 21]]) .ret)
abbrev c_hand_List_p2 : VC := (.seq (.ops 0 [oo 6 .mv [(.c (.sl 0 [] .exact))], oo 7 .mv [kk 1]]) .ret)
abbrev c_hand_List_p3 : VC := (.ops 5 [oo 39 .mv [.t 6], oo 40 (.ldA 2) [.t 11], ⟨(some 41), none, (.mksl 1 2 [(.sl 0 [] .exact), li 0] [(0, 2)]), [.t 40], none⟩, oo 42 (.app 40 2 32) [.t 39, .t 41], oo 6 .mv [.t 42]])
abbrev c_hand_List_p4 : VC := (.seq (.seq (.ops 0 [oo 37 .mv [.t 12], oo 38 (.un .not) [.t 37]]) (.cond (.t 38) (.exit 0) .skip)) c_hand_List_p3)
abbrev c_hand_List_p5 : VC := (.seq (.ops 9 [oo 32 .mv [.t 9], oo 33 .mv [.t 10], oo 34 (.call 75) [.t 32, .t 33], oo 31 .mv [.t 34], oo 35 (.ext 0) [.t 31], oo 36 (.ext 1) [.t 31], ⟨(some 11), none, (.alloc 40 [(.sl 0 [] .exact), li 0]), [], none⟩, ⟨none, none, (.st 2), [.t 11, .t 35], none⟩, oo 12 .mv [.t 36]]) c_hand_List_p4)
abbrev c_hand_List_p6 : VC := (.ops 0 [oo 43 (.bin .add) [.t 28, kk 1], oo 28 .mv [.t 43]])
abbrev c_hand_List_p7 : VC := (.seq (.block 1 (.seq (.ops 0 [oo 30 .mv [.t 28], oo 10 .mv [.t 30]]) c_hand_List_p5)) c_hand_List_p6)
abbrev c_hand_List_p8 : VC := (.seq (.ops 0 [oo 29 (.bin .lss) [.t 28, .t 27]]) (.seq (.cond (.t 29) .skip (.exit 0)) c_hand_List_p7))
@[go_sem] abbrev w_hand_List_p8 : Nat := 17591917616192
abbrev c_hand_List_p10 : VC := (.seq (.ops 0 [oo 6 .mv [(.c (.sl 0 [] .exact))], oo 7 .mv [kk 62]]) .ret)
abbrev c_hand_List_p11 : VC := (.seq (.ops 0 [oo 47 .mv [.t 6], oo 6 .mv [.t 47], oo 7 .mv [kk 0]]) .ret)
def c_hand_List_p12 : VC := (.seq (.seq (.ops 0 [oo 44 .mv [.t 6], oo 45 .len [.t 44], oo 46 (.bin .eql) [.t 45, kk 0]]) (.cond (.t 46) c_hand_List_p10 .skip)) c_hand_List_p11)
def c_hand_List_p13 : VC := (.seq (.seq (.ops 0 [oo 27 .mv [.t 2], oo 28 .mv [kk 0]]) (.block 0 (.loop c_hand_List_p8))) c_hand_List_p12)
abbrev c_hand_List_p14 : VC := (.seq (.ops 0 [oo 25 .mv [.t 8], oo 26 (.call 74) [.t 25], oo 9 .mv [.t 26]]) c_hand_List_p13)
abbrev c_hand_List_p15 : VC := (.seq (.seq (.ops 0 [oo 22 .mv [.t 2], oo 23 (.call 63) [.t 22, kk 1, kk 64], oo 24 (.un .not) [.t 23]]) (.cond (.t 24) c_hand_List_p2 .skip)) c_hand_List_p14)
abbrev c_hand_List_p16 : VC := (.seq (.seq (.ops 0 [oo 19 .mv [.t 7], oo 20 (.bin .neq) [.t 19, kk 0]]) (.cond (.t 20) c_hand_List_p1 .skip)) c_hand_List_p15)
abbrev c_hand_List_p17 : VC := (.seq (.ops 0 [oo 14 (.ldA 10) [.t 3], oo 15 .mv [.t 1], oo 16 (.call 69) [.t 14, .t 15], oo 13 .mv [.t 16], oo 17 (.ext 0) [.t 13], oo 18 (.ext 1) [.t 13], oo 8 .mv [.t 17], oo 7 .mv [.t 18]]) c_hand_List_p16)
def c_hand_List : VC := (.seq (.ops 3 [oo 3 (.box 25) [.t 0], oo 6 .mv [(.c (.sl 0 [] .exact))], oo 7 .mv [kk 0]]) c_hand_List_p17)
theorem k_hand_List : Comp Try.prog nobx gtab 37 48 c_hand_List [.t 6, .t 7] := ⟨⟨Try.f37, _, Try.func37, rfl, rfl, kr, kr⟩⟩
abbrev c_theorbolaw06_SameFingerings_p1 : VC := (.seq (.ops 0 [oo 4 .mv [(.c (.lit (.bool false)))]]) .ret)
abbrev c_theorbolaw06_SameFingerings_p2 : VC := (.seq (.ops 0 [oo 4 .mv [(.c (.lit (.bool false)))]]) .ret)
abbrev c_theorbolaw06_SameFingerings_p3 : VC := (.ops 0 [oo 15 .mv [.t 5], oo 16 (.bin .add) [.t 15, kk 1], oo 5 .mv [.t 16]])
abbrev c_theorbolaw06_SameFingerings_p4 : VC := (.seq (.block 1 (.seq (.ops 0 [oo 17 .mv [.t 0], oo 18 .mv [.t 5], oo 19 (.ixA 2) [.t 17, .t 18], oo 20 (.fldA 1) [.t 19], od 21 .ld1 [.t 20] [0, 1, 2, 3], oo 22 .mv [.t 1], oo 23 .mv [.t 5], oo 24 (.ixA 2) [.t 22, .t 23], oo 25 (.fldA 1) [.t 24], od 26 .ld1 [.t 25] [5, 6, 7, 8], oo 27 (.bin .neq) [.t 21, .t 26], oo 28 .mv [.t 27], og 29 28 false .mv [.t 0], og 30 28 false .mv [.t 5], og 31 28 false (.ixA 2) [.t 29, .t 30], og 32 28 false (.fldA 0) [.t 31], ⟨(some 33), (some (28, false)), .ld1, [.t 32], (some [0, 1, 2, 3, 4, 5, 6, 7, 8, 9, 10, 11, 12, 13, 14, 15])⟩, og 34 28 false .mv [.t 1], og 35 28 false .mv [.t 5], og 36 28 false (.ixA 2) [.t 34, .t 35], og 37 28 false (.fldA 0) [.t 36], ⟨(some 38), (some (28, false)), .ld1, [.t 37], (some [0, 1, 2, 3, 4, 5, 6, 7, 8, 9, 10, 11, 17, 18, 19, 20])⟩, og 39 28 false (.call 34) [.t 33, .t 38], og 40 28 false (.un .not) [.t 39], oo 41 .pick [.t 28, (.c (.lit (.bool true))), .t 40]]) (.cond (.t 41) c_theorbolaw06_SameFingerings_p2 .skip))) c_theorbolaw06_SameFingerings_p3)
abbrev c_theorbolaw06_SameFingerings_p5 : VC := (.seq (.seq (.ops 0 [oo 11 .mv [.t 5], oo 12 .mv [.t 0], oo 13 .len [.t 12], oo 14 (.bin .lss) [.t 11, .t 13]]) (.cond (.t 14) .skip (.exit 0))) c_theorbolaw06_SameFingerings_p4)
@[go_sem] abbrev w_theorbolaw06_SameFingerings_p5 : Nat := 4398046509104
abbrev c_theorbolaw06_SameFingerings_p7 : VC := (.seq (.ops 0 [oo 4 .mv [(.c (.lit (.bool true)))]]) .ret)
abbrev c_theorbolaw06_SameFingerings_p8 : VC := (.seq (.seq (.ops 0 [oo 5 .mv [kk 0]]) (.block 0 (.loop c_theorbolaw06_SameFingerings_p5))) c_theorbolaw06_SameFingerings_p7)
abbrev c_theorbolaw06_SameFingerings_p9 : VC := (.seq (.seq (.ops 0 [oo 6 .mv [.t 0], oo 7 .len [.t 6], oo 8 .mv [.t 1], oo 9 .len [.t 8], oo 10 (.bin .neq) [.t 7, .t 9]]) (.cond (.t 10) c_theorbolaw06_SameFingerings_p1 .skip)) c_theorbolaw06_SameFingerings_p8)
def c_theorbolaw06_SameFingerings : VC := (.seq (.ops 0 [oo 4 .mv [(.c (.lit (.bool false)))]]) c_theorbolaw06_SameFingerings_p9)
theorem k_theorbolaw06_SameFingerings : Comp Try.prog nobx gtab 39 42 c_theorbolaw06_SameFingerings [.t 4] := ⟨⟨Try.f39, _, Try.func39, rfl, rfl, kr, kr⟩⟩
abbrev c_theorbolaw06_HandLists_p1 : VC := (.seq (.ops 0 [oo 20 (.call 28) [], oo 4 .mv [.t 20]]) .ret)
abbrev c_theorbolaw06_HandLists_p2 : VC := (.seq (.ops 0 [oo 4 .mv [(.c (.lit (.bool false)))]]) .ret)
abbrev c_theorbolaw06_HandLists_p3 : VC := (.seq (.ops 0 [oo 56 .mv [.t 8], oo 57 .mv [.t 10], oo 58 (.bin .eql) [.t 56, .t 57], oo 59 .mv [.t 58], og 60 59 true (.fldA 1) [.t 11], og 61 59 true .ld1 [.t 60], og 62 59 true (.fldA 1) [.t 12], og 63 59 true .ld1 [.t 62], og 64 59 true (.bin .eql) [.t 61, .t 63], oo 65 .pick [.t 59, .t 64, (.c (.lit (.bool false)))], oo 66 .mv [.t 65], og 67 66 true (.fldA 0) [.t 11], og 68 66 true .ld1 [.t 67], og 69 66 true (.fldA 0) [.t 12], og 70 66 true .ld1 [.t 69], og 71 66 true (.call 34) [.t 68, .t 70], oo 72 .pick [.t 66, .t 71, (.c (.lit (.bool false)))], oo 73 .mv [.t 72], og 74 73 true (.call 28) [], oo 75 .pick [.t 73, .t 74, (.c (.lit (.bool false)))], oo 4 .mv [.t 75]]) .ret)
abbrev c_theorbolaw06_HandLists_p4 : VC := (.seq (.ops 9 [oo 51 (.ldA 10) [.t 5], oo 52 .mv [.t 6], oo 53 (.call 40) [.t 51, .t 52], oo 50 .mv [.t 53], oo 54 (.ext 0) [.t 50], oo 55 (.ext 1) [.t 50], ⟨(some 12), none, (.alloc 40 [(.sl 0 [] .exact), li 0]), [], none⟩, ⟨none, none, (.st 2), [.t 12, .t 54], none⟩, oo 10 .mv [.t 55]]) c_theorbolaw06_HandLists_p3)
abbrev c_theorbolaw06_HandLists_p5 : VC := (.seq (.ops 9 [oo 45 (.ldA 10) [.t 5], oo 46 .mv [.t 6], oo 47 (.call 31) [.t 45, .t 46], oo 44 .mv [.t 47], oo 48 (.ext 0) [.t 44], oo 49 (.ext 1) [.t 44], ⟨(some 11), none, (.alloc 40 [(.sl 0 [] .exact), li 0]), [], none⟩, ⟨none, none, (.st 2), [.t 11, .t 48], none⟩, oo 8 .mv [.t 49]]) c_theorbolaw06_HandLists_p4)
abbrev c_theorbolaw06_HandLists_p6 : VC := (.seq (.seq (.ops 0 [oo 35 .mv [.t 8], oo 36 .mv [.t 10], oo 37 (.bin .neq) [.t 35, .t 36], oo 38 .mv [.t 37], og 39 38 false .mv [.t 7], og 40 38 false .mv [.t 9], og 41 38 false (.call 39) [.t 39, .t 40], og 42 38 false (.un .not) [.t 41], oo 43 .pick [.t 38, (.c (.lit (.bool true))), .t 42]]) (.cond (.t 43) c_theorbolaw06_HandLists_p2 .skip)) c_theorbolaw06_HandLists_p5)
abbrev c_theorbolaw06_HandLists_p7 : VC := (.seq (.ops 0 [oo 29 (.ldA 10) [.t 5], oo 30 .mv [.t 6], oo 31 .mv [.t 1], oo 32 (.call 38) [.t 29, .t 30, .t 31], oo 28 .mv [.t 32], oo 33 (.ext 0) [.t 28], oo 34 (.ext 1) [.t 28], oo 9 .mv [.t 33], oo 10 .mv [.t 34]]) c_theorbolaw06_HandLists_p6)
abbrev c_theorbolaw06_HandLists_p8 : VC := (.seq (.ops 0 [oo 22 (.ldA 10) [.t 5], oo 23 .mv [.t 6], oo 24 .mv [.t 1], oo 25 (.call 37) [.t 22, .t 23, .t 24], oo 21 .mv [.t 25], oo 26 (.ext 0) [.t 21], oo 27 (.ext 1) [.t 21], oo 7 .mv [.t 26], oo 8 .mv [.t 27]]) c_theorbolaw06_HandLists_p7)
abbrev c_theorbolaw06_HandLists_p9 : VC := (.seq (.seq (.ops 0 [oo 17 (.ldA 10) [.t 5], oo 18 .mv [.t 6], oo 19 (.call 29) [.t 17, .t 18]]) (.cond (.t 19) c_theorbolaw06_HandLists_p1 .skip)) c_theorbolaw06_HandLists_p8)
abbrev c_theorbolaw06_HandLists_p10 : VC := (.seq (.ops 7 [oo 13 (.fldA 0) [.t 2], od 14 (.ldA 10) [.t 13] [0], oo 15 (.fldA 10) [.t 2], od 16 .ld1 [.t 15] [2], ⟨(some 5), none, (.alloc 25 [(.sl 0 [] .exact), (.sl 0 [] .exact), (.sl 0 [] .exact), li 0, li 0, li 0, li 0, li 0, li 0, li 0]), [], (some [])⟩, ⟨none, none, (.st 10), [.t 5, .t 14], (some [4])⟩, oo 6 .mv [.t 16]]) c_theorbolaw06_HandLists_p9)
def c_theorbolaw06_HandLists : VC := (.seq (.ops 2 [oo 2 (.box 35) [.t 0], oo 4 .mv [(.c (.lit (.bool false)))]]) c_theorbolaw06_HandLists_p10)
theorem k_theorbolaw06_HandLists : Comp Try.prog nobx gtab 8 76 c_theorbolaw06_HandLists [.t 4] := ⟨⟨Try.f8, _, Try.func8, rfl, rfl, kr, kr⟩⟩
end Go.Proofs.Ytojjdkoglhecbaa
namespace Go.Proofs.Ytojjdkoglhecbaa
open Go.RowKit

/-- A new lister. -/
theorem li_new {h : Hand} {l : List Chord} {Gs : List (List Grip)} (hn : NetOk h l Gs) (hl : 0 < l.length) {m M : Mm} {r : V} (hP : LsPost h l Gs m r M) : ∃ tb nq rt rs v, r = .ptr tb 0 ∧ LiS h l Gs tb nq rt rs (fun _ => none) .exact v M := by
  obtain ⟨_, _, tb, nq, rt, rs, rfl, _, _, hL⟩ := hP
  obtain ⟨hLs, ⟨_, l2⟩, v, H, q1, q2, q3, q4⟩ := hL hl
  refine ⟨tb, nq, rt, rs, v, rfl, ⟨hLs.tbo, hLs.nqo, fun y hy hyl => ⟨_, hLs.row y hy hyl, nilR_len _, fun k hk => ⟨_, nilR_at hk, .inl rfl⟩⟩, hLs.inj, hLs.ltt, hLs.ltn, hLs.ltr, rfl, rfl, fun _ _ => rfl, fun _ _ => rfl⟩, 0, false, H, ⟨q1, l2, rfl, q2, q3, bag_perm (bag_root hn hl) q4, fun _ _ _ => rfl, .inl rfl, fun q e => by cases e⟩⟩

set_option maxHeartbeats 2000000 in
theorem fing0_sfn {h : Hand} {l : List Chord} {Gs : List (List Grip)} (hl0 : l.length = 0) {M : Mm} {tb rt : Nat} {nv : V} (o1 : M.obj tb = some (.box [netE h l Gs, nv, .ptr rt 0] 162)) (l1 : tb < M.next) (r : Nat) :
    SFn Try.prog Gd 75 [.ptr tb 0, vint r] M (fun res M' => res = .tup [.agg [.sl 0 [] .exact, vint 0], vbool ((r : Int) == 0)] ∧ M.next ≤ M'.next ∧ ∀ q, q < M.next → M'.obj q = M.obj q) := by
  refine SFn.of_vxS k_hand_lister_fingering_b (by simp) ?_
  have x0 : ¬ tb = M.next := by omega
  have hnet : netE h l Gs = .ept [.sl h.low.length (h.low.map vint) .no, .sl h.high.length (h.high.map vint) .no, .sl h.barre.length (h.barre.map vbool) .no, .lit (.int .i64 h.top), .lit (.int .i64 h.jump), .lit (.int .i64 h.shift), .lit (.int .i64 h.lift), .lit (.int .i64 h.bar), .lit (.int .i64 h.stretch), .lit (.int .i64 h.slide),
    .sl l.length (l.flatMap Chord.cells) .no, .sl Gs.length (Gs.map tGs) .no, .sl (owA h l Gs).length ((owA h l Gs).map tIs) .no, .sl (rsA h l Gs).length ((rsA h l Gs).map tIs) .no] 0 := rfl
  rw [hnet] at o1
  have e1 : ((l.length : Int) == 0) = true := by rw [beq_iff_eq]; omega
  unfold c_hand_lister_fingering_b
  clear hl0 hnet
  repeat' (with_reducible first | refine x_ops ?_ | refine wk ?_ | ((first | refine gd1 ?_ ?_ | refine gd2 ?_ ?_ | refine gd3 ?_ ?_) <;> (first | exact @False.elim _ | intro hc)))
  exact ⟨.inr rfl, .tup [.agg [.sl 0 [] .exact, vint 0], vbool ((r : Int) == 0)], vv, rfl, by show M.next ≤ M.next + 2; omega, fun q hq => (put_other _ _ (by omega)).trans (put_other _ _ (by omega))⟩

/-- What List answers, of both. -/
noncomputable def lsR (h : Hand) (l : List Chord) (most : Int) : List (List Grip × Int) × Int :=
  if wvE h l = 0 then (if 1 ≤ most ∧ most ≤ 64 then (if fgL h l (tabG h l) most.toNat = [] then ([], 62) else (fgL h l (tabG h l) most.toNat, 0)) else ([], 1)) else ([], wvE h l)
theorem fgL_len {h : Hand} {l : List Chord} {Gs : List (List Grip)} (q : Nat) (hl : 0 < l.length) : (fgL h l Gs q).length = min q (rtT h l Gs).length := by rw [fgL, if_neg (by omega), List.length_map, List.length_take]
theorem fgL_take {h : Hand} {l : List Chord} {Gs : List (List Grip)} {q k : Nat} (hl : 0 < l.length) (hk : k < q) (hr : k < (rtT h l Gs).length) : (fgL h l Gs q).take (k + 1) = (fgL h l Gs q).take k ++ [fgW h l Gs ((rtT h l Gs).getD k noW)] := by
  rw [fgL, if_neg (by omega), List.take_add_one, List.getElem?_map, List.getElem?_take, if_pos hk, List.getD_eq_getElem?_getD, List.getElem?_eq_getElem hr]; rfl
theorem fgC_lG (f : List Grip × Int) : (fgC f).length = 2 := rfl

set_option maxHeartbeats 4000000 in
/-- The loop of List, where there are chords. -/
theorem List_loop {h : Hand} {l : List Chord} {Gs : List (List Grip)} (hn : NetOk h l Gs) (hl : 0 < l.length) {q : Nat} (hq : 1 ≤ q ∧ q ≤ 64) {tb nq rt : Nat} {rs : List Nat} {v : V} {M : Mm} (hS : LiS h l Gs tb nq rt rs (fun _ => none) .exact v M) {t : Nat → V}
    (s2 : t 2 = vint q) (s6 : t 6 = .sl 0 [] .exact) (s7 : t 7 = vint 0) (s9 : t 9 = .ptr tb 0) :
    (c_hand_List_p13).vx Try.prog Gd (FinV [.t 6, .t 7] (.tup [tFs (fgL h l Gs q), vint (if fgL h l Gs q = [] then 62 else 0)])) ⟨t, M⟩ := by
  have FG := fun (k : Nat) (hk : k ≤ 100) own tok v M (hS : LiS h l Gs tb nq rt rs own tok v M) => fingG_sfn hn hl hS hk
  have hlen := fgL_len (h := h) (l := l) (Gs := Gs) q hl
  have htk := fun k => fgL_take (h := h) (l := l) (Gs := Gs) (q := q) (k := k) hl
  replace hn := Hid.mk hn
  unfold c_hand_List_p13
  repeat' (with_reducible first | refine x_ops ?_ | refine wk ?_ | ((first | refine gd1 ?_ ?_ | refine gd2 ?_ ?_ | refine gd3 ?_ ?_) <;> (first | exact @False.elim _ | intro hc)))
  have fin : ∀ (t' : Nat → V) (M' : Mm) (k : Nat) (tf : Tok), t' 6 = .sl k (((fgL h l Gs q).take k).flatMap fgC) tf → k = (fgL h l Gs q).length → (c_hand_List_p12).vx Try.prog Gd (FinV [.t 6, .t 7] (.tup [tFs (fgL h l Gs q), vint (if fgL h l Gs q = [] then 62 else 0)])) ⟨t', M'⟩ := by
    intro t' M' k tf f6 hk
    rw [hk, List.take_length] at f6
    generalize fgL h l Gs q = F at *
    unfold c_hand_List_p12 tFs
    by_cases hF : F = []
    · subst hF
      rw [if_pos rfl]
      have e1 : (((([] : List (List Grip × Int)).length : Nat) : Int) == 0) = true := rfl
      clear hlen htk FG hk
      repeat' (with_reducible first | refine x_ops ?_ | refine wk ?_ | ((first | refine gd1 ?_ ?_ | refine gd2 ?_ ?_ | refine gd3 ?_ ?_) <;> (first | exact @False.elim _ | intro hc)))
      exact finV_ret vw (.tup (.cons (.sl _ _ _) (.cons (.lit _) .nil)))
    · rw [if_neg hF]
      have e1 : (((F.length : Nat) : Int) == 0) = false := by
        rw [beq_eq_false_iff_ne]; have := List.length_pos_iff.2 hF; omega
      clear hlen htk FG hk hF
      repeat' (with_reducible first | refine x_ops ?_ | refine wk ?_ | ((first | refine gd1 ?_ ?_ | refine gd2 ?_ ?_ | refine gd3 ?_ ?_) <;> (first | exact @False.elim _ | intro hc)))
      exact finV_ret vw (.tup (.cons (.sl _ _ _) (.cons (.lit _) .nil)))
  replace fin := Hid.mk fin
  replace FG := Hid.mk FG
  replace htk := Hid.mk htk
  refine x_loopW w_hand_List_p8 kr q (fun k t M => t 28 = vint (k : Int) ∧ k ≤ (rtT h l Gs).length ∧ ∃ own tok v tf, LiS h l Gs tb nq rt rs own tok v M ∧ t 6 = .sl k (((fgL h l Gs q).take k).flatMap fgC) tf ∧ Apb M tf k 40 2 ∧ ∀ b, tf = .own b → own b = none) ⟨vv, Nat.zero_le _, _, _, v, .exact, hS, s6, .inl rfl, fun b e => by cases e⟩ ?_
  clear hS s6
  rintro k t1 M1 hk ⟨h28, hkl, own, tok, v1, tf, hS, h6, hap, hao⟩
  by_cases hkq : k < q
  case neg =>
    have hke : k = q := by omega
    subst hke
    have c1 : ¬ (k : Int) < (k : Int) := by omega
    replace hap := Hid.mk hap
    clear hkq hk hao
    repeat' (with_reducible first | refine x_ops ?_ | refine wk ?_ | ((first | refine gd1 ?_ ?_ | refine gd2 ?_ ?_ | refine gd3 ?_ ?_) <;> (first | exact @False.elim _ | intro hc)))
    refine fin.out _ _ k tf ?_ (by rw [hlen]; omega)
    exact vw
  have c1 : (k : Int) < (q : Int) := by omega
  have hSc := hS.up (M' := ⟨M1.obj, M1.next + 9⟩) (Nat.le_add_right _ _) fun _ _ => rfl
  have F1 := FG.out k (by omega) own tok v1 _ hSc
  have F2 := fgPostG_ex k hSc
  have hS0 := Hid.mk hS
  have hkq0 := Hid.mk hkq
  clear hS hkq hk
  repeat' (with_reducible first | refine x_ops ?_ | refine wk ?_ | ((first | refine gd1 ?_ ?_ | refine gd2 ?_ ?_ | refine gd3 ?_ ?_) <;> (first | exact @False.elim _ | intro hc)))
  refine x_scallR [.ptr tb 0, vint (k : Int)] vw F1 F2 ?_
  rintro res M2 ⟨⟨own2, tok2, v2, hS2, hT2⟩, hres⟩
  have hn2 : M1.next + 9 ≤ M2.next := hT2.nx
  have hxb : own2 (M1.next + 6) = none := (hT2.ow _ (by show M1.next + 6 < M1.next + 9; omega)).trans (hS0.out.ls.cl _ (by omega))
  have hap2 : Apb M2 tf k 40 2 := by
    rcases hap with h1 | ⟨tr, h1, h2, h3⟩
    · exact .inl h1
    · have hnr := hSc.nr (q := tr) h3 (by decide)
      exact .inr ⟨tr, h1, by omega, (hT2.fr tr (by show tr < M1.next + 9; omega) hnr.1 hnr.2.1 hnr.2.2.1 (fun y k e => by rw [hao tr h1] at e; cases e) hnr.2.2.2).trans h3⟩
  have hao2 : ∀ b, tf = .own b → own2 b = none := fun b e => by
    rcases hap with h1 | ⟨tr, h1, h2, h3⟩
    · rw [h1] at e; cases e
    · rw [h1] at e; injection e with e; subst e; exact (hT2.ow _ (by show tr < M1.next + 9; omega)).trans (hao _ h1)
  have htl : ∀ b, tf = .own b → b < M1.next := fun b e => by
    rcases hap with h1 | ⟨tr, h1, h2, h3⟩
    · rw [h1] at e; cases e
    · rw [h1] at e; injection e with e; subst e; exact h2
  have hx6 : M1.next + 6 < M2.next := by omega
  have hnv : ∀ n, v2 ≠ .gsl (M1.next + 6) n 3 := fun n e => by
    rcases hT2.vn _ n e with ⟨n', e'⟩ | h9
    · obtain ⟨j, due, H, hs⟩ := hS0.out.nd
      have := (hs.vlt e').1; omega
    · have h8 : M1.next + 9 ≤ M1.next + 6 := h9; omega
  have hnt : tok2 ≠ .own (M1.next + 6) := fun e => by
    rcases hT2.tn _ e with e' | h9
    · obtain ⟨j, due, H, hs⟩ := hS0.out.nd
      have := (hs.tlt e').1; omega
    · have h8 : M1.next + 9 ≤ M1.next + 6 := h9; omega
  have hS2p : ∀ a, LiS h l Gs tb nq rt rs own2 tok2 v2 (M2.put (M1.next + 6) a) := fun a => by
    obtain ⟨j, due, H, hs⟩ := hS0.out.nd
    have a1 := hS0.out.ls.ltt
    have a2 := hS0.out.ls.ltn
    have a3 := hs.lt
    exact hS2.put hxb ⟨by omega, by omega, by omega⟩ hnv hnt (fun y hy => by have := hS0.out.ls.ltr y hy; omega) a
  have hS2pp : ∀ a b, LiS h l Gs tb nq rt rs own2 tok2 v2 ((M2.put (M1.next + 6) a).put (M1.next + 6) b) := fun a b => by
    obtain ⟨j, due, H, hs⟩ := hS0.out.nd
    have a1 := hS0.out.ls.ltt
    have a2 := hS0.out.ls.ltn
    have a3 := hs.lt
    exact (hS2p a).put hxb ⟨by omega, by omega, by omega⟩ hnv hnt (fun y hy => by have := hS0.out.ls.ltr y hy; omega) b
  have hrw : ∀ (Mx : Mm), LiS h l Gs tb nq rt rs own2 tok2 v2 Mx → Apb Mx tf k 40 2 → ∀ (My : Mm), Mx.next ≤ My.next → (∀ b, b < Mx.next → tf ≠ .own b → My.obj b = Mx.obj b) → LiS h l Gs tb nq rt rs own2 tok2 v2 My := fun Mx hx hax My hn1 hf => hx.keep hn1 fun b hb hbc => hf b hb (fun e => by
    rcases hax with h1 | ⟨tr, h1, h2, h3⟩
    · rw [h1] at e; cases e
    · rw [h1] at e; injection e with e; subst e
      have hnr := hx.nr h3 (by decide)
      rcases hbc with h5 | h5 | h5 | h5 | ⟨n, h5⟩ | h5 | ⟨y, hy, h5⟩
      · exact h5 (hao2 _ h1)
      · rw [h5, hx.ls.tbo] at h3; cases h3
      · rw [h5, hx.ls.nqo] at h3; cases h3
      · exact hnr.1 h5
      · exact hnr.2.1 n h5
      · exact hnr.2.2.1 h5
      · exact hnr.2.2.2 y (Nat.zero_le _) hy h5)
  replace hrw := Hid.mk hrw
  replace hS2pp := Hid.mk hS2pp
  replace htl := Hid.mk htl
  clear hS2p hnv hnt
  have w1 := w_add1 (k := k) (by have := hkq0.out; omega)
  replace hT2 := Hid.mk hT2
  replace hS2 := Hid.mk hS2
  replace hap2 := Hid.mk hap2
  replace hao2 := Hid.mk hao2
  clear F1 F2 hap hao
  rcases hres with ⟨hkr, t9, rfl⟩ | ⟨hkr, rfl⟩
  case inr =>
    have hke : k = (fgL h l Gs q).length := by rw [hlen]; have := hkq0.out; omega
    replace hke := Hid.mk hke
    repeat' (with_reducible first | refine x_ops ?_ | refine wk ?_ | ((first | refine gd1 ?_ ?_ | refine gd2 ?_ ?_ | refine gd3 ?_ ?_) <;> (first | exact @False.elim _ | intro hc)))
    refine fin.out _ _ k tf ?_ hke.out
    exact vw
  have ht := htk.out k hkq0.out hkr
  have hxl : (((fgL h l Gs q).take k).flatMap fgC).length = k * 2 := by
    rw [flat_len fgC_lG, List.length_take, hlen]; have := hkq0.out; omega
  generalize fgW h l Gs ((rtT h l Gs).getD k noW) = f at *
  obtain ⟨G, c⟩ := f
  replace ht := Hid.mk ht
  replace hxl := Hid.mk hxl
  dsimp only
  repeat' (with_reducible first | refine x_ops ?_ | refine wk ?_ | ((first | refine gd1 ?_ ?_ | refine gd2 ?_ ?_ | refine gd3 ?_ ?_) <;> (first | exact @False.elim _ | intro hc)))
  have hap3 : ∀ a b, Apb ((M2.put (M1.next + 6) a).put (M1.next + 6) b) tf k 40 2 := fun a b => by
    rcases hap2.out with h1 | ⟨tr, h1, h2, h3⟩
    · exact .inl h1
    · have := htl.out tr h1
      exact .inr ⟨tr, h1, h2, (put_other _ _ (by omega)).trans ((put_other _ _ (by omega)).trans h3)⟩
  refine x_appg (n := k) (xs := ((fgL h l Gs q).take k).flatMap fgC) (ys := [.sl G.length (G.flatMap Grip.cells) .no, vint c]) (k := tf) vw vw ((hap3 _ _).mono (fun _ _ _ => rfl) (Nat.le_add_right _ _)) hxl.out rfl (by have := hkq0.out; omega) (by have := hkq0.out; unfold Go.maxLen; omega) (by show M2.next + 3 < M2.next + 5; omega) ?_
  intro tf3 M3 hap4 htf3 hn3 hf3
  have hn3' : M3.next = M2.next + 5 := hn3
  have hS3 : LiS h l Gs tb nq rt rs own2 tok2 v2 M3 := hrw.out _ (hS2pp.out _ _) (hap3 _ _) M3 (by rw [hn3']; exact Nat.le_add_right _ _) (fun b hb hne => hf3 b (by have h9 : b < M2.next := hb; show ¬ b = M2.next + 3; omega) hne)
  have hao3 : ∀ b, tf3 = .own b → own2 b = none := fun b e => (htf3 b e).elim (hao2.out b) fun h9 => by
    have h8 : b = M2.next + 3 := h9
    subst h8
    exact hS2.out.ls.cl _ (by omega)
  replace hS3 := Hid.mk hS3
  replace hap4 := Hid.mk hap4
  replace hao3 := Hid.mk hao3
  clear hf3 htf3 hn3 hap3
  repeat' (with_reducible first | refine x_ops ?_ | refine wk ?_ | ((first | refine gd1 ?_ ?_ | refine gd2 ?_ ?_ | refine gd3 ?_ ?_) <;> (first | exact @False.elim _ | intro hc)))
  refine nx hkq0.out ⟨vv, hkr, own2, tok2, v2, tf3, hS3.out.up (by show M3.next ≤ M2.next + 5; omega) (fun _ _ => rfl), ?_, hap4.out.mono (fun _ _ _ => rfl) (by show M3.next ≤ M2.next + 5; omega), hao3.out⟩
  rw [ht.out, List.flatMap_append, List.flatMap_singleton]
  exact vw

set_option maxHeartbeats 4000000 in
/-- The loop of List, where there are none. -/
theorem List_loop0 {h : Hand} {l : List Chord} {Gs : List (List Grip)} (hl0 : l.length = 0) {q : Nat} (hq : 1 ≤ q ∧ q ≤ 64) {tb rt : Nat} {nv : V} {M : Mm} (o1 : M.obj tb = some (.box [netE h l Gs, nv, .ptr rt 0] 162)) (l1 : tb < M.next) {t : Nat → V}
    (s2 : t 2 = vint q) (s6 : t 6 = .sl 0 [] .exact) (s7 : t 7 = vint 0) (s9 : t 9 = .ptr tb 0) :
    (c_hand_List_p13).vx Try.prog Gd (FinV [.t 6, .t 7] (.tup [tFs [([], 0)], vint 0])) ⟨t, M⟩ := by
  have FG := fun (k : Nat) (M : Mm) (o1 : M.obj tb = some (.box [netE h l Gs, nv, .ptr rt 0] 162)) (l1 : tb < M.next) => fing0_sfn hl0 o1 l1 k
  unfold c_hand_List_p13
  replace FG := Hid.mk FG
  have o10 := Hid.mk o1
  clear o1
  repeat' (with_reducible first | refine x_ops ?_ | refine wk ?_ | ((first | refine gd1 ?_ ?_ | refine gd2 ?_ ?_ | refine gd3 ?_ ?_) <;> (first | exact @False.elim _ | intro hc)))
  have fin : ∀ (t' : Nat → V) (M' : Mm) (tf : Tok), t' 6 = .sl 1 [.sl 0 [] .no, vint 0] tf → (c_hand_List_p12).vx Try.prog Gd (FinV [.t 6, .t 7] (.tup [tFs [([], 0)], vint 0])) ⟨t', M'⟩ := by
    intro t' M' tf f6
    unfold c_hand_List_p12 tFs
    repeat' (with_reducible first | refine x_ops ?_ | refine wk ?_ | ((first | refine gd1 ?_ ?_ | refine gd2 ?_ ?_ | refine gd3 ?_ ?_) <;> (first | exact @False.elim _ | intro hc)))
    exact finV_ret vw (.tup (.cons (.sl _ _ _) (.cons (.lit _) .nil)))
  replace fin := Hid.mk fin
  refine x_loopW w_hand_List_p8 kr 1 (fun k t M' => t 28 = vint (k : Int) ∧ (tb < M'.next ∧ M'.obj tb = some (.box [netE h l Gs, nv, .ptr rt 0] 162)) ∧ ∃ tf, (k = 0 → t 6 = .sl 0 [] .exact) ∧ (k = 1 → t 6 = .sl 1 [.sl 0 [] .no, vint 0] tf)) ⟨vv, ⟨l1, o10.out⟩, .exact, fun _ => s6, fun e => by cases e⟩ ?_
  clear s6
  rintro k t1 M1 hk ⟨h28, ⟨hlt, ho⟩, tf, h60, h61⟩
  by_cases hk1 : k = 1
  · have h6 := h61 hk1
    have e9 : ((k : Int) == 0) = false := by rw [beq_eq_false_iff_ne]; omega
    clear h60 h61
    by_cases hq1 : q = 1
    · have c1 : ¬ (k : Int) < (q : Int) := by omega
      clear ho hq1 hk1 e9
      repeat' (with_reducible first | refine x_ops ?_ | refine wk ?_ | ((first | refine gd1 ?_ ?_ | refine gd2 ?_ ?_ | refine gd3 ?_ ?_) <;> (first | exact @False.elim _ | intro hc)))
      refine fin.out _ _ tf ?_
      exact vw
    have c1 : (k : Int) < (q : Int) := by omega
    clear hq1 hk1
    have F1 := FG.out k ⟨M1.obj, M1.next + 9⟩ ho (by show tb < M1.next + 9; omega)
    clear ho
    repeat' (with_reducible first | refine x_ops ?_ | refine wk ?_ | ((first | refine gd1 ?_ ?_ | refine gd2 ?_ ?_ | refine gd3 ?_ ?_) <;> (first | exact @False.elim _ | intro hc)))
    refine x_scallR [.ptr tb 0, vint (k : Int)] vw F1 ⟨_, ⟨M1.obj, M1.next + 9⟩, rfl, Nat.le_refl _, fun _ _ => rfl⟩ ?_
    rintro res M2 ⟨rfl, hn2, hf2⟩
    have hn2' : M1.next + 9 ≤ M2.next := hn2
    have hx6 : M1.next + 6 < M2.next := by omega
    clear F1 hf2 hn2
    repeat' (with_reducible first | refine x_ops ?_ | refine wk ?_ | ((first | refine gd1 ?_ ?_ | refine gd2 ?_ ?_ | refine gd3 ?_ ?_) <;> (first | exact @False.elim _ | intro hc)))
    refine fin.out _ _ tf ?_
    exact vw
  have hk0 : k = 0 := by omega
  have h6 := h60 hk0
  have e9 : ((k : Int) == 0) = true := by rw [beq_iff_eq]; omega
  have c1 : (k : Int) < (q : Int) := by omega
  have F1 := FG.out k ⟨M1.obj, M1.next + 9⟩ ho (by show tb < M1.next + 9; omega)
  have w1 := w_add1 (k := k) (by omega)
  have ho0 := Hid.mk ho
  clear h60 h61 ho
  replace hk0 := Hid.mk hk0
  clear hk1 hk
  repeat' (with_reducible first | refine x_ops ?_ | refine wk ?_ | ((first | refine gd1 ?_ ?_ | refine gd2 ?_ ?_ | refine gd3 ?_ ?_) <;> (first | exact @False.elim _ | intro hc)))
  refine x_scallR [.ptr tb 0, vint (k : Int)] vw F1 ⟨_, ⟨M1.obj, M1.next + 9⟩, rfl, Nat.le_refl _, fun _ _ => rfl⟩ ?_
  rintro res M2 ⟨rfl, hn2, hf2⟩
  have hn2' : M1.next + 9 ≤ M2.next := hn2
  have hx6 : M1.next + 6 < M2.next := by omega
  have ho2 := (hf2 tb (by show tb < M1.next + 9; omega)).trans ho0.out
  have htx : tb ≠ M1.next + 6 := by omega
  have ho20 := Hid.mk ho2
  clear F1 hf2 hn2 ho2
  repeat' (with_reducible first | refine x_ops ?_ | refine wk ?_ | ((first | refine gd1 ?_ ?_ | refine gd2 ?_ ?_ | refine gd3 ?_ ?_) <;> (first | exact @False.elim _ | intro hc)))
  refine x_appE (n := 0) (xs := []) (j := 1) (ys := [.sl 0 [] .no, vint 0]) vw vw rfl rfl (by decide) (by decide) ?_
  repeat' (with_reducible first | refine x_ops ?_ | refine wk ?_ | ((first | refine gd1 ?_ ?_ | refine gd2 ?_ ?_ | refine gd3 ?_ ?_) <;> (first | exact @False.elim _ | intro hc)))
  refine nx (by have := hk0.out; omega) ⟨vv, ⟨by show tb < M2.next + 5; omega, ?_⟩, _, (fun e => by cases e), fun _ => vw⟩
  exact (put_other _ _ (by omega)).trans ((put_other _ _ htx).trans ((put_other _ _ htx).trans ho20.out))
end Go.Proofs.Ytojjdkoglhecbaa
namespace Go.Proofs.Ytojjdkoglhecbaa
open Go.RowKit

/-- A memory with a lister behind all that was there. -/
noncomputable def lsM (h : Hand) (l : List Chord) (Gs : List (List Grip)) (m : Mm) (H : List Way) : Mm :=
  ⟨fun q => if q < m.next then m.obj q else if q = m.next then some (.box [netE h l Gs, .gsl (m.next + 1) l.length 1, .ptr (m.next + 2) 0] 162)
    else if q = m.next + 1 then some (.box (rwN ((List.range l.length).map (m.next + 4 + ·)) Gs) 163)
    else if q = m.next + 2 then some (.box [.sl 0 [] .exact, .gsl (m.next + 3) H.length 3, .fn 110 [], vbool false] 159)
    else if q = m.next + 3 then some (.box (wyC (H ++ [])) 154)
    else some (.box (nilR (Gs.getD (q - (m.next + 4)) []).length) 150), m.next + 4 + l.length⟩
theorem lsPost_ex (h : Hand) (l : List Chord) (Gs : List (List Grip)) (m : Mm) : ∃ r M', LsPost h l Gs m r M' := by
  obtain ⟨H, h1, h2⟩ := heap_ex (rtL h l Gs (rsT h l Gs 0).length)
  have hr : ∀ y, y < l.length → ((List.range l.length).map (m.next + 4 + ·)).getD y 0 = m.next + 4 + y := fun y hy => by
    rw [List.getD_eq_getElem?_getD, List.getElem?_map, List.getElem?_range hy]; rfl
  have o : ∀ q, (lsM h l Gs m H).obj q = if q < m.next then m.obj q else if q = m.next then some (.box [netE h l Gs, .gsl (m.next + 1) l.length 1, .ptr (m.next + 2) 0] 162)
    else if q = m.next + 1 then some (.box (rwN ((List.range l.length).map (m.next + 4 + ·)) Gs) 163)
    else if q = m.next + 2 then some (.box [.sl 0 [] .exact, .gsl (m.next + 3) H.length 3, .fn 110 [], vbool false] 159)
    else if q = m.next + 3 then some (.box (wyC (H ++ [])) 154)
    else some (.box (nilR (Gs.getD (q - (m.next + 4)) []).length) 150) := fun _ => rfl
  have n : (lsM h l Gs m H).next = m.next + 4 + l.length := rfl
  refine ⟨.ptr m.next 0, lsM h l Gs m H, by omega, fun q hq => by rw [o, if_pos hq], m.next, m.next + 1, m.next + 2, (List.range l.length).map (m.next + 4 + ·), rfl, ⟨Nat.le_refl _, by omega⟩, ⟨_, by rw [o, if_neg (by omega), if_pos rfl]⟩, fun hl => ⟨⟨?_, ?_, ?_, ?_, ?_, ?_, ?_, ?_, ?_⟩, ⟨by omega, by omega⟩, .gsl (m.next + 3) H.length 3, H, ?_, .inr ⟨m.next + 3, [], rfl, by omega, ?_⟩, h1, h2⟩⟩
  · rw [o, if_neg (by omega), if_pos rfl]
  · rw [o, if_neg (by omega), if_neg (by omega), if_pos rfl]
  · intro y _ hy
    rw [hr y hy, o, if_neg (by omega), if_neg (by omega), if_neg (by omega), if_neg (by omega), if_neg (by omega), Nat.add_sub_cancel_left]
  · intro y z hyz hz
    rw [hr y (by omega), hr z hz]; omega
  · omega
  · omega
  · intro y hy; rw [hr y hy]; omega
  · omega
  · intro y hy; rw [hr y hy]; omega
  · rw [o, if_neg (by omega), if_neg (by omega), if_neg (by omega), if_pos rfl]
  · rw [o, if_neg (by omega), if_neg (by omega), if_neg (by omega), if_neg (by omega), if_pos rfl]

/-- What first answers, as a value. -/
noncomputable def fstV (r : List Grip × Int × Int) : V := .tup [.agg [tGs r.1, vint r.2.1], vint r.2.2]
/-- What Best answers. -/
noncomputable def bstR (h : Hand) (l : List Chord) : List Grip × Int × Int := if wvE h l = 0 then fstR h l (tabG h l) else ([], 0, wvE h l)
end Go.Proofs.Ytojjdkoglhecbaa
namespace Go.Proofs.Ytojjdkoglhecbaa
open Go.RowKit

theorem rowsT_snoc {k : Nat} {a : Nat → Nat} {f : Nat → Nat → List V} : rowsT (k + 1) a f = rowsT k a f ++ [rowT (a k) (f k)] := by rw [rowsT, List.range_succ, List.map_append]; rfl
/-- How many tails are kept. -/
noncomputable def keN (h : Hand) (l : List Chord) (Gs : List (List Grip)) (q i k : Nat) : Nat := min q (tl h l Gs i k).length

set_option maxHeartbeats 4000000 in
theorem search_row {h : Hand} {l : List Chord} {Gs : List (List Grip)} (hn : NetOk h l Gs) {i j q : Nat} (hi : i + 1 < l.length) (hj : j < (Gs.getD i []).length) (hq : q ≤ 1000) {t : Nat → V} {M : Mm} {hb gb : Nat} {k9 tok : Tok} {xs : List V}
    (s1 : t 1 = .sl l.length (l.flatMap Chord.cells) .no) (s2 : t 2 = .sl l.length (Gs.map tGs) .no) (s3 : t 3 = vint q) (s4 : t 4 = .ptr hb 0) (o4 : M.obj hb = some (.box [tIs h.low, tIs h.high, tBs h.barre, vint h.top, vint h.jump, vint h.shift, vint h.lift, vint h.bar, vint h.stretch, vint h.slide] 25)) (l4 : hb < M.next)
    (s9 : t 9 = .sl (Gs.getD (i + 1) []).length (rowsT (Gs.getD (i + 1) []).length (keN h l Gs q (i + 1)) (tcE h l Gs (i + 1))) k9) (s10 : t 10 = vint i) (s11 : t 11 = .sl j xs tok) (hxs : xs.length = j) (hap : Apb M tok j 171 1)
    (s13 : t 13 = .ptr gb 0) (o13 : M.obj gb = some (.box [vint (grp Gs i j).pos, tIs (grp Gs i j).fingers] 53)) (l13 : gb < M.next) (s14 : t 14 = vint (owG h l Gs i j)) :
    (c_theorboref06_search_b_p16).vx Try.prog Gd (fun e s' => e = .nrm ∧ ∃ tok', s'.t 11 = .sl (j + 1) (xs ++ [rowT (keN h l Gs q i j) (tcE h l Gs i j)]) tok' ∧ Apb s'.m tok' (j + 1) 171 1 ∧ Ks tok M tok' ∧ Kt tok M s'.m) ⟨t, M⟩ := by
  have hil : i < l.length := by omega
  have hgl := hn.gl
  have h4 := hn.len
  have hN := hn.cnt (i + 1)
  have hJ := hn.cnt i
  have hg := hn.grip hil hj
  have hown := own_bound hn.hk (hn.seq i hil).1 hg.1
  have hSb := fun k hk => stepB hn (i := i) (k := j) (m := k) hi hj hk
  have ST := fun k hk => rstep_fn h hn.hk (l.getD i noC) (l.getD (i + 1) noC) (hn.seq i hil).1 (hn.seq (i + 1) hi).1 (hn.follows hi) (hn.fits.at i) (hn.fits.at (i + 1)) ((Gs.getD i []).getD j noG) ((Gs.getD (i + 1) []).getD k noG) hg.2 (hn.grip hi hk).2 hg.1 (hn.grip hi hk).1
  have hnum := fun k hk => tl_num hn (i := i + 1) (k := k) hi hk
  have hcost := fun k r hr => tcE_cost (h := h) (l := l) (Gs := Gs) (i := i + 1) (k := k) (r := r) hi hr
  have C5 : Fn Try.prog Gd 114 [.sl (Gs.getD (i + 1) []).length (rowsT (Gs.getD (i + 1) []).length (fun k => ((tlC h l Gs i j k).take q).length) (tcL h l Gs i j)) .no, vint q] (.sl (keN h l Gs q i j) ((List.range (keN h l Gs q i j)).map fun r => V.ept (tcE h l Gs i j r) 0) .no) := by
    have h1 := rfirst_fn (n := (Gs.getD (i + 1) []).length) (c := fun k => (tlC h l Gs i j k).take q) (tc := tcL h l Gs i j) (fun m _ => asc_take (tlC_asc hi) q) (by omega) (fun m _ => by rw [List.length_take]; omega) (fun m r hm hr => by
      rw [List.length_take, tlC_len] at hr
      split at hr
      case isFalse => omega
      rename_i hs
      rw [getD_take (by omega), tlC_at hs (by omega)]; rfl) q hq
    have h2 := mrg_take (n := (Gs.getD (i + 1) []).length) (c := tlC h l Gs i j) (fun m _ => tlC_asc hi) q
    rw [h2.1, h2.2, ← tl_s hi, out_tl hi] at h1
    exact h1
  have hrow : ∀ k, k < (Gs.getD (i + 1) []).length → ((tlC h l Gs i j k).take q).length = if (stG h l Gs i j k).2 = true then keN h l Gs q (i + 1) k else 0 := fun k hk => by
    rw [List.length_take, tlC_len]; split
    · rfl
    · omega
  have c1 : ((i + 1 : Nat) : Int) < (l.length : Int) := by omega
  have c0 : (i : Int) < (l.length : Int) := by omega
  have w1 := w_add1 (k := i) (by omega)
  have g1 := gss_at' (l := Gs) (k := i + 1) (by omega)
  have g2 := chs_take hil
  have g3 := chs_take hi
  have g4 := chs_len l
  have g5 := gs_len (Gs.getD (i + 1) [])
  have g6 : (Gs.map tGs).length = l.length := by rw [List.length_map, hgl]
  have c2 : i * 3 + 3 ≤ l.length * 3 := by omega
  have c3 : (i + 1) * 3 + 3 ≤ l.length * 3 := by omega
  unfold Hand.val Chord.val Chord.cells Grip.val Grip.cells at ST
  unfold c_theorboref06_search_b_p16
  unfold grp at o13
  have hap0 := Hid.mk hap
  have o40 := Hid.mk o4
  have o130 := Hid.mk o13
  replace hown := Hid.mk hown
  replace hSb := Hid.mk hSb
  replace hnum := Hid.mk hnum
  replace hcost := Hid.mk hcost
  replace hrow := Hid.mk hrow
  replace ST := Hid.mk ST
  replace hn := Hid.mk hn
  replace C5 := Hid.mk C5
  replace hg := Hid.mk hg
  clear o4 o13 hap hgl
  repeat' (with_reducible first | refine x_ops ?_ | refine wk ?_ | ((first | refine gd1 ?_ ?_ | refine gd2 ?_ ?_ | refine gd3 ?_ ?_) <;> (first | exact @False.elim _ | intro hc)))
  refine x_gen (fun t => t 1 = .sl l.length (l.flatMap Chord.cells) .no ∧ t 2 = .sl l.length (Gs.map tGs) .no ∧ t 3 = vint q ∧ t 4 = .ptr hb 0 ∧ t 9 = .sl (Gs.getD (i + 1) []).length (rowsT (Gs.getD (i + 1) []).length (keN h l Gs q (i + 1)) (tcE h l Gs (i + 1))) k9 ∧ t 10 = vint i ∧ t 11 = .sl j xs tok ∧ t 13 = .ptr gb 0 ∧ t 14 = vint (owG h l Gs i j) ∧ t 15 = .sl 0 [] .exact ∧ t 16 = vint 0) ⟨vw, vw, vw, vw, vw, vw, vw, vw, vw, vv, vv⟩ ?_
  clear s1 s2 s3 s4 s9 s10 s11 s13 s14
  rintro t0 ⟨s1, s2, s3, s4, s9, s10, s11, s13, s14, s15, s16⟩
  refine x_loopW w_theorboref06_search_b_p12 kr (Gs.getD (i + 1) []).length (fun k t M' => t 16 = vint (k : Int) ∧ (∃ tk, t 15 = .sl k (rowsT k (fun k => ((tlC h l Gs i j k).take q).length) (tcL h l Gs i j)) tk ∧ Apb M' tk k 171 1 ∧ Ks .exact M tk) ∧ Kf M M') ⟨s16, ⟨.exact, s15, .inl rfl, fun q e => by cases e⟩, Kf.refl M⟩ ?_
  clear s15 s16
  rintro k t2 M' hk ⟨s16, ⟨tk, s15, hal, hks⟩, hkf⟩
  by_cases hkl : k < (Gs.getD (i + 1) []).length
  case neg =>
    have hke : k = (Gs.getD (i + 1) []).length := by omega
    subst hke
    have c4 : ¬ ((Gs.getD (i + 1) []).length : Int) < ((Gs.getD (i + 1) []).length : Int) := by omega
    have C5' := C5.out
    replace hal := Hid.mk hal
    replace hks := Hid.mk hks
    have hkf0 := Hid.mk hkf
    clear hkl hk hkf g2 g3
    repeat' (with_reducible first | refine x_ops ?_ | refine wk ?_ | (with_reducible refine xc (C5') ?_) | ((first | refine gd1 ?_ ?_ | refine gd2 ?_ ?_ | refine gd3 ?_ ?_) <;> (first | exact @False.elim _ | intro hc)))
    refine x_appg (xs := xs) (ys := [rowT (keN h l Gs q i j) (tcE h l Gs i j)]) vw vw ((hkf0.out.apb hap0.out).mono (fun _ _ _ => rfl) (Nat.le_add_right _ _)) (by rw [hxs, Nat.mul_one]) rfl (by omega) (by unfold Go.maxLen; omega) (by simp) ?_
    intro tok2 M2 hap2 htk hn2 hf2
    have hks2 : Ks tok M tok2 := fun p hp => (htk p hp).imp id fun h => by subst h; exact Nat.le_trans hkf0.out.1 (Nat.le_add_right _ _)
    have hkt2 : Kt tok M M2 := ⟨Nat.le_trans hkf0.out.1 (by rw [hn2]; exact Nat.le_add_right _ _), fun p hp hne => (hf2 p (by have := hkf0.out.1; intro (e : p = M'.next + 5); omega) hne).trans (hkf0.out.2 p hp)⟩
    replace hks2 := Hid.mk hks2
    replace hkt2 := Hid.mk hkt2
    clear hn2 hf2 htk
    repeat' (with_reducible first | refine x_ops ?_ | refine wk ?_ | ((first | refine gd1 ?_ ?_ | refine gd2 ?_ ?_ | refine gd3 ?_ ?_) <;> (first | exact @False.elim _ | intro hc)))
    exact ⟨_, rfl, hap2, hks2.out, hkt2.out⟩
  have c4 : (k : Int) < ((Gs.getD (i + 1) []).length : Int) := by omega
  have c5 : k * 2 + 2 ≤ (Gs.getD (i + 1) []).length * 2 := by omega
  have g7 := gs_take hkl
  have wk' := w_add1 (k := k) (by omega)
  have STk := ST.out k hkl
  have o4 := (hkf.2 _ l4).trans o40.out
  have o13 := (hkf.2 _ l13).trans o130.out
  have l4' : hb < M'.next := Nat.lt_of_lt_of_le l4 hkf.1
  have l13' : gb < M'.next := Nat.lt_of_lt_of_le l13 hkf.1
  have hal0 := Hid.mk hal
  have hks0 := Hid.mk hks
  have hkf0 := Hid.mk hkf
  have hkl0 := Hid.mk hkl
  have b1 := Hid.mk (hSb.out k hkl)
  have hro := Hid.mk (hrow.out k hkl)
  clear hal hks hkf hkl hk
  have hrw : rowT ((tlC h l Gs i j k).take q).length (tcL h l Gs i j k) = rowT (if (stG h l Gs i j k).2 = true then keN h l Gs q (i + 1) k else 0) (rwLT ((Gs.getD i []).getD j noG).pos (.sl ((Gs.getD i []).getD j noG).fingers.length (((Gs.getD i []).getD j noG).fingers.map vint) .no) (owG h l Gs i j) (stG h l Gs i j k).1 (fun m => ((tl h l Gs (i + 1) k).getD m noW).1) (tcE h l Gs (i + 1) k)) := by
    rw [hro.out]; rfl
  replace hrw := Hid.mk hrw
  unfold stG owG at *
  generalize hst : stepR h (l.getD i noC) ((Gs.getD i []).getD j noG) (l.getD (i + 1) noC) ((Gs.getD (i + 1) []).getD k noG) = st at *
  obtain ⟨sc, sb⟩ := st
  replace hst := Hid.mk hst
  dsimp only at STk
  repeat' (with_reducible first | refine x_ops ?_ | refine wk ?_ | (with_reducible refine xc (STk) ?_) | ((first | refine gd1 ?_ ?_ | refine gd2 ?_ ?_ | refine gd3 ?_ ?_) <;> (first | exact @False.elim _ | intro hc)))
  refine x_sum 1427247692705797621781456756086103558374064128 ?_ (R := fun e t m' => e = .nrm ∧ ∃ tok', t 15 = .sl (k + 1) (rowsT k (fun k => ((tlC h l Gs i j k).take q).length) (tcL h l Gs i j) ++ [rowT (if sb = true then keN h l Gs q (i + 1) k else 0) (rwLT ((Gs.getD i []).getD j noG).pos (.sl ((Gs.getD i []).getD j noG).fingers.length (((Gs.getD i []).getD j noG).fingers.map vint) .no) (ownC h (l.getD i noC) ((Gs.getD i []).getD j noG)) sc (fun m => ((tl h l Gs (i + 1) k).getD m noW).1) (tcE h l Gs (i + 1) k))]) tok' ∧ Apb m' tok' (k + 1) 171 1 ∧ Ks tk M' tok' ∧ Kt tk M' m')
    (search_list (gb := gb) (k9 := k9) hkl0.out (by omega) ?_ ?_ o13 l13' ?_ ?_ rowsT_len hal0.out ?_ ?_ ?_ (by rw [keN]; omega) (fun m hm => hcost.out k m (by rw [keN] at hm; omega)) (by have := hown.out; omega) (by have := b1.out; dsimp only at this; omega) (fun m hm => by have := hnum.out k hkl0.out _ (mem_nthW (j := m) (by rw [keN] at hm; omega)); omega)) ?_
  · kernel_rfl
  · exact vw
  · exact vw
  · exact vw
  · exact vw
  · exact vw
  · exact vw
  · exact vw
  rintro e t7 M7 ⟨rfl, tok', f15, hap7, hks7, hkt7⟩
  have hks8 : Ks .exact M tok' := fun p hp => (hks7 p hp).elim (hks0.out p) fun h => .inr (Nat.le_trans hkf0.out.1 h)
  have hkf8 : Kf M M7 := ⟨Nat.le_trans hkf0.out.1 hkt7.1, fun p hp => (hkt7.2 p (Nat.lt_of_lt_of_le hp hkf0.out.1) (fun e => (hks0.out p e).elim (fun h => by cases h) (fun h => by omega))).trans (hkf0.out.2 p hp)⟩
  rw [← hrw.out, ← rowsT_snoc (f := tcL h l Gs i j) (a := fun k => ((tlC h l Gs i j k).take q).length)] at f15
  replace hap7 := Hid.mk hap7
  replace hks8 := Hid.mk hks8
  replace hkf8 := Hid.mk hkf8
  clear hks7 hkt7 s15
  repeat' (with_reducible first | refine x_ops ?_ | refine wk ?_ | ((first | refine gd1 ?_ ?_ | refine gd2 ?_ ?_ | refine gd3 ?_ ?_) <;> (first | exact @False.elim _ | intro hc)))
  exact nx hkl0.out ⟨vv, ⟨tok', vw, hap7.out, hks8.out⟩, hkf8.out⟩
end Go.Proofs.Ytojjdkoglhecbaa
namespace Go.Proofs.Ytojjdkoglhecbaa
open Go.RowKit

theorem fgC_l (f : List Grip × Int) : (fgC f).length = 2 := rfl
/-- What is kept of the tails of the chord y. -/
def AfV (h : Hand) (l : List Chord) (Gs : List (List Grip)) (q y : Nat) (v : V) : Prop := y = l.length ∨ ∃ k9, v = .sl (Gs.getD y []).length (rowsT (Gs.getD y []).length (keN h l Gs q y) (tcE h l Gs y)) k9

set_option maxHeartbeats 4000000 in
theorem search_fn {h : Hand} {l : List Chord} {Gs : List (List Grip)} (hn : NetOk h l Gs) {q : Nat} (hq0 : 1 ≤ q) (hq : q ≤ 64) : Fn Try.prog Gd 77 [h.val, tCs l, tGss Gs, vint q] (tFs (fgL h l Gs q)) := by
  refine Fn.of_vx0 k_theorboref06_search_b (by simp) (by rw [V.pures, pure_hand, V.pures, pure_tCs, V.pures, pure_tGss]; rfl) ?_
  have h4 := hn.len
  have hgl := hn.gl
  unfold c_theorboref06_search_b Hand.val tCs tGss
  rw [hgl]
  by_cases h0 : l.length = 0
  · have e1 : ((l.length : Int) == 0) = true := by rw [h0]; rfl
    rw [fgL, if_pos h0]
    replace h0 := Hid.mk h0
    repeat' (with_reducible first | refine x_ops ?_ | refine wk ?_ | ((first | refine gd1 ?_ ?_ | refine gd2 ?_ ?_ | refine gd3 ?_ ?_) <;> (first | exact @False.elim _ | intro hc)))
    exact finV_ret vv (.sl _ _ _)
  have e1 : ((l.length : Int) == 0) = false := by rw [beq_eq_false_iff_ne]; omega
  have w1 : IntKind.i64.wrap ((l.length : Int) - 1) = (l.length : Int) - 1 := w_in (by omega)
  have hl0 : 0 < l.length := by omega
  replace h0 := Hid.mk h0
  replace hgl := Hid.mk hgl
  repeat' (with_reducible first | refine x_ops ?_ | refine wk ?_ | ((first | refine gd1 ?_ ?_ | refine gd2 ?_ ?_ | refine gd3 ?_ ?_) <;> (first | exact @False.elim _ | intro hc)))
  refine x_genT (fun t M => t 1 = .sl l.length (l.flatMap Chord.cells) .no ∧ t 2 = .sl l.length (Gs.map tGs) .no ∧ t 3 = vint q ∧ t 10 = vint ((l.length : Int) - 1) ∧ ∃ hb, t 4 = .ptr hb 0 ∧ M.obj hb = some (.box [tIs h.low, tIs h.high, tBs h.barre, vint h.top, vint h.jump, vint h.shift, vint h.lift, vint h.bar, vint h.stretch, vint h.slide] 25) ∧ hb < M.next)
    ⟨vv, vv, vv, vv, 0, vv, by ((refine ve ?_; try exact True.intro)); simp [tIs, tBs], by show 0 < 2; decide⟩ ?_
  clear e1
  rintro t0 M0' ⟨a1, a2, a3, a10, hb, a4, ho, hlt⟩
  refine x_loopW w_theorboref06_search_b_p27 kr l.length (fun u t M => t 10 = vint ((l.length : Int) - 1 - u) ∧ AfV h l Gs q (l.length - u) (t 9) ∧ M.obj hb = some (.box [tIs h.low, tIs h.high, tBs h.barre, vint h.top, vint h.jump, vint h.shift, vint h.lift, vint h.bar, vint h.stretch, vint h.slide] 25) ∧ hb < M.next) ⟨by simpa using a10, .inl (by omega), ho, hlt⟩ ?_
  clear a10 ho hlt
  rintro u t M hu ⟨h10, haf, ho, hlt⟩
  by_cases hul : u < l.length
  case neg =>
    have hue : u = l.length := by omega
    subst hue
    have c1 : ¬ (0 : Int) ≤ (l.length : Int) - 1 - (l.length : Int) := by omega
    obtain ⟨k9, h9⟩ : ∃ k9, t 9 = .sl (Gs.getD 0 []).length (rowsT (Gs.getD 0 []).length (keN h l Gs q 0) (tcE h l Gs 0)) k9 := by
      rw [Nat.sub_self] at haf
      rcases haf with haf | haf
      · omega
      · exact haf
    have hN0 := hn.cnt 0
    have hrt := mrg_take (n := (Gs.getD 0 []).length) (c := rtC h l Gs) (fun m _ => rtC_asc hl0) q
    have C6 := rfirst_fn (n := (Gs.getD 0 []).length) (c := fun k => (rtC h l Gs k).take q) (tc := tcE h l Gs 0) (fun m _ => asc_take (rtC_asc hl0) q) (by omega) (fun m _ => by rw [List.length_take]; omega) (fun m r hm hr => by
      rw [List.length_take, rtC, List.length_map] at hr
      rw [getD_take (by omega), rtC, getD_mapW (by omega)]
      exact tcE_cost hl0 (by omega)) q (by omega)
    rw [hrt.1, hrt.2, show (fun m => ((rtC h l Gs m).take q).length) = keN h l Gs q 0 by funext m; rw [List.length_take, rtC, List.length_map]; rfl] at C6
    rw [show mrg (Gs.getD 0 []).length (rtC h l Gs) = rtT h l Gs from rfl] at C6
    have hfl : fgL h l Gs q = ((rtT h l Gs).take q).map (fgW h l Gs) := by rw [fgL, if_neg (by omega)]
    rw [tFs, hfl, List.length_map, List.length_take]
    have hel : ∀ y, y < min q (rtT h l Gs).length → ∃ m r : Nat, m < (Gs.getD 0 []).length ∧ r < (tl h l Gs 0 m).length ∧ (outT (tcE h l Gs 0) ((rtT h l Gs).take q))[y]? = some (.ept (tcE h l Gs 0 m r) 0) ∧
        (((rtT h l Gs).take q).map (fgW h l Gs)).take (y + 1) = (((rtT h l Gs).take q).map (fgW h l Gs)).take y ++ [(grps Gs 0 (pth h l Gs 0 m r), ((tl h l Gs 0 m).getD r noW).1)] := by
      intro y hy
      have hy2 : y < (rtT h l Gs).length := by omega
      obtain ⟨m, r, m1, m2, m3⟩ := mem_mrg.1 (List.getElem_mem hy2 : (rtT h l Gs)[y] ∈ rtT h l Gs)
      rw [rtC, List.length_map] at m2
      rw [rtC, getD_mapW m2] at m3
      have et : ((rtT h l Gs).take q)[y]? = some (((tl h l Gs 0 m).getD r noW).1, (m : Int), (r : Int)) := by
        rw [List.getElem?_take, if_pos (by omega), List.getElem?_eq_getElem hy2, m3]
      refine ⟨m, r, m1, m2, ?_, ?_⟩
      · rw [outT, List.getElem?_map, et]; rfl
      · rw [List.take_add_one, List.getElem?_map, et]; rfl
    have hol : (outT (tcE h l Gs 0) ((rtT h l Gs).take q)).length = min q (rtT h l Gs).length := by rw [outT_len, List.length_take]
    have hFl : (((rtT h l Gs).take q).map (fgW h l Gs)).length = min q (rtT h l Gs).length := by rw [List.length_map, List.length_take]
    generalize outT (tcE h l Gs 0) ((rtT h l Gs).take q) = OT at *
    generalize ((rtT h l Gs).take q).map (fgW h l Gs) = FG at *
    generalize hNe : min q (rtT h l Gs).length = N at *
    have hNq : N ≤ 64 := by omega
    replace hNe := Hid.mk hNe
    replace hel := Hid.mk hel
    replace hrt := Hid.mk hrt
    replace hfl := Hid.mk hfl
    replace hFl := Hid.mk hFl
    clear haf hul hu ho
    repeat' (with_reducible first | refine x_ops ?_ | refine wk ?_ | ((first | refine gd1 ?_ ?_ | refine gd2 ?_ ?_ | refine gd3 ?_ ?_) <;> (first | exact @False.elim _ | intro hc)))
    unfold c_theorboref06_search_b_p43
    repeat' (with_reducible first | refine x_ops ?_ | refine wk ?_ | (with_reducible refine xc (C6) ?_) | ((first | refine gd1 ?_ ?_ | refine gd2 ?_ ?_ | refine gd3 ?_ ?_) <;> (first | exact @False.elim _ | intro hc)))
    refine x_gen (fun t => t 21 = .sl 0 [] .exact ∧ t 159 = .sl N OT .no ∧ t 160 = vint N ∧ t 161 = vint 0) ⟨vv, vv, vv, vv⟩ ?_
    clear C6 h9 h10 a1 a2 a3 a4
    rintro t5 ⟨b21, b159, b160, b161⟩
    refine x_loopW w_theorboref06_search_b_p39 kr N (fun y t M => t 161 = vint (y : Int) ∧ ∃ tok, t 21 = .sl y ((FG.take y).flatMap fgC) tok ∧ Apb M tok y 40 2) ⟨b161, .exact, b21, .inl rfl⟩ ?_
    clear b21 b161
    rintro y t6 M6 hy ⟨h161, tok, h21, hap⟩
    by_cases hyN : y < N
    case neg =>
      have hye : y = N := by omega
      subst hye
      have c2 : ¬ (y : Int) < (y : Int) := by omega
      have htk : FG.take y = FG := List.take_of_length_le (by rw [hFl.out]; exact Nat.le_refl _)
      rw [htk] at h21
      clear htk hyN hy hap
      repeat' (with_reducible first | refine x_ops ?_ | refine wk ?_ | ((first | refine gd1 ?_ ?_ | refine gd2 ?_ ?_ | refine gd3 ?_ ?_) <;> (first | exact @False.elim _ | intro hc)))
      exact finV_ret vw (.sl _ _ _)
    have c2 : (y : Int) < (N : Int) := by omega
    have w2 := w_add1 (k := y) (by omega)
    obtain ⟨m, r, m1, m2, m3, m4⟩ := hel.out y hyN
    have hxl : ((FG.take y).flatMap fgC).length = y * 2 := by
      rw [flat_len fgC_l (FG.take y), List.length_take, hFl.out, Nat.min_eq_left (by omega)]
    replace m4 := Hid.mk m4
    replace hxl := Hid.mk hxl
    have hyN0 := Hid.mk hyN
    clear hyN hy
    repeat' (with_reducible first | refine x_ops ?_ | refine wk ?_ | ((first | refine gd1 ?_ ?_ | refine gd2 ?_ ?_ | refine gd3 ?_ ?_) <;> (first | exact @False.elim _ | intro hc)))
    refine x_sum 401734511017979516490901629702772735983629691816708419878912 ?_ (R := fun e t m' => e = .nrm ∧ ∃ tok', t 21 = .sl (y + 1) ((FG.take y).flatMap fgC ++ fgC (grps Gs 0 (pth h l Gs 0 m r), ((tl h l Gs 0 m).getD r noW).1)) tok' ∧ Apb m' tok' (y + 1) 40 2) (search_dec hn hl0 m1 m2 (by omega) ?_ hxl.out hap ?_) ?_
    · kernel_rfl
    · exact vw
    · exact vw
    rintro e t7 M7 ⟨rfl, tok', h21', hap'⟩
    clear hap h21
    repeat' (with_reducible first | refine x_ops ?_ | refine wk ?_ | ((first | refine gd1 ?_ ?_ | refine gd2 ?_ ?_ | refine gd3 ?_ ?_) <;> (first | exact @False.elim _ | intro hc)))
    refine nx hyN0.out ⟨vw, tok', ?_, hap'⟩
    rw [m4.out, List.flatMap_append]
    simp only [List.flatMap_cons, List.flatMap_nil, List.append_nil]
    exact vw
  obtain ⟨i, hi⟩ : ∃ i : Nat, i + 1 + u = l.length := ⟨l.length - 1 - u, by omega⟩
  have ei : (l.length : Int) - 1 - (u : Int) = (i : Int) := by omega
  have ei2 : l.length - u = i + 1 := by omega
  rw [ei] at h10
  rw [ei2] at haf
  have hil : i < l.length := by omega
  have c0 : (i : Int) < (l.length : Int) := by omega
  have c9 : (0 : Int) ≤ (i : Int) := by omega
  have gl := hgl.out
  have g0 := gss_at' (l := Gs) (k := i) (by omega)
  have hcnt := hn.cnt i
  have w2 : IntKind.i64.wrap ((i : Int) - 1) = (i : Int) - 1 := w_in (by omega)
  have g1 := chs_take hil
  have g2 := chs_len l
  have g4 := gs_len (Gs.getD i [])
  have c2 : i * 3 + 3 ≤ l.length * 3 := by omega
  have ex : (i : Int) - 1 = (l.length : Int) - 1 - ((u + 1 : Nat) : Int) := by omega
  have ex2 : l.length - (u + 1) = i := by omega
  replace ex := Hid.mk ex
  replace ex2 := Hid.mk ex2
  clear ei ei2
  replace hi := Hid.mk hi
  have haf0 := Hid.mk haf
  have hul0 := Hid.mk hul
  clear haf hul hu
  repeat' (with_reducible first | refine x_ops ?_ | refine wk ?_ | ((first | refine gd1 ?_ ?_ | refine gd2 ?_ ?_ | refine gd3 ?_ ?_) <;> (first | exact @False.elim _ | intro hc)))
  refine x_gen (fun t' => t' 1 = .sl l.length (l.flatMap Chord.cells) .no ∧ t' 2 = .sl l.length (Gs.map tGs) .no ∧ t' 3 = vint q ∧ t' 4 = .ptr hb 0 ∧ t' 9 = t 9 ∧ t' 10 = vint i ∧ t' 11 = .sl 0 [] .exact ∧ t' 12 = vint 0) ⟨vw, vw, vw, vw, vv, vw, vv, vv⟩ ?_
  rintro t3 ⟨b1, b2, b3, b4, b9, b10, b11, b12⟩
  refine x_loopW w_theorboref06_search_b_p21 kr (Gs.getD i []).length (fun j t' M' => t' 12 = vint (j : Int) ∧ (∃ tok, t' 11 = .sl j (rowsT j (keN h l Gs q i) (tcE h l Gs i)) tok ∧ Apb M' tok j 171 1) ∧
    M'.obj hb = some (.box [tIs h.low, tIs h.high, tBs h.barre, vint h.top, vint h.jump, vint h.shift, vint h.lift, vint h.bar, vint h.stretch, vint h.slide] 25) ∧ hb < M'.next) ⟨b12, ⟨.exact, b11, .inl rfl⟩, ho, hlt⟩ ?_
  clear b11 b12 ho hlt a1 a2 a3 a4 h10
  rintro j t4 M' hj ⟨h12, ⟨tok, h11, hap⟩, ho, hlt⟩
  by_cases hjl : j < (Gs.getD i []).length
  case neg =>
    have hje : j = (Gs.getD i []).length := by omega
    subst hje
    have c1 : ¬ ((Gs.getD i []).length : Int) < ((Gs.getD i []).length : Int) := by omega
    replace hap := Hid.mk hap
    clear hjl hj
    repeat' (with_reducible first | refine x_ops ?_ | refine wk ?_ | ((first | refine gd1 ?_ ?_ | refine gd2 ?_ ?_ | refine gd3 ?_ ?_) <;> (first | exact @False.elim _ | intro hc)))
    exact nx hul0.out ⟨by rw [← ex.out]; exact vv, by rw [ex2.out]; exact .inr ⟨tok, vv⟩, ho, hlt⟩
  have c1 : (j : Int) < ((Gs.getD i []).length : Int) := by omega
  have w3 := w_add1 (k := j) (by omega)
  have hg := hn.grip hil hjl
  have C3 := rown_fn h hn.hk (l.getD i noC) (hn.seq i hil).1 (hn.fits.at i) ((Gs.getD i []).getD j noG) hg.2 hg.1
  have g3 := gs_take hjl
  have c3 : j * 2 + 2 ≤ (Gs.getD i []).length * 2 := by omega
  have hsr := fun (hi1 : i + 1 < l.length) => @search_row h l Gs hn i j q hi1 hjl (by omega)
  have hrl : (rowsT j (keN h l Gs q i) (tcE h l Gs i)).length = j := rowsT_len
  have hsn := rowsT_snoc (k := j) (a := keN h l Gs q i) (f := tcE h l Gs i)
  have hlast : i + 1 = l.length → rowT (keN h l Gs q i j) (tcE h l Gs i j) = .sl 1 [.ept [vint ((Gs.getD i []).getD j noG).pos, tIs ((Gs.getD i []).getD j noG).fingers, vint (ownC h (l.getD i noC) ((Gs.getD i []).getD j noG)), .lit (.pointer none)] 0] .no := fun e => by
    have e1 : keN h l Gs q i j = 1 := by rw [keN, tl_last e]; simp; omega
    rw [e1, rowT]
    simp only [List.range_one, List.map_cons, List.map_nil, tcE_last e]
    rfl
  unfold Hand.val Chord.val Chord.cells Grip.val Grip.cells at C3
  replace hsr := Hid.mk hsr
  replace hlast := Hid.mk hlast
  replace hsn := Hid.mk hsn
  replace hg := Hid.mk hg
  have hap0 := Hid.mk hap
  have hjl0 := Hid.mk hjl
  clear hap hjl hj hgl hq0
  have x1 : hb < M'.next + 9 := by omega
  have x2 : ¬ hb = M'.next + 7 := by omega
  by_cases hl1 : i + 1 = l.length
  · have e5 : ((i : Int) == (l.length : Int) - 1) = true := by rw [beq_iff_eq]; omega
    have hrow := Hid.mk (hlast.out hl1)
    replace hl1 := Hid.mk hl1
    repeat' (with_reducible first | refine x_ops ?_ | refine wk ?_ | (with_reducible refine xc (C3) ?_) | ((first | refine gd1 ?_ ?_ | refine gd2 ?_ ?_ | refine gd3 ?_ ?_) <;> (first | exact @False.elim _ | intro hc)))
    refine x_appg (xs := rowsT j (keN h l Gs q i) (tcE h l Gs i)) (ys := [rowT (keN h l Gs q i j) (tcE h l Gs i j)]) vw (by rw [hrow.out]; exact vw) (hap0.out.mono (fun p hp _ => by rw [put_obj, if_neg (by omega), put_obj, if_neg (by omega)]) (by simp only [put_next]; omega)) (by rw [hrl, Nat.mul_one]) rfl (by omega) (by unfold Go.maxLen; omega) (by simp only [put_next]; omega) ?_
    intro tok2 M3 hap3 htk3 hn3 hf3
    have hn3' : M3.next = M'.next + 18 := hn3
    have old : ∀ p, p < M'.next → tok ≠ .own p → M3.obj p = M'.obj p := fun p hp hne => (hf3 p (by omega) hne).trans ((put_otherT _ _ (by omega)).trans (put_otherT _ _ (by omega)))
    have ho3 := (old hb hlt (apbT_box hap0.out ho)).trans ho
    have hlt3 : hb < M3.next := by omega
    replace hap3 := Hid.mk hap3
    replace ho3 := Hid.mk ho3
    replace hlt3 := Hid.mk hlt3
    clear hn3 hf3 htk3 old hn3' ho
    repeat' (with_reducible first | refine x_ops ?_ | refine wk ?_ | ((first | refine gd1 ?_ ?_ | refine gd2 ?_ ?_ | refine gd3 ?_ ?_) <;> (first | exact @False.elim _ | intro hc)))
    exact nx hjl0.out ⟨vv, ⟨tok2, by rw [hsn.out]; exact vv, hap3.out⟩, ho3.out, hlt3.out⟩
  have e5 : ((i : Int) == (l.length : Int) - 1) = false := by rw [beq_eq_false_iff_ne]; omega
  have hi1 : i + 1 < l.length := by omega
  obtain ⟨k9, h9⟩ : ∃ k9, t 9 = .sl (Gs.getD (i + 1) []).length (rowsT (Gs.getD (i + 1) []).length (keN h l Gs q (i + 1)) (tcE h l Gs (i + 1))) k9 := by
    rcases haf0.out with e | e
    · omega
    · exact e
  rw [h9] at b9
  replace hl1 := Hid.mk hl1
  repeat' (with_reducible first | refine x_ops ?_ | refine wk ?_ | (with_reducible refine xc (C3) ?_) | ((first | refine gd1 ?_ ?_ | refine gd2 ?_ ?_ | refine gd3 ?_ ?_) <;> (first | exact @False.elim _ | intro hc)))
  refine x_genT (fun t' M2 => (t' 1 = .sl l.length (l.flatMap Chord.cells) .no ∧ t' 2 = .sl l.length (Gs.map tGs) .no ∧ t' 3 = vint q ∧ t' 4 = .ptr hb 0 ∧ t' 9 = .sl (Gs.getD (i + 1) []).length (rowsT (Gs.getD (i + 1) []).length (keN h l Gs q (i + 1)) (tcE h l Gs (i + 1))) k9 ∧ t' 10 = vint i ∧ t' 11 = .sl j (rowsT j (keN h l Gs q i) (tcE h l Gs i)) tok ∧ t' 12 = vint j ∧ t' 14 = vint (owG h l Gs i j)) ∧
    (M2.obj hb = some (.box [tIs h.low, tIs h.high, tBs h.barre, vint h.top, vint h.jump, vint h.shift, vint h.lift, vint h.bar, vint h.stretch, vint h.slide] 25) ∧ hb < M2.next) ∧ Apb M2 tok j 171 1 ∧ ∃ gb, t' 13 = .ptr gb 0 ∧ gb < M2.next ∧ M2.obj gb = some (.box [vint (grp Gs i j).pos, tIs (grp Gs i j).fingers] 53))
    ⟨⟨vw, vw, vw, vw, vw, vw, vw, vw, by unfold owG; exact vv⟩, ⟨(put_otherT _ _ x2).trans ((put_otherT _ _ x2).trans ho), x1⟩, hap0.out.mono (fun p hp _ => (put_otherT _ _ (by omega)).trans (put_otherT _ _ (by omega))) (Nat.le_add_right _ _), M'.next + 7, vv, by show M'.next + 7 < M'.next + 9; omega, put_sameT _ _ _⟩ ?_
  clear b1 b2 b3 b4 b9 b10 h11 h12 ho hlt x1 x2 C3
  rintro t5 M2 ⟨⟨b1, b2, b3, b4, b9, b10, b11, b12, b14⟩, ⟨ho, hlt⟩, hap2, gb, b13, hgb, ogb⟩
  refine x_sum 91343852333181432387730283155301757249916995584 ?_ (R := fun e t m' => e = .nrm ∧ ∃ tok', t 11 = .sl (j + 1) (rowsT j (keN h l Gs q i) (tcE h l Gs i) ++ [rowT (keN h l Gs q i j) (tcE h l Gs i j)]) tok' ∧ Apb m' tok' (j + 1) 171 1 ∧ Ks tok M2 tok' ∧ Kt tok M2 m')
    (hsr.out hi1 b1 b2 b3 b4 ho hlt b9 b10 b11 hrl hap2 b13 ogb hgb b14) ?_
  · kernel_rfl
  rintro e t6 M3 ⟨rfl, tok2, b11', hap3, _, hkt⟩
  have ho3 := Hid.mk (hkt.box hap2 hlt ho)
  have hlt3 : hb < M3.next := Nat.lt_of_lt_of_le hlt hkt.1
  rw [← hsn.out] at b11'
  replace hap3 := Hid.mk hap3
  clear hkt b11 ho
  repeat' (with_reducible first | refine x_ops ?_ | refine wk ?_ | ((first | refine gd1 ?_ ?_ | refine gd2 ?_ ?_ | refine gd3 ?_ ?_) <;> (first | exact @False.elim _ | intro hc)))
  exact nx hjl0.out ⟨vw, ⟨tok2, vw, hap3.out⟩, ho3.out, hlt3⟩
end Go.Proofs.Ytojjdkoglhecbaa
namespace Go.Proofs.Ytojjdkoglhecbaa
open Go.RowKit

section
variable {h : Hand} {l : List Chord} {Gs : List (List Grip)}
theorem lsI_first {T : List Way} {sub : Nat → List Way} {cnt : Nat} {I : Nat → Bool → List Way → Prop} (hI : LsI T sub cnt I) {W : List Way} (h0 : I 0 false W) (hW : W ≠ []) : 0 < T.length ∧ T.getD 0 noW = bstW W := by
  obtain ⟨h1, h2⟩ := bstW_ok hW
  obtain ⟨h3, h4, _⟩ := hI.pop 0 W _ _ h0 h1 h2 (List.perm_cons_erase h1).symm
  exact ⟨h3, h4⟩
theorem rt_first (hn : NetOk h l Gs) (hl : 0 < l.length) (hh : HasF h l Gs) : 0 < (rtT h l Gs).length ∧ (rtT h l Gs).getD 0 noW = rootW h l Gs := lsI_first (rtI_ls hn hl) (bag_root hn hl) hh
theorem rt_none (hn : NetOk h l Gs) (hl : 0 < l.length) (hh : ¬ HasF h l Gs) : rtT h l Gs = [] := by
  have h0 := bag_root hn hl
  have e : rtL h l Gs (rsT h l Gs 0).length = [] := Classical.byContradiction hh
  rw [e] at h0
  have := (rtI_ls hn hl).fin 0 h0
  exact List.eq_nil_of_length_eq_zero this.symm
theorem tl_bst (hn : NetOk h l Gs) (hh : HasF h l Gs) {i : Nat} (hi : i < l.length) : (tl h l Gs i (kS h l Gs i)).getD 0 noW = bstW (wayF h l Gs i (kS h l Gs i)) ∧ (bstW (wayF h l Gs i (kS h l Gs i))).2.2 = 0 := by
  obtain ⟨h1, h2⟩ := kS_ok hn hh hi
  obtain ⟨w1, _, w3, _⟩ := wayF_ok hn hi h1 h2
  exact ⟨(lsI_first (ndI_ls hn hi h1) (ndI_0 hn hi h1) w1).2, w3⟩
theorem pth_best (hn : NetOk h l Gs) (hh : HasF h l Gs) : ∀ d i, l.length - 1 - i = d → i < l.length → grps Gs i (pth h l Gs i (kS h l Gs i) 0) = (List.range (l.length - i)).map fun y => (Gs.getD (i + y) []).getD (kS h l Gs (i + y)) noG := by
  intro d
  induction d with
  | zero =>
    intro i hd hi
    have e : i + 1 = l.length := by omega
    rw [pth_last e, show l.length - i = 1 by omega]; rfl
  | succ d ih =>
    intro i hd hi
    have hi1 : i + 1 < l.length := by omega
    obtain ⟨h1, h2⟩ := tl_bst hn hh hi
    rw [pth_s hi1, h1, h2]
    have h3 : (bstW (wayF h l Gs i (kS h l Gs i))).2.1.toNat = kS h l Gs (i + 1) := rfl
    rw [h3, grps, show ((0 : Int)).toNat = 0 from rfl, ih (i + 1) (by omega) hi1, show l.length - i = (l.length - (i + 1)) + 1 by omega, List.range_succ_eq_map, List.map_cons, List.map_map]
    refine congr (congrArg _ ?_) (List.map_congr_left fun y _ => ?_)
    · rw [grp, Nat.add_zero]
    · simp only [Function.comp_apply]
      rw [show i + y.succ = i + 1 + y by omega]
/-- What first answers, and the first fingering that is listed. -/
theorem fst_fg (hn : NetOk h l Gs) : fstR h l Gs = match fgL h l Gs 1 with | [] => ([], 0, 62) | f :: _ => (f.1, f.2, 0) := by
  by_cases h0 : l.length = 0
  · rw [fstR, if_pos h0, fgL, if_pos h0]
  rw [fstR, if_neg h0, fgL, if_neg h0]
  by_cases hh : HasF h l Gs
  · obtain ⟨h1, h2⟩ := rt_first hn (by omega) hh
    obtain ⟨q, q1, q2, q3⟩ := rootW_ok hh
    have ht : (rtT h l Gs).take 1 = [rootW h l Gs] := by
      rw [← h2]
      cases hT : rtT h l Gs with
      | nil => rw [hT] at h1; cases h1
      | cons w T => rfl
    rw [if_pos hh, ht]
    have hp := pth_best hn hh _ 0 rfl (by omega)
    have e1 : (rootW h l Gs).2.1.toNat = kS h l Gs 0 := rfl
    have e2 : (rootW h l Gs).2.2.toNat = 0 := by rw [q1]; rfl
    simp only [List.map_cons, List.map_nil, fgW, e1, e2, hp, pathU, Nat.zero_add, Nat.sub_zero]
  · rw [if_neg hh, rt_none hn (by omega) hh]; rfl
theorem grps_ok (hn : NetOk h l Gs) : ∀ d i, l.length - 1 - i = d → i < l.length → ∀ k r, k < (Gs.getD i []).length → r < (tl h l Gs i k).length →
    (grps Gs i (pth h l Gs i k r)).length = l.length - i ∧ ∀ g ∈ grps Gs i (pth h l Gs i k r), ∃ j m, j < l.length ∧ m < (Gs.getD j []).length ∧ g = grp Gs j m := by
  intro d
  induction d with
  | zero =>
    intro i hd hi k r hk hr
    have e : i + 1 = l.length := by omega
    rw [pth_last e]
    refine ⟨by rw [grps, grps, List.length_singleton]; omega, fun g hg => ⟨i, k, hi, hk, ?_⟩⟩
    rw [grps, grps, List.mem_singleton] at hg; exact hg
  | succ d ih =>
    intro i hd hi k r hk hr
    have hi1 : i + 1 < l.length := by omega
    obtain ⟨m, s, h5, h6, h7⟩ := tl_at hn hi1 hk hr
    have h8 := ih (i + 1) (by omega) hi1 m s h5 h6
    rw [pth_s hi1, h7]
    simp only [Int.toNat_natCast]
    rw [grps]
    refine ⟨by rw [List.length_cons, h8.1]; omega, fun g hg => ?_⟩
    rcases List.mem_cons.1 hg with rfl | hg
    · exact ⟨i, k, hi, hk, rfl⟩
    · exact h8.2 g hg
theorem fg_fits (hn : NetOk h l Gs) {q : Nat} {f : List Grip × Int} (hf : f ∈ fgL h l Gs q) : FitsG f.1 := by
  have h4 := hn.len
  by_cases h0 : l.length = 0
  · rw [fgL, if_pos h0, List.mem_singleton] at hf
    subst hf
    exact ⟨by simp, fun g hg => by cases hg⟩
  rw [fgL, if_neg h0, List.mem_map] at hf
  obtain ⟨w, hw, rfl⟩ := hf
  obtain ⟨m, r, m1, m2, rfl⟩ := mem_mrg.1 (List.mem_of_mem_take hw)
  rw [rtC, List.length_map] at m2
  have h1 := grps_ok hn _ 0 rfl (by omega) m r m1 m2
  rw [fgW]
  simp only [Int.toNat_natCast]
  refine ⟨by rw [h1.1]; omega, fun g hg => ?_⟩
  obtain ⟨j, k, hj, hk, rfl⟩ := h1.2 g hg
  have h2 := (hn.grip hj hk).2
  have h3 := (hn.fits.at j).1
  rw [grp, h2]; omega
end
end Go.Proofs.Ytojjdkoglhecbaa
namespace Go.Proofs.Ytojjdkoglhecbaa
open Go.RowKit

section
variable {n : Int}
end
end Go.Proofs.Ytojjdkoglhecbaa
namespace Go.Proofs.Ytojjdkoglhecbaa
open Go.RowKit
set_option linter.unusedSimpArgs false
set_option linter.unusedVariables false

end Go.Proofs.Ytojjdkoglhecbaa
namespace Go.Proofs.Ytojjdkoglhecbaa
open Go.RowKit
set_option linter.unusedSimpArgs false
set_option linter.unusedVariables false

/-- Two rows of different things are two rows. -/
theorem Apb.ne {m : Mm} {k k' : Tok} {n n' : Nat} {e e' : TypeId} {z z' : Nat} (h : Apb m k n e z) (h' : Apb m k' n' e' z') (he : e ≠ e') : ∀ q, k = .own q → k' ≠ .own q := by
  rintro q rfl rfl
  rcases h with h | ⟨t, h1, _, h2⟩
  · cases h
  · rcases h' with h | ⟨t', h3, _, h4⟩
    · cases h
    · injection h1 with h1; injection h3 with h3
      subst h1; subst h3
      rw [h2] at h4
      injection h4 with h4
      injection h4 with _ h4
      exact he h4
/-- What is left of a row by another one's growth. -/
theorem Apb.keep {m m' : Mm} {k : Tok} {n : Nat} {e : TypeId} {z : Nat} (h : Apb m k n e z) (hn : m.next ≤ m'.next) (ho : ∀ q, q < m.next → k = .own q → m'.obj q = m.obj q) : Apb m' k n e z := by
  rcases h with h | ⟨t, h1, h2, h3⟩
  · exact .inl h
  · exact .inr ⟨t, h1, Nat.lt_of_lt_of_le h2 hn, (ho t h2 h1).trans h3⟩
theorem Apb.box {m : Mm} {k : Tok} {n : Nat} {e : TypeId} {z : Nat} (h : Apb m k n e z) {q : Nat} {cs : List V} {t : TypeId} (hq : m.obj q = some (.box cs t)) : k ≠ .own q := by
  rintro rfl
  rcases h with h | ⟨t, h1, _, h3⟩
  · cases h
  · injection h1 with h1; subst h1; rw [hq] at h3; cases h3

end Go.Proofs.Ytojjdkoglhecbaa
namespace Go.Proofs.Ytojjdkoglhecbaa
open Go.RowKit

section
variable {P : Program} {G : Ground}
end
end Go.Proofs.Ytojjdkoglhecbaa
namespace Go.Proofs.Ytojjdkoglhecbaa
open Go.ChangeShapes Go.WideShapes Go.ChangeAt Go.RowKit
set_option maxRecDepth 100000

end Go.Proofs.Ytojjdkoglhecbaa
namespace Go.Proofs.Ytojjdkoglhecbaa
open Go.RowKit

/-- The pairs of grips of the first chords. -/
noncomputable def hvU (h : Hand) (l : List Chord) : Nat → Int
  | 0 => 0
  | k + 1 => hvU h l k + (if k = 0 then 0 else ((grpA h (l.getD (k - 1) noC)).length : Int)) * ((grpA h (l.getD k noC)).length : Int)
/-- Does a search take too many steps? -/
noncomputable def hvB (h : Hand) (l : List Chord) : Bool :=
  if bothE h l = 0 then (if 24 < l.length then true else if wvE h l = 0 then decide (6000 < hvU h l l.length) else false) else false
theorem hvU_bound {h : Hand} {l : List Chord} : ∀ {k : Nat}, (∀ i, i < k → (grpA h (l.getD i noC)).length ≤ 200) → 0 ≤ hvU h l k ∧ hvU h l k ≤ 40000 * k
  | 0, _ => by simp [hvU]
  | k + 1, hk => by
    have h1 := hvU_bound (h := h) (l := l) (k := k) (fun i hi => hk i (by omega))
    have h2 := hk k (by omega)
    rw [hvU]
    by_cases k0 : k = 0
    · rw [if_pos k0, Int.zero_mul]; omega
    · rw [if_neg k0]
      have h3 := hk (k - 1) (by omega)
      have h5 : (grpA h (l.getD (k - 1) noC)).length * (grpA h (l.getD k noC)).length ≤ 200 * 200 := Nat.mul_le_mul h3 h2
      have h6 : ((grpA h (l.getD (k - 1) noC)).length : Int) * ((grpA h (l.getD k noC)).length : Int) = (((grpA h (l.getD (k - 1) noC)).length * (grpA h (l.getD k noC)).length : Nat) : Int) := by push_cast; rfl
      omega

set_option maxHeartbeats 2000000 in
theorem heavy_fn (h : Hand) (l : List Chord) (hl : Fits l) : Fn Try.prog Gd 29 [h.val, tCs l] (vbool (hvB h l)) := by
  refine Fn.of_vx0 k_theorbolaw06_Heavy (by simp) (by rw [V.pures, pure_hand, V.pures, pure_tCs]; rfl) ?_
  have C1 := rcheck_fn h
  have C2 := rcheckchords_fn l hl
  unfold hvB bothE
  unfold tCs at C2
  unfold Hand.val at C1
  unfold c_theorbolaw06_Heavy Hand.val tCs
  by_cases he : chkE h = 0
  case neg =>
    have e1 : (chkE h == 0) = false := by rw [beq_eq_false_iff_ne]; exact he
    rw [chk_bad he] at C1
    rw [if_neg he, if_neg (by decide)]
    clear he
    repeat' (with_reducible first | refine x_ops ?_ | refine wk ?_ | (with_reducible refine xc (C1) ?_) | (with_reducible refine xc (C2) ?_) | ((first | refine gd1 ?_ ?_ | refine gd2 ?_ ?_ | refine gd3 ?_ ?_) <;> (first | exact @False.elim _ | intro hc)))
    all_goals exact finV_lit vv rfl
  rw [he] at C1
  rw [if_pos he]
  by_cases hs : seqE l = 0
  case neg =>
    have e1 : (seqE l == 0) = false := by rw [beq_eq_false_iff_ne]; exact hs
    rw [if_neg hs]
    clear he hs
    repeat' (with_reducible first | refine x_ops ?_ | refine wk ?_ | (with_reducible refine xc (C1) ?_) | (with_reducible refine xc (C2) ?_) | ((first | refine gd1 ?_ ?_ | refine gd2 ?_ ?_ | refine gd3 ?_ ?_) <;> (first | exact @False.elim _ | intro hc)))
    all_goals exact finV_lit vv rfl
  rw [if_pos hs]
  have hb : bothE h l = 0 := by rw [bothE, if_pos he]; exact hs
  obtain ⟨hk, h4, hseq⟩ := both_ok hb
  rw [hs] at C2
  clear hs he
  by_cases h24 : 24 < l.length
  · have c1 : (24 : Int) < (l.length : Int) := by omega
    rw [if_pos h24]
    clear hb h24
    repeat' (with_reducible first | refine x_ops ?_ | refine wk ?_ | (with_reducible refine xc (C1) ?_) | (with_reducible refine xc (C2) ?_) | ((first | refine gd1 ?_ ?_ | refine gd2 ?_ ?_ | refine gd3 ?_ ?_) <;> (first | exact @False.elim _ | intro hc)))
    all_goals exact finV_lit vv rfl
  have c1 : ¬ (24 : Int) < (l.length : Int) := by omega
  rw [if_neg h24]
  repeat' (with_reducible first | refine x_ops ?_ | refine wk ?_ | (with_reducible refine xc (C1) ?_) | (with_reducible refine xc (C2) ?_) | ((first | refine gd1 ?_ ?_ | refine gd2 ?_ ?_ | refine gd3 ?_ ?_) <;> (first | exact @False.elim _ | intro hc)))
  refine x_gen (fun t => t 1 = .sl l.length (l.flatMap Chord.cells) .no ∧ t 2 = .ptr 0 0 ∧ t 5 = vint 0 ∧ t 6 = vint 0 ∧ t 7 = vint 0) ⟨vv, vv, vv, vv, vv⟩ ?_
  clear C1 C2 c1
  rintro t0 ⟨a1, a2, a5, a6, a7⟩
  refine x_loopF w_theorbolaw06_Heavy_p9 kr l.length (fun k t => t 7 = vint (k : Int) ∧ t 5 = vint (hvU h l k) ∧ t 6 = vint (if k = 0 then 0 else ((grpA h (l.getD (k - 1) noC)).length : Int)) ∧ ∀ i, i < k → (grpA h (l.getD i noC)).length ≤ 200) ?_ ?_
  · exact ⟨a7, by rw [hvU]; exact a5, by rw [if_pos rfl]; exact a6, fun i hi => by omega⟩
  rintro k t hkl ⟨h7, h5, h6, hcnt⟩
  by_cases hlt : k < l.length
  case neg =>
    have hke : k = l.length := by omega
    subst hke
    have c1 : ¬ (l.length : Int) < (l.length : Int) := by omega
    rw [if_pos (show wvE h l = 0 by rw [wvE, if_pos hb, if_pos hcnt])]
    clear hcnt hb hlt hkl
    repeat' (with_reducible first | refine x_ops ?_ | refine wk ?_ | ((first | refine gd1 ?_ ?_ | refine gd2 ?_ ?_ | refine gd3 ?_ ?_) <;> (first | exact @False.elim _ | intro hc)))
    exact finV_lit vv rfl
  have C2 := rGrips_fn h (l.getD k noC) (hl.at k)
  rw [grR_net hk (hseq k hlt).1] at C2
  have g1 := chs_take hlt
  have g2 := chs_len l
  have c1 : k * 3 + 3 ≤ l.length * 3 := by omega
  have c2 : (k : Int) < (l.length : Int) := by omega
  have w1 := w_add1 (k := k) (by omega)
  unfold Hand.val Chord.val Chord.cells at C2
  by_cases hc2 : (grpA h (l.getD k noC)).length ≤ 200
  case neg =>
    rw [if_neg (show ¬ wvE h l = 0 by rw [wvE, if_pos hb, if_neg (fun hh => hc2 (hh k hlt))]; decide)]
    rw [if_neg hc2] at C2
    unfold tGs at C2
    clear hc2 hcnt hb
    dsimp only at C2
    repeat' (with_reducible first | refine x_ops ?_ | refine wk ?_ | (with_reducible refine xc (C2) ?_) | ((first | refine gd1 ?_ ?_ | refine gd2 ?_ ?_ | refine gd3 ?_ ?_) <;> (first | exact @False.elim _ | intro hc)))
    exact finV_lit vv rfl
  have hcn : ∀ i, i < k + 1 → (grpA h (l.getD i noC)).length ≤ 200 := fun i hi => by
    by_cases hik : i = k
    · subst hik; exact hc2
    · exact hcnt i (by omega)
  rw [if_pos hc2] at C2
  have hb1 := hvU_bound (h := h) (l := l) (k := k) hcnt
  have hb2 := hvU_bound (h := h) (l := l) (k := k + 1) hcn
  have hU : hvU h l (k + 1) = hvU h l k + (if k = 0 then 0 else ((grpA h (l.getD (k - 1) noC)).length : Int)) * ((grpA h (l.getD k noC)).length : Int) := rfl
  have hla : 0 ≤ (if k = 0 then 0 else ((grpA h (l.getD (k - 1) noC)).length : Int)) := by split <;> omega
  have hlast : (if k + 1 = 0 then 0 else ((grpA h (l.getD (k + 1 - 1) noC)).length : Int)) = ((grpA h (l.getD k noC)).length : Int) := by rw [if_neg (by omega), Nat.add_sub_cancel]
  generalize hun : hvU h l (k + 1) = un at *
  replace hun := Hid.mk hun
  generalize hvU h l k = uk at *
  generalize (if k = 0 then 0 else ((grpA h (l.getD (k - 1) noC)).length : Int)) = la at *
  have hmul : 0 ≤ la * ((grpA h (l.getD k noC)).length : Int) := Int.mul_nonneg hla (by omega)
  have w2 : IntKind.i64.wrap (la * ((grpA h (l.getD k noC)).length : Int)) = la * ((grpA h (l.getD k noC)).length : Int) := w_in (by omega)
  have w3 : IntKind.i64.wrap (uk + la * ((grpA h (l.getD k noC)).length : Int)) = un := by rw [w_in (by omega)]; exact hU.symm
  unfold tGs at C2
  replace hlast := Hid.mk hlast
  replace hcn := Hid.mk hcn
  replace hb := Hid.mk hb
  clear hU hb1 hb2 hla hmul hcnt hc2
  generalize grpA h (l.getD k noC) = G at *
  dsimp only at C2
  repeat' (with_reducible first | refine x_ops ?_ | refine wk ?_ | (with_reducible refine xc (C2) ?_) | ((first | refine gd1 ?_ ?_ | refine gd2 ?_ ?_ | refine gd3 ?_ ?_) <;> (first | exact @False.elim _ | intro hc)))
  exact nf hlt ⟨vv, by rw [hun.out]; exact vv, by rw [hlast.out]; exact vv, hcn.out⟩ rfl
end Go.Proofs.Ytojjdkoglhecbaa
namespace Go.Proofs.Ytojjdkoglhecbaa
open Go.RowKit

end Go.Proofs.Ytojjdkoglhecbaa
namespace Go.Proofs.Ytojjdkoglhecbaa
open Go.RowKit

set_option maxHeartbeats 4000000 in
theorem firstG_fn {h : Hand} {l : List Chord} {Gs : List (List Grip)} (hn : NetOk h l Gs) : Fn Try.prog Gd 70 [netE h l Gs] (fstV (fstR h l Gs)) := by
  refine Fn.of_vx0 k_hand_first (by simp) (by rw [V.pures, V.pures]; rfl) ?_
  have LS := fun m => list_sfn hn m
  have LE := fun m => lsPost_ex h l Gs m
  unfold c_hand_first
  by_cases h0 : l.length = 0
  · have FG := fun (M : Mm) (tb rt : Nat) (nv : V) o1 l1 => @fing0_sfn h l Gs h0 M tb rt nv o1 l1 0
    have FE : ∀ (M : Mm), ∃ (res : V) (M' : Mm), res = V.tup [.agg [.sl 0 [] .exact, vint 0], vbool (((0 : Nat) : Int) == 0)] ∧ M.next ≤ M'.next ∧ ∀ q, q < M.next → M'.obj q = M.obj q := fun M => ⟨_, M, rfl, Nat.le_refl _, fun _ _ => rfl⟩
    rw [fstR, if_pos h0]
    clear hn h0
    repeat' (with_reducible first | refine x_ops ?_ | refine wk ?_ | ((first | refine gd1 ?_ ?_ | refine gd2 ?_ ?_ | refine gd3 ?_ ?_) <;> (first | exact @False.elim _ | intro hc)))
    refine x_scallR [netE h l Gs] vw (LS _) (LE _) ?_
    intro r1 M1 hP1
    have n1 : 11 ≤ M1.next := hP1.1
    have k0 : M1.obj 0 = some (.box [.sl 0 [] .exact, vint 0] 40) := (hP1.2.1 0 (Nat.zero_lt_succ 10)).trans (by (dsimp only; exact put_same _ _ _))
    obtain ⟨_, _, tb, nq, rt, rs, rfl, ⟨_, l1⟩, ⟨nv, o1⟩, _⟩ := hP1
    have FG := FG _ _ _ _ o1 l1
    have FE := FE M1
    clear LS LE o1
    repeat' (with_reducible first | refine x_ops ?_ | refine wk ?_ | ((first | refine gd1 ?_ ?_ | refine gd2 ?_ ?_ | refine gd3 ?_ ?_) <;> (first | exact @False.elim _ | intro hc)))
    refine x_scallR [.ptr tb 0, vint 0] vw FG FE ?_
    rintro r2 M2 ⟨rfl, hn2, hf2⟩
    have n2 : 11 ≤ M2.next := Nat.le_trans n1 hn2
    have k2 := (hf2 0 (by omega)).trans k0
    have e0 : ((((0 : Nat) : Int)) == 0) = true := rfl
    rw [e0]
    clear FG FE k0 hf2 e0
    unfold fstV tGs
    repeat' (with_reducible first | refine x_ops ?_ | refine wk ?_ | ((first | refine gd1 ?_ ?_ | refine gd2 ?_ ?_ | refine gd3 ?_ ?_) <;> (first | exact @False.elim _ | intro hc)))
    exact finV_ret vv (.tup (.cons (.agg (.cons (.sl _ _ _) (.cons (.lit _) .nil))) (.cons (.lit _) .nil)))
  have hf := fst_fg hn
  rw [fgL, if_neg h0] at hf
  have FG := fun tb nq rt rs own tok v M (hS : LiS h l Gs tb nq rt rs own tok v M) => fingG_sfn hn (by omega) hS (r := 0) (Nat.zero_le _)
  have FE := fun tb nq rt rs own tok v M (hS : LiS h l Gs tb nq rt rs own tok v M) => fgPostG_ex 0 hS
  have LN := fun m M r (hP : LsPost h l Gs m r M) => li_new hn (by omega) hP
  replace hf := Hid.mk hf
  replace hn := Hid.mk hn
  replace FG := Hid.mk FG
  replace FE := Hid.mk FE
  replace LN := Hid.mk LN
  replace h0 := Hid.mk h0
  repeat' (with_reducible first | refine x_ops ?_ | refine wk ?_ | ((first | refine gd1 ?_ ?_ | refine gd2 ?_ ?_ | refine gd3 ?_ ?_) <;> (first | exact @False.elim _ | intro hc)))
  refine x_scallR [netE h l Gs] vw (LS _) (LE _) ?_
  intro r1 M1 hP1
  have n1 : 11 ≤ M1.next := hP1.1
  have k0 : M1.obj 0 = some (.box [.sl 0 [] .exact, vint 0] 40) := (hP1.2.1 0 (Nat.zero_lt_succ 10)).trans (by (dsimp only; exact put_same _ _ _))
  obtain ⟨tb, nq, rt, rs, v, rfl, hS⟩ := LN.out _ _ _ hP1
  have F1 := FG.out _ _ _ _ _ _ _ _ hS
  have F2 := FE.out _ _ _ _ _ _ _ _ hS
  have hS0 := Hid.mk hS
  clear LS LE LN FG FE hP1 hS
  repeat' (with_reducible first | refine x_ops ?_ | refine wk ?_ | ((first | refine gd1 ?_ ?_ | refine gd2 ?_ ?_ | refine gd3 ?_ ?_) <;> (first | exact @False.elim _ | intro hc)))
  refine x_scallR [.ptr tb 0, vint 0] vw F1 F2 ?_
  rintro r2 M2 ⟨⟨own2, tok2, v2, hS2, hT2⟩, hres⟩
  have n2 : 11 ≤ M2.next := Nat.le_trans n1 hT2.nx
  have hnr := hS0.out.nb k0 (by decide) (by decide) (by decide)
  have k2 := (hT2.fr 0 (by omega) hnr.1 hnr.2.1 hnr.2.2.1 (fun y k e => by cases e) hnr.2.2.2).trans k0
  clear F1 F2 k0 hS2 hT2 hnr
  rcases hres with ⟨hkr, t9, rfl⟩ | ⟨hkr, rfl⟩
  · have hg : fstR h l Gs = ((fgW h l Gs ((rtT h l Gs).getD 0 noW)).1, (fgW h l Gs ((rtT h l Gs).getD 0 noW)).2, 0) := by
      rw [hf.out]
      cases hT : rtT h l Gs with
      | nil => rw [hT] at hkr; cases hkr
      | cons w T => rfl
    rw [hg]
    clear hkr
    generalize fgW h l Gs ((rtT h l Gs).getD 0 noW) = f at *
    obtain ⟨G, c⟩ := f
    unfold fstV tGs
    dsimp only
    repeat' (with_reducible first | refine x_ops ?_ | refine wk ?_ | ((first | refine gd1 ?_ ?_ | refine gd2 ?_ ?_ | refine gd3 ?_ ?_) <;> (first | exact @False.elim _ | intro hc)))
    exact finV_ret vv (.tup (.cons (.agg (.cons (.sl _ _ _) (.cons (.lit _) .nil))) (.cons (.lit _) .nil)))
  · have hg : fstR h l Gs = ([], 0, 62) := by
      rw [hf.out]
      cases hT : rtT h l Gs with
      | nil => rfl
      | cons w T => rw [hT] at hkr; exact absurd (Nat.zero_lt_succ _) hkr
    rw [hg]
    clear hkr
    unfold fstV tGs
    repeat' (with_reducible first | refine x_ops ?_ | refine wk ?_ | ((first | refine gd1 ?_ ?_ | refine gd2 ?_ ?_ | refine gd3 ?_ ?_) <;> (first | exact @False.elim _ | intro hc)))
    exact finV_ret vv (.tup (.cons (.agg (.cons (.sl _ _ _) (.cons (.lit _) .nil))) (.cons (.lit _) .nil)))
theorem BestG_fn (h : Hand) (l : List Chord) (hl : Fits l) : Fn Try.prog Gd 31 [h.val, tCs l] (fstV (bstR h l)) := by
  refine Fn.of_vx0 k_hand_Best (by simp) (by rw [V.pures, pure_hand, V.pures, pure_tCs]; rfl) ?_
  have C1 := weave_fn h l hl
  unfold wvR at C1
  unfold bstR c_hand_Best
  by_cases hw : wvE h l = 0
  · rw [if_pos hw] at C1 ⊢
    have C2 := firstG_fn (wv_net hl hw)
    generalize fstR h l (tabG h l) = r at *
    obtain ⟨G, c, e⟩ := r
    unfold fstV at *
    unfold netE netC at C1 C2
    unfold tGs at C2 ⊢
    unfold tCs at C2
    unfold Hand.val tCs at C1 ⊢
    clear hw
    dsimp only at *
    repeat' (with_reducible first | refine x_ops ?_ | refine wk ?_ | (with_reducible refine xc (C1) ?_) | (with_reducible refine xc (C2) ?_) | ((first | refine gd1 ?_ ?_ | refine gd2 ?_ ?_ | refine gd3 ?_ ?_) <;> (first | exact @False.elim _ | intro hc)))
    exact finV_ret vv (.tup (.cons (.agg (.cons (.sl _ _ _) (.cons (.lit _) .nil))) (.cons (.lit _) .nil)))
  · rw [if_neg hw] at C1 ⊢
    have e1 : (wvE h l == 0) = false := by rw [beq_eq_false_iff_ne]; exact hw
    clear hw
    unfold fstV tGs
    unfold Hand.val tCs at C1 ⊢
    dsimp only
    repeat' (with_reducible first | refine x_ops ?_ | refine wk ?_ | (with_reducible refine xc (C1) ?_) | ((first | refine gd1 ?_ ?_ | refine gd2 ?_ ?_ | refine gd3 ?_ ?_) <;> (first | exact @False.elim _ | intro hc)))
    exact finV_ret vv (.tup (.cons (.agg (.cons (.sl _ _ _) (.cons (.lit _) .nil))) (.cons (.lit _) .nil)))

noncomputable def lsV (r : List (List Grip × Int) × Int) : V := .tup [tFs r.1, vint r.2]
theorem lsV_nil (e : Int) : lsV ([], e) = .tup [.sl 0 [] .no, vint e] := rfl
set_option maxHeartbeats 4000000 in
theorem List_fn (h : Hand) (l : List Chord) (hl : Fits l) (most : Int) : Fn Try.prog Gd 37 [h.val, tCs l, vint most] (lsV (lsR h l most)) := by
  refine Fn.of_vx0 k_hand_List (by simp) (by rw [V.pures, pure_hand, V.pures, pure_tCs]; rfl) ?_
  have C1 := weave_fn h l hl
  have C2 := within_fn most 1 64
  unfold wvR at C1
  rw [lsR]
  unfold c_hand_List
  by_cases hw : wvE h l = 0
  case neg =>
    rw [if_neg hw] at C1 ⊢
    have e1 : (wvE h l == 0) = false := by rw [beq_eq_false_iff_ne]; exact hw
    clear hw
    rw [lsV_nil]
    unfold Hand.val tCs at C1 ⊢
    repeat' (with_reducible first | refine x_ops ?_ | refine wk ?_ | (with_reducible refine xc (C1) ?_) | ((first | refine gd1 ?_ ?_ | refine gd2 ?_ ?_ | refine gd3 ?_ ?_) <;> (first | exact @False.elim _ | intro hc)))
    exact finV_ret vv (.tup (.cons (.sl _ _ _) (.cons (.lit _) .nil)))
  rw [if_pos hw] at C1 ⊢
  have hn := wv_net hl hw
  by_cases hm : 1 ≤ most ∧ most ≤ 64
  case neg =>
    rw [if_neg hm, lsV_nil]
    have e2 : (decide (1 ≤ most) && decide (most ≤ 64)) = false := by
      rw [Bool.and_eq_false_iff, decide_eq_false_iff_not, decide_eq_false_iff_not]; omega
    rw [e2] at C2
    unfold netE netC Hand.val tCs at C1
    unfold Hand.val tCs
    clear hw hn hm
    repeat' (with_reducible first | refine x_ops ?_ | refine wk ?_ | (with_reducible refine xc (C1) ?_) | (with_reducible refine xc (C2) ?_) | ((first | refine gd1 ?_ ?_ | refine gd2 ?_ ?_ | refine gd3 ?_ ?_) <;> (first | exact @False.elim _ | intro hc)))
    exact finV_ret vv (.tup (.cons (.sl _ _ _) (.cons (.lit _) .nil)))
  rw [if_pos hm]
  obtain ⟨q, rfl⟩ : ∃ q : Nat, most = (q : Int) := ⟨most.toNat, by omega⟩
  have hq : 1 ≤ q ∧ q ≤ 64 := by omega
  have e2 : (decide (1 ≤ (q : Int)) && decide ((q : Int) ≤ 64)) = true := by
    rw [Bool.and_eq_true, decide_eq_true_eq, decide_eq_true_eq]; omega
  rw [e2] at C2
  rw [Int.toNat_natCast]
  have LS := fun m => list_sfn hn m
  have LE := fun m => lsPost_ex h l (tabG h l) m
  have hln := fun m M r (hP : LsPost h l (tabG h l) m r M) (h0 : 0 < l.length) => li_new hn h0 hP
  have hL0 := fun (h0 : l.length = 0) => @List_loop0 h l (tabG h l) h0 q hq
  have hL1 := fun (h0 : 0 < l.length) => @List_loop h l (tabG h l) hn h0 q hq
  have hF0 : l.length = 0 → fgL h l (tabG h l) q = [([], 0)] := fun h0 => by rw [fgL, if_pos h0]
  have hlV : lsV (if fgL h l (tabG h l) q = [] then ([], 62) else (fgL h l (tabG h l) q, 0)) = .tup [tFs (fgL h l (tabG h l) q), vint (if fgL h l (tabG h l) q = [] then 62 else 0)] := by
    by_cases hF : fgL h l (tabG h l) q = []
    · rw [if_pos hF, if_pos hF, hF]; rfl
    · rw [if_neg hF, if_neg hF]; rfl
  rw [hlV]
  generalize hG : tabG h l = Gs at *
  replace hn := Hid.mk hn
  replace hln := Hid.mk hln
  replace hL0 := Hid.mk hL0
  replace hL1 := Hid.mk hL1
  replace hF0 := Hid.mk hF0
  unfold Hand.val tCs at C1 ⊢
  clear hw hm hlV hG
  have hpr : (netE h l Gs).pure = true := rfl
  generalize hNE : netE h l Gs = NE at *
  replace hNE := Hid.mk hNE
  repeat' (with_reducible first | refine x_ops ?_ | refine wk ?_ | (with_reducible refine xc (C1) ?_) | (with_reducible refine xc (C2) ?_) | ((first | refine gd1 ?_ ?_ | refine gd2 ?_ ?_ | refine gd3 ?_ ?_) <;> (first | exact @False.elim _ | intro hc)))
  refine x_scallR [NE] vw (LS _) (LE _) ?_
  intro r1 M1 hP1
  replace hln := Hid.mk (hln.out _ _ _ hP1)
  by_cases h0 : l.length = 0
  · have hf := hF0.out h0
    rw [hf, if_neg (by simp)]
    obtain ⟨_, _, tb, nq, rt, rs, rfl, ⟨_, l1⟩, ⟨nv, o1⟩, _⟩ := hP1
    have o10 := Hid.mk o1
    have l10 := Hid.mk l1
    clear C1 C2 LS LE hln
    repeat' (with_reducible first | refine x_ops ?_ | refine wk ?_ | ((first | refine gd1 ?_ ?_ | refine gd2 ?_ ?_ | refine gd3 ?_ ?_) <;> (first | exact @False.elim _ | intro hc)))
    rw [hNE.out] at o10
    exact hL0.out h0 o10.out l10.out vw vw vw vw
  · obtain ⟨tb, nq, rt, rs, v, rfl, hS⟩ := hln.out (by omega)
    have hS0 := Hid.mk hS
    have h00 := Hid.mk h0
    clear C1 C2 LS LE hln hP1 hS h0
    repeat' (with_reducible first | refine x_ops ?_ | refine wk ?_ | ((first | refine gd1 ?_ ?_ | refine gd2 ?_ ?_ | refine gd3 ?_ ?_) <;> (first | exact @False.elim _ | intro hc)))
    exact hL1.out (by have := h00.out; omega) hS0.out vw vw vw vw

set_option maxHeartbeats 4000000 in
theorem rList_fn (h : Hand) (l : List Chord) (hl : Fits l) (most : Int) : Fn Try.prog Gd 38 [h.val, tCs l, vint most] (lsV (lsR h l most)) := by
  refine Fn.of_vx0 k_theorboref06_List (by simp) (by rw [V.pures, pure_hand, V.pures, pure_tCs]; rfl) ?_
  have C1 := rTable_fn h l hl
  rw [tbR] at C1
  rw [lsR]
  unfold c_theorboref06_List
  by_cases hw : wvE h l = 0
  case neg =>
    rw [if_neg hw] at C1 ⊢
    have e1 : (wvE h l == 0) = false := by rw [beq_eq_false_iff_ne]; exact hw
    clear hw
    rw [lsV_nil]
    unfold Hand.val tCs tGss at C1
    unfold Hand.val tCs
    dsimp only at C1
    repeat' (with_reducible first | refine x_ops ?_ | refine wk ?_ | (with_reducible refine xc (C1) ?_) | ((first | refine gd1 ?_ ?_ | refine gd2 ?_ ?_ | refine gd3 ?_ ?_) <;> (first | exact @False.elim _ | intro hc)))
    exact finV_ret vv (.tup (.cons (.sl _ _ _) (.cons (.lit _) .nil)))
  rw [if_pos hw] at C1 ⊢
  have hn := wv_net hl hw
  have hgl := hn.gl
  dsimp only at C1
  by_cases hm1 : most < 1
  · rw [if_neg (by omega), lsV_nil]
    unfold Hand.val tCs tGss at C1
    unfold Hand.val tCs
    clear hw hn hgl
    repeat' (with_reducible first | refine x_ops ?_ | simp only [go_sem, Nat.reduceAdd, Nat.reduceEqDiff, Nat.reduceLT, Nat.reduceLeDiff, Nat.reduceMul, Nat.reduceSub, Nat.reducePow, Nat.reduceDiv, Nat.reduceMod, Nat.reduceBEq, Int.reduceBEq, Int.reduceLT, reduceIte, tIs, tBs, tPs, vund, *] | (with_reducible refine xc (C1) ?_) | ((first | refine gd1 ?_ ?_ | refine gd2 ?_ ?_ | refine gd3 ?_ ?_) <;> (first | exact @False.elim _ | intro hc)))
    exact finV_ret vv (.tup (.cons (.sl _ _ _) (.cons (.lit _) .nil)))
  by_cases hm2 : 64 < most
  · rw [if_neg (by omega), lsV_nil]
    unfold Hand.val tCs tGss at C1
    unfold Hand.val tCs
    clear hw hn hgl
    repeat' (with_reducible first | refine x_ops ?_ | simp only [go_sem, Nat.reduceAdd, Nat.reduceEqDiff, Nat.reduceLT, Nat.reduceLeDiff, Nat.reduceMul, Nat.reduceSub, Nat.reducePow, Nat.reduceDiv, Nat.reduceMod, Nat.reduceBEq, Int.reduceBEq, Int.reduceLT, reduceIte, tIs, tBs, tPs, vund, *] | (with_reducible refine xc (C1) ?_) | ((first | refine gd1 ?_ ?_ | refine gd2 ?_ ?_ | refine gd3 ?_ ?_) <;> (first | exact @False.elim _ | intro hc)))
    exact finV_ret vv (.tup (.cons (.sl _ _ _) (.cons (.lit _) .nil)))
  obtain ⟨q, rfl⟩ : ∃ q : Nat, most = (q : Int) := ⟨most.toNat, by omega⟩
  rw [if_pos (by omega), Int.toNat_natCast]
  have C2 := search_fn hn (q := q) (by omega) (by omega)
  generalize fgL h l (tabG h l) q = F at *
  unfold Hand.val tCs tGss at C1 C2
  unfold tFs at C2
  unfold Hand.val tCs
  clear hw hn hgl
  cases F with
  | nil =>
    rw [if_pos rfl, lsV_nil]
    rw [List.flatMap_nil, List.length_nil] at C2
    repeat' (with_reducible first | refine x_ops ?_ | simp only [go_sem, Nat.reduceAdd, Nat.reduceEqDiff, Nat.reduceLT, Nat.reduceLeDiff, Nat.reduceMul, Nat.reduceSub, Nat.reducePow, Nat.reduceDiv, Nat.reduceMod, Nat.reduceBEq, Int.reduceBEq, Int.reduceLT, reduceIte, tIs, tBs, tPs, vund, *] | (with_reducible refine xc (C1) ?_) | (with_reducible refine xc (C2) ?_) | ((first | refine gd1 ?_ ?_ | refine gd2 ?_ ?_ | refine gd3 ?_ ?_) <;> (first | exact @False.elim _ | intro hc)))
    exact finV_ret vv (.tup (.cons (.sl _ _ _) (.cons (.lit _) .nil)))
  | cons f F =>
    rw [if_neg (by simp)]
    have e6 : ((((f :: F).length : Nat) : Int) == 0) = false := by rw [beq_eq_false_iff_ne, List.length_cons]; omega
    unfold lsV tFs
    dsimp only
    generalize (f :: F).flatMap fgC = FL at *
    generalize (f :: F).length = N at *
    repeat' (with_reducible first | refine x_ops ?_ | simp only [go_sem, Nat.reduceAdd, Nat.reduceEqDiff, Nat.reduceLT, Nat.reduceLeDiff, Nat.reduceMul, Nat.reduceSub, Nat.reducePow, Nat.reduceDiv, Nat.reduceMod, Nat.reduceBEq, Int.reduceBEq, Int.reduceLT, reduceIte, tIs, tBs, tPs, vund, *] | (with_reducible refine xc (C1) ?_) | (with_reducible refine xc (C2) ?_) | ((first | refine gd1 ?_ ?_ | refine gd2 ?_ ?_ | refine gd3 ?_ ?_) <;> (first | exact @False.elim _ | intro hc)))
    exact finV_ret vv (.tup (.cons (.sl _ _ _) (.cons (.lit _) .nil)))

theorem fgs_take {l : List (List Grip × Int)} {k : Nat} (h : k < l.length) : ((l.flatMap fgC).drop (k * 2)).take 2 = [tGs (l.getD k ([], 0)).1, vint (l.getD k ([], 0)).2] := flat_take fgC_l _ h
theorem bst_ls (h : Hand) (l : List Chord) (hl : Fits l) : bstR h l = match lsR h l 1 with | ([], e) => ([], 0, e) | (f :: _, _) => (f.1, f.2, 0) := by
  rw [bstR, lsR]
  by_cases hw : wvE h l = 0
  · rw [if_pos hw, if_pos hw, if_pos (by omega), show (1 : Int).toNat = 1 from rfl, fst_fg (wv_net hl hw)]
    cases fgL h l (tabG h l) 1 with
    | nil => rw [if_pos rfl]
    | cons f F => rw [if_neg (by simp)]
  · rw [if_neg hw, if_neg hw]
theorem ls_fits {h : Hand} {l : List Chord} (hl : Fits l) (most : Int) : ∀ f ∈ (lsR h l most).1, FitsG f.1 := by
  rw [lsR]
  by_cases hw : wvE h l = 0
  · rw [if_pos hw]
    split
    · split
      · intro f hf; cases hf
      · intro f hf; exact fg_fits (wv_net hl hw) hf
    · intro f hf; cases hf
  · rw [if_neg hw]; intro f hf; cases hf
theorem ls_big {h : Hand} {l : List Chord} (most : Int) : (lsR h l most).1.length ≤ 64 := by
  rw [lsR]
  split
  · split
    · split
      · exact Nat.zero_le _
      · by_cases h0 : l.length = 0
        · rw [fgL, if_pos h0]; decide
        · have := fgL_len (h := h) (l := l) (Gs := tabG h l) most.toNat (by omega)
          dsimp only; omega
    · exact Nat.zero_le _
  · exact Nat.zero_le _
theorem ls_err (h : Hand) (l : List Chord) (most : Int) : ((lsR h l most).1 = [] ∧ ¬ (lsR h l most).2 = 0) ∨ (¬ (lsR h l most).1 = [] ∧ (lsR h l most).2 = 0) := by
  rw [lsR]
  split
  · split
    · split
      · exact .inl ⟨rfl, by decide⟩
      · rename_i hF; exact .inr ⟨hF, rfl⟩
    · exact .inl ⟨rfl, by decide⟩
  · rename_i hw; exact .inl ⟨rfl, hw⟩

set_option maxHeartbeats 4000000 in
theorem rBest_fn (h : Hand) (l : List Chord) (hl : Fits l) : Fn Try.prog Gd 40 [h.val, tCs l] (fstV (bstR h l)) := by
  refine Fn.of_vx0 k_theorboref06_Best (by simp) (by rw [V.pures, pure_hand, V.pures, pure_tCs]; rfl) ?_
  have C1 := rList_fn h l hl 1
  have he := ls_err h l 1
  rw [bst_ls h l hl]
  unfold c_theorboref06_Best
  generalize lsR h l 1 = r at *
  obtain ⟨F, e⟩ := r
  cases F with
  | nil =>
    have e1 : (e == 0) = false := by
      rw [beq_eq_false_iff_ne]
      rcases he with h1 | h1
      · exact h1.2
      · exact absurd rfl h1.1
    rw [lsV_nil] at C1
    unfold fstV tGs
    unfold Hand.val tCs at C1 ⊢
    clear he
    dsimp only at C1 ⊢
    repeat' (with_reducible first | refine x_ops ?_ | refine wk ?_ | (with_reducible refine xc (C1) ?_) | ((first | refine gd1 ?_ ?_ | refine gd2 ?_ ?_ | refine gd3 ?_ ?_) <;> (first | exact @False.elim _ | intro hc)))
    exact finV_ret vv (.tup (.cons (.agg (.cons (.sl _ _ _) (.cons (.lit _) .nil))) (.cons (.lit _) .nil)))
  | cons f F =>
    have e0 : e = 0 := by
      rcases he with h1 | h1
      · exact absurd h1.1 (by simp)
      · exact h1.2
    subst e0
    have g0 := fgs_take (l := f :: F) (k := 0) (by simp)
    have e9 : (f :: F).getD 0 ([], 0) = f := rfl
    rw [Nat.zero_mul, List.drop_zero, e9] at g0
    have c1 : (0 : Int) < (((f :: F).length : Nat) : Int) := by rw [List.length_cons]; omega
    have hfl : ((f :: F).flatMap fgC).length = (f :: F).length * 2 := flat_len fgC_l _
    have c2 : 2 ≤ (f :: F).length * 2 := by rw [List.length_cons]; omega
    unfold lsV tFs at C1
    unfold fstV
    unfold tGs at g0 ⊢
    unfold Hand.val tCs at C1 ⊢
    clear he e9
    dsimp only at C1 ⊢
    generalize (f :: F).flatMap fgC = FL at *
    generalize (f :: F).length = N at *
    repeat' (with_reducible first | refine x_ops ?_ | refine wk ?_ | (with_reducible refine xc (C1) ?_) | ((first | refine gd1 ?_ ?_ | refine gd2 ?_ ?_ | refine gd3 ?_ ?_) <;> (first | exact @False.elim _ | intro hc)))
    exact finV_ret vw (.tup (.cons (.agg (.cons (.sl _ _ _) (.cons (.lit _) .nil))) (.cons (.lit _) .nil)))
end Go.Proofs.Ytojjdkoglhecbaa
namespace Go.Proofs.Ytojjdkoglhecbaa
open Go.RowKit

theorem pure_tFs (l : List (List Grip × Int)) : (tFs l).pure = true := by rw [tFs, V.pure]; intro t h; cases h
set_option maxHeartbeats 4000000 in
theorem sames_fn (A : List (List Grip × Int)) (hA : ∀ f ∈ A, FitsG f.1) (hl : A.length ≤ 64) : Fn Try.prog Gd 39 [tFs A, tFs A] (vbool true) := by
  refine Fn.of_vx0 k_theorbolaw06_SameFingerings (by simp) (by rw [V.pures, pure_tFs, V.pures, pure_tFs]; rfl) ?_
  unfold c_theorbolaw06_SameFingerings tFs
  have e0 : ((A.length : Int) == (A.length : Int)) = true := beq_self_eq_true _
  have hgt := fun k (hk : k < A.length) => fgs_take hk
  have hfl : (A.flatMap fgC).length = A.length * 2 := flat_len fgC_l A
  have hsg : ∀ k, k < A.length → Fn Try.prog Gd 34 [tGs (A.getD k ([], 0)).1, tGs (A.getD k ([], 0)).1] (vbool true) := fun k hk => by
    have hm : A.getD k ([], 0) ∈ A := by rw [List.getD_eq_getElem?_getD, List.getElem?_eq_getElem hk]; exact List.getElem_mem _
    have := samegrips_fn (A.getD k ([], 0)).1 (A.getD k ([], 0)).1 (hA _ hm)
    rw [decide_eq_true rfl] at this; exact this
  generalize A.flatMap fgC = FL at *
  replace hgt := Hid.mk hgt
  replace hsg := Hid.mk hsg
  clear hA
  repeat' (with_reducible first | refine x_ops ?_ | refine wk ?_ | ((first | refine gd1 ?_ ?_ | refine gd2 ?_ ?_ | refine gd3 ?_ ?_) <;> (first | exact @False.elim _ | intro hc)))
  clear e0
  refine x_loopW w_theorbolaw06_SameFingerings_p5 kr A.length (fun k t M => t 5 = vint (k : Int)) vv ?_
  rintro k t M hk h5
  by_cases hk2 : k < A.length
  case neg =>
    have c1 : ¬ (k : Int) < (A.length : Int) := by omega
    repeat' (with_reducible first | refine x_ops ?_ | refine wk ?_ | ((first | refine gd1 ?_ ?_ | refine gd2 ?_ ?_ | refine gd3 ?_ ?_) <;> (first | exact @False.elim _ | intro hc)))
    exact finV_dry rfl vv
  have c1 : (k : Int) < (A.length : Int) := by omega
  have g1 := hgt.out k hk2
  have C3 := hsg.out k hk2
  have c2 : k * 2 + 2 ≤ A.length * 2 := by omega
  have w1 := w_add1 (k := k) (by omega)
  have g2 : FL[k * 2]? = some (tGs (A.getD k ([], 0)).1) := by
    have h1 : ((FL.drop (k * 2)).take 2)[0]? = some (tGs (A.getD k ([], 0)).1) := by rw [g1]; rfl
    rwa [List.getElem?_take, if_pos (by decide), List.getElem?_drop, Nat.add_zero] at h1
  have g3 : FL[k * 2 + 1]? = some (vint (A.getD k ([], 0)).2) := by
    have h1 : ((FL.drop (k * 2)).take 2)[1]? = some (vint (A.getD k ([], 0)).2) := by rw [g1]; rfl
    rwa [List.getElem?_take, if_pos (by decide), List.getElem?_drop] at h1
  clear g1
  generalize A.getD k ([], 0) = f at *
  obtain ⟨G, c⟩ := f
  have e2 : (c == c) = true := beq_self_eq_true _
  unfold tGs at g2 C3
  replace hk2 := Hid.mk hk2
  dsimp only at g2 g3 C3
  repeat' (with_reducible first | refine x_ops ?_ | refine wk ?_ | (with_reducible refine xc (C3) ?_) | ((first | refine gd1 ?_ ?_ | refine gd2 ?_ ?_ | refine gd3 ?_ ?_) <;> (first | exact @False.elim _ | intro hc)))
  exact nx hk2.out vv

set_option maxHeartbeats 4000000 in
theorem handlists_fn (h : Hand) (l : List Chord) (hl : Fits l) (most : Int) : Fn Try.prog Gd 8 [srV h l, vint most] (vbool true) := by
  refine Fn.of_vx0 k_theorbolaw06_HandLists (by simp) (by rw [V.pures, pure_sr, V.pures]; rfl) ?_
  have C0 := heavy_fn h l hl
  have C1 := List_fn h l hl most
  have C2 := rList_fn h l hl most
  have C3 := BestG_fn h l hl
  have C4 := rBest_fn h l hl
  have C5 := works_fn
  have hl0 := hl.1
  have C6 := sames_fn (lsR h l most).1 (ls_fits hl most) (ls_big most)
  have hft := (show FitsG (bstR h l).1 by
    rw [bst_ls h l hl]
    have h1 := ls_fits (h := h) hl 1
    generalize lsR h l 1 = r at *
    obtain ⟨F, e⟩ := r
    cases F with
    | nil => exact ⟨by simp, fun g hg => by cases hg⟩
    | cons f F => exact h1 f (List.mem_cons_self ..))
  have C7 := samegrips_fn (bstR h l).1 (bstR h l).1 hft
  rw [decide_eq_true rfl] at C7
  unfold Hand.val tCs at C0 C1 C2 C3 C4
  unfold c_theorbolaw06_HandLists srV tCs
  generalize hvB h l = hv at *
  cases hv
  case true =>
    clear C1 C2 C3 C4 C6 C7
    repeat' (with_reducible first | refine x_ops ?_ | refine wk ?_ | (with_reducible refine xc (C0) ?_) | (with_reducible refine xc (C5) ?_) | ((first | refine gd1 ?_ ?_ | refine gd2 ?_ ?_ | refine gd3 ?_ ?_) <;> (first | exact @False.elim _ | intro hc)))
    all_goals exact finV_dry rfl vv
  generalize lsR h l most = r1 at *
  obtain ⟨F, e⟩ := r1
  generalize bstR h l = r2 at *
  obtain ⟨G, c, e'⟩ := r2
  unfold lsV tFs at C1 C2
  unfold tFs at C6
  unfold fstV tGs at C3 C4
  unfold tGs at C7
  have e1 : (e == e) = true := beq_self_eq_true _
  have e2 : (c == c) = true := beq_self_eq_true _
  have e3 : (e' == e') = true := beq_self_eq_true _
  dsimp only at C1 C2 C3 C4 C6 C7
  clear hft hl hl0
  generalize F.flatMap fgC = FL at *
  generalize F.length = N at *
  repeat' (with_reducible first | refine x_ops ?_ | refine wk ?_ | (with_reducible refine xc (C0) ?_) | (with_reducible refine xc (C1) ?_) | (with_reducible refine xc (C2) ?_) | (with_reducible refine xc (C6) ?_) | (with_reducible refine xc (C3) ?_) | (with_reducible refine xc (C4) ?_) | (with_reducible refine xc (C7) ?_) | (with_reducible refine xc (C5) ?_) | ((first | refine gd1 ?_ ?_ | refine gd2 ?_ ?_ | refine gd3 ?_ ?_) <;> (first | exact @False.elim _ | intro hc)))
  all_goals exact finV_dry rfl vv
end Go.Proofs.Ytojjdkoglhecbaa
