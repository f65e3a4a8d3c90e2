/- The reference's search, run: the tails from a grip on. The reference's search, run: a fingering out of a tail. The reference's search, run. Functions of the program, as code on values by numbers: printed by a program from the program that was given, and held against it here. The reference's Table, run: its list is a box of its own. The first of all ways is the best one: two roads to the same fingering. Nothing is run here. The lister, run: first and Best. The net of a search, run: only, which leaves one grip to a chord, and Through. The net of a search, run: Through. All frets and positions raised: plain. rest and chosen of the laws, on values. The law HandRaised, on values. Laws about tables: SameTable, Changed. More arguments read: tables and changes. Heavy of the laws, on values. The law HandProves, on values. The reference's Through, run; the law HandThrough. -/
import Derived.Test.YtojjdkoglhecbaaG0
import Derived.Test.YtojjdkoglhecbaaWk
import Derived.Test.YtojjdkoglhecbaaYB03
import Derived.Test.YtojjdkoglhecbaaYB04
import Derived.Test.YtojjdkoglhecbaaXw
import Derived.Test.YtojjdkoglhecbaaYB06
import Derived.Test.YtojjdkoglhecbaaYB07
import Derived.Test.YtojjdkoglhecbaaYB08
set_option linter.unusedSimpArgs false
set_option linter.unusedVariables false
namespace Go.Proofs.Ytojjdkoglhecbaa
open Go.RowKit

theorem rowsT_snoc {k : Nat} {a : Nat → Nat} {f : Nat → Nat → List V} : rowsT (k + 1) a f = rowsT k a f ++ [rowT (a k) (f k)] := by rw [rowsT, List.range_succ, List.map_append]; rfl
/-- How many tails are kept. -/
noncomputable def keN (h : Hand) (l : List Chord) (Gs : List (List Grip)) (q i k : Nat) : Nat := min q (tl h l Gs i k).length

set_option maxHeartbeats 4000000 in
theorem search_row {h : Hand} {l : List Chord} {Gs : List (List Grip)} (hn : NetOk h l Gs) {i j q : Nat} (hi : i + 1 < l.length) (hj : j < (Gs.getD i []).length) (hq : q ≤ 1000) {t : Nat → V} {M : Mm} {hb gb : Nat} {k9 tok : Tok} {xs : List V}
    (s1 : t 1 = .sl l.length (l.flatMap Chord.cells) .no) (s2 : t 2 = .sl l.length (Gs.map tGs) .no) (s3 : t 3 = vint q) (s4 : t 4 = .ptr hb 0) (o4 : M.obj hb = some (.box [tIs h.low, tIs h.high, tBs h.barre, vint h.top, vint h.jump, vint h.shift, vint h.lift, vint h.bar, vint h.stretch, vint h.slide] 25)) (l4 : hb < M.next)
    (s9 : t 9 = .sl (Gs.getD (i + 1) []).length (rowsT (Gs.getD (i + 1) []).length (keN h l Gs q (i + 1)) (tcE h l Gs (i + 1))) k9) (s10 : t 10 = vint i) (s11 : t 11 = .sl j xs tok) (hxs : xs.length = j) (hap : Apb M tok j 171 1)
    (s13 : t 13 = .ptr gb 0) (o13 : M.obj gb = some (.box [vint (grp Gs i j).pos, tIs (grp Gs i j).fingers] 53)) (l13 : gb < M.next) (s14 : t 14 = vint (owG h l Gs i j)) :
    (c_theorboref06_search_b_p16).vx Try.prog Gd (fun e s' => e = .nrm ∧ ∃ tok', s'.t 11 = .sl (j + 1) (xs ++ [rowT (keN h l Gs q i j) (tcE h l Gs i j)]) tok' ∧ Apb s'.m tok' (j + 1) 171 1 ∧ Ks tok M tok' ∧ Kt tok M s'.m) ⟨t, M⟩ := by
  have hil : i < l.length := by omega
  have hgl := hn.gl
  have h4 := hn.len
  have hN := hn.cnt (i + 1)
  have hJ := hn.cnt i
  have hg := hn.grip hil hj
  have hown := own_bound hn.hk (hn.seq i hil).1 hg.1
  have hSb := fun k hk => stepB hn (i := i) (k := j) (m := k) hi hj hk
  have ST := fun k hk => rstep_fn h hn.hk (l.getD i noC) (l.getD (i + 1) noC) (hn.seq i hil).1 (hn.seq (i + 1) hi).1 (hn.follows hi) (hn.fits.at i) (hn.fits.at (i + 1)) ((Gs.getD i []).getD j noG) ((Gs.getD (i + 1) []).getD k noG) hg.2 (hn.grip hi hk).2 hg.1 (hn.grip hi hk).1
  have hnum := fun k hk => tl_num hn (i := i + 1) (k := k) hi hk
  have hcost := fun k r hr => tcE_cost (h := h) (l := l) (Gs := Gs) (i := i + 1) (k := k) (r := r) hi hr
  have C5 : Fn Try.prog Gd 114 [.sl (Gs.getD (i + 1) []).length (rowsT (Gs.getD (i + 1) []).length (fun k => ((tlC h l Gs i j k).take q).length) (tcL h l Gs i j)) .no, vint q] (.sl (keN h l Gs q i j) ((List.range (keN h l Gs q i j)).map fun r => V.ept (tcE h l Gs i j r) 0) .no) := by
    have h1 := rfirst_fn (n := (Gs.getD (i + 1) []).length) (c := fun k => (tlC h l Gs i j k).take q) (tc := tcL h l Gs i j) (fun m _ => asc_take (tlC_asc hi) q) (by omega) (fun m _ => by rw [List.length_take]; omega) (fun m r hm hr => by
      rw [List.length_take, tlC_len] at hr
      split at hr
      case isFalse => omega
      rename_i hs
      rw [getD_take (by omega), tlC_at hs (by omega)]; rfl) q hq
    have h2 := mrg_take (n := (Gs.getD (i + 1) []).length) (c := tlC h l Gs i j) (fun m _ => tlC_asc hi) q
    rw [h2.1, h2.2, ← tl_s hi, out_tl hi] at h1
    exact h1
  have hrow : ∀ k, k < (Gs.getD (i + 1) []).length → ((tlC h l Gs i j k).take q).length = if (stG h l Gs i j k).2 = true then keN h l Gs q (i + 1) k else 0 := fun k hk => by
    rw [List.length_take, tlC_len]; split
    · rfl
    · omega
  have c1 : ((i + 1 : Nat) : Int) < (l.length : Int) := by omega
  have c0 : (i : Int) < (l.length : Int) := by omega
  have w1 := w_add1 (k := i) (by omega)
  have g1 := gss_at' (l := Gs) (k := i + 1) (by omega)
  have g2 := chs_take hil
  have g3 := chs_take hi
  have g4 := chs_len l
  have g5 := gs_len (Gs.getD (i + 1) [])
  have g6 : (Gs.map tGs).length = l.length := by rw [List.length_map, hgl]
  have c2 : i * 3 + 3 ≤ l.length * 3 := by omega
  have c3 : (i + 1) * 3 + 3 ≤ l.length * 3 := by omega
  unfold Hand.val Chord.val Chord.cells Grip.val Grip.cells at ST
  unfold c_theorboref06_search_b_p16
  unfold grp at o13
  have hap0 := Hid.mk hap
  have o40 := Hid.mk o4
  have o130 := Hid.mk o13
  replace hown := Hid.mk hown
  replace hSb := Hid.mk hSb
  replace hnum := Hid.mk hnum
  replace hcost := Hid.mk hcost
  replace hrow := Hid.mk hrow
  replace ST := Hid.mk ST
  replace hn := Hid.mk hn
  replace C5 := Hid.mk C5
  replace hg := Hid.mk hg
  clear o4 o13 hap hgl
  repeat' (with_reducible first | refine x_ops ?_ | refine wk ?_ | ((first | refine gd1 ?_ ?_ | refine gd2 ?_ ?_ | refine gd3 ?_ ?_) <;> (first | exact @False.elim _ | intro hc)))
  refine x_gen (fun t => t 1 = .sl l.length (l.flatMap Chord.cells) .no ∧ t 2 = .sl l.length (Gs.map tGs) .no ∧ t 3 = vint q ∧ t 4 = .ptr hb 0 ∧ t 9 = .sl (Gs.getD (i + 1) []).length (rowsT (Gs.getD (i + 1) []).length (keN h l Gs q (i + 1)) (tcE h l Gs (i + 1))) k9 ∧ t 10 = vint i ∧ t 11 = .sl j xs tok ∧ t 13 = .ptr gb 0 ∧ t 14 = vint (owG h l Gs i j) ∧ t 15 = .sl 0 [] .exact ∧ t 16 = vint 0) ⟨vw, vw, vw, vw, vw, vw, vw, vw, vw, vv, vv⟩ ?_
  clear s1 s2 s3 s4 s9 s10 s11 s13 s14
  rintro t0 ⟨s1, s2, s3, s4, s9, s10, s11, s13, s14, s15, s16⟩
  refine x_loopW w_theorboref06_search_b_p12 kr (Gs.getD (i + 1) []).length (fun k t M' => t 16 = vint (k : Int) ∧ (∃ tk, t 15 = .sl k (rowsT k (fun k => ((tlC h l Gs i j k).take q).length) (tcL h l Gs i j)) tk ∧ Apb M' tk k 171 1 ∧ Ks .exact M tk) ∧ Kf M M') ⟨s16, ⟨.exact, s15, .inl rfl, fun q e => by cases e⟩, Kf.refl M⟩ ?_
  clear s15 s16
  rintro k t2 M' hk ⟨s16, ⟨tk, s15, hal, hks⟩, hkf⟩
  by_cases hkl : k < (Gs.getD (i + 1) []).length
  case neg =>
    have hke : k = (Gs.getD (i + 1) []).length := by omega
    subst hke
    have c4 : ¬ ((Gs.getD (i + 1) []).length : Int) < ((Gs.getD (i + 1) []).length : Int) := by omega
    have C5' := C5.out
    replace hal := Hid.mk hal
    replace hks := Hid.mk hks
    have hkf0 := Hid.mk hkf
    clear hkl hk hkf g2 g3
    repeat' (with_reducible first | refine x_ops ?_ | refine wk ?_ | (with_reducible refine xc (C5') ?_) | ((first | refine gd1 ?_ ?_ | refine gd2 ?_ ?_ | refine gd3 ?_ ?_) <;> (first | exact @False.elim _ | intro hc)))
    refine x_appg (xs := xs) (ys := [rowT (keN h l Gs q i j) (tcE h l Gs i j)]) vw vw ((hkf0.out.apb hap0.out).mono (fun _ _ _ => rfl) (Nat.le_add_right _ _)) (by rw [hxs, Nat.mul_one]) rfl (by omega) (by unfold Go.maxLen; omega) (by simp) ?_
    intro tok2 M2 hap2 htk hn2 hf2
    have hks2 : Ks tok M tok2 := fun p hp => (htk p hp).imp id fun h => by subst h; exact Nat.le_trans hkf0.out.1 (Nat.le_add_right _ _)
    have hkt2 : Kt tok M M2 := ⟨Nat.le_trans hkf0.out.1 (by rw [hn2]; exact Nat.le_add_right _ _), fun p hp hne => (hf2 p (by have := hkf0.out.1; intro (e : p = M'.next + 5); omega) hne).trans (hkf0.out.2 p hp)⟩
    replace hks2 := Hid.mk hks2
    replace hkt2 := Hid.mk hkt2
    clear hn2 hf2 htk
    repeat' (with_reducible first | refine x_ops ?_ | refine wk ?_ | ((first | refine gd1 ?_ ?_ | refine gd2 ?_ ?_ | refine gd3 ?_ ?_) <;> (first | exact @False.elim _ | intro hc)))
    exact ⟨_, rfl, hap2, hks2.out, hkt2.out⟩
  have c4 : (k : Int) < ((Gs.getD (i + 1) []).length : Int) := by omega
  have c5 : k * 2 + 2 ≤ (Gs.getD (i + 1) []).length * 2 := by omega
  have g7 := gs_take hkl
  have wk' := w_add1 (k := k) (by omega)
  have STk := ST.out k hkl
  have o4 := (hkf.2 _ l4).trans o40.out
  have o13 := (hkf.2 _ l13).trans o130.out
  have l4' : hb < M'.next := Nat.lt_of_lt_of_le l4 hkf.1
  have l13' : gb < M'.next := Nat.lt_of_lt_of_le l13 hkf.1
  have hal0 := Hid.mk hal
  have hks0 := Hid.mk hks
  have hkf0 := Hid.mk hkf
  have hkl0 := Hid.mk hkl
  have b1 := Hid.mk (hSb.out k hkl)
  have hro := Hid.mk (hrow.out k hkl)
  clear hal hks hkf hkl hk
  have hrw : rowT ((tlC h l Gs i j k).take q).length (tcL h l Gs i j k) = rowT (if (stG h l Gs i j k).2 = true then keN h l Gs q (i + 1) k else 0) (rwLT ((Gs.getD i []).getD j noG).pos (.sl ((Gs.getD i []).getD j noG).fingers.length (((Gs.getD i []).getD j noG).fingers.map vint) .no) (owG h l Gs i j) (stG h l Gs i j k).1 (fun m => ((tl h l Gs (i + 1) k).getD m noW).1) (tcE h l Gs (i + 1) k)) := by
    rw [hro.out]; rfl
  replace hrw := Hid.mk hrw
  unfold stG owG at *
  generalize hst : stepR h (l.getD i noC) ((Gs.getD i []).getD j noG) (l.getD (i + 1) noC) ((Gs.getD (i + 1) []).getD k noG) = st at *
  obtain ⟨sc, sb⟩ := st
  replace hst := Hid.mk hst
  dsimp only at STk
  repeat' (with_reducible first | refine x_ops ?_ | refine wk ?_ | (with_reducible refine xc (STk) ?_) | ((first | refine gd1 ?_ ?_ | refine gd2 ?_ ?_ | refine gd3 ?_ ?_) <;> (first | exact @False.elim _ | intro hc)))
  refine x_sum 1427247692705797621781456756086103558374064128 ?_ (R := fun e t m' => e = .nrm ∧ ∃ tok', t 15 = .sl (k + 1) (rowsT k (fun k => ((tlC h l Gs i j k).take q).length) (tcL h l Gs i j) ++ [rowT (if sb = true then keN h l Gs q (i + 1) k else 0) (rwLT ((Gs.getD i []).getD j noG).pos (.sl ((Gs.getD i []).getD j noG).fingers.length (((Gs.getD i []).getD j noG).fingers.map vint) .no) (ownC h (l.getD i noC) ((Gs.getD i []).getD j noG)) sc (fun m => ((tl h l Gs (i + 1) k).getD m noW).1) (tcE h l Gs (i + 1) k))]) tok' ∧ Apb m' tok' (k + 1) 171 1 ∧ Ks tk M' tok' ∧ Kt tk M' m')
    (search_list (gb := gb) (k9 := k9) hkl0.out (by omega) ?_ ?_ o13 l13' ?_ ?_ rowsT_len hal0.out ?_ ?_ ?_ (by rw [keN]; omega) (fun m hm => hcost.out k m (by rw [keN] at hm; omega)) (by have := hown.out; omega) (by have := b1.out; dsimp only at this; omega) (fun m hm => by have := hnum.out k hkl0.out _ (mem_nthW (j := m) (by rw [keN] at hm; omega)); omega)) ?_
  · kernel_rfl
  · exact vw
  · exact vw
  · exact vw
  · exact vw
  · exact vw
  · exact vw
  · exact vw
  rintro e t7 M7 ⟨rfl, tok', f15, hap7, hks7, hkt7⟩
  have hks8 : Ks .exact M tok' := fun p hp => (hks7 p hp).elim (hks0.out p) fun h => .inr (Nat.le_trans hkf0.out.1 h)
  have hkf8 : Kf M M7 := ⟨Nat.le_trans hkf0.out.1 hkt7.1, fun p hp => (hkt7.2 p (Nat.lt_of_lt_of_le hp hkf0.out.1) (fun e => (hks0.out p e).elim (fun h => by cases h) (fun h => by omega))).trans (hkf0.out.2 p hp)⟩
  rw [← hrw.out, ← rowsT_snoc (f := tcL h l Gs i j) (a := fun k => ((tlC h l Gs i j k).take q).length)] at f15
  replace hap7 := Hid.mk hap7
  replace hks8 := Hid.mk hks8
  replace hkf8 := Hid.mk hkf8
  clear hks7 hkt7 s15
  repeat' (with_reducible first | refine x_ops ?_ | refine wk ?_ | ((first | refine gd1 ?_ ?_ | refine gd2 ?_ ?_ | refine gd3 ?_ ?_) <;> (first | exact @False.elim _ | intro hc)))
  exact nx hkl0.out ⟨vv, ⟨tok', vw, hap7.out, hks8.out⟩, hkf8.out⟩
end Go.Proofs.Ytojjdkoglhecbaa
namespace Go.Proofs.Ytojjdkoglhecbaa
open Go.RowKit

/-- Where the decoding of a tail stands, with the grips G. -/
def DcV (h : Hand) (l : List Chord) (Gs : List (List Grip)) (T : List Grip) (y : Nat) (G : List Grip) (v : V) : Prop :=
  G.length = y ∧ ((y < l.length ∧ ∃ k r, k < (Gs.getD y []).length ∧ r < (tl h l Gs y k).length ∧ v = .ept (tcE h l Gs y k r) 0 ∧ G ++ grps Gs y (pth h l Gs y k r) = T) ∨ (y = l.length ∧ v = .lit (.pointer none) ∧ G = T))
theorem tl_at {h : Hand} {l : List Chord} {Gs : List (List Grip)} (hn : NetOk h l Gs) {i k r : Nat} (hi : i + 1 < l.length) (hk : k < (Gs.getD i []).length) (hr : r < (tl h l Gs i k).length) : ∃ m s : Nat, m < (Gs.getD (i + 1) []).length ∧ s < (tl h l Gs (i + 1) m).length ∧ (tl h l Gs i k).getD r noW = (((tl h l Gs i k).getD r noW).1, (m : Int), (s : Int)) := by
  obtain ⟨_, _, _, h4⟩ := tl_ok hn _ i rfl (by omega) k hk _ (mem_nthW hr)
  obtain ⟨m, s, h5, _, h6, h7⟩ := h4 hi
  exact ⟨m, s, h5, h6, by rw [h7]⟩
/-- One more grip: the cells of the tail, what is behind it. -/
theorem dc_next {h : Hand} {l : List Chord} {Gs : List (List Grip)} (hn : NetOk h l Gs) {T : List Grip} {y : Nat} {G : List Grip} {v : V} (hd : DcV h l Gs T y G v) (hy : y < l.length) :
    ∃ g c w, v = .ept [vint g.pos, tIs g.fingers, c, w] 0 ∧ g.fingers.length ≤ 8796093022208 ∧ DcV h l Gs T (y + 1) (G ++ [g]) w := by
  obtain ⟨hl, ⟨_, k, r, hk, hr, rfl, hT⟩ | ⟨h1, _⟩⟩ := hd
  case inr => omega
  refine ⟨grp Gs y k, ?_⟩
  have hfl : (grp Gs y k).fingers.length ≤ 8796093022208 := by
    have h1 := (hn.grip hy hk).2
    have h2 := (hn.fits.at y).1
    rw [grp, h1]; exact h2
  by_cases e : y + 1 = l.length
  · refine ⟨_, _, by rw [tcE_last e]; rfl, hfl, by rw [List.length_append, hl]; rfl, .inr ⟨e, rfl, ?_⟩⟩
    rw [← hT, pth_last e]; rfl
  · have hy1 : y + 1 < l.length := by omega
    obtain ⟨m, s, h5, h6, h7⟩ := tl_at hn hy1 hk hr
    refine ⟨_, _, by rw [tcE_s hy1]; rfl, hfl, by rw [List.length_append, hl]; rfl, .inl ⟨hy1, m, s, h5, h6, ?_, ?_⟩⟩
    · rw [h7]; simp only [Int.toNat_natCast]
    · rw [← hT, pth_s hy1, h7]
      simp only [Int.toNat_natCast]
      rw [grps, List.append_assoc]; rfl
theorem dc_end {h : Hand} {l : List Chord} {Gs : List (List Grip)} {T : List Grip} {G : List Grip} {v : V} (hd : DcV h l Gs T l.length G v) : v = .lit (.pointer none) ∧ G = T := by
  obtain ⟨hl, ⟨h1, _⟩ | ⟨_, h2, h3⟩⟩ := hd
  · omega
  · exact ⟨h2, h3⟩

set_option maxHeartbeats 4000000 in
/-- A tail's fingering is appended. -/
theorem search_dec {h : Hand} {l : List Chord} {Gs : List (List Grip)} (hn : NetOk h l Gs) (hl : 0 < l.length) {k r j : Nat} (hk : k < (Gs.getD 0 []).length) (hr : r < (tl h l Gs 0 k).length) (hj : j ≤ 1000) {t : Nat → V} {M : Mm} {xs : List V} {tok : Tok}
    (s21 : t 21 = .sl j xs tok) (hxs : xs.length = j * 2) (hap : Apb M tok j 40 2) (s23 : t 23 = .ept (tcE h l Gs 0 k r) 0) :
    (c_theorboref06_search_b_p35).vx Try.prog Gd (fun e s' => e = .nrm ∧ ∃ tok', s'.t 21 = .sl (j + 1) (xs ++ fgC (grps Gs 0 (pth h l Gs 0 k r), ((tl h l Gs 0 k).getD r noW).1)) tok' ∧ Apb s'.m tok' (j + 1) 40 2) ⟨t, M⟩ := by
  have h4 := hn.len
  have hc := tcE_cost (h := h) (l := l) (Gs := Gs) hl hr
  have hd0 : DcV h l Gs (grps Gs 0 (pth h l Gs 0 k r)) 0 [] (.ept (tcE h l Gs 0 k r) 0) := ⟨rfl, .inl ⟨hl, k, r, hk, hr, rfl, rfl⟩⟩
  generalize grps Gs 0 (pth h l Gs 0 k r) = T at *
  generalize ((tl h l Gs 0 k).getD r noW).1 = cost at *
  generalize tcE h l Gs 0 k r = tc0 at *
  unfold c_theorboref06_search_b_p35
  have hap0 := Hid.mk hap
  replace hd0 := Hid.mk hd0
  replace hn := Hid.mk hn
  clear hap hk hr
  repeat' (with_reducible first | refine x_ops ?_ | refine wk ?_ | ((first | refine gd1 ?_ ?_ | refine gd2 ?_ ?_ | refine gd3 ?_ ?_) <;> (first | exact @False.elim _ | intro hc)))
  refine x_genT (fun t M1 => t 21 = .sl j xs tok ∧ t 25 = .ept tc0 0 ∧ Kf M M1 ∧ ∃ fb, t 24 = .ptr fb 0 ∧ fb < M1.next ∧ M1.obj fb = some (.box [.sl 0 [] .exact, vint cost] 40))
    ⟨vw, vv, ⟨by show M.next ≤ M.next + 7; omega, fun q hq => (put_otherT _ _ (by omega)).trans (put_otherT _ _ (by omega))⟩, M.next + 5, vv, by show M.next + 5 < M.next + 7; omega, put_sameT _ _ _⟩ ?_
  clear s21 s23 hc
  rintro t1 M1 ⟨s21, s25, hkf, fb, s24, hfb, ofb⟩
  refine x_loopW w_theorboref06_search_b_p31 kr l.length (fun y t M' => ∃ G tk, DcV h l Gs T y G (t 25) ∧ (M'.obj fb = some (.box [.sl G.length (G.flatMap Grip.cells) tk, vint cost] 40) ∧ fb < M'.next) ∧ Apb M' tk G.length 53 2 ∧ Apb M' tok j 40 2)
    ⟨[], .exact, by show DcV h l Gs T 0 [] (t1 25); rw [s25]; exact hd0.out, ⟨ofb, hfb⟩, .inl rfl, hkf.apb hap0.out⟩ ?_
  clear hkf s25 hfb ofb
  rintro y t2 M2 hy ⟨G, tk, hd, ⟨ofb, hfb⟩, hapk, hapt⟩
  by_cases hyl : y < l.length
  case neg =>
    have hye : y = l.length := by omega
    subst hye
    obtain ⟨s25, rfl⟩ := dc_end hd
    replace hd := Hid.mk hd
    have hapt0 := Hid.mk hapt
    clear hapk hyl hy hapt
    repeat' (with_reducible first | refine x_ops ?_ | refine wk ?_ | ((first | refine gd1 ?_ ?_ | refine gd2 ?_ ?_ | refine gd3 ?_ ?_) <;> (first | exact @False.elim _ | intro hc)))
    refine x_appg (xs := xs) (ys := [.sl G.length (G.flatMap Grip.cells) .no, vint cost]) vw vw (hapt0.out.mono (fun _ _ _ => rfl) (Nat.le_add_right _ _)) hxs rfl (by omega) (by unfold Go.maxLen; omega) (by show M2.next + 3 < M2.next + 5; omega) ?_
    intro tok2 M3 hap3 _ _ _
    replace hap3 := Hid.mk hap3
    repeat' (with_reducible first | refine x_ops ?_ | refine wk ?_ | ((first | refine gd1 ?_ ?_ | refine gd2 ?_ ?_ | refine gd3 ?_ ?_) <;> (first | exact @False.elim _ | intro hc)))
    exact ⟨tok2, rfl, hap3.out⟩
  obtain ⟨g, c, w, s25, hgf, hd2⟩ := dc_next hn.out hd hyl
  have hGl := hd.1
  have gcl := gs_len G
  have hnb : tk ≠ .own fb := apbT_box hapk ofb
  have hnt := apbT_ne hapk hapt (by decide)
  replace hd := Hid.mk hd
  replace hd2 := Hid.mk hd2
  replace hGl := Hid.mk hGl
  have hyl0 := Hid.mk hyl
  have hapk0 := Hid.mk hapk
  have hapt0 := Hid.mk hapt
  have ofb0 := Hid.mk ofb
  clear hyl hy hapk hapt
  repeat' (with_reducible first | refine x_ops ?_ | refine wk ?_ | ((first | refine gd1 ?_ ?_ | refine gd2 ?_ ?_ | refine gd3 ?_ ?_) <;> (first | exact @False.elim _ | intro hc)))
  refine x_appE (n := 0) (j := g.fingers.length) (xs := []) (ys := g.fingers.map vint) (k2 := .no) vw vw rfl (by simp) (by omega) (by unfold Go.maxLen; omega) ?_
  repeat' (with_reducible first | refine x_ops ?_ | refine wk ?_ | ((first | refine gd1 ?_ ?_ | refine gd2 ?_ ?_ | refine gd3 ?_ ?_) <;> (first | exact @False.elim _ | intro hc)))
  refine x_appg (xs := G.flatMap Grip.cells) (ys := Grip.cells g) (k := tk) vw (by unfold Grip.cells; exact vw) (hapk0.out.mono (fun q hq _ => put_otherT _ _ (by omega)) (by simp only [put_next]; omega)) gcl rfl (by have := hGl.out; have := hyl0.out; omega) (by have := hGl.out; have := hyl0.out; unfold Go.maxLen; omega) (by simp only [put_next]; omega) ?_
  intro tk2 M3 hap3 htk3 hn3 hf3
  have hn3' : M2.next ≤ M3.next := by rw [hn3]; simp only [put_next]; omega
  have old : ∀ p, p < M2.next → tk ≠ .own p → M3.obj p = M2.obj p := fun p hp hne => (hf3 p (by omega) hne).trans (put_otherT _ _ (by omega))
  have ofb3 := (old fb hfb hnb).trans ofb0.out
  have hfb3 : fb < M3.next := by omega
  have hapt3 : Apb M3 tok j 40 2 := hapt0.out.mono (fun p hp ho => old p hp (fun e => by
    rcases hapk0.out with h1 | ⟨t, h1, _, h3⟩
    · rw [h1] at e; cases e
    · rw [h1] at e; injection e with e; subst e; rw [h3] at ho; injection ho with ho; injection ho with _ ho; cases ho)) hn3'
  have hfc : (G ++ [g]).flatMap Grip.cells = G.flatMap Grip.cells ++ Grip.cells g := by rw [List.flatMap_append]; simp
  have hgl : (G ++ [g]).length = G.length + 1 := by simp
  replace hfc := Hid.mk hfc
  replace hgl := Hid.mk hgl
  replace hap3 := Hid.mk hap3
  replace hapt3 := Hid.mk hapt3
  clear hn3 hf3 htk3 old ofb hnt
  repeat' (with_reducible first | refine x_ops ?_ | refine wk ?_ | ((first | refine gd1 ?_ ?_ | refine gd2 ?_ ?_ | refine gd3 ?_ ?_) <;> (first | exact @False.elim _ | intro hc)))
  have e9 : ∀ v, v = w → DcV h l Gs T (y + 1) (G ++ [g]) v := fun v hv => hv ▸ hd2.out
  have nrow : ∀ (o : AObj) {k : Tok} {n : Nat} {e : TypeId} {z : Nat}, Apb M3 k n e z → Apb (⟨(M3.put fb o).obj, M3.next⟩ : Mm) k n e z := fun o _ _ _ _ ha => ha.mono (fun q _ ho => put_otherT _ _ (fun e => by subst e; rw [ofb3] at ho; cases ho)) (Nat.le_refl _)
  refine nx hyl0.out ⟨G ++ [g], tk2, e9 _ vw, ⟨(put_sameT _ _ _).trans (by rw [hfc.out, hgl.out]), ?_⟩, ?_, ?_⟩
  · exact hfb3
  · rw [hgl.out]; exact nrow _ hap3.out
  · exact nrow _ hapt3.out
end Go.Proofs.Ytojjdkoglhecbaa
namespace Go.Proofs.Ytojjdkoglhecbaa
open Go.RowKit

theorem fgC_l (f : List Grip × Int) : (fgC f).length = 2 := rfl
/-- What is kept of the tails of the chord y. -/
def AfV (h : Hand) (l : List Chord) (Gs : List (List Grip)) (q y : Nat) (v : V) : Prop := y = l.length ∨ ∃ k9, v = .sl (Gs.getD y []).length (rowsT (Gs.getD y []).length (keN h l Gs q y) (tcE h l Gs y)) k9

set_option maxHeartbeats 4000000 in
theorem search_fn {h : Hand} {l : List Chord} {Gs : List (List Grip)} (hn : NetOk h l Gs) {q : Nat} (hq0 : 1 ≤ q) (hq : q ≤ 64) : Fn Try.prog Gd 77 [h.val, tCs l, tGss Gs, vint q] (tFs (fgL h l Gs q)) := by
  refine Fn.of_vx0 k_theorboref06_search_b (by simp) (by rw [V.pures, pure_hand, V.pures, pure_tCs, V.pures, pure_tGss]; rfl) ?_
  have h4 := hn.len
  have hgl := hn.gl
  unfold c_theorboref06_search_b Hand.val tCs tGss
  rw [hgl]
  by_cases h0 : l.length = 0
  · have e1 : ((l.length : Int) == 0) = true := by rw [h0]; rfl
    rw [fgL, if_pos h0]
    replace h0 := Hid.mk h0
    repeat' (with_reducible first | refine x_ops ?_ | refine wk ?_ | ((first | refine gd1 ?_ ?_ | refine gd2 ?_ ?_ | refine gd3 ?_ ?_) <;> (first | exact @False.elim _ | intro hc)))
    exact finV_ret vv (.sl _ _ _)
  have e1 : ((l.length : Int) == 0) = false := by rw [beq_eq_false_iff_ne]; omega
  have w1 : IntKind.i64.wrap ((l.length : Int) - 1) = (l.length : Int) - 1 := w_in (by omega)
  have hl0 : 0 < l.length := by omega
  replace h0 := Hid.mk h0
  replace hgl := Hid.mk hgl
  repeat' (with_reducible first | refine x_ops ?_ | refine wk ?_ | ((first | refine gd1 ?_ ?_ | refine gd2 ?_ ?_ | refine gd3 ?_ ?_) <;> (first | exact @False.elim _ | intro hc)))
  refine x_genT (fun t M => t 1 = .sl l.length (l.flatMap Chord.cells) .no ∧ t 2 = .sl l.length (Gs.map tGs) .no ∧ t 3 = vint q ∧ t 10 = vint ((l.length : Int) - 1) ∧ ∃ hb, t 4 = .ptr hb 0 ∧ M.obj hb = some (.box [tIs h.low, tIs h.high, tBs h.barre, vint h.top, vint h.jump, vint h.shift, vint h.lift, vint h.bar, vint h.stretch, vint h.slide] 25) ∧ hb < M.next)
    ⟨vv, vv, vv, vv, 0, vv, by ((refine ve ?_; try exact True.intro)); simp [tIs, tBs], by show 0 < 2; decide⟩ ?_
  clear e1
  rintro t0 M0' ⟨a1, a2, a3, a10, hb, a4, ho, hlt⟩
  refine x_loopW w_theorboref06_search_b_p27 kr l.length (fun u t M => t 10 = vint ((l.length : Int) - 1 - u) ∧ AfV h l Gs q (l.length - u) (t 9) ∧ M.obj hb = some (.box [tIs h.low, tIs h.high, tBs h.barre, vint h.top, vint h.jump, vint h.shift, vint h.lift, vint h.bar, vint h.stretch, vint h.slide] 25) ∧ hb < M.next) ⟨by simpa using a10, .inl (by omega), ho, hlt⟩ ?_
  clear a10 ho hlt
  rintro u t M hu ⟨h10, haf, ho, hlt⟩
  by_cases hul : u < l.length
  case neg =>
    have hue : u = l.length := by omega
    subst hue
    have c1 : ¬ (0 : Int) ≤ (l.length : Int) - 1 - (l.length : Int) := by omega
    obtain ⟨k9, h9⟩ : ∃ k9, t 9 = .sl (Gs.getD 0 []).length (rowsT (Gs.getD 0 []).length (keN h l Gs q 0) (tcE h l Gs 0)) k9 := by
      rw [Nat.sub_self] at haf
      rcases haf with haf | haf
      · omega
      · exact haf
    have hN0 := hn.cnt 0
    have hrt := mrg_take (n := (Gs.getD 0 []).length) (c := rtC h l Gs) (fun m _ => rtC_asc hl0) q
    have C6 := rfirst_fn (n := (Gs.getD 0 []).length) (c := fun k => (rtC h l Gs k).take q) (tc := tcE h l Gs 0) (fun m _ => asc_take (rtC_asc hl0) q) (by omega) (fun m _ => by rw [List.length_take]; omega) (fun m r hm hr => by
      rw [List.length_take, rtC, List.length_map] at hr
      rw [getD_take (by omega), rtC, getD_mapW (by omega)]
      exact tcE_cost hl0 (by omega)) q (by omega)
    rw [hrt.1, hrt.2, show (fun m => ((rtC h l Gs m).take q).length) = keN h l Gs q 0 by funext m; rw [List.length_take, rtC, List.length_map]; rfl] at C6
    rw [show mrg (Gs.getD 0 []).length (rtC h l Gs) = rtT h l Gs from rfl] at C6
    have hfl : fgL h l Gs q = ((rtT h l Gs).take q).map (fgW h l Gs) := by rw [fgL, if_neg (by omega)]
    rw [tFs, hfl, List.length_map, List.length_take]
    have hel : ∀ y, y < min q (rtT h l Gs).length → ∃ m r : Nat, m < (Gs.getD 0 []).length ∧ r < (tl h l Gs 0 m).length ∧ (outT (tcE h l Gs 0) ((rtT h l Gs).take q))[y]? = some (.ept (tcE h l Gs 0 m r) 0) ∧
        (((rtT h l Gs).take q).map (fgW h l Gs)).take (y + 1) = (((rtT h l Gs).take q).map (fgW h l Gs)).take y ++ [(grps Gs 0 (pth h l Gs 0 m r), ((tl h l Gs 0 m).getD r noW).1)] := by
      intro y hy
      have hy2 : y < (rtT h l Gs).length := by omega
      obtain ⟨m, r, m1, m2, m3⟩ := mem_mrg.1 (List.getElem_mem hy2 : (rtT h l Gs)[y] ∈ rtT h l Gs)
      rw [rtC, List.length_map] at m2
      rw [rtC, getD_mapW m2] at m3
      have et : ((rtT h l Gs).take q)[y]? = some (((tl h l Gs 0 m).getD r noW).1, (m : Int), (r : Int)) := by
        rw [List.getElem?_take, if_pos (by omega), List.getElem?_eq_getElem hy2, m3]
      refine ⟨m, r, m1, m2, ?_, ?_⟩
      · rw [outT, List.getElem?_map, et]; rfl
      · rw [List.take_add_one, List.getElem?_map, et]; rfl
    have hol : (outT (tcE h l Gs 0) ((rtT h l Gs).take q)).length = min q (rtT h l Gs).length := by rw [outT_len, List.length_take]
    have hFl : (((rtT h l Gs).take q).map (fgW h l Gs)).length = min q (rtT h l Gs).length := by rw [List.length_map, List.length_take]
    generalize outT (tcE h l Gs 0) ((rtT h l Gs).take q) = OT at *
    generalize ((rtT h l Gs).take q).map (fgW h l Gs) = FG at *
    generalize hNe : min q (rtT h l Gs).length = N at *
    have hNq : N ≤ 64 := by omega
    replace hNe := Hid.mk hNe
    replace hel := Hid.mk hel
    replace hrt := Hid.mk hrt
    replace hfl := Hid.mk hfl
    replace hFl := Hid.mk hFl
    clear haf hul hu ho
    repeat' (with_reducible first | refine x_ops ?_ | refine wk ?_ | ((first | refine gd1 ?_ ?_ | refine gd2 ?_ ?_ | refine gd3 ?_ ?_) <;> (first | exact @False.elim _ | intro hc)))
    unfold c_theorboref06_search_b_p43
    repeat' (with_reducible first | refine x_ops ?_ | refine wk ?_ | (with_reducible refine xc (C6) ?_) | ((first | refine gd1 ?_ ?_ | refine gd2 ?_ ?_ | refine gd3 ?_ ?_) <;> (first | exact @False.elim _ | intro hc)))
    refine x_gen (fun t => t 21 = .sl 0 [] .exact ∧ t 159 = .sl N OT .no ∧ t 160 = vint N ∧ t 161 = vint 0) ⟨vv, vv, vv, vv⟩ ?_
    clear C6 h9 h10 a1 a2 a3 a4
    rintro t5 ⟨b21, b159, b160, b161⟩
    refine x_loopW w_theorboref06_search_b_p39 kr N (fun y t M => t 161 = vint (y : Int) ∧ ∃ tok, t 21 = .sl y ((FG.take y).flatMap fgC) tok ∧ Apb M tok y 40 2) ⟨b161, .exact, b21, .inl rfl⟩ ?_
    clear b21 b161
    rintro y t6 M6 hy ⟨h161, tok, h21, hap⟩
    by_cases hyN : y < N
    case neg =>
      have hye : y = N := by omega
      subst hye
      have c2 : ¬ (y : Int) < (y : Int) := by omega
      have htk : FG.take y = FG := List.take_of_length_le (by rw [hFl.out]; exact Nat.le_refl _)
      rw [htk] at h21
      clear htk hyN hy hap
      repeat' (with_reducible first | refine x_ops ?_ | refine wk ?_ | ((first | refine gd1 ?_ ?_ | refine gd2 ?_ ?_ | refine gd3 ?_ ?_) <;> (first | exact @False.elim _ | intro hc)))
      exact finV_ret vw (.sl _ _ _)
    have c2 : (y : Int) < (N : Int) := by omega
    have w2 := w_add1 (k := y) (by omega)
    obtain ⟨m, r, m1, m2, m3, m4⟩ := hel.out y hyN
    have hxl : ((FG.take y).flatMap fgC).length = y * 2 := by
      rw [flat_len fgC_l (FG.take y), List.length_take, hFl.out, Nat.min_eq_left (by omega)]
    replace m4 := Hid.mk m4
    replace hxl := Hid.mk hxl
    have hyN0 := Hid.mk hyN
    clear hyN hy
    repeat' (with_reducible first | refine x_ops ?_ | refine wk ?_ | ((first | refine gd1 ?_ ?_ | refine gd2 ?_ ?_ | refine gd3 ?_ ?_) <;> (first | exact @False.elim _ | intro hc)))
    refine x_sum 401734511017979516490901629702772735983629691816708419878912 ?_ (R := fun e t m' => e = .nrm ∧ ∃ tok', t 21 = .sl (y + 1) ((FG.take y).flatMap fgC ++ fgC (grps Gs 0 (pth h l Gs 0 m r), ((tl h l Gs 0 m).getD r noW).1)) tok' ∧ Apb m' tok' (y + 1) 40 2) (search_dec hn hl0 m1 m2 (by omega) ?_ hxl.out hap ?_) ?_
    · kernel_rfl
    · exact vw
    · exact vw
    rintro e t7 M7 ⟨rfl, tok', h21', hap'⟩
    clear hap h21
    repeat' (with_reducible first | refine x_ops ?_ | refine wk ?_ | ((first | refine gd1 ?_ ?_ | refine gd2 ?_ ?_ | refine gd3 ?_ ?_) <;> (first | exact @False.elim _ | intro hc)))
    refine nx hyN0.out ⟨vw, tok', ?_, hap'⟩
    rw [m4.out, List.flatMap_append]
    simp only [List.flatMap_cons, List.flatMap_nil, List.append_nil]
    exact vw
  obtain ⟨i, hi⟩ : ∃ i : Nat, i + 1 + u = l.length := ⟨l.length - 1 - u, by omega⟩
  have ei : (l.length : Int) - 1 - (u : Int) = (i : Int) := by omega
  have ei2 : l.length - u = i + 1 := by omega
  rw [ei] at h10
  rw [ei2] at haf
  have hil : i < l.length := by omega
  have c0 : (i : Int) < (l.length : Int) := by omega
  have c9 : (0 : Int) ≤ (i : Int) := by omega
  have gl := hgl.out
  have g0 := gss_at' (l := Gs) (k := i) (by omega)
  have hcnt := hn.cnt i
  have w2 : IntKind.i64.wrap ((i : Int) - 1) = (i : Int) - 1 := w_in (by omega)
  have g1 := chs_take hil
  have g2 := chs_len l
  have g4 := gs_len (Gs.getD i [])
  have c2 : i * 3 + 3 ≤ l.length * 3 := by omega
  have ex : (i : Int) - 1 = (l.length : Int) - 1 - ((u + 1 : Nat) : Int) := by omega
  have ex2 : l.length - (u + 1) = i := by omega
  replace ex := Hid.mk ex
  replace ex2 := Hid.mk ex2
  clear ei ei2
  replace hi := Hid.mk hi
  have haf0 := Hid.mk haf
  have hul0 := Hid.mk hul
  clear haf hul hu
  repeat' (with_reducible first | refine x_ops ?_ | refine wk ?_ | ((first | refine gd1 ?_ ?_ | refine gd2 ?_ ?_ | refine gd3 ?_ ?_) <;> (first | exact @False.elim _ | intro hc)))
  refine x_gen (fun t' => t' 1 = .sl l.length (l.flatMap Chord.cells) .no ∧ t' 2 = .sl l.length (Gs.map tGs) .no ∧ t' 3 = vint q ∧ t' 4 = .ptr hb 0 ∧ t' 9 = t 9 ∧ t' 10 = vint i ∧ t' 11 = .sl 0 [] .exact ∧ t' 12 = vint 0) ⟨vw, vw, vw, vw, vv, vw, vv, vv⟩ ?_
  rintro t3 ⟨b1, b2, b3, b4, b9, b10, b11, b12⟩
  refine x_loopW w_theorboref06_search_b_p21 kr (Gs.getD i []).length (fun j t' M' => t' 12 = vint (j : Int) ∧ (∃ tok, t' 11 = .sl j (rowsT j (keN h l Gs q i) (tcE h l Gs i)) tok ∧ Apb M' tok j 171 1) ∧
    M'.obj hb = some (.box [tIs h.low, tIs h.high, tBs h.barre, vint h.top, vint h.jump, vint h.shift, vint h.lift, vint h.bar, vint h.stretch, vint h.slide] 25) ∧ hb < M'.next) ⟨b12, ⟨.exact, b11, .inl rfl⟩, ho, hlt⟩ ?_
  clear b11 b12 ho hlt a1 a2 a3 a4 h10
  rintro j t4 M' hj ⟨h12, ⟨tok, h11, hap⟩, ho, hlt⟩
  by_cases hjl : j < (Gs.getD i []).length
  case neg =>
    have hje : j = (Gs.getD i []).length := by omega
    subst hje
    have c1 : ¬ ((Gs.getD i []).length : Int) < ((Gs.getD i []).length : Int) := by omega
    replace hap := Hid.mk hap
    clear hjl hj
    repeat' (with_reducible first | refine x_ops ?_ | refine wk ?_ | ((first | refine gd1 ?_ ?_ | refine gd2 ?_ ?_ | refine gd3 ?_ ?_) <;> (first | exact @False.elim _ | intro hc)))
    exact nx hul0.out ⟨by rw [← ex.out]; exact vv, by rw [ex2.out]; exact .inr ⟨tok, vv⟩, ho, hlt⟩
  have c1 : (j : Int) < ((Gs.getD i []).length : Int) := by omega
  have w3 := w_add1 (k := j) (by omega)
  have hg := hn.grip hil hjl
  have C3 := rown_fn h hn.hk (l.getD i noC) (hn.seq i hil).1 (hn.fits.at i) ((Gs.getD i []).getD j noG) hg.2 hg.1
  have g3 := gs_take hjl
  have c3 : j * 2 + 2 ≤ (Gs.getD i []).length * 2 := by omega
  have hsr := fun (hi1 : i + 1 < l.length) => @search_row h l Gs hn i j q hi1 hjl (by omega)
  have hrl : (rowsT j (keN h l Gs q i) (tcE h l Gs i)).length = j := rowsT_len
  have hsn := rowsT_snoc (k := j) (a := keN h l Gs q i) (f := tcE h l Gs i)
  have hlast : i + 1 = l.length → rowT (keN h l Gs q i j) (tcE h l Gs i j) = .sl 1 [.ept [vint ((Gs.getD i []).getD j noG).pos, tIs ((Gs.getD i []).getD j noG).fingers, vint (ownC h (l.getD i noC) ((Gs.getD i []).getD j noG)), .lit (.pointer none)] 0] .no := fun e => by
    have e1 : keN h l Gs q i j = 1 := by rw [keN, tl_last e]; simp; omega
    rw [e1, rowT]
    simp only [List.range_one, List.map_cons, List.map_nil, tcE_last e]
    rfl
  unfold Hand.val Chord.val Chord.cells Grip.val Grip.cells at C3
  replace hsr := Hid.mk hsr
  replace hlast := Hid.mk hlast
  replace hsn := Hid.mk hsn
  replace hg := Hid.mk hg
  have hap0 := Hid.mk hap
  have hjl0 := Hid.mk hjl
  clear hap hjl hj hgl hq0
  have x1 : hb < M'.next + 9 := by omega
  have x2 : ¬ hb = M'.next + 7 := by omega
  by_cases hl1 : i + 1 = l.length
  · have e5 : ((i : Int) == (l.length : Int) - 1) = true := by rw [beq_iff_eq]; omega
    have hrow := Hid.mk (hlast.out hl1)
    replace hl1 := Hid.mk hl1
    repeat' (with_reducible first | refine x_ops ?_ | refine wk ?_ | (with_reducible refine xc (C3) ?_) | ((first | refine gd1 ?_ ?_ | refine gd2 ?_ ?_ | refine gd3 ?_ ?_) <;> (first | exact @False.elim _ | intro hc)))
    refine x_appg (xs := rowsT j (keN h l Gs q i) (tcE h l Gs i)) (ys := [rowT (keN h l Gs q i j) (tcE h l Gs i j)]) vw (by rw [hrow.out]; exact vw) (hap0.out.mono (fun p hp _ => by rw [put_obj, if_neg (by omega), put_obj, if_neg (by omega)]) (by simp only [put_next]; omega)) (by rw [hrl, Nat.mul_one]) rfl (by omega) (by unfold Go.maxLen; omega) (by simp only [put_next]; omega) ?_
    intro tok2 M3 hap3 htk3 hn3 hf3
    have hn3' : M3.next = M'.next + 18 := hn3
    have old : ∀ p, p < M'.next → tok ≠ .own p → M3.obj p = M'.obj p := fun p hp hne => (hf3 p (by omega) hne).trans ((put_otherT _ _ (by omega)).trans (put_otherT _ _ (by omega)))
    have ho3 := (old hb hlt (apbT_box hap0.out ho)).trans ho
    have hlt3 : hb < M3.next := by omega
    replace hap3 := Hid.mk hap3
    replace ho3 := Hid.mk ho3
    replace hlt3 := Hid.mk hlt3
    clear hn3 hf3 htk3 old hn3' ho
    repeat' (with_reducible first | refine x_ops ?_ | refine wk ?_ | ((first | refine gd1 ?_ ?_ | refine gd2 ?_ ?_ | refine gd3 ?_ ?_) <;> (first | exact @False.elim _ | intro hc)))
    exact nx hjl0.out ⟨vv, ⟨tok2, by rw [hsn.out]; exact vv, hap3.out⟩, ho3.out, hlt3.out⟩
  have e5 : ((i : Int) == (l.length : Int) - 1) = false := by rw [beq_eq_false_iff_ne]; omega
  have hi1 : i + 1 < l.length := by omega
  obtain ⟨k9, h9⟩ : ∃ k9, t 9 = .sl (Gs.getD (i + 1) []).length (rowsT (Gs.getD (i + 1) []).length (keN h l Gs q (i + 1)) (tcE h l Gs (i + 1))) k9 := by
    rcases haf0.out with e | e
    · omega
    · exact e
  rw [h9] at b9
  replace hl1 := Hid.mk hl1
  repeat' (with_reducible first | refine x_ops ?_ | refine wk ?_ | (with_reducible refine xc (C3) ?_) | ((first | refine gd1 ?_ ?_ | refine gd2 ?_ ?_ | refine gd3 ?_ ?_) <;> (first | exact @False.elim _ | intro hc)))
  refine x_genT (fun t' M2 => (t' 1 = .sl l.length (l.flatMap Chord.cells) .no ∧ t' 2 = .sl l.length (Gs.map tGs) .no ∧ t' 3 = vint q ∧ t' 4 = .ptr hb 0 ∧ t' 9 = .sl (Gs.getD (i + 1) []).length (rowsT (Gs.getD (i + 1) []).length (keN h l Gs q (i + 1)) (tcE h l Gs (i + 1))) k9 ∧ t' 10 = vint i ∧ t' 11 = .sl j (rowsT j (keN h l Gs q i) (tcE h l Gs i)) tok ∧ t' 12 = vint j ∧ t' 14 = vint (owG h l Gs i j)) ∧
    (M2.obj hb = some (.box [tIs h.low, tIs h.high, tBs h.barre, vint h.top, vint h.jump, vint h.shift, vint h.lift, vint h.bar, vint h.stretch, vint h.slide] 25) ∧ hb < M2.next) ∧ Apb M2 tok j 171 1 ∧ ∃ gb, t' 13 = .ptr gb 0 ∧ gb < M2.next ∧ M2.obj gb = some (.box [vint (grp Gs i j).pos, tIs (grp Gs i j).fingers] 53))
    ⟨⟨vw, vw, vw, vw, vw, vw, vw, vw, by unfold owG; exact vv⟩, ⟨(put_otherT _ _ x2).trans ((put_otherT _ _ x2).trans ho), x1⟩, hap0.out.mono (fun p hp _ => (put_otherT _ _ (by omega)).trans (put_otherT _ _ (by omega))) (Nat.le_add_right _ _), M'.next + 7, vv, by show M'.next + 7 < M'.next + 9; omega, put_sameT _ _ _⟩ ?_
  clear b1 b2 b3 b4 b9 b10 h11 h12 ho hlt x1 x2 C3
  rintro t5 M2 ⟨⟨b1, b2, b3, b4, b9, b10, b11, b12, b14⟩, ⟨ho, hlt⟩, hap2, gb, b13, hgb, ogb⟩
  refine x_sum 91343852333181432387730283155301757249916995584 ?_ (R := fun e t m' => e = .nrm ∧ ∃ tok', t 11 = .sl (j + 1) (rowsT j (keN h l Gs q i) (tcE h l Gs i) ++ [rowT (keN h l Gs q i j) (tcE h l Gs i j)]) tok' ∧ Apb m' tok' (j + 1) 171 1 ∧ Ks tok M2 tok' ∧ Kt tok M2 m')
    (hsr.out hi1 b1 b2 b3 b4 ho hlt b9 b10 b11 hrl hap2 b13 ogb hgb b14) ?_
  · kernel_rfl
  rintro e t6 M3 ⟨rfl, tok2, b11', hap3, _, hkt⟩
  have ho3 := Hid.mk (hkt.box hap2 hlt ho)
  have hlt3 : hb < M3.next := Nat.lt_of_lt_of_le hlt hkt.1
  rw [← hsn.out] at b11'
  replace hap3 := Hid.mk hap3
  clear hkt b11 ho
  repeat' (with_reducible first | refine x_ops ?_ | refine wk ?_ | ((first | refine gd1 ?_ ?_ | refine gd2 ?_ ?_ | refine gd3 ?_ ?_) <;> (first | exact @False.elim _ | intro hc)))
  exact nx hjl0.out ⟨vw, ⟨tok2, vw, hap3.out⟩, ho3.out, hlt3⟩
end Go.Proofs.Ytojjdkoglhecbaa
namespace Go.Proofs.Ytojjdkoglhecbaa
open Go.RowKit
set_option maxRecDepth 100000

abbrev c_theorboref06_Table_b_p1 : VC := (.seq (.ops 0 [oo 16 .mv [.t 6], oo 4 .mv [(.c (.sl 0 [] .exact))], oo 5 .mv [.t 16]]) .ret)
abbrev c_theorboref06_Table_b_p2 : VC := (.seq (.ops 0 [oo 14 .mv [.t 6], oo 15 (.bin .neq) [.t 14, kk 0]]) (.cond (.t 15) c_theorboref06_Table_b_p1 .skip))
abbrev c_theorboref06_Table_b_p3 : VC := (.seq (.ops 0 [oo 34 .mv [.t 10], oo 4 .mv [(.c (.sl 0 [] .exact))], oo 5 .mv [.t 34]]) .ret)
abbrev c_theorboref06_Table_b_p4 : VC := (.ops 5 [oo 35 .mv [.t 7], oo 36 .mv [.t 9], ⟨(some 37), none, (.mksl 1 1 [(.sl 0 [] .exact)] [(0, 1)]), [.t 36], none⟩, oo 38 (.appM 38 1 24) [.t 35, .t 37], oo 7 .mv [.t 38]])
abbrev c_theorboref06_Table_b_p5 : VC := (.seq (.seq (.ops 0 [oo 32 .mv [.t 10], oo 33 (.bin .neq) [.t 32, kk 0]]) (.cond (.t 33) c_theorboref06_Table_b_p3 .skip)) c_theorboref06_Table_b_p4)
abbrev c_theorboref06_Table_b_p6 : VC := (.ops 0 [oo 21 .mv [.t 8], oo 22 (.bin .add) [.t 21, kk 1], oo 8 .mv [.t 22]])
abbrev c_theorboref06_Table_b_p7 : VC := (.seq (.block 1 (.seq (.ops 0 [od 24 (.ldA 10) [.t 2] [], oo 25 .mv [.t 1], oo 26 .mv [.t 8], oo 27 (.ixA 3) [.t 25, .t 26], od 28 (.ldA 3) [.t 27] [1, 2, 3], oo 29 (.call 33) [.t 24, .t 28], oo 23 .mv [.t 29], oo 30 (.ext 0) [.t 23], oo 31 (.ext 1) [.t 23], oo 9 .mv [.t 30], oo 10 .mv [.t 31]]) c_theorboref06_Table_b_p5)) c_theorboref06_Table_b_p6)
abbrev c_theorboref06_Table_b_p8 : VC := (.seq (.seq (.ops 0 [oo 17 .mv [.t 8], oo 18 .mv [.t 1], oo 19 .len [.t 18], oo 20 (.bin .lss) [.t 17, .t 19]]) (.cond (.t 20) .skip (.exit 0))) c_theorboref06_Table_b_p7)
@[go_sem] abbrev w_theorboref06_Table_b_p8 : Nat := 549755684784
abbrev c_theorboref06_Table_b_p10 : VC := (.seq (.ops 0 [oo 39 .mv [.t 7], oo 4 .mv [.t 39], oo 5 .mv [kk 0]]) .ret)
abbrev c_theorboref06_Table_b_p11 : VC := (.seq (.seq (.ops 0 [oo 8 .mv [kk 0]]) (.block 0 (.loop c_theorboref06_Table_b_p8))) c_theorboref06_Table_b_p10)
abbrev c_theorboref06_Table_b_p12 : VC := (.seq (.ops 0 [oo 7 .mv [(.c (.sl 0 [] .exact))]]) c_theorboref06_Table_b_p11)
abbrev c_theorboref06_Table_b_p13 : VC := (.seq (.seq (.ops 0 [oo 11 (.ldA 10) [.t 2], oo 12 .mv [.t 1], oo 13 (.call 113) [.t 11, .t 12], oo 6 .mv [.t 13]]) c_theorboref06_Table_b_p2) c_theorboref06_Table_b_p12)
def c_theorboref06_Table_b : VC := (.seq (.ops 3 [oo 2 (.box 25) [.t 0], oo 4 .mv [(.c (.sl 0 [] .exact))], oo 5 .mv [kk 0]]) c_theorboref06_Table_b_p13)
theorem k_theorboref06_Table_b : Comp Try.prog (fun n => [38,1000038].contains n) gtab 76 40 c_theorboref06_Table_b [.t 4, .t 5] := ⟨⟨Try.f76, _, Try.func76, rfl, rfl, kr, kr⟩⟩
abbrev c_theorboref06_Through_p1 : VC := (.seq (.ops 0 [⟨(some 21), none, (.build [(.sl 0 [] .exact), li 0] []), [], none⟩, oo 22 .mv [.t 11], ⟨none, none, (.st 2), [.t 8, .t 21], none⟩, oo 9 .mv [.t 22]]) .ret)
abbrev c_theorboref06_Through_p2 : VC := (.seq (.ops 0 [⟨(some 31), none, (.build [(.sl 0 [] .exact), li 0] []), [], none⟩, ⟨none, none, (.st 2), [.t 8, .t 31], none⟩, oo 9 .mv [kk 1]]) .ret)
abbrev c_theorboref06_Through_p3 : VC := (.seq (.ops 0 [⟨(some 40), none, (.build [(.sl 0 [] .exact), li 0] []), [], none⟩, ⟨none, none, (.st 2), [.t 8, .t 40], none⟩, oo 9 .mv [kk 61]]) .ret)
abbrev c_theorboref06_Through_p4 : VC := (.seq (.ops 0 [⟨(some 53), none, (.build [(.sl 0 [] .exact), li 0] []), [], none⟩, ⟨none, none, (.st 2), [.t 8, .t 53], none⟩, oo 9 .mv [kk 62]]) .ret)
abbrev c_theorboref06_Through_p5 : VC := (.seq (.ops 0 [oo 54 .mv [.t 12], oo 55 (.ixA 2) [.t 54, kk 0], oo 56 (.ldA 2) [.t 55], ⟨none, none, (.st 2), [.t 8, .t 56], none⟩, oo 9 .mv [kk 0]]) .ret)
abbrev c_theorboref06_Through_p6 : VC := (.seq (.seq (.ops 0 [oo 50 .mv [.t 12], oo 51 .len [.t 50], oo 52 (.bin .eql) [.t 51, kk 0]]) (.cond (.t 52) c_theorboref06_Through_p4 .skip)) c_theorboref06_Through_p5)
abbrev c_theorboref06_Through_p7 : VC := (.seq (.ops 0 [oo 46 (.ldA 10) [.t 4], oo 47 .mv [.t 1], oo 48 .mv [.t 10], oo 49 (.call 77) [.t 46, .t 47, .t 48, kk 1], oo 12 .mv [.t 49]]) c_theorboref06_Through_p6)
abbrev c_theorboref06_Through_p8 : VC := (.seq (.ops 0 [oo 41 .mv [.t 10], oo 42 .mv [.t 2], oo 43 (.ldA 2) [.t 7], ⟨(some 44), none, (.mksl 1 2 [li 0, (.sl 0 [] .exact)] [(0, 2)]), [.t 43], none⟩, oo 45 (.ixA 1) [.t 41, .t 42], ⟨none, none, (.st 1), [.t 45, .t 44], none⟩]) c_theorboref06_Through_p7)
abbrev c_theorboref06_Through_p9 : VC := (.seq (.seq (.ops 0 [od 32 (.ldA 10) [.t 4] [], oo 33 .mv [.t 1], oo 34 .mv [.t 2], oo 35 (.ixA 3) [.t 33, .t 34], od 36 (.ldA 3) [.t 35] [1, 2, 3], od 37 (.ldA 2) [.t 7] [], oo 38 (.call 80) [.t 32, .t 36, .t 37], oo 39 (.un .not) [.t 38]]) (.cond (.t 39) c_theorboref06_Through_p3 .skip)) c_theorboref06_Through_p8)
abbrev c_theorboref06_Through_p10 : VC := (.seq (.seq (.ops 0 [oo 23 .mv [.t 2], oo 24 (.bin .lss) [.t 23, kk 0], oo 25 .mv [.t 24], og 26 25 false .mv [.t 2], og 27 25 false .mv [.t 1], og 28 25 false .len [.t 27], og 29 25 false (.bin .geq) [.t 26, .t 28], oo 30 .pick [.t 25, (.c (.lit (.bool true))), .t 29]]) (.cond (.t 30) c_theorboref06_Through_p2 .skip)) c_theorboref06_Through_p9)
abbrev c_theorboref06_Through_p11 : VC := (.seq (.seq (.ops 0 [oo 19 .mv [.t 11], oo 20 (.bin .neq) [.t 19, kk 0]]) (.cond (.t 20) c_theorboref06_Through_p1 .skip)) c_theorboref06_Through_p10)
abbrev c_theorboref06_Through_p12 : VC := (.seq (.ops 0 [oo 14 (.ldA 10) [.t 4], oo 15 .mv [.t 1], oo 16 (.call 76) [.t 14, .t 15], oo 13 .mv [.t 16], oo 17 (.ext 0) [.t 13], oo 18 (.ext 1) [.t 13], oo 10 .mv [.t 17], oo 11 .mv [.t 18]]) c_theorboref06_Through_p11)
def c_theorboref06_Through : VC := (.seq (.ops 4 [oo 4 (.box 25) [.t 0], oo 7 (.box 53) [.t 3], ⟨(some 8), none, (.alloc 40 [(.sl 0 [] .exact), li 0]), [], none⟩, oo 9 .mv [kk 0]]) c_theorboref06_Through_p12)
theorem k_theorboref06_Through : Comp Try.prog nobx gtab 42 57 c_theorboref06_Through [(.c 8 2 true), .t 9] := ⟨⟨Try.f42, _, Try.func42, rfl, rfl, kr, kr⟩⟩
end Go.Proofs.Ytojjdkoglhecbaa
namespace Go.Proofs.Ytojjdkoglhecbaa
open Go.RowKit

theorem rdS_one {m : Mm} {s : St} {y : Opd} {v : V} {k : Tok} (h : s.ev y = .sl 1 [v] k) : rdS m 1 (s.ev y) = some (1, [v]) := by rw [h]; rfl
/-- What Table leaves. -/
def RtPost (h : Hand) (l : List Chord) (m : Mm) (r : V) (M' : Mm) : Prop :=
  m.next ≤ M'.next ∧ (∀ q, q < m.next → M'.obj q = m.obj q) ∧ ((¬ wvE h l = 0 ∧ r = .tup [.sl 0 [] .exact, vint (wvE h l)]) ∨
    (wvE h l = 0 ∧ ∃ nq, r = .tup [bxG l.length nq, vint 0] ∧ (0 < l.length → m.next ≤ nq ∧ nq < M'.next ∧ M'.obj nq = some (.box ((tabG h l).map tGs) 38))))
theorem rtPost_ex (h : Hand) (l : List Chord) (m : Mm) : ∃ r M', RtPost h l m r M' := by
  by_cases hw : wvE h l = 0
  · refine ⟨_, (⟨m.obj, m.next + 1⟩ : Mm).put m.next (.box ((tabG h l).map tGs) 38), Nat.le_succ _, fun q hq => put_other _ _ (by omega), .inr ⟨hw, m.next, rfl, fun _ => ⟨Nat.le_refl _, Nat.lt_succ_self _, put_same _ _ _⟩⟩⟩
  · exact ⟨_, m, Nat.le_refl _, fun _ _ => rfl, .inl ⟨hw, rfl⟩⟩

set_option maxHeartbeats 4000000 in
theorem rTable_sfn (h : Hand) (l : List Chord) (hl : Fits l) (m : Mm) : SFn Try.prog Gd 76 [h.val, tCs l] m (RtPost h l m) := by
  refine SFn.of_vxS k_theorboref06_Table_b (by simp) ?_
  have C1 := rbothck_fn h l hl
  unfold c_theorboref06_Table_b Hand.val tCs
  unfold Hand.val tCs at C1
  by_cases he : bothE h l = 0
  case neg =>
    have e1 : (bothE h l == 0) = false := by rw [beq_eq_false_iff_ne]; exact he
    have hw : wvE h l = bothE h l := by rw [wvE, if_neg he]
    have hf : ∀ M' : Mm, m.next ≤ M'.next → (∀ q, q < m.next → M'.obj q = m.obj q) → RtPost h l m (.tup [.sl 0 [] .exact, vint (bothE h l)]) M' := fun M' h1 h2 => ⟨h1, h2, .inl ⟨by rw [hw]; exact he, by rw [hw]⟩⟩
    replace hf := Hid.mk hf
    clear he hw
    repeat' (with_reducible first | refine x_ops ?_ | refine wk ?_ | (with_reducible refine xc (C1) ?_) | ((first | refine gd1 ?_ ?_ | refine gd2 ?_ ?_ | refine gd3 ?_ ?_) <;> (first | exact @False.elim _ | intro hc)))
    exact ⟨.inr rfl, .tup [.sl 0 [] .exact, vint (bothE h l)], vv, hf.out _ (by show m.next ≤ m.next + 3; omega) fun q hq => put_other _ _ (by omega)⟩
  obtain ⟨hk, h4, hseq⟩ := both_ok he
  rw [he] at C1
  repeat' (with_reducible first | refine x_ops ?_ | refine wk ?_ | (with_reducible refine xc (C1) ?_) | ((first | refine gd1 ?_ ?_ | refine gd2 ?_ ?_ | refine gd3 ?_ ?_) <;> (first | exact @False.elim _ | intro hc)))
  clear C1
  refine x_genM (fun t M => (t 1 = .sl l.length (l.flatMap Chord.cells) .no ∧ t 7 = .sl 0 [] .exact ∧ t 8 = vint 0) ∧ m.next ≤ M.next ∧ (∀ q, q < m.next → M.obj q = m.obj q) ∧ ∃ hb, t 2 = .ptr hb 0 ∧ m.next ≤ hb ∧ hb < M.next ∧ M.obj hb = some (.box [tIs h.low, tIs h.high, tBs h.barre, vint h.top, vint h.jump, vint h.shift, vint h.lift, vint h.bar, vint h.stretch, vint h.slide] 25))
    ⟨⟨vv, vv, vv⟩, by show m.next ≤ m.next + 3; omega, fun q hq => put_other _ _ (by omega), m.next, vv, Nat.le_refl _, by show m.next < m.next + 3; omega, by ((refine ve ?_; try exact True.intro)); simp [tIs, tBs]⟩ ?_
  rintro t0 M0' ⟨⟨a1, a7, a8⟩, hnx0, hfr0, hb, a2, hb0, hb1, ho0⟩
  refine x_loopW w_theorboref06_Table_b_p8 kr l.length (fun k t M => t 8 = vint (k : Int) ∧ (M.obj hb = some (.box [tIs h.low, tIs h.high, tBs h.barre, vint h.top, vint h.jump, vint h.shift, vint h.lift, vint h.bar, vint h.stretch, vint h.slide] 25) ∧ hb < M.next) ∧
    (∀ i, i < k → (grpA h (l.getD i noC)).length ≤ 200) ∧ (m.next ≤ M.next ∧ ∀ q, q < m.next → M.obj q = m.obj q) ∧ ∃ nq, t 7 = bxG k nq ∧ (0 < k → (m.next ≤ nq ∧ nq < M.next ∧ nq ≠ hb) ∧ M.obj nq = some (.box (((tabG h l).take k).map tGs) 38))) ?_ ?_
  · exact ⟨a8, ⟨ho0, hb1⟩, fun i hi => by omega, ⟨hnx0, hfr0⟩, 0, a7, fun h0 => by omega⟩
  rintro k t M hkl ⟨h8, ⟨ho, hlt⟩, hcnt, ⟨hnx, hfr⟩, nq, h7, hq⟩
  by_cases hlt2 : k < l.length
  case neg =>
    have hke : k = l.length := by omega
    subst hke
    have c1 : ¬ (l.length : Int) < (l.length : Int) := by omega
    have hw : wvE h l = 0 := by rw [wvE, if_pos he, if_pos hcnt]
    have htk : (tabG h l).take l.length = tabG h l := List.take_of_length_le (by rw [tabG, List.length_map]; exact Nat.le_refl _)
    rw [htk] at hq
    have hf : RtPost h l m (.tup [bxG l.length nq, vint 0]) M := ⟨hnx, hfr, .inr ⟨hw, nq, rfl, fun h0 => ⟨(hq h0).1.1, (hq h0).1.2.1, (hq h0).2⟩⟩⟩
    replace hf := Hid.mk hf
    clear hq hcnt he hw htk hkl hlt2 a7 a8 hfr hnx hfr0
    repeat' (with_reducible first | refine x_ops ?_ | refine wk ?_ | ((first | refine gd1 ?_ ?_ | refine gd2 ?_ ?_ | refine gd3 ?_ ?_) <;> (first | exact @False.elim _ | intro hc)))
    exact ⟨.inr rfl, .tup [bxG l.length nq, vint 0], vw, hf.out⟩
  have C2 := rGrips_fn h (l.getD k noC) (hl.at k)
  rw [grR_net hk (hseq k hlt2).1] at C2
  have g1 := chs_take hlt2
  have g2 := chs_len l
  have c1 : k * 3 + 3 ≤ l.length * 3 := by omega
  have c2 : (k : Int) < (l.length : Int) := by omega
  have w1 := w_add1 (k := k) (by omega)
  unfold Hand.val Chord.val Chord.cells at C2
  replace hlt2 := Hid.mk hlt2
  replace h4 := Hid.mk h4
  clear a7 a8
  by_cases hc2 : (grpA h (l.getD k noC)).length ≤ 200
  case neg =>
    have hw : wvE h l = 2 := by rw [wvE, if_pos he, if_neg (fun hh => hc2 (hh k hlt2.out))]
    have hf : ∀ M' : Mm, m.next ≤ M'.next → (∀ q, q < m.next → M'.obj q = m.obj q) → RtPost h l m (.tup [.sl 0 [] .exact, vint 2]) M' := fun M' h1 h2 => ⟨h1, h2, .inl ⟨by rw [hw]; decide, by rw [hw]⟩⟩
    rw [if_neg hc2] at C2
    unfold tGs at C2
    have hf2 := Hid.mk (hf M hnx hfr)
    clear hq hcnt hc2 hw he hf hfr hnx hfr0
    dsimp only at C2 ⊢
    repeat' (with_reducible first | refine x_ops ?_ | refine wk ?_ | (with_reducible refine xc (C2) ?_) | ((first | refine gd1 ?_ ?_ | refine gd2 ?_ ?_ | refine gd3 ?_ ?_) <;> (first | exact @False.elim _ | intro hc)))
    exact ⟨.inr rfl, .tup [.sl 0 [] .exact, vint 2], vv, hf2.out⟩
  have hcn : ∀ i, i < k + 1 → (grpA h (l.getD i noC)).length ≤ 200 := fun i hi => by
    by_cases hik : i = k
    · subst hik; exact hc2
    · exact hcnt i (by omega)
  rw [if_pos hc2] at C2
  have htg : ((tabG h l).take (k + 1)).map tGs = ((tabG h l).take k).map tGs ++ [tGs (grpA h (l.getD k noC))] := by
    rw [take_map_get tGs _ [] (by rw [tabG, List.length_map]; exact hlt2.out), tabG_at hlt2.out]
  have hl1 : (((tabG h l).take k).map tGs).length = k := by rw [List.length_map, List.length_take, tabG, List.length_map]; have := hlt2.out; omega
  have hone : (((tabG h l).take k).map tGs).all V.one = true := by
    rw [List.all_eq_true]; intro v hv; obtain ⟨y, _, rfl⟩ := List.mem_map.1 hv; rfl
  unfold tGs at C2
  replace htg := Hid.mk htg
  replace hcn := Hid.mk hcn
  replace hl1 := Hid.mk hl1
  replace hone := Hid.mk hone
  replace hq := Hid.mk hq
  replace hfr := Hid.mk hfr
  replace hnx := Hid.mk hnx
  have ho' := Hid.mk ho
  generalize grpA h (l.getD k noC) = G at *
  clear hc2 hcnt he hfr0
  dsimp only at C2
  repeat' (with_reducible first | refine x_ops ?_ | refine wk ?_ | (with_reducible refine xc (C2) ?_) | ((first | refine gd1 ?_ ?_ | refine gd2 ?_ ?_ | refine gd3 ?_ ?_) <;> (first | exact @False.elim _ | intro hc)))
  refine x_appG (k := k) (oq := nq) (cs := ((tabG h l).take k).map tGs) (v := .sl G.length (G.flatMap Grip.cells) .no) vw (rdS_one (k := .exact) vw) (fun h0 => (hq.out h0).2) hl1.out hone.out (by have := hlt2.out; have := h4.out; omega) (by unfold Go.maxLen; have := hlt2.out; have := h4.out; omega) ?_
  intro m' hn' hf' hb'
  replace hn' : m'.next = M.next + 5 := hn'
  have old : ∀ q, q < M.next → (0 < k → q ≠ nq) → m'.obj q = M.obj q := fun q hq1 hq2 => hf' q (by show ¬ q = M.next + 3; omega) hq2
  have ho2 := (old hb hlt (fun h0 => fun e => (hq.out h0).1.2.2 e.symm)).trans ho'.out
  have hn2 : hb < m'.next := by omega
  have hfr2 : m.next ≤ m'.next ∧ ∀ q, q < m.next → m'.obj q = m.obj q := ⟨by have := hnx.out; omega, fun q hq1 => (old q (by have := hnx.out; omega) (fun h0 => by have := (hq.out h0).1.1; omega)).trans (hfr.out q hq1)⟩
  have hb2 : m'.obj (M.next + 3) = some (.box (((tabG h l).take k).map tGs ++ [tGs G]) 38) := hb'
  rw [← htg.out] at hb2
  have hnx2 := hnx.out
  replace hb2 := Hid.mk hb2
  replace hfr2 := Hid.mk hfr2
  replace hn' := Hid.mk hn'
  clear old hf' hb' ho
  repeat' (with_reducible first | refine x_ops ?_ | refine wk ?_ | ((first | refine gd1 ?_ ?_ | refine gd2 ?_ ?_ | refine gd3 ?_ ?_) <;> (first | exact @False.elim _ | intro hc)))
  exact nx hlt2.out ⟨vv, ⟨ho2, hn2⟩, hcn.out, hfr2.out, M.next + 3, vv, fun _ => ⟨⟨by omega, by first | exact (show M.next + 3 < M.next + 5 by omega) | exact (show M.next + 3 < m'.next by have := hn'.out; omega), by omega⟩, hb2.out⟩⟩
end Go.Proofs.Ytojjdkoglhecbaa
namespace Go.Proofs.Ytojjdkoglhecbaa
open Go.RowKit

section
variable {h : Hand} {l : List Chord} {Gs : List (List Grip)}
theorem lsI_first {T : List Way} {sub : Nat → List Way} {cnt : Nat} {I : Nat → Bool → List Way → Prop} (hI : LsI T sub cnt I) {W : List Way} (h0 : I 0 false W) (hW : W ≠ []) : 0 < T.length ∧ T.getD 0 noW = bstW W := by
  obtain ⟨h1, h2⟩ := bstW_ok hW
  obtain ⟨h3, h4, _⟩ := hI.pop 0 W _ _ h0 h1 h2 (List.perm_cons_erase h1).symm
  exact ⟨h3, h4⟩
theorem rt_first (hn : NetOk h l Gs) (hl : 0 < l.length) (hh : HasF h l Gs) : 0 < (rtT h l Gs).length ∧ (rtT h l Gs).getD 0 noW = rootW h l Gs := lsI_first (rtI_ls hn hl) (bag_root hn hl) hh
theorem rt_none (hn : NetOk h l Gs) (hl : 0 < l.length) (hh : ¬ HasF h l Gs) : rtT h l Gs = [] := by
  have h0 := bag_root hn hl
  have e : rtL h l Gs (rsT h l Gs 0).length = [] := Classical.byContradiction hh
  rw [e] at h0
  have := (rtI_ls hn hl).fin 0 h0
  exact List.eq_nil_of_length_eq_zero this.symm
theorem tl_bst (hn : NetOk h l Gs) (hh : HasF h l Gs) {i : Nat} (hi : i < l.length) : (tl h l Gs i (kS h l Gs i)).getD 0 noW = bstW (wayF h l Gs i (kS h l Gs i)) ∧ (bstW (wayF h l Gs i (kS h l Gs i))).2.2 = 0 := by
  obtain ⟨h1, h2⟩ := kS_ok hn hh hi
  obtain ⟨w1, _, w3, _⟩ := wayF_ok hn hi h1 h2
  exact ⟨(lsI_first (ndI_ls hn hi h1) (ndI_0 hn hi h1) w1).2, w3⟩
theorem pth_best (hn : NetOk h l Gs) (hh : HasF h l Gs) : ∀ d i, l.length - 1 - i = d → i < l.length → grps Gs i (pth h l Gs i (kS h l Gs i) 0) = (List.range (l.length - i)).map fun y => (Gs.getD (i + y) []).getD (kS h l Gs (i + y)) noG := by
  intro d
  induction d with
  | zero =>
    intro i hd hi
    have e : i + 1 = l.length := by omega
    rw [pth_last e, show l.length - i = 1 by omega]; rfl
  | succ d ih =>
    intro i hd hi
    have hi1 : i + 1 < l.length := by omega
    obtain ⟨h1, h2⟩ := tl_bst hn hh hi
    rw [pth_s hi1, h1, h2]
    have h3 : (bstW (wayF h l Gs i (kS h l Gs i))).2.1.toNat = kS h l Gs (i + 1) := rfl
    rw [h3, grps, show ((0 : Int)).toNat = 0 from rfl, ih (i + 1) (by omega) hi1, show l.length - i = (l.length - (i + 1)) + 1 by omega, List.range_succ_eq_map, List.map_cons, List.map_map]
    refine congr (congrArg _ ?_) (List.map_congr_left fun y _ => ?_)
    · rw [grp, Nat.add_zero]
    · simp only [Function.comp_apply]
      rw [show i + y.succ = i + 1 + y by omega]
/-- What first answers, and the first fingering that is listed. -/
theorem fst_fg (hn : NetOk h l Gs) : fstR h l Gs = match fgL h l Gs 1 with | [] => ([], 0, 62) | f :: _ => (f.1, f.2, 0) := by
  by_cases h0 : l.length = 0
  · rw [fstR, if_pos h0, fgL, if_pos h0]
  rw [fstR, if_neg h0, fgL, if_neg h0]
  by_cases hh : HasF h l Gs
  · obtain ⟨h1, h2⟩ := rt_first hn (by omega) hh
    obtain ⟨q, q1, q2, q3⟩ := rootW_ok hh
    have ht : (rtT h l Gs).take 1 = [rootW h l Gs] := by
      rw [← h2]
      cases hT : rtT h l Gs with
      | nil => rw [hT] at h1; cases h1
      | cons w T => rfl
    rw [if_pos hh, ht]
    have hp := pth_best hn hh _ 0 rfl (by omega)
    have e1 : (rootW h l Gs).2.1.toNat = kS h l Gs 0 := rfl
    have e2 : (rootW h l Gs).2.2.toNat = 0 := by rw [q1]; rfl
    simp only [List.map_cons, List.map_nil, fgW, e1, e2, hp, pathU, Nat.zero_add, Nat.sub_zero]
  · rw [if_neg hh, rt_none hn (by omega) hh]; rfl
theorem grps_ok (hn : NetOk h l Gs) : ∀ d i, l.length - 1 - i = d → i < l.length → ∀ k r, k < (Gs.getD i []).length → r < (tl h l Gs i k).length →
    (grps Gs i (pth h l Gs i k r)).length = l.length - i ∧ ∀ g ∈ grps Gs i (pth h l Gs i k r), ∃ j m, j < l.length ∧ m < (Gs.getD j []).length ∧ g = grp Gs j m := by
  intro d
  induction d with
  | zero =>
    intro i hd hi k r hk hr
    have e : i + 1 = l.length := by omega
    rw [pth_last e]
    refine ⟨by rw [grps, grps, List.length_singleton]; omega, fun g hg => ⟨i, k, hi, hk, ?_⟩⟩
    rw [grps, grps, List.mem_singleton] at hg; exact hg
  | succ d ih =>
    intro i hd hi k r hk hr
    have hi1 : i + 1 < l.length := by omega
    obtain ⟨m, s, h5, h6, h7⟩ := tl_at hn hi1 hk hr
    have h8 := ih (i + 1) (by omega) hi1 m s h5 h6
    rw [pth_s hi1, h7]
    simp only [Int.toNat_natCast]
    rw [grps]
    refine ⟨by rw [List.length_cons, h8.1]; omega, fun g hg => ?_⟩
    rcases List.mem_cons.1 hg with rfl | hg
    · exact ⟨i, k, hi, hk, rfl⟩
    · exact h8.2 g hg
theorem fg_fits (hn : NetOk h l Gs) {q : Nat} {f : List Grip × Int} (hf : f ∈ fgL h l Gs q) : FitsG f.1 := by
  have h4 := hn.len
  by_cases h0 : l.length = 0
  · rw [fgL, if_pos h0, List.mem_singleton] at hf
    subst hf
    exact ⟨by simp, fun g hg => by cases hg⟩
  rw [fgL, if_neg h0, List.mem_map] at hf
  obtain ⟨w, hw, rfl⟩ := hf
  obtain ⟨m, r, m1, m2, rfl⟩ := mem_mrg.1 (List.mem_of_mem_take hw)
  rw [rtC, List.length_map] at m2
  have h1 := grps_ok hn _ 0 rfl (by omega) m r m1 m2
  rw [fgW]
  simp only [Int.toNat_natCast]
  refine ⟨by rw [h1.1]; omega, fun g hg => ?_⟩
  obtain ⟨j, k, hj, hk, rfl⟩ := h1.2 g hg
  have h2 := (hn.grip hj hk).2
  have h3 := (hn.fits.at j).1
  rw [grp, h2]; omega
theorem fst_fits (hn : NetOk h l Gs) : FitsG (fstR h l Gs).1 := by
  rw [fst_fg hn]
  cases hF : fgL h l Gs 1 with
  | nil => exact ⟨by simp, fun g hg => by cases hg⟩
  | cons f F => exact fg_fits hn (q := 1) (by rw [hF]; exact List.mem_cons_self ..)
end
end Go.Proofs.Ytojjdkoglhecbaa
namespace Go.Proofs.Ytojjdkoglhecbaa
open Go.RowKit

/-- A memory with a lister behind all that was there. -/
noncomputable def lsM (h : Hand) (l : List Chord) (Gs : List (List Grip)) (m : Mm) (H : List Way) : Mm :=
  ⟨fun q => if q < m.next then m.obj q else if q = m.next then some (.box [netE h l Gs, .gsl (m.next + 1) l.length 1, .ptr (m.next + 2) 0] 162)
    else if q = m.next + 1 then some (.box (rwN ((List.range l.length).map (m.next + 4 + ·)) Gs) 163)
    else if q = m.next + 2 then some (.box [.sl 0 [] .exact, .gsl (m.next + 3) H.length 3, .fn 110 [], vbool false] 159)
    else if q = m.next + 3 then some (.box (wyC (H ++ [])) 154)
    else some (.box (nilR (Gs.getD (q - (m.next + 4)) []).length) 150), m.next + 4 + l.length⟩
theorem lsPost_ex (h : Hand) (l : List Chord) (Gs : List (List Grip)) (m : Mm) : ∃ r M', LsPost h l Gs m r M' := by
  obtain ⟨H, h1, h2⟩ := heap_ex (rtL h l Gs (rsT h l Gs 0).length)
  have hr : ∀ y, y < l.length → ((List.range l.length).map (m.next + 4 + ·)).getD y 0 = m.next + 4 + y := fun y hy => by
    rw [List.getD_eq_getElem?_getD, List.getElem?_map, List.getElem?_range hy]; rfl
  have o : ∀ q, (lsM h l Gs m H).obj q = if q < m.next then m.obj q else if q = m.next then some (.box [netE h l Gs, .gsl (m.next + 1) l.length 1, .ptr (m.next + 2) 0] 162)
    else if q = m.next + 1 then some (.box (rwN ((List.range l.length).map (m.next + 4 + ·)) Gs) 163)
    else if q = m.next + 2 then some (.box [.sl 0 [] .exact, .gsl (m.next + 3) H.length 3, .fn 110 [], vbool false] 159)
    else if q = m.next + 3 then some (.box (wyC (H ++ [])) 154)
    else some (.box (nilR (Gs.getD (q - (m.next + 4)) []).length) 150) := fun _ => rfl
  have n : (lsM h l Gs m H).next = m.next + 4 + l.length := rfl
  refine ⟨.ptr m.next 0, lsM h l Gs m H, by omega, fun q hq => by rw [o, if_pos hq], m.next, m.next + 1, m.next + 2, (List.range l.length).map (m.next + 4 + ·), rfl, ⟨Nat.le_refl _, by omega⟩, ⟨_, by rw [o, if_neg (by omega), if_pos rfl]⟩, fun hl => ⟨⟨?_, ?_, ?_, ?_, ?_, ?_, ?_, ?_, ?_⟩, ⟨by omega, by omega⟩, .gsl (m.next + 3) H.length 3, H, ?_, .inr ⟨m.next + 3, [], rfl, by omega, ?_⟩, h1, h2⟩⟩
  · rw [o, if_neg (by omega), if_pos rfl]
  · rw [o, if_neg (by omega), if_neg (by omega), if_pos rfl]
  · intro y _ hy
    rw [hr y hy, o, if_neg (by omega), if_neg (by omega), if_neg (by omega), if_neg (by omega), if_neg (by omega), Nat.add_sub_cancel_left]
  · intro y z hyz hz
    rw [hr y (by omega), hr z hz]; omega
  · omega
  · omega
  · intro y hy; rw [hr y hy]; omega
  · omega
  · intro y hy; rw [hr y hy]; omega
  · rw [o, if_neg (by omega), if_neg (by omega), if_neg (by omega), if_pos rfl]
  · rw [o, if_neg (by omega), if_neg (by omega), if_neg (by omega), if_neg (by omega), if_pos rfl]

/-- What first answers, as a value. -/
noncomputable def fstV (r : List Grip × Int × Int) : V := .tup [.agg [tGs r.1, vint r.2.1], vint r.2.2]
set_option maxHeartbeats 4000000 in
theorem first_fn {h : Hand} {l : List Chord} {Gs : List (List Grip)} (hn : NetOk h l Gs) : Fn Try.prog Gd 70 [netE h l Gs] (fstV (fstR h l Gs)) := by
  refine Fn.of_vx0 k_hand_first (by simp) (by rw [V.pures, V.pures]; rfl) ?_
  have LS := fun m => list_sfn hn m
  have LE := fun m => lsPost_ex h l Gs m
  have FG := fun m0 M r0 (hP : LsPost h l Gs m0 r0 M) => fing_sfn hn hP
  have FE := fgPost_ex h l Gs
  unfold c_hand_first
  replace hn := Hid.mk hn
  repeat' (with_reducible first | refine x_ops ?_ | refine wk ?_ | ((first | refine gd1 ?_ ?_ | refine gd2 ?_ ?_ | refine gd3 ?_ ?_) <;> (first | exact @False.elim _ | intro hc)))
  refine x_scallR [netE h l Gs] vw (LS _) (LE _) ?_
  intro r1 M1 hP1
  have n1 : 11 ≤ M1.next := hP1.1
  have k0 : M1.obj 0 = some (.box [.sl 0 [] .exact, vint 0] 40) := (hP1.2.1 0 (Nat.zero_lt_succ 10)).trans (by (dsimp only; exact put_same _ _ _))
  replace FG := FG _ _ _ hP1
  have FE := FE M1
  clear LS LE
  replace hP1 := Hid.mk hP1
  repeat' (with_reducible first | refine x_ops ?_ | refine wk ?_ | ((first | refine gd1 ?_ ?_ | refine gd2 ?_ ?_ | refine gd3 ?_ ?_) <;> (first | exact @False.elim _ | intro hc)))
  refine x_scallR [r1, vint 0] vw FG FE ?_
  rintro r2 M2 ⟨fr, G, c, is, tok, rfl, hr⟩
  have n2 : 11 ≤ M2.next := Nat.le_trans n1 fr.1
  have k2 := (fr.2 0 _ _ (by omega) k0 (by decide) (by decide) (by decide)).trans k0
  clear FG FE k0 fr
  replace hr := Hid.mk hr
  cases is
  · have hf : fstR h l Gs = ([], 0, 62) := by rcases hr.out with ⟨h1, _⟩ | ⟨_, h1⟩
                                              · cases h1
                                              · exact h1
    rw [hf]
    repeat' (with_reducible first | refine x_ops ?_ | refine wk ?_ | ((first | refine gd1 ?_ ?_ | refine gd2 ?_ ?_ | refine gd3 ?_ ?_) <;> (first | exact @False.elim _ | intro hc)))
    exact finV_ret vv (.tup (.cons (.agg (.cons (.sl _ _ _) (.cons (.lit _) .nil))) (.cons (.lit _) .nil)))
  · have hf : fstR h l Gs = (G, c, 0) := by rcases hr.out with ⟨_, h1⟩ | ⟨h1, _⟩
                                            · exact h1
                                            · cases h1
    rw [hf]
    repeat' (with_reducible first | refine x_ops ?_ | refine wk ?_ | ((first | refine gd1 ?_ ?_ | refine gd2 ?_ ?_ | refine gd3 ?_ ?_) <;> (first | exact @False.elim _ | intro hc)))
    exact finV_ret vv (.tup (.cons (.agg (.cons (.sl _ _ _) (.cons (.lit _) .nil))) (.cons (.lit _) .nil)))

end Go.Proofs.Ytojjdkoglhecbaa
namespace Go.Proofs.Ytojjdkoglhecbaa
open Go.RowKit

section
variable {P : Program} {G : Ground}
/-- A call that only computes is handed boxes, its arguments as they are. -/
theorem x_cutR {base i : Nat} {d : Option Nat} {f : FuncId} {xs : List Opd} {l : List VI} {s : St} {K : St → Prop} {us : List V} {r : V} (vs : List V) (he : xs.map s.ev = vs) (S : Nat → Bool) (hf : Fn P G f us r) (hv : Vws s.m S vs us)
    (h : goR P G base (some ⟨putT s.t d r, s.m.freeze S⟩) l (i + 1) K) : vrun P G base i (⟨d, none, .call f, xs, none⟩ :: l) s K := x_cut S hf (by rw [he]; exact hv) h
end
theorem blk_put {E : Env} {m : Mm} {q : Nat} {cs cs' : List V} {t : TypeId} (ho : m.obj q = some (.box cs t)) {i b : Nat} : BlkOf E (m.put q (.box cs' t)) i b ↔ BlkOf E m i b := by
  by_cases e : i = q
  · subst e
    constructor
    · rintro (⟨a, s, h1, h2⟩ | ⟨n, e, z, c, h1, _⟩)
      · exact .inl ⟨_, _, ho, h2⟩
      · rw [put_same] at h1; cases h1
    · rintro (⟨a, s, h1, h2⟩ | ⟨n, e, z, c, h1, _⟩)
      · exact .inl ⟨_, _, put_same _ _ _, h2⟩
      · rw [ho] at h1; cases h1
  · unfold BlkOf; rw [put_other _ _ e]
/-- What is known of a box's cells, in part forgotten. -/
theorem MemR.weak {E : Env} {m : Mm} {w : World} (hm : MemR E m w) {q : Nat} {cs cs' : List V} {t : TypeId} (ho : m.obj q = some (.box cs t)) (hl : cs'.length = cs.length) (hv : ∀ l, VRs E cs l → VRs E cs' l) : MemR E (m.put q (.box cs' t)) w where
  stable := hm.stable
  fresh := fun i hi => by
    obtain ⟨h1, h2, h3⟩ := hm.fresh i hi
    refine ⟨h1, h2, ?_⟩
    rw [put_other _ _ (fun e => by subst e; rw [ho] at h3; cases h3)]; exact h3
  box := fun i a s h => by
    by_cases e : i = q
    · subst e
      rw [put_same] at h
      injection h with h; injection h with h1 h2
      subst h1; subst h2
      obtain ⟨b, c, k1, k2, k3, k4⟩ := hm.box i _ _ ho
      exact ⟨b, c, k1, k2, by rw [hl]; exact hv _ k3, k4⟩
    · rw [put_other _ _ e] at h; exact hm.box i a s h
  row := fun i n e z h => by
    by_cases he : i = q
    · subst he; rw [put_same] at h; cases h
    · rw [put_other _ _ he] at h; exact hm.row i n e z h
  inj := fun i j b h1 h2 => hm.inj i j b ((blk_put ho).1 h1) ((blk_put ho).1 h2)
  siz := fun i a s z A k b c h => by
    by_cases e : i = q
    · subst e
      rw [put_same] at h
      injection h with h; injection h with h1 h2
      subst h2
      exact hm.siz i _ _ z A k b c ho
    · rw [put_other _ _ e] at h; exact hm.siz i a s z A k b c h
theorem SFn.weak {P : Program} {G : Ground} {f : FuncId} {vs : List V} {m : Mm} {Post : V → Mm → Prop} {q : Nat} {cs cs' : List V} {t : TypeId} (ho : m.obj q = some (.box cs t)) (hl : cs'.length = cs.length) (hv : ∀ E l, VRs E cs l → VRs E cs' l)
    (h : SFn P G f vs (m.put q (.box cs' t)) Post) : SFn P G f vs m Post := by
  intro E w cargs hG hm hargs
  refine (h E w cargs hG (hm.weak ho hl (hv E)) hargs).mono ?_
  rintro e w' ⟨v, r, m', E', he, hP, hs, hm', hr⟩
  refine ⟨v, r, m', E', he, hP, ⟨hs.le, hs.next, hs.oldφ, fun i hi hx h0 => ?_, hs.os, hs.tape, hs.output, hs.size, fun b hb hk => hs.kept b hb fun i hh => hk i ((blk_put ho).1 hh), fun i b h1 h2 => ?_, fun b o v h1 => ?_⟩, hm', hr⟩
  · exact hs.oldloc i hi hx (by rw [put_other _ _ (fun e => by subst e; rw [ho] at h0; cases h0)]; exact h0)
  · obtain ⟨j, hj⟩ := hs.blk i b h1 h2
    exact ⟨j, (blk_put ho).1 hj⟩
  · rcases hs.newM b o v h1 with h2 | h2 | ⟨i, h2⟩
    · exact .inl h2
    · exact .inr (.inl h2)
    · exact .inr (.inr ⟨i, (blk_put ho).1 h2⟩)
theorem vr_fgt {E : Env} {v : V} {c : Value} (h : VR E v c) : VR E (fgt v) c := by
  cases v <;> try exact h
  rename_i n xs k
  obtain ⟨A, cap, h1, h2, _, h3⟩ := h
  exact ⟨A, cap, h1, h2, trivial, h3⟩
theorem vrs_fgt {E : Env} : ∀ {L : List V} {l : List Value}, VRs E L l → VRs E (L.map fgt) l
  | [], _, h => h
  | _ :: _, _, h => by
    obtain ⟨c, cs, h1, h2, h3⟩ := h
    exact ⟨c, cs, h1, vr_fgt h2, vrs_fgt h3⟩

theorem net_vw {h : Hand} {l : List Chord} {Gs : List (List Grip)} (gl : Gs.length = l.length) {b gq oq rq : Nat} {rows : List V} {M : Mm} {S : Nat → Bool} (hm : NetM h l Gs b gq oq rq rows M) (hS : (S b = true ∧ S gq = true) ∧ S oq = true ∧ S rq = true)
    (hlen : rows.length = l.length) (hd : ∀ y, y < l.length → ∃ tok, rows[y]? = some (.sl (rsT h l Gs y).length ((rsT h l Gs y).map vint) tok)) : Vw M S (.ptr b 0) (netE h l Gs) := by
  have he : rows.map fgt = (rsA h l Gs).map tIs := by
    apply List.ext_getElem?
    intro y
    rw [List.getElem?_map]
    by_cases hy : y < l.length
    · obtain ⟨tok, h9⟩ := hd y hy
      rw [h9, iss_at (by rw [rsA_len]; exact hy), rsA_at hy]; rfl
    · rw [List.getElem?_eq_none (by omega), List.getElem?_eq_none (by rw [List.length_map, rsA_len]; omega)]; rfl
  have hrs : tIss (rsA h l Gs) = .sl l.length (rows.map fgt) .no := by rw [tIss, he, rsA_len]
  rw [netE, hrs]
  refine .ptr hS.1.1 hm.b ?_ rfl
  have hg : Vw M S (.gsl gq l.length 1) (tGss Gs) := by
    rw [tGss, gl]
    exact .gsl hS.1.2 hm.g (by have := vws_rows (m := M) (S := S) (rows_tGs Gs); rwa [fgt_tGs] at this) (by have := fgt_one (rows_tGs Gs); rwa [fgt_tGs] at this)
  have ho : Vw M S (.gsl oq l.length 1) (tIss (owA h l Gs)) := by
    rw [tIss, owA_len]
    exact .gsl hS.2.1 hm.o (by have := vws_rows (m := M) (S := S) (rows_tIs (owA h l Gs)); rwa [fgt_tIs] at this) (by have := fgt_one (rows_tIs (owA h l Gs)); rwa [fgt_tIs] at this)
  have hr : Vw M S (.bsl rq 0 l.length l.length) (.sl l.length (rows.map fgt) .no) := .bsl hS.2.2 hm.r (vws_rows hm.rows) (fgt_one hm.rows)
  exact .cons (.sl _ _ _) (.cons (.sl _ _ _) (.cons (.sl _ _ _) (.cons (.lit _) (.cons (.lit _) (.cons (.lit _) (.cons (.lit _) (.cons (.lit _) (.cons (.lit _) (.cons (.lit _) (.cons (.sl _ _ _) (.cons hg (.cons ho (.cons hr .nil)))))))))))))

/-- What only leaves. -/
def OnPost (h : Hand) (l : List Chord) (Gs : List (List Grip)) (m : Mm) (b gq oq : Nat) (r : V) (m' : Mm) : Prop :=
  r = .tup [] ∧ m.next ≤ m'.next ∧ (∀ q, q < m.next → q ≠ b → q ≠ gq → q ≠ oq → m'.obj q = m.obj q) ∧ ∃ rq rows, m.next ≤ rq ∧ rq < m'.next ∧ NetM h l Gs b gq oq rq rows m' ∧ rows.length = l.length ∧ ∀ y, y < l.length → ∃ tok, rows[y]? = some (.sl (rsT h l Gs y).length ((rsT h l Gs y).map vint) tok)
/-- One grip in a chord's place. -/
theorem net_set {h : Hand} {l : List Chord} {Gs : List (List Grip)} (hn : NetOk h l Gs) {i : Nat} (hi : i < l.length) {g : Grip} (hg : FitG h (l.getD i noC) g) : NetOk h l (Gs.set i [g]) := by
  have gl := hn.gl
  have e : ∀ y, (Gs.set i [g]).getD y [] = if i = y then [g] else Gs.getD y [] := fun y => by
    rw [List.getD_eq_getElem?_getD, List.getElem?_set]
    by_cases hy : i = y
    · subst hy; rw [if_pos rfl, if_pos (by omega), if_pos rfl]; rfl
    · rw [if_neg hy, if_neg hy, List.getD_eq_getElem?_getD]
  refine ⟨hn.hk, hn.fits, hn.seq, hn.len, by rw [List.length_set]; exact gl, fun y hy x hx => ?_, fun y => ?_⟩
  · rw [e] at hx
    split at hx
    · rename_i e1; subst e1; rw [List.mem_singleton] at hx; subst hx; exact hg
    · exact hn.fit y hy x hx
  · rw [e]; split
    · simp
    · exact hn.cnt y
theorem set_getD {Gs : List (List Grip)} {i y : Nat} {g : Grip} (hi : i < Gs.length) : (Gs.set i [g]).getD y [] = if i = y then [g] else Gs.getD y [] := by
  rw [List.getD_eq_getElem?_getD, List.getElem?_set]
  by_cases hy : i = y
  · subst hy; rw [if_pos rfl, if_pos hi, if_pos rfl]; rfl
  · rw [if_neg hy, if_neg hy, List.getD_eq_getElem?_getD]
theorem set_tGs (Gs : List (List Grip)) (i : Nat) (g : Grip) : ((Gs.map tGs).set i (.sl 1 [vint g.pos, tIs g.fingers] .exact)).map fgt = (Gs.set i [g]).map tGs := by
  rw [List.map_set, List.map_set, fgt_tGs]; rfl
theorem set_owA {h : Hand} {l : List Chord} {Gs : List (List Grip)} (gl : Gs.length = l.length) {i : Nat} (hi : i < l.length) (g : Grip) : ((owA h l Gs).map tIs |>.set i (.sl 1 [vint (ownC h (l.getD i noC) g)] .exact)).map fgt = (owA h l (Gs.set i [g])).map tIs := by
  rw [List.map_set, fgt_tIs]
  apply List.ext_getElem?
  intro y
  rw [List.getElem?_set]
  by_cases hy : y < l.length
  · rw [iss_at (l := owA h l (Gs.set i [g])) (by rw [owA_len]; exact hy), owA_at hy, owR, set_getD (by omega)]
    by_cases e : i = y
    · subst e
      rw [if_pos rfl, if_pos (by rw [List.length_map, owA_len]; exact hy), if_pos rfl]; rfl
    · rw [if_neg e, if_neg e, iss_at (by rw [owA_len]; exact hy), owA_at hy]; rfl
  · rw [List.getElem?_eq_none (l := (owA h l (Gs.set i [g])).map tIs) (by rw [List.length_map, owA_len]; omega), if_neg (by omega), List.getElem?_eq_none (by rw [List.length_map, owA_len]; omega)]

theorem set_on {h : Hand} {l : List Chord} {Gs : List (List Grip)} {M : Mm} {b gq oq : Nat} (bg : b ≠ gq) (bo : b ≠ oq) (go : gq ≠ oq) (ng : gq < M.next) (no : oq < M.next) {r : V} {m' : Mm}
    (hP : SetPost h l Gs ((M.put gq (.box (Gs.map tGs) 38)).put oq (.box ((owA h l Gs).map tIs) 22)) b (.gsl gq l.length 1) (.gsl oq l.length 1) r m') : OnPost h l Gs M b gq oq r m' := by
  obtain ⟨p1, p2, p3, rq, rows, p4, p5, p6, p7, p8, p9⟩ := hP
  have p2' : M.next ≤ m'.next := p2
  have p4' : M.next ≤ rq := p4
  refine ⟨p1, p2', fun q hq h1 h2 h3 => ((p3 q hq h1).trans (put_other _ _ h3)).trans (put_other _ _ h2), rq, rows, p4', p5, ⟨p6, ?_, ?_, p7, fun v hv => ?_⟩, p8, p9⟩
  · exact ((p3 gq ng (fun e => bg e.symm)).trans (put_other _ _ go)).trans (put_same _ _ _)
  · exact (p3 oq no (fun e => bo e.symm)).trans (put_same _ _ _)
  · obtain ⟨y, hy, e⟩ := List.mem_iff_getElem.1 hv
    obtain ⟨tok, h9⟩ := p9 y (by omega)
    rw [List.getElem?_eq_getElem hy] at h9
    exact ⟨_, _, _, by rw [← e]; injection h9⟩
theorem onPost_ex (h : Hand) (l : List Chord) (Gs : List (List Grip)) {M : Mm} {b gq oq : Nat} (bg : b ≠ gq) (bo : b ≠ oq) (go : gq ≠ oq) (nb : b < M.next) (ng : gq < M.next) (no : oq < M.next) : ∃ r m', OnPost h l Gs M b gq oq r m' := by
  obtain ⟨r, m', hP⟩ := SetPost.some h l Gs ((M.put gq (.box (Gs.map tGs) 38)).put oq (.box ((owA h l Gs).map tIs) 22)) (b := b) nb (.gsl gq l.length 1) (.gsl oq l.length 1)
  exact ⟨r, m', set_on bg bo go ng no hP⟩
theorem settle_weak {h : Hand} {l : List Chord} {Gs : List (List Grip)} (hn : NetOk h l Gs) {M : Mm} {b gq oq : Nat} {rv : V} {A B : List V} (bg : b ≠ gq) (bo : b ≠ oq) (go : gq ≠ oq) (nb : b < M.next) (ng : gq < M.next) (no : oq < M.next)
    (h1 : M.obj b = some (.box (netC h l (.gsl gq l.length 1) (.gsl oq l.length 1) rv) 123)) (h2 : M.obj gq = some (.box A 38)) (h3 : M.obj oq = some (.box B 22)) (eA : A.map fgt = Gs.map tGs) (eB : B.map fgt = (owA h l Gs).map tIs) :
    SFn Try.prog Gd 103 [.ptr b 0] M (OnPost h l Gs M b gq oq) := by
  refine SFn.weak h2 (cs' := Gs.map tGs) (by rw [← eA, List.length_map]) (fun E l hl => by rw [← eA]; exact vrs_fgt hl) ?_
  refine SFn.weak (q := oq) (cs := B) (t := 22) (cs' := (owA h l Gs).map tIs) ((put_other _ _ (fun e => go e.symm)).trans h3) (by rw [← eB, List.length_map]) (fun E l hl => by rw [← eB]; exact vrs_fgt hl) ?_
  refine (settle_sfn hn _ (gq := gq) (oq := oq) (gv := .gsl gq l.length 1) (ov := .gsl oq l.length 1) (rv := rv) ((put_other _ _ bo).trans ((put_other _ _ bg).trans h1)) nb fun _ => ⟨⟨rfl, rfl⟩, ⟨(put_other _ _ go).trans (put_same _ _ _), put_same _ _ _⟩, ⟨fun e => bg e.symm, fun e => bo e.symm⟩, ng, no⟩).mono fun r m' hP => set_on bg bo go ng no hP

set_option maxHeartbeats 4000000 in
theorem only_sfn {h : Hand} {l : List Chord} {Gs : List (List Grip)} (hn : NetOk h l Gs) {i : Nat} (hi : i < l.length) {g : Grip} (hg : FitG h (l.getD i noC) g) (m : Mm) {b gq oq : Nat} {rv : V}
    (hb : m.obj b = some (.box (netC h l (.gsl gq l.length 1) (.gsl oq l.length 1) rv) 123)) (hgo : m.obj gq = some (.box (Gs.map tGs) 38)) (hoo : m.obj oq = some (.box ((owA h l Gs).map tIs) 22)) (nb : b < m.next) (ng : gq < m.next) (no : oq < m.next) :
    SFn Try.prog Gd 79 [.ptr b 0, vint i, g.val] m (OnPost h l (Gs.set i [g]) m b gq oq) := by
  refine SFn.of_vxS k_hand_net_only (by simp) ?_
  have hn' := net_set hn hi hg
  have h4 := hn.len
  have gl := hn.gl
  have bg : ¬ b = gq := ne_type hb hgo (by decide)
  have bo : ¬ b = oq := ne_type hb hoo (by decide)
  have go : ¬ gq = oq := ne_type hgo hoo (by decide)
  have gb : ¬ gq = b := fun e => bg e.symm
  have ob : ¬ oq = b := fun e => bo e.symm
  have og : ¬ oq = gq := fun e => go e.symm
  have x1 : ¬ b = m.next := by omega
  have x2 : ¬ gq = m.next := by omega
  have x3 : ¬ oq = m.next := by omega
  have x5 : ¬ m.next = b := by omega
  have x6 : ¬ m.next = gq := by omega
  have x7 : ¬ m.next = oq := by omega
  have hfl := hg.len
  have hps : 1 ≤ g.pos ∧ g.pos ≤ 18 := by have := hn.hk.top; have := hg.pos; omega
  have C1 := own_fn h hn.hk (l.getD i noC) (hn.seq i hi).1 (hn.fits.at i) g hfl hps
  have c1 : (i : Int) < (l.length : Int) := by omega
  have c2 : i * 3 + 3 ≤ l.length * 3 := by omega
  have c3 : i + 1 ≤ l.length := hi
  have g1 := chs_take hi
  have g2 := chs_len l
  have g3 : (Gs.map tGs).length = l.length := by rw [List.length_map]; exact gl
  have g4 : ((owA h l Gs).map tIs).length = l.length := by rw [List.length_map, owA_len]
  have x4 : m.next < m.next + 1 := by omega
  have nb' : b < m.next + 1 := by omega
  have ng' : gq < m.next + 1 := by omega
  have no' : oq < m.next + 1 := by omega
  replace hfl := Hid.mk hfl
  have hb0 := Hid.mk hb
  have e1 := set_tGs Gs i g
  have e2 := set_owA (h := h) gl hi g
  replace e1 := Hid.mk e1
  replace e2 := Hid.mk e2
  replace hn := Hid.mk hn
  replace hn' := Hid.mk hn'
  replace hg := Hid.mk hg
  replace gl := Hid.mk gl
  unfold netC tCs at hb
  unfold Hand.val Chord.val Chord.cells Grip.val Grip.cells at C1
  unfold Grip.val Grip.cells
  unfold c_hand_net_only
  clear hi
  repeat' (with_reducible first | refine x_ops ?_ | refine wk ?_ | (with_reducible refine xc (C1) ?_) | ((first | refine gd1 ?_ ?_ | refine gd2 ?_ ?_ | refine gd3 ?_ ?_) <;> (first | exact @False.elim _ | intro hc)))
  refine x_scallR [.ptr b 0] vw (settle_weak (A := (Gs.map tGs).set i (.sl 1 [vint g.pos, tIs g.fingers] .exact)) (B := ((owA h l Gs).map tIs).set i (.sl 1 [vint (ownC h (l.getD i noC) g)] .exact)) hn'.out bg bo go nb' ng' no' (rv := rv)
    ((put_other _ _ bo).trans ((put_other _ _ bg).trans ((put_other _ _ x1).trans hb0.out))) ?_ ?_ e1.out e2.out) (onPost_ex h l (Gs.set i [g]) bg bo go nb' ng' no') ?_
  · refine (put_other _ _ go).trans ((put_same _ _ _).trans ?_)
    rw [set_eq (by omega), List.append_assoc]; rfl
  · refine (put_same _ _ _).trans ?_
    rw [set_eq (by omega), List.append_assoc]; rfl
  rintro r m' ⟨rfl, p2, p3, p4⟩
  have p2' : m.next + 1 ≤ m'.next := p2
  repeat' (with_reducible first | refine x_ops ?_ | refine wk ?_ | ((first | refine gd1 ?_ ?_ | refine gd2 ?_ ?_ | refine gd3 ?_ ?_) <;> (first | exact @False.elim _ | intro hc)))
  refine ⟨.inl rfl, _, vv, rfl, (by show m.next ≤ m'.next; omega), fun q hq h1 h2 h3 => ?_, ?_⟩
  · exact (p3 q (by show q < m.next + 1; omega) h1 h2 h3).trans ((put_other _ _ h3).trans ((put_other _ _ h2).trans (put_other _ _ (by omega))))
  · obtain ⟨rq, rows, q1, q2, q3, q4, q5⟩ := p4
    exact ⟨rq, rows, Nat.le_trans (Nat.le_succ _) q1, q2, q3, q4, q5⟩
end Go.Proofs.Ytojjdkoglhecbaa
namespace Go.Proofs.Ytojjdkoglhecbaa
open Go.RowKit

theorem wvPost_ex (h : Hand) (l : List Chord) (m : Mm) : ∃ r m', WvPost h l m r m' := by
  by_cases hw : wvE h l = 0
  case neg => exact ⟨_, m, Nat.le_refl _, fun _ _ => rfl, .inr ⟨hw, rfl⟩⟩
  by_cases h0 : l.length = 0
  · let M : Mm := ((⟨m.obj, m.next + 2⟩ : Mm).put m.next (.box (netC h l (.sl 0 [] .exact) (.sl 0 [] .exact) (.bsl (m.next + 1) 0 l.length l.length)) 123)).put (m.next + 1) (.box [] 22)
    refine ⟨_, M, by show m.next ≤ m.next + 2; omega, fun q hq => (put_other _ _ (by omega)).trans (put_other _ _ (by omega)), .inl ⟨hw, m.next, rfl, 0, 0, m.next + 1, [], .sl 0 [] .exact, .sl 0 [] .exact, ⟨Nat.le_refl _, by show m.next < m.next + 2; omega⟩, ?_, ⟨by omega, by show m.next + 1 < m.next + 2; omega⟩, put_same _ _ _, by simp [h0], fun y hy => by omega, fun _ => ⟨rfl, rfl⟩, fun hp => by omega⟩⟩
    exact (put_other _ _ (by omega)).trans (put_same _ _ _)
  · let M : Mm := ((((⟨m.obj, m.next + 4⟩ : Mm).put m.next (.box (netC h l (.gsl (m.next + 1) l.length 1) (.gsl (m.next + 2) l.length 1) (.bsl (m.next + 3) 0 l.length l.length)) 123)).put (m.next + 1) (.box ((tabG h l).map tGs) 38)).put (m.next + 2)
      (.box ((owA h l (tabG h l)).map tIs) 22)).put (m.next + 3) (.box ((rsA h l (tabG h l)).map tIs) 22)
    refine ⟨_, M, by show m.next ≤ m.next + 4; omega, fun q hq => (put_other _ _ (by omega)).trans ((put_other _ _ (by omega)).trans ((put_other _ _ (by omega)).trans (put_other _ _ (by omega)))), .inl ⟨hw, m.next, rfl, m.next + 1, m.next + 2, m.next + 3, _, .gsl (m.next + 1) l.length 1, .gsl (m.next + 2) l.length 1,
      ⟨Nat.le_refl _, by show m.next < m.next + 4; omega⟩, ?_, ⟨by omega, by show m.next + 3 < m.next + 4; omega⟩, put_same _ _ _, by rw [List.length_map, rsA_len], fun y hy => ⟨.no, by rw [iss_at (by rw [rsA_len]; exact hy), rsA_at hy]; rfl⟩, fun e => absurd e h0, fun _ => ⟨⟨rfl, rfl⟩, ⟨?_, ?_⟩, ⟨by omega, by omega⟩, ⟨by omega, by omega⟩, ?_, ?_⟩⟩⟩
    · exact (put_other _ _ (by omega)).trans ((put_other _ _ (by omega)).trans ((put_other _ _ (by omega)).trans (put_same _ _ _)))
    · exact (put_other _ _ (by omega)).trans ((put_other _ _ (by omega)).trans (put_same _ _ _))
    · exact (put_other _ _ (by omega)).trans (put_same _ _ _)
    · show m.next + 1 < m.next + 4; omega
    · show m.next + 2 < m.next + 4; omega

/-- What Through answers. -/
noncomputable def thrR (h : Hand) (l : List Chord) (i : Int) (g : Grip) : List Grip × Int × Int :=
  if wvE h l = 0 then (if (decide (0 ≤ i) && decide (i ≤ (l.length : Int) - 1)) = true then (if fitB h (l.getD i.toNat noC) g = true then fstR h l ((tabG h l).set i.toNat [g]) else ([], 0, 61)) else ([], 0, 1)) else ([], 0, wvE h l)

set_option maxHeartbeats 4000000 in
theorem Through_fn (h : Hand) (l : List Chord) (hl : Fits l) (i : Int) (g : Grip) (hg : g.fingers.length ≤ 17592186044416) : Fn Try.prog Gd 41 [h.val, tCs l, vint i, g.val] (fstV (thrR h l i g)) := by
  refine Fn.of_vx0 k_hand_Through (by simp) (by rw [V.pures, pure_hand, V.pures, pure_tCs, V.pures, V.pures, pure_grip]; rfl) ?_
  have C1 := fun m => weave_sfn h l hl m
  have C2 := fun m => wvPost_ex h l m
  have W1 := within_fn i 0 ((l.length : Int) - 1)
  have hl0 := hl.1
  have w1 := w_in (a := (l.length : Int) - 1) (by omega)
  have hnet := fun hw => wv_net (h := h) hl hw
  unfold c_hand_Through
  unfold Hand.val tCs Grip.val Grip.cells at *
  replace hnet := Hid.mk hnet
  repeat' (with_reducible first | refine x_ops ?_ | refine wk ?_ | (with_reducible refine xc (W1) ?_) | ((first | refine gd1 ?_ ?_ | refine gd2 ?_ ?_ | refine gd3 ?_ ?_) <;> (first | exact @False.elim _ | intro hc)))
  refine x_scallR [.agg [tIs h.low, tIs h.high, tBs h.barre, vint h.top, vint h.jump, vint h.shift, vint h.lift, vint h.bar, vint h.stretch, vint h.slide], .sl l.length (l.flatMap Chord.cells) .no] vw (C1 _) (C2 _) ?_
  rintro r M ⟨p1, p2, p3⟩
  have p1' : 4 ≤ M.next := p1
  have o0 : M.obj 0 = some (.box [tIs h.low, tIs h.high, tBs h.barre, vint h.top, vint h.jump, vint h.shift, vint h.lift, vint h.bar, vint h.stretch, vint h.slide] 25) := (p2 0 (by show 0 < 4; decide)).trans (by (dsimp only; exact (put_other _ _ (by decide)).trans ((put_other _ _ (by decide)).trans (put_same _ _ _))))
  have o1 : M.obj 1 = some (.box [vint g.pos, tIs g.fingers] 53) := (p2 1 (by show 1 < 4; decide)).trans (by (dsimp only; exact (put_other _ _ (by decide)).trans (put_same _ _ _)))
  have o2 : M.obj 2 = some (.box [.sl 0 [] .exact, vint 0] 40) := (p2 2 (by show 2 < 4; decide)).trans (by (dsimp only; exact put_same _ _ _))
  clear C1 C2 p2
  rcases p3 with ⟨hw, b, rfl, hN⟩ | ⟨hw, rfl⟩
  case inr =>
    have e1 : (wvE h l == 0) = false := by rw [beq_eq_false_iff_ne]; exact hw
    have ht : thrR h l i g = ([], 0, wvE h l) := by rw [thrR, if_neg hw]
    rw [ht]
    unfold fstV tGs
    clear hw ht
    repeat' (with_reducible first | refine x_ops ?_ | refine wk ?_ | ((first | refine gd1 ?_ ?_ | refine gd2 ?_ ?_ | refine gd3 ?_ ?_) <;> (first | exact @False.elim _ | intro hc)))
    exact finV_ret vv (.tup (.cons (.agg (.cons (.sl _ _ _) (.cons (.lit _) .nil))) (.cons (.lit _) .nil)))
  have hn := hnet.out hw
  have e0 : thrR h l i g = (if (decide (0 ≤ i) && decide (i ≤ (l.length : Int) - 1)) = true then (if fitB h (l.getD i.toNat noC) g = true then fstR h l ((tabG h l).set i.toNat [g]) else ([], 0, 61)) else ([], 0, 1)) := by rw [thrR, if_pos hw]
  by_cases hi : (decide (0 ≤ i) && decide (i ≤ (l.length : Int) - 1)) = true
  case neg =>
    rw [if_neg hi] at e0
    rw [e0]
    have hi' : (decide (0 ≤ i) && decide (i ≤ (l.length : Int) - 1)) = false := by simpa using hi
    rw [hi'] at W1
    unfold fstV tGs
    clear hw e0 hi hi' hn hN hnet
    repeat' (with_reducible first | refine x_ops ?_ | refine wk ?_ | (with_reducible refine xc (W1) ?_) | ((first | refine gd1 ?_ ?_ | refine gd2 ?_ ?_ | refine gd3 ?_ ?_) <;> (first | exact @False.elim _ | intro hc)))
    exact finV_ret vv (.tup (.cons (.agg (.cons (.sl _ _ _) (.cons (.lit _) .nil))) (.cons (.lit _) .nil)))
  rw [if_pos hi] at e0
  rw [hi] at W1
  obtain ⟨k, rfl⟩ : ∃ k : Nat, i = (k : Int) := by
    rw [Bool.and_eq_true, decide_eq_true_eq, decide_eq_true_eq] at hi
    exact ⟨i.toNat, by omega⟩
  have hk : k < l.length := by
    rw [Bool.and_eq_true, decide_eq_true_eq, decide_eq_true_eq] at hi
    omega
  rw [Int.toNat_natCast] at e0
  have C3 := fits_fn h hn.hk (l.getD k noC) (hn.fits.at k) g hg
  unfold Hand.val Chord.val Chord.cells Grip.val Grip.cells at C3
  have c1 : (k : Int) < (l.length : Int) := by omega
  have c2 : k * 3 + 3 ≤ l.length * 3 := by omega
  have g1 := chs_take hk
  have g2 := chs_len l
  have z0 : 0 < M.next := by omega
  have z1 : 1 < M.next := by omega
  have z2 : 2 < M.next := by omega
  by_cases hf : FitG h (l.getD k noC) g
  case neg =>
    have hb : fitB h (l.getD k noC) g = false := by
      cases hx : fitB h (l.getD k noC) g
      · rfl
      · exact absurd (fit_true.1 hx) hf
    rw [hb] at C3 e0
    rw [if_neg (by decide)] at e0
    rw [e0]
    unfold fstV tGs
    clear hw e0 hi hn hN hnet hf hb
    repeat' (with_reducible first | refine x_ops ?_ | refine wk ?_ | (with_reducible refine xc (W1) ?_) | (with_reducible refine xc (C3) ?_) | ((first | refine gd1 ?_ ?_ | refine gd2 ?_ ?_ | refine gd3 ?_ ?_) <;> (first | exact @False.elim _ | intro hc)))
    exact finV_ret vv (.tup (.cons (.agg (.cons (.sl _ _ _) (.cons (.lit _) .nil))) (.cons (.lit _) .nil)))
  rw [fit_true.2 hf] at C3 e0
  rw [if_pos rfl] at e0
  rw [e0]
  replace hN := Hid.mk hN
  replace hn := Hid.mk hn
  replace hf := Hid.mk hf
  clear hw e0 hi hnet
  repeat' (with_reducible first | refine x_ops ?_ | refine wk ?_ | (with_reducible refine xc (W1) ?_) | (with_reducible refine xc (C3) ?_) | ((first | refine gd1 ?_ ?_ | refine gd2 ?_ ?_ | refine gd3 ?_ ?_) <;> (first | exact @False.elim _ | intro hc)))
  obtain ⟨gq, oq, rq, rows, gv, ov, ⟨nb0, nb1⟩, hb, _, _, _, _, _, hpos⟩ := hN.out
  obtain ⟨⟨rfl, rfl⟩, ⟨hgo, hoo⟩, _, ⟨ng0, no0⟩, ng1, no1⟩ := hpos (by omega)
  have nb2 : 4 ≤ b := nb0
  have ng2 : 4 ≤ gq := ng0
  have no2 : 4 ≤ oq := no0
  have bg : b ≠ gq := ne_type hb hgo (by decide)
  have bo : b ≠ oq := ne_type hb hoo (by decide)
  have go : gq ≠ oq := ne_type hgo hoo (by decide)
  refine x_scallR [.ptr b 0, vint k, .agg [vint g.pos, tIs g.fingers]] vw (only_sfn hn.out hk hf.out _ hb hgo hoo nb1 ng1 no1) (onPost_ex h l ((tabG h l).set k [g]) bg bo go nb1 ng1 no1) ?_
  rintro r m' ⟨rfl, p2, p3, rq', rows', q1, q2, q3, q4, q5⟩
  have u2 : m'.obj 2 = some (.box [.sl 0 [] .exact, vint 0] 40) := (p3 2 z2 (by omega) (by omega) (by omega)).trans o2
  have q1' : 4 ≤ rq' := Nat.le_trans p1' q1
  have n2 : 4 ≤ m'.next := Nat.le_trans p1' p2
  have hn2 := net_set hn.out hk hf.out
  replace q3 := Hid.mk q3
  replace q5 := Hid.mk q5
  replace hn2 := Hid.mk hn2
  clear hb hgo hoo hpos hN p2 p3 o0 o1 o2 C3 W1 g1 g2 c2 nb0 ng0 no0 nb1 ng1 no1 q1 z0 z1 z2 p1'
  repeat' (with_reducible first | refine x_ops ?_ | refine wk ?_ | ((first | refine gd1 ?_ ?_ | refine gd2 ?_ ?_ | refine gd3 ?_ ?_) <;> (first | exact @False.elim _ | intro hc)))
  have CF := first_fn hn2.out
  have f2 : (m'.freeze fun q => decide (4 ≤ q)).obj 2 = some (.box [.sl 0 [] .exact, vint 0] 40) := by show (if decide (4 ≤ 2) = true then none else m'.obj 2) = _; rw [if_neg (by decide)]; exact u2
  have f3 : (m'.freeze fun q => decide (4 ≤ q)).next = m'.next := rfl
  refine x_cutR [.ptr b 0] vw (us := [netE h l ((tabG h l).set k [g])]) (fun q => decide (4 ≤ q)) CF (.cons (net_vw hn2.out.gl q3.out ⟨⟨by simp [nb2], by simp [ng2]⟩, by simp [no2], by simp [q1']⟩ q4 q5.out) .nil) ?_
  change goR Try.prog Gd m'.next (some ⟨_, m'.freeze fun q => decide (4 ≤ q)⟩) _ _ _
  generalize (m'.freeze fun q => decide (4 ≤ q)) = M5 at *
  generalize fstR h l ((tabG h l).set k [g]) = r at *
  obtain ⟨G, c, e⟩ := r
  have z5 : 2 < M5.next := by omega
  unfold fstV tGs
  clear CF
  repeat' (with_reducible first | refine x_ops ?_ | refine wk ?_ | ((first | refine gd1 ?_ ?_ | refine gd2 ?_ ?_ | refine gd3 ?_ ?_) <;> (first | exact @False.elim _ | intro hc)))
  exact finV_ret vv (.tup (.cons (.agg (.cons (.sl _ _ _) (.cons (.lit _) .nil))) (.cons (.lit _) .nil)))
end Go.Proofs.Ytojjdkoglhecbaa
namespace Go.Proofs.Ytojjdkoglhecbaa
open Go.RowKit

section
variable {n : Int}
end
end Go.Proofs.Ytojjdkoglhecbaa
namespace Go.Proofs.Ytojjdkoglhecbaa
open Go.RowKit
set_option linter.unusedSimpArgs false
set_option linter.unusedVariables false

end Go.Proofs.Ytojjdkoglhecbaa
namespace Go.Proofs.Ytojjdkoglhecbaa
open Go.RowKit
set_option linter.unusedSimpArgs false
set_option linter.unusedVariables false

/-- What is left of a row by another one's growth. -/
theorem Apb.keep {m m' : Mm} {k : Tok} {n : Nat} {e : TypeId} {z : Nat} (h : Apb m k n e z) (hn : m.next ≤ m'.next) (ho : ∀ q, q < m.next → k = .own q → m'.obj q = m.obj q) : Apb m' k n e z := by
  rcases h with h | ⟨t, h1, h2, h3⟩
  · exact .inl h
  · exact .inr ⟨t, h1, Nat.lt_of_lt_of_le h2 hn, (ho t h2 h1).trans h3⟩
theorem Apb.box {m : Mm} {k : Tok} {n : Nat} {e : TypeId} {z : Nat} (h : Apb m k n e z) {q : Nat} {cs : List V} {t : TypeId} (hq : m.obj q = some (.box cs t)) : k ≠ .own q := by
  rintro rfl
  rcases h with h | ⟨t, h1, _, h3⟩
  · cases h
  · injection h1 with h1; subst h1; rw [hq] at h3; cases h3

end Go.Proofs.Ytojjdkoglhecbaa
namespace Go.Proofs.Ytojjdkoglhecbaa
open Go.RowKit

section
variable {P : Program} {G : Ground}
end
end Go.Proofs.Ytojjdkoglhecbaa
namespace Go.Proofs.Ytojjdkoglhecbaa
open Go.ChangeShapes Go.WideShapes Go.ChangeAt Go.RowKit
set_option maxRecDepth 100000

end Go.Proofs.Ytojjdkoglhecbaa
namespace Go.Proofs.Ytojjdkoglhecbaa
open Go.RowKit

/-- The pairs of grips of the first chords. -/
noncomputable def hvU (h : Hand) (l : List Chord) : Nat → Int
  | 0 => 0
  | k + 1 => hvU h l k + (if k = 0 then 0 else ((grpA h (l.getD (k - 1) noC)).length : Int)) * ((grpA h (l.getD k noC)).length : Int)
/-- Does a search take too many steps? -/
noncomputable def hvB (h : Hand) (l : List Chord) : Bool :=
  if bothE h l = 0 then (if 24 < l.length then true else if wvE h l = 0 then decide (6000 < hvU h l l.length) else false) else false
theorem hvU_bound {h : Hand} {l : List Chord} : ∀ {k : Nat}, (∀ i, i < k → (grpA h (l.getD i noC)).length ≤ 200) → 0 ≤ hvU h l k ∧ hvU h l k ≤ 40000 * k
  | 0, _ => by simp [hvU]
  | k + 1, hk => by
    have h1 := hvU_bound (h := h) (l := l) (k := k) (fun i hi => hk i (by omega))
    have h2 := hk k (by omega)
    rw [hvU]
    by_cases k0 : k = 0
    · rw [if_pos k0, Int.zero_mul]; omega
    · rw [if_neg k0]
      have h3 := hk (k - 1) (by omega)
      have h5 : (grpA h (l.getD (k - 1) noC)).length * (grpA h (l.getD k noC)).length ≤ 200 * 200 := Nat.mul_le_mul h3 h2
      have h6 : ((grpA h (l.getD (k - 1) noC)).length : Int) * ((grpA h (l.getD k noC)).length : Int) = (((grpA h (l.getD (k - 1) noC)).length * (grpA h (l.getD k noC)).length : Nat) : Int) := by push_cast; rfl
      omega

set_option maxHeartbeats 2000000 in
theorem heavy_fn (h : Hand) (l : List Chord) (hl : Fits l) : Fn Try.prog Gd 29 [h.val, tCs l] (vbool (hvB h l)) := by
  refine Fn.of_vx0 k_theorbolaw06_Heavy (by simp) (by rw [V.pures, pure_hand, V.pures, pure_tCs]; rfl) ?_
  have C1 := rcheck_fn h
  have C2 := rcheckchords_fn l hl
  unfold hvB bothE
  unfold tCs at C2
  unfold Hand.val at C1
  unfold c_theorbolaw06_Heavy Hand.val tCs
  by_cases he : chkE h = 0
  case neg =>
    have e1 : (chkE h == 0) = false := by rw [beq_eq_false_iff_ne]; exact he
    rw [chk_bad he] at C1
    rw [if_neg he, if_neg (by decide)]
    clear he
    repeat' (with_reducible first | refine x_ops ?_ | refine wk ?_ | (with_reducible refine xc (C1) ?_) | (with_reducible refine xc (C2) ?_) | ((first | refine gd1 ?_ ?_ | refine gd2 ?_ ?_ | refine gd3 ?_ ?_) <;> (first | exact @False.elim _ | intro hc)))
    all_goals exact finV_lit vv rfl
  rw [he] at C1
  rw [if_pos he]
  by_cases hs : seqE l = 0
  case neg =>
    have e1 : (seqE l == 0) = false := by rw [beq_eq_false_iff_ne]; exact hs
    rw [if_neg hs]
    clear he hs
    repeat' (with_reducible first | refine x_ops ?_ | refine wk ?_ | (with_reducible refine xc (C1) ?_) | (with_reducible refine xc (C2) ?_) | ((first | refine gd1 ?_ ?_ | refine gd2 ?_ ?_ | refine gd3 ?_ ?_) <;> (first | exact @False.elim _ | intro hc)))
    all_goals exact finV_lit vv rfl
  rw [if_pos hs]
  have hb : bothE h l = 0 := by rw [bothE, if_pos he]; exact hs
  obtain ⟨hk, h4, hseq⟩ := both_ok hb
  rw [hs] at C2
  clear hs he
  by_cases h24 : 24 < l.length
  · have c1 : (24 : Int) < (l.length : Int) := by omega
    rw [if_pos h24]
    clear hb h24
    repeat' (with_reducible first | refine x_ops ?_ | refine wk ?_ | (with_reducible refine xc (C1) ?_) | (with_reducible refine xc (C2) ?_) | ((first | refine gd1 ?_ ?_ | refine gd2 ?_ ?_ | refine gd3 ?_ ?_) <;> (first | exact @False.elim _ | intro hc)))
    all_goals exact finV_lit vv rfl
  have c1 : ¬ (24 : Int) < (l.length : Int) := by omega
  rw [if_neg h24]
  repeat' (with_reducible first | refine x_ops ?_ | refine wk ?_ | (with_reducible refine xc (C1) ?_) | (with_reducible refine xc (C2) ?_) | ((first | refine gd1 ?_ ?_ | refine gd2 ?_ ?_ | refine gd3 ?_ ?_) <;> (first | exact @False.elim _ | intro hc)))
  refine x_gen (fun t => t 1 = .sl l.length (l.flatMap Chord.cells) .no ∧ t 2 = .ptr 0 0 ∧ t 5 = vint 0 ∧ t 6 = vint 0 ∧ t 7 = vint 0) ⟨vv, vv, vv, vv, vv⟩ ?_
  clear C1 C2 c1
  rintro t0 ⟨a1, a2, a5, a6, a7⟩
  refine x_loopF w_theorbolaw06_Heavy_p9 kr l.length (fun k t => t 7 = vint (k : Int) ∧ t 5 = vint (hvU h l k) ∧ t 6 = vint (if k = 0 then 0 else ((grpA h (l.getD (k - 1) noC)).length : Int)) ∧ ∀ i, i < k → (grpA h (l.getD i noC)).length ≤ 200) ?_ ?_
  · exact ⟨a7, by rw [hvU]; exact a5, by rw [if_pos rfl]; exact a6, fun i hi => by omega⟩
  rintro k t hkl ⟨h7, h5, h6, hcnt⟩
  by_cases hlt : k < l.length
  case neg =>
    have hke : k = l.length := by omega
    subst hke
    have c1 : ¬ (l.length : Int) < (l.length : Int) := by omega
    rw [if_pos (show wvE h l = 0 by rw [wvE, if_pos hb, if_pos hcnt])]
    clear hcnt hb hlt hkl
    repeat' (with_reducible first | refine x_ops ?_ | refine wk ?_ | ((first | refine gd1 ?_ ?_ | refine gd2 ?_ ?_ | refine gd3 ?_ ?_) <;> (first | exact @False.elim _ | intro hc)))
    exact finV_lit vv rfl
  have C2 := rGrips_fn h (l.getD k noC) (hl.at k)
  rw [grR_net hk (hseq k hlt).1] at C2
  have g1 := chs_take hlt
  have g2 := chs_len l
  have c1 : k * 3 + 3 ≤ l.length * 3 := by omega
  have c2 : (k : Int) < (l.length : Int) := by omega
  have w1 := w_add1 (k := k) (by omega)
  unfold Hand.val Chord.val Chord.cells at C2
  by_cases hc2 : (grpA h (l.getD k noC)).length ≤ 200
  case neg =>
    rw [if_neg (show ¬ wvE h l = 0 by rw [wvE, if_pos hb, if_neg (fun hh => hc2 (hh k hlt))]; decide)]
    rw [if_neg hc2] at C2
    unfold tGs at C2
    clear hc2 hcnt hb
    dsimp only at C2
    repeat' (with_reducible first | refine x_ops ?_ | refine wk ?_ | (with_reducible refine xc (C2) ?_) | ((first | refine gd1 ?_ ?_ | refine gd2 ?_ ?_ | refine gd3 ?_ ?_) <;> (first | exact @False.elim _ | intro hc)))
    exact finV_lit vv rfl
  have hcn : ∀ i, i < k + 1 → (grpA h (l.getD i noC)).length ≤ 200 := fun i hi => by
    by_cases hik : i = k
    · subst hik; exact hc2
    · exact hcnt i (by omega)
  rw [if_pos hc2] at C2
  have hb1 := hvU_bound (h := h) (l := l) (k := k) hcnt
  have hb2 := hvU_bound (h := h) (l := l) (k := k + 1) hcn
  have hU : hvU h l (k + 1) = hvU h l k + (if k = 0 then 0 else ((grpA h (l.getD (k - 1) noC)).length : Int)) * ((grpA h (l.getD k noC)).length : Int) := rfl
  have hla : 0 ≤ (if k = 0 then 0 else ((grpA h (l.getD (k - 1) noC)).length : Int)) := by split <;> omega
  have hlast : (if k + 1 = 0 then 0 else ((grpA h (l.getD (k + 1 - 1) noC)).length : Int)) = ((grpA h (l.getD k noC)).length : Int) := by rw [if_neg (by omega), Nat.add_sub_cancel]
  generalize hun : hvU h l (k + 1) = un at *
  replace hun := Hid.mk hun
  generalize hvU h l k = uk at *
  generalize (if k = 0 then 0 else ((grpA h (l.getD (k - 1) noC)).length : Int)) = la at *
  have hmul : 0 ≤ la * ((grpA h (l.getD k noC)).length : Int) := Int.mul_nonneg hla (by omega)
  have w2 : IntKind.i64.wrap (la * ((grpA h (l.getD k noC)).length : Int)) = la * ((grpA h (l.getD k noC)).length : Int) := w_in (by omega)
  have w3 : IntKind.i64.wrap (uk + la * ((grpA h (l.getD k noC)).length : Int)) = un := by rw [w_in (by omega)]; exact hU.symm
  unfold tGs at C2
  replace hlast := Hid.mk hlast
  replace hcn := Hid.mk hcn
  replace hb := Hid.mk hb
  clear hU hb1 hb2 hla hmul hcnt hc2
  generalize grpA h (l.getD k noC) = G at *
  dsimp only at C2
  repeat' (with_reducible first | refine x_ops ?_ | refine wk ?_ | (with_reducible refine xc (C2) ?_) | ((first | refine gd1 ?_ ?_ | refine gd2 ?_ ?_ | refine gd3 ?_ ?_) <;> (first | exact @False.elim _ | intro hc)))
  exact nf hlt ⟨vv, by rw [hun.out]; exact vv, by rw [hlast.out]; exact vv, hcn.out⟩ rfl
end Go.Proofs.Ytojjdkoglhecbaa
namespace Go.Proofs.Ytojjdkoglhecbaa
open Go.RowKit

end Go.Proofs.Ytojjdkoglhecbaa
namespace Go.Proofs.Ytojjdkoglhecbaa
open Go.RowKit
set_option maxRecDepth 100000

abbrev c_theorbolaw06_HandThrough_p1 : VC := (.seq (.ops 0 [oo 20 (.call 28) [], oo 6 .mv [.t 20]]) .ret)
abbrev c_theorbolaw06_HandThrough_p2 : VC := (.seq (.ops 0 [oo 37 .mv [.t 10], oo 38 .mv [.t 12], oo 39 (.bin .eql) [.t 37, .t 38], oo 40 .mv [.t 39], og 41 40 true (.fldA 1) [.t 9], og 42 40 true .ld1 [.t 41], og 43 40 true (.fldA 1) [.t 11], og 44 40 true .ld1 [.t 43], og 45 40 true (.bin .eql) [.t 42, .t 44], oo 46 .pick [.t 40, .t 45, (.c (.lit (.bool false)))], oo 47 .mv [.t 46], og 48 47 true (.fldA 0) [.t 9], og 49 47 true .ld1 [.t 48], og 50 47 true (.fldA 0) [.t 11], og 51 47 true .ld1 [.t 50], og 52 47 true (.call 34) [.t 49, .t 51], oo 53 .pick [.t 47, .t 52, (.c (.lit (.bool false)))], oo 54 .mv [.t 53], og 55 54 true (.call 28) [], oo 56 .pick [.t 54, .t 55, (.c (.lit (.bool false)))], oo 6 .mv [.t 56]]) .ret)
abbrev c_theorbolaw06_HandThrough_p3 : VC := (.seq (.ops 11 [oo 30 (.ldA 10) [.t 7], oo 31 .mv [.t 8], oo 32 .mv [.t 1], oo 33 (.ldA 2) [.t 5], oo 34 (.call 42) [.t 30, .t 31, .t 32, .t 33], oo 29 .mv [.t 34], oo 35 (.ext 0) [.t 29], oo 36 (.ext 1) [.t 29], ⟨(some 11), none, (.alloc 40 [(.sl 0 [] .exact), li 0]), [], none⟩, ⟨none, none, (.st 2), [.t 11, .t 35], none⟩, oo 12 .mv [.t 36]]) c_theorbolaw06_HandThrough_p2)
abbrev c_theorbolaw06_HandThrough_p4 : VC := (.seq (.ops 11 [oo 22 (.ldA 10) [.t 7], oo 23 .mv [.t 8], oo 24 .mv [.t 1], oo 25 (.ldA 2) [.t 5], oo 26 (.call 41) [.t 22, .t 23, .t 24, .t 25], oo 21 .mv [.t 26], oo 27 (.ext 0) [.t 21], oo 28 (.ext 1) [.t 21], ⟨(some 9), none, (.alloc 40 [(.sl 0 [] .exact), li 0]), [], none⟩, ⟨none, none, (.st 2), [.t 9, .t 27], none⟩, oo 10 .mv [.t 28]]) c_theorbolaw06_HandThrough_p3)
abbrev c_theorbolaw06_HandThrough_p5 : VC := (.seq (.seq (.ops 0 [oo 17 (.ldA 10) [.t 7], oo 18 .mv [.t 8], oo 19 (.call 29) [.t 17, .t 18]]) (.cond (.t 19) c_theorbolaw06_HandThrough_p1 .skip)) c_theorbolaw06_HandThrough_p4)
abbrev c_theorbolaw06_HandThrough_p6 : VC := (.seq (.ops 7 [oo 13 (.fldA 0) [.t 3], od 14 (.ldA 10) [.t 13] [0], oo 15 (.fldA 10) [.t 3], od 16 .ld1 [.t 15] [2], ⟨(some 7), none, (.alloc 25 [(.sl 0 [] .exact), (.sl 0 [] .exact), (.sl 0 [] .exact), li 0, li 0, li 0, li 0, li 0, li 0, li 0]), [], (some [])⟩, ⟨none, none, (.st 10), [.t 7, .t 14], (some [4])⟩, oo 8 .mv [.t 16]]) c_theorbolaw06_HandThrough_p5)
def c_theorbolaw06_HandThrough : VC := (.seq (.ops 3 [oo 3 (.box 35) [.t 0], oo 5 (.box 53) [.t 2], oo 6 .mv [(.c (.lit (.bool false)))]]) c_theorbolaw06_HandThrough_p6)
theorem k_theorbolaw06_HandThrough : Comp Try.prog nobx gtab 9 57 c_theorbolaw06_HandThrough [.t 6] := ⟨⟨Try.f9, _, Try.func9, rfl, rfl, kr, kr⟩⟩
end Go.Proofs.Ytojjdkoglhecbaa
namespace Go.Proofs.Ytojjdkoglhecbaa
open Go.RowKit

set_option maxHeartbeats 4000000 in
theorem rThrough_fn (h : Hand) (l : List Chord) (hl : Fits l) (i : Int) (g : Grip) (hg : g.fingers.length ≤ 17592186044416) : Fn Try.prog Gd 42 [h.val, tCs l, vint i, g.val] (fstV (thrR h l i g)) := by
  refine Fn.of_vx0 k_theorboref06_Through (by simp) (by rw [V.pures, pure_hand, V.pures, pure_tCs, V.pures, V.pures, pure_grip]; rfl) ?_
  have C1 := fun m => rTable_sfn h l hl m
  have C2 := fun m => rtPost_ex h l m
  have hl0 := hl.1
  have hnet := fun hw => wv_net (h := h) hl hw
  unfold c_theorboref06_Through
  unfold Hand.val tCs Grip.val Grip.cells at *
  replace hnet := Hid.mk hnet
  repeat' (with_reducible first | refine x_ops ?_ | refine wk ?_ | ((first | refine gd1 ?_ ?_ | refine gd2 ?_ ?_ | refine gd3 ?_ ?_) <;> (first | exact @False.elim _ | intro hc)))
  refine x_scallR [.agg [tIs h.low, tIs h.high, tBs h.barre, vint h.top, vint h.jump, vint h.shift, vint h.lift, vint h.bar, vint h.stretch, vint h.slide], .sl l.length (l.flatMap Chord.cells) .no] vw (C1 _) (C2 _) ?_
  rintro r M ⟨p1, p2, p3⟩
  have p1' : 4 ≤ M.next := p1
  have o0 : M.obj 0 = some (.box [tIs h.low, tIs h.high, tBs h.barre, vint h.top, vint h.jump, vint h.shift, vint h.lift, vint h.bar, vint h.stretch, vint h.slide] 25) := (p2 0 (by show 0 < 4; decide)).trans (by (dsimp only; exact (put_other _ _ (by decide)).trans ((put_other _ _ (by decide)).trans (put_same _ _ _))))
  have o1 : M.obj 1 = some (.box [vint g.pos, tIs g.fingers] 53) := (p2 1 (by show 1 < 4; decide)).trans (by (dsimp only; exact (put_other _ _ (by decide)).trans (put_same _ _ _)))
  have o2 : M.obj 2 = some (.box [.sl 0 [] .exact, vint 0] 40) := (p2 2 (by show 2 < 4; decide)).trans (by (dsimp only; exact put_same _ _ _))
  have z0 : 0 < M.next := by omega
  have z1 : 1 < M.next := by omega
  have z2 : 2 < M.next := by omega
  clear C1 C2 p2
  rcases p3 with ⟨hw, rfl⟩ | ⟨hw, nq, rfl, hq⟩
  · have e1 : (wvE h l == 0) = false := by rw [beq_eq_false_iff_ne]; exact hw
    have ht : thrR h l i g = ([], 0, wvE h l) := by rw [thrR, if_neg hw]
    rw [ht]
    unfold fstV tGs
    clear hw ht
    repeat' (with_reducible first | refine x_ops ?_ | refine wk ?_ | ((first | refine gd1 ?_ ?_ | refine gd2 ?_ ?_ | refine gd3 ?_ ?_) <;> (first | exact @False.elim _ | intro hc)))
    exact finV_ret vv (.tup (.cons (.agg (.cons (.sl _ _ _) (.cons (.lit _) .nil))) (.cons (.lit _) .nil)))
  have hn := hnet.out hw
  have e0 : thrR h l i g = (if (decide (0 ≤ i) && decide (i ≤ (l.length : Int) - 1)) = true then (if fitB h (l.getD i.toNat noC) g = true then fstR h l ((tabG h l).set i.toNat [g]) else ([], 0, 61)) else ([], 0, 1)) := by rw [thrR, if_pos hw]
  by_cases hi0 : i < 0
  · have hi : ¬ (decide (0 ≤ i) && decide (i ≤ (l.length : Int) - 1)) = true := by simp; omega
    rw [if_neg hi] at e0
    rw [e0]
    unfold fstV tGs
    clear hw e0 hi hn hnet hq
    repeat' (with_reducible first | refine x_ops ?_ | simp only [go_sem, Nat.reduceAdd, Nat.reduceEqDiff, Nat.reduceLT, Nat.reduceLeDiff, Nat.reduceMul, Nat.reduceSub, Nat.reducePow, Nat.reduceDiv, Nat.reduceMod, Nat.reduceBEq, Int.reduceBEq, Int.reduceLT, reduceIte, tIs, tBs, tPs, vund, *] | ((first | refine gd1 ?_ ?_ | refine gd2 ?_ ?_ | refine gd3 ?_ ?_) <;> (first | exact @False.elim _ | intro hc)))
    exact finV_ret vv (.tup (.cons (.agg (.cons (.sl _ _ _) (.cons (.lit _) .nil))) (.cons (.lit _) .nil)))
  by_cases hi1 : (l.length : Int) ≤ i
  · have hi : ¬ (decide (0 ≤ i) && decide (i ≤ (l.length : Int) - 1)) = true := by simp; omega
    rw [if_neg hi] at e0
    rw [e0]
    unfold fstV tGs
    clear hw e0 hi hn hnet hq
    repeat' (with_reducible first | refine x_ops ?_ | simp only [go_sem, Nat.reduceAdd, Nat.reduceEqDiff, Nat.reduceLT, Nat.reduceLeDiff, Nat.reduceMul, Nat.reduceSub, Nat.reducePow, Nat.reduceDiv, Nat.reduceMod, Nat.reduceBEq, Int.reduceBEq, Int.reduceLT, reduceIte, tIs, tBs, tPs, vund, *] | ((first | refine gd1 ?_ ?_ | refine gd2 ?_ ?_ | refine gd3 ?_ ?_) <;> (first | exact @False.elim _ | intro hc)))
    exact finV_ret vv (.tup (.cons (.agg (.cons (.sl _ _ _) (.cons (.lit _) .nil))) (.cons (.lit _) .nil)))
  obtain ⟨k, rfl⟩ : ∃ k : Nat, i = (k : Int) := ⟨i.toNat, by omega⟩
  have hk : k < l.length := by omega
  rw [if_pos (by simp; omega), Int.toNat_natCast] at e0
  have C3 := rfits_fn h hn.hk (l.getD k noC) (hn.seq k hk).1 (hn.fits.at k) g hg
  unfold Hand.val Chord.val Chord.cells Grip.val Grip.cells at C3
  have c1 : (k : Int) < (l.length : Int) := by omega
  have c2 : k * 3 + 3 ≤ l.length * 3 := by omega
  have g1 := chs_take hk
  have g2 := chs_len l
  by_cases hf : FitG h (l.getD k noC) g
  case neg =>
    have hb : fitB h (l.getD k noC) g = false := by
      cases hx : fitB h (l.getD k noC) g
      · rfl
      · exact absurd (fit_true.1 hx) hf
    rw [hb] at C3 e0
    rw [if_neg (by decide)] at e0
    rw [e0]
    unfold fstV tGs
    clear hw e0 hn hnet hf hb hq
    repeat' (with_reducible first | refine x_ops ?_ | simp only [go_sem, Nat.reduceAdd, Nat.reduceEqDiff, Nat.reduceLT, Nat.reduceLeDiff, Nat.reduceMul, Nat.reduceSub, Nat.reducePow, Nat.reduceDiv, Nat.reduceMod, Nat.reduceBEq, Int.reduceBEq, Int.reduceLT, reduceIte, tIs, tBs, tPs, vund, *] | (with_reducible refine xc (C3) ?_) | ((first | refine gd1 ?_ ?_ | refine gd2 ?_ ?_ | refine gd3 ?_ ?_) <;> (first | exact @False.elim _ | intro hc)))
    exact finV_ret vv (.tup (.cons (.agg (.cons (.sl _ _ _) (.cons (.lit _) .nil))) (.cons (.lit _) .nil)))
  rw [fit_true.2 hf] at C3 e0
  rw [if_pos rfl] at e0
  rw [e0]
  obtain ⟨q1, q2, q3⟩ := hq (by omega)
  have q1' : 4 ≤ nq := q1
  have hn2 := net_set hn hk hf
  have hgl := hn.gl
  have hml : ((tabG h l).map tGs).length = l.length := by rw [List.length_map, hgl]
  have c3 : k + 1 ≤ l.length := hk
  have ebx : bxG l.length nq = .gsl nq l.length 1 := by rw [bxG, if_neg (by omega)]
  rw [ebx]
  replace hn := Hid.mk hn
  replace hn2 := Hid.mk hn2
  replace hf := Hid.mk hf
  clear hw e0 hnet hq
  have x0 : ¬ 0 = nq := by omega
  have x1 : ¬ 1 = nq := by omega
  have x2 : ¬ 2 = nq := by omega
  have hset := set_eq (L := (tabG h l).map tGs) (i := k) (by omega) (.sl 1 [vint g.pos, tIs g.fingers] .exact)
  have hrows := rows_set (rows_tGs (tabG h l)) k 1 [vint g.pos, tIs g.fingers] .exact
  have hfgt : (((tabG h l).map tGs).set k (.sl 1 [vint g.pos, tIs g.fingers] .exact)).map fgt = ((tabG h l).set k [g]).map tGs := by
    rw [List.map_set, fgt_tGs, List.map_set]; rfl
  replace hset := Hid.mk hset
  replace hrows := Hid.mk hrows
  replace hfgt := Hid.mk hfgt
  repeat' (with_reducible first | refine x_ops ?_ | simp only [go_sem, Nat.reduceAdd, Nat.reduceEqDiff, Nat.reduceLT, Nat.reduceLeDiff, Nat.reduceMul, Nat.reduceSub, Nat.reducePow, Nat.reduceDiv, Nat.reduceMod, Nat.reduceBEq, Int.reduceBEq, Int.reduceLT, reduceIte, tIs, tBs, tPs, vund, *] | (with_reducible refine xc (C3) ?_) | ((first | refine gd1 ?_ ?_ | refine gd2 ?_ ?_ | refine gd3 ?_ ?_) <;> (first | exact @False.elim _ | intro hc)))
  have CF := search_fn hn2.out (q := 1) (by decide) (by decide)
  have hvg : Vw ((⟨M.obj, M.next⟩ : Mm).put nq (.box (((tabG h l).map tGs).take k ++ [.sl 1 [vint g.pos, tIs g.fingers] .exact] ++ ((tabG h l).map tGs).drop (k + 1)) 38)) (fun q => decide (4 ≤ q)) (.gsl nq l.length 1) (tGss ((tabG h l).set k [g])) := by
    rw [tGss, List.length_set, hgl, ← hfgt.out]
    refine .gsl (by simp [q1']) (put_same _ _ _) ?_ ?_
    · rw [List.append_assoc, List.singleton_append, ← hset.out]; exact vws_rows hrows.out
    · exact fgt_one hrows.out
  refine x_cutR [.agg [tIs h.low, tIs h.high, tBs h.barre, vint h.top, vint h.jump, vint h.shift, vint h.lift, vint h.bar, vint h.stretch, vint h.slide], .sl l.length (l.flatMap Chord.cells) .no, .gsl nq l.length 1, vint 1] vw (us := [h.val, tCs l, tGss ((tabG h l).set k [g]), vint 1]) (fun q => decide (4 ≤ q)) CF (.cons vw_hand (.cons (.sl _ _ _) (.cons hvg (.cons (.lit _) .nil)))) ?_
  have f2 : (((⟨M.obj, M.next⟩ : Mm).put nq (.box (((tabG h l).map tGs).take k ++ [.sl 1 [vint g.pos, tIs g.fingers] .exact] ++ ((tabG h l).map tGs).drop (k + 1)) 38)).freeze fun q => decide (4 ≤ q)).obj 2 = some (.box [.sl 0 [] .exact, vint 0] 40) := by
    show (if decide (4 ≤ 2) = true then none else ((⟨M.obj, M.next⟩ : Mm).put nq (.box (((tabG h l).map tGs).take k ++ [.sl 1 [vint g.pos, tIs g.fingers] .exact] ++ ((tabG h l).map tGs).drop (k + 1)) 38)).obj 2) = _
    rw [if_neg (by decide)]; exact (put_other _ _ x2).trans o2
  have f3 : (((⟨M.obj, M.next⟩ : Mm).put nq (.box (((tabG h l).map tGs).take k ++ [.sl 1 [vint g.pos, tIs g.fingers] .exact] ++ ((tabG h l).map tGs).drop (k + 1)) 38)).freeze fun q => decide (4 ≤ q)).next = M.next := rfl
  change goR Try.prog Gd M.next (some ⟨_, ((⟨M.obj, M.next⟩ : Mm).put nq (.box (((tabG h l).map tGs).take k ++ [.sl 1 [vint g.pos, tIs g.fingers] .exact] ++ ((tabG h l).map tGs).drop (k + 1)) 38)).freeze fun q => decide (4 ≤ q)⟩) _ _ _
  generalize (((⟨M.obj, M.next⟩ : Mm).put nq (.box (((tabG h l).map tGs).take k ++ [.sl 1 [vint g.pos, tIs g.fingers] .exact] ++ ((tabG h l).map tGs).drop (k + 1)) 38)).freeze fun q => decide (4 ≤ q)) = M5 at *
  have z5 : 2 < M5.next := by omega
  rw [fst_fg hn2.out]
  clear CF hvg hset hrows hfgt C3 o0 o1 o2 q3
  cases hF : fgL h l ((tabG h l).set k [g]) 1 with
  | nil =>
    unfold tFs fstV tGs
    repeat' (with_reducible first | refine x_ops ?_ | refine wk ?_ | ((first | refine gd1 ?_ ?_ | refine gd2 ?_ ?_ | refine gd3 ?_ ?_) <;> (first | exact @False.elim _ | intro hc)))
    exact finV_ret vv (.tup (.cons (.agg (.cons (.sl _ _ _) (.cons (.lit _) .nil))) (.cons (.lit _) .nil)))
  | cons f F =>
    obtain ⟨G, c⟩ := f
    have hfl : (((G, c) :: F).flatMap fgC).take 2 = [tGs G, vint c] := by rw [List.flatMap_cons]; rfl
    have hlen : (((G, c) :: F).flatMap fgC).length = ((G, c) :: F).length * 2 := flat_len fgC_l _
    have c5 : (0 : Int) < ((((G, c) :: F).length : Nat) : Int) := by rw [List.length_cons]; omega
    have e6 : (((((G, c) :: F).length : Nat) : Int) == 0) = false := by rw [beq_eq_false_iff_ne]; omega
    have c6 : 2 ≤ ((G, c) :: F).length * 2 := by rw [List.length_cons]; omega
    unfold tFs
    generalize ((G, c) :: F).flatMap fgC = FL at *
    generalize ((G, c) :: F).length = N at *
    unfold fstV tGs at *
    repeat' (with_reducible first | refine x_ops ?_ | refine wk ?_ | ((first | refine gd1 ?_ ?_ | refine gd2 ?_ ?_ | refine gd3 ?_ ?_) <;> (first | exact @False.elim _ | intro hc)))
    exact finV_ret vw (.tup (.cons (.agg (.cons (.sl _ _ _) (.cons (.lit _) .nil))) (.cons (.lit _) .nil)))
theorem thr_fits {h : Hand} {l : List Chord} (hl : Fits l) (i : Int) {g : Grip} : FitsG (thrR h l i g).1 := by
  have h0 : FitsG [] := ⟨by simp, fun g hg => by cases hg⟩
  rw [thrR]
  by_cases hw : wvE h l = 0
  · rw [if_pos hw]
    split
    · rename_i hi
      split
      · rename_i hf
        rw [Bool.and_eq_true, decide_eq_true_eq, decide_eq_true_eq] at hi
        exact fst_fits (net_set (wv_net hl hw) (by omega) (fit_true.1 hf))
      · exact h0
    · exact h0
  · rw [if_neg hw]; exact h0
set_option maxHeartbeats 4000000 in
theorem handthrough_fn (h : Hand) (l : List Chord) (hl : Fits l) (i : Int) (g : Grip) (hg : g.fingers.length ≤ 17592186044416) : Fn Try.prog Gd 9 [srV h l, vint i, g.val] (vbool true) := by
  refine Fn.of_vx0 k_theorbolaw06_HandThrough (by simp) (by rw [V.pures, pure_sr, V.pures, V.pures, pure_grip]; rfl) ?_
  have C0 := heavy_fn h l hl
  have C1 := Through_fn h l hl i g hg
  have C2 := rThrough_fn h l hl i g hg
  have C5 := works_fn
  have hl0 := hl.1
  unfold Hand.val tCs at C0 C1 C2
  unfold Grip.val Grip.cells at C1 C2
  unfold fstV tGs at C1 C2
  unfold c_theorbolaw06_HandThrough srV tCs Grip.val Grip.cells
  generalize hvB h l = hv at *
  cases hv
  case true =>
    clear C1 C2
    repeat' (with_reducible first | refine x_ops ?_ | refine wk ?_ | (with_reducible refine xc (C0) ?_) | (with_reducible refine xc (C5) ?_) | ((first | refine gd1 ?_ ?_ | refine gd2 ?_ ?_ | refine gd3 ?_ ?_) <;> (first | exact @False.elim _ | intro hc)))
    all_goals exact finV_dry rfl vv
  have hft := thr_fits (h := h) hl i (g := g)
  generalize thrR h l i g = r at *
  obtain ⟨G, c, e⟩ := r
  have C3 := samegrips_fn G G hft
  rw [decide_eq_true rfl] at C3
  have e1 : (e == e) = true := beq_self_eq_true _
  have e2 : (c == c) = true := beq_self_eq_true _
  unfold tGs at C3
  dsimp only at C1 C2
  clear hft hl hl0 hg
  repeat' (with_reducible first | refine x_ops ?_ | refine wk ?_ | (with_reducible refine xc (C0) ?_) | (with_reducible refine xc (C1) ?_) | (with_reducible refine xc (C2) ?_) | (with_reducible refine xc (C3) ?_) | (with_reducible refine xc (C5) ?_) | ((first | refine gd1 ?_ ?_ | refine gd2 ?_ ?_ | refine gd3 ?_ ?_) <;> (first | exact @False.elim _ | intro hc)))
  all_goals exact finV_dry rfl vv
end Go.Proofs.Ytojjdkoglhecbaa
