/- The reference's Prove, run: the same table. The net of a search, run: is a number of a table a lower bound; does a table prove. The net of a search, run: Proves. The reference's Proves, run. The reference's Proves, run: the whole of it. -/
import Derived.Test.YtojjdkoglhecbaaS1
import Derived.Test.YtojjdkoglhecbaaJ1
set_option linter.unusedSimpArgs false
set_option linter.unusedVariables false
namespace Go.Proofs.Ytojjdkoglhecbaa
open Go.RowKit

/-- Where the reference's Prove stands, x chords from the end. -/
structure RSt (h : Hand) (l : List Chord) (Gs : List (List Grip)) (x : Nat) (rows : List V) (M : Mm) : Prop where
  nx : 7 ≤ M.next
  ho : M.obj 0 = some (.box [tIs h.low, tIs h.high, tBs h.barre, vint h.top, vint h.jump, vint h.shift, vint h.lift, vint h.bar, vint h.stretch, vint h.slide] 25)
  ro : M.obj 5 = some (.box rows 22)
  len : rows.length = l.length
  isr : Rows rows
  done : ∀ y, l.length ≤ y + x → y < l.length → ∃ tok, rows[y]? = some (.sl (rsT h l Gs y).length ((rsT h l Gs y).map vint) tok)
  rest : ∀ y, y + x < l.length → rows[y]? = some (.sl 0 [] .exact)

set_option maxHeartbeats 4000000 in
theorem rProve_fn (h : Hand) (l : List Chord) (hl : Fits l) : Fn Try.prog Gd 48 [h.val, tCs l] (.tup [tIss (prvR h l).1, vint (prvR h l).2]) := by
  refine Fn.of_vx0 k_theorboref06_Prove (by simp) (by rw [V.pures, pure_hand, V.pures, pure_tCs]; rfl) ?_
  have C1 := rTable_fn h l hl
  unfold tbR at C1
  unfold prvR c_theorboref06_Prove Hand.val tCs
  unfold Hand.val tCs at C1
  by_cases hw : wvE h l = 0
  case neg =>
    have e1 : (wvE h l == 0) = false := by rw [beq_eq_false_iff_ne]; exact hw
    rw [if_neg hw] at C1 ⊢
    unfold tGss at C1
    clear hw
    dsimp only at C1 ⊢
    repeat' (with_reducible first | refine x_ops ?_ | refine wk ?_ | (with_reducible refine xc (C1) ?_) | ((first | refine gd1 ?_ ?_ | refine gd2 ?_ ?_ | refine gd3 ?_ ?_) <;> (first | exact @False.elim _ | intro hc)))
    exact finV_ret vv (.tup (.cons (.sl _ _ _) (.cons (.lit _) .nil)))
  have hn := wv_net hl hw
  rw [if_pos hw] at C1 ⊢
  generalize tabG h l = Gs at *
  have h4 := hn.len
  have hgl := hn.gl
  unfold tGss at C1
  rw [hgl] at C1
  have k1 : (l.length : Int) * 24 ≤ 140737488355328 := by omega
  have k2 : (l.length : Int) ≤ 140737488355328 := by omega
  have w1 : IntKind.i64.wrap ((l.length : Int) - 1) = (l.length : Int) - 1 := w_in (by omega)
  replace h4 := Hid.mk h4
  replace hgl := Hid.mk hgl
  replace hn := Hid.mk hn
  clear hw
  dsimp only at C1 ⊢
  repeat' (with_reducible first | refine x_ops ?_ | refine wk ?_ | (with_reducible refine xc (C1) ?_) | ((first | refine gd1 ?_ ?_ | refine gd2 ?_ ?_ | refine gd3 ?_ ?_) <;> (first | exact @False.elim _ | intro hc)))
  refine x_gen (fun t => t 1 = .sl l.length (l.flatMap Chord.cells) .no ∧ t 2 = .ptr 0 0 ∧ t 6 = .sl l.length (Gs.map tGs) .no ∧ t 8 = .bsl 5 0 l.length l.length ∧ t 9 = vint ((l.length : Int) - 1)) ⟨vv, vv, vv, vv, vv⟩ ?_
  rintro t0 ⟨a1, a2, a6, a8, a9⟩
  refine x_loopW w_theorboref06_Prove_p20 kr l.length (fun x t M => t 9 = vint ((l.length : Int) - 1 - x) ∧ ∃ rows, RSt h l Gs x rows M) ?_ ?_
  · refine ⟨by simpa using a9, List.replicate l.length (.sl 0 [] .exact), ⟨?_, vv, ?_, List.length_replicate, ?_, ?_, ?_⟩⟩
    · show 7 ≤ 7; omega
    · ((refine ve ?_; try exact True.intro)); simp
    · intro v hv; rw [List.mem_replicate] at hv; exact ⟨_, _, _, hv.2⟩
    · intro y h1 h2; omega
    · intro y hy; rw [List.getElem?_replicate, if_pos (by omega)]
  clear C1
  rintro x t M hx ⟨h9, rows, hs⟩
  have hnx := hs.nx
  have o0 := hs.ho
  have o5 := hs.ro
  by_cases hxl : x < l.length
  case neg =>
    have hxe : x = l.length := by omega
    subst hxe
    have c1 : ¬ (0 : Int) ≤ (l.length : Int) - 1 - (l.length : Int) := by omega
    have he : rows.map fgt = (rsA h l Gs).map tIs := by
      apply List.ext_getElem?
      intro y
      rw [List.getElem?_map]
      by_cases hy : y < l.length
      · obtain ⟨tok, h9⟩ := hs.done y (by omega) hy
        rw [h9, iss_at (by rw [rsA_len]; exact hy), rsA_at hy]; rfl
      · rw [List.getElem?_eq_none (by have := hs.len; omega), List.getElem?_eq_none (by rw [List.length_map, rsA_len]; omega)]; rfl
    have hrr := Hid.mk hs.isr
    rw [tIss, rsA_len, ← he]
    clear he hs hx hxl
    repeat' (with_reducible first | refine x_ops ?_ | refine wk ?_ | ((first | refine gd1 ?_ ?_ | refine gd2 ?_ ?_ | refine gd3 ?_ ?_) <;> (first | exact @False.elim _ | intro hc)))
    exact finV_ret vv (.tup (.cons (.bsl rfl o5 (vws_rows hrr.out) (fgt_one hrr.out)) (.cons (.lit _) .nil)))
  obtain ⟨i, hi⟩ : ∃ i : Nat, i + 1 + x = l.length := ⟨l.length - 1 - x, by omega⟩
  have ei : (l.length : Int) - 1 - (x : Int) = (i : Int) := by omega
  rw [ei] at h9
  have hil : i < l.length := by omega
  have c0 : (i : Int) < (l.length : Int) := by omega
  have hri := hs.rest i (by omega)
  have gl := hgl.out
  have g0 := gss_at' (l := Gs) (k := i) (by omega)
  have hcnt := hn.out.cnt i
  have hc := (hn.out.seq i hil).1
  have hf := hn.out.fits.at i
  have gi : ∀ k, k < (Gs.getD i []).length → _ := fun k hk => hn.out.grip hil hk
  have w2 : IntKind.i64.wrap ((i : Int) - 1) = (i : Int) - 1 := w_in (by omega)
  have hgi : Hid ((Gs.getD i []).length = (rsT h l Gs i).length) := ⟨(rsT_len hil).symm⟩
  clear ei
  replace hs := Hid.mk hs
  replace hi := Hid.mk hi
  repeat' (with_reducible first | refine x_ops ?_ | refine wk ?_ | ((first | refine gd1 ?_ ?_ | refine gd2 ?_ ?_ | refine gd3 ?_ ?_) <;> (first | exact @False.elim _ | intro hc)))
  refine x_gen (fun t => t 1 = .sl l.length (l.flatMap Chord.cells) .no ∧ t 2 = .ptr 0 0 ∧ t 6 = .sl l.length (Gs.map tGs) .no ∧ t 8 = .bsl 5 0 l.length l.length ∧ t 9 = vint i ∧ t 10 = vint 0) ⟨vw, vw, vw, vw, vw, vv⟩ ?_
  clear a1 a2 a6 a8 a9 h9
  rintro t3 ⟨a1, a2, a6, a8, a9, a10⟩
  refine x_loopW w_theorboref06_Prove_p16 kr (Gs.getD i []).length (fun k t M' => t 10 = vint (k : Int) ∧ ∃ tok, InSt h l Gs 5 i rows M k tok M') ?_ ?_
  · exact ⟨a10, .exact, Nat.le_refl _, by rw [List.take_zero, List.map_nil, set_same hri]; exact o5, .inl rfl, fun q hq => by (cases hq), fun _ _ _ => rfl⟩
  rintro k t4 M' hk ⟨h10, tok, hin⟩
  by_cases hkl : k < (Gs.getD i []).length
  case neg =>
    have hke : k = (Gs.getD i []).length := by omega
    subst hke
    have c1 : ¬ ((Gs.getD i []).length : Int) < ((Gs.getD i []).length : Int) := by omega
    have hfull : ((rsT h l Gs i).take (Gs.getD i []).length) = rsT h l Gs i := List.take_of_length_le (by rw [rsT_len hil]; exact Nat.le_refl _)
    have ex : (i : Int) - 1 = (l.length : Int) - 1 - ((x + 1 : Nat) : Int) := by have := hi.out; omega
    replace ex := Hid.mk ex
    replace hfull := Hid.mk hfull
    replace hin := Hid.mk hin
    clear hkl hk
    repeat' (with_reducible first | refine x_ops ?_ | refine wk ?_ | ((first | refine gd1 ?_ ?_ | refine gd2 ?_ ?_ | refine gd3 ?_ ?_) <;> (first | exact @False.elim _ | intro hc)))
    refine nx hxl ⟨by rw [← ex.out]; exact vv, rows.set i (.sl (Gs.getD i []).length (((rsT h l Gs i).take (Gs.getD i []).length).map vint) tok), ⟨?_, ?_, ?_, ?_, ?_, ?_, ?_⟩⟩
    · have := hin.out.nx; show 7 ≤ M'.next; omega
    · exact (hin.out.fr 0 (by omega) (by decide)).trans o0
    · exact hin.out.ro
    · rw [List.length_set]; exact hs.out.len
    · exact rows_set hs.out.isr _ _ _ _
    · intro y h1 h2
      by_cases hyi : y = i
      · subst hyi
        refine ⟨tok, ?_⟩
        rw [List.getElem?_set_self (by rw [hs.out.len]; exact hil), hfull.out, rsT_len hil]
      · rw [List.getElem?_set_ne (fun e => hyi e.symm)]
        exact hs.out.done y (by have := hi.out; omega) h2
    · intro y hy
      rw [List.getElem?_set_ne (by have := hi.out; omega)]
      exact hs.out.rest y (by omega)
  have c1 : (k : Int) < ((Gs.getD i []).length : Int) := by omega
  have w3 := w_add1 (k := k) (by omega)
  have b0 := (hin.fr 0 (by omega) (by decide)).trans o0
  have b5 := hin.ro
  have n0 : 0 < M'.next := by have := hin.nx; omega
  have n5 : 5 < M'.next := by have := hin.nx; omega
  have hg := gi k hkl
  have C3 := rown_fn h hn.out.hk (l.getD i noC) hc hf ((Gs.getD i []).getD k noG) hg.2 hg.1
  have g1 := chs_take hil
  have g2 := chs_len l
  have c2 : i * 3 + 3 ≤ l.length * 3 := by omega
  have g3 := gs_take hkl
  have g4 := gs_len (Gs.getD i [])
  have c3 : k * 2 + 2 ≤ (Gs.getD i []).length * 2 := by omega
  unfold Hand.val Chord.val Chord.cells Grip.val Grip.cells at C3
  replace hin := Hid.mk hin
  replace hg := Hid.mk hg
  clear hri gi
  -- the ways
  have key : ∀ (t5 : Nat → V) (Q' : VX → St → Prop), (t5 1 = .sl l.length (l.flatMap Chord.cells) .no ∧ t5 2 = .ptr 0 0 ∧ t5 6 = .sl l.length (Gs.map tGs) .no ∧ t5 8 = .bsl 5 0 l.length l.length ∧ t5 9 = vint i ∧ t5 10 = vint k ∧ t5 11 = vint (ownC h (l.getD i noC) ((Gs.getD i []).getD k noG)) ∧
      t5 12 = vint (if i + 1 = l.length then ownC h (l.getD i noC) ((Gs.getD i []).getD k noG) else -1)) →
      (∀ t6 M6, (∃ tok, InSt h l Gs 5 i rows M (k + 1) tok M6) → Q' .nrm ⟨mix 2854495385411919762116571920452246199056068608 t6 t5, M6⟩) → (c_theorboref06_Prove_p11).vx Try.prog Gd Q' ⟨t5, M'⟩ := by
    rintro t5 Q' ⟨f1, f2, f6, f8, f9, f10, f11, f12⟩ hQ
    unfold c_theorboref06_Prove_p11
    refine x_sum 2854495385411919762116571920452246199056068608 kr (R := fun e t m' => e = .nrm ∧ ∃ tok, InSt h l Gs 5 i rows M (k + 1) tok m') ?_ ?_
    rotate_left
    · rintro e t' M6 ⟨rfl, h1⟩; exact hQ _ _ h1
    refine x_join 2787593149816327892691946337336971478822912 kr (Sl 12 (vint (rsE h l Gs i (rsT h l Gs (i + 1)) ((Gs.getD i []).getD k noG)))) ?_ ?_
    · by_cases hlast : i + 1 = l.length
      · rw [if_pos hlast] at f12
        have cl : ¬ (i : Int) < (l.length : Int) - 1 := by omega
        rw [rsE, if_pos hlast]
        replace hlast := Hid.mk hlast
        repeat' (with_reducible first | refine x_ops ?_ | refine wk ?_ | ((first | refine gd1 ?_ ?_ | refine gd2 ?_ ?_ | refine gd3 ?_ ?_) <;> (first | exact @False.elim _ | intro hc)))
        refine x_loopF w_theorboref06_Prove_p8 kr 0 (fun q t => t 12 = vint (ownC h (l.getD i noC) ((Gs.getD i []).getD k noG))) vw ?_
        rintro q t6 hq h12
        repeat' (with_reducible first | refine x_ops ?_ | refine wk ?_ | ((first | refine gd1 ?_ ?_ | refine gd2 ?_ ?_ | refine gd3 ?_ ?_) <;> (first | exact @False.elim _ | intro hc)))
        exact ⟨rfl, rfl, by unfold Sl; exact vw⟩
      rw [if_neg hlast] at f12
      rw [rsE, if_neg hlast]
      have hi1 : i + 1 < l.length := by omega
      have cl : (i : Int) < (l.length : Int) - 1 := by omega
      have wi := w_add1 (k := i) (by omega)
      have cl1 : ((i + 1 : Nat) : Int) < (l.length : Int) := by omega
      have j0 := gss_at' (l := Gs) (k := i + 1) (by omega)
      obtain ⟨tk, hrow⟩ := hs.out.done (i + 1) (by have := hi.out; omega) hi1
      have gR : (rows.set i (.sl k (((rsT h l Gs i).take k).map vint) tok))[i + 1]? = some (.sl (rsT h l Gs (i + 1)).length ((rsT h l Gs (i + 1)).map vint) tk) := by rw [List.getElem?_set_ne (by omega)]; exact hrow
      have hNl := rsT_len (h := h) (Gs := Gs) hi1
      have hNb := fun m hm => rsT_bound hn.out _ (i + 1) rfl hi1 m hm
      have hK2 := hn.out.cnt (i + 1)
      have hown := own_bound hn.out.hk hc hg.out.1
      have hBb := fun m hm => bsU_bound (h := h) (n := l.length - (i + 1)) (a := l.getD i noC) (g := (Gs.getD i []).getD k noG) (b := l.getD (i + 1) noC) (K := Gs.getD (i + 1) []) (N := rsT h l Gs (i + 1)) (m := m) hown hNb (fun m hm => stepC_bound hn.out.hk hg.out.1 (hn.out.grip hi1 hm).1) hm
      have ST := fun q hq => rstep_fn h hn.out.hk (l.getD i noC) (l.getD (i + 1) noC) hc (hn.out.seq (i + 1) hi1).1 (hn.out.follows hi1) hf (hn.out.fits.at (i + 1)) ((Gs.getD i []).getD k noG) ((Gs.getD (i + 1) []).getD q noG) hg.out.2 (hn.out.grip hi1 hq).2 hg.out.1 (hn.out.grip hi1 hq).1
      have hSb := fun q hq => stepC_bound hn.out.hk (a := l.getD i noC) (b := l.getD (i + 1) noC) hg.out.1 (hn.out.grip hi1 (k := q) hq).1
      have g5 := chs_take hi1
      have c4 : (i + 1) * 3 + 3 ≤ l.length * 3 := by omega
      have g6 := gs_len (Gs.getD (i + 1) [])
      unfold Hand.val Chord.val Chord.cells Grip.val Grip.cells at ST
      have h400 := h4.out
      replace hlast := Hid.mk hlast
      replace hNl := Hid.mk hNl
      replace hNb := Hid.mk hNb
      replace hBb := Hid.mk hBb
      replace hSb := Hid.mk hSb
      replace hown := Hid.mk hown
      clear C3 a1 a2 a6 a8 a9 a10 hrow hcnt
      repeat' (with_reducible first | refine x_ops ?_ | refine wk ?_ | ((first | refine gd1 ?_ ?_ | refine gd2 ?_ ?_ | refine gd3 ?_ ?_) <;> (first | exact @False.elim _ | intro hc)))
      refine x_loopF w_theorboref06_Prove_p8 kr (Gs.getD (i + 1) []).length (fun q t => t 13 = vint (q : Int) ∧ t 12 = vint (bsU h (l.getD i noC) ((Gs.getD i []).getD k noG) (l.getD (i + 1) noC) (Gs.getD (i + 1) []) (rsT h l Gs (i + 1)) q)) ?_ ?_
      · exact ⟨vv, vw⟩
      rintro q t6 hq ⟨h13, h12⟩
      by_cases hql : q < (Gs.getD (i + 1) []).length
      case neg =>
        have hqe : q = (Gs.getD (i + 1) []).length := by omega
        subst hqe
        have c5 : ¬ ((Gs.getD (i + 1) []).length : Int) < ((Gs.getD (i + 1) []).length : Int) := by omega
        clear ST hql hq
        repeat' (with_reducible first | refine x_ops ?_ | refine wk ?_ | ((first | refine gd1 ?_ ?_ | refine gd2 ?_ ?_ | refine gd3 ?_ ?_) <;> (first | exact @False.elim _ | intro hc)))
        exact ⟨rfl, rfl, by unfold Sl; exact vw⟩
      have c5 : (q : Int) < ((Gs.getD (i + 1) []).length : Int) := by omega
      have c6 : q * 2 + 2 ≤ (Gs.getD (i + 1) []).length * 2 := by omega
      have c7 : (q : Int) < ((rsT h l Gs (i + 1)).length : Int) := by have := hNl.out; omega
      have g7 := gs_take hql
      have wq := w_add1 (k := q) (by omega)
      have g8 := ints_at (l := rsT h l Gs (i + 1)) (k := q) (by have := hNl.out; omega)
      have STq := ST q hql
      have b1 := hNb.out q hql
      have b2 := hBb.out q (by omega)
      have b3 := hSb.out q hql
      have b4 := hown.out
      have hU : ∀ v, bsU h (l.getD i noC) ((Gs.getD i []).getD k noG) (l.getD (i + 1) noC) (Gs.getD (i + 1) []) (rsT h l Gs (i + 1)) (q + 1) = v ↔ (if (rsT h l Gs (i + 1)).getD q 0 = -1 then bsU h (l.getD i noC) ((Gs.getD i []).getD k noG) (l.getD (i + 1) noC) (Gs.getD (i + 1) []) (rsT h l Gs (i + 1)) q else if (stepR h (l.getD i noC) ((Gs.getD i []).getD k noG) (l.getD (i + 1) noC) ((Gs.getD (i + 1) []).getD q noG)).2 = true then
          (if bsU h (l.getD i noC) ((Gs.getD i []).getD k noG) (l.getD (i + 1) noC) (Gs.getD (i + 1) []) (rsT h l Gs (i + 1)) q = -1 ∨ ownC h (l.getD i noC) ((Gs.getD i []).getD k noG) + stepC h (l.getD i noC) ((Gs.getD i []).getD k noG) (l.getD (i + 1) noC) ((Gs.getD (i + 1) []).getD q noG) + (rsT h l Gs (i + 1)).getD q 0 < bsU h (l.getD i noC) ((Gs.getD i []).getD k noG) (l.getD (i + 1) noC) (Gs.getD (i + 1) []) (rsT h l Gs (i + 1)) q
            then ownC h (l.getD i noC) ((Gs.getD i []).getD k noG) + stepC h (l.getD i noC) ((Gs.getD i []).getD k noG) (l.getD (i + 1) noC) ((Gs.getD (i + 1) []).getD q noG) + (rsT h l Gs (i + 1)).getD q 0 else bsU h (l.getD i noC) ((Gs.getD i []).getD k noG) (l.getD (i + 1) noC) (Gs.getD (i + 1) []) (rsT h l Gs (i + 1)) q)
          else bsU h (l.getD i noC) ((Gs.getD i []).getD k noG) (l.getD (i + 1) noC) (Gs.getD (i + 1) []) (rsT h l Gs (i + 1)) q) = v := fun v => by rw [bsU]
      by_cases hso : StepOk h (l.getD i noC) ((Gs.getD i []).getD k noG) (l.getD (i + 1) noC) ((Gs.getD (i + 1) []).getD q noG)
      case neg =>
        rw [stepR_no hso] at STq hU
        simp only [Bool.false_eq_true, if_false, ite_self] at hU
        have hU2 := (hU _).2 rfl
        replace hU2 := Hid.mk hU2
        clear ST hU hso b1 b2 b3 b4
        dsimp only at STq
        repeat' (with_reducible first | refine x_ops ?_ | refine wk ?_ | (with_reducible refine xc (STq) ?_) | ((first | refine gd1 ?_ ?_ | refine gd2 ?_ ?_ | refine gd3 ?_ ?_) <;> (first | exact @False.elim _ | intro hc)))
        exact nf hql ⟨vv, by rw [hU2.out]; exact vw⟩ rfl
      rw [stepR_ok hso] at STq hU
      simp only [if_true] at hU
      generalize hpn : bsU h (l.getD i noC) ((Gs.getD i []).getD k noG) (l.getD (i + 1) noC) (Gs.getD (i + 1) []) (rsT h l Gs (i + 1)) (q + 1) = pn at hU
      replace hpn := Hid.mk hpn
      generalize bsU h (l.getD i noC) ((Gs.getD i []).getD k noG) (l.getD (i + 1) noC) (Gs.getD (i + 1) []) (rsT h l Gs (i + 1)) q = pq at *
      generalize (rsT h l Gs (i + 1)).getD q 0 = nq at *
      generalize ownC h (l.getD i noC) ((Gs.getD i []).getD k noG) = ow at *
      generalize stepC h (l.getD i noC) ((Gs.getD i []).getD k noG) (l.getD (i + 1) noC) ((Gs.getD (i + 1) []).getD q noG) = sc at *
      dsimp only at STq
      have e6 : ow + sc + nq = ow + sc + nq := rfl
      clear ST hso
      by_cases hN : nq = -1
      · have c8 : ¬ (0 : Int) ≤ nq := by omega
        rw [if_pos hN] at hU
        have hU2 := Hid.mk ((hU _).2 rfl)
        clear hU b1 b2 b3 b4 hN e6
        repeat' (with_reducible first | refine x_ops ?_ | refine wk ?_ | (with_reducible refine xc (STq) ?_) | ((first | refine gd1 ?_ ?_ | refine gd2 ?_ ?_ | refine gd3 ?_ ?_) <;> (first | exact @False.elim _ | intro hc)))
        exact nf hql ⟨vv, by rw [hpn.out, hU2.out]; exact vw⟩ rfl
      have hN0 : 0 ≤ nq ∧ nq ≤ 509000 * 400 := by rcases b1 with b1 | b1; exact absurd b1 hN; exact ⟨b1.1, by omega⟩
      have c8 : (0 : Int) ≤ nq := hN0.1
      have w8 : IntKind.i64.wrap (ow + sc) = ow + sc := w_in (by omega)
      have w9 : IntKind.i64.wrap (ow + sc + nq) = ow + sc + nq := w_in (by omega)
      rw [if_neg hN] at hU
      by_cases hp : pq = -1
      · have c9 : pq < 0 := by omega
        rw [if_pos (.inl hp)] at hU
        have hU2 := Hid.mk ((hU _).2 rfl)
        clear hU b1 b2 b3 b4 hN hN0 hp e6
        repeat' (with_reducible first | refine x_ops ?_ | refine wk ?_ | (with_reducible refine xc (STq) ?_) | ((first | refine gd1 ?_ ?_ | refine gd2 ?_ ?_ | refine gd3 ?_ ?_) <;> (first | exact @False.elim _ | intro hc)))
        exact nf hql ⟨vv, by rw [hpn.out, hU2.out]; exact vw⟩ rfl
      have c9 : ¬ pq < 0 := by rcases b2 with b2 | b2; exact absurd b2 hp; omega
      by_cases hlt : ow + sc + nq < pq
      · rw [if_pos (.inr hlt)] at hU
        have hU2 := Hid.mk ((hU _).2 rfl)
        clear hU b1 b2 b3 b4 hN hN0 hp e6
        repeat' (with_reducible first | refine x_ops ?_ | refine wk ?_ | (with_reducible refine xc (STq) ?_) | ((first | refine gd1 ?_ ?_ | refine gd2 ?_ ?_ | refine gd3 ?_ ?_) <;> (first | exact @False.elim _ | intro hc)))
        exact nf hql ⟨vv, by rw [hpn.out, hU2.out]; exact vw⟩ rfl
      · rw [if_neg (fun hh => hh.elim hp hlt)] at hU
        have hU2 := Hid.mk ((hU _).2 rfl)
        clear hU b1 b2 b3 b4 hN hN0 hp e6
        repeat' (with_reducible first | refine x_ops ?_ | refine wk ?_ | (with_reducible refine xc (STq) ?_) | ((first | refine gd1 ?_ ?_ | refine gd2 ?_ ?_ | refine gd3 ?_ ?_) <;> (first | exact @False.elim _ | intro hc)))
        exact nf hql ⟨vv, by rw [hpn.out, hU2.out]; exact vw⟩ rfl
    intro t6 h12
    unfold Sl at h12
    generalize hre : rsE h l Gs i (rsT h l Gs (i + 1)) ((Gs.getD i []).getD k noG) = re at *
    have hLk : ((rsT h l Gs i).take k).length = k := by rw [List.length_take, rsT_len hil]; omega
    have hiR : i + 1 ≤ (rows.set i (.sl k (((rsT h l Gs i).take k).map vint) tok)).length := by rw [List.length_set, hs.out.len]; exact hil
    have hrow0 : (rows.set i (.sl k (((rsT h l Gs i).take k).map vint) tok))[i]? = some (.sl k (((rsT h l Gs i).take k).map vint) tok) := List.getElem?_set_self (by rw [hs.out.len]; exact hil)
    have hset := fun v => set_eq (L := rows.set i (.sl k (((rsT h l Gs i).take k).map vint) tok)) (i := i) (by omega) v
    have hrs := rows_set hs.out.isr i k (((rsT h l Gs i).take k).map vint) tok
    have htk : (rsT h l Gs i).take (k + 1) = (rsT h l Gs i).take k ++ [re] := by rw [take_get (by rw [rsT_len hil]; exact hkl), rsT_at hil hkl, hre]
    have hss : ∀ v, (rows.set i (.sl k (((rsT h l Gs i).take k).map vint) tok)).set i v = rows.set i v := fun v => List.set_set ..
    generalize rows.set i (.sl k (((rsT h l Gs i).take k).map vint) tok) = rs at *
    generalize (rsT h l Gs i).take k = L at *
    replace hre := Hid.mk hre
    replace hLk := Hid.mk hLk
    replace hset := Hid.mk hset
    replace htk := Hid.mk htk
    replace hss := Hid.mk hss
    clear C3
    have ap0 := hin.out.ap
    have h5 : tok ≠ .own 5 := by
      intro e
      rcases ap0 with h1 | ⟨q, h1, _, h3⟩
      · rw [h1] at e; cases e
      · rw [h1] at e; injection e with e; subst e; rw [b5] at h3; cases h3
    repeat' (with_reducible first | refine x_ops ?_ | refine wk ?_ | ((first | refine gd1 ?_ ?_ | refine gd2 ?_ ?_ | refine gd3 ?_ ?_) <;> (first | exact @False.elim _ | intro hc)))
    refine x_appc (n := k) (xs := L.map vint) (ys := [vint re]) vw vw (ap0.mono (fun q hq _ => rfl) (Nat.le_add_right _ _)) (by rw [List.length_map]; have := hLk.out; omega) rfl (by omega) (by unfold Go.maxLen; omega) (by show M'.next + 8 < M'.next + 11; omega) ?_
    intro tok' m' hap' hn' hfr hto
    replace hn' : m'.next = M'.next + 11 := hn'
    have r5 := (hfr 5 (by show ¬ 5 = M'.next + 8; omega) h5).trans b5
    have hto' : ∀ q, tok' = .own q → M.next ≤ q := fun q hq => by
      rcases hto q hq with h1 | h1
      · rw [h1]; have := hin.out.nx; show M.next ≤ M'.next + 8; omega
      · exact hin.out.hi q h1
    have hfr' : ∀ q, q < M.next → q ≠ 5 → m'.obj q = M.obj q := fun q hq hq5 =>
      (hfr q (by have := hin.out.nx; show ¬ q = M'.next + 8; omega) (fun e => by have := hin.out.hi q e; omega)).trans (hin.out.fr q hq hq5)
    have hnn : M.next ≤ m'.next := by have := hin.out.nx; omega
    replace hap' := Hid.mk hap'
    replace hfr' := Hid.mk hfr'
    replace hto' := Hid.mk hto'
    replace h5 := Hid.mk h5
    replace hn' := Hid.mk hn'
    clear hfr hto ap0 b5
    repeat' (with_reducible first | refine x_ops ?_ | refine wk ?_ | ((first | refine gd1 ?_ ?_ | refine gd2 ?_ ?_ | refine gd3 ?_ ?_) <;> (first | exact @False.elim _ | intro hc)))
    refine ⟨tok', hnn, ?_, hap'.out.mono (fun q hq hqr => ?_) (Nat.le_refl _), hto'.out, fun q hq hq5 => ?_⟩
    · refine (put_same _ _ _).trans ?_
      rw [htk.out, ← hss.out, hset.out]; simp [vint]
    · exact put_other _ _ (fun e => by subst e; rw [r5] at hqr; cases hqr)
    · exact (put_other _ _ hq5).trans (hfr'.out q hq hq5)
  by_cases hlast : i + 1 = l.length
  · have e1 : ((i : Int) == (l.length : Int) - 1) = true := by rw [beq_iff_eq]; omega
    rw [if_pos hlast] at key
    replace hlast := Hid.mk hlast
    replace key := Hid.mk key
    repeat' (with_reducible first | refine x_ops ?_ | refine wk ?_ | (with_reducible refine xc (C3) ?_) | ((first | refine gd1 ?_ ?_ | refine gd2 ?_ ?_ | refine gd3 ?_ ?_) <;> (first | exact @False.elim _ | intro hc)))
    refine key.out _ _ ⟨vw, vw, vw, vw, vw, vw, vv, vv⟩ ?_
    rintro t6 M6 hM6
    replace hM6 := Hid.mk hM6
    repeat' (with_reducible first | refine x_ops ?_ | refine wk ?_ | ((first | refine gd1 ?_ ?_ | refine gd2 ?_ ?_ | refine gd3 ?_ ?_) <;> (first | exact @False.elim _ | intro hc)))
    exact nx hkl ⟨vv, hM6.out⟩
  · have e1 : ((i : Int) == (l.length : Int) - 1) = false := by rw [beq_eq_false_iff_ne]; omega
    rw [if_neg hlast] at key
    replace hlast := Hid.mk hlast
    replace key := Hid.mk key
    repeat' (with_reducible first | refine x_ops ?_ | refine wk ?_ | (with_reducible refine xc (C3) ?_) | ((first | refine gd1 ?_ ?_ | refine gd2 ?_ ?_ | refine gd3 ?_ ?_) <;> (first | exact @False.elim _ | intro hc)))
    refine key.out _ _ ⟨vw, vw, vw, vw, vw, vw, vv, vv⟩ ?_
    rintro t6 M6 hM6
    replace hM6 := Hid.mk hM6
    repeat' (with_reducible first | refine x_ops ?_ | refine wk ?_ | ((first | refine gd1 ?_ ?_ | refine gd2 ?_ ?_ | refine gd3 ?_ ?_) <;> (first | exact @False.elim _ | intro hc)))
    exact nx hkl ⟨vv, hM6.out⟩
end Go.Proofs.Ytojjdkoglhecbaa
namespace Go.Proofs.Ytojjdkoglhecbaa
open Go.RowKit

/-- The element of a table. -/
def tbA (T : List (List Int)) (i k : Nat) : Int := (T.getD i []).getD k 0
/-- A table with an element for each grip, none less than -1. -/
structure CtbOk (l : List Chord) (Gs : List (List Grip)) (T : List (List Int)) : Prop where
  len : T.length = l.length
  row : ∀ i, i < l.length → (T.getD i []).length = (Gs.getD i []).length
  low : ∀ i, i < l.length → ∀ k, k < (Gs.getD i []).length → -1 ≤ tbA T i k
/-- What a step allows. -/
def StpOk (h : Hand) (l : List Chord) (Gs : List (List Grip)) (T : List (List Int)) (i k m : Nat) : Prop :=
  (stepR h (l.getD i noC) ((Gs.getD i []).getD k noG) (l.getD (i + 1) noC) ((Gs.getD (i + 1) []).getD m noG)).2 = true → ¬ tbA T (i + 1) m = -1 → ¬ tbA T i k = -1 ∧
    tbA T i k - ownC h (l.getD i noC) ((Gs.getD i []).getD k noG) - (stepR h (l.getD i noC) ((Gs.getD i []).getD k noG) (l.getD (i + 1) noC) ((Gs.getD (i + 1) []).getD m noG)).1 ≤ tbA T (i + 1) m
/-- A lower bound, if those of the next row are. -/
def BndOk (h : Hand) (l : List Chord) (Gs : List (List Grip)) (T : List (List Int)) (i k : Nat) : Prop :=
  if i + 1 = l.length then ¬ tbA T i k = -1 ∧ tbA T i k ≤ ownC h (l.getD i noC) ((Gs.getD i []).getD k noG) else ∀ m, m < (Gs.getD (i + 1) []).length → StpOk h l Gs T i k m
open Classical in
noncomputable def bndB (h : Hand) (l : List Chord) (Gs : List (List Grip)) (T : List (List Int)) (i k : Nat) : Bool := decide (BndOk h l Gs T i k)
theorem bnd_yes {h : Hand} {l : List Chord} {Gs : List (List Grip)} {T : List (List Int)} {i k : Nat} (hb : BndOk h l Gs T i k) : bndB h l Gs T i k = true := by unfold bndB; simp [hb]
theorem bnd_no {h : Hand} {l : List Chord} {Gs : List (List Grip)} {T : List (List Int)} {i k : Nat} (hb : ¬ BndOk h l Gs T i k) : bndB h l Gs T i k = false := by unfold bndB; simp [hb]


theorem step_bound {h : Hand} {l : List Chord} {Gs : List (List Grip)} (hn : NetOk h l Gs) {i k m : Nat} (hi : i + 1 < l.length) (hk : k < (Gs.getD i []).length) (hm : m < (Gs.getD (i + 1) []).length) :
    0 ≤ (stepR h (l.getD i noC) ((Gs.getD i []).getD k noG) (l.getD (i + 1) noC) ((Gs.getD (i + 1) []).getD m noG)).1 ∧ (stepR h (l.getD i noC) ((Gs.getD i []).getD k noG) (l.getD (i + 1) noC) ((Gs.getD (i + 1) []).getD m noG)).1 ≤ 105000 := by
  by_cases hs : StepOk h (l.getD i noC) ((Gs.getD i []).getD k noG) (l.getD (i + 1) noC) ((Gs.getD (i + 1) []).getD m noG)
  · rw [stepR_ok hs]; exact stepC_bound hn.hk (hn.grip (by omega) hk).1 (hn.grip hi hm).1
  · rw [stepR_no hs]; omega

set_option maxHeartbeats 2000000 in
theorem bound_fn {h : Hand} {l : List Chord} {Gs : List (List Grip)} (hn : NetOk h l Gs) {T : List (List Int)} (hT : CtbOk l Gs T) (hhi : ∀ r ∈ T, ∀ x ∈ r, x ≤ 9223372036854775807) {i k : Nat} (hi : i < l.length) (hk : k < (Gs.getD i []).length) :
    Fn Try.prog Gd 87 [netE h l Gs, tIss T, vint i, vint k] (vbool (bndB h l Gs T i k)) := by
  refine Fn.of_vx0 k_hand_net_bound (by simp) (by unfold netE; rw [V.pures, V.pure, V.pures, pure_tIss]; rfl) ?_
  have h4 := hn.len
  have hcnt := hn.cnt i
  have hlT := hT.len
  have c1 : (i : Int) < (l.length : Int) := by omega
  have c2 : (k : Int) < ((Gs.getD i []).length : Int) := by omega
  have g1 := iss_at' (l := T) (k := i) (by omega)
  have r1 := hT.row i hi
  have g2 := ints_at (l := T.getD i []) (k := k) (by omega)
  have w1 : IntKind.i64.wrap ((l.length : Int) - 1) = (l.length : Int) - 1 := w_in (by omega)
  have lo := hT.low i hi k hk
  have up : tbA T i k ≤ 9223372036854775807 := hhi _ (mem_getD _ (by omega)) _ (mem_getD _ (by omega))
  have ow := own_bound hn.hk (hn.seq i hi).1 (hn.grip hi hk).1
  have g3 := iss_at' (l := owA h l Gs) (k := i) (by rw [owA_len]; omega)
  rw [owA_at hi] at g3
  have g4 := ints_at (l := owR h l Gs i) (k := k) (by rw [owR_len]; exact hk)
  rw [owR_at hk] at g4
  have g5 := owR_len h l Gs i
  have g6 := owA_len h l Gs
  rw [r1] at g1
  unfold netE netC tIss tCs
  rw [show (T.getD i []).getD k 0 = tbA T i k from rfl] at g2
  generalize hx : tbA T i k = x at *
  by_cases hlast : i + 1 = l.length
  · have e1 : ((i : Int) == (l.length : Int) - 1) = true := by rw [beq_iff_eq]; omega
    unfold bndB BndOk
    rw [if_pos hlast, hx]
    replace hlast := Hid.mk hlast
    clear hn hT hhi hcnt
    unfold c_hand_net_bound
    by_cases hn1 : x = -1
    · have e2 : (x == -1) = true := by rw [hn1]; rfl
      have e9 : @decide (¬ x = -1 ∧ x ≤ ownC h (l.getD i noC) ((Gs.getD i []).getD k noG)) (Classical.propDecidable _) = false := by simp [hn1]
      rw [e9]
      clear hn1 e9
      repeat' (with_reducible first | refine x_ops ?_ | refine wk ?_ | ((first | refine gd1 ?_ ?_ | refine gd2 ?_ ?_ | refine gd3 ?_ ?_) <;> (first | exact @False.elim _ | intro hc)))
      all_goals exact finV_lit vv rfl
    · have e2 : (x == -1) = false := by rw [beq_eq_false_iff_ne]; exact hn1
      have e9 : @decide (¬ x = -1 ∧ x ≤ ownC h (l.getD i noC) ((Gs.getD i []).getD k noG)) (Classical.propDecidable _) = decide (x ≤ ownC h (l.getD i noC) ((Gs.getD i []).getD k noG)) := by simp [hn1]
      rw [e9]
      clear hn1 e9
      repeat' (with_reducible first | refine x_ops ?_ | refine wk ?_ | ((first | refine gd1 ?_ ?_ | refine gd2 ?_ ?_ | refine gd3 ?_ ?_) <;> (first | exact @False.elim _ | intro hc)))
      all_goals exact finV_lit vv rfl
  have hi1 : i + 1 < l.length := by omega
  have e1 : ((i : Int) == (l.length : Int) - 1) = false := by rw [beq_eq_false_iff_ne]; omega
  have w2 := w_add1 (k := i) (by omega)
  have c3 : ((i + 1 : Nat) : Int) < (l.length : Int) := by omega
  have j1 := iss_at' (l := T) (k := i + 1) (by omega)
  have r2 := hT.row (i + 1) hi1
  rw [r2] at j1
  have hcn2 := hn.cnt (i + 1)
  have NS := fun m hm => netstep_fn hn (ov := tIss (owA h l Gs)) (rv := tIss (rsA h l Gs)) (by rw [V.pures, pure_tIss, V.pures, pure_tIss]; rfl) (i := i) (k := k) (m := m) hi1 hk hm
  have SB := fun m hm => step_bound hn (i := i) (k := k) (m := m) hi1 hk hm
  have J2 := fun m (hm : m < (Gs.getD (i + 1) []).length) => ints_at (l := T.getD (i + 1) []) (k := m) (by omega)
  have B : BndOk h l Gs T i k ↔ ∀ m, m < (Gs.getD (i + 1) []).length → StpOk h l Gs T i k m := by rw [BndOk, if_neg hlast]
  unfold netC tIss tCs at NS
  simp only [owA_len] at NS
  replace hlast := Hid.mk hlast
  replace B := Hid.mk B
  replace ow := Hid.mk ow
  replace lo := Hid.mk lo
  replace up := Hid.mk up
  replace hx := Hid.mk hx
  clear hn hT hhi hcnt
  unfold c_hand_net_bound
  repeat' (with_reducible first | refine x_ops ?_ | refine wk ?_ | ((first | refine gd1 ?_ ?_ | refine gd2 ?_ ?_ | refine gd3 ?_ ?_) <;> (first | exact @False.elim _ | intro hc)))
  refine x_gen (fun t => t 0 = .ept [tIs h.low, tIs h.high, tBs h.barre, vint h.top, vint h.jump, vint h.shift, vint h.lift, vint h.bar, vint h.stretch, vint h.slide, .sl l.length (l.flatMap Chord.cells) .no, tGss Gs, .sl l.length ((owA h l Gs).map tIs) .no, .sl (rsA h l Gs).length ((rsA h l Gs).map tIs) .no] 0 ∧ t 2 = vint i ∧ t 3 = vint k ∧ t 9 = vint x ∧ t 46 = .sl (Gs.getD (i + 1) []).length ((T.getD (i + 1) []).map vint) .no ∧ t 47 = vint (Gs.getD (i + 1) []).length ∧ t 48 = vint 0) ⟨vv, vv, vv, vv, vv, vv, vv⟩ ?_
  rintro t0 ⟨a0, a2, a3, a9, a46, a47, a48⟩
  clear g1 g2 e1 c3 w1 w2 j1 r1
  refine x_loopF w_hand_net_bound_p10 kr (Gs.getD (i + 1) []).length (fun q t => t 48 = vint (q : Int) ∧ ∀ m, m < q → StpOk h l Gs T i k m) ?_ ?_
  · exact ⟨a48, fun m hm => by omega⟩
  rintro q t hq ⟨h48, hI⟩
  by_cases hql : q < (Gs.getD (i + 1) []).length
  case neg =>
    have hqe : q = (Gs.getD (i + 1) []).length := by omega
    subst hqe
    have c5 : ¬ ((Gs.getD (i + 1) []).length : Int) < ((Gs.getD (i + 1) []).length : Int) := by omega
    rw [bnd_yes (B.out.2 hI)]
    clear NS SB J2 hql hq hI
    repeat' (with_reducible first | refine x_ops ?_ | refine wk ?_ | ((first | refine gd1 ?_ ?_ | refine gd2 ?_ ?_ | refine gd3 ?_ ?_) <;> (first | exact @False.elim _ | intro hc)))
    exact finV_lit vv rfl
  have c5 : (q : Int) < ((Gs.getD (i + 1) []).length : Int) := by omega
  have wq := w_add1 (k := q) (by omega)
  have g8 := J2 q hql
  have STq := NS q hql
  have b3 := SB q hql
  have b4 := ow.out
  have b5 := lo.out
  have b6 := up.out
  rw [show (T.getD (i + 1) []).getD q 0 = tbA T (i + 1) q from rfl] at g8
  have hS : StpOk h l Gs T i k q ↔ ((stepR h (l.getD i noC) ((Gs.getD i []).getD k noG) (l.getD (i + 1) noC) ((Gs.getD (i + 1) []).getD q noG)).2 = true → ¬ tbA T (i + 1) q = -1 → ¬ x = -1 ∧ x - ownC h (l.getD i noC) ((Gs.getD i []).getD k noG) - (stepR h (l.getD i noC) ((Gs.getD i []).getD k noG) (l.getD (i + 1) noC) ((Gs.getD (i + 1) []).getD q noG)).1 ≤ tbA T (i + 1) q) := by rw [StpOk, hx.out]
  generalize tbA T (i + 1) q = y at *
  generalize ownC h (l.getD i noC) ((Gs.getD i []).getD k noG) = ow' at *
  have nxt : StpOk h l Gs T i k q → ∀ m, m < q + 1 → StpOk h l Gs T i k m := fun hq' m hm => by
    by_cases e : m = q
    · subst e; exact hq'
    · exact hI m (by omega)
  have bad : ¬ StpOk h l Gs T i k q → bndB h l Gs T i k = false := fun hb => bnd_no (fun hB => hb (B.out.1 hB q hql))
  generalize stepR h (l.getD i noC) ((Gs.getD i []).getD k noG) (l.getD (i + 1) noC) ((Gs.getD (i + 1) []).getD q noG) = st at *
  obtain ⟨sc, sb⟩ := st
  dsimp only at STq hS b3
  replace nxt := Hid.mk nxt
  replace bad := Hid.mk bad
  clear NS SB J2 hI hq
  cases sb
  · have hz := Hid.mk (nxt.out (hS.2 (fun e => by cases e)))
    clear hS b3 b4 b5 b6
    repeat' (with_reducible first | refine x_ops ?_ | refine wk ?_ | (with_reducible refine xc (STq) ?_) | ((first | refine gd1 ?_ ?_ | refine gd2 ?_ ?_ | refine gd3 ?_ ?_) <;> (first | exact @False.elim _ | intro hc)))
    exact nf hql ⟨vv, hz.out⟩ rfl
  by_cases hy : y = -1
  · have e2 : (y == -1) = true := by rw [hy]; rfl
    have hz := Hid.mk (nxt.out (hS.2 (fun _ h1 => absurd hy h1)))
    clear hS b3 b4 b5 b6 hy
    repeat' (with_reducible first | refine x_ops ?_ | refine wk ?_ | (with_reducible refine xc (STq) ?_) | ((first | refine gd1 ?_ ?_ | refine gd2 ?_ ?_ | refine gd3 ?_ ?_) <;> (first | exact @False.elim _ | intro hc)))
    all_goals exact nf hql ⟨vv, hz.out⟩ rfl
  have e2 : (y == -1) = false := by rw [beq_eq_false_iff_ne]; exact hy
  by_cases hx1 : x = -1
  · have e3 : (x == -1) = true := by rw [hx1]; rfl
    rw [bad.out (fun h1 => (hS.1 h1 rfl hy).1 hx1)]
    clear hS b3 b4 b5 b6 hy hx1
    repeat' (with_reducible first | refine x_ops ?_ | refine wk ?_ | (with_reducible refine xc (STq) ?_) | ((first | refine gd1 ?_ ?_ | refine gd2 ?_ ?_ | refine gd3 ?_ ?_) <;> (first | exact @False.elim _ | intro hc)))
    exact finV_lit vv rfl
  have e3 : (x == -1) = false := by rw [beq_eq_false_iff_ne]; exact hx1
  have w8 : IntKind.i64.wrap (x - ow') = x - ow' := w_in (by omega)
  have w9 : IntKind.i64.wrap (x - ow' - sc) = x - ow' - sc := w_in (by omega)
  by_cases hlt : y < x - ow' - sc
  · rw [bad.out (fun h1 => by have := (hS.1 h1 rfl hy).2; omega)]
    clear hS b3 b4 b5 b6 hy hx1
    repeat' (with_reducible first | refine x_ops ?_ | refine wk ?_ | (with_reducible refine xc (STq) ?_) | ((first | refine gd1 ?_ ?_ | refine gd2 ?_ ?_ | refine gd3 ?_ ?_) <;> (first | exact @False.elim _ | intro hc)))
    exact finV_lit vv rfl
  · have hz := Hid.mk (nxt.out (hS.2 (fun _ _ => ⟨hx1, by omega⟩)))
    clear hS b3 b4 b5 b6 hy hx1
    repeat' (with_reducible first | refine x_ops ?_ | refine wk ?_ | (with_reducible refine xc (STq) ?_) | ((first | refine gd1 ?_ ?_ | refine gd2 ?_ ?_ | refine gd3 ?_ ?_) <;> (first | exact @False.elim _ | intro hc)))
    exact nf hql ⟨vv, hz.out⟩ rfl
end Go.Proofs.Ytojjdkoglhecbaa
namespace Go.Proofs.Ytojjdkoglhecbaa
open Go.RowKit

/-- A table that proves a cost. -/
structure PvsOk (h : Hand) (l : List Chord) (Gs : List (List Grip)) (T : List (List Int)) (cost : Int) : Prop where
  tab : CtbOk l Gs T
  bnd : ∀ i, i < l.length → ∀ k, k < (Gs.getD i []).length → BndOk h l Gs T i k
  top : ∀ i, i < l.length → ∀ k, k < (Gs.getD i []).length → i = 0 → ¬ tbA T i k = -1 → cost ≤ tbA T i k
  nil : l.length = 0 → cost ≤ 0
open Classical in
noncomputable def pvsB (h : Hand) (l : List Chord) (Gs : List (List Grip)) (T : List (List Int)) (cost : Int) : Bool := decide (PvsOk h l Gs T cost)
theorem pvs_yes {h : Hand} {l : List Chord} {Gs : List (List Grip)} {T : List (List Int)} {cost : Int} (hb : PvsOk h l Gs T cost) : pvsB h l Gs T cost = true := by unfold pvsB; simp [hb]
theorem pvs_no {h : Hand} {l : List Chord} {Gs : List (List Grip)} {T : List (List Int)} {cost : Int} (hb : ¬ PvsOk h l Gs T cost) : pvsB h l Gs T cost = false := by unfold pvsB; simp [hb]
/-- What Proves answers. -/
noncomputable def pvsR (h : Hand) (l : List Chord) (T : List (List Int)) (cost : Int) : Bool × Int := if wvE h l = 0 then (pvsB h l (tabG h l) T cost, 0) else (false, wvE h l)
/-- A table that fits into memory. -/
structure FitsT (T : List (List Int)) : Prop where
  len : T.length ≤ 17592186044416
  row : ∀ r ∈ T, r.length ≤ 17592186044416
  lo : ∀ r ∈ T, ∀ x ∈ r, -9223372036854775808 ≤ x
  hi : ∀ r ∈ T, ∀ x ∈ r, x ≤ 9223372036854775807

theorem gI_none_of {p : Int → Bool} {l : List Int} (h : ¬ gI p l < l.length) (k : Nat) (hk : k < l.length) : p (l.getD k 0) = false := by
  cases hp : p (l.getD k 0)
  · rfl
  · exact absurd ((gI_lt (0 : Int)).2 ⟨k, hk, hp⟩) h
theorem proves1_fn (x : Int) : Fn Try.prog Gd 86 [vint x] (vbool (decide (x < -1))) := by
  refine Fn.of_vx0 k_hand_Proves_1 (by simp) rfl ?_
  unfold c_hand_Proves_1
  repeat' (with_reducible first | refine x_ops ?_ | refine wk ?_ | ((first | refine gd1 ?_ ?_ | refine gd2 ?_ ?_ | refine gd3 ?_ ?_) <;> (first | exact @False.elim _ | intro hc)))
  exact finV_lit vv rfl
theorem call_proves1 : callable Try.prog 86 = true := by kernel_rfl

set_option maxHeartbeats 2000000 in
theorem Proves_fn (h : Hand) (l : List Chord) (hl : Fits l) (T : List (List Int)) (hT : FitsT T) (cost : Int) : Fn Try.prog Gd 51 [h.val, tCs l, tIss T, vint cost] (.tup [vbool (pvsR h l T cost).1, vint (pvsR h l T cost).2]) := by
  refine Fn.of_vx0 k_hand_Proves (by simp) (by rw [V.pures, pure_hand, V.pures, pure_tCs, V.pures, pure_tIss]; rfl) ?_
  have C1 := weave_fn h l hl
  unfold wvR at C1
  unfold pvsR c_hand_Proves
  by_cases hw : wvE h l = 0
  case neg =>
    rw [if_neg hw] at C1 ⊢
    have e1 : (wvE h l == 0) = false := by rw [beq_eq_false_iff_ne]; exact hw
    clear hw
    unfold Hand.val tCs at C1 ⊢
    dsimp only
    repeat' (with_reducible first | refine x_ops ?_ | refine wk ?_ | (with_reducible refine xc (C1) ?_) | ((first | refine gd1 ?_ ?_ | refine gd2 ?_ ?_ | refine gd3 ?_ ?_) <;> (first | exact @False.elim _ | intro hc)))
    exact finV_dry rfl vv
  have hn := wv_net hl hw
  rw [if_pos hw] at C1 ⊢
  generalize tabG h l = Gs at *
  have h4 := hn.len
  have gl := hn.gl
  have BF := fun i k hC hi hk => bound_fn hn (T := T) (i := i) (k := k) hC hT.hi hi hk
  unfold netE netC at C1 BF
  unfold Hand.val tCs at C1 ⊢
  unfold tCs at BF
  unfold tIss at BF
  unfold tIss at C1 ⊢
  dsimp only
  have hT1 := hT.len
  by_cases hlen : T.length = l.length
  case neg =>
    have e1 : ((T.length : Int) == (l.length : Int)) = false := by rw [beq_eq_false_iff_ne]; omega
    rw [pvs_no (fun hp => hlen hp.tab.len)]
    replace hlen := Hid.mk hlen
    replace hn := Hid.mk hn
    clear hw gl BF hT
    repeat' (with_reducible first | refine x_ops ?_ | refine wk ?_ | (with_reducible refine xc (C1) ?_) | ((first | refine gd1 ?_ ?_ | refine gd2 ?_ ?_ | refine gd3 ?_ ?_) <;> (first | exact @False.elim _ | intro hc)))
    all_goals exact finV_dry rfl vv
  by_cases h0 : l.length = 0
  · have e1 : ((T.length : Int) == (l.length : Int)) = true := by rw [beq_iff_eq]; omega
    have e2 : ((l.length : Int) == 0) = true := by rw [beq_iff_eq]; omega
    have e3 : pvsB h l Gs T cost = decide (cost ≤ 0) := by
      by_cases hc : cost ≤ 0
      · rw [pvs_yes ⟨⟨hlen, fun i hi => by omega, fun i hi => by omega⟩, fun i hi => by omega, fun i hi => by omega, fun _ => hc⟩]; simp [hc]
      · rw [pvs_no (fun hp => hc (hp.nil h0))]; simp [hc]
    rw [e3]
    replace hlen := Hid.mk hlen
    replace h0 := Hid.mk h0
    replace hn := Hid.mk hn
    clear hw gl BF hT e3
    repeat' (with_reducible first | refine x_ops ?_ | refine wk ?_ | (with_reducible refine xc (C1) ?_) | ((first | refine gd1 ?_ ?_ | refine gd2 ?_ ?_ | refine gd3 ?_ ?_) <;> (first | exact @False.elim _ | intro hc)))
    all_goals exact finV_dry rfl vv
  have e1 : ((T.length : Int) == (l.length : Int)) = true := by rw [beq_iff_eq]; omega
  have e2 : ((l.length : Int) == 0) = false := by rw [beq_eq_false_iff_ne]; omega
  have CF := fun r (hr : r ∈ T) => containsI_fn r (fun x => decide (x < -1)) call_proves1 rfl rfl proves1_fn (by have := hT.row r hr; omega)
  replace hlen := Hid.mk hlen
  replace h0 := Hid.mk h0
  replace hn := Hid.mk hn
  clear hw
  repeat' (with_reducible first | refine x_ops ?_ | refine wk ?_ | (with_reducible refine xc (C1) ?_) | ((first | refine gd1 ?_ ?_ | refine gd2 ?_ ?_ | refine gd3 ?_ ?_) <;> (first | exact @False.elim _ | intro hc)))
  refine x_gen (fun t => t 2 = .sl T.length (T.map tIs) .no ∧ t 3 = vint cost ∧ t 10 = .ept [tIs h.low, tIs h.high, tBs h.barre, vint h.top, vint h.jump, vint h.shift, vint h.lift, vint h.bar, vint h.stretch, vint h.slide, .sl l.length (l.flatMap Chord.cells) .no, tGss Gs, .sl (owA h l Gs).length ((owA h l Gs).map tIs) .no, .sl (rsA h l Gs).length ((rsA h l Gs).map tIs) .no] 0 ∧
    t 46 = .sl T.length (T.map tIs) .no ∧ t 47 = vint T.length ∧ t 48 = vint 0) ⟨vv, vv, by ((refine ve ?_; try exact True.intro)); simp [tIs, tBs], vv, vv, vv⟩ ?_
  clear C1
  rintro t0 ⟨a2, a3, a10, a46, a47, a48⟩
  refine x_loopF w_hand_Proves_p7 kr T.length (fun q t => t 48 = vint (q : Int) ∧ ∀ i, i < q → (T.getD i []).length = (Gs.getD i []).length ∧ ∀ k, k < (Gs.getD i []).length → -1 ≤ tbA T i k) ?_ ?_
  · exact ⟨a48, fun i hi => by omega⟩
  rintro q t hq ⟨h48, hI⟩
  by_cases hqT : q < T.length
  · have hql : q < l.length := by have := hlen.out; omega
    have c1 : (q : Int) < (T.length : Int) := by omega
    have c2 : (q : Int) < (l.length : Int) := by omega
    have g1 := iss_at' hqT
    have g2 := gss_at' (l := Gs) (k := q) (by omega)
    have wq := w_add1 (k := q) (by omega)
    have CR := CF _ (mem_getD [] hqT)
    have gl' := gl
    unfold tGss at a10
    rw [gl] at a10
    unfold tIs at CR
    have nxt : ((T.getD q []).length = (Gs.getD q []).length ∧ ∀ k, k < (Gs.getD q []).length → -1 ≤ tbA T q k) → ∀ i, i < q + 1 → (T.getD i []).length = (Gs.getD i []).length ∧ ∀ k, k < (Gs.getD i []).length → -1 ≤ tbA T i k := fun h1 i hi => by
      by_cases e : i = q
      · subst e; exact h1
      · exact hI i (by omega)
    replace nxt := Hid.mk nxt
    clear CF BF hI
    by_cases hL : (T.getD q []).length = (Gs.getD q []).length
    case neg =>
      have e3 : (((T.getD q []).length : Int) == ((Gs.getD q []).length : Int)) = false := by rw [beq_eq_false_iff_ne]; omega
      rw [pvs_no (fun hp => hL (hp.tab.row q hql))]
      clear hL
      repeat' (with_reducible first | refine x_ops ?_ | refine wk ?_ | (with_reducible refine xc (CR) ?_) | ((first | refine gd1 ?_ ?_ | refine gd2 ?_ ?_ | refine gd3 ?_ ?_) <;> (first | exact @False.elim _ | intro hc)))
      all_goals exact finV_dry rfl vv
    have e3 : (((T.getD q []).length : Int) == ((Gs.getD q []).length : Int)) = true := by rw [beq_iff_eq]; omega
    cases hb : decide (gI (fun x => decide (x < -1)) (T.getD q []) < (T.getD q []).length)
    · rw [hb] at CR
      have hz := Hid.mk (nxt.out ⟨hL, fun k hk => by
        rw [decide_eq_false_iff_not] at hb
        have h1 := gI_none_of hb k (by omega)
        simp only [decide_eq_false_iff_not] at h1
        show -1 ≤ (T.getD q []).getD k 0
        omega⟩)
      replace hL := Hid.mk hL
      clear hb
      repeat' (with_reducible first | refine x_ops ?_ | refine wk ?_ | (with_reducible refine xc (CR) ?_) | ((first | refine gd1 ?_ ?_ | refine gd2 ?_ ?_ | refine gd3 ?_ ?_) <;> (first | exact @False.elim _ | intro hc)))
      exact nf hqT ⟨vv, hz.out⟩ rfl
    · rw [hb] at CR
      rw [pvs_no (fun hp => by
        rw [decide_eq_true_eq, gI_lt (d := (0 : Int))] at hb
        obtain ⟨j, h1, h2⟩ := hb
        have := hp.tab.low q hql j (by omega)
        simp only [decide_eq_true_eq] at h2
        unfold tbA at this
        omega)]
      replace hL := Hid.mk hL
      clear hb
      repeat' (with_reducible first | refine x_ops ?_ | refine wk ?_ | (with_reducible refine xc (CR) ?_) | ((first | refine gd1 ?_ ?_ | refine gd2 ?_ ?_ | refine gd3 ?_ ?_) <;> (first | exact @False.elim _ | intro hc)))
      all_goals exact finV_dry rfl vv
  have hqe : q = T.length := by omega
  subst hqe
  have c1 : ¬ (T.length : Int) < (T.length : Int) := by omega
  have hC : CtbOk l Gs T := ⟨hlen.out, fun i hi => (hI i (by have := hlen.out; omega)).1, fun i hi => (hI i (by have := hlen.out; omega)).2⟩
  have BF2 := fun i k => BF i k hC
  replace hC := Hid.mk hC
  clear CF BF hI hqT hq
  repeat' (with_reducible first | refine x_ops ?_ | refine wk ?_ | ((first | refine gd1 ?_ ?_ | refine gd2 ?_ ?_ | refine gd3 ?_ ?_) <;> (first | exact @False.elim _ | intro hc)))
  refine x_gen (fun t => t 2 = .sl T.length (T.map tIs) .no ∧ t 3 = vint cost ∧ t 10 = .ept [tIs h.low, tIs h.high, tBs h.barre, vint h.top, vint h.jump, vint h.shift, vint h.lift, vint h.bar, vint h.stretch, vint h.slide, .sl l.length (l.flatMap Chord.cells) .no, tGss Gs, .sl (owA h l Gs).length ((owA h l Gs).map tIs) .no, .sl (rsA h l Gs).length ((rsA h l Gs).map tIs) .no] 0 ∧
    t 69 = .sl T.length (T.map tIs) .no ∧ t 70 = vint T.length ∧ t 71 = vint 0) ⟨vw, vw, a10, vv, vv, vv⟩ ?_
  clear a2 a3 a10 a46 a47 a48 h48 c1
  rintro t1 ⟨a2, a3, a10, a69, a70, a71⟩
  refine x_loopF w_hand_Proves_p18 kr T.length (fun i t => t 71 = vint (i : Int) ∧ ∀ j, j < i → ∀ k, k < (Gs.getD j []).length → BndOk h l Gs T j k ∧ (j = 0 → ¬ tbA T j k = -1 → cost ≤ tbA T j k)) ?_ ?_
  · exact ⟨a71, fun j hj => by omega⟩
  rintro i t2 hi ⟨h71, hI⟩
  by_cases hiT : i < T.length
  case neg =>
    have hie : i = T.length := by omega
    subst hie
    have c1 : ¬ (T.length : Int) < (T.length : Int) := by omega
    have hl2 := hlen.out
    rw [pvs_yes ⟨hC.out, fun j hj k hk => (hI j (by omega) k hk).1, fun j hj k hk => (hI j (by omega) k hk).2, fun h1 => absurd h1 h0.out⟩]
    clear hl2 BF2 hI hiT hi
    repeat' (with_reducible first | refine x_ops ?_ | refine wk ?_ | ((first | refine gd1 ?_ ?_ | refine gd2 ?_ ?_ | refine gd3 ?_ ?_) <;> (first | exact @False.elim _ | intro hc)))
    exact finV_dry rfl vv
  have hil : i < l.length := by have := hlen.out; omega
  have c1 : (i : Int) < (T.length : Int) := by omega
  have g1 := iss_at' hiT
  have wi := w_add1 (k := i) (by omega)
  have hrl := hC.out.row i hil
  have hcn := hn.out.cnt i
  rw [hrl] at g1
  replace hI := Hid.mk hI
  repeat' (with_reducible first | refine x_ops ?_ | refine wk ?_ | ((first | refine gd1 ?_ ?_ | refine gd2 ?_ ?_ | refine gd3 ?_ ?_) <;> (first | exact @False.elim _ | intro hc)))
  refine x_gen (fun t => t 2 = .sl T.length (T.map tIs) .no ∧ t 3 = vint cost ∧ t 10 = .ept [tIs h.low, tIs h.high, tBs h.barre, vint h.top, vint h.jump, vint h.shift, vint h.lift, vint h.bar, vint h.stretch, vint h.slide, .sl l.length (l.flatMap Chord.cells) .no, tGss Gs, .sl (owA h l Gs).length ((owA h l Gs).map tIs) .no, .sl (rsA h l Gs).length ((rsA h l Gs).map tIs) .no] 0 ∧
    t 69 = .sl T.length (T.map tIs) .no ∧ t 70 = vint T.length ∧ t 71 = vint i ∧ t 14 = vint i ∧ t 76 = .sl (Gs.getD i []).length ((T.getD i []).map vint) .no ∧ t 77 = vint (Gs.getD i []).length ∧ t 78 = vint 0) ⟨vw, vw, by ((refine ve ?_; try exact True.intro)); exact a10, vw, vw, vw, vv, vv, vv, vv⟩ ?_
  clear a2 a3 a10 a69 a70 a71 h71 g1
  rintro t3 ⟨a2, a3, a10, a69, a70, a71, a14, a76, a77, a78⟩
  refine x_loopF w_hand_Proves_p13 kr (Gs.getD i []).length (fun k t => t 78 = vint (k : Int) ∧ ∀ k', k' < k → BndOk h l Gs T i k' ∧ (i = 0 → ¬ tbA T i k' = -1 → cost ≤ tbA T i k')) ?_ ?_
  · exact ⟨a78, fun j hj => by omega⟩
  rintro k t4 hk ⟨h78, hK⟩
  by_cases hkl : k < (Gs.getD i []).length
  case neg =>
    have hke : k = (Gs.getD i []).length := by omega
    subst hke
    have c2 : ¬ ((Gs.getD i []).length : Int) < ((Gs.getD i []).length : Int) := by omega
    have hz : ∀ j, j < i + 1 → ∀ k, k < (Gs.getD j []).length → BndOk h l Gs T j k ∧ (j = 0 → ¬ tbA T j k = -1 → cost ≤ tbA T j k) := fun j hj => by
      by_cases e : j = i
      · subst e; exact hK
      · exact hI.out j (by omega)
    replace hz := Hid.mk hz
    clear BF2 hK hkl hk
    repeat' (with_reducible first | refine x_ops ?_ | refine wk ?_ | ((first | refine gd1 ?_ ?_ | refine gd2 ?_ ?_ | refine gd3 ?_ ?_) <;> (first | exact @False.elim _ | intro hc)))
    exact nf hiT ⟨vv, hz.out⟩ rfl
  have c2 : (k : Int) < ((Gs.getD i []).length : Int) := by omega
  have wk' := w_add1 (k := k) (by omega)
  have g2 := ints_at (l := T.getD i []) (k := k) (by omega)
  rw [show (T.getD i []).getD k 0 = tbA T i k from rfl] at g2
  have BC := BF2 i k hil hkl
  have bad : ¬ (BndOk h l Gs T i k ∧ (i = 0 → ¬ tbA T i k = -1 → cost ≤ tbA T i k)) → pvsB h l Gs T cost = false := fun hb => pvs_no (fun hp => hb ⟨hp.bnd i hil k hkl, hp.top i hil k hkl⟩)
  have nxt : (BndOk h l Gs T i k ∧ (i = 0 → ¬ tbA T i k = -1 → cost ≤ tbA T i k)) → ∀ k', k' < k + 1 → BndOk h l Gs T i k' ∧ (i = 0 → ¬ tbA T i k' = -1 → cost ≤ tbA T i k') := fun h1 j hj => by
    by_cases e : j = k
    · subst e; exact h1
    · exact hK j (by omega)
  replace bad := Hid.mk bad
  replace nxt := Hid.mk nxt
  clear BF2 hK hk
  have hbB : bndB h l Gs T i k = true ↔ BndOk h l Gs T i k := by
    constructor
    · intro hb; by_cases hx : BndOk h l Gs T i k
      · exact hx
      · rw [bnd_no hx] at hb; cases hb
    · exact bnd_yes
  generalize bndB h l Gs T i k = bb at *
  generalize tbA T i k = x at *
  by_cases hA : i = 0 ∧ ¬ x = -1 ∧ x < cost
  · obtain ⟨h1, h2, h3⟩ := hA
    have e3 : ((i : Int) == 0) = true := by rw [beq_iff_eq]; omega
    have e4 : (x == -1) = false := by rw [beq_eq_false_iff_ne]; exact h2
    rw [bad.out (fun hh => by have := hh.2 h1 h2; omega)]
    clear h1 h2 hbB BC
    repeat' (with_reducible first | refine x_ops ?_ | refine wk ?_ | ((first | refine gd1 ?_ ?_ | refine gd2 ?_ ?_ | refine gd3 ?_ ?_) <;> (first | exact @False.elim _ | intro hc)))
    exact finV_dry rfl vv
  have hA' : (i = 0 → ¬ x = -1 → cost ≤ x) := fun h1 h2 => by
    by_cases h3 : x < cost
    · exact absurd ⟨h1, h2, h3⟩ hA
    · omega
  cases bb
  · rw [bad.out (fun hh => by have := hbB.2 hh.1; cases this)]
    clear hbB hA'
    by_cases e3 : i = 0
    · have e3' : ((i : Int) == 0) = true := by rw [beq_iff_eq]; omega
      by_cases e4 : x = -1
      · have e4' : (x == -1) = true := by rw [e4]; rfl
        clear e3 e4 hA
        repeat' (with_reducible first | refine x_ops ?_ | refine wk ?_ | (with_reducible refine xc (BC) ?_) | ((first | refine gd1 ?_ ?_ | refine gd2 ?_ ?_ | refine gd3 ?_ ?_) <;> (first | exact @False.elim _ | intro hc)))
        exact finV_dry rfl vv
      · have e4' : (x == -1) = false := by rw [beq_eq_false_iff_ne]; exact e4
        have e5 : ¬ x < cost := fun hh => hA ⟨e3, e4, hh⟩
        clear e3 e4 hA
        repeat' (with_reducible first | refine x_ops ?_ | refine wk ?_ | (with_reducible refine xc (BC) ?_) | ((first | refine gd1 ?_ ?_ | refine gd2 ?_ ?_ | refine gd3 ?_ ?_) <;> (first | exact @False.elim _ | intro hc)))
        exact finV_dry rfl vv
    · have e3' : ((i : Int) == 0) = false := by rw [beq_eq_false_iff_ne]; omega
      clear e3 hA
      repeat' (with_reducible first | refine x_ops ?_ | refine wk ?_ | (with_reducible refine xc (BC) ?_) | ((first | refine gd1 ?_ ?_ | refine gd2 ?_ ?_ | refine gd3 ?_ ?_) <;> (first | exact @False.elim _ | intro hc)))
      exact finV_dry rfl vv
  · have hz := Hid.mk (nxt.out ⟨hbB.1 rfl, hA'⟩)
    clear hbB hA'
    by_cases e3 : i = 0
    · have e3' : ((i : Int) == 0) = true := by rw [beq_iff_eq]; omega
      by_cases e4 : x = -1
      · have e4' : (x == -1) = true := by rw [e4]; rfl
        clear e3 e4 hA
        repeat' (with_reducible first | refine x_ops ?_ | refine wk ?_ | (with_reducible refine xc (BC) ?_) | ((first | refine gd1 ?_ ?_ | refine gd2 ?_ ?_ | refine gd3 ?_ ?_) <;> (first | exact @False.elim _ | intro hc)))
        exact nf hkl ⟨vv, hz.out⟩ rfl
      · have e4' : (x == -1) = false := by rw [beq_eq_false_iff_ne]; exact e4
        have e5 : ¬ x < cost := fun hh => hA ⟨e3, e4, hh⟩
        clear e3 e4 hA
        repeat' (with_reducible first | refine x_ops ?_ | refine wk ?_ | (with_reducible refine xc (BC) ?_) | ((first | refine gd1 ?_ ?_ | refine gd2 ?_ ?_ | refine gd3 ?_ ?_) <;> (first | exact @False.elim _ | intro hc)))
        exact nf hkl ⟨vv, hz.out⟩ rfl
    · have e3' : ((i : Int) == 0) = false := by rw [beq_eq_false_iff_ne]; omega
      clear e3 hA
      repeat' (with_reducible first | refine x_ops ?_ | refine wk ?_ | (with_reducible refine xc (BC) ?_) | ((first | refine gd1 ?_ ?_ | refine gd2 ?_ ?_ | refine gd3 ?_ ?_) <;> (first | exact @False.elim _ | intro hc)))
      exact nf hkl ⟨vv, hz.out⟩ rfl
end Go.Proofs.Ytojjdkoglhecbaa
namespace Go.Proofs.Ytojjdkoglhecbaa
open Go.RowKit

/-- What the reference asks of an element. -/
def ElOk (h : Hand) (l : List Chord) (Gs : List (List Grip)) (T : List (List Int)) (cost : Int) (i k : Nat) : Prop := BndOk h l Gs T i k ∧ (i = 0 → ¬ tbA T i k = -1 → cost ≤ tbA T i k)
/-- How the tests of an element end. -/
def ElEnd (M : Mm) (p : Prop) (e : VX) (s : St) : Prop := s.m = M ∧ ((e = .nrm ∧ p) ∨ (e = .ret ∧ s.t 8 = vbool false ∧ s.t 9 = vint 0 ∧ ¬ p))
theorem elNo {M : Mm} {p : Prop} {s : St} (h1 : s.m = M) (h2 : s.t 8 = vbool false) (h3 : s.t 9 = vint 0) (h4 : ¬ p) : ElEnd M p .ret s := ⟨h1, .inr ⟨rfl, h2, h3, h4⟩⟩
theorem elYes {M : Mm} {p : Prop} {s : St} (h1 : s.m = M) (h4 : p) : ElEnd M p .nrm s := ⟨h1, .inl ⟨rfl, h4⟩⟩

set_option maxHeartbeats 4000000 in
theorem rbound {h : Hand} {l : List Chord} {Gs : List (List Grip)} (hn : NetOk h l Gs) {T : List (List Int)} (hT : CtbOk l Gs T) (hhi : ∀ r ∈ T, ∀ x ∈ r, x ≤ 9223372036854775807) {cost : Int} {i k : Nat} (hi : i < l.length) (hk : k < (Gs.getD i []).length) {t : Nat → V} {M : Mm}
    (a1 : t 1 = .sl l.length (l.flatMap Chord.cells) .no) (a2 : t 2 = .sl T.length (T.map tIs) .no) (a3 : t 3 = vint cost) (a4 : t 4 = .ptr 0 0) (a10 : t 10 = .sl l.length (Gs.map tGs) .no) (a14 : t 14 = vint i) (a15 : t 15 = vint k)
    (a16 : t 16 = vint (tbA T i k)) (a17 : t 17 = vint (ownC h (l.getD i noC) ((Gs.getD i []).getD k noG)))
    (ho : M.obj 0 = some (.box [tIs h.low, tIs h.high, tBs h.barre, vint h.top, vint h.jump, vint h.shift, vint h.lift, vint h.bar, vint h.stretch, vint h.slide] 25)) (hm : 0 < M.next) :
    (c_theorboref06_Proves_p25).vx Try.prog Gd (ElEnd M (ElOk h l Gs T cost i k)) ⟨t, M⟩ := by
  have h4 := hn.len
  have w1 : IntKind.i64.wrap ((l.length : Int) - 1) = (l.length : Int) - 1 := w_in (by omega)
  have lo := hT.low i hi k hk
  have up : tbA T i k ≤ 9223372036854775807 := hhi _ (mem_getD _ (by have := hT.len; omega)) _ (mem_getD _ (by have := hT.row i hi; omega))
  have ow := own_bound hn.hk (hn.seq i hi).1 (hn.grip hi hk).1
  have hE : ElOk h l Gs T cost i k ↔ BndOk h l Gs T i k ∧ (i = 0 → ¬ tbA T i k = -1 → cost ≤ tbA T i k) := Iff.rfl
  have tail : ∀ (t' : Nat → V), t' 3 = vint cost → t' 14 = vint i → t' 16 = vint (tbA T i k) → BndOk h l Gs T i k → (c_theorboref06_Proves_p23).vx Try.prog Gd (ElEnd M (ElOk h l Gs T cost i k)) ⟨t', M⟩ := by
    intro t' f3 f14 f16 hB
    generalize ElOk h l Gs T cost i k = PP at *
    generalize tbA T i k = x at *
    clear a1 a2 a3 a4 a10 a14 a15 a16 a17 ho
    unfold c_theorboref06_Proves_p23
    by_cases hi0 : i = 0
    · have e1 : ((i : Int) == 0) = true := by rw [beq_iff_eq]; omega
      by_cases hx : 0 ≤ x
      · by_cases hc : x < cost
        · have hno : ¬ PP := fun hp => by have := (hE.1 hp).2 hi0 (by omega); omega
          replace hno := Hid.mk hno
          clear hE hi0 lo up ow hB
          repeat' (with_reducible first | refine x_ops ?_ | refine wk ?_ | ((first | refine gd1 ?_ ?_ | refine gd2 ?_ ?_ | refine gd3 ?_ ?_) <;> (first | exact @False.elim _ | intro hc)))
          exact elNo rfl vv vv hno.out
        · have hye := Hid.mk (hE.2 ⟨hB, fun _ _ => by omega⟩)
          clear hE hi0 lo up ow hB
          repeat' (with_reducible first | refine x_ops ?_ | refine wk ?_ | ((first | refine gd1 ?_ ?_ | refine gd2 ?_ ?_ | refine gd3 ?_ ?_) <;> (first | exact @False.elim _ | intro hc)))
          exact elYes rfl hye.out
      · have hye := Hid.mk (hE.2 ⟨hB, fun _ h1 => by omega⟩)
        clear hE hi0 lo up ow hB
        repeat' (with_reducible first | refine x_ops ?_ | refine wk ?_ | ((first | refine gd1 ?_ ?_ | refine gd2 ?_ ?_ | refine gd3 ?_ ?_) <;> (first | exact @False.elim _ | intro hc)))
        exact elYes rfl hye.out
    · have e1 : ((i : Int) == 0) = false := by rw [beq_eq_false_iff_ne]; omega
      have hye := Hid.mk (hE.2 ⟨hB, fun h1 => absurd h1 hi0⟩)
      clear hE hi0 lo up ow hB
      repeat' (with_reducible first | refine x_ops ?_ | refine wk ?_ | ((first | refine gd1 ?_ ?_ | refine gd2 ?_ ?_ | refine gd3 ?_ ?_) <;> (first | exact @False.elim _ | intro hc)))
      exact elYes rfl hye.out
  unfold c_theorboref06_Proves_p25
  by_cases hlast : i + 1 = l.length
  · have e1 : ((i : Int) == (l.length : Int) - 1) = true := by rw [beq_iff_eq]; omega
    have cl : ¬ (i : Int) < (l.length : Int) - 1 := by omega
    have hB : BndOk h l Gs T i k ↔ ¬ tbA T i k = -1 ∧ tbA T i k ≤ ownC h (l.getD i noC) ((Gs.getD i []).getD k noG) := by rw [BndOk, if_pos hlast]
    by_cases hbad : tbA T i k < 0 ∨ ownC h (l.getD i noC) ((Gs.getD i []).getD k noG) < tbA T i k
    · have hno : ¬ ElOk h l Gs T cost i k := fun hp => by have := hB.1 hp.1; omega
      replace hno := Hid.mk hno
      replace hlast := Hid.mk hlast
      clear hB hE tail lo up ow
      generalize tbA T i k = x at *
      generalize ownC h (l.getD i noC) ((Gs.getD i []).getD k noG) = ow at *
      by_cases hx0 : x < 0
      · clear hbad
        repeat' (with_reducible first | refine x_ops ?_ | refine wk ?_ | ((first | refine gd1 ?_ ?_ | refine gd2 ?_ ?_ | refine gd3 ?_ ?_) <;> (first | exact @False.elim _ | intro hc)))
        exact elNo rfl vv vv hno.out
      · have hx1 : ow < x := by omega
        clear hbad
        repeat' (with_reducible first | refine x_ops ?_ | refine wk ?_ | ((first | refine gd1 ?_ ?_ | refine gd2 ?_ ?_ | refine gd3 ?_ ?_) <;> (first | exact @False.elim _ | intro hc)))
        exact elNo rfl vv vv hno.out
    · have hBk : BndOk h l Gs T i k := hB.2 ⟨by omega, by omega⟩
      have cx : ¬ tbA T i k < 0 := by omega
      have cy : ¬ ownC h (l.getD i noC) ((Gs.getD i []).getD k noG) < tbA T i k := by omega
      replace hlast := Hid.mk hlast
      replace hBk := Hid.mk hBk
      replace tail := Hid.mk tail
      clear hB hE lo up ow hbad
      repeat' (with_reducible first | refine x_ops ?_ | refine wk ?_ | ((first | refine gd1 ?_ ?_ | refine gd2 ?_ ?_ | refine gd3 ?_ ?_) <;> (first | exact @False.elim _ | intro hc)))
      refine x_loopF w_theorboref06_Proves_p20 kr 0 (fun q t => True) True.intro ?_
      rintro q t6 hq _
      repeat' (with_reducible first | refine x_ops ?_ | refine wk ?_ | ((first | refine gd1 ?_ ?_ | refine gd2 ?_ ?_ | refine gd3 ?_ ?_) <;> (first | exact @False.elim _ | intro hc)))
      exact tail.out _ vw vw vw hBk.out
  have hi1 : i + 1 < l.length := by omega
  have e1 : ((i : Int) == (l.length : Int) - 1) = false := by rw [beq_eq_false_iff_ne]; omega
  have cl : (i : Int) < (l.length : Int) - 1 := by omega
  have wi := w_add1 (k := i) (by omega)
  have cl0 : (i : Int) < (l.length : Int) := by omega
  have cl1 : ((i + 1 : Nat) : Int) < (l.length : Int) := by omega
  have gl := hn.gl
  have hlT := hT.len
  have j0 := gss_at' (l := Gs) (k := i) (by omega)
  have j1 := gss_at' (l := Gs) (k := i + 1) (by omega)
  have j2 := iss_at' (l := T) (k := i + 1) (by omega)
  have r2 := hT.row (i + 1) hi1
  rw [r2] at j2
  have hK2 := hn.cnt (i + 1)
  have ST := fun q hq => rstep_fn h hn.hk (l.getD i noC) (l.getD (i + 1) noC) (hn.seq i hi).1 (hn.seq (i + 1) hi1).1 (hn.follows hi1) (hn.fits.at i) (hn.fits.at (i + 1)) ((Gs.getD i []).getD k noG) ((Gs.getD (i + 1) []).getD q noG) (hn.grip hi hk).2 (hn.grip hi1 hq).2 (hn.grip hi hk).1 (hn.grip hi1 hq).1
  have SB := fun q hq => step_bound hn (i := i) (k := k) (m := q) hi1 hk hq
  have LO := fun q hq => hT.low (i + 1) hi1 q hq
  have J2 := fun m (hm : m < (Gs.getD (i + 1) []).length) => ints_at (l := T.getD (i + 1) []) (k := m) (by omega)
  have B : BndOk h l Gs T i k ↔ ∀ m, m < (Gs.getD (i + 1) []).length → StpOk h l Gs T i k m := by rw [BndOk, if_neg hlast]
  have g1 := chs_take hi
  have g2 := chs_len l
  have g3 := chs_take hi1
  have g4 := gs_take hk
  have g5 := gs_len (Gs.getD i [])
  have g6 := gs_len (Gs.getD (i + 1) [])
  have c1 : i * 3 + 3 ≤ l.length * 3 := by omega
  have c2 : (i + 1) * 3 + 3 ≤ l.length * 3 := by omega
  have c3 : k * 2 + 2 ≤ (Gs.getD i []).length * 2 := by omega
  have c4 : (k : Int) < ((Gs.getD i []).length : Int) := by omega
  have hx : Hid (tbA T i k = tbA T i k) := ⟨rfl⟩
  unfold Hand.val Chord.val Chord.cells Grip.val Grip.cells at ST
  have hST0 : ∀ m, StpOk h l Gs T i k m ↔ ((stepR h (l.getD i noC) ((Gs.getD i []).getD k noG) (l.getD (i + 1) noC) ((Gs.getD (i + 1) []).getD m noG)).2 = true → ¬ tbA T (i + 1) m = -1 → ¬ tbA T i k = -1 ∧ tbA T i k - ownC h (l.getD i noC) ((Gs.getD i []).getD k noG) - (stepR h (l.getD i noC) ((Gs.getD i []).getD k noG) (l.getD (i + 1) noC) ((Gs.getD (i + 1) []).getD m noG)).1 ≤ tbA T (i + 1) m) := fun m => Iff.rfl
  generalize tbA T i k = x at *
  generalize ownC h (l.getD i noC) ((Gs.getD i []).getD k noG) = ow' at *
  replace hlast := Hid.mk hlast
  replace B := Hid.mk B
  replace ow := Hid.mk ow
  replace lo := Hid.mk lo
  replace up := Hid.mk up
  replace tail := Hid.mk tail
  replace hST0 := Hid.mk hST0
  replace LO := Hid.mk LO
  clear hn hT hhi hE
  repeat' (with_reducible first | refine x_ops ?_ | refine wk ?_ | ((first | refine gd1 ?_ ?_ | refine gd2 ?_ ?_ | refine gd3 ?_ ?_) <;> (first | exact @False.elim _ | intro hc)))
  refine x_loopF w_theorboref06_Proves_p20 kr (Gs.getD (i + 1) []).length (fun q t => t 18 = vint (q : Int) ∧ ∀ m, m < q → StpOk h l Gs T i k m) ?_ ?_
  · exact ⟨vv, fun m hm => by omega⟩
  rintro q t6 hq ⟨h18, hI⟩
  by_cases hql : q < (Gs.getD (i + 1) []).length
  case neg =>
    have hqe : q = (Gs.getD (i + 1) []).length := by omega
    subst hqe
    have c5 : ¬ ((Gs.getD (i + 1) []).length : Int) < ((Gs.getD (i + 1) []).length : Int) := by omega
    have hBk := Hid.mk (B.out.2 hI)
    clear ST SB J2 hql hq hI
    repeat' (with_reducible first | refine x_ops ?_ | refine wk ?_ | ((first | refine gd1 ?_ ?_ | refine gd2 ?_ ?_ | refine gd3 ?_ ?_) <;> (first | exact @False.elim _ | intro hc)))
    exact tail.out _ vw vw vw hBk.out
  have c5 : (q : Int) < ((Gs.getD (i + 1) []).length : Int) := by omega
  have c6 : q * 2 + 2 ≤ (Gs.getD (i + 1) []).length * 2 := by omega
  have g7 := gs_take hql
  have wq := w_add1 (k := q) (by omega)
  have g8 := J2 q hql
  have STq := ST q hql
  have b3 := SB q hql
  have b4 := ow.out
  have b5 := lo.out
  have b6 := up.out
  have b7 := LO.out q hql
  rw [show (T.getD (i + 1) []).getD q 0 = tbA T (i + 1) q from rfl] at g8
  have hS := hST0.out q
  generalize tbA T (i + 1) q = y at *
  have nxt : StpOk h l Gs T i k q → ∀ m, m < q + 1 → StpOk h l Gs T i k m := fun hq' m hm => by
    by_cases e : m = q
    · subst e; exact hq'
    · exact hI m (by omega)
  have bad : ¬ StpOk h l Gs T i k q → ¬ ElOk h l Gs T cost i k := fun hb hp => hb (B.out.1 hp.1 q hql)
  generalize stepR h (l.getD i noC) ((Gs.getD i []).getD k noG) (l.getD (i + 1) noC) ((Gs.getD (i + 1) []).getD q noG) = st at *
  obtain ⟨sc, sb⟩ := st
  dsimp only at STq hS b3
  replace nxt := Hid.mk nxt
  replace bad := Hid.mk bad
  clear ST SB J2 hI hq
  cases sb
  · have hz := Hid.mk (nxt.out (hS.2 (fun e => by cases e)))
    clear hS b3 b4 b5 b6 b7
    repeat' (with_reducible first | refine x_ops ?_ | refine wk ?_ | (with_reducible refine xc (STq) ?_) | ((first | refine gd1 ?_ ?_ | refine gd2 ?_ ?_ | refine gd3 ?_ ?_) <;> (first | exact @False.elim _ | intro hc)))
    exact nf hql ⟨vv, hz.out⟩ rfl
  by_cases hy : y = -1
  · have e2 : ¬ (0 : Int) ≤ y := by omega
    have hz := Hid.mk (nxt.out (hS.2 (fun _ h1 => absurd hy h1)))
    clear hS b3 b4 b5 b6 b7 hy
    repeat' (with_reducible first | refine x_ops ?_ | refine wk ?_ | (with_reducible refine xc (STq) ?_) | ((first | refine gd1 ?_ ?_ | refine gd2 ?_ ?_ | refine gd3 ?_ ?_) <;> (first | exact @False.elim _ | intro hc)))
    all_goals exact nf hql ⟨vv, hz.out⟩ rfl
  have e2 : (0 : Int) ≤ y := by omega
  by_cases hx1 : x = -1
  · have e3 : x < 0 := by omega
    have hno := bad.out (fun h1 => (hS.1 h1 rfl hy).1 hx1)
    replace hno := Hid.mk hno
    clear hS b3 b4 b5 b6 b7 hy hx1
    repeat' (with_reducible first | refine x_ops ?_ | refine wk ?_ | (with_reducible refine xc (STq) ?_) | ((first | refine gd1 ?_ ?_ | refine gd2 ?_ ?_ | refine gd3 ?_ ?_) <;> (first | exact @False.elim _ | intro hc)))
    exact elNo rfl vv vv hno.out
  have e3 : ¬ x < 0 := by omega
  have e4 : 0 ≤ x := by omega
  have w8 : IntKind.i64.wrap (x - ow') = x - ow' := w_in (by omega)
  have w9 : IntKind.i64.wrap (x - ow' - sc) = x - ow' - sc := w_in (by omega)
  by_cases hlt : y < x - ow' - sc
  · have hno := bad.out (fun h1 => by have := (hS.1 h1 rfl hy).2; omega)
    replace hno := Hid.mk hno
    clear hS b3 b4 b5 b6 b7 hy hx1
    repeat' (with_reducible first | refine x_ops ?_ | refine wk ?_ | (with_reducible refine xc (STq) ?_) | ((first | refine gd1 ?_ ?_ | refine gd2 ?_ ?_ | refine gd3 ?_ ?_) <;> (first | exact @False.elim _ | intro hc)))
    exact elNo rfl vv vv hno.out
  · have hz := Hid.mk (nxt.out (hS.2 (fun _ _ => ⟨hx1, by omega⟩)))
    clear hS b3 b4 b5 b6 b7 hy hx1
    repeat' (with_reducible first | refine x_ops ?_ | refine wk ?_ | (with_reducible refine xc (STq) ?_) | ((first | refine gd1 ?_ ?_ | refine gd2 ?_ ?_ | refine gd3 ?_ ?_) <;> (first | exact @False.elim _ | intro hc)))
    exact nf hql ⟨vv, hz.out⟩ rfl
end Go.Proofs.Ytojjdkoglhecbaa
namespace Go.Proofs.Ytojjdkoglhecbaa
open Go.RowKit

set_option maxHeartbeats 4000000 in
theorem rProves_fn (h : Hand) (l : List Chord) (hl : Fits l) (T : List (List Int)) (hT : FitsT T) (cost : Int) : Fn Try.prog Gd 52 [h.val, tCs l, tIss T, vint cost] (.tup [vbool (pvsR h l T cost).1, vint (pvsR h l T cost).2]) := by
  refine Fn.of_vx0 k_theorboref06_Proves (by simp) (by rw [V.pures, pure_hand, V.pures, pure_tCs, V.pures, pure_tIss]; rfl) ?_
  have C1 := rTable_fn h l hl
  unfold tbR at C1
  unfold pvsR c_theorboref06_Proves Hand.val tCs tIss
  unfold Hand.val tCs at C1
  by_cases hw : wvE h l = 0
  case neg =>
    have e1 : (wvE h l == 0) = false := by rw [beq_eq_false_iff_ne]; exact hw
    rw [if_neg hw] at C1 ⊢
    unfold tGss at C1
    clear hw
    dsimp only at C1 ⊢
    repeat' (with_reducible first | refine x_ops ?_ | refine wk ?_ | (with_reducible refine xc (C1) ?_) | ((first | refine gd1 ?_ ?_ | refine gd2 ?_ ?_ | refine gd3 ?_ ?_) <;> (first | exact @False.elim _ | intro hc)))
    exact finV_dry rfl vv
  have hn := wv_net hl hw
  rw [if_pos hw] at C1 ⊢
  generalize tabG h l = Gs at *
  have h4 := hn.len
  have gl := hn.gl
  unfold tGss at C1
  dsimp only at C1 ⊢
  have hT1 := hT.len
  clear hw
  by_cases hlen : T.length = l.length
  case neg =>
    have e1 : ((T.length : Int) == (l.length : Int)) = false := by rw [beq_eq_false_iff_ne]; omega
    rw [pvs_no (fun hp => hlen hp.tab.len)]
    replace hlen := Hid.mk hlen
    replace hn := Hid.mk hn
    clear hT
    repeat' (with_reducible first | refine x_ops ?_ | refine wk ?_ | (with_reducible refine xc (C1) ?_) | ((first | refine gd1 ?_ ?_ | refine gd2 ?_ ?_ | refine gd3 ?_ ?_) <;> (first | exact @False.elim _ | intro hc)))
    exact finV_dry rfl vv
  have e1 : ((T.length : Int) == (l.length : Int)) = true := by rw [beq_iff_eq]; omega
  replace hlen := Hid.mk hlen
  replace hn := Hid.mk hn
  repeat' (with_reducible first | refine x_ops ?_ | refine wk ?_ | (with_reducible refine xc (C1) ?_) | ((first | refine gd1 ?_ ?_ | refine gd2 ?_ ?_ | refine gd3 ?_ ?_) <;> (first | exact @False.elim _ | intro hc)))
  clear C1
  refine x_genM (fun t M => (t 1 = .sl l.length (l.flatMap Chord.cells) .no ∧ t 2 = .sl T.length (T.map tIs) .no ∧ t 3 = vint cost ∧ t 4 = .ptr 0 0 ∧ t 10 = .sl l.length (Gs.map tGs) .no ∧ t 12 = vint 0) ∧
    M.obj 0 = some (.box [tIs h.low, tIs h.high, tBs h.barre, vint h.top, vint h.jump, vint h.shift, vint h.lift, vint h.bar, vint h.stretch, vint h.slide] 25) ∧ 0 < M.next) ⟨⟨vv, vv, vv, vv, vw, vv⟩, vv, by show 0 < 3; omega⟩ ?_
  rintro t0 M ⟨⟨a1, a2, a3, a4, a10, a12⟩, ho, hM⟩
  refine x_loopF w_theorboref06_Proves_p12 kr T.length (fun q t => t 12 = vint (q : Int) ∧ ∀ i, i < q → (T.getD i []).length = (Gs.getD i []).length ∧ ∀ k, k < (Gs.getD i []).length → -1 ≤ tbA T i k) ?_ ?_
  · exact ⟨a12, fun i hi => by omega⟩
  rintro q t hq ⟨h12, hI⟩
  by_cases hqT : q < T.length
  · have hql : q < l.length := by have := hlen.out; omega
    have c1 : (q : Int) < (T.length : Int) := by omega
    have c2 : (q : Int) < (l.length : Int) := by omega
    have g1 := iss_at' hqT
    have g2 := gss_at' (l := Gs) (k := q) (by omega)
    have wq := w_add1 (k := q) (by omega)
    have nxt : ((T.getD q []).length = (Gs.getD q []).length ∧ ∀ k, k < (Gs.getD q []).length → -1 ≤ tbA T q k) → ∀ i, i < q + 1 → (T.getD i []).length = (Gs.getD i []).length ∧ ∀ k, k < (Gs.getD i []).length → -1 ≤ tbA T i k := fun h1 i hi => by
      by_cases e : i = q
      · subst e; exact h1
      · exact hI i (by omega)
    replace nxt := Hid.mk nxt
    have hrl := hT.row _ (mem_getD [] hqT)
    clear hI
    by_cases hL : (T.getD q []).length = (Gs.getD q []).length
    case neg =>
      have e3 : (((T.getD q []).length : Int) == ((Gs.getD q []).length : Int)) = false := by rw [beq_eq_false_iff_ne]; omega
      rw [pvs_no (fun hp => hL (hp.tab.row q hql))]
      clear hL
      repeat' (with_reducible first | refine x_ops ?_ | refine wk ?_ | ((first | refine gd1 ?_ ?_ | refine gd2 ?_ ?_ | refine gd3 ?_ ?_) <;> (first | exact @False.elim _ | intro hc)))
      all_goals exact finV_dry rfl vv
    have e3 : (((T.getD q []).length : Int) == ((Gs.getD q []).length : Int)) = true := by rw [beq_iff_eq]; omega
    have hLk := Hid.mk hL
    clear hL
    repeat' (with_reducible first | refine x_ops ?_ | refine wk ?_ | ((first | refine gd1 ?_ ?_ | refine gd2 ?_ ?_ | refine gd3 ?_ ?_) <;> (first | exact @False.elim _ | intro hc)))
    refine x_loopF w_theorboref06_Proves_p7 kr (T.getD q []).length (fun k t => t 13 = vint (k : Int) ∧ ∀ j, j < k → -1 ≤ tbA T q j) ?_ ?_
    · exact ⟨vv, fun j hj => by omega⟩
    rintro k t2 hk ⟨h13, hK⟩
    by_cases hkl : k < (T.getD q []).length
    case neg =>
      have hke : k = (T.getD q []).length := by omega
      subst hke
      have c3 : ¬ ((T.getD q []).length : Int) < ((T.getD q []).length : Int) := by omega
      have hz := Hid.mk (nxt.out ⟨hLk.out, fun j hj => hK j (by have := hLk.out; omega)⟩)
      clear hK hk hkl
      repeat' (with_reducible first | refine x_ops ?_ | refine wk ?_ | ((first | refine gd1 ?_ ?_ | refine gd2 ?_ ?_ | refine gd3 ?_ ?_) <;> (first | exact @False.elim _ | intro hc)))
      exact nf hqT ⟨vv, hz.out⟩ rfl
    have c3 : (k : Int) < ((T.getD q []).length : Int) := by omega
    have g3 := ints_at hkl
    have wk' := w_add1 (k := k) (by omega)
    rw [show (T.getD q []).getD k 0 = tbA T q k from rfl] at g3
    by_cases hlo : tbA T q k < -1
    · rw [pvs_no (fun hp => by have := hp.tab.low q hql k (by have := hLk.out; omega); omega)]
      clear hK
      repeat' (with_reducible first | refine x_ops ?_ | refine wk ?_ | ((first | refine gd1 ?_ ?_ | refine gd2 ?_ ?_ | refine gd3 ?_ ?_) <;> (first | exact @False.elim _ | intro hc)))
      exact finV_dry rfl vv
    · have hz : ∀ j, j < k + 1 → -1 ≤ tbA T q j := fun j hj => by
        by_cases e : j = k
        · subst e; omega
        · exact hK j (by omega)
      replace hz := Hid.mk hz
      clear hK
      repeat' (with_reducible first | refine x_ops ?_ | refine wk ?_ | ((first | refine gd1 ?_ ?_ | refine gd2 ?_ ?_ | refine gd3 ?_ ?_) <;> (first | exact @False.elim _ | intro hc)))
      exact nf hkl ⟨vv, hz.out⟩ rfl
  have hqe : q = T.length := by omega
  subst hqe
  have c1 : ¬ (T.length : Int) < (l.length : Int) := by have := hlen.out; omega
  have hC : CtbOk l Gs T := ⟨hlen.out, fun i hi => (hI i (by have := hlen.out; omega)).1, fun i hi => (hI i (by have := hlen.out; omega)).2⟩
  replace hC := Hid.mk hC
  clear hI hqT hq a12
  repeat' (with_reducible first | refine x_ops ?_ | refine wk ?_ | ((first | refine gd1 ?_ ?_ | refine gd2 ?_ ?_ | refine gd3 ?_ ?_) <;> (first | exact @False.elim _ | intro hc)))
  refine x_gen (fun t => t 1 = .sl l.length (l.flatMap Chord.cells) .no ∧ t 2 = .sl T.length (T.map tIs) .no ∧ t 3 = vint cost ∧ t 4 = .ptr 0 0 ∧ t 10 = .sl l.length (Gs.map tGs) .no ∧ t 14 = vint 0) ⟨vw, vw, vw, vw, vw, vv⟩ ?_
  clear a1 a2 a3 a4 a10 h12 c1
  rintro t1 ⟨a1, a2, a3, a4, a10, a14⟩
  refine x_loopF w_theorboref06_Proves_p33 kr l.length (fun i t => t 14 = vint (i : Int) ∧ ∀ j, j < i → ∀ k, k < (Gs.getD j []).length → ElOk h l Gs T cost j k) ?_ ?_
  · exact ⟨a14, fun j hj => by omega⟩
  rintro i t2 hi ⟨h14, hI⟩
  by_cases hil : i < l.length
  case neg =>
    have hie : i = l.length := by omega
    subst hie
    have c1 : ¬ (l.length : Int) < (l.length : Int) := by omega
    have key : (0 < l.length → pvsB h l Gs T cost = true) ∧ (l.length = 0 → pvsB h l Gs T cost = decide (cost ≤ 0)) := by
      refine ⟨fun h0 => pvs_yes ⟨hC.out, fun j hj k hk => (hI j hj k hk).1, fun j hj k hk => (hI j hj k hk).2, fun h1 => by omega⟩, fun h0 => ?_⟩
      by_cases hc : cost ≤ 0
      · rw [pvs_yes ⟨hC.out, fun j hj => by omega, fun j hj => by omega, fun _ => hc⟩]; simp [hc]
      · rw [pvs_no (fun hp => hc (hp.nil h0))]; simp [hc]
    clear hI hil hi
    by_cases h0 : 0 < l.length
    · have c2 : (0 : Int) < (l.length : Int) := by omega
      rw [key.1 h0]
      clear key h0
      repeat' (with_reducible first | refine x_ops ?_ | refine wk ?_ | ((first | refine gd1 ?_ ?_ | refine gd2 ?_ ?_ | refine gd3 ?_ ?_) <;> (first | exact @False.elim _ | intro hc)))
      exact finV_dry rfl vv
    · have c2 : ¬ (0 : Int) < (l.length : Int) := by omega
      rw [key.2 (by omega)]
      clear key h0
      repeat' (with_reducible first | refine x_ops ?_ | refine wk ?_ | ((first | refine gd1 ?_ ?_ | refine gd2 ?_ ?_ | refine gd3 ?_ ?_) <;> (first | exact @False.elim _ | intro hc)))
      exact finV_dry rfl vv
  have c1 : (i : Int) < (l.length : Int) := by omega
  have wi := w_add1 (k := i) (by omega)
  have j0 := gss_at' (l := Gs) (k := i) (by omega)
  have hcn := hn.out.cnt i
  replace hI := Hid.mk hI
  repeat' (with_reducible first | refine x_ops ?_ | refine wk ?_ | ((first | refine gd1 ?_ ?_ | refine gd2 ?_ ?_ | refine gd3 ?_ ?_) <;> (first | exact @False.elim _ | intro hc)))
  refine x_loopF w_theorboref06_Proves_p29 kr (Gs.getD i []).length (fun k t => t 15 = vint (k : Int) ∧ ∀ k', k' < k → ElOk h l Gs T cost i k') ?_ ?_
  · exact ⟨vv, fun j hj => by omega⟩
  rintro k t4 hk ⟨h15, hK⟩
  by_cases hkl : k < (Gs.getD i []).length
  case neg =>
    have hke : k = (Gs.getD i []).length := by omega
    subst hke
    have c2 : ¬ ((Gs.getD i []).length : Int) < ((Gs.getD i []).length : Int) := by omega
    have hz : ∀ j, j < i + 1 → ∀ k, k < (Gs.getD j []).length → ElOk h l Gs T cost j k := fun j hj => by
      by_cases e : j = i
      · subst e; exact hK
      · exact hI.out j (by omega)
    replace hz := Hid.mk hz
    clear hK hkl hk
    repeat' (with_reducible first | refine x_ops ?_ | refine wk ?_ | ((first | refine gd1 ?_ ?_ | refine gd2 ?_ ?_ | refine gd3 ?_ ?_) <;> (first | exact @False.elim _ | intro hc)))
    exact nf hil ⟨vv, hz.out⟩ rfl
  have c2 : (k : Int) < ((Gs.getD i []).length : Int) := by omega
  have wk' := w_add1 (k := k) (by omega)
  have hrl := hC.out.row i hil
  have hlT := hlen.out
  have c3 : (i : Int) < (T.length : Int) := by omega
  have g0 := iss_at' (l := T) (k := i) (by omega)
  rw [hrl] at g0
  have g1 := ints_at (l := T.getD i []) (k := k) (by omega)
  rw [show (T.getD i []).getD k 0 = tbA T i k from rfl] at g1
  have hg := hn.out.grip hil hkl
  have C3 := rown_fn h hn.out.hk (l.getD i noC) (hn.out.seq i hil).1 (hn.out.fits.at i) ((Gs.getD i []).getD k noG) hg.2 hg.1
  have g2 := chs_take hil
  have g3 := chs_len l
  have c4 : i * 3 + 3 ≤ l.length * 3 := by omega
  have g4 := gs_take hkl
  have g5 := gs_len (Gs.getD i [])
  have c5 : k * 2 + 2 ≤ (Gs.getD i []).length * 2 := by omega
  have bad : ¬ ElOk h l Gs T cost i k → pvsB h l Gs T cost = false := fun hb => pvs_no (fun hp => hb ⟨hp.bnd i hil k hkl, hp.top i hil k hkl⟩)
  have nxt : ElOk h l Gs T cost i k → ∀ k', k' < k + 1 → ElOk h l Gs T cost i k' := fun h1 j hj => by
    by_cases e : j = k
    · subst e; exact h1
    · exact hK j (by omega)
  unfold Hand.val Chord.val Chord.cells Grip.val Grip.cells at C3
  have RB := fun (t5 : Nat → V) f1 f2 f3 f4 f10 f14 f15 f16 f17 => rbound hn.out hC.out hT.hi (cost := cost) hil hkl (t := t5) (M := M) f1 f2 f3 f4 f10 f14 f15 f16 f17 ho hM
  replace bad := Hid.mk bad
  replace nxt := Hid.mk nxt
  replace hg := Hid.mk hg
  replace RB := Hid.mk RB
  clear hK hk
  rw [hlT] at c3
  repeat' (with_reducible first | refine x_ops ?_ | refine wk ?_ | (with_reducible refine xc (C3) ?_) | ((first | refine gd1 ?_ ?_ | refine gd2 ?_ ?_ | refine gd3 ?_ ?_) <;> (first | exact @False.elim _ | intro hc)))
  with_reducible refine x_sum 1645504557321206042154969182557309940163528562292731968849969920 ?hw (R := fun e t m' => ElEnd M (ElOk h l Gs T cost i k) e ⟨t, m'⟩) (RB.out _ vw vw vw vw vw vw vw vw vw) ?h2
  case hw => kernel_rfl
  rintro e t6 m6 ⟨hm6, ⟨rfl, hok⟩ | ⟨rfl, h8, h9, hno⟩⟩
  · dsimp only at hm6
    subst hm6
    have hz := Hid.mk (nxt.out hok)
    clear C3 RB
    repeat' (with_reducible first | refine x_ops ?_ | refine wk ?_ | ((first | refine gd1 ?_ ?_ | refine gd2 ?_ ?_ | refine gd3 ?_ ?_) <;> (first | exact @False.elim _ | intro hc)))
    exact nf hkl ⟨vv, hz.out⟩ rfl
  · dsimp only at hm6 h8 h9
    subst hm6
    rw [bad.out hno]
    clear C3 RB
    repeat' (with_reducible first | refine x_ops ?_ | refine wk ?_ | ((first | refine gd1 ?_ ?_ | refine gd2 ?_ ?_ | refine gd3 ?_ ?_) <;> (first | exact @False.elim _ | intro hc)))
    exact finV_dry rfl vw
end Go.Proofs.Ytojjdkoglhecbaa
