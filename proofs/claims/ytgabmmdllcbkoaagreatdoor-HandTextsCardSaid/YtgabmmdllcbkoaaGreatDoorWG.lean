/- A text of grips is read: the program, on values. -/
import Derived.Test.YtgabmmdllcbkoaaGreatDoorWF
set_option linter.unusedSimpArgs false
set_option linter.unusedVariables false
set_option maxRecDepth 100000
namespace Go.Proofs.YtgabmmdllcbkoaaGreatDoor
open Go.RowKit
theorem rdP_len {s : List UInt8} (h : 65536 < s.length) : rdP s = ([], 2) := by rw [rdP, if_pos (.inl h)]
theorem rdP_nl {s : List UInt8} (h : 400 < nl s) : rdP s = ([], 2) := by rw [rdP, if_pos (.inr h)]
theorem rdP_bad {s : List UInt8} (h1 : ¬ 65536 < s.length) (h2 : ¬ 400 < nl s) (h : (lnsP s).mapM lineA = none) : rdP s = ([], 4) := by rw [rdP, if_neg (fun hb => hb.elim h1 h2), h]
theorem rdP_wr {s : List UInt8} {l : List Grip} (h1 : ¬ 65536 < s.length) (h2 : ¬ 400 < nl s) (h : (lnsP s).mapM lineA = some l) : rdP s = if wrR l = (s, 0) then (l, 0) else ([], 4) := by rw [rdP, if_neg (fun hb => hb.elim h1 h2), h]
theorem lineA_bad {w : List UInt8} {j : Nat} (hj : j < (splitC 32 w).length) (h : atoiO ((splitC 32 w).getD j []) = none) : lineA w = none := by
  rw [lineA, mapM_bad atoiO h (mem_getD [] hj)]; rfl
theorem lineA_some {w : List UInt8} {ns : List Int} (h : (splitC 32 w).mapM atoiO = some ns) : lineA w = some (ofNs ns) := by rw [lineA, h]; rfl
theorem mapM_mem {α β : Type} (f : α → Option β) : ∀ {l : List α} {ns : List β}, l.mapM f = some ns → ∀ y ∈ ns, ∃ x ∈ l, f x = some y
  | [], ns, h, y, hy => by
    have : ns = [] := by simpa using h.symm
    subst this; cases hy
  | x :: l, ns, h, y, hy => by
    rw [mapM_cons] at h
    cases hx : f x with
    | none => rw [hx] at h; cases h
    | some a =>
      rw [hx] at h
      cases hl : l.mapM f with
      | none => rw [hl] at h; cases h
      | some m =>
        rw [hl] at h
        have e : a :: m = ns := by injection h
        subst e
        rcases List.mem_cons.1 hy with rfl | hy
        · exact ⟨x, List.mem_cons_self .., hx⟩
        · obtain ⟨z, h1, h2⟩ := mapM_mem f hl y hy
          exact ⟨z, List.mem_cons_of_mem _ h1, h2⟩
theorem lineA_len {w : List UInt8} {g : Grip} (h : lineA w = some g) : g.fingers.length ≤ w.length + 1 := by
  unfold lineA at h
  cases hm : (splitC 32 w).mapM atoiO with
  | none => rw [hm] at h; cases h
  | some ns =>
    rw [hm] at h
    have e : ofNs ns = g := by injection h
    subst e
    have := mapM_len atoiO hm
    have := (splitC_le 32 w).1
    rw [ofNs_len]; omega
set_option maxHeartbeats 8000000 in
theorem read_rest {s : List UInt8} (hs : s.length ≤ 1000000) {t : Nat → V} {m : Mm} (h0 : t 0 = str s) (h4 : t 4 = .sl (lnsP s).length ((lnsP s).map str) .no) (h2 : t 2 = .sl 0 [] .exact) :
    (c_hand_Read_p25).vx Tryz.prog Gd (FinV [.t 2, .t 3] (rgV (rdP s))) ⟨t, m⟩ := by
  unfold c_hand_Read_p25
  have hsz := bsz s
  have hnl := lnsP_len s
  by_cases hbig : 65536 < s.length
  · have c0 : (65536 : Int) < (s.length : Int) := by omega
    rw [rdP_len hbig]
    clear hbig hnl
    repeat' (with_reducible first | refine x_ops ?_ | simp only [go_sem, Nat.reduceAdd, Nat.reduceEqDiff, Nat.reduceLT, Nat.reduceLeDiff, Nat.reduceMul, Nat.reduceSub, Nat.reducePow, Nat.reduceDiv, Nat.reduceMod, Nat.reduceBEq, Int.reduceBEq, Int.reduceLT, reduceIte, tIs, tBs, tPs, str, *] | ((first | refine gd1 ?_ ?_ | refine gd2 ?_ ?_ | refine gd3 ?_ ?_) <;> (first | exact @False.elim _ | intro hc)))
    exact fin_no vw
  have c0 : ¬ (65536 : Int) < (s.length : Int) := by omega
  by_cases hn : 400 < nl s
  · have c3 : (400 : Int) < ((lnsP s).length : Int) := by omega
    rw [rdP_nl hn]
    clear hn hbig hnl
    repeat' (with_reducible first | refine x_ops ?_ | simp only [go_sem, Nat.reduceAdd, Nat.reduceEqDiff, Nat.reduceLT, Nat.reduceLeDiff, Nat.reduceMul, Nat.reduceSub, Nat.reducePow, Nat.reduceDiv, Nat.reduceMod, Nat.reduceBEq, Int.reduceBEq, Int.reduceLT, reduceIte, tIs, tBs, tPs, str, *] | ((first | refine gd1 ?_ ?_ | refine gd2 ?_ ?_ | refine gd3 ?_ ?_) <;> (first | exact @False.elim _ | intro hc)))
    exact fin_no vw
  have c3 : ¬ (400 : Int) < ((lnsP s).length : Int) := by omega
  have hbad := Hid.mk (rdP_bad hbig hn)
  have hwr := Hid.mk fun l => rdP_wr (l := l) hbig hn
  have hLl : (lnsP s).length ≤ 400 := by omega
  have hLw := Hid.mk (lnsP_le s).2
  clear hbig hn hnl
  generalize lnsP s = L at *
  repeat' (with_reducible first | refine x_ops ?_ | simp only [go_sem, Nat.reduceAdd, Nat.reduceEqDiff, Nat.reduceLT, Nat.reduceLeDiff, Nat.reduceMul, Nat.reduceSub, Nat.reducePow, Nat.reduceDiv, Nat.reduceMod, Nat.reduceBEq, Int.reduceBEq, Int.reduceLT, reduceIte, tIs, tBs, tPs, str, *] | ((first | refine gd1 ?_ ?_ | refine gd2 ?_ ?_ | refine gd3 ?_ ?_) <;> (first | exact @False.elim _ | intro hc)))
  refine x_loopW w_hand_Read_p18 (by kernel_rfl) L.length (fun k t m => t 38 = vint (k : Int) ∧ ∃ (acc : List Grip) (tok : Tok), t 2 = .sl acc.length (acc.flatMap Grip.cells) tok ∧ Apb m tok acc.length 47 2 ∧ (L.take k).mapM lineA = some acc ∧ acc.length = k) ⟨vv, [], .exact, vw, .inl rfl, rfl, rfl⟩ ?_
  rintro k t2 m2 hk ⟨h38, acc, tok, h22, hap, hM, hal⟩
  have hap0 := Hid.mk hap
  have hM0 := Hid.mk hM
  have hal0 := Hid.mk hal
  have hall : acc.length ≤ 400 := by omega
  clear hap hM hal
  by_cases hlt : k < L.length
  · have c2 : (k : Int) < (L.length : Int) := by omega
    have hat := strs_at hlt
    have w1 := w_add1 (k := k) (by omega)
    have hwl : (L.getD k []).length ≤ 1000000 := Nat.le_trans (hLw.out _ (mem_getD [] hlt)) hs
    have hbd := Hid.mk fun (h : lineA (L.getD k []) = none) => hbad.out (mapM_bad lineA h (mem_getD [] hlt))
    have hgd := Hid.mk fun (g : Grip) (h : lineA (L.getD k []) = some g) => mapM_take lineA [] hlt hM0.out h
    generalize L.getD k [] = w at *
    have SP := split_fn 32 w (by omega)
    simp only [str, tSs] at SP
    repeat' (with_reducible first | refine x_ops ?_ | simp only [go_sem, Nat.reduceAdd, Nat.reduceEqDiff, Nat.reduceLT, Nat.reduceLeDiff, Nat.reduceMul, Nat.reduceSub, Nat.reducePow, Nat.reduceDiv, Nat.reduceMod, Nat.reduceBEq, Int.reduceBEq, Int.reduceLT, reduceIte, tIs, tBs, tPs, str, *] | (with_reducible refine xc (SP) ?_) | ((first | refine gd1 ?_ ?_ | refine gd2 ?_ ?_ | refine gd3 ?_ ?_) <;> (first | exact @False.elim _ | intro hc)))
    have hws := Hid.mk (splitC_le 32 w)
    have hlb := Hid.mk fun j => lineA_bad (w := w) (j := j)
    have hls := Hid.mk fun ns => lineA_some (w := w) (ns := ns)
    generalize splitC 32 w = ws at *
    refine x_loopW w_hand_Read_p11 (by kernel_rfl) ws.length (fun j t m => t 45 = vint (j : Int) ∧ t 2 = .sl acc.length (acc.flatMap Grip.cells) tok ∧ ∃ (ns : List Int) (tok' : Tok), (ws.take j).mapM atoiO = some ns ∧ ns.length = j ∧ m.obj m2.next = some (.box [vint (ofNs ns).pos, .sl (ofNs ns).fingers.length ((ofNs ns).fingers.map vint) tok'] 47) ∧ Apb m tok' (ofNs ns).fingers.length 3 1 ∧ Apb m tok acc.length 47 2 ∧ m2.next < m.next) ⟨vv, vw, [], .exact, rfl, rfl, vv, .inl rfl, (hap0.out.keep (by show m2.next ≤ m2.next + 1; omega) fun q hq _ => (by ((simp only [put_obj]; repeat rw [if_neg (by omega)])))), by show m2.next < m2.next + 1; omega⟩ ?_
    rintro j t3 m3 hj ⟨h45, h23, ns, tok', hns, hnl, o7, hap7, hap3, hlt7⟩
    have hns0 := Hid.mk hns
    have hap70 := Hid.mk hap7
    have hap30 := Hid.mk hap3
    clear hns hap7 hap3 hap0
    by_cases hjl : j < ws.length
    · have c4 : (j : Int) < (ws.length : Int) := by omega
      have hat2 := strs_at hjl
      have w2 := w_add1 (k := j) (by have := hws.out.1; omega)
      have hul : (ws.getD j []).length ≤ 1000000 := Nat.le_trans (hws.out.2 _ (mem_getD [] hjl)) hwl
      have hno := Hid.mk fun h => hbd.out (hlb.out j hjl h)
      have htk := Hid.mk fun (v : Int) h => mapM_take atoiO [] hjl (v := v) hns0.out h
      generalize ws.getD j [] = u at *
      repeat' (with_reducible first | refine x_ops ?_ | simp only [go_sem, Nat.reduceAdd, Nat.reduceEqDiff, Nat.reduceLT, Nat.reduceLeDiff, Nat.reduceMul, Nat.reduceSub, Nat.reducePow, Nat.reduceDiv, Nat.reduceMod, Nat.reduceBEq, Int.reduceBEq, Int.reduceLT, reduceIte, tIs, tBs, tPs, str, *] | ((first | refine gd1 ?_ ?_ | refine gd2 ?_ ?_ | refine gd3 ?_ ?_) <;> (first | exact @False.elim _ | intro hc)))
      refine x_scallR [.lit (.string ⟨u.toArray⟩)] vw (atoi_sfn u (by omega) _) (atP_ex _ _) ?_
      rintro r mr ⟨hr, rfl⟩
      rcases atP_cases hr with ⟨v, hv, rfl⟩ | ⟨hv, n, te, pe, rfl⟩
      · have hnv := Hid.mk (htk.out v hv)
        clear hr hv
        by_cases hj0 : j = 0
        · have hbj : ((j : Int) == 0) = true := by rw [beq_iff_eq]; omega
          have : ns = [] := List.eq_nil_of_length_eq_zero (by omega)
          subst this
          have o70 : m3.obj m2.next = some (.box [vint 0, .sl 0 [] tok'] 47) := o7
          have hj00 := Hid.mk hj0
          have hnl0 := Hid.mk hnl
          clear o7 hj0 hnl
          repeat' (with_reducible first | refine x_ops ?_ | simp only [go_sem, Nat.reduceAdd, Nat.reduceEqDiff, Nat.reduceLT, Nat.reduceLeDiff, Nat.reduceMul, Nat.reduceSub, Nat.reducePow, Nat.reduceDiv, Nat.reduceMod, Nat.reduceBEq, Int.reduceBEq, Int.reduceLT, reduceIte, tIs, tBs, tPs, str, *] | ((first | refine gd1 ?_ ?_ | refine gd2 ?_ ?_ | refine gd3 ?_ ?_) <;> (first | exact @False.elim _ | intro hc)))
          refine nx hjl ⟨vw, vw, [v], tok', hnv.out, by rw [hj00.out]; rfl, if_pos rfl, ?_, ?_, hlt7⟩
          · exact (hap70.out.put (o := .box [vint v, .sl 0 [] tok'] 47) o70).keep (by show m3.next ≤ m3.next; omega) (fun q _ _ => by rfl)
          · exact (hap30.out.put (o := .box [vint v, .sl 0 [] tok'] 47) o70).keep (by show m3.next ≤ m3.next; omega) (fun q _ _ => by rfl)
        · have hbj : ((j : Int) == 0) = false := by rw [Bool.eq_false_iff]; intro h; rw [beq_iff_eq] at h; omega
          have hne : ns ≠ [] := by rintro rfl; exact hj0 (by rw [← hnl]; rfl)
          have hfl := Hid.mk (ofNs_len ns)
          have hsn := Hid.mk (ofNs_snoc (v := v) hne)
          have hnl0 := Hid.mk hnl
          have hne0 := Hid.mk hne
          have hwl2 := hws.out.1
          clear hj0 hnl hne
          repeat' (with_reducible first | refine x_ops ?_ | simp only [go_sem, Nat.reduceAdd, Nat.reduceEqDiff, Nat.reduceLT, Nat.reduceLeDiff, Nat.reduceMul, Nat.reduceSub, Nat.reducePow, Nat.reduceDiv, Nat.reduceMod, Nat.reduceBEq, Int.reduceBEq, Int.reduceLT, reduceIte, tIs, tBs, tPs, str, *] | ((first | refine gd1 ?_ ?_ | refine gd2 ?_ ?_ | refine gd3 ?_ ?_) <;> (first | exact @False.elim _ | intro hc)))
          have hll : (ofNs ns).fingers.length ≤ 1000002 := by rw [hfl.out, hnl0.out]; omega
          refine x_appc vv vv (hap70.out.keep (by show m3.next ≤ m3.next + 7; omega) fun _ _ _ => rfl) (by simp) rfl (by omega) (by unfold maxLen; omega) (by show m3.next + 4 < m3.next + 7; omega) fun k' m' hA hnx hold howned => ?_
          have p7 := (hold m2.next (by show m2.next ≠ m3.next + 4; omega) (hap70.out.box o7)).trans o7
          replace hnx : m'.next = m3.next + 7 := hnx
          have hG : Apb m' tok acc.length 47 2 := hap30.out.keep (by omega) fun q hq hk => hold q (by show q ≠ m3.next + 4; omega) ((hap30.out.ne hap70.out (by decide)) q hk)
          have hA2 := Hid.mk (hA.put p7 (o := .box [vint (ofNs ns).pos, .sl ((ofNs ns).fingers.length + 1) ((ofNs ns).fingers.map vint ++ [vint v]) k'] 47))
          have hG2 := Hid.mk (hG.put p7 (o := .box [vint (ofNs ns).pos, .sl ((ofNs ns).fingers.length + 1) ((ofNs ns).fingers.map vint ++ [vint v]) k'] 47))
          clear hA hG hold howned o7
          repeat' (with_reducible first | refine x_ops ?_ | simp only [go_sem, Nat.reduceAdd, Nat.reduceEqDiff, Nat.reduceLT, Nat.reduceLeDiff, Nat.reduceMul, Nat.reduceSub, Nat.reducePow, Nat.reduceDiv, Nat.reduceMod, Nat.reduceBEq, Int.reduceBEq, Int.reduceLT, reduceIte, tIs, tBs, tPs, str, *] | ((first | refine gd1 ?_ ?_ | refine gd2 ?_ ?_ | refine gd3 ?_ ?_) <;> (first | exact @False.elim _ | intro hc)))
          refine nx hjl ⟨vw, vw, ns ++ [v], k', hnv.out, by rw [List.length_append, hnl0.out]; rfl, ?_, ?_, hG2.out.keep (by show m'.next ≤ m3.next + 7; omega) fun _ _ _ => rfl, by show m2.next < m3.next + 7; omega⟩
          · rw [hsn.out]
            refine (if_pos rfl).trans ?_
            show some (AObj.box [vint (ofNs ns).pos, .sl ((ofNs ns).fingers.length + 1) ((ofNs ns).fingers.map vint ++ [vint v]) k'] _) = some (AObj.box [vint (ofNs ns).pos, .sl ((ofNs ns).fingers ++ [v]).length (((ofNs ns).fingers ++ [v]).map vint) k'] _)
            rw [List.map_append, List.length_append]; rfl
          · rw [hsn.out]
            show Apb _ k' ((ofNs ns).fingers ++ [v]).length _ _
            rw [List.length_append]
            exact hA2.out.keep (by show m'.next ≤ m3.next + 7; omega) fun _ _ _ => rfl
      · rw [hno.out hv]
        clear hr hv
        repeat' (with_reducible first | refine x_ops ?_ | simp only [go_sem, Nat.reduceAdd, Nat.reduceEqDiff, Nat.reduceLT, Nat.reduceLeDiff, Nat.reduceMul, Nat.reduceSub, Nat.reducePow, Nat.reduceDiv, Nat.reduceMod, Nat.reduceBEq, Int.reduceBEq, Int.reduceLT, reduceIte, tIs, tBs, tPs, str, *] | ((first | refine gd1 ?_ ?_ | refine gd2 ?_ ?_ | refine gd3 ?_ ?_) <;> (first | exact @False.elim _ | intro hc)))
        exact fin_no vw
    have hje : j = ws.length := by omega
    subst hje
    have c4 : ¬ (ws.length : Int) < (ws.length : Int) := by omega
    have hgk := Hid.mk (hgd.out _ (hls.out ns (by have := hns0.out; rwa [List.take_length] at this)))
    have gl := gs_len acc
    have hfl := Hid.mk (ofNs_len ns)
    have hwl2 := hws.out.1
    clear hj hjl
    repeat' (with_reducible first | refine x_ops ?_ | simp only [go_sem, Nat.reduceAdd, Nat.reduceEqDiff, Nat.reduceLT, Nat.reduceLeDiff, Nat.reduceMul, Nat.reduceSub, Nat.reducePow, Nat.reduceDiv, Nat.reduceMod, Nat.reduceBEq, Int.reduceBEq, Int.reduceLT, reduceIte, tIs, tBs, tPs, str, *] | ((first | refine gd1 ?_ ?_ | refine gd2 ?_ ?_ | refine gd3 ?_ ?_) <;> (first | exact @False.elim _ | intro hc)))
    refine x_appc vv vv (hap30.out.keep (by show m3.next ≤ m3.next + 5; omega) fun q hq _ => rfl) gl rfl (by omega) (by unfold maxLen; omega) (by show m3.next + 3 < m3.next + 5; omega) fun k' m' hA hnx hold howned => ?_
    have hA0 := Hid.mk hA
    clear hA hold howned hnx
    repeat' (with_reducible first | refine x_ops ?_ | simp only [go_sem, Nat.reduceAdd, Nat.reduceEqDiff, Nat.reduceLT, Nat.reduceLeDiff, Nat.reduceMul, Nat.reduceSub, Nat.reducePow, Nat.reduceDiv, Nat.reduceMod, Nat.reduceBEq, Int.reduceBEq, Int.reduceLT, reduceIte, tIs, tBs, tPs, str, *] | ((first | refine gd1 ?_ ?_ | refine gd2 ?_ ?_ | refine gd3 ?_ ?_) <;> (first | exact @False.elim _ | intro hc)))
    refine nx hlt ⟨vw, acc ++ [ofNs ns], k', ?_, ?_, hgk.out, by rw [List.length_append, hal0.out]; rfl⟩
    · rw [gs_snoc, List.length_append]; exact vw
    · rw [List.length_append]; exact hA0.out
  have hke : k = L.length := by omega
  subst hke
  have c2 : ¬ (L.length : Int) < (L.length : Int) := by omega
  have hMa : L.mapM lineA = some acc := by have := hM0.out; rwa [List.take_length] at this
  rw [hwr.out acc hMa]
  have hfit : FitsG acc := ⟨by omega, fun g hg => by
    obtain ⟨w, hw, e⟩ := mapM_mem lineA hMa g hg
    have := lineA_len e
    have := hLw.out w hw
    omega⟩
  have WR := write_fn acc hfit
  clear hk hlt hMa hfit
  generalize wrR acc = p at *
  obtain ⟨a, e⟩ := p
  simp only [str, vint, tGs] at WR
  have hne2 := vneq a s
  by_cases he : e = 0
  · have hb0 : (e == 0) = true := by rw [he]; rfl
    by_cases ha : a = s
    · have hres := Hid.mk (show rgV (if (a, e) = (s, (0 : Int)) then (acc, 0) else ([], 4)) = rgV (acc, 0) by rw [if_pos (by rw [ha, he])])
      rw [hres.out]
      rw [decide_eq_true ha] at hne2
      clear he ha
      repeat' (with_reducible first | refine x_ops ?_ | simp only [go_sem, Nat.reduceAdd, Nat.reduceEqDiff, Nat.reduceLT, Nat.reduceLeDiff, Nat.reduceMul, Nat.reduceSub, Nat.reducePow, Nat.reduceDiv, Nat.reduceMod, Nat.reduceBEq, Int.reduceBEq, Int.reduceLT, reduceIte, tIs, tBs, tPs, str, *] | (with_reducible refine xc (WR) ?_) | ((first | refine gd1 ?_ ?_ | refine gd2 ?_ ?_ | refine gd3 ?_ ?_) <;> (first | exact @False.elim _ | intro hc)))
      exact finV_ret (r' := .tup [.sl acc.length (acc.flatMap Grip.cells) tok, vint 0]) vw (vw_rd _ _ _)
    · have hres := Hid.mk (show rgV (if (a, e) = (s, (0 : Int)) then (acc, 0) else ([], 4)) = rgV ([], 4) by rw [if_neg (fun h => ha (by injection h))])
      rw [hres.out]
      rw [decide_eq_false ha] at hne2
      clear he ha
      repeat' (with_reducible first | refine x_ops ?_ | simp only [go_sem, Nat.reduceAdd, Nat.reduceEqDiff, Nat.reduceLT, Nat.reduceLeDiff, Nat.reduceMul, Nat.reduceSub, Nat.reducePow, Nat.reduceDiv, Nat.reduceMod, Nat.reduceBEq, Int.reduceBEq, Int.reduceLT, reduceIte, tIs, tBs, tPs, str, *] | (with_reducible refine xc (WR) ?_) | ((first | refine gd1 ?_ ?_ | refine gd2 ?_ ?_ | refine gd3 ?_ ?_) <;> (first | exact @False.elim _ | intro hc)))
      exact fin_no vw
  · have hb0 : (e == 0) = false := by rw [Bool.eq_false_iff]; intro h; exact he (beq_iff_eq.1 h)
    have hres := Hid.mk (show rgV (if (a, e) = (s, (0 : Int)) then (acc, 0) else ([], 4)) = rgV ([], 4) by rw [if_neg (fun h => he (by injection h))])
    rw [hres.out]
    clear he hne2
    repeat' (with_reducible first | refine x_ops ?_ | simp only [go_sem, Nat.reduceAdd, Nat.reduceEqDiff, Nat.reduceLT, Nat.reduceLeDiff, Nat.reduceMul, Nat.reduceSub, Nat.reducePow, Nat.reduceDiv, Nat.reduceMod, Nat.reduceBEq, Int.reduceBEq, Int.reduceLT, reduceIte, tIs, tBs, tPs, str, *] | (with_reducible refine xc (WR) ?_) | ((first | refine gd1 ?_ ?_ | refine gd2 ?_ ?_ | refine gd3 ?_ ?_) <;> (first | exact @False.elim _ | intro hc)))
    exact fin_no vw
end Go.Proofs.YtgabmmdllcbkoaaGreatDoor
