/- Grips are written as text: the program and the reference, on values. -/
import Derived.Test.YtgabmmdllcbkoaaGreatDoorCA
import Derived.Test.YtgabmmdllcbkoaaGreatDoorDB
set_option linter.unusedSimpArgs false
set_option linter.unusedVariables false
set_option maxRecDepth 100000
namespace Go.Proofs.YtgabmmdllcbkoaaGreatDoor
open Go.RowKit
theorem bytes_append (a b : List UInt8) : (⟨a.toArray⟩ : ByteArray) ++ ⟨b.toArray⟩ = ⟨(a ++ b).toArray⟩ := by
  apply ByteArray.ext
  simp [ByteArray.data_append]
theorem vadd {a b : List UInt8} (h : a.length + b.length ≤ 9223372036854775807) : vbinS .add ⟨a.toArray⟩ ⟨b.toArray⟩ = some (.string ⟨(a ++ b).toArray⟩) := by
  rw [vbinS, if_pos, bytes_append]
  exact h
theorem take_getD {α : Type} {l : List α} (d : α) {k : Nat} (h : k < l.length) : l.take (k + 1) = l.take k ++ [l.getD k d] := by
  rw [List.take_add_one, List.getD_eq_getElem?_getD, List.getElem?_eq_getElem h]; rfl
theorem mem_getD {α : Type} {l : List α} (d : α) {k : Nat} (h : k < l.length) : l.getD k d ∈ l := by
  rw [List.getD_eq_getElem?_getD, List.getElem?_eq_getElem h]; exact List.getElem_mem h
theorem all_take_succ {α : Type} {l : List α} {p : α → Prop} (d : α) {k : Nat} (h : k < l.length) (hp : ∀ x ∈ l.take k, p x) (hd : p (l.getD k d)) : ∀ x ∈ l.take (k + 1), p x := by
  intro x hx
  rw [take_getD d h] at hx
  rcases List.mem_append.1 hx with hx | hx
  · exact hp x hx
  · rw [List.mem_singleton.1 hx]; exact hd
/-- What stands of a grip that is being written. -/
def gpx (g : Grip) (j : Nat) : List UInt8 := Lib.itoa g.pos ++ (g.fingers.take j).flatMap fgx
theorem gpx_succ {g : Grip} {j : Nat} (h : j < g.fingers.length) : gpx g (j + 1) = gpx g j ++ fgx (g.fingers.getD j 0) := by
  rw [gpx, gpx, take_getD 0 h, List.flatMap_append, List.append_assoc]
  simp
theorem gpx_all (g : Grip) : gpx g g.fingers.length ++ [10] = gtx g := by rw [gpx, List.take_length, gtx]
theorem gpx_len {g : Grip} {j : Nat} (hp : 1 ≤ g.pos ∧ g.pos ≤ 18) (hj : j ≤ 14) (h : ∀ f ∈ g.fingers.take j, okF f) : (gpx g j).length ≤ 44 := by
  have h1 := (it_at (f := g.pos) (by omega) hp.2).1
  have h2 := fgs_len h
  have h3 : (g.fingers.take j).length ≤ j := by rw [List.length_take]; omega
  simp only [gpx, List.length_append]; omega
theorem wtx_succ {l : List Grip} {k : Nat} (h : k < l.length) : wtx (l.take (k + 1)) = wtx (l.take k) ++ gtx (l.getD k noG) := by
  rw [take_getD noG h, wtx_append, wtx_cons]; simp [wtx]
theorem wtk_len {l : List Grip} {k : Nat} (hk : k ≤ 400) (h : allW (l.take k)) : (wtx (l.take k)).length ≤ 18000 := by
  have h1 := wtx_len h
  have h2 : (l.take k).length ≤ k := by rw [List.length_take]; omega
  omega
theorem wrR_bad {l : List Grip} {k : Nat} (h4 : ¬ 400 < l.length) (hk : k < l.length) (h : ¬ okW (l.getD k noG)) : wrR l = ([], 61) := by
  rw [wrR, if_neg h4, if_neg fun hw => h (hw _ (mem_getD noG hk))]

set_option maxHeartbeats 1000000 in
/-- No grips. -/
theorem write_none (A : Option Addr) (c : Nat) (w : World) : Calls Tryz.prog 5 #[.slice A 0 c] w fun e w' => e = .returned (.tuple #[.string ⟨#[]⟩, .int .i64 0]) ∧ Below w.heap.size w w' := by
  go_enter Tryz.func5, Tryz.ntmps5
  go_wp2
  refine wp_loop_once ?_
  go_wp2_with (go_at_call 16; refine (Tryz.Builder_String_empty w.heap.size w.heap.size _ ?_ ?_).mono ?_)
  · exact .inl ⟨Nat.le_refl _, _, heap_alloc_new w _, World.ownsRow_nil _ _ _ _, by simp [Value.ownBlock]⟩
  · simp
  · rintro e w' ⟨rfl, hb⟩
    go_wp2
    go_ret2
    exact ⟨rfl, ((Below.refl _ w).alloc (Nat.le_refl _) _).trans hb⟩

set_option maxHeartbeats 2000000 in
theorem write_fn (l : List Grip) (hf : FitsG l) : Fn Tryz.prog Gd 5 [tGs l] (.tup [str (wrR l).1, vint (wrR l).2]) := by
  by_cases hl0 : l = []
  · subst hl0
    refine Fn.of_calls fun E w cargs hG hst hv => ?_
    obtain ⟨c, rfl, hc⟩ := one_arg hv
    rw [tGs, VR] at hc
    obtain ⟨A, cap, rfl, _⟩ := hc
    refine (write_none A cap w).mono ?_
    rintro e w' ⟨rfl, hb⟩
    exact ⟨_, rfl, hb, E.M, fun _ _ _ x => x, fun _ _ _ => rfl, fun b o v hM => by rw [hb.cell (p := ⟨b, o, none⟩) (cell_lt (hst _ _ _ hM))]; exact hst _ _ _ hM, VR_tup2 rfl rfl⟩
  refine Fn.of_vx0 k_hand_Write (by simp) (by rw [V.pures, pure_tGs]; rfl) ?_
  unfold c_hand_Write tGs
  have hfl := hf.1
  by_cases h400 : 400 < l.length
  · have c1 : (400 : Int) < (l.length : Int) := by omega
    have e : wrR l = ([], 2) := if_pos h400
    rw [e]
    repeat' (with_reducible first | refine x_ops ?_ | refine wk ?_ | ((first | refine gd1 ?_ ?_ | refine gd2 ?_ ?_ | refine gd3 ?_ ?_) <;> (first | exact @False.elim _ | intro hc)))
    exact finV_dry rfl vv
  have c1 : ¬ (400 : Int) < (l.length : Int) := by omega
  repeat' (with_reducible first | refine x_ops ?_ | refine wk ?_ | ((first | refine gd1 ?_ ?_ | refine gd2 ?_ ?_ | refine gd3 ?_ ?_) <;> (first | exact @False.elim _ | intro hc)))
  refine x_loopW w_hand_Write_p16 (by kernel_rfl) l.length (fun k t m => t 14 = vint (k : Int) ∧ BS m 0 (wtx (l.take k)) ∧ 0 < m.next ∧ allW (l.take k)) ?_ ?_
  · exact ⟨vv, .inl ⟨rfl, by unfold Bld0; exact vv⟩, by simp only [put_next, M0_next]; omega, fun g hg => by simp at hg⟩
  rintro k t m hk ⟨h14, hB, hn, hA⟩
  by_cases hlt : k < l.length
  · have g1 := gs_take hlt
    have g5 := gs_len l
    have c2 : (k : Int) < (l.length : Int) := by omega
    have c3 : k * 2 + 2 ≤ l.length * 2 := by omega
    have w2 := w_add1 (k := k) (by omega)
    have hfg := hf.at k
    have hbad := Hid.mk (wrR_bad h400 hlt)
    have hok := Hid.mk fun (hg : okW (l.getD k noG)) => all_take_succ noG hlt hA hg
    have hsu := Hid.mk (wtx_succ hlt)
    generalize l.getD k noG = g at *
    have hB0 := Hid.mk hB
    have hlen := Hid.mk (wtk_len (k := k) (by omega) hA)
    have hA0 := Hid.mk hA
    have n0 : ¬ 0 = m.next + 2 := by omega
    have W := within_fn g.pos 1 18
    clear hB hA
    by_cases hp : 1 ≤ g.pos ∧ g.pos ≤ 18
    case neg =>
      have e : (decide (1 ≤ g.pos) && decide (g.pos ≤ 18)) = false := by
        rw [Bool.and_eq_false_iff]
        by_cases h1 : 1 ≤ g.pos
        · exact .inr (decide_eq_false fun h2 => hp ⟨h1, h2⟩)
        · exact .inl (decide_eq_false h1)
      rw [e] at W
      rw [hbad.out fun h => hp h.1]
      clear hp
      repeat' (with_reducible first | refine x_ops ?_ | refine wk ?_ | (with_reducible refine xc (W) ?_) | ((first | refine gd1 ?_ ?_ | refine gd2 ?_ ?_ | refine gd3 ?_ ?_) <;> (first | exact @False.elim _ | intro hc)))
      exact finV_dry rfl vv
    have e : (decide (1 ≤ g.pos) && decide (g.pos ≤ 18)) = true := by rw [decide_eq_true hp.1, decide_eq_true hp.2]; rfl
    rw [e] at W
    have I1 := itoa_fn (n := g.pos) (by omega) hp.2
    have hit := Hid.mk (it_at (f := g.pos) (by omega) hp.2)
    by_cases hl14 : 14 < g.fingers.length
    · have c4 : (14 : Int) < (g.fingers.length : Int) := by omega
      rw [hbad.out fun h => by have := h.2.1; omega]
      clear hp
      repeat' (with_reducible first | refine x_ops ?_ | refine wk ?_ | (with_reducible refine xc (W) ?_) | ((first | refine gd1 ?_ ?_ | refine gd2 ?_ ?_ | refine gd3 ?_ ?_) <;> (first | exact @False.elim _ | intro hc)))
      exact finV_dry rfl vv
    have c4 : ¬ (14 : Int) < (g.fingers.length : Int) := by omega
    have hp0 := Hid.mk hp
    clear hp
    repeat' (with_reducible first | refine x_ops ?_ | refine wk ?_ | (first | (with_reducible refine xc (W) ?_) | (with_reducible refine xc (I1) ?_)) | ((first | refine gd1 ?_ ?_ | refine gd2 ?_ ?_ | refine gd3 ?_ ?_) <;> (first | exact @False.elim _ | intro hc)))
    refine x_scallR [.ptr 0 0, str (Lib.itoa g.pos)] vw (wr_sfn (hB0.out.keep hn (by simp only [put_next]; omega) fun q hq => by (simp only [put_obj]; repeat rw [if_neg (by omega)])) (by simp only [put_next]; omega) (fun e => by have := hit.out.2.1; rw [e] at this; simp at this) (by have := hlen.out; have := hit.out.1; omega)) (WG.ex _ (by simp only [put_next]; omega) (by intro e; have := hit.out.2.1; simp at e; rw [e.2] at this; simp at this) _) ?_
    rintro r m1 ⟨rfl, hB1, hk1⟩
    have o1 := hk1.2 (m.next + 2) _ _ (by simp only [put_next]; omega) (by omega) (by decide) (put_same _ _ _)
    have hn1 : 0 < m1.next := by have := hk1.1; simp only [put_next] at this; omega
    have hB10 := Hid.mk hB1
    clear hB1 hk1 W I1
    repeat' (with_reducible first | refine x_ops ?_ | refine wk ?_ | ((first | refine gd1 ?_ ?_ | refine gd2 ?_ ?_ | refine gd3 ?_ ?_) <;> (first | exact @False.elim _ | intro hc)))
    refine x_loopW w_hand_Write_p8 (by kernel_rfl) g.fingers.length (fun j t m' => t 35 = vint (j : Int) ∧ BS m' 0 (wtx (l.take k) ++ gpx g j) ∧ 0 < m'.next ∧ ∀ f ∈ g.fingers.take j, okF f) ?_ ?_
    · exact ⟨vv, by rw [gpx, List.take_zero, List.flatMap_nil, List.append_nil]; exact hB10.out, hn1, fun f hf => by simp at hf⟩
    rintro j tj mj hj ⟨h35, hBj, hnj, hAj⟩
    have hBj0 := Hid.mk hBj
    have hAj0 := Hid.mk hAj
    clear hBj hAj
    by_cases hjl : j < g.fingers.length
    · have g2 := ints_at hjl
      have c5 : (j : Int) < (g.fingers.length : Int) := by omega
      have w3 := w_add1 (k := j) (by omega)
      have hgl := Hid.mk (gpx_len (j := j) hp0.out (by omega) hAj0.out)
      have hbf := Hid.mk fun (hb : ¬ okF (g.fingers.getD j 0)) => hbad.out fun h => hb (h.2.2 _ (mem_getD 0 hjl))
      have hof := Hid.mk fun (hb : okF (g.fingers.getD j 0)) => all_take_succ 0 hjl hAj0.out hb
      have hsg := Hid.mk (gpx_succ hjl)
      generalize g.fingers.getD j 0 = f at *
      have W := within_fn f 1 4
      by_cases hp : okF f
      case neg =>
        have e : (decide (1 ≤ f) && decide (f ≤ 4)) = false := by
          rw [Bool.and_eq_false_iff]
          by_cases h1 : 1 ≤ f
          · exact .inr (decide_eq_false fun h2 => hp ⟨h1, h2⟩)
          · exact .inl (decide_eq_false h1)
        rw [e] at W
        rw [hbf.out hp]
        clear hp
        repeat' (with_reducible first | refine x_ops ?_ | refine wk ?_ | (with_reducible refine xc (W) ?_) | ((first | refine gd1 ?_ ?_ | refine gd2 ?_ ?_ | refine gd3 ?_ ?_) <;> (first | exact @False.elim _ | intro hc)))
        exact finV_dry rfl vv
      have e : (decide (1 ≤ f) && decide (f ≤ 4)) = true := by rw [decide_eq_true hp.1, decide_eq_true hp.2]; rfl
      rw [e] at W
      have hit := Hid.mk (it_at (f := f) (by have := hp.1; omega) (by have := hp.2; omega))
      have I1 := itoa_fn (n := f) (by have := hp.1; omega) (by have := hp.2; omega)
      have A1 : vbinS .add ⟨#[32]⟩ ⟨(Lib.itoa f).toArray⟩ = some (.string ⟨(fgx f).toArray⟩) := vadd (a := [32]) (by have := hit.out.1; simp; omega)
      have hfl3 := Hid.mk (fgx_len hp)
      replace hof := Hid.mk (hof.out hp)
      clear hp
      repeat' (with_reducible first | refine x_ops ?_ | simp only [go_sem, Nat.reduceAdd, Nat.reduceEqDiff, Nat.reduceLT, Nat.reduceLeDiff, Nat.reduceMul, Nat.reduceSub, Nat.reducePow, Nat.reduceDiv, Nat.reduceMod, Nat.reduceBEq, Int.reduceBEq, Int.reduceLT, reduceIte, tIs, tBs, tPs, str, *] | (first | (with_reducible refine xc (W) ?_) | (with_reducible refine xc (I1) ?_)) | ((first | refine gd1 ?_ ?_ | refine gd2 ?_ ?_ | refine gd3 ?_ ?_) <;> (first | exact @False.elim _ | intro hc)))
      refine x_scallR [.ptr 0 0, str (fgx f)] vw (wr_sfn hBj0.out hnj (by simp [fgx]) (by have := hlen.out; have := hgl.out; have := hfl3.out; rw [List.length_append]; omega)) (WG.ex _ hnj (by simp [fgx]) _) ?_
      rintro r m2 ⟨rfl, hB2, hk2⟩
      have hn2 : 0 < m2.next := by have h : mj.next ≤ m2.next := hk2.1; omega
      clear hk2
      have hB20 := Hid.mk hB2
      clear hB2
      repeat' (with_reducible first | refine x_ops ?_ | refine wk ?_ | ((first | refine gd1 ?_ ?_ | refine gd2 ?_ ?_ | refine gd3 ?_ ?_) <;> (first | exact @False.elim _ | intro hc)))
      exact nx hjl ⟨vv, by rw [hsg.out, ← List.append_assoc]; exact hB20.out, hn2, hof.out⟩
    · have hje : j = g.fingers.length := by omega
      subst hje
      have c5 : ¬ (g.fingers.length : Int) < (g.fingers.length : Int) := by omega
      have hgl := Hid.mk (gpx_len (j := g.fingers.length) hp0.out (by omega) hAj0.out)
      have hokg : okW g := ⟨hp0.out, by omega, by have := hAj0.out; rwa [List.take_length] at this⟩
      replace hok := Hid.mk (hok.out hokg)
      clear hjl hj
      repeat' (with_reducible first | refine x_ops ?_ | refine wk ?_ | ((first | refine gd1 ?_ ?_ | refine gd2 ?_ ?_ | refine gd3 ?_ ?_) <;> (first | exact @False.elim _ | intro hc)))
      refine x_scallR [.ptr 0 0, .lit (.int .u8 10)] vw (wb_sfn (c := 10) hBj0.out hnj (by have := hlen.out; have := hgl.out; rw [List.length_append]; omega)) (WG.ex _ hnj (by simp) _) ?_
      rintro r m2 ⟨rfl, hB2, hk2⟩
      have hn2 : 0 < m2.next := by have h : mj.next ≤ m2.next := hk2.1; omega
      have hB20 := Hid.mk hB2
      clear hk2 hB2
      repeat' (with_reducible first | refine x_ops ?_ | refine wk ?_ | ((first | refine gd1 ?_ ?_ | refine gd2 ?_ ?_ | refine gd3 ?_ ?_) <;> (first | exact @False.elim _ | intro hc)))
      exact nx hlt ⟨vv, by rw [hsu.out, ← gpx_all, ← List.append_assoc]; exact hB20.out, hn2, hok.out⟩
  · have hke : k = l.length := by omega
    subst hke
    have c2 : ¬ (l.length : Int) < (l.length : Int) := by omega
    have e : wrR l = (wtx l, 0) := wrR_of (by omega) (by rwa [List.take_length] at hA)
    rw [e]
    rw [List.take_length] at hB
    have hl18 : (wtx l).length ≤ 18000 := by have := wtk_len (k := l.length) (by omega) hA; rwa [List.take_length] at this
    have hS : SFn Tryz.prog Gd 16 [.ptr 0 0] m (fun r _ => r = str (wtx l)) := read_sfn hB (fun e0 => hl0 (by cases l with
      | nil => rfl
      | cons g r => rw [wtx_cons] at e0; exact absurd (List.append_eq_nil_iff.1 e0).1 (gtx_ne g))) (by omega)
    clear hB hA hk hlt
    repeat' (with_reducible first | refine x_ops ?_ | refine wk ?_ | ((first | refine gd1 ?_ ?_ | refine gd2 ?_ ?_ | refine gd3 ?_ ?_) <;> (first | exact @False.elim _ | intro hc)))
    refine x_scallR [.ptr 0 0] vw hS ⟨_, m, rfl⟩ ?_
    rintro r m2 rfl
    repeat' (with_reducible first | refine x_ops ?_ | refine wk ?_ | ((first | refine gd1 ?_ ?_ | refine gd2 ?_ ?_ | refine gd3 ?_ ?_) <;> (first | exact @False.elim _ | intro hc)))
    exact finV_dry rfl vv
end Go.Proofs.YtgabmmdllcbkoaaGreatDoor
