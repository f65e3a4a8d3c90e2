/- The reference's Block, run; the law HandBlocks. slices.Repeat of one yes, in the model's own terms. slices.Repeat of one yes, on values: a box of its own. The law HandBlocked. -/
import Derived.Test.YtojjdkoglhecbaaG0
import Derived.Test.YtojjdkoglhecbaaWk
import Derived.Test.YtojjdkoglhecbaaZB03
import Derived.Test.YtojjdkoglhecbaaZB04
import Derived.Test.YtojjdkoglhecbaaXw
import Derived.Test.YtojjdkoglhecbaaZB06
import Derived.Test.YtojjdkoglhecbaaZB07
import Derived.Test.YtojjdkoglhecbaaZB08
import Derived.Test.YtojjdkoglhecbaaChecked
import Derived.Shelf.Bits.Mul64
import Derived.Laws.CopyOwn
import Derived.Deep.RegionLaw
import Derived.Deep.RegionHeld
import Derived.WalkKit
import Derived.OwnWalk
import Derived.Lib.Hide
import Derived.Deep.DeepMust
set_option linter.unusedSimpArgs false
set_option linter.unusedVariables false
namespace Go.Proofs.Ytojjdkoglhecbaa
open Go.RowKit

set_option maxHeartbeats 4000000 in
theorem rBlock_fn (h : Hand) (l : List Chord) (hl : Fits l) : Fn Try.prog Gd 61 [h.val, tCs l] (.tup [vint (blkR h l).1, vint (blkR h l).2.1, vint (blkR h l).2.2]) := by
  refine Fn.of_vx0 k_theorboref06_Block (by simp) (by rw [V.pures, pure_hand, V.pures, pure_tCs]; rfl) ?_
  have C1 := rTable_fn h l hl
  unfold tbR at C1
  unfold blkR c_theorboref06_Block Hand.val tCs
  unfold Hand.val tCs at C1
  by_cases hw : wvE h l = 0
  case neg =>
    have e1 : (wvE h l == 0) = false := by rw [beq_eq_false_iff_ne]; exact hw
    rw [if_neg hw] at C1 ⊢
    unfold tGss at C1
    clear hw
    dsimp only at C1 ⊢
    repeat' (with_reducible first | refine x_ops ?_ | refine wk ?_ | (with_reducible refine xc (C1) ?_) | ((first | refine gd1 ?_ ?_ | refine gd2 ?_ ?_ | refine gd3 ?_ ?_) <;> (first | exact @False.elim _ | intro hc)))
    exact finV_dry rfl vv
  have hn := wv_net hl hw
  rw [if_pos hw] at C1 ⊢
  generalize tabG h l = Gs at *
  have h4 := hn.len
  have gl := hn.gl
  have C2 := rhas_fn hn
  have C3 := fun f e (hfe : f < e) (he : e ≤ l.length) => rhas_fn (net_take (net_drop hn f) (e - f))
  have hsub := fun f e (hfe : f < e) (he : e ≤ l.length) => has_sub (h := h) (Gs := Gs) hfe he
  have cC := fun f e (hfe : f ≤ e) (he : e ≤ l.length) => cutCs l hfe he
  have cG := fun f e (hfe : f ≤ e) (he : e ≤ Gs.length) => cutGs Gs hfe he
  have cC0 := fun d (hd : d ≤ l.length) => (chs_cut l hd).1
  have cG0 := fun e (he : e ≤ Gs.length) => cutG0 Gs he
  have hblk := fun f t (hb : BlkAt h l Gs f t) => blkU_at hb
  have hall := fun (ha : AllC h l Gs) => blkU_no ha
  have hB : hasB h l Gs = true ↔ AllC h l Gs := by unfold hasB; simp
  unfold tGss at C1
  dsimp only at C1
  unfold Hand.val tCs tGss at C2 C3
  rw [gl] at C1 C2 cG cG0
  replace hn := Hid.mk hn
  replace hblk := Hid.mk hblk
  replace hsub := Hid.mk hsub
  replace cC := Hid.mk cC
  replace cG := Hid.mk cG
  replace cC0 := Hid.mk cC0
  replace cG0 := Hid.mk cG0
  replace C3 := Hid.mk C3
  clear hw
  by_cases ha : AllC h l Gs
  · rw [hall ha]
    rw [hB.2 ha] at C2
    clear ha hB hall
    repeat' (with_reducible first | refine x_ops ?_ | refine wk ?_ | (with_reducible refine xc (C1) ?_) | (with_reducible refine xc (C2) ?_) | ((first | refine gd1 ?_ ?_ | refine gd2 ?_ ?_ | refine gd3 ?_ ?_) <;> (first | exact @False.elim _ | intro hc)))
    exact finV_dry rfl vv
  have hbf : hasB h l Gs = false := by cases hx : hasB h l Gs; rfl; exact absurd (hB.1 hx) ha
  rw [hbf] at C2
  have hl0 : 0 < l.length := Nat.pos_of_ne_zero fun e => ha fun h0 => by omega
  have hnc : ¬ Conn h l Gs 0 (l.length - 1) := fun hc => ha fun _ => hc
  replace hnc := Hid.mk hnc
  clear ha hB hall hbf
  repeat' (with_reducible first | refine x_ops ?_ | refine wk ?_ | (with_reducible refine xc (C1) ?_) | (with_reducible refine xc (C2) ?_) | ((first | refine gd1 ?_ ?_ | refine gd2 ?_ ?_ | refine gd3 ?_ ?_) <;> (first | exact @False.elim _ | intro hc)))
  refine x_loopF w_theorboref06_Block_p4 kr l.length (fun k t => t 9 = vint (k : Int) ∧ k < l.length ∧ ∀ j, j < k → Conn h l Gs 0 j) ⟨vv, hl0, fun j hj => by omega⟩ ?_
  rintro k t hk ⟨h9, hkl, hpre⟩
  have w1 := w_add1 (k := k) (by omega)
  have d1 := cC0.out (k + 1) (by omega)
  have d2 := cG0.out (k + 1) (by omega)
  have C3k := C3.out 0 (k + 1) (by omega) (by omega)
  have hs := hsub.out 0 (k + 1) (by omega) (by omega)
  rw [List.drop_zero, List.drop_zero, Nat.sub_zero] at C3k hs
  rw [Nat.add_sub_cancel] at hs
  have i1 : ((k + 1 : Nat) : Int) ≤ (l.length : Int) := by omega
  replace hpre := Hid.mk hpre
  by_cases hc : Conn h l Gs 0 k
  · have hk1 : k + 1 < l.length := by
      by_cases e : k + 1 = l.length
      · exact absurd (by rw [show l.length - 1 = k by omega]; exact hc) hnc.out
      · omega
    rw [hs.1 hc] at C3k
    clear hs
    have hc0 := Hid.mk hc
    clear hc
    repeat' (with_reducible first | refine x_ops ?_ | refine wk ?_ | (with_reducible refine xc (C3k) ?_) | ((first | refine gd1 ?_ ?_ | refine gd2 ?_ ?_ | refine gd3 ?_ ?_) <;> (first | exact @False.elim _ | intro hc)))
    refine nf hkl ⟨vv, hk1, fun j hj => ?_⟩ rfl
    by_cases e : j = k
    · subst e; exact hc0.out
    · exact hpre.out j (by omega)
  rw [hs.2 hc] at C3k
  clear hs
  have hc0 := Hid.mk hc
  clear hc
  repeat' (with_reducible first | refine x_ops ?_ | refine wk ?_ | (with_reducible refine xc (C3k) ?_) | ((first | refine gd1 ?_ ?_ | refine gd2 ?_ ?_ | refine gd3 ?_ ?_) <;> (first | exact @False.elim _ | intro hc)))
  clear C3k d1 d2 w1 i1
  refine x_loopF w_theorboref06_Block_p7 kr k (fun x t => ∃ f, f + x = k ∧ t 10 = vint (f : Int) ∧ ∀ y, f < y → y ≤ k → Conn h l Gs y k) ⟨k, rfl, vv, fun y h1 h2 => by omega⟩ ?_
  rintro x t2 hx ⟨f, hfx, h10, htl⟩
  have hfk : f ≤ k := by omega
  have w1 := w_add1 (k := k) (by omega)
  have d1 := cC.out f (k + 1) (by omega) (by omega)
  have d2 := cG.out f (k + 1) (by omega) (by omega)
  have C3k := C3.out f (k + 1) (by omega) (by omega)
  have hs := hsub.out f (k + 1) (by omega) (by omega)
  rw [Nat.add_sub_cancel] at hs
  replace htl := Hid.mk htl
  by_cases hc : Conn h l Gs f k
  · have hf0 : f ≠ 0 := fun e => by subst e; exact hc0.out hc
    obtain ⟨f', rfl⟩ : ∃ f', f = f' + 1 := ⟨f - 1, by omega⟩
    have w2 : IntKind.i64.wrap (((f' + 1 : Nat) : Int) - 1) = (f' : Int) := by rw [w_in (by omega)]; omega
    rw [hs.1 hc] at C3k
    clear hs
    have hcc := Hid.mk hc
    clear hc
    repeat' (with_reducible first | refine x_ops ?_ | refine wk ?_ | (with_reducible refine xc (C3k) ?_) | ((first | refine gd1 ?_ ?_ | refine gd2 ?_ ?_ | refine gd3 ?_ ?_) <;> (first | exact @False.elim _ | intro hc)))
    refine nf (by omega) ⟨f', by omega, vv, fun y h1 h2 => ?_⟩ rfl
    by_cases e : y = f' + 1
    · subst e; exact hcc.out
    · exact htl.out y (by omega) h2
  rw [hs.2 hc] at C3k
  clear hs
  rw [hblk.out f k ⟨hkl, hfk, hc, hpre.out, htl.out⟩]
  clear hc
  repeat' (with_reducible first | refine x_ops ?_ | refine wk ?_ | (with_reducible refine xc (C3k) ?_) | ((first | refine gd1 ?_ ?_ | refine gd2 ?_ ?_ | refine gd3 ?_ ?_) <;> (first | exact @False.elim _ | intro hc)))
  exact finV_dry rfl vv

set_option maxHeartbeats 2000000 in
theorem handblocks_fn (h : Hand) (l : List Chord) (hl : Fits l) (RP : RepB) : Fn Try.prog Gd 18 [srV h l] (vbool true) := by
  refine Fn.of_vx0 k_theorbolaw06_HandBlocks (by simp) (by rw [V.pures, pure_sr]; rfl) ?_
  have C0 := heavy_fn h l hl
  have C1 := Block_fn h l hl RP
  have C2 := rBlock_fn h l hl
  have C5 := works_fn
  generalize blkR h l = r at *
  obtain ⟨x, y, z⟩ := r
  dsimp only at C1 C2
  unfold Hand.val tCs at C0 C1 C2
  unfold c_theorbolaw06_HandBlocks srV tCs
  generalize hvB h l = hv at *
  have k1 : (x == x) = true := by simp
  have k2 : (y == y) = true := by simp
  have k3 : (z == z) = true := by simp
  cases hv
  · repeat' (with_reducible first | refine x_ops ?_ | refine wk ?_ | (with_reducible refine xc (C0) ?_) | (with_reducible refine xc (C1) ?_) | (with_reducible refine xc (C2) ?_) | (with_reducible refine xc (C5) ?_) | ((first | refine gd1 ?_ ?_ | refine gd2 ?_ ?_ | refine gd3 ?_ ?_) <;> (first | exact @False.elim _ | intro hc)))
    all_goals exact finV_dry rfl vv
  · clear C1 C2
    repeat' (with_reducible first | refine x_ops ?_ | refine wk ?_ | (with_reducible refine xc (C0) ?_) | (with_reducible refine xc (C5) ?_) | ((first | refine gd1 ?_ ?_ | refine gd2 ?_ ?_ | refine gd3 ?_ ?_) <;> (first | exact @False.elim _ | intro hc)))
    all_goals exact finV_dry rfl vv
end Go.Proofs.Ytojjdkoglhecbaa
namespace Go.Proofs.Ytojjdkoglhecbaa
open Go.Shelf Go.RowKit

def l212_ren : Go.Shelf.Ren := ⟨fun | 212 => 137 | 263 => 139 | 264 => 140 | n => n, fun | 46 => 188 | 51 => 191 | 53 => 194 | 146 => 192 | 148 => 195 | n => n, fun | n => n⟩
theorem l212 : Go.Proofs.Lays.n212 Try.prog l212_ren := {
  mixed := by kernel_rfl
  f212 := Try.func137.trans (congrArg some (by kernel_rfl))
  f263 := Try.func139.trans (congrArg some (by kernel_rfl))
  f264 := Try.func140.trans (congrArg some (by kernel_rfl))
  t46 := Try.underlying188
  a46 := Try.isAgg188
  z46 := Try.sizeOf188
  v46 := Try.zeroValue188
  t51 := Try.underlying191
  a51 := Try.isAgg191
  z51 := Try.sizeOf191
  v51 := Try.zeroValue191
  t53 := Try.underlying194
  a53 := Try.isAgg194
  z53 := Try.sizeOf194
  v53 := Try.zeroValue194
  t146 := Try.underlying192
  a146 := Try.isAgg192
  z146 := Try.sizeOf192
  v146 := Try.zeroValue192
  t148 := Try.underlying195
  a148 := Try.isAgg195
  z148 := Try.sizeOf195
  v148 := Try.zeroValue195 }
theorem mul1 (n : Nat) (hn : n ≤ 200) (w : World) : Calls Try.prog 137 #[.int .u64 1, .int .u64 (n : Int)] w fun e w' => e = .returned (.tuple #[.int .u64 0, .int .u64 (n : Int)]) ∧ w' = w := by
  refine (Any.bits_Mul l212 1 n (by decide) (by omega) w).mono ?_
  rintro e w' ⟨rfl, rfl⟩
  refine ⟨?_, rfl⟩
  rw [show (1 * n / 18446744073709551616 : Nat) = 0 by omega, show (1 * n % 18446744073709551616 : Nat) = n by omega]
  rfl

set_option maxRecDepth 100000 in
set_option maxHeartbeats 2000000 in
theorem repeat_any (b o cap n : Nat) (w : World) (hc : w.cell? ⟨b, o, none⟩ = some (.bool true)) (hn : n ≤ 200) :
    Calls Try.prog 127 #[.slice (some ⟨b, o, none⟩) 1 cap, .int .i64 (n : Int)] w fun e w' => e = .returned (.slice (some ⟨w.heap.size, 0, none⟩) n n) ∧ Below w.heap.size w w' ∧
      w'.heap[w.heap.size]? = some (.cells (List.replicate n (Value.bool true)).toArray 4 (0, 0)) := by
  have MU := fun w => mul1 n hn w
  have c1 : IntKind.u64.wrap (n : Int) = (n : Int) := by rw [IntKind.wrap_u64]; omega
  have c2 : IntKind.i64.wrap (n : Int) = (n : Int) := IntWalk.i64_in _ (by omega)
  have c3 : ¬ (n : Int) < 0 := by omega
  have c4 : ¬ (n : Int) > 9223372036854775807 := by omega
  obtain ⟨ti, hi, hz, hs1, hby⟩ := info_parts (P := Try.prog) (e := 4) (z := .bool false) (size := 1) (bytes := 1) (by kernel_rfl)
  have hmd : madeCells (Value.bool false).cells (n * 1) = (List.replicate n (Value.bool false)).toArray := by
    apply Array.ext'
    apply List.ext_getElem?
    intro q
    simp [madeCells, Value.cells, List.getElem?_replicate, Nat.mod_one]
    by_cases hq : q < n
    · simp [hq]
    · simp [hq]
  obtain ⟨Z, hZ⟩ : ∃ Z, Z = List.replicate n (Value.bool false) := ⟨_, rfl⟩
  obtain ⟨Y, hY⟩ : ∃ Y, Y = List.replicate (Nat.min 1 n) (Value.bool true) := ⟨_, rfl⟩
  have hYl : Y.length = Nat.min 1 n := by rw [hY]; simp
  replace hYl := Lib.hid hYl
  have hYv : ∀ v ∈ Y, v = .bool true := fun v hv => by rw [hY] at hv; exact (List.mem_replicate.1 hv).2
  replace hY := Lib.hid hY
  replace hYv := Lib.hid hYv
  have hmk : ∀ w, (Instr.makeSlice 23 (.int .i64 (n : Int)) (.int .i64 (n : Int))).run Try.prog w = .ok (.slice (some ⟨w.heap.size, 0, none⟩) n n) (w.alloc (.cells Z.toArray 4)) := fun w => by
    rw [run_make w 23 4 ti (.bool false) Try.underlying23 hi hz .i64 .i64 n n (by omega) (by omega) (by rw [hby]; omega) (by omega), Int.toNat_natCast, hs1, hmd, hZ]
  have hsz : ((Try.prog).info? 4).map (·.size) = some 1 := by kernel_rfl
  have hZl : Z.length = n := by rw [hZ]; simp
  replace hZ := Lib.hid hZ
  replace hZl := Lib.hid hZl
  clear hmd hi hz hs1 hby
  have halo : ∀ (w : World) (o : Obj), (w.alloc o).heap[w.heap.size]? = some o := fun w o => by
    show (w.heap.push o)[w.heap.size]? = _
    rw [Array.getElem?_push, if_pos rfl]
  have hY0 : ∀ W : World, W.cell? ⟨b, o, none⟩ = some (.bool true) → ∀ (j : Nat) (v : Value), Y[j]? = some v → W.cell? ((⟨b, o, none⟩ : Addr).add j) = some v := fun W hW j v hj => by
    have hj1 : j < Y.length := (List.getElem?_eq_some_iff.1 hj).1
    have hm : Y.length ≤ 1 := by rw [hYl.out]; exact (Nat.min_le_left 1 n : Nat.min 1 n ≤ 1)
    have h0 : j = 0 := by omega
    subst h0
    rw [hYv.out v (List.mem_of_getElem? hj)]
    simpa [Addr.add] using hW
  have hone : ∀ v ∈ Y, v.oneCell' = true := fun v hv => by rw [hYv.out v hv]; rfl
  have hfit : 0 + Y.length ≤ Z.length := by rw [hYl.out, hZl.out]; have : Nat.min 1 n ≤ n := Nat.min_le_right 1 n; omega
  have hsp : Go.splice Z 0 Y = List.replicate (Nat.min 1 n) (Value.bool true) ++ List.replicate (n - Nat.min 1 n) (Value.bool false) := by
    rw [Go.splice, hY.out, hZ.out]; simp
  obtain ⟨q, hq, hq0, hq1⟩ : ∃ q, Nat.min 1 n = q ∧ (n = 0 → q = 0) ∧ (n ≠ 0 → q = 1) := ⟨_, rfl, fun h => by rw [h]; rfl, fun h => Nat.min_eq_left (by omega)⟩
  have hYq : Y.length = q := hYl.out.trans hq
  rw [hq] at hsp
  replace hYq := Lib.hid hYq
  replace hq := Lib.hid hq
  replace hq0 := Lib.hid hq0
  replace hq1 := Lib.hid hq1
  replace hY0 := Lib.hid hY0
  replace hone := Lib.hid hone
  replace hfit := Lib.hid hfit
  replace hsp := Lib.hid hsp
  replace halo := Lib.hid halo
  go_enter Try.func127, Try.ntmps127
  go_wp2_with (first
    | (go_at_call 137; refine (MU _).mono ?_; rintro e1 w1 ⟨rfl, rfl⟩)
    | (refine wpList_copy_splice rfl (.tmp 31) (.tmp 32) 23 23 rfl 4 Try.underlying23 hsz (some ⟨w1.heap.size, 0, none⟩) (some ⟨b, o, none⟩) n n 1 cap (by rfl) (by rfl) w1.heap.size 0 Z 4 (halo.out _ _) Y hYl.out ?hpos hfit.out hone.out w1.heap.size w1 ?hb (Nat.le_refl _) ?_
       case hpos =>
         intro _
         have h1 : (w1.alloc (Obj.cells Z.toArray 4)).cell? ⟨b, o, none⟩ = some (.bool true) := (World.cell?_alloc_some w1 ⟨b, o, none⟩ _ (by rw [hc]; rfl)).trans hc
         exact ⟨rfl, ⟨b, o, none⟩, rfl, hY0.out _ h1⟩
       case hb => exact (Below.refl _ _).alloc (Nat.le_refl _) _
       intro w2 hg2 hb2; rw [hYq.out]; replace hb2 := Lib.hid hb2))
  go_loopw [8] (fun i wr => ∃ k : Nat, k ≤ n ∧ (0 < n → 0 < k) ∧ i = .int .i64 (k : Int) ∧ Below w1.heap.size w1 wr ∧ RowKit.Hid (wr.heap[w1.heap.size]? = some (.cells (List.replicate k (Value.bool true) ++ List.replicate (n - k) (Value.bool false)).toArray 4 (0, 0)))) (fun i _ => n - (intOf i).toNat)
  case atStart =>
    refine ⟨q, ?_, fun h0 => ?_, rfl, hb2.out, ?_⟩
    · rcases Nat.eq_zero_or_pos n with h | h
      · rw [hq0.out h]; exact Nat.zero_le _
      · rw [hq1.out (by omega)]; omega
    · rw [hq1.out (by omega)]; omega
    · have := hg2.out
      rw [hsp.out] at this
      exact this
  case round =>
    obtain ⟨k, hkn, hk0, rfl, hb, hg⟩ := hrel
    replace hb := Lib.hid hb
    clear hq hq0 hq1 hsp hg2 hb2 hYq hYl hY hYv hY0 hone hfit hZ hZl halo
    by_cases hk : k = n
    · subst hk
      go_wp2_with fail
      go_ret
      refine ⟨rfl, hb.out, ?_⟩
      have := hg.out
      rw [Nat.sub_self, List.replicate_zero, List.append_nil] at this
      exact this
    · obtain ⟨m, hm, hm0, hmk2, hmn⟩ : ∃ m, Nat.min k (n - k) = m ∧ 0 < m ∧ m ≤ k ∧ k + m ≤ n := ⟨_, rfl, by have := hk0 (by omega); show 0 < min k (n - k); omega, by show min k (n - k) ≤ k; omega, by show k + min k (n - k) ≤ n; omega⟩
      have x1 : IntKind.i64.wrap ((k : Int) + (m : Int)) = ((k + m : Nat) : Int) := by rw [IntWalk.i64_in _ (by omega)]; omega
      replace hm := Lib.hid hm
      have x2 : k ≤ n := hkn
      clear hmk
      have y0 : ∀ W : World, RowKit.Hid (W.heap[w1.heap.size]? = some (.cells (List.replicate k (Value.bool true) ++ List.replicate (n - k) (Value.bool false)).toArray 4 (0, 0))) → ∀ (j : Nat) (v : Value), (List.replicate m (Value.bool true))[j]? = some v → W.cell? ((⟨w1.heap.size, 0, none⟩ : Addr).add j) = some v := fun W hW j v hj => by
        have hj1 : j < m := by simpa using (List.getElem?_eq_some_iff.1 hj).1
        have hv : v = .bool true := by rw [List.getElem?_replicate, if_pos hj1] at hj; exact (Option.some.inj hj).symm
        subst hv
        have e : (⟨w1.heap.size, 0, none⟩ : Addr).add j = ⟨w1.heap.size, 0 + j, none⟩ := by unfold Addr.add; split <;> simp_all
        rw [e, Nat.zero_add]
        have := hW.out
        have hkj : j < k := by omega
        simp [World.cell?, this, List.getElem?_append_left, List.getElem?_replicate, hkj]
      have y1 : k + (List.replicate m (Value.bool true)).length ≤ (List.replicate k (Value.bool true) ++ List.replicate (n - k) (Value.bool false)).length := by simp; omega
      have y2 : ∀ v ∈ List.replicate m (Value.bool true), v.oneCell' = true := fun v hv => by rw [(List.mem_replicate.1 hv).2]; rfl
      have y3 : (List.replicate m (Value.bool true)).length = Nat.min k (n - k) := by rw [List.length_replicate, hm.out]
      replace y0 := Lib.hid y0
      replace y1 := Lib.hid y1
      replace y2 := Lib.hid y2
      replace y3 := Lib.hid y3
      have hk2 : ¬ n = k := fun e => hk e.symm
      have hlm : (List.replicate m (Value.bool true)).length = m := List.length_replicate
      go_wp2_with fail
      go_region_law (refine step_copy_splice rfl (.tmp 41) (.tmp 44) 23 23 rfl 4 Try.underlying23 hsz (some ⟨w1.heap.size, k, none⟩) (some ⟨w1.heap.size, 0, none⟩) (n - k) (n - k) k n (by simp [Act.eval, Act.put, hk2]) (by simp [Act.eval, Act.put]) w1.heap.size k _ 4 hg.out (List.replicate m (Value.bool true)) y3.out (fun _ => ⟨rfl, _, rfl, y0.out _ hg⟩) y1.out y2.out w1.heap.size w1 hb.out.drew (Nat.le_refl _) ?_; intro w4 hg4 hb4; rw [hlm]; replace hb4 := Lib.hid hb4)
      have e1 : Go.splice (List.replicate k (Value.bool true) ++ List.replicate (n - k) (Value.bool false)) k (List.replicate m (Value.bool true)) = List.replicate (k + m) (Value.bool true) ++ List.replicate (n - (k + m)) (Value.bool false) := by
        rw [Go.splice, hlm, List.take_left' (by simp), List.drop_append, List.length_replicate, List.drop_of_length_le (by simp), List.nil_append, List.drop_replicate, ← List.append_assoc, List.replicate_append_replicate]
        congr 2
        omega
      rw [e1] at hg4
      go_wp2_with fail
      refine ⟨?_, ?mm⟩
      · refine ⟨_, _, _, _, _, _, _, _, _, _, _, _, _, _, ?rel, rfl⟩
        exact ⟨k + m, by omega, fun _ => by omega, by rw [Int.natCast_add], hb4.out, hg4⟩
      · have e9 : ∀ x : Nat, k < x → x ≤ n → n - (intOf (Value.int .i64 (x : Int))).toNat < n - (intOf (Value.int .i64 (k : Int))).toNat := fun x h1 h2 => by simp [intOf]; omega
        have e10 := e9 (k + m) (by omega) (by omega)
        rw [Int.natCast_add] at e10
        exact e10
end Go.Proofs.Ytojjdkoglhecbaa
namespace Go.Proofs.Ytojjdkoglhecbaa
open Go.RowKit

/-- A contract of the machine's own that gives a new block of cells. -/
theorem BFn.of_calls {P : Program} {G : Ground} {f : FuncId} {args : List V} {n : Nat} {xs : List V} {t : TypeId} (hcl : V.clean xs = true)
    (h : ∀ (E : Env) (w : World) (cargs : Array Value), (∀ b o v, E.M b o = some v → w.cell? ⟨b, o, none⟩ = some v) → VRs E args cargs.toList →
      Calls P f cargs w fun e w' => e = .returned (.slice (some ⟨w.heap.size, 0, none⟩) n n) ∧ Below w.heap.size w w' ∧ ∃ c : Array Value, w'.heap[w.heap.size]? = some (.cells c t (0, 0)) ∧ ∀ E' : Env, VRs E' xs (c.toList.take xs.length)) : BFn P G f args n xs t := by
  intro m E w cargs hG hm hv
  refine (h E w cargs hm.stable hv).mono ?_
  rintro e w' ⟨rfl, hb, c, hc, hx⟩
  have hg : MemR E m w' := hm.grow fun b hlt => hb.block b hlt
  have hs : Step NoX E m w E m w' := ⟨.refl E, Nat.le_refl _, fun _ _ _ => rfl, fun _ _ _ hn => ⟨fun _ => rfl, hn⟩, hb.os, hb.tape, hb.output, hb.size, fun b hlt _ => hb.block b hlt, fun i b hi _ => ⟨i, hi⟩, fun _ _ _ h => .inl h⟩
  by_cases h0 : n = 0
  · subst h0
    exact ⟨_, .sl 0 [] .exact, m, E, rfl, ⟨fun _ _ => rfl, .inl ⟨rfl, rfl⟩⟩, hs, hg, ⟨_, _, rfl, Nat.le_refl _, rfl, rfl, .inl rfl⟩⟩
  have hf := hm.fresh m.next (Nat.le_refl _)
  have hs1 : Step NoX E ⟨m.obj, m.next + 1⟩ w E ⟨m.obj, m.next + 1⟩ w' := { hs with next := Nat.le_refl _, oldφ := fun _ _ _ => rfl, oldloc := fun _ _ _ hn => ⟨fun _ => rfl, hn⟩ }
  obtain ⟨E', k1, k2, k3⟩ := MemR.oldBox (i := m.next) hs1 rfl (hg.skip 1) (by show m.next < m.next + 1; omega) hf.1 hf.1 hf.2.2 hf.2.1 (hx E) t (Nat.le_refl _) hc hm.M_new (fun j hj => absurd (hm.blk_lt hj) (Nat.lt_irrefl _))
  refine ⟨_, .bsl m.next 0 n n, (⟨m.obj, m.next + 1⟩ : Mm).put m.next (.box xs t), E', rfl, ⟨fun q hq => put_other _ _ (by omega), .inr ⟨h0, hcl, m.next, Nat.le_refl _, rfl, put_same _ _ _⟩⟩, ?_, k2, ⟨_, k3, n, rfl, Nat.le_refl _, Nat.le_refl _⟩⟩
  refine { k1 with next := ?_, oldφ := fun i hi _ => k1.oldφ i (by show i < m.next + 1; omega) (by omega), oldloc := fun i hi _ => k1.oldloc i (by show i < m.next + 1; omega) (by omega) }
  show m.next ≤ m.next + 1
  omega

theorem pures_rep (v : V) (hv : v.pure = true) : ∀ n, V.pures (List.replicate n v) = true
  | 0 => rfl
  | n + 1 => by rw [List.replicate_succ, V.pures, hv, pures_rep v hv n]; rfl
theorem vrs_rep (E : Env) : ∀ n, VRs E (List.replicate n (vbool true)) (List.replicate n (Value.bool true))
  | 0 => rfl
  | n + 1 => ⟨_, _, List.replicate_succ, ⟨rfl, rfl⟩, vrs_rep E n⟩
theorem repB : RepB := by
  intro n hn
  refine BFn.of_calls ?_ ?_
  · rw [clean_iff]
    exact ⟨pures_rep _ rfl n, fun v hv => by rw [(List.mem_replicate.1 hv).2]; rfl⟩
  intro E w cargs hst hv
  obtain ⟨c1, l1, e1, h1, c2, l2, rfl, h2, rfl⟩ := hv
  obtain ⟨A, cap, rfl, hcap, _, _, hx⟩ := h1
  obtain ⟨rfl, _⟩ := h2
  obtain ⟨b, o, rfl, ha⟩ := hx.resolve_left (by simp)
  obtain ⟨⟨c, hM, hc⟩, _⟩ := ha
  obtain ⟨rfl, _⟩ := hc
  have hcell := hst b o _ hM
  obtain rfl : cargs = #[.slice (some ⟨b, o, none⟩) 1 cap, .int .i64 (n : Int)] := by cases cargs; simp_all
  refine (repeat_any b o cap n w hcell hn).mono ?_
  rintro e w' ⟨rfl, hb, hh⟩
  refine ⟨rfl, hb, _, hh, fun E' => ?_⟩
  rw [List.take_of_length_le (by simp)]
  exact vrs_rep E' n
end Go.Proofs.Ytojjdkoglhecbaa
namespace Go.Proofs.Ytojjdkoglhecbaa
open Go.RowKit

theorem wv_not3 (h : Hand) (l : List Chord) : ¬ wvE h l = 3 := by
  have h1 : chkE h = 0 ∨ chkE h = 60 := by unfold chkE; split <;> simp
  have h2 : seqE l = 0 ∨ seqE l = 1 ∨ seqE l = 2 := by
    unfold seqE
    repeat' split
    all_goals simp
  rw [wvE]
  unfold bothE
  intro hw
  repeat' split at hw
  all_goals first | omega | (rcases h2 with h2 | h2 | h2 <;> omega)
/-- Best of the chords f .. e - 1. -/
theorem bst_sub {h : Hand} {l : List Chord} (hl : Fits l) (hw : wvE h l = 0) {f e : Nat} (hf : f ≤ e) (he : e ≤ l.length) :
    (f < e → ¬ Conn h l (tabG h l) f (e - 1) → (bstR h ((l.drop f).take (e - f))).2.2 = 62) ∧ ((f < e → Conn h l (tabG h l) f (e - 1)) → (bstR h ((l.drop f).take (e - f))).2.2 = 0) := by
  have hls : ((l.drop f).take (e - f)).length = e - f := by rw [List.length_take, List.length_drop]; omega
  have hws := wv_take (wv_drop hw f) (e - f)
  have hns := wv_net (fits_take (fits_drop hl f) (e - f)) hws
  have hcn : f < e → (Conn h ((l.drop f).take (e - f)) (tabG h ((l.drop f).take (e - f))) 0 (e - f - 1) ↔ Conn h l (tabG h l) f (e - 1)) := fun h0 => by
    rw [tab_take, tab_drop, conn_take (by omega), conn_drop, show 0 + f = f by omega, show e - f - 1 + f = e - 1 by omega]
  have hhas : f < e → (HasF h ((l.drop f).take (e - f)) (tabG h ((l.drop f).take (e - f))) ↔ Conn h l (tabG h l) f (e - 1)) := fun h0 => by
    rw [has_conn hns (by omega), hls, hcn h0]
  constructor
  · intro h0 hc
    rw [bst_no hws (by omega) (fun hh => hc ((hhas h0).1 hh))]
  · intro hc
    exact (bst_yes hws (fun h0 => (hhas (by omega)).2 (hc (by omega)))).1

set_option maxHeartbeats 4000000 in
theorem handblocked_fn (h : Hand) (l : List Chord) (hl : Fits l) (RP : RepB) : Fn Try.prog Gd 19 [srV h l] (vbool true) := by
  refine Fn.of_vx0 k_theorbolaw06_HandBlocked (by simp) (by rw [V.pures, pure_sr]; rfl) ?_
  have C0 := heavy_fn h l hl
  have C1 := Block_fn h l hl RP
  have C2 := Best_fn h l hl
  have C3 := fun f e => Best_fn h ((l.drop f).take (e - f)) (fits_take (fits_drop hl f) (e - f))
  have C5 := works_fn
  have hl0 := hl.1
  unfold Hand.val tCs at C0 C1 C2 C3
  unfold fstV tGs at C2 C3
  unfold c_theorbolaw06_HandBlocked srV tCs
  generalize hvB h l = hv at *
  cases hv
  case true =>
    clear C1 C2 C3
    repeat' (with_reducible first | refine x_ops ?_ | refine wk ?_ | (with_reducible refine xc (C0) ?_) | (with_reducible refine xc (C5) ?_) | ((first | refine gd1 ?_ ?_ | refine gd2 ?_ ?_ | refine gd3 ?_ ?_) <;> (first | exact @False.elim _ | intro hc)))
    all_goals exact finV_dry rfl vv
  have h3 := wv_not3 h l
  by_cases hw : wvE h l = 0
  case neg =>
    have e1 : (wvE h l == 0) = false := by rw [beq_eq_false_iff_ne]; exact hw
    have e2 : (wvE h l == 3) = false := by rw [beq_eq_false_iff_ne]; exact h3
    rw [blkR, if_neg hw] at C1
    dsimp only at C1
    clear C2 C3 hw h3
    repeat' (with_reducible first | refine x_ops ?_ | refine wk ?_ | (with_reducible refine xc (C0) ?_) | (with_reducible refine xc (C1) ?_) | (with_reducible refine xc (C5) ?_) | ((first | refine gd1 ?_ ?_ | refine gd2 ?_ ?_ | refine gd3 ?_ ?_) <;> (first | exact @False.elim _ | intro hc)))
    all_goals exact finV_dry rfl vv
  rw [blkR, if_pos hw] at C1
  have hn := wv_net hl hw
  by_cases ha : AllC h l (tabG h l)
  · rw [blkU_no ha] at C1
    have hb := (bst_yes hw (fun h0 => (has_conn hn h0).2 (ha h0))).1
    generalize bstR h l = r2 at *
    obtain ⟨G2, x2, f2⟩ := r2
    dsimp only at hb C1 C2
    subst hb
    clear C3 hw h3 ha hn
    repeat' (with_reducible first | refine x_ops ?_ | refine wk ?_ | (with_reducible refine xc (C0) ?_) | (with_reducible refine xc (C1) ?_) | (with_reducible refine xc (C2) ?_) | (with_reducible refine xc (C5) ?_) | ((first | refine gd1 ?_ ?_ | refine gd2 ?_ ?_ | refine gd3 ?_ ?_) <;> (first | exact @False.elim _ | intro hc)))
    all_goals exact finV_dry rfl vv
  obtain ⟨⟨f, t⟩, hb⟩ := blk_not ha
  dsimp only at hb
  rw [blkU_at hb] at C1
  dsimp only at C1
  have ht := hb.lt
  have hft := hb.le
  have s1 := (bst_sub hl hw (f := f) (e := t + 1) (by omega) (by omega)).1 (by omega) (by rw [Nat.add_sub_cancel]; exact hb.no)
  have s2 := (bst_sub hl hw (f := f + 1) (e := t + 1) (by omega) (by omega)).2 (fun h0 => by rw [Nat.add_sub_cancel]; exact hb.tl (f + 1) (by omega) (by omega))
  have s3 := (bst_sub hl hw (f := f) (e := t) (by omega) (by omega)).2 (fun h0 => conn_mono (hb.hd (t - 1) (by omega)) (by omega) (Nat.le_refl _))
  have D1 := C3 f (t + 1)
  have D2 := C3 (f + 1) (t + 1)
  have D3 := C3 f t
  have v1 := cutCs l (f := f) (e := t + 1) (by omega) (by omega)
  have v2 := cutCs l (f := f + 1) (e := t + 1) (by omega) (by omega)
  have v3 := cutCs l (f := f) (e := t) (by omega) (by omega)
  generalize (l.drop f).take (t + 1 - f) = l1 at *
  generalize (l.drop (f + 1)).take (t + 1 - (f + 1)) = l2 at *
  generalize (l.drop f).take (t - f) = l3 at *
  generalize bstR h l1 = r1 at *
  generalize bstR h l2 = r2 at *
  generalize bstR h l3 = r3 at *
  obtain ⟨G1, x1, f1⟩ := r1
  obtain ⟨G2, x2, f2⟩ := r2
  obtain ⟨G3, x3, f3⟩ := r3
  dsimp only at s1 s2 s3 D1 D2 D3
  subst s1
  subst s2
  subst s3
  have w1 := w_add1 (k := f) (by omega)
  have w2 := w_add1 (k := t) (by omega)
  have c1 : ¬ (f : Int) < 0 := by omega
  have c2 : ¬ (t : Int) < (f : Int) := by omega
  have c3 : ¬ (l.length : Int) ≤ (t : Int) := by omega
  clear C2 C3 hw h3 ha hn hb
  repeat' (with_reducible first | refine x_ops ?_ | refine wk ?_ | (with_reducible refine xc (C0) ?_) | (with_reducible refine xc (C1) ?_) | (with_reducible refine xc (D1) ?_) | (with_reducible refine xc (D2) ?_) | (with_reducible refine xc (D3) ?_) | (with_reducible refine xc (C5) ?_) | ((first | refine gd1 ?_ ?_ | refine gd2 ?_ ?_ | refine gd3 ?_ ?_) <;> (first | exact @False.elim _ | intro hc)))
  all_goals exact finV_dry rfl vv
end Go.Proofs.Ytojjdkoglhecbaa
