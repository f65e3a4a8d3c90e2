/- Walk of the reference: Parse. -/
import Derived.Test.YtbdhjpdjbogggaaDoorR13
import Derived.Test.YtbdhjpdjbogggaaDoorW10
namespace Go.Proofs.YtbdhjpdjbogggaaDoor
open Go.RowKit

set_option maxRecDepth 100000 in
set_option maxHeartbeats 16000000 in
theorem rparse_any (s : ByteArray) (w : World) (hs : s.size ≤ 4096) :
    Calls Tryd.prog 33 #[.string s] w (InsRet w (psC s.data.toList) (psS s.data.toList) (psE s.data.toList)) := by
  obtain ⟨i0, hi0, hz0, hz1, hz2⟩ := info_parts info_crs
  obtain ⟨i1, hi1, hy0, hy1, hy2⟩ := info_parts info_int
  have HII := Lib.hid hi1
  have HI0 := Lib.hid hi0
  clear hi0 hi1
  have hwd : ∀ W, Calls Tryd.prog 74 #[.string s] W (WordsRet W (splitC 32 s.data.toList)) := fun W => rwords_any s W (by omega)
  have HWD := Lib.hid hwd
  obtain ⟨wl, hwl⟩ : ∃ wl, wl = splitC 32 s.data.toList := ⟨_, rfl⟩
  obtain ⟨J, hJ⟩ : ∃ J, J = ixOf [58] wl := ⟨_, rfl⟩
  have hpart : ∀ x ∈ wl, x.length ≤ 4096 := fun x hx => by
    have h := splitC_part 32 s.data.toList x (by rw [← hwl]; exact hx)
    rw [sz_of] at h
    omega
  have hlen5 : wl.length ≤ 5000 := by
    have := splitC_len 32 s.data.toList
    rw [← hwl, sz_of] at this
    omega
  have hnn : wl ≠ [] := by rw [hwl]; exact splitC_ne _ _
  obtain ⟨er, hE⟩ : ∃ er, er = psE s.data.toList := ⟨_, rfl⟩
  obtain ⟨fc, hFC⟩ : ∃ fc, fc = psC s.data.toList := ⟨_, rfl⟩
  obtain ⟨fs, hFS⟩ : ∃ fs, fs = psS s.data.toList := ⟨_, rfl⟩
  rw [← hE, ← hFC, ← hFS]
  have hE2 : er = if J = wl.length then 4 else if cErr (wl.take J) ≠ 0 then cErr (wl.take J) else if (wl.drop (J + 1)).all numOk = false then 4 else chk (cVal (wl.take J)) (nVal (wl.drop (J + 1))) := by
    rw [hE, psE, wsE, hJ, hwl]
  have hFC2 : fc = if er = 0 then cVal (wl.take J) else [] := by rw [hFC, psC, ← hE, hJ, hwl]
  have hFS2 : fs = if er = 0 then nVal (wl.drop (J + 1)) else [] := by rw [hFS, psS, ← hE, hJ, hwl]
  have HWL := Lib.hid hwl
  have HJ := Lib.hid hJ
  have HE := Lib.hid hE2
  have HFC := Lib.hid hFC2
  have HFS := Lib.hid hFS2
  have HPART := Lib.hid hpart
  have HNN := Lib.hid hnn
  have hJle : J ≤ wl.length := by rw [hJ]; exact ixOf_le _ _
  clear hwd hwl hJ hpart hnn hE hE2 hFC hFC2 hFS hFS2
  go_enter Tryd.func33, Tryd.ntmps33
  go_wp2_with fail
  refine (HWD.out _).mono ?_
  rintro e1 w1 ⟨A, n, c, ws, rfl, hws, hA, hb1⟩
  rw [← HWL.out] at hws
  have hnl : ws.length = n := by have := hA.1; simp at this; omega
  have hwn : wl.length = n := by rw [← hws, List.length_map, hnl]
  have hn0 : 0 < n := by
    rcases Nat.eq_zero_or_pos n with h | h
    · exact absurd (List.eq_nil_of_length_eq_zero (by omega)) HNN.out
    · exact h
  obtain ⟨b, o, rfl, hbB, hcl⟩ := hA.2 hn0
  have hat : ∀ j, wl.getD j [] = (ws.getD j ByteArray.empty).data.toList := by
    intro j
    rw [← hws, List.getD_eq_getElem?_getD, List.getD_eq_getElem?_getD, List.getElem?_map]
    cases ws[j]? <;> rfl
  have hcw : ∀ W, Below w1.heap.size w1 W → ∀ j, j < n → W.cell? ⟨b, o + j, none⟩ = some (.string (ws.getD j ByteArray.empty)) := fun W hW j hj =>
    ((bcell hW).1 _ _ hbB).trans (hcl j _ (by rw [List.getElem?_map, List.getElem?_eq_getElem (by omega), List.getD_eq_getElem?_getD, List.getElem?_eq_getElem (by omega)]; rfl))
  have hres : Blk w1 w.heap.size 39 #[.slice none 0 0, .slice none 0 0] := (Blk.new w 39 #[.slice none 0 0, .slice none 0 0]).below hb1 (by simp)
  have hsz1 := hb1.size
  simp at hsz1
  have hbw1 : Below w.heap.size w w1 := ((Below.refl _ _).alloc (Nat.le_refl _) _).trans (hb1.mono (by simp))
  rw [hwn] at hJle hlen5
  have HAT := Lib.hid hat
  have HCW := Lib.hid hcw
  have HRES := Lib.hid hres
  have HWN := Lib.hid hwn
  clear hat hcw hres hwn hws hA hcl hnl hb1
  go_wp2
  go_loop [5] (fun i => ∃ k : Nat, k ≤ J ∧ i = .int .i64 k) (fun i => J - (intOf i).toNat)
  case atStart => exact ⟨0, Nat.zero_le _, rfl⟩
  case round =>
    obtain ⟨k, hk, rfl⟩ := hrel
    by_cases hkJ : k < J
    · have hkn : k < n := by omega
      have hc := HCW.out w1 (Below.refl _ _) k hkn
      obtain ⟨x, hx⟩ : ∃ x, x = ws.getD k ByteArray.empty := ⟨_, rfl⟩
      rw [← hx] at hc
      have hxe : (x.toList == [58]) = false := by
        rw [beq_eq_false_iff_ne, ByteArray.toList_eq, hx, ← HAT.out]
        exact ixOf_before (by rw [← HJ.out]; exact hkJ)
      clear hx
      go_wp2
      go_round
      case rel => exact ⟨k + 1, by omega, by go_num⟩
      case measure => simp [intOf]; omega
    · obtain rfl : k = J := by omega
      clear hkJ hk
      by_cases hJn : k = n
      · have her : er = 4 := by rw [HE.out, if_pos (by rw [HWN.out]; exact hJn)]
        have hfc : fc = [] := by rw [HFC.out, if_neg (by rw [her]; decide)]
        have hfs : fs = [] := by rw [HFS.out, if_neg (by rw [her]; decide)]
        have H1 := Lib.hid her
        have H2 := Lib.hid hfc
        have H3 := Lib.hid hfs
        have r0 := HRES.out.cell 0
        have r1 := HRES.out.cell 1
        have f0 := HRES.out.frozen 0
        have f1 := HRES.out.frozen 1
        simp at r0 r1
        have hge : (n : Int) ≤ (k : Int) := by omega
        have hbe : ((k : Int) == (n : Int)) = true := by rw [hJn]; simp
        clear her hfc hfs hJn
        go_wp2
        refine bodyPost_ret (v := .tuple #[.agg #[.slice none 0 0, .slice none 0 0], .int .i64 4]) (by simp only [results, Tryd.results33]; go_simp) rfl ?_
        rw [H1.out, H2.out, H3.out]
        exact ⟨none, none, 0, 0, 0, 0, rfl, Arr.nil_ _ _, Arr.nil_ _ _, (by repeat (first | exact Below.refl _ _ | assumption | refine below_drewN ?_ _ | refine Below.drew ?_ | refine Below.alloc ?_ (by first | exact Nat.le_refl _ | omega | (simp; done) | (simp; omega)) _ | refine Below.setCell ?_ (by first | exact Nat.le_refl _ | (simp; done) | (simp; omega)) _))⟩
      · have hkn : k < n := by omega
        have hc := HCW.out w1 (Below.refl _ _) k hkn
        obtain ⟨x, hx⟩ : ∃ x, x = ws.getD k ByteArray.empty := ⟨_, rfl⟩
        rw [← hx] at hc
        have hxe : (x.toList == [58]) = true := by
          rw [beq_iff_eq, ByteArray.toList_eq, hx, ← HAT.out, HJ.out]
          exact ixOf_at (by rw [← HJ.out, HWN.out]; exact hkn)
        have hbe : ((k : Int) == (n : Int)) = false := by simp; omega
        have hne : ¬ k = wl.length := by rw [HWN.out]; exact hJn
        have hE3 : er = if cErr (wl.take k) ≠ 0 then cErr (wl.take k) else if (wl.drop (k + 1)).all numOk = false then 4 else chk (cVal (wl.take k)) (nVal (wl.drop (k + 1))) := by rw [HE.out, if_neg hne]
        have HE3 := Lib.hid hE3
        clear hx hE3 hne hJn HE
        go_wp2
        have hin1 : Blk (w1.alloc (Obj.cells #[.slice none 0 0, .slice none 0 0] 39)) w1.heap.size 39 #[.slice none 0 0, .slice none 0 0] := Blk.new w1 _ _
        have hal : Below w1.heap.size w1 (w1.alloc (Obj.cells #[.slice none 0 0, .slice none 0 0] 39)) := (Below.refl _ _).alloc (Nat.le_refl _) _
        clear hc hxe hbe
        go_loopw [7] (fun i wr => ∃ (j : Nat) (A2 : Option Addr) (c2 : Nat), j ≤ k ∧ i = .int .i64 j ∧ Blk wr w1.heap.size 39 #[.slice A2 j c2, .slice none 0 0] ∧
            wr.ownsRow (w1.heap.size + 1) 59 3 (.slice A2 j c2) j (cells3 (cVal (wl.take j))) ∧ Below w1.heap.size w1 wr ∧ w1.heap.size + 1 ≤ wr.heap.size ∧ Hid (cErr (wl.take k) = cErr ((wl.take k).drop j)))
          (fun i _ => k - (intOf i).toNat)
        case atStart => exact ⟨0, none, 0, Nat.zero_le _, rfl, hin1, World.ownsRow_nil _ _ _ _, hal, by simp, Lib.hid rfl⟩
        case round =>
          obtain ⟨j, A2, c2, hj, rfl, hblk, hown, hb, hsz2, hce⟩ := hrel
          clear hin1 hal
          have hbw : Below w.heap.size w wr := hbw1.trans (hb.mono (by omega))
          have hrs := HRES.out.below hb (by omega)
          by_cases hlt : j < k
          · have hcx := HCW.out wr hb j (by omega)
            obtain ⟨x, hx⟩ : ∃ x, x = ws.getD j ByteArray.empty := ⟨_, rfl⟩
            rw [← hx] at hcx
            have hjl : j < wl.length := by rw [HWN.out]; omega
            have hxd : x.data.toList = wl[j] := by
              have h := HAT.out j
              rw [← hx, List.getD_eq_getElem?_getD, List.getElem?_eq_getElem hjl] at h
              exact h.symm
            have hxs : x.size ≤ 5000 := by
              have h := HPART.out x.data.toList (by rw [hxd]; exact List.getElem_mem hjl)
              rw [sz_of] at h
              omega
            have hwx : (wl.take k).drop j = x.data.toList :: (wl.take k).drop (j + 1) := by
              have hl : j < (wl.take k).length := by rw [List.length_take, HWN.out]; omega
              rw [drop_cons _ _ hl, List.getD_eq_getElem?_getD, List.getElem?_take_of_lt hlt, List.getElem?_eq_getElem hjl, hxd]
              rfl
            have htk : wl.take (j + 1) = wl.take j ++ [x.data.toList] := by
              rw [List.take_succ_eq_append_getElem hjl, hxd]
            obtain ⟨ce, hce2⟩ : ∃ ce, ce = (crsOf x.data.toList).1 := ⟨_, rfl⟩
            obtain ⟨cr, hcr⟩ : ∃ cr, cr = (crsOf x.data.toList).2 := ⟨_, rfl⟩
            have hcall : ∀ W, Calls Tryd.prog 75 #[.string x] W fun e1 w' => e1 = .returned (.tuple #[.agg #[.int .i64 cr.p, .int .i64 cr.f, .bool cr.o], .int .i64 ce]) ∧ Below W.heap.size W w' := fun W => by
              rw [hce2, hcr]; exact rcourse_any x W hxs
            have HCALL := Lib.hid hcall
            have HWX := Lib.hid hwx
            have HTK := Lib.hid htk
            have HCE := Lib.hid hce2
            have HCR := Lib.hid hcr
            have c0 := hblk.cell 0
            have c1 := hblk.cell 1
            simp at c0 c1
            have hi1 : (j : Int) < (n : Int) := by omega
            clear hcall hx hjl hxd hwx htk hce2 hcr c0 c1
            by_cases hce0 : ce = 0
            · have hnext : cErr (wl.take k) = cErr ((wl.take k).drop (j + 1)) := by
                rw [hce.out, HWX.out, cErr, ← HCE.out, if_pos hce0]
              have HNX := Lib.hid hnext
              have hcv : cVal (wl.take (j + 1)) = cVal (wl.take j) ++ [cr] := by rw [HTK.out, cVal_snoc, ← HCR.out]
              have HCV := Lib.hid hcv
              obtain ⟨p, f, oc⟩ := cr
              dsimp only at HCALL
              subst hce0
              clear hnext hcv
              go_wp2_with (first | (go_at_call 75; refine (HCALL.out _).mono ?_; rintro e1 w2 ⟨rfl, hb3⟩; have hz3 := hb3.size; have hbk1 := hblk.below hb3 (by omega); have d0 := hbk1.cell 0; have d1 := hbk1.cell 1; have f0 := hbk1.frozen 0; have f1 := hbk1.frozen 1; have l0 : w1.heap.size < w2.heap.size := (by omega); simp at d0 d1) | (at_builtin; refine wpList_append_lies _ rfl _ _ 36 rfl (w1.heap.size + 1) 59 i0 _ 3 24 Tryd.underlying36 HI0.out hz0 hz1 hz2 rfl (by decide) (.slice A2 j c2) j (cells3 (cVal (wl.take j))) (by rfl) (((own_up hown hb3 (Nat.le_refl _)).alloc _).alloc _) ⟨w2.heap.size + 1, 0, none⟩ 1 1 [.int .i64 p, .int .i64 f, .bool oc] (by rfl) rfl (news2 _ _ _ _) (by intro u hu; simp at hu; rcases hu with rfl | rfl | rfl <;> rfl) (by decide) (by unfold maxLen; omega) (by omega) (by simp; omega) (w2.heap.size + 1 + 1) (by simp) ?_; intro g cap w3 hown2 hgrow hat2 hlt3; have hbk2 := Blk.grown ((hbk1.alloc _).alloc _) hgrow (own_ne hown (b := w1.heap.size) (by omega)); have g0 := hbk2.cell 0; have g1 := hbk2.frozen 0; simp at g0))
              go_roundw
              case rel =>
                have hbb : Below w1.heap.size w1 w3 := below_own (((hb.trans (hb3.mono (by omega))).alloc (by omega) _).alloc (by simp; omega) _) (by simp; omega) hgrow (fun q hq => by have := (hown.lt q hq).1; omega)
                refine ⟨j + 1, some ⟨g, 0, none⟩, cap, by omega, by go_num, ?_, ?_, hbb.setCell (p := ⟨w1.heap.size, 0, none⟩) (Nat.le_refl _) _, by rw [World.size_setCell]; have := hgrow.size; simp at this; omega, HNX⟩
                · have := hbk2.set_ 0 (Value.slice (some ⟨g, 0, none⟩) (j + 1) cap); simpa using this
                · rw [HCV.out, cells3_snoc]
                  exact own_far hown2 (p := ⟨w1.heap.size, 0, none⟩) (by show w1.heap.size < w1.heap.size + 1; omega) _
              case measure => simp [intOf]; omega
            · have hce1 : (ce == 0) = false := by simpa using hce0
              have hcc : cErr (wl.take k) = ce := by rw [hce.out, HWX.out, cErr, ← HCE.out, if_neg hce0]
              have her : er = ce := by rw [HE3.out, hcc, if_pos hce0]
              have hfc : fc = [] := by rw [HFC.out, if_neg (by rw [her]; exact hce0)]
              have hfs : fs = [] := by rw [HFS.out, if_neg (by rw [her]; exact hce0)]
              have H1 := Lib.hid her
              have H2 := Lib.hid hfc
              have H3 := Lib.hid hfs
              clear hcc her hfc hfs hce0
              go_wp2_with (first | (go_at_call 75; refine (HCALL.out _).mono ?_; rintro e1 w2 ⟨rfl, hb3⟩; have hz3 := hb3.size; have hrs2 := hrs.below hb3 (by omega); have d0 := hrs2.cell 0; have d1 := hrs2.cell 1; have f0 := hrs2.frozen 0; have f1 := hrs2.frozen 1; have l0 : w.heap.size < w2.heap.size := (by omega); simp at d0 d1; have hbw2 := hbw.trans (hb3.mono (by omega))))
              refine bodyPost_ret (v := .tuple #[.agg #[.slice none 0 0, .slice none 0 0], .int .i64 ce]) (by simp only [results, Tryd.results33]; go_simp) rfl ?_
              rw [H1.out, H2.out, H3.out]
              exact ⟨none, none, 0, 0, 0, 0, rfl, Arr.nil_ _ _, Arr.nil_ _ _, (by repeat (first | exact Below.refl _ _ | assumption | refine below_drewN ?_ _ | refine Below.drew ?_ | refine Below.alloc ?_ (by first | exact Nat.le_refl _ | omega | (simp; done) | (simp; omega)) _ | refine Below.setCell ?_ (by first | exact Nat.le_refl _ | (simp; done) | (simp; omega)) _))⟩
          · obtain rfl : j = k := by omega
            have hc0 : cErr (wl.take j) = 0 := by
              rw [hce.out, List.drop_of_length_le (by rw [List.length_take]; omega)]; rfl
            have hE4 : er = if (wl.drop (j + 1)).all numOk = false then 4 else chk (cVal (wl.take j)) (nVal (wl.drop (j + 1))) := by rw [HE3.out, hc0, if_neg (by simp)]
            have HE4 := Lib.hid hE4
            clear hce hc0 hE4 HE3 hlt hj
            obtain ⟨wo, rfl⟩ : ∃ wo : World, wo = wr := ⟨_, rfl⟩
            go_wp2
            have hwo : Below w1.heap.size w1 wo := hb
            go_loopw [10] (fun i wr => ∃ (q m : Nat) (C3 : Option Addr) (c3 : Nat), Hid (q = j + 1 + m) ∧ q ≤ n ∧ m ≤ n ∧ i = .int .i64 q ∧ Blk wr w1.heap.size 39 #[.slice A2 j c2, .slice C3 m c3] ∧
                wr.ownsRow wo.heap.size 3 1 (.slice C3 m c3) m ((nVal ((wl.drop (j + 1)).take m)).map (Value.int .i64)) ∧ wo.grownBy wr (some w1.heap.size) ∧ Hid ((wl.drop (j + 1)).all numOk = (wl.drop q).all numOk))
              (fun i _ => n - (intOf i).toNat)
            case atStart => exact ⟨j + 1, 0, none, 0, Lib.hid rfl, by omega, Nat.zero_le _, by go_num, hblk, World.ownsRow_nil _ _ _ _, World.grownBy.refl _ _, Lib.hid rfl⟩
            case round =>
              obtain ⟨q, m, C3, c3, hqm, hq, hm, rfl, hblk2, hown2, hgr, hal⟩ := hrel
              have hzo : wo.heap.size ≤ wr.heap.size := hgr.size
              have hb4 : Below w1.heap.size w1 wr := below_own hwo (by omega) hgr (fun q hq => by injection hq; omega)
              have hbw2 : Below w.heap.size w wr := hbw1.trans (hb4.mono (by omega))
              have hrs3 := HRES.out.below hb4 (by omega)
              have s0 := hblk2.cell 0
              have s1 := hblk2.cell 1
              have s2 := hrs3.cell 0
              have s3 := hrs3.cell 1
              have s4 := hblk2.frozen 0
              have s5 := hblk2.frozen 1
              have s6 := hrs3.frozen 0
              have s7 := hrs3.frozen 1
              simp at s0 s1 s2 s3
              by_cases hqn : q < n
              · have hcx := HCW.out wr hb4 q hqn
                obtain ⟨x, hx⟩ : ∃ x, x = ws.getD q ByteArray.empty := ⟨_, rfl⟩
                rw [← hx] at hcx
                have hql : q < wl.length := by rw [HWN.out]; omega
                have hxd : x.data.toList = wl[q] := by
                  have h := HAT.out q
                  rw [← hx, List.getD_eq_getElem?_getD, List.getElem?_eq_getElem hql] at h
                  exact h.symm
                have hwx : wl.drop q = x.data.toList :: wl.drop (q + 1) := by
                  rw [List.drop_eq_getElem_cons hql, hxd]
                have htk : (wl.drop (j + 1)).take (m + 1) = (wl.drop (j + 1)).take m ++ [x.data.toList] := by
                  have hl : m < (wl.drop (j + 1)).length := by rw [List.length_drop, HWN.out]; have := hqm.out; omega
                  rw [List.take_succ_eq_append_getElem hl, hxd]
                  congr 2
                  rw [List.getElem_drop]
                  congr 1
                  exact hqm.out.symm
                obtain ⟨nv, hnv⟩ : ∃ nv, nv = numN x.data.toList := ⟨_, rfl⟩
                obtain ⟨nb, hnb⟩ : ∃ nb, nb = numOk x.data.toList := ⟨_, rfl⟩
                have hcall : ∀ W, Calls Tryd.prog 76 #[.string x] W fun e1 w1 => e1 = .returned (.tuple #[.int .i64 nv, .bool nb]) ∧ W = w1 := fun W => by rw [hnv, hnb]; exact rnumber_any x W
                have HCALL := Lib.hid hcall
                have HWX := Lib.hid hwx
                have HTK := Lib.hid htk
                have HNV := Lib.hid hnv
                have HNB := Lib.hid hnb
                have hi1 : (q : Int) < (n : Int) := by omega
                clear hcall hx hql hxd hwx htk hnv hnb
                cases nb
                · have h5 : (wl.drop (j + 1)).all numOk = false := by rw [hal.out, HWX.out, List.all_cons, ← HNB.out]; rfl
                  have her : er = 4 := by rw [HE4.out, if_pos h5]
                  have hfc : fc = [] := by rw [HFC.out, if_neg (by rw [her]; decide)]
                  have hfs : fs = [] := by rw [HFS.out, if_neg (by rw [her]; decide)]
                  have H1 := Lib.hid her
                  have H2 := Lib.hid hfc
                  have H3 := Lib.hid hfs
                  clear h5 her hfc hfs
                  go_wp2_with (go_at_call 76; refine (HCALL.out _).mono ?_; rintro e1 w9 ⟨rfl, rfl⟩)
                  refine bodyPost_ret (v := .tuple #[.agg #[.slice none 0 0, .slice none 0 0], .int .i64 4]) (by simp only [results, Tryd.results33]; go_simp) rfl ?_
                  rw [H1.out, H2.out, H3.out]
                  exact ⟨none, none, 0, 0, 0, 0, rfl, Arr.nil_ _ _, Arr.nil_ _ _, (by repeat (first | exact Below.refl _ _ | assumption | refine below_drewN ?_ _ | refine Below.drew ?_ | refine Below.alloc ?_ (by first | exact Nat.le_refl _ | omega | (simp; done) | (simp; omega)) _ | refine Below.setCell ?_ (by first | exact Nat.le_refl _ | (simp; done) | (simp; omega)) _))⟩
                · go_wp2_with (first | (go_at_call 76; refine (HCALL.out _).mono ?_; rintro e1 w9 ⟨rfl, rfl⟩) | (at_builtin; refine wpList_append_lies _ rfl _ _ 37 rfl wo.heap.size 3 i1 _ 1 8 Tryd.underlying37 HII.out hy0 hy1 hy2 rfl (by decide) (.slice C3 m c3) m ((nVal ((wl.drop (j + 1)).take m)).map (Value.int .i64)) (by rfl) (hown2.alloc _) ⟨wr.heap.size, 0, none⟩ 1 1 [.int .i64 nv] (by rfl) rfl (news1 _ _ _) (by intro u hu; simp at hu; subst hu; rfl) (by decide) (by unfold maxLen; omega) (by omega) (by simp; omega) (wr.heap.size + 1) (by simp) ?_; intro g cap w3 hown3 hgrow hat2 hlt3; have hbk3 := Blk.grown (hblk2.alloc _) hgrow (own_ne hown2 (b := w1.heap.size) (by omega)); have g0 := hbk3.cell 1; have g1 := hbk3.frozen 1; simp at g0))
                  go_roundw
                  case rel =>
                    refine ⟨q + 1, m + 1, some ⟨g, 0, none⟩, cap, Lib.hid (by have := hqm.out; omega), by omega, by have := hqm.out; omega, by go_num, ?_, ?_, ?_, ?_⟩
                    · have := hbk3.set_ 1 (Value.slice (some ⟨g, 0, none⟩) (m + 1) cap); simpa using this
                    · rw [HTK.out, nVal_snoc, ← HNV.out, List.map_append]
                      exact own_far hown3 (p := ⟨w1.heap.size, 1, none⟩) (by show w1.heap.size < wo.heap.size; omega) _
                    · have k1 : wo.grownBy w3 (some w1.heap.size) := grow_own hgr hgrow (fun q hq => (hown2.lt q hq).1)
                      exact grow_set k1 _ _
                    · show (wl.drop (j + 1)).all numOk = _
                      rw [hal.out, HWX.out, List.all_cons, ← HNB.out, Bool.true_and]
                  case measure => simp [intOf]; omega
              · have hqe : q = n := by omega
                have hall : (wl.drop (j + 1)).all numOk = true := by rw [hal.out, List.drop_of_length_le (by rw [HWN.out]; omega)]; rfl
                have htk : (wl.drop (j + 1)).take m = wl.drop (j + 1) := List.take_of_length_le (by rw [List.length_drop, HWN.out]; have := hqm.out; omega)
                rw [htk] at hown2
                have her : er = chk (cVal (wl.take j)) (nVal (wl.drop (j + 1))) := by rw [HE4.out, hall, if_neg (by decide)]
                have hownA := hown.kept hgr (.inr (fun e => own_ne hown (b := w1.heap.size) (by omega) e.symm))
                have hA2 : Arr wr wr.heap.size 3 A2 j (cells3 (cVal (wl.take j))) := Arr.of_own hownA
                have hC2 : Arr wr wr.heap.size 1 C3 m ((nVal (wl.drop (j + 1))).map (Value.int .i64)) := Arr.of_own hown2
                have hcall : ∀ W, Below wr.heap.size wr W → Calls Tryd.prog 77 #[.agg #[.slice A2 j c2, .slice C3 m c3]] W (InsRet W fc fs er) := fun W hW => by
                  have h := checked_any A2 C3 j c2 m c3 _ _ W (hA2.up hW) (hC2.up hW)
                  rw [← her, ← HFC.out, ← HFS.out] at h
                  exact h
                have HCALL := Lib.hid hcall
                have hge : (n : Int) ≤ (q : Int) := by omega
                have HQE := Lib.hid hqe
                clear hcall her hA2 hC2 hownA hall htk hqe hqn
                go_wp2_with fail
                refine (HCALL.out _ (by repeat (first | exact Below.refl _ _ | assumption | refine below_drewN ?_ _ | refine Below.drew ?_ | refine Below.alloc ?_ (by first | exact Nat.le_refl _ | omega | (simp; done) | (simp; omega)) _ | refine Below.setCell ?_ (by first | exact Nat.le_refl _ | (simp; done) | (simp; omega)) _))).mono ?_
                rintro e5 w5 ⟨A5, C5, n5, c5, n6, c6, rfl, hA5, hC5, hb5⟩
                have hz5 := hb5.size
                have hrs5 := hrs3.below hb5 (by omega)
                have t0 := hrs5.cell 0
                have t1 := hrs5.cell 1
                have t2 := hrs5.frozen 0
                have t3 := hrs5.frozen 1
                have l5 : w.heap.size < w5.heap.size := by omega
                simp at t0 t1
                have HA5 := Lib.hid hA5
                have HC5 := Lib.hid hC5
                have hbw5 : Below w.heap.size w w5 := hbw2.trans (hb5.mono (by omega))
                clear hA5 hC5
                go_wp2
                refine bodyPost_ret (v := .tuple #[.agg #[.slice A5 n5 c5, .slice C5 n6 c6], .int .i64 er]) (by simp only [results, Tryd.results33]; go_simp) rfl ?_
                have hi1 : (w5.setCell ⟨w.heap.size, 0, none⟩ (.slice A5 n5 c5)).cell? ⟨w.heap.size, 1, none⟩ = some (.slice none 0 0) := (World.cell?_setCell_other _ _ _ _ (by simp)).trans t1
                refine ⟨A5, C5, n5, c5, n6, c6, rfl, ?_, ?_, (by repeat (first | exact Below.refl _ _ | assumption | refine below_drewN ?_ _ | refine Below.drew ?_ | refine Below.alloc ?_ (by first | exact Nat.le_refl _ | omega | (simp; done) | (simp; omega)) _ | refine Below.setCell ?_ (by first | exact Nat.le_refl _ | (simp; done) | (simp; omega)) _))⟩
                · rw [World.size_setCell, World.size_setCell]
                  exact (HA5.out.set_slice (cells3_noslice fc) t0 _).set_slice (cells3_noslice fc) hi1 _
                · rw [World.size_setCell, World.size_setCell]
                  exact (HC5.out.set_slice (ints_noslice fs) t0 _).set_slice (ints_noslice fs) hi1 _
end Go.Proofs.YtbdhjpdjbogggaaDoor
