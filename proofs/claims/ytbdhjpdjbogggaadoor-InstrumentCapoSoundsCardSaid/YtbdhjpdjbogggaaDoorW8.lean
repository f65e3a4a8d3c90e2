/- Walks: Parse. -/
import Derived.Test.YtbdhjpdjbogggaaDoorW3
import Derived.Test.YtbdhjpdjbogggaaDoorW7
import Derived.Test.YtbdhjpdjbogggaaDoorStr
namespace Go.Proofs.YtbdhjpdjbogggaaDoor
open Go.RowKit

def cErr : List (List UInt8) → Int
  | [] => 0
  | t :: r => if (crsOf t).1 = 0 then cErr r else (crsOf t).1
def cVal (l : List (List UInt8)) : List Crs := l.map fun t => (crsOf t).2
def nVal (l : List (List UInt8)) : List Int := l.map numN
/-- Parse of the words: the error. -/
def wsE (ws : List (List UInt8)) : Int :=
  if ixOf [58] ws = ws.length then 4 else if cErr (ws.take (ixOf [58] ws)) ≠ 0 then cErr (ws.take (ixOf [58] ws))
  else if (ws.drop (ixOf [58] ws + 1)).all numOk = false then 4 else chk (cVal (ws.take (ixOf [58] ws))) (nVal (ws.drop (ixOf [58] ws + 1)))
def psE (t : List UInt8) : Int := wsE (splitC 32 t)
def psC (t : List UInt8) : List Crs := if psE t = 0 then cVal ((splitC 32 t).take (ixOf [58] (splitC 32 t))) else []
def psS (t : List UInt8) : List Int := if psE t = 0 then nVal ((splitC 32 t).drop (ixOf [58] (splitC 32 t) + 1)) else []

/-- A call returns an instrument and an error. -/
def InsRet (w : World) (cs : List Crs) (ss : List Int) (er : Int) (e : Ending) (w' : World) : Prop :=
  ∃ (A C : Option Addr) (nc cc ns kc : Nat), e = .returned (.tuple #[.agg #[.slice A nc cc, .slice C ns kc], .int .i64 er]) ∧ Arr w' w'.heap.size 3 A nc (cells3 cs) ∧
    Arr w' w'.heap.size 1 C ns (ss.map (Value.int .i64)) ∧ Below w.heap.size w w'

theorem info_crs : (Tryd.prog.info? 59).map (fun i => (i.zero, i.size, i.bytes)) = some (some (.agg #[.int .i64 0, .int .i64 0, .bool false]), 3, 24) := by kernel_rfl
theorem info_int : (Tryd.prog.info? 3).map (fun i => (i.zero, i.size, i.bytes)) = some (some (.int .i64 0), 1, 8) := by kernel_rfl

/-- Growing, then an append to a row of one's own behind a new block. -/
theorem grow_own {a w w' : World} {o : Obj} {r : Nat} {row : Option Nat} (h : a.grownBy w (some r)) (h' : (w.alloc o).grownBy w' row) (hr : ∀ q, row = some q → a.heap.size ≤ q) : a.grownBy w' (some r) :=
  ⟨h'.os.trans h.os, h'.tape.trans h.tape, h'.output.trans h.output, by have := h.size; have h2 := h'.size; simp at h2; omega, fun k hk hne => by
    have h1 := h.block k hk hne
    have h2 : k < (w.alloc o).heap.size := by have := h.size; simp; omega
    have h3 := h'.block k h2 (fun e => by have := hr k e.symm; omega)
    exact (h3.trans (Below.heap_alloc w o k (by have := h.size; omega))).trans h1⟩
theorem grow_set {a w : World} {r : Nat} (h : a.grownBy w (some r)) (u : Value) (hi : Nat) : a.grownBy (w.setCell ⟨r, hi, none⟩ u) (some r) :=
  ⟨h.os, h.tape, h.output, by simpa [World.setCell] using h.size, fun k hk hne => (Below.heap_setCell w ⟨r, hi, none⟩ u k (fun e => hne (by rw [e]))).trans (h.block k hk hne)⟩
theorem cVal_snoc (l : List (List UInt8)) (x : List UInt8) : cVal (l ++ [x]) = cVal l ++ [(crsOf x).2] := by simp [cVal]
theorem nVal_snoc (l : List (List UInt8)) (x : List UInt8) : nVal (l ++ [x]) = nVal l ++ [numN x] := by simp [nVal]
theorem cells3_snoc (cs : List Crs) (c : Crs) : cells3 (cs ++ [c]) = cells3 cs ++ c.cells := by simp [cells3]

set_option maxHeartbeats 8000000 in
set_option maxRecDepth 10000 in
theorem parse_main (s : ByteArray) (ws : List ByteArray) (k nw : Nat) (w : World) (hg : Gnd w) (hnw : Hid (nw = ws.length)) (hk : k < nw) (hbig : nw ≤ 4294967296)
    (HW : Hid (∀ x ∈ ws, x.size < 4294967281))
    (HS : Hid (∀ W, Below w.heap.size w W → Calls Tryd.prog 70 #[.string s, .string ⟨#[32]⟩] W fun e1 w1 => e1 = .returned (.slice (some ⟨W.heap.size, 0, none⟩) nw nw) ∧ w1 = W.alloc (.cells (ws.map Value.string).toArray 9)))
    (HI : Hid (∀ W b, (∀ j, j < nw → W.cell? ⟨b, j, none⟩ = some (.string (ws.getD j ByteArray.empty))) → Calls Tryd.prog 71 #[.slice (some ⟨b, 0, none⟩) nw nw, .string ⟨#[58]⟩] W fun e1 w1 => e1 = .returned (.int .i64 k) ∧ w1 = W))
    (wl : List (List UInt8)) (hwl : Hid (wl = ws.map (·.data.toList)))
    (cs : List Crs) (ss : List Int) (er : Int) (hr : Hid (er = if cErr (wl.take k) ≠ 0 then cErr (wl.take k) else if (wl.drop (k + 1)).all numOk = false then 4 else chk (cVal (wl.take k)) (nVal (wl.drop (k + 1)))))
    (hcs : Hid (cs = if er = 0 then cVal (wl.take k) else [])) (hss : Hid (ss = if er = 0 then nVal (wl.drop (k + 1)) else [])) :
    Calls Tryd.prog 32 #[.string s] w (InsRet w cs ss er) := by
  obtain ⟨i0, hi0, hz0, hz1, hz2⟩ := info_parts info_crs
  obtain ⟨i1, hi1, hy0, hy1, hy2⟩ := info_parts info_int
  have HII := Lib.hid hi1
  have HI0 := Lib.hid hi0
  clear hi0 hi1
  have hsz := hg.sz
  have HG := Lib.hid hg
  clear hg
  have hkz : decide ((k : Int) < 0) = false := by simp
  go_enter Tryd.func32, Tryd.ntmps32
  go_wp2_with fail
  refine (HS.out _ ?_).mono ?_
  · (repeat (first | exact Below.refl _ _ | assumption | refine below_drewN ?_ _ | refine Below.drew ?_ | refine Below.alloc ?_ (by first | exact Nat.le_refl _ | omega | (simp; done) | (simp; omega)) _ | refine Below.setCell ?_ (by first | exact Nat.le_refl _ | (simp; done) | (simp; omega)) _))
  rintro e1 w1 ⟨rfl, rfl⟩
  go_wp2_with fail
  refine (HI.out _ _ ?_).mono ?_
  · intro j hj
    have hbk := Blk.new (w.alloc (.cells #[.slice none 0 0, .slice none 0 0] 39)) 9 (ws.map Value.string).toArray
    rw [World.size_alloc] at hbk
    rw [hbk.cell]
    have : j < ws.length := by have := hnw.out; omega
    simp [List.getElem?_map, List.getElem?_eq_getElem this, List.getD_eq_getElem?_getD]
  rintro e1 w1 ⟨rfl, rfl⟩
  go_wp2_with fail
  obtain ⟨W1, hW1⟩ : ∃ W1, W1 = ((w.alloc (Obj.cells #[Value.slice none 0 0, Value.slice none 0 0] 39)).alloc (Obj.cells (List.map Value.string ws).toArray 9)).alloc (Obj.cells #[Value.slice none 0 0, Value.slice none 0 0] 39) := ⟨_, rfl⟩
  have hres1 : Blk W1 w.heap.size 39 #[Value.slice none 0 0, Value.slice none 0 0] := by
    rw [hW1]; exact ((Blk.new w _ _).alloc _).alloc _
  have hwds1 : Blk W1 (w.heap.size + 1) 9 (List.map Value.string ws).toArray := by
    rw [hW1]
    have h := (Blk.new (w.alloc (.cells #[.slice none 0 0, .slice none 0 0] 39)) 9 (ws.map Value.string).toArray).alloc (Obj.cells #[Value.slice none 0 0, Value.slice none 0 0] 39)
    rw [World.size_alloc] at h
    exact h
  have hin1 : Blk W1 (w.heap.size + 1 + 1) 39 #[Value.slice none 0 0, Value.slice none 0 0] := by
    rw [hW1]
    have h := Blk.new ((w.alloc (.cells #[.slice none 0 0, .slice none 0 0] 39)).alloc (Obj.cells (List.map Value.string ws).toArray 9)) 39 #[Value.slice none 0 0, Value.slice none 0 0]
    simp only [World.size_alloc] at h
    exact h
  have hsz1 : W1.heap.size = w.heap.size + 1 + 1 + 1 := by rw [hW1]; simp
  have hb1 : Below w.heap.size w W1 := by rw [hW1]; repeat (first | exact Below.refl _ _ | assumption | refine below_drewN ?_ _ | refine Below.drew ?_ | refine Below.alloc ?_ (by first | exact Nat.le_refl _ | omega | (simp; done) | (simp; omega)) _ | refine Below.setCell ?_ (by first | exact Nat.le_refl _ | (simp; done) | (simp; omega)) _)
  rw [← hW1]
  have HSZ := Lib.hid hsz1
  clear hW1 hsz1
  have hwl' : wl.length = nw := by rw [hwl.out, List.length_map, hnw.out]
  have HWL := Lib.hid hwl'
  clear hwl'
  have hat : ∀ j, wl.getD j [] = (ws.getD j ByteArray.empty).data.toList := by
    intro j
    rw [hwl.out, List.getD_eq_getElem?_getD, List.getD_eq_getElem?_getD, List.getElem?_map]
    cases ws[j]? <;> rfl
  have HAT := Lib.hid hat
  clear hat
  go_loopw [27] (fun i wr => ∃ (j : Nat) (A : Option Addr) (c : Nat), j ≤ k ∧ i = .int .i64 j ∧ Blk wr (w.heap.size + 1 + 1) 39 #[.slice A j c, .slice none 0 0] ∧
      wr.ownsRow (w.heap.size + 3) 59 3 (.slice A j c) j (cells3 (cVal (wl.take j))) ∧ Below (w.heap.size + 1 + 1) W1 wr ∧ w.heap.size + 3 ≤ wr.heap.size ∧ Hid (cErr (wl.take k) = cErr ((wl.take k).drop j)))
    (fun i _ => k - (intOf i).toNat)
  case atStart => exact ⟨0, none, 0, Nat.zero_le _, rfl, hin1, World.ownsRow_nil _ _ _ _, Below.refl _ _, by have := HSZ.out; omega, rfl⟩
  case round =>
    obtain ⟨j, A, c, hj, rfl, hblk, hown, hb, hsz2, hce⟩ := hrel
    have hbw : Below w.heap.size w wr := hb1.trans (hb.mono (by omega))
    have c0 := hblk.cell 0
    have c1 := hblk.cell 1
    have fr := hblk.frozen 0
    have fr1 := hblk.frozen 1
    have r0 := (hres1.below hb (by omega)).cell 0
    have r1 := (hres1.below hb (by omega)).cell 1
    have fr2 := (hres1.below hb (by omega)).frozen 0
    have fr3 := (hres1.below hb (by omega)).frozen 1
    simp at c0 c1 r0 r1
    by_cases hlt : j < k
    · obtain ⟨x, hx⟩ : ∃ x, x = ws.getD j ByteArray.empty := ⟨_, rfl⟩
      have hjl : j < ws.length := by have := hnw.out; omega
      have hcx : wr.cell? ⟨w.heap.size + 1, j, none⟩ = some (.string x) := by
        rw [(hwds1.below hb (by omega)).cell, hx]
        simp [List.getElem?_map, List.getElem?_eq_getElem hjl, List.getD_eq_getElem?_getD]
      have hxs : x.size < 4294967281 := by
        refine HW.out x ?_
        rw [hx, List.getD_eq_getElem?_getD, List.getElem?_eq_getElem hjl]
        exact List.getElem_mem hjl
      have hwx : (wl.take k).drop j = x.data.toList :: (wl.take k).drop (j + 1) := by
        have hl : j < (wl.take k).length := by rw [List.length_take, HWL.out]; omega
        rw [drop_cons _ _ hl]
        congr 1
        rw [hx, ← HAT.out, List.getD_eq_getElem?_getD, List.getD_eq_getElem?_getD, List.getElem?_take_of_lt hlt]
        rfl
      have htk : wl.take (j + 1) = wl.take j ++ [x.data.toList] := by
        have hl : j < wl.length := by rw [HWL.out]; omega
        rw [List.take_succ_eq_append_getElem hl]
        congr 2
        have := HAT.out j
        rw [List.getD_eq_getElem?_getD, List.getElem?_eq_getElem hl] at this
        rw [hx]; exact this
      obtain ⟨⟨p, f, o⟩, hcrs⟩ : ∃ cc : Crs, cc = (crsOf x.data.toList).2 := ⟨_, rfl⟩
      obtain ⟨ce, hcerr⟩ : ∃ ce : Int, ce = (crsOf x.data.toList).1 := ⟨_, rfl⟩
      have hcall : ∀ W, Below wr.heap.size wr W → Calls Tryd.prog 72 #[.string x] W fun e1 w1 => e1 = .returned (.tuple #[.agg #[.int .i64 p, .int .i64 f, .bool o], .int .i64 ce]) ∧ Below wr.heap.size wr w1 := fun W hW =>
        (course_any x W (HG.out.up (hbw.trans (hW.mono (by omega)))) hxs).mono fun e1 w1 ⟨he, hw⟩ => ⟨by rw [he, ← hcrs, ← hcerr], hW.trans (hw.mono hW.size)⟩
      have HCALL := Lib.hid hcall
      have HX := Lib.hid hx
      have HWX := Lib.hid hwx
      have HTK := Lib.hid htk
      have HCRS := Lib.hid hcrs
      have HCERR := Lib.hid hcerr
      clear hcall hx hwx htk hcrs hcerr hwds1 hin1
      by_cases hce0 : ce = 0
      · subst hce0
        go_wp2_with (first
          | (go_at_call 72; refine (HCALL.out _ ?_).mono ?_; (repeat (first | exact Below.refl _ _ | assumption | refine below_drewN ?_ _ | refine Below.drew ?_ | refine Below.alloc ?_ (by first | exact Nat.le_refl _ | omega | (simp; done) | (simp; omega)) _ | refine Below.setCell ?_ (by first | exact Nat.le_refl _ | (simp; done) | (simp; omega)) _)); rintro e1 w1 ⟨rfl, hb3⟩; have hz3 := hb3.size; have l2 : w.heap.size + 1 + 1 < w1.heap.size := (by omega); have l0 : w.heap.size < w1.heap.size := (by omega); have hbk1 := hblk.below hb3 (by omega); have hrs1 := hres1.below (hb.trans (hb3.mono (by omega))) (by omega); have d0 := hbk1.cell 0; have d1 := hbk1.cell 1; have e0 := hrs1.cell 0; have e1 := hrs1.cell 1; have f0 := hbk1.frozen 0; have f1 := hbk1.frozen 1; have f2 := hrs1.frozen 0; have f3 := hrs1.frozen 1; simp at d0 d1 e0 e1)
          | (at_builtin; refine wpList_append_lies _ rfl _ _ 36 rfl (w.heap.size + 3) 59 i0 _ 3 24 Tryd.underlying36 HI0.out hz0 hz1 hz2 rfl (by decide) (.slice A j c) j (cells3 (cVal (wl.take j))) (by rfl) (((own_up hown hb3 (Nat.le_refl _)).alloc _).alloc _) ⟨w1.heap.size + 1, 0, none⟩ 1 1 [.int .i64 p, .int .i64 f, .bool o] (by rfl) rfl (news2 _ _ _ _) (by intro u hu; simp at hu; rcases hu with rfl | rfl | rfl <;> rfl) (by decide) (by unfold maxLen; omega) (by omega) (by simp; omega) (w1.heap.size + 1 + 1) (by simp) ?_; intro g cap w2 hown2 hgrow hat hlt; have hbk2 := Blk.grown ((hbk1.alloc _).alloc _) hgrow (own_ne hown (b := w.heap.size + 1 + 1) (by omega)); have g0 := hbk2.cell 0; have g1 := hbk2.frozen 0; simp at g0))
        have hbA : Below (w.heap.size + 1 + 1) W1 w1 := hb.trans (hb3.mono (by omega))
        go_roundw
        case rel =>
          refine ⟨j + 1, some ⟨g, 0, none⟩, cap, by omega, by go_num, ?_, ?_, ?_, ?_, ?_⟩
          · have := hbk2.set_ 0 (Value.slice (some ⟨g, 0, none⟩) (j + 1) cap); simpa using this
          · rw [HTK.out, cVal_snoc, ← HCRS.out, cells3_snoc]
            exact own_far hown2 (p := ⟨w.heap.size + 1 + 1, 0, none⟩) (by show w.heap.size + 1 + 1 < w.heap.size + 3; omega) _
          · exact (((hbA.alloc (by omega) _).alloc (by simp; omega) _).grown hgrow (by simp; omega) (fun k' hk' => by have := (hown.lt k' hk').1; omega)).setCell (p := ⟨w.heap.size + 1 + 1, 0, none⟩) (Nat.le_refl _) _
          · have := hgrow.size; simp at this ⊢; omega
          · show cErr _ = _
            rw [hce.out, HWX.out, cErr, if_pos HCERR.out.symm]
        case measure => simp [intOf]; omega
      · have hce1 : (ce == 0) = false := by simpa using hce0
        have hfin : er = ce ∧ cs = [] ∧ ss = [] := by
          have h1 : cErr (wl.take k) = ce := by rw [hce.out, HWX.out, cErr, ← HCERR.out, if_neg hce0]
          have h2 : er = ce := by rw [hr.out, h1, if_pos hce0]
          exact ⟨h2, by rw [hcs.out, if_neg (by rw [h2]; exact hce0)], by rw [hss.out, if_neg (by rw [h2]; exact hce0)]⟩
        have HF := Lib.hid hfin
        clear hfin hce0
        go_wp2_with (first
          | (go_at_call 72; refine (HCALL.out _ ?_).mono ?_; (repeat (first | exact Below.refl _ _ | assumption | refine below_drewN ?_ _ | refine Below.drew ?_ | refine Below.alloc ?_ (by first | exact Nat.le_refl _ | omega | (simp; done) | (simp; omega)) _ | refine Below.setCell ?_ (by first | exact Nat.le_refl _ | (simp; done) | (simp; omega)) _)); rintro e1 w1 ⟨rfl, hb3⟩; have hz3 := hb3.size; have l2 : w.heap.size + 1 + 1 < w1.heap.size := (by omega); have l0 : w.heap.size < w1.heap.size := (by omega); have hbk1 := hblk.below hb3 (by omega); have hrs1 := hres1.below (hb.trans (hb3.mono (by omega))) (by omega); have d0 := hbk1.cell 0; have d1 := hbk1.cell 1; have e0 := hrs1.cell 0; have e1 := hrs1.cell 1; have f0 := hbk1.frozen 0; have f1 := hbk1.frozen 1; have f2 := hrs1.frozen 0; have f3 := hrs1.frozen 1; simp at d0 d1 e0 e1))
        have hbB := hbw.trans (hb3.mono (by omega))
        refine bodyPost_ret (v := .tuple #[.agg #[.slice none 0 0, .slice none 0 0], .int .i64 ce]) (by simp only [results, Tryd.results32]; go_simp) rfl ?_
        obtain ⟨q1, q2, q3⟩ := HF.out
        subst q1 q2 q3
        exact ⟨none, none, 0, 0, 0, 0, rfl, Arr.nil_ _ _, Arr.nil_ _ _, (by repeat (first | exact Below.refl _ _ | assumption | refine below_drewN ?_ _ | refine Below.drew ?_ | refine Below.alloc ?_ (by first | exact Nat.le_refl _ | omega | (simp; done) | (simp; omega)) _ | refine Below.setCell ?_ (by first | exact Nat.le_refl _ | (simp; done) | (simp; omega)) _))⟩
    · obtain rfl : j = k := by omega
      have hce0 : cErr (wl.take j) = 0 := by rw [hce.out, List.drop_of_length_le (by rw [List.length_take, HWL.out]; omega)]; rfl
      have HC0 := Lib.hid hce0
      clear hce0 hlt
      obtain ⟨wo, rfl⟩ : ∃ wo : World, wo = wr := ⟨_, rfl⟩
      by_cases hlast : nw = j + 1
      · subst hlast
        go_wp2_with fail
        go_loopw [52] (fun i w2 => ∃ (m : Nat) (C : Option Addr) (c2 : Nat), m ≤ 0 ∧ i = .int .i64 m ∧ Blk w2 (w.heap.size + 1 + 1) 39 #[.slice A j c, .slice C m c2] ∧
          w2.ownsRow wo.heap.size 3 1 (.slice C m c2) m ((nVal ((wl.drop (j + 1)).take m)).map (Value.int .i64)) ∧ wo.grownBy w2 (some (w.heap.size + 1 + 1)) ∧ Hid ((wl.drop (j + 1)).all numOk = ((wl.drop (j + 1)).drop m).all numOk))
        (fun i _ => 0 - (intOf i).toNat)
        case atStart => exact ⟨0, none, 0, Nat.zero_le _, rfl, hblk, World.ownsRow_nil _ _ _ _, World.grownBy.refl _ _, rfl⟩
        case round =>
          obtain ⟨m, C, c2, hm, rfl, hblk2, hown2, hgr, hal⟩ := hrel
          obtain rfl : m = 0 := by omega
          have hall : (wl.drop (j + 1)).all numOk = true := by rw [hal.out, List.drop_of_length_le (by rw [List.length_drop, HWL.out]; omega)]; rfl
          have htk : (wl.drop (j + 1)).take 0 = wl.drop (j + 1) := List.take_of_length_le (by rw [List.length_drop, HWL.out]; omega)
          rw [htk] at hown2
          have here : er = chk (cVal (wl.take j)) (nVal (wl.drop (j + 1))) := by rw [hr.out, HC0.out, hall]; rfl
          have hownA := hown.kept hgr (.inr (fun e => own_ne hown (b := w.heap.size + 1 + 1) (by omega) e.symm))
          have hA2 : Arr wr wr.heap.size 3 A j (cells3 (cVal (wl.take j))) := Arr.of_own hownA
          have hC2 : Arr wr wr.heap.size 1 C 0 ((nVal (wl.drop (j + 1))).map (Value.int .i64)) := Arr.of_own hown2
          have hbw2 : Below w.heap.size w wr := hbw.trans ⟨hgr.os, hgr.tape, hgr.output, hgr.size, fun q hq => hgr.block q (by omega) (fun e => by injection e; omega)⟩
          have hzz : w.heap.size + 3 ≤ wr.heap.size := by have := hgr.size; omega
          have c0' := hblk2.cell 0
          have c1' := hblk2.cell 1
          simp at c0' c1'
          have rr := Blk.grown (hres1.below hb (by omega)) hgr (by intro e; injection e; omega)
          have hcall : ∀ W, Below wr.heap.size wr W → Calls Tryd.prog 30 #[.agg #[.slice A j c, .slice C 0 c2]] W fun e1 w1 => e1 = .returned (.int .i64 er) ∧ Below wr.heap.size wr w1 := fun W hW =>
            (check_any A C j c 0 c2 _ _ W (hA2.up hW) (hC2.up hW)).mono fun e1 w1 ⟨he, hw⟩ => ⟨by rw [he, ← here], hW.trans (hw.mono hW.size)⟩
          have HCALL := Lib.hid hcall
          have HERE := Lib.hid here
          clear hcall here hres1 hwds1 hin1 hall htk
          have harm : ∀ w1, Below wr.heap.size wr w1 → (w1.cell? ⟨w.heap.size + 1 + 1, 0, none⟩ = some (.slice A j c) ∧ w1.cell? ⟨w.heap.size + 1 + 1, 1, none⟩ = some (.slice C 0 c2)) ∧ (w1.cell? ⟨w.heap.size, 0, none⟩ = some (.slice none 0 0) ∧ w1.cell? ⟨w.heap.size, 1, none⟩ = some (.slice none 0 0) ∧ w1.frozen? ⟨w.heap.size, 0, none⟩ = false ∧ w1.frozen? ⟨w.heap.size, 1, none⟩ = false) := by
            intro w1 hb3
            have k1 := hblk2.below hb3 (by omega)
            have k2 := rr.below hb3 (by omega)
            have d0 := k1.cell 0
            have d1 := k1.cell 1
            have e0 := k2.cell 0
            have e1 := k2.cell 1
            simp at d0 d1 e0 e1
            exact ⟨⟨d0, d1⟩, e0, e1, k2.frozen 0, k2.frozen 1⟩
          have HARM := Lib.hid harm
          clear harm
          by_cases her : er = 0
          · have hcs1 : cs = cVal (wl.take j) := by rw [hcs.out, if_pos her]
            have hss1 : ss = nVal (wl.drop (j + 1)) := by rw [hss.out, if_pos her]
            rw [← hcs1] at hownA
            rw [← hss1] at hown2
            clear hcs1 hss1 hA2 hC2
            subst her
            go_wp2_with (go_at_call 30; refine (HCALL.out _ ?_).mono ?_; (repeat (first | exact Below.refl _ _ | assumption | refine below_drewN ?_ _ | refine Below.drew ?_ | refine Below.alloc ?_ (by first | exact Nat.le_refl _ | omega | (simp; done) | (simp; omega)) _ | refine Below.setCell ?_ (by first | exact Nat.le_refl _ | (simp; done) | (simp; omega)) _)); rintro e1 w1 ⟨rfl, hb3⟩; obtain ⟨⟨d0, d1⟩, d2, d3, d4, d5⟩ := HARM.out w1 hb3)
            refine bodyPost_ret (v := .tuple #[.agg #[.slice A j c, .slice C 0 c2], .int .i64 0]) (by simp only [results, Tryd.results32]; go_simp) rfl ?_
            have hA3 := own_up hownA hb3 (Nat.le_refl _)
            have hC3 := own_up hown2 hb3 (Nat.le_refl _)
            exact ⟨A, C, j, c, 0, c2, rfl, Arr.of_own (own_far (own_far hA3 (p := ⟨w.heap.size, 0, none⟩) (by show w.heap.size < _; omega) _) (p := ⟨w.heap.size, 1, none⟩) (by show w.heap.size < _; omega) _),
              Arr.of_own (own_far (own_far hC3 (p := ⟨w.heap.size, 0, none⟩) (by show w.heap.size < _; omega) _) (p := ⟨w.heap.size, 1, none⟩) (by show w.heap.size < _; omega) _),
              ((hbw2.trans (hb3.mono (by omega))).setCell (p := ⟨w.heap.size, 0, none⟩) (Nat.le_refl _) _).setCell (p := ⟨w.heap.size, 1, none⟩) (Nat.le_refl _) _⟩
          · have her1 : (er == 0) = false := by simpa using her
            have hcs1 : cs = [] := by rw [hcs.out, if_neg her]
            have hss1 : ss = [] := by rw [hss.out, if_neg her]
            have HCS := Lib.hid hcs1
            have HSS := Lib.hid hss1
            clear hcs1 hss1 her
            go_wp2_with (go_at_call 30; refine (HCALL.out _ ?_).mono ?_; (repeat (first | exact Below.refl _ _ | assumption | refine below_drewN ?_ _ | refine Below.drew ?_ | refine Below.alloc ?_ (by first | exact Nat.le_refl _ | omega | (simp; done) | (simp; omega)) _ | refine Below.setCell ?_ (by first | exact Nat.le_refl _ | (simp; done) | (simp; omega)) _)); rintro e1 w1 ⟨rfl, hb3⟩; obtain ⟨⟨d0, d1⟩, d2, d3, d4, d5⟩ := HARM.out w1 hb3)
            have hbB := hbw2.trans (hb3.mono (by omega))
            refine bodyPost_ret (v := .tuple #[.agg #[.slice none 0 0, .slice none 0 0], .int .i64 er]) (by simp only [results, Tryd.results32]; go_simp) rfl ?_
            rw [HCS.out, HSS.out]
            exact ⟨none, none, 0, 0, 0, 0, rfl, Arr.nil_ _ _, Arr.nil_ _ _, (by repeat (first | exact Below.refl _ _ | assumption | refine below_drewN ?_ _ | refine Below.drew ?_ | refine Below.alloc ?_ (by first | exact Nat.le_refl _ | omega | (simp; done) | (simp; omega)) _ | refine Below.setCell ?_ (by first | exact Nat.le_refl _ | (simp; done) | (simp; omega)) _))⟩
      · have hl1 : j + 1 < nw := by omega
        have hl2 : ¬ nw = j + 1 := hlast
        go_wp2_with fail
        go_loopw [52] (fun i w2 => ∃ (m : Nat) (C : Option Addr) (c2 : Nat), m ≤ (nw - (j + 1)) ∧ i = .int .i64 m ∧ Blk w2 (w.heap.size + 1 + 1) 39 #[.slice A j c, .slice C m c2] ∧
          w2.ownsRow wo.heap.size 3 1 (.slice C m c2) m ((nVal ((wl.drop (j + 1)).take m)).map (Value.int .i64)) ∧ wo.grownBy w2 (some (w.heap.size + 1 + 1)) ∧ Hid ((wl.drop (j + 1)).all numOk = ((wl.drop (j + 1)).drop m).all numOk))
        (fun i _ => (nw - (j + 1)) - (intOf i).toNat)
        case atStart => exact ⟨0, none, 0, Nat.zero_le _, rfl, hblk, World.ownsRow_nil _ _ _ _, World.grownBy.refl _ _, rfl⟩
        case round =>
          obtain ⟨m, C, c2, hm, rfl, hblk2, hown2, hgr, hal⟩ := hrel
          by_cases hlt : m < nw - (j + 1)
          · have hjl : j + 1 + m < ws.length := by have := hnw.out; omega
            obtain ⟨x, hx⟩ : ∃ x, x = ws.getD (j + 1 + m) ByteArray.empty := ⟨_, rfl⟩
            have hcx : wr.cell? ⟨w.heap.size + 1, j + 1 + m, none⟩ = some (.string x) := by
              rw [(Blk.grown (hwds1.below hb (by omega)) hgr (by intro e; injection e; omega)).cell, hx]
              simp [List.getElem?_map, List.getElem?_eq_getElem hjl, List.getD_eq_getElem?_getD]
            have hdl : m < (wl.drop (j + 1)).length := by rw [List.length_drop, HWL.out]; omega
            have hdd : (wl.drop (j + 1)).getD m [] = x.data.toList := by
              have h := HAT.out (j + 1 + m)
              rw [← hx] at h
              rw [← h, List.getD_eq_getElem?_getD, List.getD_eq_getElem?_getD, List.getElem?_drop]
            have hwx : (wl.drop (j + 1)).drop m = x.data.toList :: (wl.drop (j + 1)).drop (m + 1) := by
              rw [drop_cons _ _ hdl]
              congr 1
            have htk : (wl.drop (j + 1)).take (m + 1) = (wl.drop (j + 1)).take m ++ [x.data.toList] := by
              rw [List.take_succ_eq_append_getElem hdl]
              congr 2
              rw [← hdd, List.getD_eq_getElem?_getD, List.getElem?_eq_getElem hdl]; rfl
            have hzz : w.heap.size + 3 ≤ wr.heap.size := by have := hgr.size; omega
            have hzo : wo.heap.size ≤ wr.heap.size := hgr.size
            have hbw2 : Below w.heap.size w wr := hbw.trans ⟨hgr.os, hgr.tape, hgr.output, hgr.size, fun q hq => hgr.block q (by omega) (fun e => by injection e; omega)⟩
            have rr := Blk.grown (hres1.below hb (by omega)) hgr (by intro e; injection e; omega)
            have s0 := hblk2.cell 0
            have s1 := hblk2.cell 1
            have s2 := rr.cell 0
            have s3 := rr.cell 1
            have s4 := hblk2.frozen 0
            have s5 := hblk2.frozen 1
            have s6 := rr.frozen 0
            have s7 := rr.frozen 1
            simp at s0 s1 s2 s3
            obtain ⟨nv, hnv⟩ : ∃ nv, nv = numN x.data.toList := ⟨_, rfl⟩
            obtain ⟨nb, hnb⟩ : ∃ nb, nb = numOk x.data.toList := ⟨_, rfl⟩
            have hcall : ∀ W, Calls Tryd.prog 73 #[.string x] W fun e1 w1 => e1 = .returned (.tuple #[.int .i64 nv, .bool nb]) ∧ W = w1 := fun W =>
              (number_any x W).mono fun e1 w1 ⟨he, hw⟩ => ⟨by rw [he, hnv, hnb], hw⟩
            have HCALL := Lib.hid hcall
            have HWX := Lib.hid hwx
            have HTK := Lib.hid htk
            have HNV := Lib.hid hnv
            have HNB := Lib.hid hnb
            clear hcall hx hdd hwx htk hnv hnb c0 c1 r0 r1 fr fr1 fr2 fr3
            cases nb
            · have h4 : er = 4 := by
                have h5 : (wl.drop (j + 1)).all numOk = false := by rw [hal.out, HWX.out, List.all_cons, ← HNB.out]; rfl
                rw [hr.out, HC0.out, h5]; rfl
              have hcs1 : cs = [] := by rw [hcs.out, if_neg (by rw [h4]; decide)]
              have hss1 : ss = [] := by rw [hss.out, if_neg (by rw [h4]; decide)]
              have HCS := Lib.hid hcs1
              have HSS := Lib.hid hss1
              have H4 := Lib.hid h4
              clear hcs1 hss1 h4
              go_wp2_with (go_at_call 73; refine (HCALL.out _).mono ?_; rintro e1 w1 ⟨rfl, rfl⟩)
              refine bodyPost_ret (v := .tuple #[.agg #[.slice none 0 0, .slice none 0 0], .int .i64 4]) (by simp only [results, Tryd.results32]; go_simp) rfl ?_
              rw [HCS.out, HSS.out, H4.out]
              exact ⟨none, none, 0, 0, 0, 0, rfl, Arr.nil_ _ _, Arr.nil_ _ _, (by repeat (first | exact Below.refl _ _ | assumption | refine below_drewN ?_ _ | refine Below.drew ?_ | refine Below.alloc ?_ (by first | exact Nat.le_refl _ | omega | (simp; done) | (simp; omega)) _ | refine Below.setCell ?_ (by first | exact Nat.le_refl _ | (simp; done) | (simp; omega)) _))⟩
            · go_wp2_with (first
                | (go_at_call 73; refine (HCALL.out _).mono ?_; rintro e1 w1 ⟨rfl, rfl⟩)
                | (at_builtin; refine wpList_append_lies _ rfl _ _ 37 rfl wo.heap.size 3 i1 _ 1 8 Tryd.underlying37 HII.out hy0 hy1 hy2 rfl (by decide) (.slice C m c2) m ((nVal ((wl.drop (j + 1)).take m)).map (Value.int .i64)) (by rfl) (hown2.alloc _) ⟨wr.heap.size, 0, none⟩ 1 1 [.int .i64 nv] (by rfl) rfl (news1 _ _ _) (by intro u hu; simp at hu; subst hu; rfl) (by decide) (by unfold maxLen; omega) (by omega) (by simp; omega) (wr.heap.size + 1) (by simp) ?_; intro g cap w2 hown3 hgrow hat hlt3; have hbk3 := Blk.grown (hblk2.alloc _) hgrow (own_ne hown2 (b := w.heap.size + 1 + 1) (by omega)); have g0 := hbk3.cell 1; have g1 := hbk3.frozen 1; simp at g0))
              go_roundw
              case rel =>
                refine ⟨m + 1, some ⟨g, 0, none⟩, cap, by omega, by go_num, ?_, ?_, ?_, ?_⟩
                · have := hbk3.set_ 1 (Value.slice (some ⟨g, 0, none⟩) (m + 1) cap); simpa using this
                · rw [HTK.out, nVal_snoc, ← HNV.out, List.map_append]
                  exact own_far hown3 (p := ⟨w.heap.size + 1 + 1, 1, none⟩) (by show w.heap.size + 1 + 1 < wo.heap.size; omega) _
                · have k1 : wo.grownBy w2 (some (w.heap.size + 1 + 1)) := grow_own hgr hgrow (fun q hq => (hown2.lt q hq).1)
                  exact grow_set k1 _ _
                · show (wl.drop (j + 1)).all numOk = _
                  rw [hal.out, HWX.out, List.all_cons, ← HNB.out, Bool.true_and]
              case measure => simp [intOf]; omega
          have hmm : m = nw - (j + 1) := by omega
          subst hmm
          have hall : (wl.drop (j + 1)).all numOk = true := by rw [hal.out, List.drop_of_length_le (by rw [List.length_drop, HWL.out]; omega)]; rfl
          have htk : (wl.drop (j + 1)).take (nw - (j + 1)) = wl.drop (j + 1) := List.take_of_length_le (by rw [List.length_drop, HWL.out]; omega)
          rw [htk] at hown2
          have here : er = chk (cVal (wl.take j)) (nVal (wl.drop (j + 1))) := by rw [hr.out, HC0.out, hall]; rfl
          have hownA := hown.kept hgr (.inr (fun e => own_ne hown (b := w.heap.size + 1 + 1) (by omega) e.symm))
          have hA2 : Arr wr wr.heap.size 3 A j (cells3 (cVal (wl.take j))) := Arr.of_own hownA
          have hC2 : Arr wr wr.heap.size 1 C (nw - (j + 1)) ((nVal (wl.drop (j + 1))).map (Value.int .i64)) := Arr.of_own hown2
          have hbw2 : Below w.heap.size w wr := hbw.trans ⟨hgr.os, hgr.tape, hgr.output, hgr.size, fun q hq => hgr.block q (by omega) (fun e => by injection e; omega)⟩
          have hzz : w.heap.size + 3 ≤ wr.heap.size := by have := hgr.size; omega
          have c0' := hblk2.cell 0
          have c1' := hblk2.cell 1
          simp at c0' c1'
          have rr := Blk.grown (hres1.below hb (by omega)) hgr (by intro e; injection e; omega)
          have hcall : ∀ W, Below wr.heap.size wr W → Calls Tryd.prog 30 #[.agg #[.slice A j c, .slice C (nw - (j + 1)) c2]] W fun e1 w1 => e1 = .returned (.int .i64 er) ∧ Below wr.heap.size wr w1 := fun W hW =>
            (check_any A C j c (nw - (j + 1)) c2 _ _ W (hA2.up hW) (hC2.up hW)).mono fun e1 w1 ⟨he, hw⟩ => ⟨by rw [he, ← here], hW.trans (hw.mono hW.size)⟩
          have HCALL := Lib.hid hcall
          have HERE := Lib.hid here
          clear hcall here hres1 hwds1 hin1 hall htk
          have harm : ∀ w1, Below wr.heap.size wr w1 → (w1.cell? ⟨w.heap.size + 1 + 1, 0, none⟩ = some (.slice A j c) ∧ w1.cell? ⟨w.heap.size + 1 + 1, 1, none⟩ = some (.slice C (nw - (j + 1)) c2)) ∧ (w1.cell? ⟨w.heap.size, 0, none⟩ = some (.slice none 0 0) ∧ w1.cell? ⟨w.heap.size, 1, none⟩ = some (.slice none 0 0) ∧ w1.frozen? ⟨w.heap.size, 0, none⟩ = false ∧ w1.frozen? ⟨w.heap.size, 1, none⟩ = false) := by
            intro w1 hb3
            have k1 := hblk2.below hb3 (by omega)
            have k2 := rr.below hb3 (by omega)
            have d0 := k1.cell 0
            have d1 := k1.cell 1
            have e0 := k2.cell 0
            have e1 := k2.cell 1
            simp at d0 d1 e0 e1
            exact ⟨⟨d0, d1⟩, e0, e1, k2.frozen 0, k2.frozen 1⟩
          have HARM := Lib.hid harm
          clear harm
          by_cases her : er = 0
          · have hcs1 : cs = cVal (wl.take j) := by rw [hcs.out, if_pos her]
            have hss1 : ss = nVal (wl.drop (j + 1)) := by rw [hss.out, if_pos her]
            rw [← hcs1] at hownA
            rw [← hss1] at hown2
            clear hcs1 hss1 hA2 hC2
            subst her
            go_wp2_with (go_at_call 30; refine (HCALL.out _ ?_).mono ?_; (repeat (first | exact Below.refl _ _ | assumption | refine below_drewN ?_ _ | refine Below.drew ?_ | refine Below.alloc ?_ (by first | exact Nat.le_refl _ | omega | (simp; done) | (simp; omega)) _ | refine Below.setCell ?_ (by first | exact Nat.le_refl _ | (simp; done) | (simp; omega)) _)); rintro e1 w1 ⟨rfl, hb3⟩; obtain ⟨⟨d0, d1⟩, d2, d3, d4, d5⟩ := HARM.out w1 hb3)
            refine bodyPost_ret (v := .tuple #[.agg #[.slice A j c, .slice C (nw - (j + 1)) c2], .int .i64 0]) (by simp only [results, Tryd.results32]; go_simp) rfl ?_
            have hA3 := own_up hownA hb3 (Nat.le_refl _)
            have hC3 := own_up hown2 hb3 (Nat.le_refl _)
            exact ⟨A, C, j, c, (nw - (j + 1)), c2, rfl, Arr.of_own (own_far (own_far hA3 (p := ⟨w.heap.size, 0, none⟩) (by show w.heap.size < _; omega) _) (p := ⟨w.heap.size, 1, none⟩) (by show w.heap.size < _; omega) _),
              Arr.of_own (own_far (own_far hC3 (p := ⟨w.heap.size, 0, none⟩) (by show w.heap.size < _; omega) _) (p := ⟨w.heap.size, 1, none⟩) (by show w.heap.size < _; omega) _),
              ((hbw2.trans (hb3.mono (by omega))).setCell (p := ⟨w.heap.size, 0, none⟩) (Nat.le_refl _) _).setCell (p := ⟨w.heap.size, 1, none⟩) (Nat.le_refl _) _⟩
          · have her1 : (er == 0) = false := by simpa using her
            have hcs1 : cs = [] := by rw [hcs.out, if_neg her]
            have hss1 : ss = [] := by rw [hss.out, if_neg her]
            have HCS := Lib.hid hcs1
            have HSS := Lib.hid hss1
            clear hcs1 hss1 her
            go_wp2_with (go_at_call 30; refine (HCALL.out _ ?_).mono ?_; (repeat (first | exact Below.refl _ _ | assumption | refine below_drewN ?_ _ | refine Below.drew ?_ | refine Below.alloc ?_ (by first | exact Nat.le_refl _ | omega | (simp; done) | (simp; omega)) _ | refine Below.setCell ?_ (by first | exact Nat.le_refl _ | (simp; done) | (simp; omega)) _)); rintro e1 w1 ⟨rfl, hb3⟩; obtain ⟨⟨d0, d1⟩, d2, d3, d4, d5⟩ := HARM.out w1 hb3)
            have hbB := hbw2.trans (hb3.mono (by omega))
            refine bodyPost_ret (v := .tuple #[.agg #[.slice none 0 0, .slice none 0 0], .int .i64 er]) (by simp only [results, Tryd.results32]; go_simp) rfl ?_
            rw [HCS.out, HSS.out]
            exact ⟨none, none, 0, 0, 0, 0, rfl, Arr.nil_ _ _, Arr.nil_ _ _, (by repeat (first | exact Below.refl _ _ | assumption | refine below_drewN ?_ _ | refine Below.drew ?_ | refine Below.alloc ?_ (by first | exact Nat.le_refl _ | omega | (simp; done) | (simp; omega)) _ | refine Below.setCell ?_ (by first | exact Nat.le_refl _ | (simp; done) | (simp; omega)) _))⟩
end Go.Proofs.YtbdhjpdjbogggaaDoor
