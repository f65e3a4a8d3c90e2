/- Parse, joined. -/
import Derived.Test.YtbdhjpdjbogggaaDoorW8
namespace Go.Proofs.YtbdhjpdjbogggaaDoor
open Go.RowKit

set_option maxHeartbeats 2000000 in
theorem parse_none (s : ByteArray) (ws : List ByteArray) (nw : Nat) (w : World)
    (HS : Hid (∀ W, Below w.heap.size w W → Calls Tryd.prog 70 #[.string s, .string ⟨#[32]⟩] W fun e1 w1 => e1 = .returned (.slice (some ⟨W.heap.size, 0, none⟩) nw nw) ∧ w1 = W.alloc (.cells (ws.map Value.string).toArray 9)))
    (HI : Hid (∀ W b, (∀ j, j < nw → W.cell? ⟨b, j, none⟩ = some (.string (ws.getD j ByteArray.empty))) → Calls Tryd.prog 71 #[.slice (some ⟨b, 0, none⟩) nw nw, .string ⟨#[58]⟩] W fun e1 w1 => e1 = .returned (.int .i64 (-1)) ∧ w1 = W)) (hnw : Hid (nw = ws.length)) :
    Calls Tryd.prog 32 #[.string s] w (InsRet w [] [] 4) := by
  go_enter Tryd.func32, Tryd.ntmps32
  go_wp2_with fail
  refine (HS.out _ ?_).mono ?_
  · (repeat (first | exact Below.refl _ _ | assumption | refine below_drewN ?_ _ | refine Below.drew ?_ | refine Below.alloc ?_ (by first | exact Nat.le_refl _ | omega | (simp; done) | (simp; omega)) _ | refine Below.setCell ?_ (by first | exact Nat.le_refl _ | (simp; done) | (simp; omega)) _))
  rintro e1 w1 ⟨rfl, rfl⟩
  go_wp2_with fail
  refine (HI.out _ _ ?_).mono ?_
  · intro j hj
    have hbk := Blk.new (w.alloc (.cells #[.slice none 0 0, .slice none 0 0] 39)) 9 (ws.map Value.string).toArray
    rw [World.size_alloc] at hbk
    rw [hbk.cell]
    have : j < ws.length := by have := hnw.out; omega
    simp [List.getElem?_map, List.getElem?_eq_getElem this, List.getD_eq_getElem?_getD]
  rintro e1 w1 ⟨rfl, rfl⟩
  go_wp2
  refine bodyPost_ret (v := .tuple #[.agg #[.slice none 0 0, .slice none 0 0], .int .i64 4]) (by simp only [results, Tryd.results32]; go_simp) rfl ?_
  exact ⟨none, none, 0, 0, 0, 0, rfl, Arr.nil_ _ _, Arr.nil_ _ _, (by repeat (first | exact Below.refl _ _ | assumption | refine below_drewN ?_ _ | refine Below.drew ?_ | refine Below.alloc ?_ (by first | exact Nat.le_refl _ | omega | (simp; done) | (simp; omega)) _ | refine Below.setCell ?_ (by first | exact Nat.le_refl _ | (simp; done) | (simp; omega)) _))⟩

theorem parse_any (s : ByteArray) (w : World) (hg : Gnd w) (hs : s.size < 4294967281) :
    Calls Tryd.prog 32 #[.string s] w (InsRet w (psC s.data.toList) (psS s.data.toList) (psE s.data.toList)) := by
  obtain ⟨ws, hws⟩ : ∃ ws, ws = Lib.splitB ⟨#[32]⟩ 0 (Lib.countB s ⟨#[32]⟩) s := ⟨_, rfl⟩
  have hwl : ws.map (·.data.toList) = splitC 32 s.data.toList := by rw [hws]; exact split_eq 32 s
  have hlen : ws.length = Lib.countB s ⟨#[32]⟩ + 1 := by rw [hws]; exact Lib.splitB_all ⟨#[32]⟩ (by decide) 0 _ s rfl
  have hlen2 : ws.length = (splitC 32 s.data.toList).length := by rw [← hwl, List.length_map]
  have hbig : ws.length ≤ 4294967296 := by have := splitC_len 32 s.data.toList; rw [sz_of] at this; omega
  obtain ⟨m, hm⟩ := hg.ml
  have h2 : 2 < w.heap.size := by have := hg.sz; omega
  have HS : ∀ W, Below w.heap.size w W → Calls Tryd.prog 70 #[.string s, .string ⟨#[32]⟩] W fun e1 w1 => e1 = .returned (.slice (some ⟨W.heap.size, 0, none⟩) ws.length ws.length) ∧ w1 = W.alloc (.cells (ws.map Value.string).toArray 9) := fun W hW =>
    (Tryd.strings_Split s ⟨#[32]⟩ m W hs ((hW.cell (p := ⟨2, 0, none⟩) h2).trans hm) (by decide)).mono fun e1 w1 ⟨he, hw⟩ => ⟨by rw [he, hlen], by rw [hw, hws]⟩
  have hsz : ∀ x ∈ ws, x.size < 4294967281 := by
    intro x hx
    have h := splitC_part 32 s.data.toList x.data.toList (by rw [← hwl]; exact List.mem_map_of_mem hx)
    rw [sz_of, sz_of] at h
    omega
  have HI : ∀ W b, (∀ j, j < ws.length → W.cell? ⟨b, j, none⟩ = some (.string (ws.getD j ByteArray.empty))) → Calls Tryd.prog 71 #[.slice (some ⟨b, 0, none⟩) ws.length ws.length, .string ⟨#[58]⟩] W fun e1 w1 => e1 = .returned (.int .i64 (Lib.idxOfS ws ⟨#[58]⟩)) ∧ w1 = W := fun W b hc =>
    (Tryd.slices_Index_string b 0 ws.length ws.length ws ⟨#[58]⟩ W (Nat.le_refl _) (by omega) (by simpa using hc)).mono fun e1 w1 ⟨he, hw⟩ => ⟨by rw [he, List.take_length], hw⟩
  have hix := idxOfS_eq ⟨#[58]⟩ ws
  rw [hwl] at hix
  have e58 : (⟨#[58]⟩ : ByteArray).data.toList = [58] := rfl
  rw [e58] at hix
  have hle := ixOf_le [58] (splitC 32 s.data.toList)
  by_cases hk : ixOf [58] (splitC 32 s.data.toList) < ws.length
  · rw [if_pos hk] at hix
    rw [hix] at HI
    have hE : psE s.data.toList = if cErr ((splitC 32 s.data.toList).take (ixOf [58] (splitC 32 s.data.toList))) ≠ 0 then cErr ((splitC 32 s.data.toList).take (ixOf [58] (splitC 32 s.data.toList)))
        else if ((splitC 32 s.data.toList).drop (ixOf [58] (splitC 32 s.data.toList) + 1)).all numOk = false then 4 else chk (cVal ((splitC 32 s.data.toList).take (ixOf [58] (splitC 32 s.data.toList)))) (nVal ((splitC 32 s.data.toList).drop (ixOf [58] (splitC 32 s.data.toList) + 1))) := by
      rw [psE, wsE, if_neg (by omega)]
    exact parse_main s ws _ _ w hg rfl hk hbig hsz HS HI _ hwl.symm _ _ _ hE rfl rfl
  · rw [if_neg hk] at hix
    rw [hix] at HI
    have hE : psE s.data.toList = 4 := by rw [psE, wsE, if_pos (by omega)]
    have hC : psC s.data.toList = [] := by rw [psC, if_neg (by rw [hE]; decide)]
    have hS : psS s.data.toList = [] := by rw [psS, if_neg (by rw [hE]; decide)]
    rw [hC, hS, hE]
    exact parse_none s ws _ w HS HI rfl
end Go.Proofs.YtbdhjpdjbogggaaDoor
