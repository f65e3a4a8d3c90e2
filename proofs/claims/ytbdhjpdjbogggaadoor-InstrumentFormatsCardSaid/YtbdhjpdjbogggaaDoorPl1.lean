/- Plain: what Spell finds, in the program's order and in the reference's. -/
import Derived.Test.YtbdhjpdjbogggaaDoorBase
namespace Go.Proofs.YtbdhjpdjbogggaaDoor
open Go.RowKit

/-- The octave that Spell tries. -/
def spO (p l a : Int) : Int := (p - a - bas l + 12).tdiv 12 - 2
def spIn (key l a : Int) : Bool := decide (key - 3 ≤ fif l + 7 * a) && decide (fif l + 7 * a ≤ key + 8)
def spOk (p key l a : Int) : Bool := spIn key l a && decide (sndE l a (spO p l a) = 0) && decide (sndP l a (spO p l a) = p)
def spFrom (p key : Int) : Nat → Nat → Option (Int × Int)
  | 0, _ => none
  | n + 1, m => if spOk p key ((m / 3 : Nat) : Int) (((m % 3 : Nat) : Int) - 1) then some (((m / 3 : Nat) : Int), ((m % 3 : Nat) : Int) - 1) else spFrom p key n (m + 1)
def spV (p : Int) : Option (Int × Int) → Value
  | none => .tuple #[.agg #[.int .i64 0, .int .i64 0, .int .i64 0], .int .i64 10]
  | some (l, a) => .tuple #[.agg #[.int .i64 l, .int .i64 a, .int .i64 (spO p l a)], .int .i64 0]
/-- What Spell returns. -/
def spR (p key : Int) : Value :=
  if p < 0 ∨ 127 < p then .tuple #[.agg #[.int .i64 0, .int .i64 0, .int .i64 0], .int .i64 10]
  else if key < -4 ∨ 4 < key then .tuple #[.agg #[.int .i64 0, .int .i64 0, .int .i64 0], .int .i64 1]
  else spV p (spFrom p key 21 0)

/-! ### The reference -/
def rfOk (p key l a o : Int) : Bool := decide (sndE l a o = 0) && decide (sndP l a o = p) && spIn key l a
def rfFrom (p key : Int) : Nat → Nat → Option (Int × Int × Int)
  | 0, _ => none
  | n + 1, m => if rfOk p key ((m / 3 % 7 : Nat) : Int) (((m % 3 : Nat) : Int) - 1) (((m / 21 : Nat) : Int) - 1) then some (((m / 3 % 7 : Nat) : Int), ((m % 3 : Nat) : Int) - 1, ((m / 21 : Nat) : Int) - 1) else rfFrom p key n (m + 1)
def rfV : Option (Int × Int × Int) → Value
  | none => .tuple #[.agg #[.int .i64 0, .int .i64 0, .int .i64 0], .int .i64 10]
  | some (l, a, o) => .tuple #[.agg #[.int .i64 l, .int .i64 a, .int .i64 o], .int .i64 0]
def rfR (p key : Int) : Value :=
  if p < 0 ∨ 127 < p then .tuple #[.agg #[.int .i64 0, .int .i64 0, .int .i64 0], .int .i64 10]
  else if key < -4 ∨ 4 < key then .tuple #[.agg #[.int .i64 0, .int .i64 0, .int .i64 0], .int .i64 1]
  else rfV (rfFrom p key 231 0)

theorem rfFrom_step {p key : Int} {k j i : Nat} (hk : k < 11) (hj : j < 7) (hi : i < 3) : rfFrom p key (231 - 21 * k - 3 * j - i) (21 * k + 3 * j + i) =
    if rfOk p key (j : Int) ((i : Int) - 1) ((k : Int) - 1) then some ((j : Int), (i : Int) - 1, (k : Int) - 1) else rfFrom p key (231 - 21 * k - 3 * j - (i + 1)) (21 * k + 3 * j + (i + 1)) := by
  obtain ⟨n, hn⟩ : ∃ n, 231 - 21 * k - 3 * j - i = n + 1 := ⟨230 - 21 * k - 3 * j - i, by omega⟩
  rw [hn, rfFrom, show 231 - 21 * k - 3 * j - (i + 1) = n by omega, show (21 * k + 3 * j + i) / 3 % 7 = j by omega, show (21 * k + 3 * j + i) % 3 = i by omega, show (21 * k + 3 * j + i) / 21 = k by omega]
  rfl

def same1 (p key : Int) : Bool := decide ((spFrom p key 21 0).map (fun x => (x.1, x.2, spO p x.1 x.2)) = rfFrom p key 231 0)
def upto (f : Nat → Bool) : Nat → Bool
  | 0 => true
  | n + 1 => f n && upto f n
theorem upto_at {f : Nat → Bool} : ∀ {n : Nat}, upto f n = true → ∀ k, k < n → f k = true
  | n + 1, h, k, hk => by
    simp only [upto, Bool.and_eq_true] at h
    rcases Nat.lt_succ_iff_lt_or_eq.1 hk with h1 | rfl
    · exact upto_at h.2 k h1
    · exact h.1
set_option maxRecDepth 100000 in
theorem sp_key_0 : upto (fun p => same1 p (-4)) 128 = true := by decide +kernel
set_option maxRecDepth 100000 in
theorem sp_key_1 : upto (fun p => same1 p (-3)) 128 = true := by decide +kernel
set_option maxRecDepth 100000 in
theorem sp_key_2 : upto (fun p => same1 p (-2)) 128 = true := by decide +kernel
set_option maxRecDepth 100000 in
theorem sp_key_3 : upto (fun p => same1 p (-1)) 128 = true := by decide +kernel
set_option maxRecDepth 100000 in
theorem sp_key_4 : upto (fun p => same1 p 0) 128 = true := by decide +kernel
set_option maxRecDepth 100000 in
theorem sp_key_5 : upto (fun p => same1 p 1) 128 = true := by decide +kernel
set_option maxRecDepth 100000 in
theorem sp_key_6 : upto (fun p => same1 p 2) 128 = true := by decide +kernel
set_option maxRecDepth 100000 in
theorem sp_key_7 : upto (fun p => same1 p 3) 128 = true := by decide +kernel
set_option maxRecDepth 100000 in
theorem sp_key_8 : upto (fun p => same1 p 4) 128 = true := by decide +kernel
theorem sp_same (p : Nat) (hp : p < 128) (key : Int) (h0 : -4 ≤ key) (h1 : key ≤ 4) : same1 p key = true := by
  have h : key = -4 ∨ key = -3 ∨ key = -2 ∨ key = -1 ∨ key = 0 ∨ key = 1 ∨ key = 2 ∨ key = 3 ∨ key = 4 := by omega
  rcases h with rfl | rfl | rfl | rfl | rfl | rfl | rfl | rfl | rfl
  · exact upto_at sp_key_0 p hp
  · exact upto_at sp_key_1 p hp
  · exact upto_at sp_key_2 p hp
  · exact upto_at sp_key_3 p hp
  · exact upto_at sp_key_4 p hp
  · exact upto_at sp_key_5 p hp
  · exact upto_at sp_key_6 p hp
  · exact upto_at sp_key_7 p hp
  · exact upto_at sp_key_8 p hp
/-- The two find the same. -/
theorem spR_rfR (p key : Int) : spR p key = rfR p key := by
  rw [spR, rfR]
  split
  · rfl
  · split
    · rfl
    · rename_i h1 h2
      obtain ⟨n, rfl⟩ := Int.eq_ofNat_of_zero_le (show 0 ≤ p by omega)
      have h := of_decide_eq_true (sp_same n (by omega) key (by omega) (by omega))
      rw [← h]
      cases spFrom (n : Int) key 21 0 with
      | none => rfl
      | some x => rfl
end Go.Proofs.YtbdhjpdjbogggaaDoor
