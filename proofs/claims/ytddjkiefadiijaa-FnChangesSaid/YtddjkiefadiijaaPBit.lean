/- Plain facts on bits. No program, no statement of the claim. -/
import Derived.Test.YtddjkiefadiijaaPure
namespace Go.Proofs.Ytddjkiefadiijaa

def bt (x : Int) (k : Nat) : Bool := x.toNat.testBit k
theorem sar_nat (n k : Nat) (j : Int) (hj : j.toNat = k) : sar (n : Int) j = ((n / 2 ^ k : Nat) : Int) := by
  unfold sar; rw [hj, Int.natCast_ediv, Int.natCast_pow]; rfl
theorem sar_rng {x k : Int} (hx : 0 ≤ x) : 0 ≤ sar x k ∧ sar x k ≤ x := by
  obtain ⟨n, rfl⟩ := Int.eq_ofNat_of_zero_le hx
  rw [sar_nat n k.toNat k rfl]
  exact ⟨Int.natCast_nonneg _, Int.ofNat_le.2 (Nat.div_le_self n (2 ^ k.toNat))⟩
theorem band_eq {x k : Int} (hx : 0 ≤ x) : band (sar x k) 1 = if bt x k.toNat = true then 1 else 0 := by
  obtain ⟨n, rfl⟩ := Int.eq_ofNat_of_zero_le hx
  rw [sar_nat n k.toNat k rfl]
  unfold band bt
  rw [Int.toNat_natCast, Int.toNat_natCast, show Int.toNat 1 = 1 from rfl, Nat.and_one_is_mod, Nat.testBit_eq_decide_div_mod_eq]
  have := Nat.mod_lt (n / 2 ^ k.toNat) (show 2 > 0 by omega)
  by_cases h : n / 2 ^ k.toNat % 2 = 1
  · rw [if_pos (decide_eq_true h), h]; rfl
  · rw [if_neg (fun hx => h (of_decide_eq_true hx))]; omega
theorem band1 {x k : Int} (hx : 0 ≤ x) : band (sar x k) 1 = 1 ↔ bt x k.toNat = true := by
  rw [band_eq hx]; split <;> simp_all
theorem band0 {x k : Int} (hx : 0 ≤ x) : band (sar x k) 1 = 0 ↔ bt x k.toNat = false := by
  rw [band_eq hx]; split <;> simp_all
theorem bt_bor {x y : Int} {k : Nat} : bt (bor x y) k = (bt x k || bt y k) := by
  unfold bt bor; rw [Int.toNat_natCast, Nat.testBit_or]
theorem sal_nat {k : Int} : sal 1 k = ((2 ^ k.toNat : Nat) : Int) := by
  unfold sal; rw [Int.one_mul, Int.natCast_pow]; rfl
theorem bt_sal {k : Int} {j : Nat} : bt (sal 1 k) j = decide (k.toNat = j) := by
  unfold bt; rw [sal_nat, Int.toNat_natCast, Nat.testBit_two_pow]
theorem sal_rng {k : Int} {n : Nat} (hk : k.toNat < n) : 1 ≤ sal 1 k ∧ sal 1 k < ((2 ^ n : Nat) : Int) := by
  rw [sal_nat]
  have h1 := Nat.pow_lt_pow_right (show 1 < 2 by omega) hk
  have h2 := Nat.two_pow_pos k.toNat
  omega
theorem bor_rng {x y : Int} {n : Nat} (hx : x < ((2 ^ n : Nat) : Int)) (hy : y < ((2 ^ n : Nat) : Int)) : 0 ≤ bor x y ∧ bor x y < ((2 ^ n : Nat) : Int) := by
  unfold bor
  have h0 := Nat.two_pow_pos n
  have := Nat.or_lt_two_pow (n := n) (show x.toNat < 2 ^ n by omega) (show y.toNat < 2 ^ n by omega)
  omega
theorem bt_ext {x y : Int} (hx : 0 ≤ x) (hy : 0 ≤ y) (h : ∀ k, bt x k = bt y k) : x = y := by
  have : x.toNat = y.toNat := Nat.eq_of_testBit_eq h
  omega
theorem bt_hi {x : Int} {n k : Nat} (hx : x < ((2 ^ n : Nat) : Int)) (hk : n ≤ k) : bt x k = false := by
  unfold bt
  have h0 := Nat.two_pow_pos n
  exact Nat.testBit_lt_two_pow (Nat.lt_of_lt_of_le (show x.toNat < 2 ^ n by omega) (Nat.pow_le_pow_right (by omega) hk))
theorem bt_zero (k : Nat) : bt 0 k = false := by unfold bt; simp
theorem bor_eq {x y : Int} (hy : 0 ≤ y) : bor x y = y ↔ ∀ k, bt x k = true → bt y k = true := by
  constructor
  · intro h k hk
    rw [← h, bt_bor, hk]; rfl
  · intro h
    refine bt_ext (by unfold bor; omega) hy fun k => ?_
    rw [bt_bor]
    cases hx : bt x k
    · rfl
    · rw [h k hx]; rfl
end Go.Proofs.Ytddjkiefadiijaa
