/- Plain functions on hands and castings. No program, no statement of the claim. -/
import Derived.Test.YtppoelhflegpnaaPlainA
namespace Go.Proofs.Ytppoelhflegpnaa

/- changes between two castings -/
def chR (xs cs ys ds : List Int) (k : Nat) : Nat → Nat
  | 0 => 0
  | i + 1 => chR xs cs ys ds k i + if xs[k]! = ys[i]! ∧ cs[k]! ≠ ds[i]! then 1 else 0
def chN (xs cs ys ds : List Int) : Nat → Nat
  | 0 => 0
  | k + 1 => chN xs cs ys ds k + chR xs cs ys ds k ys.length
def changesB (xs cs ys ds : List Int) : Int := if xs.length = cs.length ∧ ys.length = ds.length then ((chN xs cs ys ds xs.length : Nat) : Int) else -1
theorem chR_le {xs cs ys ds : List Int} (k : Nat) : ∀ i, chR xs cs ys ds k i ≤ i
  | 0 => Nat.le_refl _
  | i + 1 => by have := chR_le (xs := xs) (cs := cs) (ys := ys) (ds := ds) k i; unfold chR; split <;> omega
theorem chN_le {xs cs ys ds : List Int} (h : ys.length ≤ 1048576) : ∀ k, chN xs cs ys ds k ≤ k * 1048576
  | 0 => Nat.le_refl _
  | k + 1 => by
    have := chN_le (xs := xs) (cs := cs) (ds := ds) h k
    have := chR_le (xs := xs) (cs := cs) (ys := ys) (ds := ds) k ys.length
    unfold chN; omega
theorem ch_yes {xs cs ys ds : List Int} {k i : Nat} (h : xs[k]! = ys[i]! ∧ cs[k]! ≠ ds[i]!) : ((chN xs cs ys ds k + chR xs cs ys ds k i : Nat) : Int) + 1 = ((chN xs cs ys ds k + chR xs cs ys ds k (i + 1) : Nat) : Int) := by
  rw [chR, if_pos h]; rfl
theorem ch_no {xs cs ys ds : List Int} {k i : Nat} (h : ¬ xs[k]! = ys[i]! ∨ ¬ cs[k]! ≠ ds[i]!) : ((chN xs cs ys ds k + chR xs cs ys ds k i : Nat) : Int) = ((chN xs cs ys ds k + chR xs cs ys ds k (i + 1) : Nat) : Int) := by
  rw [chR, if_neg (by rcases h with h | h; exact fun x => h x.1; exact fun x => h x.2)]; rfl
theorem ch_bad {xs cs ys ds : List Int} (h : ¬ (xs.length = cs.length ∧ ys.length = ds.length)) : changesB xs cs ys ds = -1 := if_neg h
theorem ch_good {xs cs ys ds : List Int} (h : xs.length = cs.length ∧ ys.length = ds.length) : changesB xs cs ys ds = ((chN xs cs ys ds xs.length : Nat) : Int) := if_pos h
end Go.Proofs.Ytppoelhflegpnaa
