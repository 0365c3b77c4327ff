/- The words of the plain models: what a loop and a recursion ask, and small facts on lists and numbers. No program, no statement of the claim. -/
namespace Go.Proofs.Ytddjkiefadiijaa

abbrev ok64 (z : Int) : Prop := -9223372036854775808 ≤ z ∧ z ≤ 9223372036854775807
abbrev ix (i : Int) (n : Nat) : Prop := 0 ≤ i ∧ i < (n : Int)
def sar (a b : Int) : Int := a / 2 ^ b.toNat
def sal (a b : Int) : Int := a * 2 ^ b.toNat
def band (a b : Int) : Int := ((a.toNat &&& b.toNat : Nat) : Int)
def bor (a b : Int) : Int := ((a.toNat ||| b.toNat : Nat) : Int)
def bxor (a b : Int) : Int := ((a.toNat ^^^ b.toNat : Nat) : Int)
abbrev LIM : Nat := 1099511627776
abbrev Byte := Fin 256
abbrev Stay := Int × Int × Int
abbrev Cross := Int × Bool
abbrev PlayerC := List Int × Int
abbrev CueC := Int × List Int × List Int

abbrev LoopW1 {T1 : Type} (a0 : T1) (body : T1 → (T1 → Prop) → Prop) : Prop :=
  ∃ (I : T1 → Prop) (μ : T1 → Nat), I a0 ∧ ∀ a, I a → body a (fun a' => I a' ∧ μ a' < μ a)
abbrev LoopW2 {T1 T2 : Type} (a0 : T1) (b0 : T2) (body : T1 → T2 → (T1 → T2 → Prop) → Prop) : Prop :=
  ∃ (I : T1 → T2 → Prop) (μ : T1 → T2 → Nat), I a0 b0 ∧ ∀ a b, I a b → body a b (fun a' b' => I a' b' ∧ μ a' b' < μ a b)
abbrev LoopW3 {T1 T2 T3 : Type} (a0 : T1) (b0 : T2) (c0 : T3) (body : T1 → T2 → T3 → (T1 → T2 → T3 → Prop) → Prop) : Prop :=
  ∃ (I : T1 → T2 → T3 → Prop) (μ : T1 → T2 → T3 → Nat), I a0 b0 c0 ∧ ∀ a b c, I a b c → body a b c (fun a' b' c' => I a' b' c' ∧ μ a' b' c' < μ a b c)
abbrev LoopW4 {T1 T2 T3 T4 : Type} (a0 : T1) (b0 : T2) (c0 : T3) (d0 : T4) (body : T1 → T2 → T3 → T4 → (T1 → T2 → T3 → T4 → Prop) → Prop) : Prop :=
  ∃ (I : T1 → T2 → T3 → T4 → Prop) (μ : T1 → T2 → T3 → T4 → Nat), I a0 b0 c0 d0 ∧ ∀ a b c d, I a b c d → body a b c d (fun a' b' c' d' => I a' b' c' d' ∧ μ a' b' c' d' < μ a b c d)
abbrev LoopW5 {T1 T2 T3 T4 T5 : Type} (a0 : T1) (b0 : T2) (c0 : T3) (d0 : T4) (e0 : T5) (body : T1 → T2 → T3 → T4 → T5 → (T1 → T2 → T3 → T4 → T5 → Prop) → Prop) : Prop :=
  ∃ (I : T1 → T2 → T3 → T4 → T5 → Prop) (μ : T1 → T2 → T3 → T4 → T5 → Nat), I a0 b0 c0 d0 e0 ∧ ∀ a b c d e, I a b c d e → body a b c d e (fun a' b' c' d' e' => I a' b' c' d' e' ∧ μ a' b' c' d' e' < μ a b c d e)
abbrev LoopW6 {T1 T2 T3 T4 T5 T6 : Type} (a0 : T1) (b0 : T2) (c0 : T3) (d0 : T4) (e0 : T5) (f0 : T6) (body : T1 → T2 → T3 → T4 → T5 → T6 → (T1 → T2 → T3 → T4 → T5 → T6 → Prop) → Prop) : Prop :=
  ∃ (I : T1 → T2 → T3 → T4 → T5 → T6 → Prop) (μ : T1 → T2 → T3 → T4 → T5 → T6 → Nat), I a0 b0 c0 d0 e0 f0 ∧ ∀ a b c d e f, I a b c d e f → body a b c d e f (fun a' b' c' d' e' f' => I a' b' c' d' e' f' ∧ μ a' b' c' d' e' f' < μ a b c d e f)
abbrev LoopW7 {T1 T2 T3 T4 T5 T6 T7 : Type} (a0 : T1) (b0 : T2) (c0 : T3) (d0 : T4) (e0 : T5) (f0 : T6) (g0 : T7) (body : T1 → T2 → T3 → T4 → T5 → T6 → T7 → (T1 → T2 → T3 → T4 → T5 → T6 → T7 → Prop) → Prop) : Prop :=
  ∃ (I : T1 → T2 → T3 → T4 → T5 → T6 → T7 → Prop) (μ : T1 → T2 → T3 → T4 → T5 → T6 → T7 → Nat), I a0 b0 c0 d0 e0 f0 g0 ∧ ∀ a b c d e f g, I a b c d e f g → body a b c d e f g (fun a' b' c' d' e' f' g' => I a' b' c' d' e' f' g' ∧ μ a' b' c' d' e' f' g' < μ a b c d e f g)
abbrev LoopW8 {T1 T2 T3 T4 T5 T6 T7 T8 : Type} (a0 : T1) (b0 : T2) (c0 : T3) (d0 : T4) (e0 : T5) (f0 : T6) (g0 : T7) (h0 : T8) (body : T1 → T2 → T3 → T4 → T5 → T6 → T7 → T8 → (T1 → T2 → T3 → T4 → T5 → T6 → T7 → T8 → Prop) → Prop) : Prop :=
  ∃ (I : T1 → T2 → T3 → T4 → T5 → T6 → T7 → T8 → Prop) (μ : T1 → T2 → T3 → T4 → T5 → T6 → T7 → T8 → Nat), I a0 b0 c0 d0 e0 f0 g0 h0 ∧ ∀ a b c d e f g h, I a b c d e f g h → body a b c d e f g h (fun a' b' c' d' e' f' g' h' => I a' b' c' d' e' f' g' h' ∧ μ a' b' c' d' e' f' g' h' < μ a b c d e f g h)
abbrev LoopW9 {T1 T2 T3 T4 T5 T6 T7 T8 T9 : Type} (a0 : T1) (b0 : T2) (c0 : T3) (d0 : T4) (e0 : T5) (f0 : T6) (g0 : T7) (h0 : T8) (i0 : T9) (body : T1 → T2 → T3 → T4 → T5 → T6 → T7 → T8 → T9 → (T1 → T2 → T3 → T4 → T5 → T6 → T7 → T8 → T9 → Prop) → Prop) : Prop :=
  ∃ (I : T1 → T2 → T3 → T4 → T5 → T6 → T7 → T8 → T9 → Prop) (μ : T1 → T2 → T3 → T4 → T5 → T6 → T7 → T8 → T9 → Nat), I a0 b0 c0 d0 e0 f0 g0 h0 i0 ∧ ∀ a b c d e f g h i, I a b c d e f g h i → body a b c d e f g h i (fun a' b' c' d' e' f' g' h' i' => I a' b' c' d' e' f' g' h' i' ∧ μ a' b' c' d' e' f' g' h' i' < μ a b c d e f g h i)

/-- what stands in a row after a copy to its place l -/
def cpL (xs : List Int) (l : Nat) (ys : List Int) : List Int := xs.take l ++ ys.take (xs.length - l) ++ xs.drop (l + ys.length)
/- arithmetic that goes round -/
def w64 (z : Int) : Int := if z % 18446744073709551616 < 9223372036854775808 then z % 18446744073709551616 else z % 18446744073709551616 - 18446744073709551616
def wmul (a b : Int) : Int := w64 (a * b)
def wadd (a b : Int) : Int := w64 (a + b)
def wxor (a b : Int) : Int := w64 (((BitVec.ofInt 64 a ^^^ BitVec.ofInt 64 b).toNat : Nat) : Int)
def wand (a b : Int) : Int := w64 (((BitVec.ofInt 64 a &&& BitVec.ofInt 64 b).toNat : Nat) : Int)
theorem wand_rng {a b : Int} (h0 : 0 ≤ b) (h1 : b < 9223372036854775808) : 0 ≤ wand a b ∧ wand a b ≤ b := by
  have h3 : (BitVec.ofInt 64 b).toNat = b.toNat := by rw [BitVec.toNat_ofInt]; omega
  have h4 : (BitVec.ofInt 64 a &&& BitVec.ofInt 64 b).toNat ≤ b.toNat := by rw [BitVec.toNat_and, h3]; exact Nat.and_le_right
  unfold wand w64
  omega
end Go.Proofs.Ytddjkiefadiijaa
