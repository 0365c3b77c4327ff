/- Plain models of functions of the program, printed by a program (gen2.py): what each asks and what it hands on. No statement of the claim stands here. -/
import Derived.Test.YtddjkiefadiijaaPure
namespace Go.Proofs.Ytddjkiefadiijaa
def m_laws_big (p0 : List Byte) (Q : Bool → Prop) : Prop :=
  Q (decide ((p0.length : Int) > 1048576))

abbrev m_spec_l01New_raw_K0 (Q : Int → Int → Prop) (v40 : Int) : Prop :=
  Q 0 v40
def m_spec_l01New_raw (p0 : List Byte) (Q : Int → Int → Prop) : Prop :=
  ok64 (33061 + (p0.length : Int)) ∧ LoopW2 (33061 + (p0.length : Int)) 0 (fun v43 v44 next52 => ((((v44 < (p0.length : Int)) ∧ (v44 < 4000))) → ix v44 p0.length ∧ ok64 (v44 + 1) ∧ next52 (wand (wadd (wadd (wmul v43 131) ((p0[(Int.toNat v44)]!).val : Int)) 7) 1073741823) (v44 + 1)) ∧ (¬ (((v44 < (p0.length : Int)) ∧ (v44 < 4000))) → (m_spec_l01New_raw_K0 Q) v43))
def m_spec_l01New (p0 : List Byte) (Q : Prop) : Prop := p0.length ≤ 1099511627776 ∧ Q

def m_spec_l01Byte_raw (p0 : List Byte) (i0 : Int) (h0 : Int) (Q : Int → Int → Int → Prop) : Prop :=
  ((i0 < (p0.length : Int)) → ix i0 p0.length ∧ ok64 (i0 + 1) ∧ Q (wand (wadd (wand (wxor (sar (wadd (wmul h0 6364136223846793005) 1442695040888963407) 33) (sar (wadd (wmul h0 6364136223846793005) 1442695040888963407) 45)) 255) ((p0[(Int.toNat i0)]!).val : Int)) 255) (i0 + 1) (wadd (wmul h0 6364136223846793005) 1442695040888963407)) ∧ (¬ (i0 < (p0.length : Int)) → Q (wand (wxor (sar (wadd (wmul h0 6364136223846793005) 1442695040888963407) 33) (sar (wadd (wmul h0 6364136223846793005) 1442695040888963407) 45)) 255) i0 (wadd (wmul h0 6364136223846793005) 1442695040888963407))
def m_spec_l01Byte (Q : Int → Prop) : Prop := ∀ r : Int, 0 ≤ r → r ≤ 255 → Q r

def m_spec_l01Below (p1 : Int) (Q : Int → Prop) : Prop :=
  ((p1 ≤ 0) → Q 0) ∧ (¬ (p1 ≤ 0) → ((p1 ≤ 256) → m_spec_l01Byte (fun r14 => p1 ≠ 0 ∧ Q (Int.tmod r14 p1))) ∧ (¬ (p1 ≤ 256) → m_spec_l01Byte (fun r21 => m_spec_l01Byte (fun r27 => m_spec_l01Byte (fun r33 => m_spec_l01Byte (fun r39 => ok64 (r21 * 16777216) ∧ ok64 (r27 * 65536) ∧ ok64 ((r21 * 16777216) + (r27 * 65536)) ∧ ok64 (r33 * 256) ∧ ok64 (((r21 * 16777216) + (r27 * 65536)) + (r33 * 256)) ∧ ok64 ((((r21 * 16777216) + (r27 * 65536)) + (r33 * 256)) + r39) ∧ p1 ≠ 0 ∧ Q (Int.tmod ((((r21 * 16777216) + (r27 * 65536)) + (r33 * 256)) + r39) p1)))))))

def m_spec_l01PickInt (p1 : List Int) (Q : Int → (List Int) → Prop) : Prop :=
  m_spec_l01Below (p1.length : Int) (fun r8 => ix r8 p1.length ∧ Q (p1[(Int.toNat r8)]!) p1)

def m_spec_l01Once (p1 : Int) (Q : Bool → Prop) : Prop :=
  m_spec_l01Below p1 (fun r7 => Q (decide (r7 = 0)))

abbrev m_spec_l13List_K0 (x790 : List PlayerC) (r829 : Int) (kont817 : List PlayerC → Prop) (x951 : List Int) : Prop :=
  x790.length + 1 ≤ 1099511627776 ∧ kont817 (x790 ++ ([(x951, r829)]))
abbrev m_spec_l13List_K1 (v796 : Int) (next807 : List PlayerC → Int → Prop) (x811 : List PlayerC) : Prop :=
  ok64 (v796 + 1) ∧ next807 x811 (v796 + 1)
abbrev m_spec_l13List_K2 (Q : (List PlayerC) → Prop) (x782 : List PlayerC) : Prop :=
  Q x782
def m_spec_l13List (Q : (List PlayerC) → Prop) : Prop :=
  m_spec_l01Below 5 (fun r19 => ok64 (1 + r19) ∧ LoopW2 ([]) 0 (fun x790 v796 next807 => ((v796 < (1 + r19)) → m_spec_l01PickInt ([0, 1, 1, 2, 2]) (fun r829 x830 => LoopW2 0 ([]) (fun v958 x959 next979 => ((v958 < 6) → m_spec_l01Once 2 (fun r988 => ((r988 = true) → x959.length + 1 ≤ 1099511627776 ∧ ok64 (v958 + 1) ∧ next979 (v958 + 1) (x959 ++ ([v958]))) ∧ (¬ (r988 = true) → ok64 (v958 + 1) ∧ next979 (v958 + 1) x959))) ∧ (¬ (v958 < 6) → (m_spec_l13List_K0 x790 r829 (m_spec_l13List_K1 v796 next807)) x959)))) ∧ (¬ (v796 < (1 + r19)) → (m_spec_l13List_K2 Q) x790)))

abbrev m_spec_DrawPlayers_K0 (r14 : List PlayerC) (Q : (List PlayerC) → (List Int) → Prop) (x118 : List Int) : Prop :=
  Q r14 x118
def m_spec_DrawPlayers (p0 : List Byte) (Q : (List PlayerC) → (List Int) → Prop) : Prop :=
  m_spec_l01New p0 (m_spec_l13List (fun r14 => LoopW2 ([]) 0 (fun x124 v128 next139 => ((v128 < 6) → m_spec_l01Once 3 (fun r148 => ((r148 = true) → x124.length + 1 ≤ 1099511627776 ∧ ok64 (v128 + 1) ∧ next139 (x124 ++ ([v128])) (v128 + 1)) ∧ (¬ (r148 = true) → ok64 (v128 + 1) ∧ next139 x124 (v128 + 1)))) ∧ (¬ (v128 < 6) → (m_spec_DrawPlayers_K0 r14 Q) x124))))

def m_impl_within (p0 : Int) (p1 : Int) (p2 : Int) (Q : Bool → Prop) : Prop :=
  Q ((decide (p0 ≥ p1)) && (decide (p0 ≤ p2)))

abbrev m_impl_allWithin_K0 (Q : Bool → Prop) : Prop :=
  Q true
def m_impl_allWithin (p0 : List Int) (p1 : Int) (p2 : Int) (Q : Bool → Prop) : Prop :=
  LoopW1 0 (fun v28 next36 => ((v28 < (p0.length : Int)) → ix v28 p0.length ∧ m_impl_within (p0[(Int.toNat v28)]!) p1 p2 (fun r47 => ((¬ (r47 = true)) → Q false) ∧ (¬ (¬ (r47 = true)) → ok64 (v28 + 1) ∧ next36 (v28 + 1)))) ∧ (¬ (v28 < (p0.length : Int)) → (m_impl_allWithin_K0 Q)))

abbrev m_impl_isStrict_K0 (p0 : List Int) (p1 : Int) (p2 : Int) (Q : Bool → Prop) : Prop :=
  m_impl_allWithin p0 p1 p2 (fun r200 => Q r200)
def m_impl_isStrict (p0 : List Int) (p1 : Int) (p2 : Int) (Q : Bool → Prop) : Prop :=
  LoopW1 0 (fun v98 next106 => ((v98 < (p0.length : Int)) → (v98 > 0 → ix v98 p0.length) ∧ (v98 > 0 → ok64 (v98 - 1)) ∧ (v98 > 0 → ix (v98 - 1) p0.length) ∧ ((((v98 > 0) ∧ (p0[(Int.toNat v98)]! ≤ p0[(Int.toNat (v98 - 1))]!))) → Q false) ∧ (¬ (((v98 > 0) ∧ (p0[(Int.toNat v98)]! ≤ p0[(Int.toNat (v98 - 1))]!))) → ok64 (v98 + 1) ∧ next106 (v98 + 1))) ∧ (¬ (v98 < (p0.length : Int)) → (m_impl_isStrict_K0 p0 p1 p2 Q)))

abbrev m_impl_PlayersOk_K0 (p0 : List PlayerC) (Q : Bool → Prop) : Prop :=
  m_impl_within (p0.length : Int) 1 6 (fun r101 => Q r101)
def m_impl_PlayersOk (p0 : List PlayerC) (Q : Bool → Prop) : Prop :=
  LoopW1 0 (fun v48 next56 => ((v48 < (p0.length : Int)) → ix v48 p0.length ∧ m_impl_isStrict (p0[(Int.toNat v48)]!.1) 0 6 (fun r77 => ∃ r83 : Bool, (¬ (¬ (r77 = true)) → m_impl_within (p0[(Int.toNat v48)]!.2) 0 2 (fun z => z = r83)) ∧ ((((¬ (r77 = true)) ∨ (¬ (r83 = true)))) → Q false) ∧ (¬ (((¬ (r77 = true)) ∨ (¬ (r83 = true)))) → ok64 (v48 + 1) ∧ next56 (v48 + 1)))) ∧ (¬ (v48 < (p0.length : Int)) → (m_impl_PlayersOk_K0 p0 Q)))

def m_impl_arePuppets (p0 : List Int) (Q : Bool → Prop) : Prop :=
  m_impl_isStrict p0 0 6 (fun r6 => Q r6)

def m_impl_FirstCasting_1 (p0 : List Int) (q0 : List Int) (q1 : Bool) (Q : Bool → (List Int) → Bool → Prop) : Prop :=
  Q false p0 true

def m_impl_copyOf (p0 : List Int) (Q : (List Int) → Prop) : Prop :=
  0 + p0.length ≤ 1099511627776 ∧ Q p0

abbrev m_impl_indexOf_K0 (Q : Int → Prop) : Prop :=
  Q (-1)
def m_impl_indexOf (p0 : List Int) (p1 : Int) (Q : Int → Prop) : Prop :=
  LoopW1 0 (fun v22 next30 => ((v22 < (p0.length : Int)) → ix v22 p0.length ∧ ((p0[(Int.toNat v22)]! = p1) → Q v22) ∧ (¬ (p0[(Int.toNat v22)]! = p1) → ok64 (v22 + 1) ∧ next30 (v22 + 1))) ∧ (¬ (v22 < (p0.length : Int)) → (m_impl_indexOf_K0 Q)))

abbrev m_impl_castings_1_FirstCasting_1_K0 (Q : Bool → (List Int) → (List Int) → (List Int) → Bool → Prop) (v680 : Bool) (x681 : List Int) (x685 : List Int) (x689 : List Int) : Prop :=
  Q true x689 x685 x681 v680
def m_impl_castings_1_FirstCasting_1_step (rec_ : (List Int) → (List Int) → (List PlayerC) → (List Int) → (List Int) → Bool → (Bool → (List Int) → (List Int) → (List Int) → Bool → Prop) → Prop) (q0 : List Int) (q1 : List Int) (q3 : List PlayerC) (q4 : List Int) (q2_0 : List Int) (q2_1 : Bool) (Q : Bool → (List Int) → (List Int) → (List Int) → Bool → Prop) : Prop :=
  (((q0.length : Int) = (q1.length : Int)) → m_impl_copyOf q0 (fun r36 => m_impl_FirstCasting_1 r36 q2_0 q2_1 (fun r54 x55 x59 => Q r54 q0 q4 x55 x59))) ∧ (¬ ((q0.length : Int) = (q1.length : Int)) → LoopW5 0 q2_1 q2_0 q4 q0 (fun v695 v696 x697 x701 x705 next727 => ((v695 < (q3.length : Int)) → ix v695 q3.length ∧ ix v695 x701.length ∧ (¬ (x701[(Int.toNat v695)]! = 0) → ix (x705.length : Int) q1.length) ∧ ∃ r816 : Int, (¬ (x701[(Int.toNat v695)]! = 0) → m_impl_indexOf (q3[(Int.toNat v695)]!.1) (q1[(Int.toNat (x705.length : Int))]!) (fun z => z = r816)) ∧ ((((x701[(Int.toNat v695)]! = 0) ∨ (r816 < 0))) → ok64 (v695 + 1) ∧ next727 (v695 + 1) v696 x697 x701 x705) ∧ (¬ (((x701[(Int.toNat v695)]! = 0) ∨ (r816 < 0))) → ix v695 x701.length ∧ ok64 (x701[(Int.toNat v695)]! - 1) ∧ ix v695 x701.length ∧ x705.length + 1 ≤ 1099511627776 ∧ rec_ (x705 ++ ([v695])) q1 q3 (x701.set (Int.toNat v695) (x701[(Int.toNat v695)]! - 1)) x697 v696 (fun r878 x879 x883 x887 x891 => ok64 ((x879.length : Int) - 1) ∧ (0 ≤ ((x879.length : Int) - 1) ∧ ((x879.length : Int) - 1) ≤ (x879.length : Int)) ∧ ix v695 x883.length ∧ ok64 (x883[(Int.toNat v695)]! + 1) ∧ ix v695 x883.length ∧ ((¬ (r878 = true)) → Q false (x879.take (Int.toNat ((x879.length : Int) - 1))) (x883.set (Int.toNat v695) (x883[(Int.toNat v695)]! + 1)) x887 x891) ∧ (¬ (¬ (r878 = true)) → ok64 (v695 + 1) ∧ next727 (v695 + 1) x891 x887 (x883.set (Int.toNat v695) (x883[(Int.toNat v695)]! + 1)) (x879.take (Int.toNat ((x879.length : Int) - 1))))))) ∧ (¬ (v695 < (q3.length : Int)) → (m_impl_castings_1_FirstCasting_1_K0 Q) v696 x697 x701 x705)))
def m_impl_castings_1_FirstCasting_1 : Nat → (List Int) → (List Int) → (List PlayerC) → (List Int) → (List Int) → Bool → (Bool → (List Int) → (List Int) → (List Int) → Bool → Prop) → Prop
  | 0 => fun _ _ _ _ _ _ _ => False
  | f_ + 1 => m_impl_castings_1_FirstCasting_1_step (m_impl_castings_1_FirstCasting_1 f_)

abbrev m_impl_castings_FirstCasting_1_K0 (p0 : List PlayerC) (p1 : List Int) (p2_0 : List Int) (p2_1 : Bool) (Q : (List Int) → Bool → Prop) (x187 : List Int) : Prop :=
  ∃ f292 : Nat, m_impl_castings_1_FirstCasting_1 f292 ([]) p1 p0 x187 p2_0 p2_1 (fun r296 x297 x301 x305 x309 => Q x305 x309)
def m_impl_castings_FirstCasting_1 (p0 : List PlayerC) (p1 : List Int) (p2_0 : List Int) (p2_1 : Bool) (Q : (List Int) → Bool → Prop) : Prop :=
  LoopW2 0 ([]) (fun v193 x194 next215 => ((v193 < (p0.length : Int)) → ix v193 p0.length ∧ x194.length + 1 ≤ 1099511627776 ∧ ok64 (v193 + 1) ∧ next215 (v193 + 1) (x194 ++ ([p0[(Int.toNat v193)]!.2]))) ∧ (¬ (v193 < (p0.length : Int)) → (m_impl_castings_FirstCasting_1_K0 p0 p1 p2_0 p2_1 Q) x194))

def m_impl_FirstCasting (p0 : List PlayerC) (p1 : List Int) (Q : (List Int) → Bool → Prop) : Prop :=
  m_impl_PlayersOk p0 (fun r7 => ∃ r12 : Bool, (¬ (¬ (r7 = true)) → m_impl_arePuppets p1 (fun z => z = r12)) ∧ ((((¬ (r7 = true)) ∨ (¬ (r12 = true)))) → Q ([]) false) ∧ (¬ (((¬ (r7 = true)) ∨ (¬ (r12 = true)))) → m_impl_castings_FirstCasting_1 p0 p1 ([]) false (fun x50 x54 => Q x50 x54)))

abbrev m_impl_subset_K0 (Q : (List Int) → Prop) (x84 : List Int) : Prop :=
  Q x84
def m_impl_subset (p0 : List Int) (p1 : Int) (Q : (List Int) → Prop) : Prop :=
  LoopW2 ([]) 0 (fun x90 v94 next102 => ((v94 < (p0.length : Int)) → ix v94 p0.length ∧ (0 ≤ v94 ∧ v94 < 64) ∧ ((0 : Int) ≤ (sar p1 v94) ∧ (0 : Int) ≤ 1 ∧ ((sar p1 v94) : Int) < 9223372036854775808 ∧ (1 : Int) < 9223372036854775808) ∧ (((band (sar p1 v94) 1) = 1) → x90.length + 1 ≤ 1099511627776 ∧ ok64 (v94 + 1) ∧ next102 (x90 ++ ([p0[(Int.toNat v94)]!])) (v94 + 1)) ∧ (¬ ((band (sar p1 v94) 1) = 1) → ok64 (v94 + 1) ∧ next102 x90 (v94 + 1))) ∧ (¬ (v94 < (p0.length : Int)) → (m_impl_subset_K0 Q) x90))

abbrev m_impl_HandsFor_K0 (v210 : Int) (next218 : Int → Int → Prop) (v222 : Int) : Prop :=
  ok64 (v210 + 1) ∧ next218 v222 (v210 + 1)
abbrev m_impl_HandsFor_K1 (Q : Int → Prop) (v206 : Int) : Prop :=
  Q v206
def m_impl_HandsFor (p0 : List PlayerC) (p1 : List Int) (Q : Int → Prop) : Prop :=
  m_impl_PlayersOk p0 (fun r7 => ∃ r12 : Bool, (¬ (¬ (r7 = true)) → m_impl_arePuppets p1 (fun z => z = r12)) ∧ ((((¬ (r7 = true)) ∨ (¬ (r12 = true)))) → Q (-1)) ∧ (¬ (((¬ (r7 = true)) ∨ (¬ (r12 = true)))) → LoopW2 0 0 (fun v209 v210 next218 => ((v210 < (p0.length : Int)) → ix v210 p0.length ∧ LoopW1 0 (fun v237 next245 => ((v237 < (p1.length : Int)) → ix v237 p1.length ∧ m_impl_indexOf (p0[(Int.toNat v210)]!.1) (p1[(Int.toNat v237)]!) (fun r256 => ((r256 ≥ 0) → ok64 (v209 + p0[(Int.toNat v210)]!.2) ∧ (m_impl_HandsFor_K0 v210 next218) (v209 + p0[(Int.toNat v210)]!.2)) ∧ (¬ (r256 ≥ 0) → ok64 (v237 + 1) ∧ next245 (v237 + 1)))) ∧ (¬ (v237 < (p1.length : Int)) → (m_impl_HandsFor_K0 v210 next218) v209))) ∧ (¬ (v210 < (p0.length : Int)) → (m_impl_HandsFor_K1 Q) v209))))

def m_impl_IsShort (p0 : List PlayerC) (p1 : List Int) (Q : Bool → Prop) : Prop :=
  m_impl_HandsFor p0 p1 (fun r6 => Q ((decide (r6 ≠ (-1))) && (decide (r6 < (p1.length : Int)))))

abbrev m_impl_ShortSet_K0 (Q : (List Int) → Bool → Prop) : Prop :=
  Q ([]) false
def m_impl_ShortSet (p0 : List PlayerC) (p1 : List Int) (Q : (List Int) → Bool → Prop) : Prop :=
  m_impl_PlayersOk p0 (fun r7 => ∃ r12 : Bool, (¬ (¬ (r7 = true)) → m_impl_arePuppets p1 (fun z => z = r12)) ∧ ((((¬ (r7 = true)) ∨ (¬ (r12 = true)))) → Q ([]) false) ∧ (¬ (((¬ (r7 = true)) ∨ (¬ (r12 = true)))) → (0 ≤ (p1.length : Int) ∧ (p1.length : Int) < 64) ∧ ok64 (sal 1 (p1.length : Int)) ∧ LoopW1 0 (fun v61 next69 => ((v61 < (sal 1 (p1.length : Int))) → m_impl_subset p1 v61 (fun r79 => m_impl_IsShort p0 r79 (fun r90 => ((r90 = true) → Q r79 true) ∧ (¬ (r90 = true) → ok64 (v61 + 1) ∧ next69 (v61 + 1))))) ∧ (¬ (v61 < (sal 1 (p1.length : Int))) → (m_impl_ShortSet_K0 Q)))))

abbrev m_impl_MostCast_K0 (Q : Int → Prop) (v150 : Int) : Prop :=
  Q v150
def m_impl_MostCast (p0 : List PlayerC) (p1 : List Int) (Q : Int → Prop) : Prop :=
  m_impl_PlayersOk p0 (fun r7 => ∃ r12 : Bool, (¬ (¬ (r7 = true)) → m_impl_arePuppets p1 (fun z => z = r12)) ∧ ((((¬ (r7 = true)) ∨ (¬ (r12 = true)))) → Q (-1)) ∧ (¬ (((¬ (r7 = true)) ∨ (¬ (r12 = true)))) → (0 ≤ (p1.length : Int) ∧ (p1.length : Int) < 64) ∧ ok64 (sal 1 (p1.length : Int)) ∧ LoopW2 0 0 (fun v155 v156 next164 => ((v156 < (sal 1 (p1.length : Int))) → m_impl_subset p1 v156 (fun r174 => (((r174.length : Int) ≤ v155) → ok64 (v156 + 1) ∧ next164 v155 (v156 + 1)) ∧ (¬ ((r174.length : Int) ≤ v155) → m_impl_FirstCasting p0 r174 (fun r190 r195 => ((r195 = true) → ok64 (v156 + 1) ∧ next164 (r174.length : Int) (v156 + 1)) ∧ (¬ (r195 = true) → ok64 (v156 + 1) ∧ next164 v155 (v156 + 1)))))) ∧ (¬ (v156 < (sal 1 (p1.length : Int))) → (m_impl_MostCast_K0 Q) v155))))

abbrev m_impl_LackOf_K0 (Q : Int → Prop) (v93 : Int) : Prop :=
  Q v93
def m_impl_LackOf (p0 : List PlayerC) (p1 : List Int) (Q : Int → Prop) : Prop :=
  m_impl_PlayersOk p0 (fun r7 => ∃ r12 : Bool, (¬ (¬ (r7 = true)) → m_impl_arePuppets p1 (fun z => z = r12)) ∧ ((((¬ (r7 = true)) ∨ (¬ (r12 = true)))) → Q (-1)) ∧ (¬ (((¬ (r7 = true)) ∨ (¬ (r12 = true)))) → (0 ≤ (p1.length : Int) ∧ (p1.length : Int) < 64) ∧ ok64 (sal 1 (p1.length : Int)) ∧ LoopW2 0 0 (fun v98 v99 next107 => ((v99 < (sal 1 (p1.length : Int))) → m_impl_subset p1 v99 (fun r117 => m_impl_HandsFor p0 r117 (fun r127 => ok64 ((r117.length : Int) - r127) ∧ ok64 (v99 + 1) ∧ next107 (max v98 ((r117.length : Int) - r127)) (v99 + 1)))) ∧ (¬ (v99 < (sal 1 (p1.length : Int))) → (m_impl_LackOf_K0 Q) v98))))

abbrev m_laws_has_K0 (Q : Bool → Prop) : Prop :=
  Q false
def m_laws_has (p0 : List Int) (p1 : Int) (Q : Bool → Prop) : Prop :=
  LoopW1 0 (fun v21 next29 => ((v21 < (p0.length : Int)) → ix v21 p0.length ∧ ((p0[(Int.toNat v21)]! = p1) → Q true) ∧ (¬ (p0[(Int.toNat v21)]! = p1) → ok64 (v21 + 1) ∧ next29 (v21 + 1))) ∧ (¬ (v21 < (p0.length : Int)) → (m_laws_has_K0 Q)))

def m_spec_l01In (p0 : Int) (p1 : Int) (p2 : Int) (Q : Bool → Prop) : Prop :=
  Q ((decide (p0 ≥ p1)) && (decide (p0 ≤ p2)))

abbrev m_spec_l11Rising_K0 (Q : Bool → Prop) : Prop :=
  Q true
def m_spec_l11Rising (p0 : List Int) (p1 : Int) (Q : Bool → Prop) : Prop :=
  LoopW1 0 (fun v140 next148 => ((v140 < (p0.length : Int)) → ix v140 p0.length ∧ ∃ r183 : Bool, m_spec_l01In (p0[(Int.toNat v140)]!) 0 p1 (fun z => z = r183) ∧ ((¬ (¬ (r183 = true))) ∧ (v140 > 0) → ix v140 p0.length) ∧ ((¬ (¬ (r183 = true))) ∧ (v140 > 0) → ok64 (v140 - 1)) ∧ ((¬ (¬ (r183 = true))) ∧ (v140 > 0) → ix (v140 - 1) p0.length) ∧ ((((¬ (r183 = true)) ∨ (((v140 > 0) ∧ (p0[(Int.toNat v140)]! ≤ p0[(Int.toNat (v140 - 1))]!))))) → Q false) ∧ (¬ (((¬ (r183 = true)) ∨ (((v140 > 0) ∧ (p0[(Int.toNat v140)]! ≤ p0[(Int.toNat (v140 - 1))]!))))) → ok64 (v140 + 1) ∧ next148 (v140 + 1))) ∧ (¬ (v140 < (p0.length : Int)) → (m_spec_l11Rising_K0 Q)))

abbrev m_spec_PlayersOk_K0 (p0 : List PlayerC) (Q : Bool → Prop) : Prop :=
  m_spec_l01In (p0.length : Int) 1 6 (fun r86 => Q r86)
def m_spec_PlayersOk (p0 : List PlayerC) (Q : Bool → Prop) : Prop :=
  LoopW1 0 (fun v41 next49 => ((v41 < (p0.length : Int)) → ix v41 p0.length ∧ m_spec_l11Rising (p0[(Int.toNat v41)]!.1) 6 (fun r59 => (¬ (¬ (r59 = true)) → ix v41 p0.length) ∧ ∃ r69 : Bool, (¬ (¬ (r59 = true)) → m_spec_l01In (p0[(Int.toNat v41)]!.2) 0 2 (fun z => z = r69)) ∧ ((((¬ (r59 = true)) ∨ (¬ (r69 = true)))) → Q false) ∧ (¬ (((¬ (r59 = true)) ∨ (¬ (r69 = true)))) → ok64 (v41 + 1) ∧ next49 (v41 + 1)))) ∧ (¬ (v41 < (p0.length : Int)) → (m_spec_PlayersOk_K0 p0 Q)))

abbrev m_spec_HandsFree_K0 (Q : Int → Prop) (v47 : Int) : Prop :=
  Q v47
def m_spec_HandsFree (p0 : List PlayerC) (Q : Int → Prop) : Prop :=
  m_spec_PlayersOk p0 (fun r7 => ((¬ (r7 = true)) → Q (-1)) ∧ (¬ (¬ (r7 = true)) → LoopW2 0 0 (fun v50 v51 next59 => ((v51 < (p0.length : Int)) → ix v51 p0.length ∧ ok64 (v50 + p0[(Int.toNat v51)]!.2) ∧ ok64 (v51 + 1) ∧ next59 (v50 + p0[(Int.toNat v51)]!.2) (v51 + 1)) ∧ (¬ (v51 < (p0.length : Int)) → (m_spec_HandsFree_K0 Q) v50))))

abbrev m_laws_FnProofs_K0 (r16 : List PlayerC) (r25 : List Int) (r60 : Int) (Q : Bool → Prop) : Prop :=
  m_impl_HandsFor r16 r25 (fun r172 => ∃ r179 : Int, (r172 ≥ 0 → m_spec_HandsFree r16 (fun z => z = r179)) ∧ ∃ r189 : Int, (((r172 ≥ 0) ∧ (r172 ≤ r179)) → m_spec_HandsFree r16 (fun z => z = r189)) ∧ ∃ r199 : Bool, (((((r172 ≥ 0) ∧ (r172 ≤ r179))) ∧ (r60 ≤ r189)) → m_impl_IsShort r16 r25 (fun z => z = r199)) ∧ ∃ r212 : Int, (((((((r172 ≥ 0) ∧ (r172 ≤ r179))) ∧ (r60 ≤ r189))) ∧ ((r199) = (decide (r172 < (r25.length : Int))))) → m_impl_HandsFor r16 [] (fun z => z = r212)) ∧ Q (((((decide (r172 ≥ 0)) && (decide (r172 ≤ r179))) && (decide (r60 ≤ r189))) && (decide ((r199) = (decide (r172 < (r25.length : Int)))))) && (decide (r212 = 0))))
def m_laws_FnProofs (p0 : List Byte) (Q : Bool → Prop) : Prop :=
  m_laws_big p0 (fun r7 => ((r7 = true) → Q true) ∧ (¬ (r7 = true) → m_spec_DrawPlayers p0 (fun r16 r25 => m_impl_FirstCasting r16 r25 (fun r36 r41 => m_impl_ShortSet r16 r25 (fun r48 r53 => m_impl_MostCast r16 r25 (fun r60 => m_impl_LackOf r16 r25 (fun r67 => (¬ ((((((r53) = (r41)) ∨ (r60 < 0))) ∨ (r60 > (r25.length : Int)))) → ok64 ((r25.length : Int) - r60)) ∧ ∃ r94 : Bool, ((¬ ((((((((((r53) = (r41)) ∨ (r60 < 0))) ∨ (r60 > (r25.length : Int)))) ∨ (r67 ≠ ((r25.length : Int) - r60)))) ∨ ((decide (r67 = 0)) ≠ (r41))))) ∧ (r53 = true) → m_impl_IsShort r16 r48 (fun z => z = r94)) ∧ (((((((((((((r53) = (r41)) ∨ (r60 < 0))) ∨ (r60 > (r25.length : Int)))) ∨ (r67 ≠ ((r25.length : Int) - r60)))) ∨ ((decide (r67 = 0)) ≠ (r41)))) ∨ (((r53 = true) ∧ (¬ (r94 = true)))))) → Q false) ∧ (¬ ((((((((((((r53) = (r41)) ∨ (r60 < 0))) ∨ (r60 > (r25.length : Int)))) ∨ (r67 ≠ ((r25.length : Int) - r60)))) ∨ ((decide (r67 = 0)) ≠ (r41)))) ∨ (((r53 = true) ∧ (¬ (r94 = true)))))) → LoopW1 0 (fun v134 next147 => ((v134 < (r48.length : Int)) → ix v134 r48.length ∧ m_laws_has r25 (r48[(Int.toNat v134)]!) (fun r157 => ((¬ (r157 = true)) → Q false) ∧ (¬ (¬ (r157 = true)) → ok64 (v134 + 1) ∧ next147 (v134 + 1)))) ∧ (¬ (v134 < (r48.length : Int)) → (m_laws_FnProofs_K0 r16 r25 r60 Q)))))))))))

end Go.Proofs.Ytddjkiefadiijaa
