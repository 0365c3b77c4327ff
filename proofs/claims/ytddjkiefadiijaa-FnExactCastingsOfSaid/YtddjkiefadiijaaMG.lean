/- Plain models of functions of the program, printed by a program (gen2.py): what each asks and what it hands on. No statement of the claim stands here. -/
import Derived.Test.YtddjkiefadiijaaPure
namespace Go.Proofs.Ytddjkiefadiijaa
def m_laws_szIntS (p0 : List Int) (p1 : Int) (Q : Int → Prop) : Prop :=
  ok64 (p1 - (p0.length : Int)) ∧ (((p1 - (p0.length : Int)) < 0) → Q (-1)) ∧ (¬ ((p1 - (p0.length : Int)) < 0) → Q (p1 - (p0.length : Int)))

def m_laws_szPlayer (p0 : PlayerC) (p1 : Int) (Q : Int → Prop) : Prop :=
  m_laws_szIntS p0.1 p1 (fun r12 => ((r12 < 0) → Q (-1)) ∧ (¬ (r12 < 0) → Q r12))

abbrev m_laws_szPlayerS_K0 (Q : Int → Prop) (v60 : Int) : Prop :=
  Q v60
def m_laws_szPlayerS (p0 : List PlayerC) (p1 : Int) (Q : Int → Prop) : Prop :=
  ok64 (p1 - (p0.length : Int)) ∧ (((p1 - (p0.length : Int)) < 0) → Q (-1)) ∧ (¬ ((p1 - (p0.length : Int)) < 0) → LoopW2 (p1 - (p0.length : Int)) 0 (fun v63 v64 next72 => ((v64 < (p0.length : Int)) → ix v64 p0.length ∧ m_laws_szPlayer (p0[(Int.toNat v64)]!) v63 (fun r82 => ((r82 < 0) → Q (-1)) ∧ (¬ (r82 < 0) → ok64 (v64 + 1) ∧ next72 r82 (v64 + 1)))) ∧ (¬ (v64 < (p0.length : Int)) → (m_laws_szPlayerS_K0 Q) v63)))

abbrev m_laws_toIntS_K0 (Q : (List Int) → Prop) (x52 : List Int) : Prop :=
  Q x52
def m_laws_toIntS (p0 : List Int) (Q : (List Int) → Prop) : Prop :=
  (0 ≤ (p0.length : Int) ∧ (p0.length : Int) ≤ 1099511627776) ∧ LoopW2 (List.replicate (Int.toNat (p0.length : Int)) (0 : Int)) 0 (fun x55 v56 next64 => ((v56 < (p0.length : Int)) → ix v56 p0.length ∧ ix v56 x55.length ∧ ok64 (v56 + 1) ∧ next64 (x55.set (Int.toNat v56) (p0[(Int.toNat v56)]!)) (v56 + 1)) ∧ (¬ (v56 < (p0.length : Int)) → (m_laws_toIntS_K0 Q) x55))

def m_laws_toPlayer (p0 : PlayerC) (Q : PlayerC → Prop) : Prop :=
  m_laws_toIntS p0.1 (fun r25 => Q (r25, p0.2))

abbrev m_laws_toPlayerS_K0 (Q : (List PlayerC) → Prop) (x92 : List PlayerC) : Prop :=
  Q x92
def m_laws_toPlayerS (p0 : List PlayerC) (Q : (List PlayerC) → Prop) : Prop :=
  (0 ≤ (p0.length : Int) ∧ (p0.length : Int) ≤ 1099511627776) ∧ LoopW2 (List.replicate (Int.toNat (p0.length : Int)) (([], 0) : PlayerC)) 0 (fun x97 v100 next109 => ((v100 < (p0.length : Int)) → ix v100 p0.length ∧ m_laws_toPlayer (p0[(Int.toNat v100)]!) (fun r118 => ix v100 x97.length ∧ ok64 (v100 + 1) ∧ next109 (x97.set (Int.toNat v100) r118) (v100 + 1))) ∧ (¬ (v100 < (p0.length : Int)) → (m_laws_toPlayerS_K0 Q) x97))

def m_spec_l01In (p0 : Int) (p1 : Int) (p2 : Int) (Q : Bool → Prop) : Prop :=
  Q ((decide (p0 ≥ p1)) && (decide (p0 ≤ p2)))

abbrev m_spec_l11Rising_K0 (Q : Bool → Prop) : Prop :=
  Q true
def m_spec_l11Rising (p0 : List Int) (p1 : Int) (Q : Bool → Prop) : Prop :=
  LoopW1 0 (fun v140 next148 => ((v140 < (p0.length : Int)) → ix v140 p0.length ∧ ∃ r183 : Bool, m_spec_l01In (p0[(Int.toNat v140)]!) 0 p1 (fun z => z = r183) ∧ ((¬ (¬ (r183 = true))) ∧ (v140 > 0) → ix v140 p0.length) ∧ ((¬ (¬ (r183 = true))) ∧ (v140 > 0) → ok64 (v140 - 1)) ∧ ((¬ (¬ (r183 = true))) ∧ (v140 > 0) → ix (v140 - 1) p0.length) ∧ ((((¬ (r183 = true)) ∨ (((v140 > 0) ∧ (p0[(Int.toNat v140)]! ≤ p0[(Int.toNat (v140 - 1))]!))))) → Q false) ∧ (¬ (((¬ (r183 = true)) ∨ (((v140 > 0) ∧ (p0[(Int.toNat v140)]! ≤ p0[(Int.toNat (v140 - 1))]!))))) → ok64 (v140 + 1) ∧ next148 (v140 + 1))) ∧ (¬ (v140 < (p0.length : Int)) → (m_spec_l11Rising_K0 Q)))

abbrev m_spec_PlayersOk_K0 (p0 : List PlayerC) (Q : Bool → Prop) : Prop :=
  m_spec_l01In (p0.length : Int) 1 6 (fun r86 => Q r86)
def m_spec_PlayersOk (p0 : List PlayerC) (Q : Bool → Prop) : Prop :=
  LoopW1 0 (fun v41 next49 => ((v41 < (p0.length : Int)) → ix v41 p0.length ∧ m_spec_l11Rising (p0[(Int.toNat v41)]!.1) 6 (fun r59 => (¬ (¬ (r59 = true)) → ix v41 p0.length) ∧ ∃ r69 : Bool, (¬ (¬ (r59 = true)) → m_spec_l01In (p0[(Int.toNat v41)]!.2) 0 2 (fun z => z = r69)) ∧ ((((¬ (r59 = true)) ∨ (¬ (r69 = true)))) → Q false) ∧ (¬ (((¬ (r59 = true)) ∨ (¬ (r69 = true)))) → ok64 (v41 + 1) ∧ next49 (v41 + 1)))) ∧ (¬ (v41 < (p0.length : Int)) → (m_spec_PlayersOk_K0 p0 Q)))

abbrev m_spec_l13Knows_K0 (Q : Bool → Prop) : Prop :=
  Q false
def m_spec_l13Knows (p0 : PlayerC) (p1 : Int) (Q : Bool → Prop) : Prop :=
  LoopW1 0 (fun v27 next35 => ((v27 < (p0.1.length : Int)) → ix v27 p0.1.length ∧ ((p0.1[(Int.toNat v27)]! = p1) → Q true) ∧ (¬ (p0.1[(Int.toNat v27)]! = p1) → ok64 (v27 + 1) ∧ next35 (v27 + 1))) ∧ (¬ (v27 < (p0.1.length : Int)) → (m_spec_l13Knows_K0 Q)))

abbrev m_spec_l13Search_K0 (p2 : List Int) (Q : (List Int) → Bool → (List Int) → (List Int) → Prop) (x558 : List Int) : Prop :=
  Q ([]) false p2 x558
def m_spec_l13Search_step (rec_ : (List PlayerC) → (List Int) → (List Int) → (List Int) → ((List Int) → Bool → (List Int) → (List Int) → Prop) → Prop) (p0 : List PlayerC) (p1 : List Int) (p2 : List Int) (p3 : List Int) (Q : (List Int) → Bool → (List Int) → (List Int) → Prop) : Prop :=
  (((p2.length : Int) = (p1.length : Int)) → 0 + p2.length ≤ 1099511627776 ∧ Q p2 true p2 p3) ∧ (¬ ((p2.length : Int) = (p1.length : Int)) → LoopW2 p3 0 (fun x561 v562 next571 => ((v562 < (p0.length : Int)) → ix v562 x561.length ∧ ix v562 p0.length ∧ (¬ (x561[(Int.toNat v562)]! ≥ p0[(Int.toNat v562)]!.2) → ix v562 p0.length) ∧ (¬ (x561[(Int.toNat v562)]! ≥ p0[(Int.toNat v562)]!.2) → ix (p2.length : Int) p1.length) ∧ ∃ r675 : Bool, (¬ (x561[(Int.toNat v562)]! ≥ p0[(Int.toNat v562)]!.2) → m_spec_l13Knows (p0[(Int.toNat v562)]!) (p1[(Int.toNat (p2.length : Int))]!) (fun z => z = r675)) ∧ ((((x561[(Int.toNat v562)]! ≥ p0[(Int.toNat v562)]!.2) ∨ (¬ (r675 = true)))) → ok64 (v562 + 1) ∧ next571 x561 (v562 + 1)) ∧ (¬ (((x561[(Int.toNat v562)]! ≥ p0[(Int.toNat v562)]!.2) ∨ (¬ (r675 = true)))) → ix v562 x561.length ∧ ok64 (x561[(Int.toNat v562)]! + 1) ∧ ix v562 x561.length ∧ 0 + p2.length ≤ 1099511627776 ∧ p2.length + 1 ≤ 1099511627776 ∧ rec_ p0 p1 (p2 ++ ([v562])) (x561.set (Int.toNat v562) (x561[(Int.toNat v562)]! + 1)) (fun r733 r738 x739 x740 => ix v562 x740.length ∧ ok64 (x740[(Int.toNat v562)]! - 1) ∧ ix v562 x740.length ∧ ((r738 = true) → Q r733 true p2 (x740.set (Int.toNat v562) (x740[(Int.toNat v562)]! - 1))) ∧ (¬ (r738 = true) → ok64 (v562 + 1) ∧ next571 (x740.set (Int.toNat v562) (x740[(Int.toNat v562)]! - 1)) (v562 + 1))))) ∧ (¬ (v562 < (p0.length : Int)) → (m_spec_l13Search_K0 p2 Q) x561)))
def m_spec_l13Search : Nat → (List PlayerC) → (List Int) → (List Int) → (List Int) → ((List Int) → Bool → (List Int) → (List Int) → Prop) → Prop
  | 0 => fun _ _ _ _ _ => False
  | f_ + 1 => m_spec_l13Search_step (m_spec_l13Search f_)

def m_spec_FirstCasting (p0 : List PlayerC) (p1 : List Int) (Q : (List Int) → Bool → Prop) : Prop :=
  m_spec_PlayersOk p0 (fun r7 => ∃ r12 : Bool, (¬ (¬ (r7 = true)) → m_spec_l11Rising p1 6 (fun z => z = r12)) ∧ ((((¬ (r7 = true)) ∨ (¬ (r12 = true)))) → Q ([]) false) ∧ (¬ (((¬ (r7 = true)) ∨ (¬ (r12 = true)))) → (0 ≤ (p0.length : Int) ∧ (p0.length : Int) ≤ 1099511627776) ∧ ∃ f42 : Nat, m_spec_l13Search f42 p0 p1 ([]) (List.replicate (Int.toNat (p0.length : Int)) (0 : Int)) (fun r46 r51 x52 x53 => Q r46 r51)))

def m_impl_within (p0 : Int) (p1 : Int) (p2 : Int) (Q : Bool → Prop) : Prop :=
  Q ((decide (p0 ≥ p1)) && (decide (p0 ≤ p2)))

abbrev m_impl_allWithin_K0 (Q : Bool → Prop) : Prop :=
  Q true
def m_impl_allWithin (p0 : List Int) (p1 : Int) (p2 : Int) (Q : Bool → Prop) : Prop :=
  LoopW1 0 (fun v28 next36 => ((v28 < (p0.length : Int)) → ix v28 p0.length ∧ m_impl_within (p0[(Int.toNat v28)]!) p1 p2 (fun r47 => ((¬ (r47 = true)) → Q false) ∧ (¬ (¬ (r47 = true)) → ok64 (v28 + 1) ∧ next36 (v28 + 1)))) ∧ (¬ (v28 < (p0.length : Int)) → (m_impl_allWithin_K0 Q)))

abbrev m_impl_isStrict_K0 (p0 : List Int) (p1 : Int) (p2 : Int) (Q : Bool → Prop) : Prop :=
  m_impl_allWithin p0 p1 p2 (fun r200 => Q r200)
def m_impl_isStrict (p0 : List Int) (p1 : Int) (p2 : Int) (Q : Bool → Prop) : Prop :=
  LoopW1 0 (fun v98 next106 => ((v98 < (p0.length : Int)) → (v98 > 0 → ix v98 p0.length) ∧ (v98 > 0 → ok64 (v98 - 1)) ∧ (v98 > 0 → ix (v98 - 1) p0.length) ∧ ((((v98 > 0) ∧ (p0[(Int.toNat v98)]! ≤ p0[(Int.toNat (v98 - 1))]!))) → Q false) ∧ (¬ (((v98 > 0) ∧ (p0[(Int.toNat v98)]! ≤ p0[(Int.toNat (v98 - 1))]!))) → ok64 (v98 + 1) ∧ next106 (v98 + 1))) ∧ (¬ (v98 < (p0.length : Int)) → (m_impl_isStrict_K0 p0 p1 p2 Q)))

abbrev m_impl_PlayersOk_K0 (p0 : List PlayerC) (Q : Bool → Prop) : Prop :=
  m_impl_within (p0.length : Int) 1 6 (fun r101 => Q r101)
def m_impl_PlayersOk (p0 : List PlayerC) (Q : Bool → Prop) : Prop :=
  LoopW1 0 (fun v48 next56 => ((v48 < (p0.length : Int)) → ix v48 p0.length ∧ m_impl_isStrict (p0[(Int.toNat v48)]!.1) 0 6 (fun r77 => ∃ r83 : Bool, (¬ (¬ (r77 = true)) → m_impl_within (p0[(Int.toNat v48)]!.2) 0 2 (fun z => z = r83)) ∧ ((((¬ (r77 = true)) ∨ (¬ (r83 = true)))) → Q false) ∧ (¬ (((¬ (r77 = true)) ∨ (¬ (r83 = true)))) → ok64 (v48 + 1) ∧ next56 (v48 + 1)))) ∧ (¬ (v48 < (p0.length : Int)) → (m_impl_PlayersOk_K0 p0 Q)))

def m_impl_arePuppets (p0 : List Int) (Q : Bool → Prop) : Prop :=
  m_impl_isStrict p0 0 6 (fun r6 => Q r6)

def m_impl_FirstCasting_1 (p0 : List Int) (q0 : List Int) (q1 : Bool) (Q : Bool → (List Int) → Bool → Prop) : Prop :=
  Q false p0 true

def m_impl_copyOf (p0 : List Int) (Q : (List Int) → Prop) : Prop :=
  0 + p0.length ≤ 1099511627776 ∧ Q p0

abbrev m_impl_indexOf_K0 (Q : Int → Prop) : Prop :=
  Q (-1)
def m_impl_indexOf (p0 : List Int) (p1 : Int) (Q : Int → Prop) : Prop :=
  LoopW1 0 (fun v22 next30 => ((v22 < (p0.length : Int)) → ix v22 p0.length ∧ ((p0[(Int.toNat v22)]! = p1) → Q v22) ∧ (¬ (p0[(Int.toNat v22)]! = p1) → ok64 (v22 + 1) ∧ next30 (v22 + 1))) ∧ (¬ (v22 < (p0.length : Int)) → (m_impl_indexOf_K0 Q)))

abbrev m_impl_castings_1_FirstCasting_1_K0 (Q : Bool → (List Int) → (List Int) → (List Int) → Bool → Prop) (v680 : Bool) (x681 : List Int) (x685 : List Int) (x689 : List Int) : Prop :=
  Q true x689 x685 x681 v680
def m_impl_castings_1_FirstCasting_1_step (rec_ : (List Int) → (List Int) → (List PlayerC) → (List Int) → (List Int) → Bool → (Bool → (List Int) → (List Int) → (List Int) → Bool → Prop) → Prop) (q0 : List Int) (q1 : List Int) (q3 : List PlayerC) (q4 : List Int) (q2_0 : List Int) (q2_1 : Bool) (Q : Bool → (List Int) → (List Int) → (List Int) → Bool → Prop) : Prop :=
  (((q0.length : Int) = (q1.length : Int)) → m_impl_copyOf q0 (fun r36 => m_impl_FirstCasting_1 r36 q2_0 q2_1 (fun r54 x55 x59 => Q r54 q0 q4 x55 x59))) ∧ (¬ ((q0.length : Int) = (q1.length : Int)) → LoopW5 0 q2_1 q2_0 q4 q0 (fun v695 v696 x697 x701 x705 next727 => ((v695 < (q3.length : Int)) → ix v695 q3.length ∧ ix v695 x701.length ∧ (¬ (x701[(Int.toNat v695)]! = 0) → ix (x705.length : Int) q1.length) ∧ ∃ r816 : Int, (¬ (x701[(Int.toNat v695)]! = 0) → m_impl_indexOf (q3[(Int.toNat v695)]!.1) (q1[(Int.toNat (x705.length : Int))]!) (fun z => z = r816)) ∧ ((((x701[(Int.toNat v695)]! = 0) ∨ (r816 < 0))) → ok64 (v695 + 1) ∧ next727 (v695 + 1) v696 x697 x701 x705) ∧ (¬ (((x701[(Int.toNat v695)]! = 0) ∨ (r816 < 0))) → ix v695 x701.length ∧ ok64 (x701[(Int.toNat v695)]! - 1) ∧ ix v695 x701.length ∧ x705.length + 1 ≤ 1099511627776 ∧ rec_ (x705 ++ ([v695])) q1 q3 (x701.set (Int.toNat v695) (x701[(Int.toNat v695)]! - 1)) x697 v696 (fun r878 x879 x883 x887 x891 => ok64 ((x879.length : Int) - 1) ∧ (0 ≤ ((x879.length : Int) - 1) ∧ ((x879.length : Int) - 1) ≤ (x879.length : Int)) ∧ ix v695 x883.length ∧ ok64 (x883[(Int.toNat v695)]! + 1) ∧ ix v695 x883.length ∧ ((¬ (r878 = true)) → Q false (x879.take (Int.toNat ((x879.length : Int) - 1))) (x883.set (Int.toNat v695) (x883[(Int.toNat v695)]! + 1)) x887 x891) ∧ (¬ (¬ (r878 = true)) → ok64 (v695 + 1) ∧ next727 (v695 + 1) x891 x887 (x883.set (Int.toNat v695) (x883[(Int.toNat v695)]! + 1)) (x879.take (Int.toNat ((x879.length : Int) - 1))))))) ∧ (¬ (v695 < (q3.length : Int)) → (m_impl_castings_1_FirstCasting_1_K0 Q) v696 x697 x701 x705)))
def m_impl_castings_1_FirstCasting_1 : Nat → (List Int) → (List Int) → (List PlayerC) → (List Int) → (List Int) → Bool → (Bool → (List Int) → (List Int) → (List Int) → Bool → Prop) → Prop
  | 0 => fun _ _ _ _ _ _ _ => False
  | f_ + 1 => m_impl_castings_1_FirstCasting_1_step (m_impl_castings_1_FirstCasting_1 f_)

abbrev m_impl_castings_FirstCasting_1_K0 (p0 : List PlayerC) (p1 : List Int) (p2_0 : List Int) (p2_1 : Bool) (Q : (List Int) → Bool → Prop) (x187 : List Int) : Prop :=
  ∃ f292 : Nat, m_impl_castings_1_FirstCasting_1 f292 ([]) p1 p0 x187 p2_0 p2_1 (fun r296 x297 x301 x305 x309 => Q x305 x309)
def m_impl_castings_FirstCasting_1 (p0 : List PlayerC) (p1 : List Int) (p2_0 : List Int) (p2_1 : Bool) (Q : (List Int) → Bool → Prop) : Prop :=
  LoopW2 0 ([]) (fun v193 x194 next215 => ((v193 < (p0.length : Int)) → ix v193 p0.length ∧ x194.length + 1 ≤ 1099511627776 ∧ ok64 (v193 + 1) ∧ next215 (v193 + 1) (x194 ++ ([p0[(Int.toNat v193)]!.2]))) ∧ (¬ (v193 < (p0.length : Int)) → (m_impl_castings_FirstCasting_1_K0 p0 p1 p2_0 p2_1 Q) x194))

def m_impl_FirstCasting (p0 : List PlayerC) (p1 : List Int) (Q : (List Int) → Bool → Prop) : Prop :=
  m_impl_PlayersOk p0 (fun r7 => ∃ r12 : Bool, (¬ (¬ (r7 = true)) → m_impl_arePuppets p1 (fun z => z = r12)) ∧ ((((¬ (r7 = true)) ∨ (¬ (r12 = true)))) → Q ([]) false) ∧ (¬ (((¬ (r7 = true)) ∨ (¬ (r12 = true)))) → m_impl_castings_FirstCasting_1 p0 p1 ([]) false (fun x50 x54 => Q x50 x54)))

abbrev m_laws_eqIntS_K0 (Q : Bool → Prop) : Prop :=
  Q true
def m_laws_eqIntS (p0 : List Int) (p1 : List Int) (Q : Bool → Prop) : Prop :=
  (((p0.length : Int) ≠ (p1.length : Int)) → Q false) ∧ (¬ ((p0.length : Int) ≠ (p1.length : Int)) → LoopW1 0 (fun v70 next78 => ((v70 < (p0.length : Int)) → ix v70 p0.length ∧ ix v70 p1.length ∧ ((p0[(Int.toNat v70)]! ≠ p1[(Int.toNat v70)]!) → Q false) ∧ (¬ (p0[(Int.toNat v70)]! ≠ p1[(Int.toNat v70)]!) → ok64 (v70 + 1) ∧ next78 (v70 + 1))) ∧ (¬ (v70 < (p0.length : Int)) → (m_laws_eqIntS_K0 Q))))

def m_laws_eqPlayer (p0 : PlayerC) (p1 : PlayerC) (Q : Bool → Prop) : Prop :=
  m_laws_eqIntS p0.1 p1.1 (fun r19 => ((¬ (r19 = true)) → Q false) ∧ (¬ (¬ (r19 = true)) → ((p0.2 ≠ p1.2) → Q false) ∧ (¬ (p0.2 ≠ p1.2) → Q true)))

abbrev m_laws_eqPlayerS_K0 (Q : Bool → Prop) : Prop :=
  Q true
def m_laws_eqPlayerS (p0 : List PlayerC) (p1 : List PlayerC) (Q : Bool → Prop) : Prop :=
  (((p0.length : Int) ≠ (p1.length : Int)) → Q false) ∧ (¬ ((p0.length : Int) ≠ (p1.length : Int)) → LoopW1 0 (fun v76 next84 => ((v76 < (p0.length : Int)) → ix v76 p0.length ∧ ix v76 p1.length ∧ ∃ r132 : Bool, m_laws_eqPlayer (p0[(Int.toNat v76)]!) (p1[(Int.toNat v76)]!) (fun z => z = r132) ∧ ((¬ (r132 = true)) → Q false) ∧ (¬ (¬ (r132 = true)) → ok64 (v76 + 1) ∧ next84 (v76 + 1))) ∧ (¬ (v76 < (p0.length : Int)) → (m_laws_eqPlayerS_K0 Q))))

abbrev m_laws_markIntS_K0 (Q : Int → (List Int) → Prop) (x48 : List Int) (v49 : Int) : Prop :=
  Q v49 x48
def m_laws_markIntS (p0 : List Int) (p1 : Int) (Q : Int → (List Int) → Prop) : Prop :=
  LoopW3 p0 p1 0 (fun x52 v53 v54 next62 => ((v54 < (x52.length : Int)) → ix v54 x52.length ∧ ok64 (v53 + 1) ∧ ok64 (v54 + 1) ∧ next62 (x52.set (Int.toNat v54) v53) (v53 + 1) (v54 + 1)) ∧ (¬ (v54 < (x52.length : Int)) → (m_laws_markIntS_K0 Q) x52 v53))

abbrev m_laws_markPlayerS_K0 (Q : Int → (List PlayerC) → Prop) (x103 : List PlayerC) (v106 : Int) : Prop :=
  Q v106 x103
def m_laws_markPlayerS (p0 : List PlayerC) (p1 : Int) (Q : Int → (List PlayerC) → Prop) : Prop :=
  LoopW3 p0 p1 0 (fun x109 v112 v113 next121 => ((v113 < (x109.length : Int)) → ix v113 x109.length ∧ m_laws_markIntS (x109[(Int.toNat v113)]!.1) v112 (fun r139 x140 => ix v113 ((x109.set (Int.toNat v113) (x140, x109[(Int.toNat v113)]!.2)).length) ∧ ok64 (r139 + 1) ∧ ok64 (v113 + 1) ∧ next121 ((x109.set (Int.toNat v113) (x140, x109[(Int.toNat v113)]!.2)).set (Int.toNat v113) ((x109.set (Int.toNat v113) (x140, x109[(Int.toNat v113)]!.2))[(Int.toNat v113)]!.1, r139)) (r139 + 1) (v113 + 1))) ∧ (¬ (v113 < (x109.length : Int)) → (m_laws_markPlayerS_K0 Q) x109 v112))

abbrev m_laws_heldIntS_K0 (Q : Int → Prop) (v44 : Int) : Prop :=
  Q v44
def m_laws_heldIntS (p0 : List Int) (p1 : Int) (Q : Int → Prop) : Prop :=
  LoopW2 p1 0 (fun v47 v48 next56 => ((v48 < (p0.length : Int)) → ix v48 p0.length ∧ ((p0[(Int.toNat v48)]! ≠ v47) → Q (-1)) ∧ (¬ (p0[(Int.toNat v48)]! ≠ v47) → ok64 (v47 + 1) ∧ ok64 (v48 + 1) ∧ next56 (v47 + 1) (v48 + 1))) ∧ (¬ (v48 < (p0.length : Int)) → (m_laws_heldIntS_K0 Q) v47))

def m_laws_FnExactFirstCasting (p0 : List PlayerC) (p1 : List Int) (Q : Bool → Prop) : Prop :=
  (((p1.length : Int) > 1048576) → Q true) ∧ (¬ ((p1.length : Int) > 1048576) → m_laws_szPlayerS p0 1048576 (fun r11 => ((r11 < 0) → Q true) ∧ (¬ (r11 < 0) → m_laws_toPlayerS p0 (fun r22 => m_laws_toIntS p1 (fun r36 => m_spec_FirstCasting r22 r36 (fun r46 r51 => m_laws_toPlayerS p0 (fun r58 => m_laws_toIntS p1 (fun r73 => m_impl_FirstCasting r58 r73 (fun r84 r89 => m_laws_eqIntS r84 r46 (fun r97 => ((((¬ (r97 = true)) ∨ ((r89) ≠ (r51)))) → Q false) ∧ (¬ (((¬ (r97 = true)) ∨ ((r89) ≠ (r51)))) → m_laws_toPlayerS p0 (fun r110 => m_laws_eqPlayerS r58 r110 (fun r124 => ((¬ (r124 = true)) → Q false) ∧ (¬ (¬ (r124 = true)) → m_laws_toIntS p1 (fun r134 => m_laws_eqIntS r73 r134 (fun r144 => ((¬ (r144 = true)) → Q false) ∧ (¬ (¬ (r144 = true)) → m_laws_markPlayerS r58 1 (fun r156 x157 => m_laws_markIntS r73 r156 (fun r166 x167 => ∃ r174 : Bool, (¬ (r166 < 0) → m_laws_eqIntS r84 r46 (fun z => z = r174)) ∧ ((((((r166 < 0) ∨ (¬ (r174 = true)))) ∨ ((r89) ≠ (r51)))) → Q false) ∧ (¬ (((((r166 < 0) ∨ (¬ (r174 = true)))) ∨ ((r89) ≠ (r51)))) → m_laws_markIntS r84 1 (fun r192 x193 => m_laws_heldIntS x193 1 (fun r200 => ((r200 < 0) → Q false) ∧ (¬ (r200 < 0) → ((r200 ≠ r192) → Q false) ∧ (¬ (r200 ≠ r192) → m_laws_toPlayerS p0 (fun r215 => m_laws_toIntS p1 (fun r229 => m_impl_FirstCasting r215 r229 (fun r239 r244 => m_laws_eqIntS r239 r46 (fun r252 => ((((¬ (r252 = true)) ∨ ((r244) ≠ (r51)))) → Q false) ∧ (¬ (((¬ (r252 = true)) ∨ ((r244) ≠ (r51)))) → m_laws_heldIntS x193 1 (fun r265 => ((r265 < 0) → Q false) ∧ (¬ (r265 < 0) → ((r265 ≠ r192) → Q false) ∧ (¬ (r265 ≠ r192) → Q true))))))))))))))))))))))))))))))))

def m_spec_l14Ok (p0 : List PlayerC) (p1 : List Int) (Q : Bool → Prop) : Prop :=
  m_spec_PlayersOk p0 (fun r6 => ∃ r11 : Bool, (r6 = true → m_spec_l11Rising p1 6 (fun z => z = r11)) ∧ Q (r6 && r11))

abbrev m_spec_l14Part_K0 (Q : (List Int) → Prop) (x82 : List Int) : Prop :=
  Q x82
def m_spec_l14Part (p0 : List Int) (p1 : Int) (Q : (List Int) → Prop) : Prop :=
  LoopW2 ([]) 0 (fun x88 v92 next100 => ((v92 < (p0.length : Int)) → (0 ≤ v92 ∧ v92 < 64) ∧ ((0 : Int) ≤ (sar p1 v92) ∧ (0 : Int) ≤ 1 ∧ ((sar p1 v92) : Int) < 9223372036854775808 ∧ (1 : Int) < 9223372036854775808) ∧ (((band (sar p1 v92) 1) = 1) → ix v92 p0.length ∧ x88.length + 1 ≤ 1099511627776 ∧ ok64 (v92 + 1) ∧ next100 (x88 ++ ([p0[(Int.toNat v92)]!])) (v92 + 1)) ∧ (¬ ((band (sar p1 v92) 1) = 1) → ok64 (v92 + 1) ∧ next100 x88 (v92 + 1))) ∧ (¬ (v92 < (p0.length : Int)) → (m_spec_l14Part_K0 Q) x88))

abbrev m_spec_MostCast_K0 (Q : Int → Prop) (v142 : Int) : Prop :=
  Q v142
def m_spec_MostCast (p0 : List PlayerC) (p1 : List Int) (Q : Int → Prop) : Prop :=
  m_spec_l14Ok p0 p1 (fun r7 => ((¬ (r7 = true)) → Q (-1)) ∧ (¬ (¬ (r7 = true)) → LoopW2 0 0 (fun v145 v146 next154 => (0 ≤ (p1.length : Int) ∧ (p1.length : Int) < 64) ∧ ok64 (sal 1 (p1.length : Int)) ∧ ((v146 < (sal 1 (p1.length : Int))) → m_spec_l14Part p1 v146 (fun r165 => (((r165.length : Int) ≤ v145) → ok64 (v146 + 1) ∧ next154 v145 (v146 + 1)) ∧ (¬ ((r165.length : Int) ≤ v145) → m_spec_FirstCasting p0 r165 (fun r181 r186 => ((r186 = true) → ok64 (v146 + 1) ∧ next154 (r165.length : Int) (v146 + 1)) ∧ (¬ (r186 = true) → ok64 (v146 + 1) ∧ next154 v145 (v146 + 1)))))) ∧ (¬ (v146 < (sal 1 (p1.length : Int))) → (m_spec_MostCast_K0 Q) v145))))

abbrev m_impl_subset_K0 (Q : (List Int) → Prop) (x84 : List Int) : Prop :=
  Q x84
def m_impl_subset (p0 : List Int) (p1 : Int) (Q : (List Int) → Prop) : Prop :=
  LoopW2 ([]) 0 (fun x90 v94 next102 => ((v94 < (p0.length : Int)) → ix v94 p0.length ∧ (0 ≤ v94 ∧ v94 < 64) ∧ ((0 : Int) ≤ (sar p1 v94) ∧ (0 : Int) ≤ 1 ∧ ((sar p1 v94) : Int) < 9223372036854775808 ∧ (1 : Int) < 9223372036854775808) ∧ (((band (sar p1 v94) 1) = 1) → x90.length + 1 ≤ 1099511627776 ∧ ok64 (v94 + 1) ∧ next102 (x90 ++ ([p0[(Int.toNat v94)]!])) (v94 + 1)) ∧ (¬ ((band (sar p1 v94) 1) = 1) → ok64 (v94 + 1) ∧ next102 x90 (v94 + 1))) ∧ (¬ (v94 < (p0.length : Int)) → (m_impl_subset_K0 Q) x90))

abbrev m_impl_MostCast_K0 (Q : Int → Prop) (v150 : Int) : Prop :=
  Q v150
def m_impl_MostCast (p0 : List PlayerC) (p1 : List Int) (Q : Int → Prop) : Prop :=
  m_impl_PlayersOk p0 (fun r7 => ∃ r12 : Bool, (¬ (¬ (r7 = true)) → m_impl_arePuppets p1 (fun z => z = r12)) ∧ ((((¬ (r7 = true)) ∨ (¬ (r12 = true)))) → Q (-1)) ∧ (¬ (((¬ (r7 = true)) ∨ (¬ (r12 = true)))) → (0 ≤ (p1.length : Int) ∧ (p1.length : Int) < 64) ∧ ok64 (sal 1 (p1.length : Int)) ∧ LoopW2 0 0 (fun v155 v156 next164 => ((v156 < (sal 1 (p1.length : Int))) → m_impl_subset p1 v156 (fun r174 => (((r174.length : Int) ≤ v155) → ok64 (v156 + 1) ∧ next164 v155 (v156 + 1)) ∧ (¬ ((r174.length : Int) ≤ v155) → m_impl_FirstCasting p0 r174 (fun r190 r195 => ((r195 = true) → ok64 (v156 + 1) ∧ next164 (r174.length : Int) (v156 + 1)) ∧ (¬ (r195 = true) → ok64 (v156 + 1) ∧ next164 v155 (v156 + 1)))))) ∧ (¬ (v156 < (sal 1 (p1.length : Int))) → (m_impl_MostCast_K0 Q) v155))))

def m_laws_FnExactMostCast (p0 : List PlayerC) (p1 : List Int) (Q : Bool → Prop) : Prop :=
  (((p1.length : Int) > 1048576) → Q true) ∧ (¬ ((p1.length : Int) > 1048576) → m_laws_szPlayerS p0 1048576 (fun r11 => ((r11 < 0) → Q true) ∧ (¬ (r11 < 0) → m_laws_toPlayerS p0 (fun r22 => m_laws_toIntS p1 (fun r36 => m_spec_MostCast r22 r36 (fun r46 => m_laws_toPlayerS p0 (fun r53 => m_laws_toIntS p1 (fun r68 => m_impl_MostCast r53 r68 (fun r79 => ((r79 ≠ r46) → Q false) ∧ (¬ (r79 ≠ r46) → m_laws_toPlayerS p0 (fun r91 => m_laws_eqPlayerS r53 r91 (fun r105 => ((¬ (r105 = true)) → Q false) ∧ (¬ (¬ (r105 = true)) → m_laws_toIntS p1 (fun r115 => m_laws_eqIntS r68 r115 (fun r125 => ((¬ (r125 = true)) → Q false) ∧ (¬ (¬ (r125 = true)) → Q true))))))))))))))))

abbrev m_spec_l17Copy_K0 (Q : (List PlayerC) → Prop) (x291 : List PlayerC) : Prop :=
  Q x291
def m_spec_l17Copy (p0 : List PlayerC) (Q : (List PlayerC) → Prop) : Prop :=
  LoopW2 ([]) 0 (fun x299 v305 next314 => ((v305 < (p0.length : Int)) → ix v305 p0.length ∧ ix v305 p0.length ∧ 0 + (p0[(Int.toNat v305)]!.1).length ≤ 1099511627776 ∧ x299.length + 1 ≤ 1099511627776 ∧ ok64 (v305 + 1) ∧ next314 (x299 ++ ([(p0[(Int.toNat v305)]!.1, p0[(Int.toNat v305)]!.2)])) (v305 + 1)) ∧ (¬ (v305 < (p0.length : Int)) → (m_spec_l17Copy_K0 Q) x299))

def m_spec_WithoutPlayer (p0 : List PlayerC) (p1 : Int) (Q : (List PlayerC) → Bool → Prop) : Prop :=
  m_spec_l17Copy p0 (fun r6 => m_spec_PlayersOk p0 (fun r22 => (¬ (¬ (r22 = true)) → ok64 ((p0.length : Int) - 1)) ∧ ∃ r31 : Bool, (¬ (¬ (r22 = true)) → m_spec_l01In p1 0 ((p0.length : Int) - 1) (fun z => z = r31)) ∧ ((((¬ (r22 = true)) ∨ (¬ (r31 = true)))) → Q r6 false) ∧ (¬ (((¬ (r22 = true)) ∨ (¬ (r31 = true)))) → ix p1 r6.length ∧ Q (r6.set (Int.toNat p1) (r6[(Int.toNat p1)]!.1, 0)) true)))

def m_spec_l17Can (p0 : List PlayerC) (p1 : List Int) (Q : Bool → Prop) : Prop :=
  m_spec_FirstCasting p0 p1 (fun r6 r11 => Q r11)

abbrev m_spec_IsSafe_K0 (Q : Bool → Prop) : Prop :=
  Q true
def m_spec_IsSafe (p0 : List PlayerC) (p1 : List Int) (Q : Bool → Prop) : Prop :=
  m_spec_l14Ok p0 p1 (fun r7 => ((¬ (r7 = true)) → Q false) ∧ (¬ (¬ (r7 = true)) → LoopW1 0 (fun v52 next60 => ((v52 < (p0.length : Int)) → m_spec_WithoutPlayer p0 v52 (fun r69 r78 => m_spec_l17Can r69 p1 (fun r85 => ((¬ (r85 = true)) → Q false) ∧ (¬ (¬ (r85 = true)) → ok64 (v52 + 1) ∧ next60 (v52 + 1))))) ∧ (¬ (v52 < (p0.length : Int)) → (m_spec_IsSafe_K0 Q)))))

def m_impl_canPlay (p0 : List PlayerC) (p1 : List Int) (Q : Bool → Prop) : Prop :=
  m_impl_FirstCasting p0 p1 (fun r6 r11 => Q r11)

abbrev m_impl_copyPlayers_K0 (Q : (List PlayerC) → Prop) (x251 : List PlayerC) : Prop :=
  Q x251
def m_impl_copyPlayers (p0 : List PlayerC) (Q : (List PlayerC) → Prop) : Prop :=
  LoopW2 ([]) 0 (fun x259 v265 next274 => ((v265 < (p0.length : Int)) → ix v265 p0.length ∧ m_impl_copyOf (p0[(Int.toNat v265)]!.1) (fun r323 => x259.length + 1 ≤ 1099511627776 ∧ ok64 (v265 + 1) ∧ next274 (x259 ++ ([(r323, p0[(Int.toNat v265)]!.2)])) (v265 + 1))) ∧ (¬ (v265 < (p0.length : Int)) → (m_impl_copyPlayers_K0 Q) x259))

def m_impl_WithoutPlayer (p0 : List PlayerC) (p1 : Int) (Q : (List PlayerC) → Bool → Prop) : Prop :=
  m_impl_copyPlayers p0 (fun r6 => m_impl_PlayersOk p0 (fun r22 => (¬ (¬ (r22 = true)) → ok64 ((p0.length : Int) - 1)) ∧ ∃ r31 : Bool, (¬ (¬ (r22 = true)) → m_impl_within p1 0 ((p0.length : Int) - 1) (fun z => z = r31)) ∧ ((((¬ (r22 = true)) ∨ (¬ (r31 = true)))) → Q r6 false) ∧ (¬ (((¬ (r22 = true)) ∨ (¬ (r31 = true)))) → ix p1 r6.length ∧ Q (r6.set (Int.toNat p1) (r6[(Int.toNat p1)]!.1, 0)) true)))

def m_impl_without (p0 : List PlayerC) (p1 : List Int) (p2 : Int) (Q : Bool → Prop) : Prop :=
  m_impl_WithoutPlayer p0 p2 (fun r6 r15 => m_impl_canPlay r6 p1 (fun r22 => Q r22))

abbrev m_impl_IsSafe_K0 (Q : Bool → Prop) : Prop :=
  Q true
def m_impl_IsSafe (p0 : List PlayerC) (p1 : List Int) (Q : Bool → Prop) : Prop :=
  m_impl_canPlay p0 p1 (fun r7 => ((¬ (r7 = true)) → Q false) ∧ (¬ (¬ (r7 = true)) → LoopW1 0 (fun v37 next45 => ((v37 < (p0.length : Int)) → m_impl_without p0 p1 v37 (fun r55 => ((¬ (r55 = true)) → Q false) ∧ (¬ (¬ (r55 = true)) → ok64 (v37 + 1) ∧ next45 (v37 + 1)))) ∧ (¬ (v37 < (p0.length : Int)) → (m_impl_IsSafe_K0 Q)))))

def m_laws_FnExactIsSafe (p0 : List PlayerC) (p1 : List Int) (Q : Bool → Prop) : Prop :=
  (((p1.length : Int) > 1048576) → Q true) ∧ (¬ ((p1.length : Int) > 1048576) → m_laws_szPlayerS p0 1048576 (fun r11 => ((r11 < 0) → Q true) ∧ (¬ (r11 < 0) → m_laws_toPlayerS p0 (fun r22 => m_laws_toIntS p1 (fun r36 => m_spec_IsSafe r22 r36 (fun r46 => m_laws_toPlayerS p0 (fun r53 => m_laws_toIntS p1 (fun r68 => m_impl_IsSafe r53 r68 (fun r79 => (((r79) ≠ (r46)) → Q false) ∧ (¬ ((r79) ≠ (r46)) → m_laws_toPlayerS p0 (fun r91 => m_laws_eqPlayerS r53 r91 (fun r105 => ((¬ (r105 = true)) → Q false) ∧ (¬ (¬ (r105 = true)) → m_laws_toIntS p1 (fun r115 => m_laws_eqIntS r68 r115 (fun r125 => ((¬ (r125 = true)) → Q false) ∧ (¬ (¬ (r125 = true)) → Q true))))))))))))))))

abbrev m_spec_LoadOf_K0 (x239 : List Int) (kont259 : List Int → Prop) (v261 : Int) : Prop :=
  x239.length + 1 ≤ 1099511627776 ∧ kont259 (x239 ++ ([v261]))
abbrev m_spec_LoadOf_K1 (v243 : Int) (next251 : List Int → Int → Prop) (x255 : List Int) : Prop :=
  ok64 (v243 + 1) ∧ next251 x255 (v243 + 1)
abbrev m_spec_LoadOf_K2 (Q : (List Int) → Prop) (x233 : List Int) : Prop :=
  Q x233
def m_spec_LoadOf (p0 : List PlayerC) (p1 : List Int) (Q : (List Int) → Prop) : Prop :=
  m_spec_PlayersOk p0 (fun r14 => ((¬ (r14 = true)) → Q ([])) ∧ (¬ (¬ (r14 = true)) → LoopW2 ([]) 0 (fun x239 v243 next251 => ((v243 < (p0.length : Int)) → LoopW2 0 0 (fun v264 v265 next273 => ((v265 < (p1.length : Int)) → ix v265 p1.length ∧ ((p1[(Int.toNat v265)]! = v243) → ok64 (v264 + 1) ∧ ok64 (v265 + 1) ∧ next273 (v264 + 1) (v265 + 1)) ∧ (¬ (p1[(Int.toNat v265)]! = v243) → ok64 (v265 + 1) ∧ next273 v264 (v265 + 1))) ∧ (¬ (v265 < (p1.length : Int)) → (m_spec_LoadOf_K0 x239 (m_spec_LoadOf_K1 v243 next251)) v264))) ∧ (¬ (v243 < (p0.length : Int)) → (m_spec_LoadOf_K2 Q) x239))))

abbrev m_spec_IsCasting_K0 (Q : Bool → Prop) : Prop :=
  Q true
abbrev m_spec_IsCasting_K1 (p0 : List PlayerC) (p2 : List Int) (Q : Bool → Prop) : Prop :=
  m_spec_LoadOf p0 p2 (fun r320 => LoopW1 0 (fun v395 next403 => ((v395 < (r320.length : Int)) → ix v395 r320.length ∧ ix v395 p0.length ∧ ((r320[(Int.toNat v395)]! > p0[(Int.toNat v395)]!.2) → Q false) ∧ (¬ (r320[(Int.toNat v395)]! > p0[(Int.toNat v395)]!.2) → ok64 (v395 + 1) ∧ next403 (v395 + 1))) ∧ (¬ (v395 < (r320.length : Int)) → (m_spec_IsCasting_K0 Q))))
def m_spec_IsCasting (p0 : List PlayerC) (p1 : List Int) (p2 : List Int) (Q : Bool → Prop) : Prop :=
  m_spec_PlayersOk p0 (fun r7 => ∃ r12 : Bool, (¬ (¬ (r7 = true)) → m_spec_l11Rising p1 6 (fun z => z = r12)) ∧ ((((((¬ (r7 = true)) ∨ (¬ (r12 = true)))) ∨ ((p2.length : Int) ≠ (p1.length : Int)))) → Q false) ∧ (¬ (((((¬ (r7 = true)) ∨ (¬ (r12 = true)))) ∨ ((p2.length : Int) ≠ (p1.length : Int)))) → LoopW1 0 (fun v170 next178 => ((v170 < (p2.length : Int)) → ix v170 p2.length ∧ ok64 ((p0.length : Int) - 1) ∧ ∃ r222 : Bool, m_spec_l01In (p2[(Int.toNat v170)]!) 0 ((p0.length : Int) - 1) (fun z => z = r222) ∧ (¬ (¬ (r222 = true)) → ix v170 p2.length) ∧ (¬ (¬ (r222 = true)) → ix (p2[(Int.toNat v170)]!) p0.length) ∧ (¬ (¬ (r222 = true)) → ix v170 p1.length) ∧ ∃ r295 : Bool, (¬ (¬ (r222 = true)) → m_spec_l13Knows (p0[(Int.toNat (p2[(Int.toNat v170)]!))]!) (p1[(Int.toNat v170)]!) (fun z => z = r295)) ∧ ((((¬ (r222 = true)) ∨ (¬ (r295 = true)))) → Q false) ∧ (¬ (((¬ (r222 = true)) ∨ (¬ (r295 = true)))) → ok64 (v170 + 1) ∧ next178 (v170 + 1))) ∧ (¬ (v170 < (p2.length : Int)) → (m_spec_IsCasting_K1 p0 p2 Q)))))

abbrev m_spec_CastingsOf_K0 (p0 : List PlayerC) (p1 : List Int) (x454 : List (List Int)) (kont478 : List (List Int) → Prop) (x488 : List Int) : Prop :=
  m_spec_IsCasting p0 p1 x488 (fun r529 => ((r529 = true) → x454.length + 1 ≤ 1099511627776 ∧ kont478 (x454 ++ ([x488]))) ∧ (¬ (r529 = true) → kont478 x454))
abbrev m_spec_CastingsOf_K1 (v460 : Int) (next468 : List (List Int) → Int → Prop) (x472 : List (List Int)) : Prop :=
  ok64 (v460 + 1) ∧ next468 x472 (v460 + 1)
abbrev m_spec_CastingsOf_K2 (Q : (List (List Int)) → Prop) (x446 : List (List Int)) : Prop :=
  Q x446
abbrev m_spec_CastingsOf_K3 (p0 : List PlayerC) (p1 : List Int) (Q : (List (List Int)) → Prop) (v62 : Int) : Prop :=
  LoopW2 ([]) 0 (fun x454 v460 next468 => ((v460 < v62) → (0 ≤ (p1.length : Int) ∧ (p1.length : Int) ≤ 1099511627776) ∧ ok64 ((p1.length : Int) - 1) ∧ LoopW3 (List.replicate (Int.toNat (p1.length : Int)) (0 : Int)) v460 ((p1.length : Int) - 1) (fun x492 v493 v494 next504 => ((v494 ≥ 0) → (p0.length : Int) ≠ 0 ∧ ix v494 x492.length ∧ (p0.length : Int) ≠ 0 ∧ ok64 (Int.tdiv v493 (p0.length : Int)) ∧ ok64 (v494 - 1) ∧ next504 (x492.set (Int.toNat v494) (Int.tmod v493 (p0.length : Int))) (Int.tdiv v493 (p0.length : Int)) (v494 - 1)) ∧ (¬ (v494 ≥ 0) → (m_spec_CastingsOf_K0 p0 p1 x454 (m_spec_CastingsOf_K1 v460 next468)) x492))) ∧ (¬ (v460 < v62) → (m_spec_CastingsOf_K2 Q) x454))
def m_spec_CastingsOf (p0 : List PlayerC) (p1 : List Int) (Q : (List (List Int)) → Prop) : Prop :=
  m_spec_l14Ok p0 p1 (fun r18 => ((((¬ (r18 = true)) ∨ ((p1.length : Int) > 4))) → Q ([])) ∧ (¬ (((¬ (r18 = true)) ∨ ((p1.length : Int) > 4))) → LoopW2 1 0 (fun v65 v66 next75 => ((v66 < (p1.length : Int)) → ok64 (v65 * (p0.length : Int)) ∧ ok64 (v66 + 1) ∧ next75 (v65 * (p0.length : Int)) (v66 + 1)) ∧ (¬ (v66 < (p1.length : Int)) → (m_spec_CastingsOf_K3 p0 p1 Q) v65))))

def m_impl_CastingsOf_1 (p0 : List Int) (q0 : List (List Int)) (Q : Bool → (List (List Int)) → Prop) : Prop :=
  q0.length + 1 ≤ 1099511627776 ∧ Q true (q0 ++ ([p0]))

abbrev m_impl_castings_1_CastingsOf_1_K0 (Q : Bool → (List Int) → (List Int) → (List (List Int)) → Prop) (x685 : List (List Int)) (x691 : List Int) (x695 : List Int) : Prop :=
  Q true x695 x691 x685
def m_impl_castings_1_CastingsOf_1_step (rec_ : (List Int) → (List Int) → (List PlayerC) → (List Int) → (List (List Int)) → (Bool → (List Int) → (List Int) → (List (List Int)) → Prop) → Prop) (q0 : List Int) (q1 : List Int) (q3 : List PlayerC) (q4 : List Int) (q2_0 : List (List Int)) (Q : Bool → (List Int) → (List Int) → (List (List Int)) → Prop) : Prop :=
  (((q0.length : Int) = (q1.length : Int)) → m_impl_copyOf q0 (fun r37 => m_impl_CastingsOf_1 r37 q2_0 (fun r55 x56 => Q r55 q0 q4 x56))) ∧ (¬ ((q0.length : Int) = (q1.length : Int)) → LoopW4 0 q2_0 q4 q0 (fun v701 x702 x708 x712 next734 => ((v701 < (q3.length : Int)) → ix v701 q3.length ∧ ix v701 x708.length ∧ (¬ (x708[(Int.toNat v701)]! = 0) → ix (x712.length : Int) q1.length) ∧ ∃ r823 : Int, (¬ (x708[(Int.toNat v701)]! = 0) → m_impl_indexOf (q3[(Int.toNat v701)]!.1) (q1[(Int.toNat (x712.length : Int))]!) (fun z => z = r823)) ∧ ((((x708[(Int.toNat v701)]! = 0) ∨ (r823 < 0))) → ok64 (v701 + 1) ∧ next734 (v701 + 1) x702 x708 x712) ∧ (¬ (((x708[(Int.toNat v701)]! = 0) ∨ (r823 < 0))) → ix v701 x708.length ∧ ok64 (x708[(Int.toNat v701)]! - 1) ∧ ix v701 x708.length ∧ x712.length + 1 ≤ 1099511627776 ∧ rec_ (x712 ++ ([v701])) q1 q3 (x708.set (Int.toNat v701) (x708[(Int.toNat v701)]! - 1)) x702 (fun r885 x886 x890 x894 => ok64 ((x886.length : Int) - 1) ∧ (0 ≤ ((x886.length : Int) - 1) ∧ ((x886.length : Int) - 1) ≤ (x886.length : Int)) ∧ ix v701 x890.length ∧ ok64 (x890[(Int.toNat v701)]! + 1) ∧ ix v701 x890.length ∧ ((¬ (r885 = true)) → Q false (x886.take (Int.toNat ((x886.length : Int) - 1))) (x890.set (Int.toNat v701) (x890[(Int.toNat v701)]! + 1)) x894) ∧ (¬ (¬ (r885 = true)) → ok64 (v701 + 1) ∧ next734 (v701 + 1) x894 (x890.set (Int.toNat v701) (x890[(Int.toNat v701)]! + 1)) (x886.take (Int.toNat ((x886.length : Int) - 1))))))) ∧ (¬ (v701 < (q3.length : Int)) → (m_impl_castings_1_CastingsOf_1_K0 Q) x702 x708 x712)))
def m_impl_castings_1_CastingsOf_1 : Nat → (List Int) → (List Int) → (List PlayerC) → (List Int) → (List (List Int)) → (Bool → (List Int) → (List Int) → (List (List Int)) → Prop) → Prop
  | 0 => fun _ _ _ _ _ _ => False
  | f_ + 1 => m_impl_castings_1_CastingsOf_1_step (m_impl_castings_1_CastingsOf_1 f_)

abbrev m_impl_castings_CastingsOf_1_K0 (p0 : List PlayerC) (p1 : List Int) (p2_0 : List (List Int)) (Q : (List (List Int)) → Prop) (x188 : List Int) : Prop :=
  ∃ f293 : Nat, m_impl_castings_1_CastingsOf_1 f293 ([]) p1 p0 x188 p2_0 (fun r297 x298 x302 x306 => Q x306)
def m_impl_castings_CastingsOf_1 (p0 : List PlayerC) (p1 : List Int) (p2_0 : List (List Int)) (Q : (List (List Int)) → Prop) : Prop :=
  LoopW2 0 ([]) (fun v194 x195 next216 => ((v194 < (p0.length : Int)) → ix v194 p0.length ∧ x195.length + 1 ≤ 1099511627776 ∧ ok64 (v194 + 1) ∧ next216 (v194 + 1) (x195 ++ ([p0[(Int.toNat v194)]!.2]))) ∧ (¬ (v194 < (p0.length : Int)) → (m_impl_castings_CastingsOf_1_K0 p0 p1 p2_0 Q) x195))

def m_impl_CastingsOf (p0 : List PlayerC) (p1 : List Int) (Q : (List (List Int)) → Prop) : Prop :=
  m_impl_PlayersOk p0 (fun r7 => ∃ r12 : Bool, (¬ (¬ (r7 = true)) → m_impl_arePuppets p1 (fun z => z = r12)) ∧ ((((((¬ (r7 = true)) ∨ (¬ (r12 = true)))) ∨ ((p1.length : Int) > 4))) → Q ([])) ∧ (¬ (((((¬ (r7 = true)) ∨ (¬ (r12 = true)))) ∨ ((p1.length : Int) > 4))) → m_impl_castings_CastingsOf_1 p0 p1 ([]) (fun x59 => Q x59)))

abbrev m_laws_eqIntSS_K0 (Q : Bool → Prop) : Prop :=
  Q true
def m_laws_eqIntSS (p0 : List (List Int)) (p1 : List (List Int)) (Q : Bool → Prop) : Prop :=
  (((p0.length : Int) ≠ (p1.length : Int)) → Q false) ∧ (¬ ((p0.length : Int) ≠ (p1.length : Int)) → LoopW1 0 (fun v76 next84 => ((v76 < (p0.length : Int)) → ix v76 p0.length ∧ ix v76 p1.length ∧ ∃ r132 : Bool, m_laws_eqIntS (p0[(Int.toNat v76)]!) (p1[(Int.toNat v76)]!) (fun z => z = r132) ∧ ((¬ (r132 = true)) → Q false) ∧ (¬ (¬ (r132 = true)) → ok64 (v76 + 1) ∧ next84 (v76 + 1))) ∧ (¬ (v76 < (p0.length : Int)) → (m_laws_eqIntSS_K0 Q))))

abbrev m_laws_markIntSS_K0 (Q : Int → (List (List Int)) → Prop) (x72 : List (List Int)) (v75 : Int) : Prop :=
  Q v75 x72
def m_laws_markIntSS (p0 : List (List Int)) (p1 : Int) (Q : Int → (List (List Int)) → Prop) : Prop :=
  LoopW3 p0 p1 0 (fun x78 v81 v82 next90 => ((v82 < (x78.length : Int)) → ix v82 x78.length ∧ m_laws_markIntS (x78[(Int.toNat v82)]!) v81 (fun r107 x108 => ok64 (v82 + 1) ∧ next90 (x78.set (Int.toNat v82) x108) r107 (v82 + 1))) ∧ (¬ (v82 < (x78.length : Int)) → (m_laws_markIntSS_K0 Q) x78 v81))

abbrev m_laws_heldIntSS_K0 (Q : Int → Prop) (v54 : Int) : Prop :=
  Q v54
def m_laws_heldIntSS (p0 : List (List Int)) (p1 : Int) (Q : Int → Prop) : Prop :=
  LoopW2 p1 0 (fun v57 v58 next66 => ((v58 < (p0.length : Int)) → ix v58 p0.length ∧ m_laws_heldIntS (p0[(Int.toNat v58)]!) v57 (fun r76 => ((r76 < 0) → Q (-1)) ∧ (¬ (r76 < 0) → ok64 (v58 + 1) ∧ next66 r76 (v58 + 1)))) ∧ (¬ (v58 < (p0.length : Int)) → (m_laws_heldIntSS_K0 Q) v57))

def m_laws_FnExactCastingsOf (p0 : List PlayerC) (p1 : List Int) (Q : Bool → Prop) : Prop :=
  (((p1.length : Int) > 1048576) → Q true) ∧ (¬ ((p1.length : Int) > 1048576) → m_laws_szPlayerS p0 1048576 (fun r11 => ((r11 < 0) → Q true) ∧ (¬ (r11 < 0) → m_laws_toPlayerS p0 (fun r22 => m_laws_toIntS p1 (fun r36 => m_spec_CastingsOf r22 r36 (fun r46 => m_laws_toPlayerS p0 (fun r61 => m_laws_toIntS p1 (fun r76 => m_impl_CastingsOf r61 r76 (fun r87 => m_laws_eqIntSS r87 r46 (fun r103 => ((¬ (r103 = true)) → Q false) ∧ (¬ (¬ (r103 = true)) → m_laws_toPlayerS p0 (fun r113 => m_laws_eqPlayerS r61 r113 (fun r127 => ((¬ (r127 = true)) → Q false) ∧ (¬ (¬ (r127 = true)) → m_laws_toIntS p1 (fun r137 => m_laws_eqIntS r76 r137 (fun r147 => ((¬ (r147 = true)) → Q false) ∧ (¬ (¬ (r147 = true)) → m_laws_markPlayerS r61 1 (fun r159 x160 => m_laws_markIntS r76 r159 (fun r169 x170 => ∃ r177 : Bool, (¬ (r169 < 0) → m_laws_eqIntSS r87 r46 (fun z => z = r177)) ∧ ((((r169 < 0) ∨ (¬ (r177 = true)))) → Q false) ∧ (¬ (((r169 < 0) ∨ (¬ (r177 = true)))) → m_laws_markIntSS r87 1 (fun r193 x194 => m_laws_heldIntSS x194 1 (fun r203 => ((r203 < 0) → Q false) ∧ (¬ (r203 < 0) → ((r203 ≠ r193) → Q false) ∧ (¬ (r203 ≠ r193) → m_laws_toPlayerS p0 (fun r218 => m_laws_toIntS p1 (fun r232 => m_impl_CastingsOf r218 r232 (fun r242 => m_laws_eqIntSS r242 r46 (fun r258 => ((¬ (r258 = true)) → Q false) ∧ (¬ (¬ (r258 = true)) → m_laws_heldIntSS x194 1 (fun r268 => ((r268 < 0) → Q false) ∧ (¬ (r268 < 0) → ((r268 ≠ r193) → Q false) ∧ (¬ (r268 ≠ r193) → Q true))))))))))))))))))))))))))))))))

end Go.Proofs.Ytddjkiefadiijaa
