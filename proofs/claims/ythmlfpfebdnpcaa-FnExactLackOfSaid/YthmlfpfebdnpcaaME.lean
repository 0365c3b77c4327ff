/- Plain models of functions of the program, printed by a program (gen2.py): what each asks and what it hands on. No statement of the claim stands here. -/
import Derived.Test.YthmlfpfebdnpcaaPure
namespace Go.Proofs.Ythmlfpfebdnpcaa
def m_laws_szIntS (p0 : List Int) (p1 : Int) (Q : Int → Prop) : Prop :=
  ok64 (p1 - (p0.length : Int)) ∧ (((p1 - (p0.length : Int)) < 0) → Q (-1)) ∧ (¬ ((p1 - (p0.length : Int)) < 0) → Q (p1 - (p0.length : Int)))

abbrev m_laws_szIntSS_K0 (Q : Int → Prop) (v60 : Int) : Prop :=
  Q v60
def m_laws_szIntSS (p0 : List (List Int)) (p1 : Int) (Q : Int → Prop) : Prop :=
  ok64 (p1 - (p0.length : Int)) ∧ (((p1 - (p0.length : Int)) < 0) → Q (-1)) ∧ (¬ ((p1 - (p0.length : Int)) < 0) → LoopW2 (p1 - (p0.length : Int)) 0 (fun v63 v64 next72 => ((v64 < (p0.length : Int)) → ix v64 p0.length ∧ m_laws_szIntS (p0[(Int.toNat v64)]!) v63 (fun r82 => ((r82 < 0) → Q (-1)) ∧ (¬ (r82 < 0) → ok64 (v64 + 1) ∧ next72 r82 (v64 + 1)))) ∧ (¬ (v64 < (p0.length : Int)) → (m_laws_szIntSS_K0 Q) v63)))

abbrev m_laws_toIntS_K0 (Q : (List Int) → Prop) (x52 : List Int) : Prop :=
  Q x52
def m_laws_toIntS (p0 : List Int) (Q : (List Int) → Prop) : Prop :=
  (0 ≤ (p0.length : Int) ∧ (p0.length : Int) ≤ 1099511627776) ∧ LoopW2 (List.replicate (Int.toNat (p0.length : Int)) (0 : Int)) 0 (fun x55 v56 next64 => ((v56 < (p0.length : Int)) → ix v56 p0.length ∧ ix v56 x55.length ∧ ok64 (v56 + 1) ∧ next64 (x55.set (Int.toNat v56) (p0[(Int.toNat v56)]!)) (v56 + 1)) ∧ (¬ (v56 < (p0.length : Int)) → (m_laws_toIntS_K0 Q) x55))

abbrev m_laws_toIntSS_K0 (Q : (List (List Int)) → Prop) (x100 : List (List Int)) : Prop :=
  Q x100
def m_laws_toIntSS (p0 : List (List Int)) (Q : (List (List Int)) → Prop) : Prop :=
  (0 ≤ (p0.length : Int) ∧ (p0.length : Int) ≤ 1099511627776) ∧ LoopW2 (List.replicate (Int.toNat (p0.length : Int)) ([] : List Int)) 0 (fun x105 v108 next117 => ((v108 < (p0.length : Int)) → ix v108 p0.length ∧ m_laws_toIntS (p0[(Int.toNat v108)]!) (fun r126 => ix v108 x105.length ∧ ok64 (v108 + 1) ∧ next117 (x105.set (Int.toNat v108) r126) (v108 + 1))) ∧ (¬ (v108 < (p0.length : Int)) → (m_laws_toIntSS_K0 Q) x105))

abbrev m_spec_ChangesBetween_K0 (v535 : Int) (next543 : Int → Int → Prop) (v547 : Int) : Prop :=
  ok64 (v535 + 1) ∧ next543 v547 (v535 + 1)
abbrev m_spec_ChangesBetween_K1 (Q : Int → Prop) (v531 : Int) : Prop :=
  Q v531
def m_spec_ChangesBetween (p0 : List Int) (p1 : List Int) (p2 : List Int) (p3 : List Int) (Q : Int → Prop) : Prop :=
  (((((p0.length : Int) ≠ (p1.length : Int)) ∨ ((p2.length : Int) ≠ (p3.length : Int)))) → Q (-1)) ∧ (¬ ((((p0.length : Int) ≠ (p1.length : Int)) ∨ ((p2.length : Int) ≠ (p3.length : Int)))) → LoopW2 0 0 (fun v534 v535 next543 => ((v535 < (p0.length : Int)) → LoopW2 v534 0 (fun v550 v551 next559 => ((v551 < (p2.length : Int)) → ix v535 p0.length ∧ ix v551 p2.length ∧ (p0[(Int.toNat v535)]! = p2[(Int.toNat v551)]! → ix v535 p1.length) ∧ (p0[(Int.toNat v535)]! = p2[(Int.toNat v551)]! → ix v551 p3.length) ∧ ((((p0[(Int.toNat v535)]! = p2[(Int.toNat v551)]!) ∧ (p1[(Int.toNat v535)]! ≠ p3[(Int.toNat v551)]!))) → ok64 (v550 + 1) ∧ ok64 (v551 + 1) ∧ next559 (v550 + 1) (v551 + 1)) ∧ (¬ (((p0[(Int.toNat v535)]! = p2[(Int.toNat v551)]!) ∧ (p1[(Int.toNat v535)]! ≠ p3[(Int.toNat v551)]!))) → ok64 (v551 + 1) ∧ next559 v550 (v551 + 1))) ∧ (¬ (v551 < (p2.length : Int)) → (m_spec_ChangesBetween_K0 v535 next543) v550))) ∧ (¬ (v535 < (p0.length : Int)) → (m_spec_ChangesBetween_K1 Q) v534)))

abbrev m_spec_CountChanges_K0 (Q : Int → Prop) (v241 : Int) : Prop :=
  Q v241
def m_spec_CountChanges (p0 : List (List Int)) (p1 : List (List Int)) (Q : Int → Prop) : Prop :=
  (((p0.length : Int) ≠ (p1.length : Int)) → Q (-1)) ∧ (¬ ((p0.length : Int) ≠ (p1.length : Int)) → LoopW2 0 1 (fun v244 v245 next253 => ((v245 < (p0.length : Int)) → ok64 (v245 - 1) ∧ ix (v245 - 1) p0.length ∧ ok64 (v245 - 1) ∧ ix (v245 - 1) p1.length ∧ ix v245 p0.length ∧ ix v245 p1.length ∧ ∃ r345 : Int, m_spec_ChangesBetween (p0[(Int.toNat (v245 - 1))]!) (p1[(Int.toNat (v245 - 1))]!) (p0[(Int.toNat v245)]!) (p1[(Int.toNat v245)]!) (fun z => z = r345) ∧ ((r345 < 0) → Q (-1)) ∧ (¬ (r345 < 0) → ok64 (v244 + r345) ∧ ok64 (v245 + 1) ∧ next253 (v244 + r345) (v245 + 1))) ∧ (¬ (v245 < (p0.length : Int)) → (m_spec_CountChanges_K0 Q) v244)))

abbrev m_impl_changes_K0 (v436 : Int) (next444 : Int → Int → Prop) (v448 : Int) : Prop :=
  ok64 (v436 + 1) ∧ next444 v448 (v436 + 1)
abbrev m_impl_changes_K1 (Q : Int → Prop) (v432 : Int) : Prop :=
  Q v432
def m_impl_changes (p0 : List Int) (p1 : List Int) (p2 : List Int) (p3 : List Int) (Q : Int → Prop) : Prop :=
  LoopW2 0 0 (fun v435 v436 next444 => ((v436 < (p0.length : Int)) → ix v436 p0.length ∧ LoopW2 v435 0 (fun v453 v454 next462 => ((v454 < (p2.length : Int)) → ix v454 p2.length ∧ (p0[(Int.toNat v436)]! = p2[(Int.toNat v454)]! → ix v436 p1.length) ∧ (p0[(Int.toNat v436)]! = p2[(Int.toNat v454)]! → ix v454 p3.length) ∧ ((((p0[(Int.toNat v436)]! = p2[(Int.toNat v454)]!) ∧ (p1[(Int.toNat v436)]! ≠ p3[(Int.toNat v454)]!))) → ok64 (v453 + 1) ∧ ok64 (v454 + 1) ∧ next462 (v453 + 1) (v454 + 1)) ∧ (¬ (((p0[(Int.toNat v436)]! = p2[(Int.toNat v454)]!) ∧ (p1[(Int.toNat v436)]! ≠ p3[(Int.toNat v454)]!))) → ok64 (v454 + 1) ∧ next462 v453 (v454 + 1))) ∧ (¬ (v454 < (p2.length : Int)) → (m_impl_changes_K0 v436 next444) v453))) ∧ (¬ (v436 < (p0.length : Int)) → (m_impl_changes_K1 Q) v435))

def m_impl_ChangesBetween (p0 : List Int) (p1 : List Int) (p2 : List Int) (p3 : List Int) (Q : Int → Prop) : Prop :=
  (((((p0.length : Int) ≠ (p1.length : Int)) ∨ ((p2.length : Int) ≠ (p3.length : Int)))) → Q (-1)) ∧ (¬ ((((p0.length : Int) ≠ (p1.length : Int)) ∨ ((p2.length : Int) ≠ (p3.length : Int)))) → m_impl_changes p0 p1 p2 p3 (fun r15 => Q r15))

abbrev m_impl_CountChanges_K0 (Q : Int → Prop) (v243 : Int) : Prop :=
  Q v243
def m_impl_CountChanges (p0 : List (List Int)) (p1 : List (List Int)) (Q : Int → Prop) : Prop :=
  (((p0.length : Int) ≠ (p1.length : Int)) → Q (-1)) ∧ (¬ ((p0.length : Int) ≠ (p1.length : Int)) → LoopW2 0 0 (fun v246 v247 next255 => ok64 (v247 + 1) ∧ (((v247 + 1) < (p0.length : Int)) → ix v247 p0.length ∧ ix v247 p1.length ∧ ok64 (v247 + 1) ∧ ix (v247 + 1) p0.length ∧ ok64 (v247 + 1) ∧ ix (v247 + 1) p1.length ∧ ∃ r348 : Int, m_impl_ChangesBetween (p0[(Int.toNat v247)]!) (p1[(Int.toNat v247)]!) (p0[(Int.toNat (v247 + 1))]!) (p1[(Int.toNat (v247 + 1))]!) (fun z => z = r348) ∧ ((r348 < 0) → Q (-1)) ∧ (¬ (r348 < 0) → ok64 (v246 + r348) ∧ ok64 (v247 + 1) ∧ next255 (v246 + r348) (v247 + 1))) ∧ (¬ ((v247 + 1) < (p0.length : Int)) → (m_impl_CountChanges_K0 Q) v246)))

abbrev m_laws_eqIntS_K0 (Q : Bool → Prop) : Prop :=
  Q true
def m_laws_eqIntS (p0 : List Int) (p1 : List Int) (Q : Bool → Prop) : Prop :=
  (((p0.length : Int) ≠ (p1.length : Int)) → Q false) ∧ (¬ ((p0.length : Int) ≠ (p1.length : Int)) → LoopW1 0 (fun v70 next78 => ((v70 < (p0.length : Int)) → ix v70 p0.length ∧ ix v70 p1.length ∧ ((p0[(Int.toNat v70)]! ≠ p1[(Int.toNat v70)]!) → Q false) ∧ (¬ (p0[(Int.toNat v70)]! ≠ p1[(Int.toNat v70)]!) → ok64 (v70 + 1) ∧ next78 (v70 + 1))) ∧ (¬ (v70 < (p0.length : Int)) → (m_laws_eqIntS_K0 Q))))

abbrev m_laws_eqIntSS_K0 (Q : Bool → Prop) : Prop :=
  Q true
def m_laws_eqIntSS (p0 : List (List Int)) (p1 : List (List Int)) (Q : Bool → Prop) : Prop :=
  (((p0.length : Int) ≠ (p1.length : Int)) → Q false) ∧ (¬ ((p0.length : Int) ≠ (p1.length : Int)) → LoopW1 0 (fun v76 next84 => ((v76 < (p0.length : Int)) → ix v76 p0.length ∧ ix v76 p1.length ∧ ∃ r132 : Bool, m_laws_eqIntS (p0[(Int.toNat v76)]!) (p1[(Int.toNat v76)]!) (fun z => z = r132) ∧ ((¬ (r132 = true)) → Q false) ∧ (¬ (¬ (r132 = true)) → ok64 (v76 + 1) ∧ next84 (v76 + 1))) ∧ (¬ (v76 < (p0.length : Int)) → (m_laws_eqIntSS_K0 Q))))

def m_laws_FnExactCountChanges (p0 : List (List Int)) (p1 : List (List Int)) (Q : Bool → Prop) : Prop :=
  m_laws_szIntSS p0 1048576 (fun r7 => ((r7 < 0) → Q true) ∧ (¬ (r7 < 0) → m_laws_szIntSS p1 r7 (fun r18 => ((r18 < 0) → Q true) ∧ (¬ (r18 < 0) → m_laws_toIntSS p0 (fun r29 => m_laws_toIntSS p1 (fun r43 => m_spec_CountChanges r29 r43 (fun r57 => m_laws_toIntSS p0 (fun r64 => m_laws_toIntSS p1 (fun r79 => m_impl_CountChanges r64 r79 (fun r94 => ((r94 ≠ r57) → Q false) ∧ (¬ (r94 ≠ r57) → m_laws_toIntSS p0 (fun r106 => m_laws_eqIntSS r64 r106 (fun r120 => ((¬ (r120 = true)) → Q false) ∧ (¬ (¬ (r120 = true)) → m_laws_toIntSS p1 (fun r130 => m_laws_eqIntSS r79 r130 (fun r144 => ((¬ (r144 = true)) → Q false) ∧ (¬ (¬ (r144 = true)) → Q true)))))))))))))))))

def m_laws_szPlayer (p0 : PlayerC) (p1 : Int) (Q : Int → Prop) : Prop :=
  m_laws_szIntS p0.1 p1 (fun r12 => ((r12 < 0) → Q (-1)) ∧ (¬ (r12 < 0) → Q r12))

abbrev m_laws_szPlayerS_K0 (Q : Int → Prop) (v60 : Int) : Prop :=
  Q v60
def m_laws_szPlayerS (p0 : List PlayerC) (p1 : Int) (Q : Int → Prop) : Prop :=
  ok64 (p1 - (p0.length : Int)) ∧ (((p1 - (p0.length : Int)) < 0) → Q (-1)) ∧ (¬ ((p1 - (p0.length : Int)) < 0) → LoopW2 (p1 - (p0.length : Int)) 0 (fun v63 v64 next72 => ((v64 < (p0.length : Int)) → ix v64 p0.length ∧ m_laws_szPlayer (p0[(Int.toNat v64)]!) v63 (fun r82 => ((r82 < 0) → Q (-1)) ∧ (¬ (r82 < 0) → ok64 (v64 + 1) ∧ next72 r82 (v64 + 1)))) ∧ (¬ (v64 < (p0.length : Int)) → (m_laws_szPlayerS_K0 Q) v63)))

def m_laws_toPlayer (p0 : PlayerC) (Q : PlayerC → Prop) : Prop :=
  m_laws_toIntS p0.1 (fun r25 => Q (r25, p0.2))

abbrev m_laws_toPlayerS_K0 (Q : (List PlayerC) → Prop) (x92 : List PlayerC) : Prop :=
  Q x92
def m_laws_toPlayerS (p0 : List PlayerC) (Q : (List PlayerC) → Prop) : Prop :=
  (0 ≤ (p0.length : Int) ∧ (p0.length : Int) ≤ 1099511627776) ∧ LoopW2 (List.replicate (Int.toNat (p0.length : Int)) (([], 0) : PlayerC)) 0 (fun x97 v100 next109 => ((v100 < (p0.length : Int)) → ix v100 p0.length ∧ m_laws_toPlayer (p0[(Int.toNat v100)]!) (fun r118 => ix v100 x97.length ∧ ok64 (v100 + 1) ∧ next109 (x97.set (Int.toNat v100) r118) (v100 + 1))) ∧ (¬ (v100 < (p0.length : Int)) → (m_laws_toPlayerS_K0 Q) x97))

def m_spec_l01In (p0 : Int) (p1 : Int) (p2 : Int) (Q : Bool → Prop) : Prop :=
  Q ((decide (p0 ≥ p1)) && (decide (p0 ≤ p2)))

abbrev m_spec_l11Rising_K0 (Q : Bool → Prop) : Prop :=
  Q true
def m_spec_l11Rising (p0 : List Int) (p1 : Int) (Q : Bool → Prop) : Prop :=
  LoopW1 0 (fun v140 next148 => ((v140 < (p0.length : Int)) → ix v140 p0.length ∧ ∃ r183 : Bool, m_spec_l01In (p0[(Int.toNat v140)]!) 0 p1 (fun z => z = r183) ∧ ((¬ (¬ (r183 = true))) ∧ (v140 > 0) → ix v140 p0.length) ∧ ((¬ (¬ (r183 = true))) ∧ (v140 > 0) → ok64 (v140 - 1)) ∧ ((¬ (¬ (r183 = true))) ∧ (v140 > 0) → ix (v140 - 1) p0.length) ∧ ((((¬ (r183 = true)) ∨ (((v140 > 0) ∧ (p0[(Int.toNat v140)]! ≤ p0[(Int.toNat (v140 - 1))]!))))) → Q false) ∧ (¬ (((¬ (r183 = true)) ∨ (((v140 > 0) ∧ (p0[(Int.toNat v140)]! ≤ p0[(Int.toNat (v140 - 1))]!))))) → ok64 (v140 + 1) ∧ next148 (v140 + 1))) ∧ (¬ (v140 < (p0.length : Int)) → (m_spec_l11Rising_K0 Q)))

abbrev m_spec_PlayersOk_K0 (p0 : List PlayerC) (Q : Bool → Prop) : Prop :=
  m_spec_l01In (p0.length : Int) 1 6 (fun r86 => Q r86)
def m_spec_PlayersOk (p0 : List PlayerC) (Q : Bool → Prop) : Prop :=
  LoopW1 0 (fun v41 next49 => ((v41 < (p0.length : Int)) → ix v41 p0.length ∧ m_spec_l11Rising (p0[(Int.toNat v41)]!.1) 6 (fun r59 => (¬ (¬ (r59 = true)) → ix v41 p0.length) ∧ ∃ r69 : Bool, (¬ (¬ (r59 = true)) → m_spec_l01In (p0[(Int.toNat v41)]!.2) 0 2 (fun z => z = r69)) ∧ ((((¬ (r59 = true)) ∨ (¬ (r69 = true)))) → Q false) ∧ (¬ (((¬ (r59 = true)) ∨ (¬ (r69 = true)))) → ok64 (v41 + 1) ∧ next49 (v41 + 1)))) ∧ (¬ (v41 < (p0.length : Int)) → (m_spec_PlayersOk_K0 p0 Q)))

def m_impl_within (p0 : Int) (p1 : Int) (p2 : Int) (Q : Bool → Prop) : Prop :=
  Q ((decide (p0 ≥ p1)) && (decide (p0 ≤ p2)))

abbrev m_impl_allWithin_K0 (Q : Bool → Prop) : Prop :=
  Q true
def m_impl_allWithin (p0 : List Int) (p1 : Int) (p2 : Int) (Q : Bool → Prop) : Prop :=
  LoopW1 0 (fun v28 next36 => ((v28 < (p0.length : Int)) → ix v28 p0.length ∧ m_impl_within (p0[(Int.toNat v28)]!) p1 p2 (fun r47 => ((¬ (r47 = true)) → Q false) ∧ (¬ (¬ (r47 = true)) → ok64 (v28 + 1) ∧ next36 (v28 + 1)))) ∧ (¬ (v28 < (p0.length : Int)) → (m_impl_allWithin_K0 Q)))

abbrev m_impl_isStrict_K0 (p0 : List Int) (p1 : Int) (p2 : Int) (Q : Bool → Prop) : Prop :=
  m_impl_allWithin p0 p1 p2 (fun r200 => Q r200)
def m_impl_isStrict (p0 : List Int) (p1 : Int) (p2 : Int) (Q : Bool → Prop) : Prop :=
  LoopW1 0 (fun v98 next106 => ((v98 < (p0.length : Int)) → (v98 > 0 → ix v98 p0.length) ∧ (v98 > 0 → ok64 (v98 - 1)) ∧ (v98 > 0 → ix (v98 - 1) p0.length) ∧ ((((v98 > 0) ∧ (p0[(Int.toNat v98)]! ≤ p0[(Int.toNat (v98 - 1))]!))) → Q false) ∧ (¬ (((v98 > 0) ∧ (p0[(Int.toNat v98)]! ≤ p0[(Int.toNat (v98 - 1))]!))) → ok64 (v98 + 1) ∧ next106 (v98 + 1))) ∧ (¬ (v98 < (p0.length : Int)) → (m_impl_isStrict_K0 p0 p1 p2 Q)))

abbrev m_impl_PlayersOk_K0 (p0 : List PlayerC) (Q : Bool → Prop) : Prop :=
  m_impl_within (p0.length : Int) 1 6 (fun r101 => Q r101)
def m_impl_PlayersOk (p0 : List PlayerC) (Q : Bool → Prop) : Prop :=
  LoopW1 0 (fun v48 next56 => ((v48 < (p0.length : Int)) → ix v48 p0.length ∧ m_impl_isStrict (p0[(Int.toNat v48)]!.1) 0 6 (fun r77 => ∃ r83 : Bool, (¬ (¬ (r77 = true)) → m_impl_within (p0[(Int.toNat v48)]!.2) 0 2 (fun z => z = r83)) ∧ ((((¬ (r77 = true)) ∨ (¬ (r83 = true)))) → Q false) ∧ (¬ (((¬ (r77 = true)) ∨ (¬ (r83 = true)))) → ok64 (v48 + 1) ∧ next56 (v48 + 1)))) ∧ (¬ (v48 < (p0.length : Int)) → (m_impl_PlayersOk_K0 p0 Q)))

def m_laws_eqPlayer (p0 : PlayerC) (p1 : PlayerC) (Q : Bool → Prop) : Prop :=
  m_laws_eqIntS p0.1 p1.1 (fun r19 => ((¬ (r19 = true)) → Q false) ∧ (¬ (¬ (r19 = true)) → ((p0.2 ≠ p1.2) → Q false) ∧ (¬ (p0.2 ≠ p1.2) → Q true)))

abbrev m_laws_eqPlayerS_K0 (Q : Bool → Prop) : Prop :=
  Q true
def m_laws_eqPlayerS (p0 : List PlayerC) (p1 : List PlayerC) (Q : Bool → Prop) : Prop :=
  (((p0.length : Int) ≠ (p1.length : Int)) → Q false) ∧ (¬ ((p0.length : Int) ≠ (p1.length : Int)) → LoopW1 0 (fun v76 next84 => ((v76 < (p0.length : Int)) → ix v76 p0.length ∧ ix v76 p1.length ∧ ∃ r132 : Bool, m_laws_eqPlayer (p0[(Int.toNat v76)]!) (p1[(Int.toNat v76)]!) (fun z => z = r132) ∧ ((¬ (r132 = true)) → Q false) ∧ (¬ (¬ (r132 = true)) → ok64 (v76 + 1) ∧ next84 (v76 + 1))) ∧ (¬ (v76 < (p0.length : Int)) → (m_laws_eqPlayerS_K0 Q))))

def m_laws_FnExactPlayersOk (p0 : List PlayerC) (Q : Bool → Prop) : Prop :=
  m_laws_szPlayerS p0 1048576 (fun r7 => ((r7 < 0) → Q true) ∧ (¬ (r7 < 0) → m_laws_toPlayerS p0 (fun r18 => m_spec_PlayersOk r18 (fun r32 => m_laws_toPlayerS p0 (fun r39 => m_impl_PlayersOk r39 (fun r54 => (((r54) ≠ (r32)) → Q false) ∧ (¬ ((r54) ≠ (r32)) → m_laws_toPlayerS p0 (fun r66 => m_laws_eqPlayerS r39 r66 (fun r80 => ((¬ (r80 = true)) → Q false) ∧ (¬ (¬ (r80 = true)) → Q true))))))))))

abbrev m_spec_HandsFree_K0 (Q : Int → Prop) (v47 : Int) : Prop :=
  Q v47
def m_spec_HandsFree (p0 : List PlayerC) (Q : Int → Prop) : Prop :=
  m_spec_PlayersOk p0 (fun r7 => ((¬ (r7 = true)) → Q (-1)) ∧ (¬ (¬ (r7 = true)) → LoopW2 0 0 (fun v50 v51 next59 => ((v51 < (p0.length : Int)) → ix v51 p0.length ∧ ok64 (v50 + p0[(Int.toNat v51)]!.2) ∧ ok64 (v51 + 1) ∧ next59 (v50 + p0[(Int.toNat v51)]!.2) (v51 + 1)) ∧ (¬ (v51 < (p0.length : Int)) → (m_spec_HandsFree_K0 Q) v50))))

abbrev m_impl_HandsFree_K0 (Q : Int → Prop) (v70 : Int) : Prop :=
  Q v70
def m_impl_HandsFree (p0 : List PlayerC) (Q : Int → Prop) : Prop :=
  m_impl_PlayersOk p0 (fun r7 => ((¬ (r7 = true)) → Q (-1)) ∧ (¬ (¬ (r7 = true)) → LoopW2 0 0 (fun v73 v74 next82 => ((v74 < (p0.length : Int)) → ix v74 p0.length ∧ ok64 (v73 + p0[(Int.toNat v74)]!.2) ∧ ok64 (v74 + 1) ∧ next82 (v73 + p0[(Int.toNat v74)]!.2) (v74 + 1)) ∧ (¬ (v74 < (p0.length : Int)) → (m_impl_HandsFree_K0 Q) v73))))

def m_laws_FnExactHandsFree (p0 : List PlayerC) (Q : Bool → Prop) : Prop :=
  m_laws_szPlayerS p0 1048576 (fun r7 => ((r7 < 0) → Q true) ∧ (¬ (r7 < 0) → m_laws_toPlayerS p0 (fun r18 => m_spec_HandsFree r18 (fun r32 => m_laws_toPlayerS p0 (fun r39 => m_impl_HandsFree r39 (fun r54 => ((r54 ≠ r32) → Q false) ∧ (¬ (r54 ≠ r32) → m_laws_toPlayerS p0 (fun r66 => m_laws_eqPlayerS r39 r66 (fun r80 => ((¬ (r80 = true)) → Q false) ∧ (¬ (¬ (r80 = true)) → Q true))))))))))

def m_spec_l14Ok (p0 : List PlayerC) (p1 : List Int) (Q : Bool → Prop) : Prop :=
  m_spec_PlayersOk p0 (fun r6 => ∃ r11 : Bool, (r6 = true → m_spec_l11Rising p1 6 (fun z => z = r11)) ∧ Q (r6 && r11))

abbrev m_spec_l13Knows_K0 (Q : Bool → Prop) : Prop :=
  Q false
def m_spec_l13Knows (p0 : PlayerC) (p1 : Int) (Q : Bool → Prop) : Prop :=
  LoopW1 0 (fun v27 next35 => ((v27 < (p0.1.length : Int)) → ix v27 p0.1.length ∧ ((p0.1[(Int.toNat v27)]! = p1) → Q true) ∧ (¬ (p0.1[(Int.toNat v27)]! = p1) → ok64 (v27 + 1) ∧ next35 (v27 + 1))) ∧ (¬ (v27 < (p0.1.length : Int)) → (m_spec_l13Knows_K0 Q)))

abbrev m_spec_HandsFor_K0 (p0 : List PlayerC) (v528 : Int) (v529 : Int) (kont542 : Int → Prop) (v544 : Bool) : Prop :=
  ((v544 = true) → ix v529 p0.length ∧ ok64 (v528 + p0[(Int.toNat v529)]!.2) ∧ kont542 (v528 + p0[(Int.toNat v529)]!.2)) ∧ (¬ (v544 = true) → kont542 v528)
abbrev m_spec_HandsFor_K1 (v529 : Int) (next537 : Int → Int → Prop) (v541 : Int) : Prop :=
  ok64 (v529 + 1) ∧ next537 v541 (v529 + 1)
abbrev m_spec_HandsFor_K2 (Q : Int → Prop) (v525 : Int) : Prop :=
  Q v525
def m_spec_HandsFor (p0 : List PlayerC) (p1 : List Int) (Q : Int → Prop) : Prop :=
  m_spec_l14Ok p0 p1 (fun r7 => ((¬ (r7 = true)) → Q (-1)) ∧ (¬ (¬ (r7 = true)) → LoopW2 0 0 (fun v528 v529 next537 => ((v529 < (p0.length : Int)) → LoopW2 false 0 (fun v547 v548 next556 => ((v548 < (p1.length : Int)) → (¬ (v547 = true) → ix v529 p0.length) ∧ (¬ (v547 = true) → ix v548 p1.length) ∧ ∃ r620 : Bool, (¬ (v547 = true) → m_spec_l13Knows (p0[(Int.toNat v529)]!) (p1[(Int.toNat v548)]!) (fun z => z = r620)) ∧ ok64 (v548 + 1) ∧ next556 (v547 || r620) (v548 + 1)) ∧ (¬ (v548 < (p1.length : Int)) → (m_spec_HandsFor_K0 p0 v528 v529 (m_spec_HandsFor_K1 v529 next537)) v547))) ∧ (¬ (v529 < (p0.length : Int)) → (m_spec_HandsFor_K2 Q) v528))))

def m_impl_arePuppets (p0 : List Int) (Q : Bool → Prop) : Prop :=
  m_impl_isStrict p0 0 6 (fun r6 => Q r6)

abbrev m_impl_indexOf_K0 (Q : Int → Prop) : Prop :=
  Q (-1)
def m_impl_indexOf (p0 : List Int) (p1 : Int) (Q : Int → Prop) : Prop :=
  LoopW1 0 (fun v22 next30 => ((v22 < (p0.length : Int)) → ix v22 p0.length ∧ ((p0[(Int.toNat v22)]! = p1) → Q v22) ∧ (¬ (p0[(Int.toNat v22)]! = p1) → ok64 (v22 + 1) ∧ next30 (v22 + 1))) ∧ (¬ (v22 < (p0.length : Int)) → (m_impl_indexOf_K0 Q)))

abbrev m_impl_HandsFor_K0 (v210 : Int) (next218 : Int → Int → Prop) (v222 : Int) : Prop :=
  ok64 (v210 + 1) ∧ next218 v222 (v210 + 1)
abbrev m_impl_HandsFor_K1 (Q : Int → Prop) (v206 : Int) : Prop :=
  Q v206
def m_impl_HandsFor (p0 : List PlayerC) (p1 : List Int) (Q : Int → Prop) : Prop :=
  m_impl_PlayersOk p0 (fun r7 => ∃ r12 : Bool, (¬ (¬ (r7 = true)) → m_impl_arePuppets p1 (fun z => z = r12)) ∧ ((((¬ (r7 = true)) ∨ (¬ (r12 = true)))) → Q (-1)) ∧ (¬ (((¬ (r7 = true)) ∨ (¬ (r12 = true)))) → LoopW2 0 0 (fun v209 v210 next218 => ((v210 < (p0.length : Int)) → ix v210 p0.length ∧ LoopW1 0 (fun v237 next245 => ((v237 < (p1.length : Int)) → ix v237 p1.length ∧ m_impl_indexOf (p0[(Int.toNat v210)]!.1) (p1[(Int.toNat v237)]!) (fun r256 => ((r256 ≥ 0) → ok64 (v209 + p0[(Int.toNat v210)]!.2) ∧ (m_impl_HandsFor_K0 v210 next218) (v209 + p0[(Int.toNat v210)]!.2)) ∧ (¬ (r256 ≥ 0) → ok64 (v237 + 1) ∧ next245 (v237 + 1)))) ∧ (¬ (v237 < (p1.length : Int)) → (m_impl_HandsFor_K0 v210 next218) v209))) ∧ (¬ (v210 < (p0.length : Int)) → (m_impl_HandsFor_K1 Q) v209))))

def m_laws_FnExactHandsFor (p0 : List PlayerC) (p1 : List Int) (Q : Bool → Prop) : Prop :=
  (((p1.length : Int) > 1048576) → Q true) ∧ (¬ ((p1.length : Int) > 1048576) → m_laws_szPlayerS p0 1048576 (fun r11 => ((r11 < 0) → Q true) ∧ (¬ (r11 < 0) → m_laws_toPlayerS p0 (fun r22 => m_laws_toIntS p1 (fun r36 => m_spec_HandsFor r22 r36 (fun r46 => m_laws_toPlayerS p0 (fun r53 => m_laws_toIntS p1 (fun r68 => m_impl_HandsFor r53 r68 (fun r79 => ((r79 ≠ r46) → Q false) ∧ (¬ (r79 ≠ r46) → m_laws_toPlayerS p0 (fun r91 => m_laws_eqPlayerS r53 r91 (fun r105 => ((¬ (r105 = true)) → Q false) ∧ (¬ (¬ (r105 = true)) → m_laws_toIntS p1 (fun r115 => m_laws_eqIntS r68 r115 (fun r125 => ((¬ (r125 = true)) → Q false) ∧ (¬ (¬ (r125 = true)) → Q true))))))))))))))))

abbrev m_spec_NightOk_K0 (p0 : List PlayerC) (p1 : List (List Int)) (Q : Bool → Prop) : Prop :=
  m_spec_PlayersOk p0 (fun r72 => ∃ r78 : Bool, (r72 = true → m_spec_l01In (p1.length : Int) 1 6 (fun z => z = r78)) ∧ Q (r72 && r78))
def m_spec_NightOk (p0 : List PlayerC) (p1 : List (List Int)) (Q : Bool → Prop) : Prop :=
  LoopW1 0 (fun v34 next42 => ((v34 < (p1.length : Int)) → ix v34 p1.length ∧ (¬ (((p1[(Int.toNat v34)]!).length : Int) > 4) → ix v34 p1.length) ∧ ∃ r55 : Bool, (¬ (((p1[(Int.toNat v34)]!).length : Int) > 4) → m_spec_l11Rising (p1[(Int.toNat v34)]!) 6 (fun z => z = r55)) ∧ ((((((p1[(Int.toNat v34)]!).length : Int) > 4) ∨ (¬ (r55 = true)))) → Q false) ∧ (¬ (((((p1[(Int.toNat v34)]!).length : Int) > 4) ∨ (¬ (r55 = true)))) → ok64 (v34 + 1) ∧ next42 (v34 + 1))) ∧ (¬ (v34 < (p1.length : Int)) → (m_spec_NightOk_K0 p0 p1 Q)))

abbrev m_impl_NightOk_K0 (Q : Bool → Prop) : Prop :=
  Q true
def m_impl_NightOk (p0 : List PlayerC) (p1 : List (List Int)) (Q : Bool → Prop) : Prop :=
  m_impl_PlayersOk p0 (fun r7 => ∃ r13 : Bool, (¬ (¬ (r7 = true)) → m_impl_within (p1.length : Int) 1 6 (fun z => z = r13)) ∧ ((((¬ (r7 = true)) ∨ (¬ (r13 = true)))) → Q false) ∧ (¬ (((¬ (r7 = true)) ∨ (¬ (r13 = true)))) → LoopW1 0 (fun v51 next59 => ((v51 < (p1.length : Int)) → ix v51 p1.length ∧ ∃ r69 : Bool, (¬ (((p1[(Int.toNat v51)]!).length : Int) > 4) → m_impl_arePuppets (p1[(Int.toNat v51)]!) (fun z => z = r69)) ∧ ((((((p1[(Int.toNat v51)]!).length : Int) > 4) ∨ (¬ (r69 = true)))) → Q false) ∧ (¬ (((((p1[(Int.toNat v51)]!).length : Int) > 4) ∨ (¬ (r69 = true)))) → ok64 (v51 + 1) ∧ next59 (v51 + 1))) ∧ (¬ (v51 < (p1.length : Int)) → (m_impl_NightOk_K0 Q)))))

def m_laws_FnExactNightOk (p0 : List PlayerC) (p1 : List (List Int)) (Q : Bool → Prop) : Prop :=
  m_laws_szPlayerS p0 1048576 (fun r7 => ((r7 < 0) → Q true) ∧ (¬ (r7 < 0) → m_laws_szIntSS p1 r7 (fun r18 => ((r18 < 0) → Q true) ∧ (¬ (r18 < 0) → m_laws_toPlayerS p0 (fun r29 => m_laws_toIntSS p1 (fun r43 => m_spec_NightOk r29 r43 (fun r57 => m_laws_toPlayerS p0 (fun r64 => m_laws_toIntSS p1 (fun r79 => m_impl_NightOk r64 r79 (fun r94 => (((r94) ≠ (r57)) → Q false) ∧ (¬ ((r94) ≠ (r57)) → m_laws_toPlayerS p0 (fun r106 => m_laws_eqPlayerS r64 r106 (fun r120 => ((¬ (r120 = true)) → Q false) ∧ (¬ (¬ (r120 = true)) → m_laws_toIntSS p1 (fun r130 => m_laws_eqIntSS r79 r130 (fun r144 => ((¬ (r144 = true)) → Q false) ∧ (¬ (¬ (r144 = true)) → Q true)))))))))))))))))

abbrev m_spec_LoadOf_K0 (x239 : List Int) (kont259 : List Int → Prop) (v261 : Int) : Prop :=
  x239.length + 1 ≤ 1099511627776 ∧ kont259 (x239 ++ ([v261]))
abbrev m_spec_LoadOf_K1 (v243 : Int) (next251 : List Int → Int → Prop) (x255 : List Int) : Prop :=
  ok64 (v243 + 1) ∧ next251 x255 (v243 + 1)
abbrev m_spec_LoadOf_K2 (Q : (List Int) → Prop) (x233 : List Int) : Prop :=
  Q x233
def m_spec_LoadOf (p0 : List PlayerC) (p1 : List Int) (Q : (List Int) → Prop) : Prop :=
  m_spec_PlayersOk p0 (fun r14 => ((¬ (r14 = true)) → Q ([])) ∧ (¬ (¬ (r14 = true)) → LoopW2 ([]) 0 (fun x239 v243 next251 => ((v243 < (p0.length : Int)) → LoopW2 0 0 (fun v264 v265 next273 => ((v265 < (p1.length : Int)) → ix v265 p1.length ∧ ((p1[(Int.toNat v265)]! = v243) → ok64 (v264 + 1) ∧ ok64 (v265 + 1) ∧ next273 (v264 + 1) (v265 + 1)) ∧ (¬ (p1[(Int.toNat v265)]! = v243) → ok64 (v265 + 1) ∧ next273 v264 (v265 + 1))) ∧ (¬ (v265 < (p1.length : Int)) → (m_spec_LoadOf_K0 x239 (m_spec_LoadOf_K1 v243 next251)) v264))) ∧ (¬ (v243 < (p0.length : Int)) → (m_spec_LoadOf_K2 Q) x239))))

abbrev m_impl_LoadOf_K0 (Q : (List Int) → Prop) (x89 : List Int) : Prop :=
  Q x89
def m_impl_LoadOf (p0 : List PlayerC) (p1 : List Int) (Q : (List Int) → Prop) : Prop :=
  m_impl_PlayersOk p0 (fun r7 => ((¬ (r7 = true)) → Q ([])) ∧ (¬ (¬ (r7 = true)) → (0 ≤ (p0.length : Int) ∧ (p0.length : Int) ≤ 1099511627776) ∧ LoopW2 (List.replicate (Int.toNat (p0.length : Int)) (0 : Int)) 0 (fun x92 v93 next101 => ((v93 < (p1.length : Int)) → ix v93 p1.length ∧ ok64 ((p0.length : Int) - 1) ∧ m_impl_within (p1[(Int.toNat v93)]!) 0 ((p0.length : Int) - 1) (fun r113 => ((r113 = true) → ix (p1[(Int.toNat v93)]!) x92.length ∧ ok64 (x92[(Int.toNat (p1[(Int.toNat v93)]!))]! + 1) ∧ ix (p1[(Int.toNat v93)]!) x92.length ∧ ok64 (v93 + 1) ∧ next101 (x92.set (Int.toNat (p1[(Int.toNat v93)]!)) (x92[(Int.toNat (p1[(Int.toNat v93)]!))]! + 1)) (v93 + 1)) ∧ (¬ (r113 = true) → ok64 (v93 + 1) ∧ next101 x92 (v93 + 1)))) ∧ (¬ (v93 < (p1.length : Int)) → (m_impl_LoadOf_K0 Q) x92))))

abbrev m_laws_markIntS_K0 (Q : Int → (List Int) → Prop) (x48 : List Int) (v49 : Int) : Prop :=
  Q v49 x48
def m_laws_markIntS (p0 : List Int) (p1 : Int) (Q : Int → (List Int) → Prop) : Prop :=
  LoopW3 p0 p1 0 (fun x52 v53 v54 next62 => ((v54 < (x52.length : Int)) → ix v54 x52.length ∧ ok64 (v53 + 1) ∧ ok64 (v54 + 1) ∧ next62 (x52.set (Int.toNat v54) v53) (v53 + 1) (v54 + 1)) ∧ (¬ (v54 < (x52.length : Int)) → (m_laws_markIntS_K0 Q) x52 v53))

abbrev m_laws_markPlayerS_K0 (Q : Int → (List PlayerC) → Prop) (x103 : List PlayerC) (v106 : Int) : Prop :=
  Q v106 x103
def m_laws_markPlayerS (p0 : List PlayerC) (p1 : Int) (Q : Int → (List PlayerC) → Prop) : Prop :=
  LoopW3 p0 p1 0 (fun x109 v112 v113 next121 => ((v113 < (x109.length : Int)) → ix v113 x109.length ∧ m_laws_markIntS (x109[(Int.toNat v113)]!.1) v112 (fun r139 x140 => ix v113 ((x109.set (Int.toNat v113) (x140, x109[(Int.toNat v113)]!.2)).length) ∧ ok64 (r139 + 1) ∧ ok64 (v113 + 1) ∧ next121 ((x109.set (Int.toNat v113) (x140, x109[(Int.toNat v113)]!.2)).set (Int.toNat v113) ((x109.set (Int.toNat v113) (x140, x109[(Int.toNat v113)]!.2))[(Int.toNat v113)]!.1, r139)) (r139 + 1) (v113 + 1))) ∧ (¬ (v113 < (x109.length : Int)) → (m_laws_markPlayerS_K0 Q) x109 v112))

abbrev m_laws_heldIntS_K0 (Q : Int → Prop) (v44 : Int) : Prop :=
  Q v44
def m_laws_heldIntS (p0 : List Int) (p1 : Int) (Q : Int → Prop) : Prop :=
  LoopW2 p1 0 (fun v47 v48 next56 => ((v48 < (p0.length : Int)) → ix v48 p0.length ∧ ((p0[(Int.toNat v48)]! ≠ v47) → Q (-1)) ∧ (¬ (p0[(Int.toNat v48)]! ≠ v47) → ok64 (v47 + 1) ∧ ok64 (v48 + 1) ∧ next56 (v47 + 1) (v48 + 1))) ∧ (¬ (v48 < (p0.length : Int)) → (m_laws_heldIntS_K0 Q) v47))

def m_laws_FnExactLoadOf (p0 : List PlayerC) (p1 : List Int) (Q : Bool → Prop) : Prop :=
  (((p1.length : Int) > 1048576) → Q true) ∧ (¬ ((p1.length : Int) > 1048576) → m_laws_szPlayerS p0 1048576 (fun r11 => ((r11 < 0) → Q true) ∧ (¬ (r11 < 0) → m_laws_toPlayerS p0 (fun r22 => m_laws_toIntS p1 (fun r36 => m_spec_LoadOf r22 r36 (fun r46 => m_laws_toPlayerS p0 (fun r57 => m_laws_toIntS p1 (fun r72 => m_impl_LoadOf r57 r72 (fun r83 => m_laws_eqIntS r83 r46 (fun r95 => ((¬ (r95 = true)) → Q false) ∧ (¬ (¬ (r95 = true)) → m_laws_toPlayerS p0 (fun r105 => m_laws_eqPlayerS r57 r105 (fun r119 => ((¬ (r119 = true)) → Q false) ∧ (¬ (¬ (r119 = true)) → m_laws_toIntS p1 (fun r129 => m_laws_eqIntS r72 r129 (fun r139 => ((¬ (r139 = true)) → Q false) ∧ (¬ (¬ (r139 = true)) → m_laws_markPlayerS r57 1 (fun r151 x152 => m_laws_markIntS r72 r151 (fun r161 x162 => ∃ r169 : Bool, (¬ (r161 < 0) → m_laws_eqIntS r83 r46 (fun z => z = r169)) ∧ ((((r161 < 0) ∨ (¬ (r169 = true)))) → Q false) ∧ (¬ (((r161 < 0) ∨ (¬ (r169 = true)))) → m_laws_markIntS r83 1 (fun r184 x185 => m_laws_heldIntS x185 1 (fun r192 => ((r192 < 0) → Q false) ∧ (¬ (r192 < 0) → ((r192 ≠ r184) → Q false) ∧ (¬ (r192 ≠ r184) → m_laws_toPlayerS p0 (fun r207 => m_laws_toIntS p1 (fun r221 => m_impl_LoadOf r207 r221 (fun r231 => m_laws_eqIntS r231 r46 (fun r243 => ((¬ (r243 = true)) → Q false) ∧ (¬ (¬ (r243 = true)) → m_laws_heldIntS x185 1 (fun r253 => ((r253 < 0) → Q false) ∧ (¬ (r253 < 0) → ((r253 ≠ r184) → Q false) ∧ (¬ (r253 ≠ r184) → Q true))))))))))))))))))))))))))))))))

def m_spec_IsShort (p0 : List PlayerC) (p1 : List Int) (Q : Bool → Prop) : Prop :=
  m_spec_HandsFor p0 p1 (fun r6 => Q ((decide (r6 ≥ 0)) && (decide (r6 < (p1.length : Int)))))

def m_impl_IsShort (p0 : List PlayerC) (p1 : List Int) (Q : Bool → Prop) : Prop :=
  m_impl_HandsFor p0 p1 (fun r6 => Q ((decide (r6 ≠ (-1))) && (decide (r6 < (p1.length : Int)))))

def m_laws_FnExactIsShort (p0 : List PlayerC) (p1 : List Int) (Q : Bool → Prop) : Prop :=
  (((p1.length : Int) > 1048576) → Q true) ∧ (¬ ((p1.length : Int) > 1048576) → m_laws_szPlayerS p0 1048576 (fun r11 => ((r11 < 0) → Q true) ∧ (¬ (r11 < 0) → m_laws_toPlayerS p0 (fun r22 => m_laws_toIntS p1 (fun r36 => m_spec_IsShort r22 r36 (fun r46 => m_laws_toPlayerS p0 (fun r53 => m_laws_toIntS p1 (fun r68 => m_impl_IsShort r53 r68 (fun r79 => (((r79) ≠ (r46)) → Q false) ∧ (¬ ((r79) ≠ (r46)) → m_laws_toPlayerS p0 (fun r91 => m_laws_eqPlayerS r53 r91 (fun r105 => ((¬ (r105 = true)) → Q false) ∧ (¬ (¬ (r105 = true)) → m_laws_toIntS p1 (fun r115 => m_laws_eqIntS r68 r115 (fun r125 => ((¬ (r125 = true)) → Q false) ∧ (¬ (¬ (r125 = true)) → Q true))))))))))))))))

abbrev m_spec_WhoKnows_K0 (Q : (List Int) → Prop) (x107 : List Int) : Prop :=
  Q x107
def m_spec_WhoKnows (p0 : List PlayerC) (p1 : Int) (Q : (List Int) → Prop) : Prop :=
  LoopW2 ([]) 0 (fun x113 v117 next125 => ∃ r130 : Bool, (v117 < (p0.length : Int) → m_spec_PlayersOk p0 (fun z => z = r130)) ∧ ((((v117 < (p0.length : Int)) ∧ (r130 = true))) → ix v117 p0.length ∧ m_spec_l13Knows (p0[(Int.toNat v117)]!) p1 (fun r143 => ((r143 = true) → x113.length + 1 ≤ 1099511627776 ∧ ok64 (v117 + 1) ∧ next125 (x113 ++ ([v117])) (v117 + 1)) ∧ (¬ (r143 = true) → ok64 (v117 + 1) ∧ next125 x113 (v117 + 1)))) ∧ (¬ (((v117 < (p0.length : Int)) ∧ (r130 = true))) → (m_spec_WhoKnows_K0 Q) x113))

abbrev m_impl_WhoKnows_K0 (Q : (List Int) → Prop) (x128 : List Int) : Prop :=
  Q x128
def m_impl_WhoKnows (p0 : List PlayerC) (p1 : Int) (Q : (List Int) → Prop) : Prop :=
  m_impl_PlayersOk p0 (fun r7 => ((¬ (r7 = true)) → Q ([])) ∧ (¬ (¬ (r7 = true)) → LoopW2 ([]) 0 (fun x134 v138 next146 => ((v138 < (p0.length : Int)) → ix v138 p0.length ∧ m_impl_indexOf (p0[(Int.toNat v138)]!.1) p1 (fun r167 => ((r167 ≥ 0) → x134.length + 1 ≤ 1099511627776 ∧ ok64 (v138 + 1) ∧ next146 (x134 ++ ([v138])) (v138 + 1)) ∧ (¬ (r167 ≥ 0) → ok64 (v138 + 1) ∧ next146 x134 (v138 + 1)))) ∧ (¬ (v138 < (p0.length : Int)) → (m_impl_WhoKnows_K0 Q) x134))))

def m_laws_FnExactWhoKnows (p0 : List PlayerC) (p1 : Int) (Q : Bool → Prop) : Prop :=
  m_laws_szPlayerS p0 1048576 (fun r7 => ((r7 < 0) → Q true) ∧ (¬ (r7 < 0) → m_laws_toPlayerS p0 (fun r18 => m_spec_WhoKnows r18 p1 (fun r32 => m_laws_toPlayerS p0 (fun r43 => m_impl_WhoKnows r43 p1 (fun r58 => m_laws_eqIntS r58 r32 (fun r70 => ((¬ (r70 = true)) → Q false) ∧ (¬ (¬ (r70 = true)) → m_laws_toPlayerS p0 (fun r80 => m_laws_eqPlayerS r43 r80 (fun r94 => ((¬ (r94 = true)) → Q false) ∧ (¬ (¬ (r94 = true)) → m_laws_markPlayerS r43 1 (fun r106 x107 => ∃ r116 : Bool, (¬ (r106 < 0) → m_laws_eqIntS r58 r32 (fun z => z = r116)) ∧ ((((r106 < 0) ∨ (¬ (r116 = true)))) → Q false) ∧ (¬ (((r106 < 0) ∨ (¬ (r116 = true)))) → m_laws_markIntS r58 1 (fun r131 x132 => m_laws_heldIntS x132 1 (fun r139 => ((r139 < 0) → Q false) ∧ (¬ (r139 < 0) → ((r139 ≠ r131) → Q false) ∧ (¬ (r139 ≠ r131) → m_laws_toPlayerS p0 (fun r154 => m_impl_WhoKnows r154 p1 (fun r168 => m_laws_eqIntS r168 r32 (fun r180 => ((¬ (r180 = true)) → Q false) ∧ (¬ (¬ (r180 = true)) → m_laws_heldIntS x132 1 (fun r190 => ((r190 < 0) → Q false) ∧ (¬ (r190 < 0) → ((r190 ≠ r131) → Q false) ∧ (¬ (r190 ≠ r131) → Q true))))))))))))))))))))))))

abbrev m_spec_l17Copy_K0 (Q : (List PlayerC) → Prop) (x291 : List PlayerC) : Prop :=
  Q x291
def m_spec_l17Copy (p0 : List PlayerC) (Q : (List PlayerC) → Prop) : Prop :=
  LoopW2 ([]) 0 (fun x299 v305 next314 => ((v305 < (p0.length : Int)) → ix v305 p0.length ∧ ix v305 p0.length ∧ 0 + (p0[(Int.toNat v305)]!.1).length ≤ 1099511627776 ∧ x299.length + 1 ≤ 1099511627776 ∧ ok64 (v305 + 1) ∧ next314 (x299 ++ ([(p0[(Int.toNat v305)]!.1, p0[(Int.toNat v305)]!.2)])) (v305 + 1)) ∧ (¬ (v305 < (p0.length : Int)) → (m_spec_l17Copy_K0 Q) x299))

def m_spec_WithoutPlayer (p0 : List PlayerC) (p1 : Int) (Q : (List PlayerC) → Bool → Prop) : Prop :=
  m_spec_l17Copy p0 (fun r6 => m_spec_PlayersOk p0 (fun r22 => (¬ (¬ (r22 = true)) → ok64 ((p0.length : Int) - 1)) ∧ ∃ r31 : Bool, (¬ (¬ (r22 = true)) → m_spec_l01In p1 0 ((p0.length : Int) - 1) (fun z => z = r31)) ∧ ((((¬ (r22 = true)) ∨ (¬ (r31 = true)))) → Q r6 false) ∧ (¬ (((¬ (r22 = true)) ∨ (¬ (r31 = true)))) → ix p1 r6.length ∧ Q (r6.set (Int.toNat p1) (r6[(Int.toNat p1)]!.1, 0)) true)))

def m_impl_copyOf (p0 : List Int) (Q : (List Int) → Prop) : Prop :=
  0 + p0.length ≤ 1099511627776 ∧ Q p0

abbrev m_impl_copyPlayers_K0 (Q : (List PlayerC) → Prop) (x251 : List PlayerC) : Prop :=
  Q x251
def m_impl_copyPlayers (p0 : List PlayerC) (Q : (List PlayerC) → Prop) : Prop :=
  LoopW2 ([]) 0 (fun x259 v265 next274 => ((v265 < (p0.length : Int)) → ix v265 p0.length ∧ m_impl_copyOf (p0[(Int.toNat v265)]!.1) (fun r323 => x259.length + 1 ≤ 1099511627776 ∧ ok64 (v265 + 1) ∧ next274 (x259 ++ ([(r323, p0[(Int.toNat v265)]!.2)])) (v265 + 1))) ∧ (¬ (v265 < (p0.length : Int)) → (m_impl_copyPlayers_K0 Q) x259))

def m_impl_WithoutPlayer (p0 : List PlayerC) (p1 : Int) (Q : (List PlayerC) → Bool → Prop) : Prop :=
  m_impl_copyPlayers p0 (fun r6 => m_impl_PlayersOk p0 (fun r22 => (¬ (¬ (r22 = true)) → ok64 ((p0.length : Int) - 1)) ∧ ∃ r31 : Bool, (¬ (¬ (r22 = true)) → m_impl_within p1 0 ((p0.length : Int) - 1) (fun z => z = r31)) ∧ ((((¬ (r22 = true)) ∨ (¬ (r31 = true)))) → Q r6 false) ∧ (¬ (((¬ (r22 = true)) ∨ (¬ (r31 = true)))) → ix p1 r6.length ∧ Q (r6.set (Int.toNat p1) (r6[(Int.toNat p1)]!.1, 0)) true)))

abbrev m_laws_heldPlayerS_K0 (Q : Int → Prop) (v68 : Int) : Prop :=
  Q v68
def m_laws_heldPlayerS (p0 : List PlayerC) (p1 : Int) (Q : Int → Prop) : Prop :=
  LoopW2 p1 0 (fun v71 v72 next80 => ((v72 < (p0.length : Int)) → ix v72 p0.length ∧ m_laws_heldIntS (p0[(Int.toNat v72)]!.1) v71 (fun r90 => ((r90 < 0) → Q (-1)) ∧ (¬ (r90 < 0) → ix v72 p0.length ∧ ((p0[(Int.toNat v72)]!.2 ≠ r90) → Q (-1)) ∧ (¬ (p0[(Int.toNat v72)]!.2 ≠ r90) → ok64 (r90 + 1) ∧ ok64 (v72 + 1) ∧ next80 (r90 + 1) (v72 + 1))))) ∧ (¬ (v72 < (p0.length : Int)) → (m_laws_heldPlayerS_K0 Q) v71))

def m_laws_FnExactWithoutPlayer (p0 : List PlayerC) (p1 : Int) (Q : Bool → Prop) : Prop :=
  m_laws_szPlayerS p0 1048576 (fun r7 => ((r7 < 0) → Q true) ∧ (¬ (r7 < 0) → m_laws_toPlayerS p0 (fun r18 => m_spec_WithoutPlayer r18 p1 (fun r32 r41 => m_laws_toPlayerS p0 (fun r48 => m_impl_WithoutPlayer r48 p1 (fun r63 r72 => m_laws_eqPlayerS r63 r32 (fun r80 => ((((¬ (r80 = true)) ∨ ((r72) ≠ (r41)))) → Q false) ∧ (¬ (((¬ (r80 = true)) ∨ ((r72) ≠ (r41)))) → m_laws_toPlayerS p0 (fun r93 => m_laws_eqPlayerS r48 r93 (fun r107 => ((¬ (r107 = true)) → Q false) ∧ (¬ (¬ (r107 = true)) → m_laws_markPlayerS r48 1 (fun r119 x120 => ∃ r129 : Bool, (¬ (r119 < 0) → m_laws_eqPlayerS r63 r32 (fun z => z = r129)) ∧ ((((((r119 < 0) ∨ (¬ (r129 = true)))) ∨ ((r72) ≠ (r41)))) → Q false) ∧ (¬ (((((r119 < 0) ∨ (¬ (r129 = true)))) ∨ ((r72) ≠ (r41)))) → m_laws_markPlayerS r63 1 (fun r148 x149 => m_laws_heldPlayerS x149 1 (fun r158 => ((r158 < 0) → Q false) ∧ (¬ (r158 < 0) → ((r158 ≠ r148) → Q false) ∧ (¬ (r158 ≠ r148) → m_laws_toPlayerS p0 (fun r173 => m_impl_WithoutPlayer r173 p1 (fun r187 r196 => m_laws_eqPlayerS r187 r32 (fun r204 => ((((¬ (r204 = true)) ∨ ((r196) ≠ (r41)))) → Q false) ∧ (¬ (((¬ (r204 = true)) ∨ ((r196) ≠ (r41)))) → m_laws_heldPlayerS x149 1 (fun r217 => ((r217 < 0) → Q false) ∧ (¬ (r217 < 0) → ((r217 ≠ r148) → Q false) ∧ (¬ (r217 ≠ r148) → Q true))))))))))))))))))))))))

abbrev m_spec_IsCasting_K0 (Q : Bool → Prop) : Prop :=
  Q true
abbrev m_spec_IsCasting_K1 (p0 : List PlayerC) (p2 : List Int) (Q : Bool → Prop) : Prop :=
  m_spec_LoadOf p0 p2 (fun r320 => LoopW1 0 (fun v395 next403 => ((v395 < (r320.length : Int)) → ix v395 r320.length ∧ ix v395 p0.length ∧ ((r320[(Int.toNat v395)]! > p0[(Int.toNat v395)]!.2) → Q false) ∧ (¬ (r320[(Int.toNat v395)]! > p0[(Int.toNat v395)]!.2) → ok64 (v395 + 1) ∧ next403 (v395 + 1))) ∧ (¬ (v395 < (r320.length : Int)) → (m_spec_IsCasting_K0 Q))))
def m_spec_IsCasting (p0 : List PlayerC) (p1 : List Int) (p2 : List Int) (Q : Bool → Prop) : Prop :=
  m_spec_PlayersOk p0 (fun r7 => ∃ r12 : Bool, (¬ (¬ (r7 = true)) → m_spec_l11Rising p1 6 (fun z => z = r12)) ∧ ((((((¬ (r7 = true)) ∨ (¬ (r12 = true)))) ∨ ((p2.length : Int) ≠ (p1.length : Int)))) → Q false) ∧ (¬ (((((¬ (r7 = true)) ∨ (¬ (r12 = true)))) ∨ ((p2.length : Int) ≠ (p1.length : Int)))) → LoopW1 0 (fun v170 next178 => ((v170 < (p2.length : Int)) → ix v170 p2.length ∧ ok64 ((p0.length : Int) - 1) ∧ ∃ r222 : Bool, m_spec_l01In (p2[(Int.toNat v170)]!) 0 ((p0.length : Int) - 1) (fun z => z = r222) ∧ (¬ (¬ (r222 = true)) → ix v170 p2.length) ∧ (¬ (¬ (r222 = true)) → ix (p2[(Int.toNat v170)]!) p0.length) ∧ (¬ (¬ (r222 = true)) → ix v170 p1.length) ∧ ∃ r295 : Bool, (¬ (¬ (r222 = true)) → m_spec_l13Knows (p0[(Int.toNat (p2[(Int.toNat v170)]!))]!) (p1[(Int.toNat v170)]!) (fun z => z = r295)) ∧ ((((¬ (r222 = true)) ∨ (¬ (r295 = true)))) → Q false) ∧ (¬ (((¬ (r222 = true)) ∨ (¬ (r295 = true)))) → ok64 (v170 + 1) ∧ next178 (v170 + 1))) ∧ (¬ (v170 < (p2.length : Int)) → (m_spec_IsCasting_K1 p0 p2 Q)))))

abbrev m_impl_IsCasting_K0 (Q : Bool → Prop) : Prop :=
  Q true
abbrev m_impl_IsCasting_K1 (p0 : List PlayerC) (p2 : List Int) (Q : Bool → Prop) : Prop :=
  m_impl_LoadOf p0 p2 (fun r277 => LoopW1 0 (fun v303 next311 => ((v303 < (r277.length : Int)) → ix v303 r277.length ∧ ix v303 p0.length ∧ ((r277[(Int.toNat v303)]! > p0[(Int.toNat v303)]!.2) → Q false) ∧ (¬ (r277[(Int.toNat v303)]! > p0[(Int.toNat v303)]!.2) → ok64 (v303 + 1) ∧ next311 (v303 + 1))) ∧ (¬ (v303 < (r277.length : Int)) → (m_impl_IsCasting_K0 Q))))
def m_impl_IsCasting (p0 : List PlayerC) (p1 : List Int) (p2 : List Int) (Q : Bool → Prop) : Prop :=
  m_impl_PlayersOk p0 (fun r7 => ∃ r12 : Bool, (¬ (¬ (r7 = true)) → m_impl_arePuppets p1 (fun z => z = r12)) ∧ ((((((¬ (r7 = true)) ∨ (¬ (r12 = true)))) ∨ ((p2.length : Int) ≠ (p1.length : Int)))) → Q false) ∧ (¬ (((((¬ (r7 = true)) ∨ (¬ (r12 = true)))) ∨ ((p2.length : Int) ≠ (p1.length : Int)))) → LoopW1 0 (fun v148 next156 => ((v148 < (p2.length : Int)) → ix v148 p2.length ∧ ok64 ((p0.length : Int) - 1) ∧ ∃ r189 : Bool, m_impl_within (p2[(Int.toNat v148)]!) 0 ((p0.length : Int) - 1) (fun z => z = r189) ∧ (¬ (¬ (r189 = true)) → ix (p2[(Int.toNat v148)]!) p0.length) ∧ (¬ (¬ (r189 = true)) → ix v148 p1.length) ∧ ∃ r251 : Int, (¬ (¬ (r189 = true)) → m_impl_indexOf (p0[(Int.toNat (p2[(Int.toNat v148)]!))]!.1) (p1[(Int.toNat v148)]!) (fun z => z = r251)) ∧ ((((¬ (r189 = true)) ∨ (r251 < 0))) → Q false) ∧ (¬ (((¬ (r189 = true)) ∨ (r251 < 0))) → ok64 (v148 + 1) ∧ next156 (v148 + 1))) ∧ (¬ (v148 < (p2.length : Int)) → (m_impl_IsCasting_K1 p0 p2 Q)))))

def m_laws_FnExactIsCasting (p0 : List PlayerC) (p1 : List Int) (p2 : List Int) (Q : Bool → Prop) : Prop :=
  (((p1.length : Int) > 1048576) → Q true) ∧ (¬ ((p1.length : Int) > 1048576) → (((p2.length : Int) > 1048576) → Q true) ∧ (¬ ((p2.length : Int) > 1048576) → m_laws_szPlayerS p0 1048576 (fun r15 => ((r15 < 0) → Q true) ∧ (¬ (r15 < 0) → m_laws_toPlayerS p0 (fun r26 => m_laws_toIntS p1 (fun r40 => m_laws_toIntS p2 (fun r50 => m_spec_IsCasting r26 r40 r50 (fun r60 => m_laws_toPlayerS p0 (fun r67 => m_laws_toIntS p1 (fun r82 => m_laws_toIntS p2 (fun r93 => m_impl_IsCasting r67 r82 r93 (fun r104 => (((r104) ≠ (r60)) → Q false) ∧ (¬ ((r104) ≠ (r60)) → m_laws_toPlayerS p0 (fun r116 => m_laws_eqPlayerS r67 r116 (fun r130 => ((¬ (r130 = true)) → Q false) ∧ (¬ (¬ (r130 = true)) → m_laws_toIntS p1 (fun r140 => m_laws_eqIntS r82 r140 (fun r150 => ((¬ (r150 = true)) → Q false) ∧ (¬ (¬ (r150 = true)) → m_laws_toIntS p2 (fun r160 => m_laws_eqIntS r93 r160 (fun r170 => ((¬ (r170 = true)) → Q false) ∧ (¬ (¬ (r170 = true)) → Q true))))))))))))))))))))))

abbrev m_spec_l14Part_K0 (Q : (List Int) → Prop) (x82 : List Int) : Prop :=
  Q x82
def m_spec_l14Part (p0 : List Int) (p1 : Int) (Q : (List Int) → Prop) : Prop :=
  LoopW2 ([]) 0 (fun x88 v92 next100 => ((v92 < (p0.length : Int)) → (0 ≤ v92 ∧ v92 < 64) ∧ ((0 : Int) ≤ (sar p1 v92) ∧ (0 : Int) ≤ 1 ∧ ((sar p1 v92) : Int) < 9223372036854775808 ∧ (1 : Int) < 9223372036854775808) ∧ (((band (sar p1 v92) 1) = 1) → ix v92 p0.length ∧ x88.length + 1 ≤ 1099511627776 ∧ ok64 (v92 + 1) ∧ next100 (x88 ++ ([p0[(Int.toNat v92)]!])) (v92 + 1)) ∧ (¬ ((band (sar p1 v92) 1) = 1) → ok64 (v92 + 1) ∧ next100 x88 (v92 + 1))) ∧ (¬ (v92 < (p0.length : Int)) → (m_spec_l14Part_K0 Q) x88))

abbrev m_spec_LackOf_K0 (Q : Int → Prop) (v84 : Int) : Prop :=
  Q v84
def m_spec_LackOf (p0 : List PlayerC) (p1 : List Int) (Q : Int → Prop) : Prop :=
  m_spec_l14Ok p0 p1 (fun r7 => ((¬ (r7 = true)) → Q (-1)) ∧ (¬ (¬ (r7 = true)) → LoopW2 0 0 (fun v87 v88 next96 => (0 ≤ (p1.length : Int) ∧ (p1.length : Int) < 64) ∧ ok64 (sal 1 (p1.length : Int)) ∧ ((v88 < (sal 1 (p1.length : Int))) → m_spec_l14Part p1 v88 (fun r107 => m_spec_HandsFor p0 r107 (fun r117 => ok64 ((r107.length : Int) - r117) ∧ ok64 (v88 + 1) ∧ next96 (max v87 ((r107.length : Int) - r117)) (v88 + 1)))) ∧ (¬ (v88 < (sal 1 (p1.length : Int))) → (m_spec_LackOf_K0 Q) v87))))

abbrev m_impl_subset_K0 (Q : (List Int) → Prop) (x84 : List Int) : Prop :=
  Q x84
def m_impl_subset (p0 : List Int) (p1 : Int) (Q : (List Int) → Prop) : Prop :=
  LoopW2 ([]) 0 (fun x90 v94 next102 => ((v94 < (p0.length : Int)) → ix v94 p0.length ∧ (0 ≤ v94 ∧ v94 < 64) ∧ ((0 : Int) ≤ (sar p1 v94) ∧ (0 : Int) ≤ 1 ∧ ((sar p1 v94) : Int) < 9223372036854775808 ∧ (1 : Int) < 9223372036854775808) ∧ (((band (sar p1 v94) 1) = 1) → x90.length + 1 ≤ 1099511627776 ∧ ok64 (v94 + 1) ∧ next102 (x90 ++ ([p0[(Int.toNat v94)]!])) (v94 + 1)) ∧ (¬ ((band (sar p1 v94) 1) = 1) → ok64 (v94 + 1) ∧ next102 x90 (v94 + 1))) ∧ (¬ (v94 < (p0.length : Int)) → (m_impl_subset_K0 Q) x90))

abbrev m_impl_LackOf_K0 (Q : Int → Prop) (v93 : Int) : Prop :=
  Q v93
def m_impl_LackOf (p0 : List PlayerC) (p1 : List Int) (Q : Int → Prop) : Prop :=
  m_impl_PlayersOk p0 (fun r7 => ∃ r12 : Bool, (¬ (¬ (r7 = true)) → m_impl_arePuppets p1 (fun z => z = r12)) ∧ ((((¬ (r7 = true)) ∨ (¬ (r12 = true)))) → Q (-1)) ∧ (¬ (((¬ (r7 = true)) ∨ (¬ (r12 = true)))) → (0 ≤ (p1.length : Int) ∧ (p1.length : Int) < 64) ∧ ok64 (sal 1 (p1.length : Int)) ∧ LoopW2 0 0 (fun v98 v99 next107 => ((v99 < (sal 1 (p1.length : Int))) → m_impl_subset p1 v99 (fun r117 => m_impl_HandsFor p0 r117 (fun r127 => ok64 ((r117.length : Int) - r127) ∧ ok64 (v99 + 1) ∧ next107 (max v98 ((r117.length : Int) - r127)) (v99 + 1)))) ∧ (¬ (v99 < (sal 1 (p1.length : Int))) → (m_impl_LackOf_K0 Q) v98))))

def m_laws_FnExactLackOf (p0 : List PlayerC) (p1 : List Int) (Q : Bool → Prop) : Prop :=
  (((p1.length : Int) > 1048576) → Q true) ∧ (¬ ((p1.length : Int) > 1048576) → m_laws_szPlayerS p0 1048576 (fun r11 => ((r11 < 0) → Q true) ∧ (¬ (r11 < 0) → m_laws_toPlayerS p0 (fun r22 => m_laws_toIntS p1 (fun r36 => m_spec_LackOf r22 r36 (fun r46 => m_laws_toPlayerS p0 (fun r53 => m_laws_toIntS p1 (fun r68 => m_impl_LackOf r53 r68 (fun r79 => ((r79 ≠ r46) → Q false) ∧ (¬ (r79 ≠ r46) → m_laws_toPlayerS p0 (fun r91 => m_laws_eqPlayerS r53 r91 (fun r105 => ((¬ (r105 = true)) → Q false) ∧ (¬ (¬ (r105 = true)) → m_laws_toIntS p1 (fun r115 => m_laws_eqIntS r68 r115 (fun r125 => ((¬ (r125 = true)) → Q false) ∧ (¬ (¬ (r125 = true)) → Q true))))))))))))))))

abbrev m_spec_TeachPuppet_K0 (p0 : List PlayerC) (p1 : Int) (p2 : Int) (r6 : List PlayerC) (Q : (List PlayerC) → Bool → Prop) (v105 : Int) : Prop :=
  (0 ≤ v105 ∧ v105 ≤ ((p0[(Int.toNat p1)]!.1).length : Int)) ∧ (0 ≤ v105 ∧ v105 ≤ ((p0[(Int.toNat p1)]!.1).length : Int)) ∧ 0 + ((p0[(Int.toNat p1)]!.1).take (Int.toNat v105)).length ≤ 1099511627776 ∧ ((p0[(Int.toNat p1)]!.1).take (Int.toNat v105)).length + 1 ≤ 1099511627776 ∧ (((p0[(Int.toNat p1)]!.1).take (Int.toNat v105)) ++ ([p2])).length + ((p0[(Int.toNat p1)]!.1).drop (Int.toNat v105)).length ≤ 1099511627776 ∧ ix p1 r6.length ∧ Q (r6.set (Int.toNat p1) (((((p0[(Int.toNat p1)]!.1).take (Int.toNat v105)) ++ ([p2])) ++ ((p0[(Int.toNat p1)]!.1).drop (Int.toNat v105))), r6[(Int.toNat p1)]!.2)) true
def m_spec_TeachPuppet (p0 : List PlayerC) (p1 : Int) (p2 : Int) (Q : (List PlayerC) → Bool → Prop) : Prop :=
  m_spec_l17Copy p0 (fun r6 => m_spec_PlayersOk p0 (fun r22 => (¬ (¬ (r22 = true)) → ok64 ((p0.length : Int) - 1)) ∧ ∃ r31 : Bool, (¬ (¬ (r22 = true)) → m_spec_l01In p1 0 ((p0.length : Int) - 1) (fun z => z = r31)) ∧ ∃ r40 : Bool, (¬ (((¬ (r22 = true)) ∨ (¬ (r31 = true)))) → m_spec_l01In p2 0 6 (fun z => z = r40)) ∧ (¬ (((((¬ (r22 = true)) ∨ (¬ (r31 = true)))) ∨ (¬ (r40 = true)))) → ix p1 p0.length) ∧ ∃ r54 : Bool, (¬ (((((¬ (r22 = true)) ∨ (¬ (r31 = true)))) ∨ (¬ (r40 = true)))) → m_spec_l13Knows (p0[(Int.toNat p1)]!) p2 (fun z => z = r54)) ∧ ((((((((¬ (r22 = true)) ∨ (¬ (r31 = true)))) ∨ (¬ (r40 = true)))) ∨ (r54 = true))) → Q r6 false) ∧ (¬ (((((((¬ (r22 = true)) ∨ (¬ (r31 = true)))) ∨ (¬ (r40 = true)))) ∨ (r54 = true))) → ix p1 p0.length ∧ LoopW1 0 (fun v107 next115 => (v107 < ((p0[(Int.toNat p1)]!.1).length : Int) → ix v107 ((p0[(Int.toNat p1)]!.1).length)) ∧ ((((v107 < ((p0[(Int.toNat p1)]!.1).length : Int)) ∧ ((p0[(Int.toNat p1)]!.1)[(Int.toNat v107)]! < p2))) → ok64 (v107 + 1) ∧ next115 (v107 + 1)) ∧ (¬ (((v107 < ((p0[(Int.toNat p1)]!.1).length : Int)) ∧ ((p0[(Int.toNat p1)]!.1)[(Int.toNat v107)]! < p2))) → (m_spec_TeachPuppet_K0 p0 p1 p2 r6 Q) v107)))))

abbrev m_impl_put_K0 (p0 : List Int) (v172 : Int) (next180 : List Int → Bool → Int → Prop) (x187 : List Int) (v191 : Bool) : Prop :=
  x187.length + 1 ≤ 1099511627776 ∧ ok64 (v172 + 1) ∧ next180 (x187 ++ ([p0[(Int.toNat v172)]!])) v191 (v172 + 1)
abbrev m_impl_put_K1 (p1 : Int) (Q : (List Int) → Prop) (x160 : List Int) (v164 : Bool) : Prop :=
  ((¬ (v164 = true)) → x160.length + 1 ≤ 1099511627776 ∧ Q (x160 ++ ([p1]))) ∧ (¬ (¬ (v164 = true)) → Q x160)
def m_impl_put (p0 : List Int) (p1 : Int) (Q : (List Int) → Prop) : Prop :=
  LoopW3 ([]) false 0 (fun x167 v171 v172 next180 => ((v172 < (p0.length : Int)) → ix v172 p0.length ∧ ((((¬ (v171 = true)) ∧ (p1 ≤ p0[(Int.toNat v172)]!))) → x167.length + 1 ≤ 1099511627776 ∧ (m_impl_put_K0 p0 v172 next180) (x167 ++ ([p1])) true) ∧ (¬ (((¬ (v171 = true)) ∧ (p1 ≤ p0[(Int.toNat v172)]!))) → (m_impl_put_K0 p0 v172 next180) x167 v171)) ∧ (¬ (v172 < (p0.length : Int)) → (m_impl_put_K1 p1 Q) x167 v171))

def m_impl_TeachPuppet (p0 : List PlayerC) (p1 : Int) (p2 : Int) (Q : (List PlayerC) → Bool → Prop) : Prop :=
  m_impl_copyPlayers p0 (fun r6 => m_impl_PlayersOk p0 (fun r22 => (¬ (¬ (r22 = true)) → ok64 ((p0.length : Int) - 1)) ∧ ∃ r31 : Bool, (¬ (¬ (r22 = true)) → m_impl_within p1 0 ((p0.length : Int) - 1) (fun z => z = r31)) ∧ ∃ r40 : Bool, (¬ (((¬ (r22 = true)) ∨ (¬ (r31 = true)))) → m_impl_within p2 0 6 (fun z => z = r40)) ∧ (¬ (((((¬ (r22 = true)) ∨ (¬ (r31 = true)))) ∨ (¬ (r40 = true)))) → ix p1 p0.length) ∧ ∃ r55 : Int, (¬ (((((¬ (r22 = true)) ∨ (¬ (r31 = true)))) ∨ (¬ (r40 = true)))) → m_impl_indexOf (p0[(Int.toNat p1)]!.1) p2 (fun z => z = r55)) ∧ ((((((((¬ (r22 = true)) ∨ (¬ (r31 = true)))) ∨ (¬ (r40 = true)))) ∨ (r55 ≥ 0))) → Q r6 false) ∧ (¬ (((((((¬ (r22 = true)) ∨ (¬ (r31 = true)))) ∨ (¬ (r40 = true)))) ∨ (r55 ≥ 0))) → ix p1 p0.length ∧ m_impl_put (p0[(Int.toNat p1)]!.1) p2 (fun r69 => ix p1 r6.length ∧ Q (r6.set (Int.toNat p1) (r69, r6[(Int.toNat p1)]!.2)) true))))

def m_laws_FnExactTeachPuppet (p0 : List PlayerC) (p1 : Int) (p2 : Int) (Q : Bool → Prop) : Prop :=
  m_laws_szPlayerS p0 1048576 (fun r7 => ((r7 < 0) → Q true) ∧ (¬ (r7 < 0) → m_laws_toPlayerS p0 (fun r18 => m_spec_TeachPuppet r18 p1 p2 (fun r32 r41 => m_laws_toPlayerS p0 (fun r48 => m_impl_TeachPuppet r48 p1 p2 (fun r63 r72 => m_laws_eqPlayerS r63 r32 (fun r80 => ((((¬ (r80 = true)) ∨ ((r72) ≠ (r41)))) → Q false) ∧ (¬ (((¬ (r80 = true)) ∨ ((r72) ≠ (r41)))) → m_laws_toPlayerS p0 (fun r93 => m_laws_eqPlayerS r48 r93 (fun r107 => ((¬ (r107 = true)) → Q false) ∧ (¬ (¬ (r107 = true)) → m_laws_markPlayerS r48 1 (fun r119 x120 => ∃ r129 : Bool, (¬ (r119 < 0) → m_laws_eqPlayerS r63 r32 (fun z => z = r129)) ∧ ((((((r119 < 0) ∨ (¬ (r129 = true)))) ∨ ((r72) ≠ (r41)))) → Q false) ∧ (¬ (((((r119 < 0) ∨ (¬ (r129 = true)))) ∨ ((r72) ≠ (r41)))) → m_laws_markPlayerS r63 1 (fun r148 x149 => m_laws_heldPlayerS x149 1 (fun r158 => ((r158 < 0) → Q false) ∧ (¬ (r158 < 0) → ((r158 ≠ r148) → Q false) ∧ (¬ (r158 ≠ r148) → m_laws_toPlayerS p0 (fun r173 => m_impl_TeachPuppet r173 p1 p2 (fun r187 r196 => m_laws_eqPlayerS r187 r32 (fun r204 => ((((¬ (r204 = true)) ∨ ((r196) ≠ (r41)))) → Q false) ∧ (¬ (((¬ (r204 = true)) ∨ ((r196) ≠ (r41)))) → m_laws_heldPlayerS x149 1 (fun r217 => ((r217 < 0) → Q false) ∧ (¬ (r217 < 0) → ((r217 ≠ r148) → Q false) ∧ (¬ (r217 ≠ r148) → Q true))))))))))))))))))))))))

abbrev m_spec_ShortSet_K0 (Q : (List Int) → Bool → Prop) : Prop :=
  Q ([]) false
def m_spec_ShortSet (p0 : List PlayerC) (p1 : List Int) (Q : (List Int) → Bool → Prop) : Prop :=
  m_spec_l14Ok p0 p1 (fun r7 => ((¬ (r7 = true)) → Q ([]) false) ∧ (¬ (¬ (r7 = true)) → LoopW1 0 (fun v55 next63 => (0 ≤ (p1.length : Int) ∧ (p1.length : Int) < 64) ∧ ok64 (sal 1 (p1.length : Int)) ∧ ((v55 < (sal 1 (p1.length : Int))) → m_spec_l14Part p1 v55 (fun r74 => m_spec_IsShort p0 r74 (fun r85 => ((r85 = true) → Q r74 true) ∧ (¬ (r85 = true) → ok64 (v55 + 1) ∧ next63 (v55 + 1))))) ∧ (¬ (v55 < (sal 1 (p1.length : Int))) → (m_spec_ShortSet_K0 Q)))))

abbrev m_impl_ShortSet_K0 (Q : (List Int) → Bool → Prop) : Prop :=
  Q ([]) false
def m_impl_ShortSet (p0 : List PlayerC) (p1 : List Int) (Q : (List Int) → Bool → Prop) : Prop :=
  m_impl_PlayersOk p0 (fun r7 => ∃ r12 : Bool, (¬ (¬ (r7 = true)) → m_impl_arePuppets p1 (fun z => z = r12)) ∧ ((((¬ (r7 = true)) ∨ (¬ (r12 = true)))) → Q ([]) false) ∧ (¬ (((¬ (r7 = true)) ∨ (¬ (r12 = true)))) → (0 ≤ (p1.length : Int) ∧ (p1.length : Int) < 64) ∧ ok64 (sal 1 (p1.length : Int)) ∧ LoopW1 0 (fun v61 next69 => ((v61 < (sal 1 (p1.length : Int))) → m_impl_subset p1 v61 (fun r79 => m_impl_IsShort p0 r79 (fun r90 => ((r90 = true) → Q r79 true) ∧ (¬ (r90 = true) → ok64 (v61 + 1) ∧ next69 (v61 + 1))))) ∧ (¬ (v61 < (sal 1 (p1.length : Int))) → (m_impl_ShortSet_K0 Q)))))

def m_laws_FnExactShortSet (p0 : List PlayerC) (p1 : List Int) (Q : Bool → Prop) : Prop :=
  (((p1.length : Int) > 1048576) → Q true) ∧ (¬ ((p1.length : Int) > 1048576) → m_laws_szPlayerS p0 1048576 (fun r11 => ((r11 < 0) → Q true) ∧ (¬ (r11 < 0) → m_laws_toPlayerS p0 (fun r22 => m_laws_toIntS p1 (fun r36 => m_spec_ShortSet r22 r36 (fun r46 r51 => m_laws_toPlayerS p0 (fun r58 => m_laws_toIntS p1 (fun r73 => m_impl_ShortSet r58 r73 (fun r84 r89 => m_laws_eqIntS r84 r46 (fun r97 => ((((¬ (r97 = true)) ∨ ((r89) ≠ (r51)))) → Q false) ∧ (¬ (((¬ (r97 = true)) ∨ ((r89) ≠ (r51)))) → m_laws_toPlayerS p0 (fun r110 => m_laws_eqPlayerS r58 r110 (fun r124 => ((¬ (r124 = true)) → Q false) ∧ (¬ (¬ (r124 = true)) → m_laws_toIntS p1 (fun r134 => m_laws_eqIntS r73 r134 (fun r144 => ((¬ (r144 = true)) → Q false) ∧ (¬ (¬ (r144 = true)) → m_laws_markPlayerS r58 1 (fun r156 x157 => m_laws_markIntS r73 r156 (fun r166 x167 => ∃ r174 : Bool, (¬ (r166 < 0) → m_laws_eqIntS r84 r46 (fun z => z = r174)) ∧ ((((((r166 < 0) ∨ (¬ (r174 = true)))) ∨ ((r89) ≠ (r51)))) → Q false) ∧ (¬ (((((r166 < 0) ∨ (¬ (r174 = true)))) ∨ ((r89) ≠ (r51)))) → m_laws_markIntS r84 1 (fun r192 x193 => m_laws_heldIntS x193 1 (fun r200 => ((r200 < 0) → Q false) ∧ (¬ (r200 < 0) → ((r200 ≠ r192) → Q false) ∧ (¬ (r200 ≠ r192) → m_laws_toPlayerS p0 (fun r215 => m_laws_toIntS p1 (fun r229 => m_impl_ShortSet r215 r229 (fun r239 r244 => m_laws_eqIntS r239 r46 (fun r252 => ((((¬ (r252 = true)) ∨ ((r244) ≠ (r51)))) → Q false) ∧ (¬ (((¬ (r252 = true)) ∨ ((r244) ≠ (r51)))) → m_laws_heldIntS x193 1 (fun r265 => ((r265 < 0) → Q false) ∧ (¬ (r265 < 0) → ((r265 ≠ r192) → Q false) ∧ (¬ (r265 ≠ r192) → Q true))))))))))))))))))))))))))))))))

end Go.Proofs.Ythmlfpfebdnpcaa
