/- Plain models of functions of the program, printed by a program (gen2.py): what each asks and what it hands on. No statement of the claim stands here. -/
import Derived.Test.YtddjkiefadiijaaPure
namespace Go.Proofs.Ytddjkiefadiijaa
def m_laws_szIntS (p0 : List Int) (p1 : Int) (Q : Int → Prop) : Prop :=
  ok64 (p1 - (p0.length : Int)) ∧ (((p1 - (p0.length : Int)) < 0) → Q (-1)) ∧ (¬ ((p1 - (p0.length : Int)) < 0) → Q (p1 - (p0.length : Int)))

def m_laws_szPlayer (p0 : PlayerC) (p1 : Int) (Q : Int → Prop) : Prop :=
  m_laws_szIntS p0.1 p1 (fun r12 => ((r12 < 0) → Q (-1)) ∧ (¬ (r12 < 0) → Q r12))

abbrev m_laws_szPlayerS_K0 (Q : Int → Prop) (v60 : Int) : Prop :=
  Q v60
def m_laws_szPlayerS (p0 : List PlayerC) (p1 : Int) (Q : Int → Prop) : Prop :=
  ok64 (p1 - (p0.length : Int)) ∧ (((p1 - (p0.length : Int)) < 0) → Q (-1)) ∧ (¬ ((p1 - (p0.length : Int)) < 0) → LoopW2 (p1 - (p0.length : Int)) 0 (fun v63 v64 next72 => ((v64 < (p0.length : Int)) → ix v64 p0.length ∧ m_laws_szPlayer (p0[(Int.toNat v64)]!) v63 (fun r82 => ((r82 < 0) → Q (-1)) ∧ (¬ (r82 < 0) → ok64 (v64 + 1) ∧ next72 r82 (v64 + 1)))) ∧ (¬ (v64 < (p0.length : Int)) → (m_laws_szPlayerS_K0 Q) v63)))

abbrev m_laws_szIntSS_K0 (Q : Int → Prop) (v60 : Int) : Prop :=
  Q v60
def m_laws_szIntSS (p0 : List (List Int)) (p1 : Int) (Q : Int → Prop) : Prop :=
  ok64 (p1 - (p0.length : Int)) ∧ (((p1 - (p0.length : Int)) < 0) → Q (-1)) ∧ (¬ ((p1 - (p0.length : Int)) < 0) → LoopW2 (p1 - (p0.length : Int)) 0 (fun v63 v64 next72 => ((v64 < (p0.length : Int)) → ix v64 p0.length ∧ m_laws_szIntS (p0[(Int.toNat v64)]!) v63 (fun r82 => ((r82 < 0) → Q (-1)) ∧ (¬ (r82 < 0) → ok64 (v64 + 1) ∧ next72 r82 (v64 + 1)))) ∧ (¬ (v64 < (p0.length : Int)) → (m_laws_szIntSS_K0 Q) v63)))

abbrev m_laws_toIntS_K0 (Q : (List Int) → Prop) (x52 : List Int) : Prop :=
  Q x52
def m_laws_toIntS (p0 : List Int) (Q : (List Int) → Prop) : Prop :=
  (0 ≤ (p0.length : Int) ∧ (p0.length : Int) ≤ 1099511627776) ∧ LoopW2 (List.replicate (Int.toNat (p0.length : Int)) (0 : Int)) 0 (fun x55 v56 next64 => ((v56 < (p0.length : Int)) → ix v56 p0.length ∧ ix v56 x55.length ∧ ok64 (v56 + 1) ∧ next64 (x55.set (Int.toNat v56) (p0[(Int.toNat v56)]!)) (v56 + 1)) ∧ (¬ (v56 < (p0.length : Int)) → (m_laws_toIntS_K0 Q) x55))

def m_laws_toPlayer (p0 : PlayerC) (Q : PlayerC → Prop) : Prop :=
  m_laws_toIntS p0.1 (fun r25 => Q (r25, p0.2))

abbrev m_laws_toPlayerS_K0 (Q : (List PlayerC) → Prop) (x92 : List PlayerC) : Prop :=
  Q x92
def m_laws_toPlayerS (p0 : List PlayerC) (Q : (List PlayerC) → Prop) : Prop :=
  (0 ≤ (p0.length : Int) ∧ (p0.length : Int) ≤ 1099511627776) ∧ LoopW2 (List.replicate (Int.toNat (p0.length : Int)) (([], 0) : PlayerC)) 0 (fun x97 v100 next109 => ((v100 < (p0.length : Int)) → ix v100 p0.length ∧ m_laws_toPlayer (p0[(Int.toNat v100)]!) (fun r118 => ix v100 x97.length ∧ ok64 (v100 + 1) ∧ next109 (x97.set (Int.toNat v100) r118) (v100 + 1))) ∧ (¬ (v100 < (p0.length : Int)) → (m_laws_toPlayerS_K0 Q) x97))

abbrev m_laws_toIntSS_K0 (Q : (List (List Int)) → Prop) (x100 : List (List Int)) : Prop :=
  Q x100
def m_laws_toIntSS (p0 : List (List Int)) (Q : (List (List Int)) → Prop) : Prop :=
  (0 ≤ (p0.length : Int) ∧ (p0.length : Int) ≤ 1099511627776) ∧ LoopW2 (List.replicate (Int.toNat (p0.length : Int)) ([] : List Int)) 0 (fun x105 v108 next117 => ((v108 < (p0.length : Int)) → ix v108 p0.length ∧ m_laws_toIntS (p0[(Int.toNat v108)]!) (fun r126 => ix v108 x105.length ∧ ok64 (v108 + 1) ∧ next117 (x105.set (Int.toNat v108) r126) (v108 + 1))) ∧ (¬ (v108 < (p0.length : Int)) → (m_laws_toIntSS_K0 Q) x105))

def m_spec_l01In (p0 : Int) (p1 : Int) (p2 : Int) (Q : Bool → Prop) : Prop :=
  Q ((decide (p0 ≥ p1)) && (decide (p0 ≤ p2)))

abbrev m_spec_l11Rising_K0 (Q : Bool → Prop) : Prop :=
  Q true
def m_spec_l11Rising (p0 : List Int) (p1 : Int) (Q : Bool → Prop) : Prop :=
  LoopW1 0 (fun v140 next148 => ((v140 < (p0.length : Int)) → ix v140 p0.length ∧ ∃ r183 : Bool, m_spec_l01In (p0[(Int.toNat v140)]!) 0 p1 (fun z => z = r183) ∧ ((¬ (¬ (r183 = true))) ∧ (v140 > 0) → ix v140 p0.length) ∧ ((¬ (¬ (r183 = true))) ∧ (v140 > 0) → ok64 (v140 - 1)) ∧ ((¬ (¬ (r183 = true))) ∧ (v140 > 0) → ix (v140 - 1) p0.length) ∧ ((((¬ (r183 = true)) ∨ (((v140 > 0) ∧ (p0[(Int.toNat v140)]! ≤ p0[(Int.toNat (v140 - 1))]!))))) → Q false) ∧ (¬ (((¬ (r183 = true)) ∨ (((v140 > 0) ∧ (p0[(Int.toNat v140)]! ≤ p0[(Int.toNat (v140 - 1))]!))))) → ok64 (v140 + 1) ∧ next148 (v140 + 1))) ∧ (¬ (v140 < (p0.length : Int)) → (m_spec_l11Rising_K0 Q)))

abbrev m_spec_PlayersOk_K0 (p0 : List PlayerC) (Q : Bool → Prop) : Prop :=
  m_spec_l01In (p0.length : Int) 1 6 (fun r86 => Q r86)
def m_spec_PlayersOk (p0 : List PlayerC) (Q : Bool → Prop) : Prop :=
  LoopW1 0 (fun v41 next49 => ((v41 < (p0.length : Int)) → ix v41 p0.length ∧ m_spec_l11Rising (p0[(Int.toNat v41)]!.1) 6 (fun r59 => (¬ (¬ (r59 = true)) → ix v41 p0.length) ∧ ∃ r69 : Bool, (¬ (¬ (r59 = true)) → m_spec_l01In (p0[(Int.toNat v41)]!.2) 0 2 (fun z => z = r69)) ∧ ((((¬ (r59 = true)) ∨ (¬ (r69 = true)))) → Q false) ∧ (¬ (((¬ (r59 = true)) ∨ (¬ (r69 = true)))) → ok64 (v41 + 1) ∧ next49 (v41 + 1)))) ∧ (¬ (v41 < (p0.length : Int)) → (m_spec_PlayersOk_K0 p0 Q)))

abbrev m_spec_NightOk_K0 (p0 : List PlayerC) (p1 : List (List Int)) (Q : Bool → Prop) : Prop :=
  m_spec_PlayersOk p0 (fun r72 => ∃ r78 : Bool, (r72 = true → m_spec_l01In (p1.length : Int) 1 6 (fun z => z = r78)) ∧ Q (r72 && r78))
def m_spec_NightOk (p0 : List PlayerC) (p1 : List (List Int)) (Q : Bool → Prop) : Prop :=
  LoopW1 0 (fun v34 next42 => ((v34 < (p1.length : Int)) → ix v34 p1.length ∧ (¬ (((p1[(Int.toNat v34)]!).length : Int) > 4) → ix v34 p1.length) ∧ ∃ r55 : Bool, (¬ (((p1[(Int.toNat v34)]!).length : Int) > 4) → m_spec_l11Rising (p1[(Int.toNat v34)]!) 6 (fun z => z = r55)) ∧ ((((((p1[(Int.toNat v34)]!).length : Int) > 4) ∨ (¬ (r55 = true)))) → Q false) ∧ (¬ (((((p1[(Int.toNat v34)]!).length : Int) > 4) ∨ (¬ (r55 = true)))) → ok64 (v34 + 1) ∧ next42 (v34 + 1))) ∧ (¬ (v34 < (p1.length : Int)) → (m_spec_NightOk_K0 p0 p1 Q)))

def m_spec_l14Ok (p0 : List PlayerC) (p1 : List Int) (Q : Bool → Prop) : Prop :=
  m_spec_PlayersOk p0 (fun r6 => ∃ r11 : Bool, (r6 = true → m_spec_l11Rising p1 6 (fun z => z = r11)) ∧ Q (r6 && r11))

abbrev m_spec_l13Knows_K0 (Q : Bool → Prop) : Prop :=
  Q false
def m_spec_l13Knows (p0 : PlayerC) (p1 : Int) (Q : Bool → Prop) : Prop :=
  LoopW1 0 (fun v27 next35 => ((v27 < (p0.1.length : Int)) → ix v27 p0.1.length ∧ ((p0.1[(Int.toNat v27)]! = p1) → Q true) ∧ (¬ (p0.1[(Int.toNat v27)]! = p1) → ok64 (v27 + 1) ∧ next35 (v27 + 1))) ∧ (¬ (v27 < (p0.1.length : Int)) → (m_spec_l13Knows_K0 Q)))

abbrev m_spec_LoadOf_K0 (x239 : List Int) (kont259 : List Int → Prop) (v261 : Int) : Prop :=
  x239.length + 1 ≤ 1099511627776 ∧ kont259 (x239 ++ ([v261]))
abbrev m_spec_LoadOf_K1 (v243 : Int) (next251 : List Int → Int → Prop) (x255 : List Int) : Prop :=
  ok64 (v243 + 1) ∧ next251 x255 (v243 + 1)
abbrev m_spec_LoadOf_K2 (Q : (List Int) → Prop) (x233 : List Int) : Prop :=
  Q x233
def m_spec_LoadOf (p0 : List PlayerC) (p1 : List Int) (Q : (List Int) → Prop) : Prop :=
  m_spec_PlayersOk p0 (fun r14 => ((¬ (r14 = true)) → Q ([])) ∧ (¬ (¬ (r14 = true)) → LoopW2 ([]) 0 (fun x239 v243 next251 => ((v243 < (p0.length : Int)) → LoopW2 0 0 (fun v264 v265 next273 => ((v265 < (p1.length : Int)) → ix v265 p1.length ∧ ((p1[(Int.toNat v265)]! = v243) → ok64 (v264 + 1) ∧ ok64 (v265 + 1) ∧ next273 (v264 + 1) (v265 + 1)) ∧ (¬ (p1[(Int.toNat v265)]! = v243) → ok64 (v265 + 1) ∧ next273 v264 (v265 + 1))) ∧ (¬ (v265 < (p1.length : Int)) → (m_spec_LoadOf_K0 x239 (m_spec_LoadOf_K1 v243 next251)) v264))) ∧ (¬ (v243 < (p0.length : Int)) → (m_spec_LoadOf_K2 Q) x239))))

abbrev m_spec_IsCasting_K0 (Q : Bool → Prop) : Prop :=
  Q true
abbrev m_spec_IsCasting_K1 (p0 : List PlayerC) (p2 : List Int) (Q : Bool → Prop) : Prop :=
  m_spec_LoadOf p0 p2 (fun r320 => LoopW1 0 (fun v395 next403 => ((v395 < (r320.length : Int)) → ix v395 r320.length ∧ ix v395 p0.length ∧ ((r320[(Int.toNat v395)]! > p0[(Int.toNat v395)]!.2) → Q false) ∧ (¬ (r320[(Int.toNat v395)]! > p0[(Int.toNat v395)]!.2) → ok64 (v395 + 1) ∧ next403 (v395 + 1))) ∧ (¬ (v395 < (r320.length : Int)) → (m_spec_IsCasting_K0 Q))))
def m_spec_IsCasting (p0 : List PlayerC) (p1 : List Int) (p2 : List Int) (Q : Bool → Prop) : Prop :=
  m_spec_PlayersOk p0 (fun r7 => ∃ r12 : Bool, (¬ (¬ (r7 = true)) → m_spec_l11Rising p1 6 (fun z => z = r12)) ∧ ((((((¬ (r7 = true)) ∨ (¬ (r12 = true)))) ∨ ((p2.length : Int) ≠ (p1.length : Int)))) → Q false) ∧ (¬ (((((¬ (r7 = true)) ∨ (¬ (r12 = true)))) ∨ ((p2.length : Int) ≠ (p1.length : Int)))) → LoopW1 0 (fun v170 next178 => ((v170 < (p2.length : Int)) → ix v170 p2.length ∧ ok64 ((p0.length : Int) - 1) ∧ ∃ r222 : Bool, m_spec_l01In (p2[(Int.toNat v170)]!) 0 ((p0.length : Int) - 1) (fun z => z = r222) ∧ (¬ (¬ (r222 = true)) → ix v170 p2.length) ∧ (¬ (¬ (r222 = true)) → ix (p2[(Int.toNat v170)]!) p0.length) ∧ (¬ (¬ (r222 = true)) → ix v170 p1.length) ∧ ∃ r295 : Bool, (¬ (¬ (r222 = true)) → m_spec_l13Knows (p0[(Int.toNat (p2[(Int.toNat v170)]!))]!) (p1[(Int.toNat v170)]!) (fun z => z = r295)) ∧ ((((¬ (r222 = true)) ∨ (¬ (r295 = true)))) → Q false) ∧ (¬ (((¬ (r222 = true)) ∨ (¬ (r295 = true)))) → ok64 (v170 + 1) ∧ next178 (v170 + 1))) ∧ (¬ (v170 < (p2.length : Int)) → (m_spec_IsCasting_K1 p0 p2 Q)))))

abbrev m_spec_CastingsOf_K0 (p0 : List PlayerC) (p1 : List Int) (x454 : List (List Int)) (kont478 : List (List Int) → Prop) (x488 : List Int) : Prop :=
  m_spec_IsCasting p0 p1 x488 (fun r529 => ((r529 = true) → x454.length + 1 ≤ 1099511627776 ∧ kont478 (x454 ++ ([x488]))) ∧ (¬ (r529 = true) → kont478 x454))
abbrev m_spec_CastingsOf_K1 (v460 : Int) (next468 : List (List Int) → Int → Prop) (x472 : List (List Int)) : Prop :=
  ok64 (v460 + 1) ∧ next468 x472 (v460 + 1)
abbrev m_spec_CastingsOf_K2 (Q : (List (List Int)) → Prop) (x446 : List (List Int)) : Prop :=
  Q x446
abbrev m_spec_CastingsOf_K3 (p0 : List PlayerC) (p1 : List Int) (Q : (List (List Int)) → Prop) (v62 : Int) : Prop :=
  LoopW2 ([]) 0 (fun x454 v460 next468 => ((v460 < v62) → (0 ≤ (p1.length : Int) ∧ (p1.length : Int) ≤ 1099511627776) ∧ ok64 ((p1.length : Int) - 1) ∧ LoopW3 (List.replicate (Int.toNat (p1.length : Int)) (0 : Int)) v460 ((p1.length : Int) - 1) (fun x492 v493 v494 next504 => ((v494 ≥ 0) → (p0.length : Int) ≠ 0 ∧ ix v494 x492.length ∧ (p0.length : Int) ≠ 0 ∧ ok64 (Int.tdiv v493 (p0.length : Int)) ∧ ok64 (v494 - 1) ∧ next504 (x492.set (Int.toNat v494) (Int.tmod v493 (p0.length : Int))) (Int.tdiv v493 (p0.length : Int)) (v494 - 1)) ∧ (¬ (v494 ≥ 0) → (m_spec_CastingsOf_K0 p0 p1 x454 (m_spec_CastingsOf_K1 v460 next468)) x492))) ∧ (¬ (v460 < v62) → (m_spec_CastingsOf_K2 Q) x454))
def m_spec_CastingsOf (p0 : List PlayerC) (p1 : List Int) (Q : (List (List Int)) → Prop) : Prop :=
  m_spec_l14Ok p0 p1 (fun r18 => ((((¬ (r18 = true)) ∨ ((p1.length : Int) > 4))) → Q ([])) ∧ (¬ (((¬ (r18 = true)) ∨ ((p1.length : Int) > 4))) → LoopW2 1 0 (fun v65 v66 next75 => ((v66 < (p1.length : Int)) → ok64 (v65 * (p0.length : Int)) ∧ ok64 (v66 + 1) ∧ next75 (v65 * (p0.length : Int)) (v66 + 1)) ∧ (¬ (v66 < (p1.length : Int)) → (m_spec_CastingsOf_K3 p0 p1 Q) v65))))

abbrev m_spec_ChangesBetween_K0 (v535 : Int) (next543 : Int → Int → Prop) (v547 : Int) : Prop :=
  ok64 (v535 + 1) ∧ next543 v547 (v535 + 1)
abbrev m_spec_ChangesBetween_K1 (Q : Int → Prop) (v531 : Int) : Prop :=
  Q v531
def m_spec_ChangesBetween (p0 : List Int) (p1 : List Int) (p2 : List Int) (p3 : List Int) (Q : Int → Prop) : Prop :=
  (((((p0.length : Int) ≠ (p1.length : Int)) ∨ ((p2.length : Int) ≠ (p3.length : Int)))) → Q (-1)) ∧ (¬ ((((p0.length : Int) ≠ (p1.length : Int)) ∨ ((p2.length : Int) ≠ (p3.length : Int)))) → LoopW2 0 0 (fun v534 v535 next543 => ((v535 < (p0.length : Int)) → LoopW2 v534 0 (fun v550 v551 next559 => ((v551 < (p2.length : Int)) → ix v535 p0.length ∧ ix v551 p2.length ∧ (p0[(Int.toNat v535)]! = p2[(Int.toNat v551)]! → ix v535 p1.length) ∧ (p0[(Int.toNat v535)]! = p2[(Int.toNat v551)]! → ix v551 p3.length) ∧ ((((p0[(Int.toNat v535)]! = p2[(Int.toNat v551)]!) ∧ (p1[(Int.toNat v535)]! ≠ p3[(Int.toNat v551)]!))) → ok64 (v550 + 1) ∧ ok64 (v551 + 1) ∧ next559 (v550 + 1) (v551 + 1)) ∧ (¬ (((p0[(Int.toNat v535)]! = p2[(Int.toNat v551)]!) ∧ (p1[(Int.toNat v535)]! ≠ p3[(Int.toNat v551)]!))) → ok64 (v551 + 1) ∧ next559 v550 (v551 + 1))) ∧ (¬ (v551 < (p2.length : Int)) → (m_spec_ChangesBetween_K0 v535 next543) v550))) ∧ (¬ (v535 < (p0.length : Int)) → (m_spec_ChangesBetween_K1 Q) v534)))

abbrev m_spec_l15Costs_K0 (v1686 : Int) (x1743 : List (List Int)) (v1746 : Int) (kont1766 : List (List Int) → Prop) (v1785 : Int) : Prop :=
  ix v1686 x1743.length ∧ ix v1746 ((x1743[(Int.toNat v1686)]!).length) ∧ kont1766 (x1743.set (Int.toNat v1686) (x1743[(Int.toNat v1686)]!.set (Int.toNat v1746) v1785))
abbrev m_spec_l15Costs_K1 (v1746 : Int) (next1754 : List (List Int) → Int → Prop) (x1763 : List (List Int)) : Prop :=
  ok64 (v1746 + 1) ∧ next1754 x1763 (v1746 + 1)
abbrev m_spec_l15Costs_K2 (v1686 : Int) (next1695 : List (List Int) → Int → Prop) (x1699 : List (List Int)) : Prop :=
  ok64 (v1686 - 1) ∧ next1695 x1699 (v1686 - 1)
abbrev m_spec_l15Costs_K3 (Q : (List (List Int)) → Prop) (x1677 : List (List Int)) : Prop :=
  Q x1677
def m_spec_l15Costs (p0 : List PlayerC) (p1 : List (List Int)) (Q : (List (List Int)) → Prop) : Prop :=
  (0 ≤ (p1.length : Int) ∧ (p1.length : Int) ≤ 1099511627776) ∧ ok64 ((p1.length : Int) - 1) ∧ LoopW2 (List.replicate (Int.toNat (p1.length : Int)) ([] : List Int)) ((p1.length : Int) - 1) (fun x1683 v1686 next1695 => ((v1686 ≥ 0) → ix v1686 p1.length ∧ m_spec_CastingsOf p0 (p1[(Int.toNat v1686)]!) (fun r1708 => (0 ≤ (r1708.length : Int) ∧ (r1708.length : Int) ≤ 1099511627776) ∧ ix v1686 x1683.length ∧ LoopW2 (x1683.set (Int.toNat v1686) (List.replicate (Int.toNat (r1708.length : Int)) (0 : Int))) 0 (fun x1743 v1746 next1754 => (v1746 < (r1708.length : Int) → ok64 ((p1.length : Int) - 1)) ∧ ((((v1746 < (r1708.length : Int)) ∧ (v1686 < ((p1.length : Int) - 1)))) → ok64 (v1686 + 1) ∧ ix (v1686 + 1) p1.length ∧ m_spec_CastingsOf p0 (p1[(Int.toNat (v1686 + 1))]!) (fun r1773 => LoopW2 (-1) 0 (fun v1788 v1789 next1803 => ((v1789 < (r1773.length : Int)) → ok64 (v1686 + 1) ∧ ix (v1686 + 1) x1743.length ∧ ix v1789 ((x1743[(Int.toNat (v1686 + 1))]!).length) ∧ (((x1743[(Int.toNat (v1686 + 1))]!)[(Int.toNat v1789)]! < 0) → ok64 (v1789 + 1) ∧ next1803 v1788 (v1789 + 1)) ∧ (¬ ((x1743[(Int.toNat (v1686 + 1))]!)[(Int.toNat v1789)]! < 0) → ok64 (v1686 + 1) ∧ ix (v1686 + 1) x1743.length ∧ ix v1789 ((x1743[(Int.toNat (v1686 + 1))]!).length) ∧ ix v1686 p1.length ∧ ix v1746 r1708.length ∧ ok64 (v1686 + 1) ∧ ix (v1686 + 1) p1.length ∧ ix v1789 r1773.length ∧ ∃ r1932 : Int, m_spec_ChangesBetween (p1[(Int.toNat v1686)]!) (r1708[(Int.toNat v1746)]!) (p1[(Int.toNat (v1686 + 1))]!) (r1773[(Int.toNat v1789)]!) (fun z => z = r1932) ∧ ok64 ((x1743[(Int.toNat (v1686 + 1))]!)[(Int.toNat v1789)]! + r1932) ∧ ((((v1788 < 0) ∨ (((x1743[(Int.toNat (v1686 + 1))]!)[(Int.toNat v1789)]! + r1932) < v1788))) → ok64 (v1789 + 1) ∧ next1803 ((x1743[(Int.toNat (v1686 + 1))]!)[(Int.toNat v1789)]! + r1932) (v1789 + 1)) ∧ (¬ (((v1788 < 0) ∨ (((x1743[(Int.toNat (v1686 + 1))]!)[(Int.toNat v1789)]! + r1932) < v1788))) → ok64 (v1789 + 1) ∧ next1803 v1788 (v1789 + 1)))) ∧ (¬ (v1789 < (r1773.length : Int)) → (m_spec_l15Costs_K0 v1686 x1743 v1746 (m_spec_l15Costs_K1 v1746 next1754)) v1788)))) ∧ (¬ (((v1746 < (r1708.length : Int)) ∧ (v1686 < ((p1.length : Int) - 1)))) → (m_spec_l15Costs_K2 v1686 next1695) x1743)))) ∧ (¬ (v1686 ≥ 0) → (m_spec_l15Costs_K3 Q) x1683))

abbrev m_spec_FewestChanges_K0 (Q : Int → Prop) (v90 : Int) : Prop :=
  Q v90
def m_spec_FewestChanges (p0 : List PlayerC) (p1 : List (List Int)) (Q : Int → Prop) : Prop :=
  m_spec_NightOk p0 p1 (fun r7 => ((¬ (r7 = true)) → Q (-1)) ∧ (¬ (¬ (r7 = true)) → m_spec_l15Costs p0 p1 (fun r17 => ix 0 r17.length ∧ LoopW2 (-1) 0 (fun v93 v94 next102 => ((v94 < ((r17[0]!).length : Int)) → ix v94 ((r17[0]!).length) ∧ (((r17[0]!)[(Int.toNat v94)]! ≥ 0) ∧ (¬ (v93 < 0)) → ix v94 ((r17[0]!).length)) ∧ (((((r17[0]!)[(Int.toNat v94)]! ≥ 0) ∧ (((v93 < 0) ∨ ((r17[0]!)[(Int.toNat v94)]! < v93))))) → ix v94 ((r17[0]!).length) ∧ ok64 (v94 + 1) ∧ next102 ((r17[0]!)[(Int.toNat v94)]!) (v94 + 1)) ∧ (¬ ((((r17[0]!)[(Int.toNat v94)]! ≥ 0) ∧ (((v93 < 0) ∨ ((r17[0]!)[(Int.toNat v94)]! < v93))))) → ok64 (v94 + 1) ∧ next102 v93 (v94 + 1))) ∧ (¬ (v94 < ((r17[0]!).length : Int)) → (m_spec_FewestChanges_K0 Q) v93)))))

def m_impl_within (p0 : Int) (p1 : Int) (p2 : Int) (Q : Bool → Prop) : Prop :=
  Q ((decide (p0 ≥ p1)) && (decide (p0 ≤ p2)))

abbrev m_impl_allWithin_K0 (Q : Bool → Prop) : Prop :=
  Q true
def m_impl_allWithin (p0 : List Int) (p1 : Int) (p2 : Int) (Q : Bool → Prop) : Prop :=
  LoopW1 0 (fun v28 next36 => ((v28 < (p0.length : Int)) → ix v28 p0.length ∧ m_impl_within (p0[(Int.toNat v28)]!) p1 p2 (fun r47 => ((¬ (r47 = true)) → Q false) ∧ (¬ (¬ (r47 = true)) → ok64 (v28 + 1) ∧ next36 (v28 + 1)))) ∧ (¬ (v28 < (p0.length : Int)) → (m_impl_allWithin_K0 Q)))

abbrev m_impl_isStrict_K0 (p0 : List Int) (p1 : Int) (p2 : Int) (Q : Bool → Prop) : Prop :=
  m_impl_allWithin p0 p1 p2 (fun r200 => Q r200)
def m_impl_isStrict (p0 : List Int) (p1 : Int) (p2 : Int) (Q : Bool → Prop) : Prop :=
  LoopW1 0 (fun v98 next106 => ((v98 < (p0.length : Int)) → (v98 > 0 → ix v98 p0.length) ∧ (v98 > 0 → ok64 (v98 - 1)) ∧ (v98 > 0 → ix (v98 - 1) p0.length) ∧ ((((v98 > 0) ∧ (p0[(Int.toNat v98)]! ≤ p0[(Int.toNat (v98 - 1))]!))) → Q false) ∧ (¬ (((v98 > 0) ∧ (p0[(Int.toNat v98)]! ≤ p0[(Int.toNat (v98 - 1))]!))) → ok64 (v98 + 1) ∧ next106 (v98 + 1))) ∧ (¬ (v98 < (p0.length : Int)) → (m_impl_isStrict_K0 p0 p1 p2 Q)))

abbrev m_impl_PlayersOk_K0 (p0 : List PlayerC) (Q : Bool → Prop) : Prop :=
  m_impl_within (p0.length : Int) 1 6 (fun r101 => Q r101)
def m_impl_PlayersOk (p0 : List PlayerC) (Q : Bool → Prop) : Prop :=
  LoopW1 0 (fun v48 next56 => ((v48 < (p0.length : Int)) → ix v48 p0.length ∧ m_impl_isStrict (p0[(Int.toNat v48)]!.1) 0 6 (fun r77 => ∃ r83 : Bool, (¬ (¬ (r77 = true)) → m_impl_within (p0[(Int.toNat v48)]!.2) 0 2 (fun z => z = r83)) ∧ ((((¬ (r77 = true)) ∨ (¬ (r83 = true)))) → Q false) ∧ (¬ (((¬ (r77 = true)) ∨ (¬ (r83 = true)))) → ok64 (v48 + 1) ∧ next56 (v48 + 1)))) ∧ (¬ (v48 < (p0.length : Int)) → (m_impl_PlayersOk_K0 p0 Q)))

def m_impl_arePuppets (p0 : List Int) (Q : Bool → Prop) : Prop :=
  m_impl_isStrict p0 0 6 (fun r6 => Q r6)

abbrev m_impl_NightOk_K0 (Q : Bool → Prop) : Prop :=
  Q true
def m_impl_NightOk (p0 : List PlayerC) (p1 : List (List Int)) (Q : Bool → Prop) : Prop :=
  m_impl_PlayersOk p0 (fun r7 => ∃ r13 : Bool, (¬ (¬ (r7 = true)) → m_impl_within (p1.length : Int) 1 6 (fun z => z = r13)) ∧ ((((¬ (r7 = true)) ∨ (¬ (r13 = true)))) → Q false) ∧ (¬ (((¬ (r7 = true)) ∨ (¬ (r13 = true)))) → LoopW1 0 (fun v51 next59 => ((v51 < (p1.length : Int)) → ix v51 p1.length ∧ ∃ r69 : Bool, (¬ (((p1[(Int.toNat v51)]!).length : Int) > 4) → m_impl_arePuppets (p1[(Int.toNat v51)]!) (fun z => z = r69)) ∧ ((((((p1[(Int.toNat v51)]!).length : Int) > 4) ∨ (¬ (r69 = true)))) → Q false) ∧ (¬ (((((p1[(Int.toNat v51)]!).length : Int) > 4) ∨ (¬ (r69 = true)))) → ok64 (v51 + 1) ∧ next59 (v51 + 1))) ∧ (¬ (v51 < (p1.length : Int)) → (m_impl_NightOk_K0 Q)))))

def m_impl_CastingsOf_1 (p0 : List Int) (q0 : List (List Int)) (Q : Bool → (List (List Int)) → Prop) : Prop :=
  q0.length + 1 ≤ 1099511627776 ∧ Q true (q0 ++ ([p0]))

def m_impl_copyOf (p0 : List Int) (Q : (List Int) → Prop) : Prop :=
  0 + p0.length ≤ 1099511627776 ∧ Q p0

abbrev m_impl_indexOf_K0 (Q : Int → Prop) : Prop :=
  Q (-1)
def m_impl_indexOf (p0 : List Int) (p1 : Int) (Q : Int → Prop) : Prop :=
  LoopW1 0 (fun v22 next30 => ((v22 < (p0.length : Int)) → ix v22 p0.length ∧ ((p0[(Int.toNat v22)]! = p1) → Q v22) ∧ (¬ (p0[(Int.toNat v22)]! = p1) → ok64 (v22 + 1) ∧ next30 (v22 + 1))) ∧ (¬ (v22 < (p0.length : Int)) → (m_impl_indexOf_K0 Q)))

abbrev m_impl_castings_1_CastingsOf_1_K0 (Q : Bool → (List Int) → (List Int) → (List (List Int)) → Prop) (x685 : List (List Int)) (x691 : List Int) (x695 : List Int) : Prop :=
  Q true x695 x691 x685
def m_impl_castings_1_CastingsOf_1_step (rec_ : (List Int) → (List Int) → (List PlayerC) → (List Int) → (List (List Int)) → (Bool → (List Int) → (List Int) → (List (List Int)) → Prop) → Prop) (q0 : List Int) (q1 : List Int) (q3 : List PlayerC) (q4 : List Int) (q2_0 : List (List Int)) (Q : Bool → (List Int) → (List Int) → (List (List Int)) → Prop) : Prop :=
  (((q0.length : Int) = (q1.length : Int)) → m_impl_copyOf q0 (fun r37 => m_impl_CastingsOf_1 r37 q2_0 (fun r55 x56 => Q r55 q0 q4 x56))) ∧ (¬ ((q0.length : Int) = (q1.length : Int)) → LoopW4 0 q2_0 q4 q0 (fun v701 x702 x708 x712 next734 => ((v701 < (q3.length : Int)) → ix v701 q3.length ∧ ix v701 x708.length ∧ (¬ (x708[(Int.toNat v701)]! = 0) → ix (x712.length : Int) q1.length) ∧ ∃ r823 : Int, (¬ (x708[(Int.toNat v701)]! = 0) → m_impl_indexOf (q3[(Int.toNat v701)]!.1) (q1[(Int.toNat (x712.length : Int))]!) (fun z => z = r823)) ∧ ((((x708[(Int.toNat v701)]! = 0) ∨ (r823 < 0))) → ok64 (v701 + 1) ∧ next734 (v701 + 1) x702 x708 x712) ∧ (¬ (((x708[(Int.toNat v701)]! = 0) ∨ (r823 < 0))) → ix v701 x708.length ∧ ok64 (x708[(Int.toNat v701)]! - 1) ∧ ix v701 x708.length ∧ x712.length + 1 ≤ 1099511627776 ∧ rec_ (x712 ++ ([v701])) q1 q3 (x708.set (Int.toNat v701) (x708[(Int.toNat v701)]! - 1)) x702 (fun r885 x886 x890 x894 => ok64 ((x886.length : Int) - 1) ∧ (0 ≤ ((x886.length : Int) - 1) ∧ ((x886.length : Int) - 1) ≤ (x886.length : Int)) ∧ ix v701 x890.length ∧ ok64 (x890[(Int.toNat v701)]! + 1) ∧ ix v701 x890.length ∧ ((¬ (r885 = true)) → Q false (x886.take (Int.toNat ((x886.length : Int) - 1))) (x890.set (Int.toNat v701) (x890[(Int.toNat v701)]! + 1)) x894) ∧ (¬ (¬ (r885 = true)) → ok64 (v701 + 1) ∧ next734 (v701 + 1) x894 (x890.set (Int.toNat v701) (x890[(Int.toNat v701)]! + 1)) (x886.take (Int.toNat ((x886.length : Int) - 1))))))) ∧ (¬ (v701 < (q3.length : Int)) → (m_impl_castings_1_CastingsOf_1_K0 Q) x702 x708 x712)))
def m_impl_castings_1_CastingsOf_1 : Nat → (List Int) → (List Int) → (List PlayerC) → (List Int) → (List (List Int)) → (Bool → (List Int) → (List Int) → (List (List Int)) → Prop) → Prop
  | 0 => fun _ _ _ _ _ _ => False
  | f_ + 1 => m_impl_castings_1_CastingsOf_1_step (m_impl_castings_1_CastingsOf_1 f_)

abbrev m_impl_castings_CastingsOf_1_K0 (p0 : List PlayerC) (p1 : List Int) (p2_0 : List (List Int)) (Q : (List (List Int)) → Prop) (x188 : List Int) : Prop :=
  ∃ f293 : Nat, m_impl_castings_1_CastingsOf_1 f293 ([]) p1 p0 x188 p2_0 (fun r297 x298 x302 x306 => Q x306)
def m_impl_castings_CastingsOf_1 (p0 : List PlayerC) (p1 : List Int) (p2_0 : List (List Int)) (Q : (List (List Int)) → Prop) : Prop :=
  LoopW2 0 ([]) (fun v194 x195 next216 => ((v194 < (p0.length : Int)) → ix v194 p0.length ∧ x195.length + 1 ≤ 1099511627776 ∧ ok64 (v194 + 1) ∧ next216 (v194 + 1) (x195 ++ ([p0[(Int.toNat v194)]!.2]))) ∧ (¬ (v194 < (p0.length : Int)) → (m_impl_castings_CastingsOf_1_K0 p0 p1 p2_0 Q) x195))

def m_impl_CastingsOf (p0 : List PlayerC) (p1 : List Int) (Q : (List (List Int)) → Prop) : Prop :=
  m_impl_PlayersOk p0 (fun r7 => ∃ r12 : Bool, (¬ (¬ (r7 = true)) → m_impl_arePuppets p1 (fun z => z = r12)) ∧ ((((((¬ (r7 = true)) ∨ (¬ (r12 = true)))) ∨ ((p1.length : Int) > 4))) → Q ([])) ∧ (¬ (((((¬ (r7 = true)) ∨ (¬ (r12 = true)))) ∨ ((p1.length : Int) > 4))) → m_impl_castings_CastingsOf_1 p0 p1 ([]) (fun x59 => Q x59)))

abbrev m_impl_changes_K0 (v436 : Int) (next444 : Int → Int → Prop) (v448 : Int) : Prop :=
  ok64 (v436 + 1) ∧ next444 v448 (v436 + 1)
abbrev m_impl_changes_K1 (Q : Int → Prop) (v432 : Int) : Prop :=
  Q v432
def m_impl_changes (p0 : List Int) (p1 : List Int) (p2 : List Int) (p3 : List Int) (Q : Int → Prop) : Prop :=
  LoopW2 0 0 (fun v435 v436 next444 => ((v436 < (p0.length : Int)) → ix v436 p0.length ∧ LoopW2 v435 0 (fun v453 v454 next462 => ((v454 < (p2.length : Int)) → ix v454 p2.length ∧ (p0[(Int.toNat v436)]! = p2[(Int.toNat v454)]! → ix v436 p1.length) ∧ (p0[(Int.toNat v436)]! = p2[(Int.toNat v454)]! → ix v454 p3.length) ∧ ((((p0[(Int.toNat v436)]! = p2[(Int.toNat v454)]!) ∧ (p1[(Int.toNat v436)]! ≠ p3[(Int.toNat v454)]!))) → ok64 (v453 + 1) ∧ ok64 (v454 + 1) ∧ next462 (v453 + 1) (v454 + 1)) ∧ (¬ (((p0[(Int.toNat v436)]! = p2[(Int.toNat v454)]!) ∧ (p1[(Int.toNat v436)]! ≠ p3[(Int.toNat v454)]!))) → ok64 (v454 + 1) ∧ next462 v453 (v454 + 1))) ∧ (¬ (v454 < (p2.length : Int)) → (m_impl_changes_K0 v436 next444) v453))) ∧ (¬ (v436 < (p0.length : Int)) → (m_impl_changes_K1 Q) v435))

abbrev m_impl_nightTable_K0 (v2032 : Int) (x2078 : List (List Int)) (v2081 : Int) (kont2101 : List (List Int) → Prop) (v2108 : Int) : Prop :=
  ix v2032 x2078.length ∧ ix v2081 ((x2078[(Int.toNat v2032)]!).length) ∧ kont2101 (x2078.set (Int.toNat v2032) (x2078[(Int.toNat v2032)]!.set (Int.toNat v2081) v2108))
abbrev m_impl_nightTable_K1 (v2081 : Int) (next2094 : List (List Int) → Int → Prop) (x2098 : List (List Int)) : Prop :=
  ok64 (v2081 + 1) ∧ next2094 x2098 (v2081 + 1)
abbrev m_impl_nightTable_K2 (v2032 : Int) (next2044 : List (List Int) → Int → Prop) (x2048 : List (List Int)) : Prop :=
  ok64 (v2032 - 1) ∧ next2044 x2048 (v2032 - 1)
abbrev m_impl_nightTable_K3 (x218 : List (List (List Int))) (Q : (List (List (List Int))) → (List (List Int)) → Bool → Prop) (x2023 : List (List Int)) : Prop :=
  Q x218 x2023 true
abbrev m_impl_nightTable_K4 (p1 : List (List Int)) (Q : (List (List (List Int))) → (List (List Int)) → Bool → Prop) (x218 : List (List (List Int))) : Prop :=
  (0 ≤ (p1.length : Int) ∧ (p1.length : Int) ≤ 1099511627776) ∧ ok64 ((p1.length : Int) - 1) ∧ LoopW2 (List.replicate (Int.toNat (p1.length : Int)) ([] : List Int)) ((p1.length : Int) - 1) (fun x2029 v2032 next2044 => ((v2032 ≥ 0) → ix v2032 x218.length ∧ (0 ≤ ((x218[(Int.toNat v2032)]!).length : Int) ∧ ((x218[(Int.toNat v2032)]!).length : Int) ≤ 1099511627776) ∧ ix v2032 x2029.length ∧ ix v2032 x218.length ∧ LoopW2 (x2029.set (Int.toNat v2032) (List.replicate (Int.toNat ((x218[(Int.toNat v2032)]!).length : Int)) (0 : Int))) 0 (fun x2078 v2081 next2094 => ((v2081 < ((x218[(Int.toNat v2032)]!).length : Int)) → ok64 (v2032 + 1) ∧ (((v2032 + 1) = (p1.length : Int)) → (m_impl_nightTable_K1 v2081 next2094) x2078) ∧ (¬ ((v2032 + 1) = (p1.length : Int)) → ok64 (v2032 + 1) ∧ ix (v2032 + 1) x218.length ∧ LoopW2 (-1) 0 (fun v2113 v2114 next2122 => ((v2114 < ((x218[(Int.toNat (v2032 + 1))]!).length : Int)) → ix v2032 p1.length ∧ ix v2032 x218.length ∧ ix v2081 ((x218[(Int.toNat v2032)]!).length) ∧ ok64 (v2032 + 1) ∧ ix (v2032 + 1) p1.length ∧ ok64 (v2032 + 1) ∧ ix (v2032 + 1) x218.length ∧ ix v2114 ((x218[(Int.toNat (v2032 + 1))]!).length) ∧ ∃ r2241 : Int, m_impl_changes (p1[(Int.toNat v2032)]!) ((x218[(Int.toNat v2032)]!)[(Int.toNat v2081)]!) (p1[(Int.toNat (v2032 + 1))]!) ((x218[(Int.toNat (v2032 + 1))]!)[(Int.toNat v2114)]!) (fun z => z = r2241) ∧ ok64 (v2032 + 1) ∧ ix (v2032 + 1) x2078.length ∧ ix v2114 ((x2078[(Int.toNat (v2032 + 1))]!).length) ∧ ok64 (r2241 + (x2078[(Int.toNat (v2032 + 1))]!)[(Int.toNat v2114)]!) ∧ ((((v2113 < 0) ∨ ((r2241 + (x2078[(Int.toNat (v2032 + 1))]!)[(Int.toNat v2114)]!) < v2113))) → ok64 (v2114 + 1) ∧ next2122 (r2241 + (x2078[(Int.toNat (v2032 + 1))]!)[(Int.toNat v2114)]!) (v2114 + 1)) ∧ (¬ (((v2113 < 0) ∨ ((r2241 + (x2078[(Int.toNat (v2032 + 1))]!)[(Int.toNat v2114)]!) < v2113))) → ok64 (v2114 + 1) ∧ next2122 v2113 (v2114 + 1))) ∧ (¬ (v2114 < ((x218[(Int.toNat (v2032 + 1))]!).length : Int)) → (m_impl_nightTable_K0 v2032 x2078 v2081 (m_impl_nightTable_K1 v2081 next2094)) v2113)))) ∧ (¬ (v2081 < ((x218[(Int.toNat v2032)]!).length : Int)) → (m_impl_nightTable_K2 v2032 next2044) x2078))) ∧ (¬ (v2032 ≥ 0) → (m_impl_nightTable_K3 x218 Q) x2029))
def m_impl_nightTable (p0 : List PlayerC) (p1 : List (List Int)) (Q : (List (List (List Int))) → (List (List Int)) → Bool → Prop) : Prop :=
  LoopW2 ([]) 0 (fun x226 v232 next242 => ((v232 < (p1.length : Int)) → ix v232 p1.length ∧ m_impl_CastingsOf p0 (p1[(Int.toNat v232)]!) (fun r253 => (((r253.length : Int) = 0) → Q ([]) ([]) false) ∧ (¬ ((r253.length : Int) = 0) → x226.length + 1 ≤ 1099511627776 ∧ ok64 (v232 + 1) ∧ next242 (x226 ++ ([r253])) (v232 + 1)))) ∧ (¬ (v232 < (p1.length : Int)) → (m_impl_nightTable_K4 p1 Q) x226))

abbrev m_impl_BestNight_K0 (v1365 : Int) (v1366 : Int) (v1367 : Int) (next1375 : Int → Int → Int → Prop) (v1384 : Int) : Prop :=
  ((((v1365 < 0) ∨ (v1384 < v1365))) → ok64 (v1367 + 1) ∧ next1375 v1384 v1367 (v1367 + 1)) ∧ (¬ (((v1365 < 0) ∨ (v1384 < v1365))) → ok64 (v1367 + 1) ∧ next1375 v1365 v1366 (v1367 + 1))
abbrev m_impl_BestNight_K1 (r23 : List (List (List Int))) (x1328 : List (List Int)) (v1334 : Int) (kont1358 : List (List Int) → Prop) (v1361 : Int) : Prop :=
  ix v1334 r23.length ∧ ix v1361 ((r23[(Int.toNat v1334)]!).length) ∧ m_impl_copyOf ((r23[(Int.toNat v1334)]!)[(Int.toNat v1361)]!) (fun r1524 => x1328.length + 1 ≤ 1099511627776 ∧ kont1358 (x1328 ++ ([r1524])))
abbrev m_impl_BestNight_K2 (v1334 : Int) (next1348 : List (List Int) → Int → Prop) (x1352 : List (List Int)) : Prop :=
  ok64 (v1334 + 1) ∧ next1348 x1352 (v1334 + 1)
abbrev m_impl_BestNight_K3 (Q : (List (List Int)) → Bool → Prop) (x1320 : List (List Int)) : Prop :=
  Q x1320 true
def m_impl_BestNight (p0 : List PlayerC) (p1 : List (List Int)) (Q : (List (List Int)) → Bool → Prop) : Prop :=
  m_impl_NightOk p0 p1 (fun r7 => ((¬ (r7 = true)) → Q ([]) false) ∧ (¬ (¬ (r7 = true)) → m_impl_nightTable p0 p1 (fun r23 r33 r42 => ((¬ (r42 = true)) → Q ([]) false) ∧ (¬ (¬ (r42 = true)) → LoopW2 ([]) 0 (fun x1328 v1334 next1348 => ((v1334 < (p1.length : Int)) → ix v1334 r23.length ∧ LoopW3 (-1) 0 0 (fun v1365 v1366 v1367 next1375 => ((v1367 < ((r23[(Int.toNat v1334)]!).length : Int)) → ix v1334 r33.length ∧ ix v1367 ((r33[(Int.toNat v1334)]!).length) ∧ ((v1334 > 0) → ok64 (v1334 - 1) ∧ ix (v1334 - 1) p1.length ∧ ok64 (v1334 - 1) ∧ ix (v1334 - 1) x1328.length ∧ ix v1334 p1.length ∧ ix v1334 r23.length ∧ ix v1367 ((r23[(Int.toNat v1334)]!).length) ∧ ∃ r1491 : Int, m_impl_changes (p1[(Int.toNat (v1334 - 1))]!) (x1328[(Int.toNat (v1334 - 1))]!) (p1[(Int.toNat v1334)]!) ((r23[(Int.toNat v1334)]!)[(Int.toNat v1367)]!) (fun z => z = r1491) ∧ ok64 ((r33[(Int.toNat v1334)]!)[(Int.toNat v1367)]! + r1491) ∧ (m_impl_BestNight_K0 v1365 v1366 v1367 next1375) ((r33[(Int.toNat v1334)]!)[(Int.toNat v1367)]! + r1491)) ∧ (¬ (v1334 > 0) → (m_impl_BestNight_K0 v1365 v1366 v1367 next1375) ((r33[(Int.toNat v1334)]!)[(Int.toNat v1367)]!))) ∧ (¬ (v1367 < ((r23[(Int.toNat v1334)]!).length : Int)) → (m_impl_BestNight_K1 r23 x1328 v1334 (m_impl_BestNight_K2 v1334 next1348)) v1366))) ∧ (¬ (v1334 < (p1.length : Int)) → (m_impl_BestNight_K3 Q) x1328))))))

def m_impl_ChangesBetween (p0 : List Int) (p1 : List Int) (p2 : List Int) (p3 : List Int) (Q : Int → Prop) : Prop :=
  (((((p0.length : Int) ≠ (p1.length : Int)) ∨ ((p2.length : Int) ≠ (p3.length : Int)))) → Q (-1)) ∧ (¬ ((((p0.length : Int) ≠ (p1.length : Int)) ∨ ((p2.length : Int) ≠ (p3.length : Int)))) → m_impl_changes p0 p1 p2 p3 (fun r15 => Q r15))

abbrev m_impl_CountChanges_K0 (Q : Int → Prop) (v243 : Int) : Prop :=
  Q v243
def m_impl_CountChanges (p0 : List (List Int)) (p1 : List (List Int)) (Q : Int → Prop) : Prop :=
  (((p0.length : Int) ≠ (p1.length : Int)) → Q (-1)) ∧ (¬ ((p0.length : Int) ≠ (p1.length : Int)) → LoopW2 0 0 (fun v246 v247 next255 => ok64 (v247 + 1) ∧ (((v247 + 1) < (p0.length : Int)) → ix v247 p0.length ∧ ix v247 p1.length ∧ ok64 (v247 + 1) ∧ ix (v247 + 1) p0.length ∧ ok64 (v247 + 1) ∧ ix (v247 + 1) p1.length ∧ ∃ r348 : Int, m_impl_ChangesBetween (p0[(Int.toNat v247)]!) (p1[(Int.toNat v247)]!) (p0[(Int.toNat (v247 + 1))]!) (p1[(Int.toNat (v247 + 1))]!) (fun z => z = r348) ∧ ((r348 < 0) → Q (-1)) ∧ (¬ (r348 < 0) → ok64 (v246 + r348) ∧ ok64 (v247 + 1) ∧ next255 (v246 + r348) (v247 + 1))) ∧ (¬ ((v247 + 1) < (p0.length : Int)) → (m_impl_CountChanges_K0 Q) v246)))

def m_impl_FewestChanges (p0 : List PlayerC) (p1 : List (List Int)) (Q : Int → Prop) : Prop :=
  m_impl_BestNight p0 p1 (fun r6 r15 => ((¬ (r15 = true)) → Q (-1)) ∧ (¬ (¬ (r15 = true)) → m_impl_CountChanges p1 r6 (fun r26 => Q r26)))

abbrev m_laws_eqIntS_K0 (Q : Bool → Prop) : Prop :=
  Q true
def m_laws_eqIntS (p0 : List Int) (p1 : List Int) (Q : Bool → Prop) : Prop :=
  (((p0.length : Int) ≠ (p1.length : Int)) → Q false) ∧ (¬ ((p0.length : Int) ≠ (p1.length : Int)) → LoopW1 0 (fun v70 next78 => ((v70 < (p0.length : Int)) → ix v70 p0.length ∧ ix v70 p1.length ∧ ((p0[(Int.toNat v70)]! ≠ p1[(Int.toNat v70)]!) → Q false) ∧ (¬ (p0[(Int.toNat v70)]! ≠ p1[(Int.toNat v70)]!) → ok64 (v70 + 1) ∧ next78 (v70 + 1))) ∧ (¬ (v70 < (p0.length : Int)) → (m_laws_eqIntS_K0 Q))))

def m_laws_eqPlayer (p0 : PlayerC) (p1 : PlayerC) (Q : Bool → Prop) : Prop :=
  m_laws_eqIntS p0.1 p1.1 (fun r19 => ((¬ (r19 = true)) → Q false) ∧ (¬ (¬ (r19 = true)) → ((p0.2 ≠ p1.2) → Q false) ∧ (¬ (p0.2 ≠ p1.2) → Q true)))

abbrev m_laws_eqPlayerS_K0 (Q : Bool → Prop) : Prop :=
  Q true
def m_laws_eqPlayerS (p0 : List PlayerC) (p1 : List PlayerC) (Q : Bool → Prop) : Prop :=
  (((p0.length : Int) ≠ (p1.length : Int)) → Q false) ∧ (¬ ((p0.length : Int) ≠ (p1.length : Int)) → LoopW1 0 (fun v76 next84 => ((v76 < (p0.length : Int)) → ix v76 p0.length ∧ ix v76 p1.length ∧ ∃ r132 : Bool, m_laws_eqPlayer (p0[(Int.toNat v76)]!) (p1[(Int.toNat v76)]!) (fun z => z = r132) ∧ ((¬ (r132 = true)) → Q false) ∧ (¬ (¬ (r132 = true)) → ok64 (v76 + 1) ∧ next84 (v76 + 1))) ∧ (¬ (v76 < (p0.length : Int)) → (m_laws_eqPlayerS_K0 Q))))

abbrev m_laws_eqIntSS_K0 (Q : Bool → Prop) : Prop :=
  Q true
def m_laws_eqIntSS (p0 : List (List Int)) (p1 : List (List Int)) (Q : Bool → Prop) : Prop :=
  (((p0.length : Int) ≠ (p1.length : Int)) → Q false) ∧ (¬ ((p0.length : Int) ≠ (p1.length : Int)) → LoopW1 0 (fun v76 next84 => ((v76 < (p0.length : Int)) → ix v76 p0.length ∧ ix v76 p1.length ∧ ∃ r132 : Bool, m_laws_eqIntS (p0[(Int.toNat v76)]!) (p1[(Int.toNat v76)]!) (fun z => z = r132) ∧ ((¬ (r132 = true)) → Q false) ∧ (¬ (¬ (r132 = true)) → ok64 (v76 + 1) ∧ next84 (v76 + 1))) ∧ (¬ (v76 < (p0.length : Int)) → (m_laws_eqIntSS_K0 Q))))

def m_laws_FnExactFewestChanges (p0 : List PlayerC) (p1 : List (List Int)) (Q : Bool → Prop) : Prop :=
  m_laws_szPlayerS p0 1048576 (fun r7 => ((r7 < 0) → Q true) ∧ (¬ (r7 < 0) → m_laws_szIntSS p1 r7 (fun r18 => ((r18 < 0) → Q true) ∧ (¬ (r18 < 0) → m_laws_toPlayerS p0 (fun r29 => m_laws_toIntSS p1 (fun r43 => m_spec_FewestChanges r29 r43 (fun r57 => m_laws_toPlayerS p0 (fun r64 => m_laws_toIntSS p1 (fun r79 => m_impl_FewestChanges r64 r79 (fun r94 => ((r94 ≠ r57) → Q false) ∧ (¬ (r94 ≠ r57) → m_laws_toPlayerS p0 (fun r106 => m_laws_eqPlayerS r64 r106 (fun r120 => ((¬ (r120 = true)) → Q false) ∧ (¬ (¬ (r120 = true)) → m_laws_toIntSS p1 (fun r130 => m_laws_eqIntSS r79 r130 (fun r144 => ((¬ (r144 = true)) → Q false) ∧ (¬ (¬ (r144 = true)) → Q true)))))))))))))))))

abbrev m_spec_BestNight_K0 (r29 : List (List Int)) (x984 : List (List Int)) (v990 : Int) (v991 : Int) (r1020 : List (List Int)) (v1032 : Int) (kont1014 : List (List Int) → Int → Prop) (next1046 : Int → Prop) (v1052 : Int) : Prop :=
  ix v991 r29.length ∧ ix v1032 ((r29[(Int.toNat v991)]!).length) ∧ ((r29[(Int.toNat v991)]!)[(Int.toNat v1032)]! ≥ 0 → ix v991 r29.length) ∧ ((r29[(Int.toNat v991)]!)[(Int.toNat v1032)]! ≥ 0 → ix v1032 ((r29[(Int.toNat v991)]!).length)) ∧ ((r29[(Int.toNat v991)]!)[(Int.toNat v1032)]! ≥ 0 → ok64 (v1052 + (r29[(Int.toNat v991)]!)[(Int.toNat v1032)]!)) ∧ (((((r29[(Int.toNat v991)]!)[(Int.toNat v1032)]! ≥ 0) ∧ ((v1052 + (r29[(Int.toNat v991)]!)[(Int.toNat v1032)]!) = v990))) → ix v1032 r1020.length ∧ x984.length + 1 ≤ 1099511627776 ∧ ix v991 r29.length ∧ ix v1032 ((r29[(Int.toNat v991)]!).length) ∧ kont1014 (x984 ++ ([r1020[(Int.toNat v1032)]!])) ((r29[(Int.toNat v991)]!)[(Int.toNat v1032)]!)) ∧ (¬ ((((r29[(Int.toNat v991)]!)[(Int.toNat v1032)]! ≥ 0) ∧ ((v1052 + (r29[(Int.toNat v991)]!)[(Int.toNat v1032)]!) = v990))) → ok64 (v1032 + 1) ∧ next1046 (v1032 + 1))
abbrev m_spec_BestNight_K1 (v991 : Int) (next1003 : List (List Int) → Int → Int → Prop) (x1007 : List (List Int)) (v1013 : Int) : Prop :=
  ok64 (v991 + 1) ∧ next1003 x1007 v1013 (v991 + 1)
abbrev m_spec_BestNight_K2 (Q : (List (List Int)) → Bool → Prop) (x976 : List (List Int)) : Prop :=
  Q x976 true
def m_spec_BestNight (p0 : List PlayerC) (p1 : List (List Int)) (Q : (List (List Int)) → Bool → Prop) : Prop :=
  m_spec_FewestChanges p0 p1 (fun r17 => ((r17 < 0) → Q ([]) false) ∧ (¬ (r17 < 0) → m_spec_l15Costs p0 p1 (fun r29 => LoopW3 ([]) r17 0 (fun x984 v990 v991 next1003 => ((v991 < (p1.length : Int)) → ix v991 p1.length ∧ m_spec_CastingsOf p0 (p1[(Int.toNat v991)]!) (fun r1020 => LoopW1 0 (fun v1032 next1046 => ((v1032 < (r1020.length : Int)) → ((v991 > 0) → ok64 (v991 - 1) ∧ ix (v991 - 1) p1.length ∧ ok64 (v991 - 1) ∧ ix (v991 - 1) x984.length ∧ ix v991 p1.length ∧ ix v1032 r1020.length ∧ ∃ r1142 : Int, m_spec_ChangesBetween (p1[(Int.toNat (v991 - 1))]!) (x984[(Int.toNat (v991 - 1))]!) (p1[(Int.toNat v991)]!) (r1020[(Int.toNat v1032)]!) (fun z => z = r1142) ∧ (m_spec_BestNight_K0 r29 x984 v990 v991 r1020 v1032 (m_spec_BestNight_K1 v991 next1003) next1046) r1142) ∧ (¬ (v991 > 0) → (m_spec_BestNight_K0 r29 x984 v990 v991 r1020 v1032 (m_spec_BestNight_K1 v991 next1003) next1046) 0)) ∧ (¬ (v1032 < (r1020.length : Int)) → (m_spec_BestNight_K1 v991 next1003) x984 v990)))) ∧ (¬ (v991 < (p1.length : Int)) → (m_spec_BestNight_K2 Q) x984)))))

abbrev m_laws_markIntS_K0 (Q : Int → (List Int) → Prop) (x48 : List Int) (v49 : Int) : Prop :=
  Q v49 x48
def m_laws_markIntS (p0 : List Int) (p1 : Int) (Q : Int → (List Int) → Prop) : Prop :=
  LoopW3 p0 p1 0 (fun x52 v53 v54 next62 => ((v54 < (x52.length : Int)) → ix v54 x52.length ∧ ok64 (v53 + 1) ∧ ok64 (v54 + 1) ∧ next62 (x52.set (Int.toNat v54) v53) (v53 + 1) (v54 + 1)) ∧ (¬ (v54 < (x52.length : Int)) → (m_laws_markIntS_K0 Q) x52 v53))

abbrev m_laws_markPlayerS_K0 (Q : Int → (List PlayerC) → Prop) (x103 : List PlayerC) (v106 : Int) : Prop :=
  Q v106 x103
def m_laws_markPlayerS (p0 : List PlayerC) (p1 : Int) (Q : Int → (List PlayerC) → Prop) : Prop :=
  LoopW3 p0 p1 0 (fun x109 v112 v113 next121 => ((v113 < (x109.length : Int)) → ix v113 x109.length ∧ m_laws_markIntS (x109[(Int.toNat v113)]!.1) v112 (fun r139 x140 => ix v113 ((x109.set (Int.toNat v113) (x140, x109[(Int.toNat v113)]!.2)).length) ∧ ok64 (r139 + 1) ∧ ok64 (v113 + 1) ∧ next121 ((x109.set (Int.toNat v113) (x140, x109[(Int.toNat v113)]!.2)).set (Int.toNat v113) ((x109.set (Int.toNat v113) (x140, x109[(Int.toNat v113)]!.2))[(Int.toNat v113)]!.1, r139)) (r139 + 1) (v113 + 1))) ∧ (¬ (v113 < (x109.length : Int)) → (m_laws_markPlayerS_K0 Q) x109 v112))

abbrev m_laws_markIntSS_K0 (Q : Int → (List (List Int)) → Prop) (x72 : List (List Int)) (v75 : Int) : Prop :=
  Q v75 x72
def m_laws_markIntSS (p0 : List (List Int)) (p1 : Int) (Q : Int → (List (List Int)) → Prop) : Prop :=
  LoopW3 p0 p1 0 (fun x78 v81 v82 next90 => ((v82 < (x78.length : Int)) → ix v82 x78.length ∧ m_laws_markIntS (x78[(Int.toNat v82)]!) v81 (fun r107 x108 => ok64 (v82 + 1) ∧ next90 (x78.set (Int.toNat v82) x108) r107 (v82 + 1))) ∧ (¬ (v82 < (x78.length : Int)) → (m_laws_markIntSS_K0 Q) x78 v81))

abbrev m_laws_heldIntS_K0 (Q : Int → Prop) (v44 : Int) : Prop :=
  Q v44
def m_laws_heldIntS (p0 : List Int) (p1 : Int) (Q : Int → Prop) : Prop :=
  LoopW2 p1 0 (fun v47 v48 next56 => ((v48 < (p0.length : Int)) → ix v48 p0.length ∧ ((p0[(Int.toNat v48)]! ≠ v47) → Q (-1)) ∧ (¬ (p0[(Int.toNat v48)]! ≠ v47) → ok64 (v47 + 1) ∧ ok64 (v48 + 1) ∧ next56 (v47 + 1) (v48 + 1))) ∧ (¬ (v48 < (p0.length : Int)) → (m_laws_heldIntS_K0 Q) v47))

abbrev m_laws_heldIntSS_K0 (Q : Int → Prop) (v54 : Int) : Prop :=
  Q v54
def m_laws_heldIntSS (p0 : List (List Int)) (p1 : Int) (Q : Int → Prop) : Prop :=
  LoopW2 p1 0 (fun v57 v58 next66 => ((v58 < (p0.length : Int)) → ix v58 p0.length ∧ m_laws_heldIntS (p0[(Int.toNat v58)]!) v57 (fun r76 => ((r76 < 0) → Q (-1)) ∧ (¬ (r76 < 0) → ok64 (v58 + 1) ∧ next66 r76 (v58 + 1)))) ∧ (¬ (v58 < (p0.length : Int)) → (m_laws_heldIntSS_K0 Q) v57))

def m_laws_FnExactBestNight (p0 : List PlayerC) (p1 : List (List Int)) (Q : Bool → Prop) : Prop :=
  m_laws_szPlayerS p0 1048576 (fun r7 => ((r7 < 0) → Q true) ∧ (¬ (r7 < 0) → m_laws_szIntSS p1 r7 (fun r18 => ((r18 < 0) → Q true) ∧ (¬ (r18 < 0) → m_laws_toPlayerS p0 (fun r29 => m_laws_toIntSS p1 (fun r43 => m_spec_BestNight r29 r43 (fun r57 r66 => m_laws_toPlayerS p0 (fun r73 => m_laws_toIntSS p1 (fun r88 => m_impl_BestNight r73 r88 (fun r103 r112 => m_laws_eqIntSS r103 r57 (fun r120 => ((((¬ (r120 = true)) ∨ ((r112) ≠ (r66)))) → Q false) ∧ (¬ (((¬ (r120 = true)) ∨ ((r112) ≠ (r66)))) → m_laws_toPlayerS p0 (fun r133 => m_laws_eqPlayerS r73 r133 (fun r147 => ((¬ (r147 = true)) → Q false) ∧ (¬ (¬ (r147 = true)) → m_laws_toIntSS p1 (fun r157 => m_laws_eqIntSS r88 r157 (fun r171 => ((¬ (r171 = true)) → Q false) ∧ (¬ (¬ (r171 = true)) → m_laws_markPlayerS r73 1 (fun r183 x184 => m_laws_markIntSS r88 r183 (fun r194 x195 => ∃ r204 : Bool, (¬ (r194 < 0) → m_laws_eqIntSS r103 r57 (fun z => z = r204)) ∧ ((((((r194 < 0) ∨ (¬ (r204 = true)))) ∨ ((r112) ≠ (r66)))) → Q false) ∧ (¬ (((((r194 < 0) ∨ (¬ (r204 = true)))) ∨ ((r112) ≠ (r66)))) → m_laws_markIntSS r103 1 (fun r223 x224 => m_laws_heldIntSS x224 1 (fun r233 => ((r233 < 0) → Q false) ∧ (¬ (r233 < 0) → ((r233 ≠ r223) → Q false) ∧ (¬ (r233 ≠ r223) → m_laws_toPlayerS p0 (fun r248 => m_laws_toIntSS p1 (fun r262 => m_impl_BestNight r248 r262 (fun r276 r285 => m_laws_eqIntSS r276 r57 (fun r293 => ((((¬ (r293 = true)) ∨ ((r285) ≠ (r66)))) → Q false) ∧ (¬ (((¬ (r293 = true)) ∨ ((r285) ≠ (r66)))) → m_laws_heldIntSS x224 1 (fun r306 => ((r306 < 0) → Q false) ∧ (¬ (r306 < 0) → ((r306 ≠ r223) → Q false) ∧ (¬ (r306 ≠ r223) → Q true)))))))))))))))))))))))))))))))))

def m_laws_big (p0 : List Byte) (Q : Bool → Prop) : Prop :=
  Q (decide ((p0.length : Int) > 1048576))

abbrev m_spec_l01New_raw_K0 (Q : Int → Int → Prop) (v40 : Int) : Prop :=
  Q 0 v40
def m_spec_l01New_raw (p0 : List Byte) (Q : Int → Int → Prop) : Prop :=
  ok64 (33061 + (p0.length : Int)) ∧ LoopW2 (33061 + (p0.length : Int)) 0 (fun v43 v44 next52 => ((((v44 < (p0.length : Int)) ∧ (v44 < 4000))) → ix v44 p0.length ∧ ok64 (v44 + 1) ∧ next52 (wand (wadd (wadd (wmul v43 131) ((p0[(Int.toNat v44)]!).val : Int)) 7) 1073741823) (v44 + 1)) ∧ (¬ (((v44 < (p0.length : Int)) ∧ (v44 < 4000))) → (m_spec_l01New_raw_K0 Q) v43))
def m_spec_l01New (p0 : List Byte) (Q : Prop) : Prop := p0.length ≤ 1099511627776 ∧ Q

def m_spec_l01Byte_raw (p0 : List Byte) (i0 : Int) (h0 : Int) (Q : Int → Int → Int → Prop) : Prop :=
  ((i0 < (p0.length : Int)) → ix i0 p0.length ∧ ok64 (i0 + 1) ∧ Q (wand (wadd (wand (wxor (sar (wadd (wmul h0 6364136223846793005) 1442695040888963407) 33) (sar (wadd (wmul h0 6364136223846793005) 1442695040888963407) 45)) 255) ((p0[(Int.toNat i0)]!).val : Int)) 255) (i0 + 1) (wadd (wmul h0 6364136223846793005) 1442695040888963407)) ∧ (¬ (i0 < (p0.length : Int)) → Q (wand (wxor (sar (wadd (wmul h0 6364136223846793005) 1442695040888963407) 33) (sar (wadd (wmul h0 6364136223846793005) 1442695040888963407) 45)) 255) i0 (wadd (wmul h0 6364136223846793005) 1442695040888963407))
def m_spec_l01Byte (Q : Int → Prop) : Prop := ∀ r : Int, 0 ≤ r → r ≤ 255 → Q r

def m_spec_l01Below (p1 : Int) (Q : Int → Prop) : Prop :=
  ((p1 ≤ 0) → Q 0) ∧ (¬ (p1 ≤ 0) → ((p1 ≤ 256) → m_spec_l01Byte (fun r14 => p1 ≠ 0 ∧ Q (Int.tmod r14 p1))) ∧ (¬ (p1 ≤ 256) → m_spec_l01Byte (fun r21 => m_spec_l01Byte (fun r27 => m_spec_l01Byte (fun r33 => m_spec_l01Byte (fun r39 => ok64 (r21 * 16777216) ∧ ok64 (r27 * 65536) ∧ ok64 ((r21 * 16777216) + (r27 * 65536)) ∧ ok64 (r33 * 256) ∧ ok64 (((r21 * 16777216) + (r27 * 65536)) + (r33 * 256)) ∧ ok64 ((((r21 * 16777216) + (r27 * 65536)) + (r33 * 256)) + r39) ∧ p1 ≠ 0 ∧ Q (Int.tmod ((((r21 * 16777216) + (r27 * 65536)) + (r33 * 256)) + r39) p1)))))))

abbrev m_spec_l15Players_K0 (x751 : List PlayerC) (r783 : Int) (kont778 : List PlayerC → Prop) (x901 : List Int) : Prop :=
  x751.length + 1 ≤ 1099511627776 ∧ kont778 (x751 ++ ([(x901, (1 + r783))]))
abbrev m_spec_l15Players_K1 (v757 : Int) (next768 : List PlayerC → Int → Prop) (x772 : List PlayerC) : Prop :=
  ok64 (v757 + 1) ∧ next768 x772 (v757 + 1)
abbrev m_spec_l15Players_K2 (Q : (List PlayerC) → Prop) (x743 : List PlayerC) : Prop :=
  Q x743
def m_spec_l15Players (Q : (List PlayerC) → Prop) : Prop :=
  m_spec_l01Below 3 (fun r19 => ok64 (1 + r19) ∧ LoopW2 ([]) 0 (fun x751 v757 next768 => ((v757 < (1 + r19)) → m_spec_l01Below 2 (fun r783 => ok64 (1 + r783) ∧ LoopW2 0 ([]) (fun v908 x909 next927 => ((v908 < 5) → m_spec_l01Below 3 (fun r936 => ((r936 > 0) → x909.length + 1 ≤ 1099511627776 ∧ ok64 (v908 + 1) ∧ next927 (v908 + 1) (x909 ++ ([v908]))) ∧ (¬ (r936 > 0) → ok64 (v908 + 1) ∧ next927 (v908 + 1) x909))) ∧ (¬ (v908 < 5) → (m_spec_l15Players_K0 x751 r783 (m_spec_l15Players_K1 v757 next768)) x909)))) ∧ (¬ (v757 < (1 + r19)) → (m_spec_l15Players_K2 Q) x751)))

def m_spec_l01Once (p1 : Int) (Q : Bool → Prop) : Prop :=
  m_spec_l01Below p1 (fun r7 => Q (decide (r7 = 0)))

abbrev m_spec_l15Night_K0 (x469 : List (List Int)) (kont496 : List (List Int) → Prop) (x504 : List Int) : Prop :=
  x469.length + 1 ≤ 1099511627776 ∧ kont496 (x469 ++ ([x504]))
abbrev m_spec_l15Night_K1 (v475 : Int) (next486 : List (List Int) → Int → Prop) (x490 : List (List Int)) : Prop :=
  ok64 (v475 + 1) ∧ next486 x490 (v475 + 1)
abbrev m_spec_l15Night_K2 (Q : (List (List Int)) → Prop) (x461 : List (List Int)) : Prop :=
  Q x461
def m_spec_l15Night (Q : (List (List Int)) → Prop) : Prop :=
  m_spec_l01Below 4 (fun r19 => ok64 (1 + r19) ∧ LoopW2 ([]) 0 (fun x469 v475 next486 => ((v475 < (1 + r19)) → LoopW2 ([]) 0 (fun x510 v514 next525 => ((((v514 < 5) ∧ ((x510.length : Int) < 3))) → m_spec_l01Once 3 (fun r537 => ((r537 = true) → x510.length + 1 ≤ 1099511627776 ∧ ok64 (v514 + 1) ∧ next525 (x510 ++ ([v514])) (v514 + 1)) ∧ (¬ (r537 = true) → ok64 (v514 + 1) ∧ next525 x510 (v514 + 1)))) ∧ (¬ (((v514 < 5) ∧ ((x510.length : Int) < 3))) → (m_spec_l15Night_K0 x469 (m_spec_l15Night_K1 v475 next486)) x510))) ∧ (¬ (v475 < (1 + r19)) → (m_spec_l15Night_K2 Q) x469)))

def m_spec_DrawNight (p0 : List Byte) (Q : (List PlayerC) → (List (List Int)) → Prop) : Prop :=
  m_spec_l01New p0 (m_spec_l15Players (fun r14 => m_spec_l15Night (fun r29 => Q r14 r29)))

abbrev m_spec_l13Search_K0 (p2 : List Int) (Q : (List Int) → Bool → (List Int) → (List Int) → Prop) (x558 : List Int) : Prop :=
  Q ([]) false p2 x558
def m_spec_l13Search_step (rec_ : (List PlayerC) → (List Int) → (List Int) → (List Int) → ((List Int) → Bool → (List Int) → (List Int) → Prop) → Prop) (p0 : List PlayerC) (p1 : List Int) (p2 : List Int) (p3 : List Int) (Q : (List Int) → Bool → (List Int) → (List Int) → Prop) : Prop :=
  (((p2.length : Int) = (p1.length : Int)) → 0 + p2.length ≤ 1099511627776 ∧ Q p2 true p2 p3) ∧ (¬ ((p2.length : Int) = (p1.length : Int)) → LoopW2 p3 0 (fun x561 v562 next571 => ((v562 < (p0.length : Int)) → ix v562 x561.length ∧ ix v562 p0.length ∧ (¬ (x561[(Int.toNat v562)]! ≥ p0[(Int.toNat v562)]!.2) → ix v562 p0.length) ∧ (¬ (x561[(Int.toNat v562)]! ≥ p0[(Int.toNat v562)]!.2) → ix (p2.length : Int) p1.length) ∧ ∃ r675 : Bool, (¬ (x561[(Int.toNat v562)]! ≥ p0[(Int.toNat v562)]!.2) → m_spec_l13Knows (p0[(Int.toNat v562)]!) (p1[(Int.toNat (p2.length : Int))]!) (fun z => z = r675)) ∧ ((((x561[(Int.toNat v562)]! ≥ p0[(Int.toNat v562)]!.2) ∨ (¬ (r675 = true)))) → ok64 (v562 + 1) ∧ next571 x561 (v562 + 1)) ∧ (¬ (((x561[(Int.toNat v562)]! ≥ p0[(Int.toNat v562)]!.2) ∨ (¬ (r675 = true)))) → ix v562 x561.length ∧ ok64 (x561[(Int.toNat v562)]! + 1) ∧ ix v562 x561.length ∧ 0 + p2.length ≤ 1099511627776 ∧ p2.length + 1 ≤ 1099511627776 ∧ rec_ p0 p1 (p2 ++ ([v562])) (x561.set (Int.toNat v562) (x561[(Int.toNat v562)]! + 1)) (fun r733 r738 x739 x740 => ix v562 x740.length ∧ ok64 (x740[(Int.toNat v562)]! - 1) ∧ ix v562 x740.length ∧ ((r738 = true) → Q r733 true p2 (x740.set (Int.toNat v562) (x740[(Int.toNat v562)]! - 1))) ∧ (¬ (r738 = true) → ok64 (v562 + 1) ∧ next571 (x740.set (Int.toNat v562) (x740[(Int.toNat v562)]! - 1)) (v562 + 1))))) ∧ (¬ (v562 < (p0.length : Int)) → (m_spec_l13Search_K0 p2 Q) x561)))
def m_spec_l13Search : Nat → (List PlayerC) → (List Int) → (List Int) → (List Int) → ((List Int) → Bool → (List Int) → (List Int) → Prop) → Prop
  | 0 => fun _ _ _ _ _ => False
  | f_ + 1 => m_spec_l13Search_step (m_spec_l13Search f_)

def m_spec_FirstCasting (p0 : List PlayerC) (p1 : List Int) (Q : (List Int) → Bool → Prop) : Prop :=
  m_spec_PlayersOk p0 (fun r7 => ∃ r12 : Bool, (¬ (¬ (r7 = true)) → m_spec_l11Rising p1 6 (fun z => z = r12)) ∧ ((((¬ (r7 = true)) ∨ (¬ (r12 = true)))) → Q ([]) false) ∧ (¬ (((¬ (r7 = true)) ∨ (¬ (r12 = true)))) → (0 ≤ (p0.length : Int) ∧ (p0.length : Int) ≤ 1099511627776) ∧ ∃ f42 : Nat, m_spec_l13Search f42 p0 p1 ([]) (List.replicate (Int.toNat (p0.length : Int)) (0 : Int)) (fun r46 r51 x52 x53 => Q r46 r51)))

abbrev m_laws_sameInts_K0 (Q : Bool → Prop) : Prop :=
  Q true
def m_laws_sameInts (p0 : List Int) (p1 : List Int) (Q : Bool → Prop) : Prop :=
  (((p0.length : Int) ≠ (p1.length : Int)) → Q false) ∧ (¬ ((p0.length : Int) ≠ (p1.length : Int)) → LoopW1 0 (fun v70 next78 => ((v70 < (p0.length : Int)) → ix v70 p0.length ∧ ix v70 p1.length ∧ ((p0[(Int.toNat v70)]! ≠ p1[(Int.toNat v70)]!) → Q false) ∧ (¬ (p0[(Int.toNat v70)]! ≠ p1[(Int.toNat v70)]!) → ok64 (v70 + 1) ∧ next78 (v70 + 1))) ∧ (¬ (v70 < (p0.length : Int)) → (m_laws_sameInts_K0 Q))))

abbrev m_laws_FnChanges_K0 (r16 : List PlayerC) (r25 : List (List Int)) (r40 : Int) (r56 : Bool) (Q : Bool → Prop) (x610 : List (List Int)) (v616 : Bool) : Prop :=
  ∃ r899 : Int, ((¬ ((v616) ≠ (r56))) ∧ (v616 = true) → m_impl_CountChanges r25 x610 (fun z => z = r899)) ∧ (((((v616) ≠ (r56)) ∨ (((v616 = true) ∧ (r899 < r40))))) → Q false) ∧ (¬ ((((v616) ≠ (r56)) ∨ (((v616 = true) ∧ (r899 < r40))))) → m_impl_NightOk r16 r25 (fun r914 => ((r914 = true) → m_impl_ChangesBetween ([1, 2]) ([0, 0]) ([2, 3]) ([1, 1]) (fun r945 => ((r945 = 1) → m_impl_ChangesBetween ([1]) [] [] [] (fun r958 => Q (decide (r958 = (-1))))) ∧ (¬ (r945 = 1) → Q false))) ∧ (¬ (r914 = true) → Q false)))
def m_laws_FnChanges (p0 : List Byte) (Q : Bool → Prop) : Prop :=
  m_laws_big p0 (fun r7 => ((r7 = true) → Q true) ∧ (¬ (r7 = true) → m_spec_DrawNight p0 (fun r16 r25 => m_impl_FewestChanges r16 r25 (fun r40 => m_impl_BestNight r16 r25 (fun r47 r56 => ∃ r72 : Int, (((¬ ((r56) ≠ (decide (r40 ≥ 0)))) ∧ (r56 = true)) ∧ (¬ ((r47.length : Int) ≠ (r25.length : Int))) → m_impl_CountChanges r25 r47 (fun z => z = r72)) ∧ (((((r56) ≠ (decide (r40 ≥ 0))) ∨ (((r56 = true) ∧ ((((r47.length : Int) ≠ (r25.length : Int)) ∨ (r72 ≠ r40))))))) → Q false) ∧ (¬ ((((r56) ≠ (decide (r40 ≥ 0))) ∨ (((r56 = true) ∧ ((((r47.length : Int) ≠ (r25.length : Int)) ∨ (r72 ≠ r40))))))) → LoopW3 ([]) true 0 (fun x619 v625 v626 next641 => ((v626 < (r25.length : Int)) → ix v626 r25.length ∧ m_impl_CastingsOf r16 (r25[(Int.toNat v626)]!) (fun r651 => ix v626 r25.length ∧ m_spec_FirstCasting r16 (r25[(Int.toNat v626)]!) (fun r667 r672 => ((¬ ((r672) ≠ (decide ((r651.length : Int) > 0)))) ∧ (r672 = true) → ix 0 r651.length) ∧ ∃ r741 : Bool, ((¬ ((r672) ≠ (decide ((r651.length : Int) > 0)))) ∧ (r672 = true) → m_laws_sameInts (r651[0]!) r667 (fun z => z = r741)) ∧ ((¬ ((((r672) ≠ (decide ((r651.length : Int) > 0))) ∨ (((r672 = true) ∧ (¬ (r741 = true))))))) ∧ (r56 = true) → ix v626 r25.length) ∧ ((¬ ((((r672) ≠ (decide ((r651.length : Int) > 0))) ∨ (((r672 = true) ∧ (¬ (r741 = true))))))) ∧ (r56 = true) → ix v626 r47.length) ∧ ∃ r823 : Bool, ((¬ ((((r672) ≠ (decide ((r651.length : Int) > 0))) ∨ (((r672 = true) ∧ (¬ (r741 = true))))))) ∧ (r56 = true) → m_spec_IsCasting r16 (r25[(Int.toNat v626)]!) (r47[(Int.toNat v626)]!) (fun z => z = r823)) ∧ (((((((r672) ≠ (decide ((r651.length : Int) > 0))) ∨ (((r672 = true) ∧ (¬ (r741 = true)))))) ∨ (((r56 = true) ∧ (¬ (r823 = true)))))) → Q false) ∧ (¬ ((((((r672) ≠ (decide ((r651.length : Int) > 0))) ∨ (((r672 = true) ∧ (¬ (r741 = true)))))) ∨ (((r56 = true) ∧ (¬ (r823 = true)))))) → x619.length + 1 ≤ 1099511627776 ∧ ok64 (v626 + 1) ∧ next641 (x619 ++ ([r667])) (v625 && r672) (v626 + 1))))) ∧ (¬ (v626 < (r25.length : Int)) → (m_laws_FnChanges_K0 r16 r25 r40 r56 Q) x619 v625))))))))

end Go.Proofs.Ytddjkiefadiijaa
