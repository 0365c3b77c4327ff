/- Plain models of functions of the program, printed by a program (gen2.py): what each asks and what it hands on. No statement of the claim stands here. -/
import Derived.Test.YtcgkcoogaieolaaPure
namespace Go.Proofs.Ytcgkcoogaieolaa
def m_laws_szCrossS (p0 : List Cross) (p1 : Int) (Q : Int → Prop) : Prop :=
  ok64 (p1 - (p0.length : Int)) ∧ (((p1 - (p0.length : Int)) < 0) → Q (-1)) ∧ (¬ ((p1 - (p0.length : Int)) < 0) → Q (p1 - (p0.length : Int)))

def m_laws_toCross (p0 : Cross) (Q : Cross → Prop) : Prop :=
  Q (p0.1, p0.2)

abbrev m_laws_toCrossS_K0 (Q : (List Cross) → Prop) (x64 : List Cross) : Prop :=
  Q x64
def m_laws_toCrossS (p0 : List Cross) (Q : (List Cross) → Prop) : Prop :=
  (0 ≤ (p0.length : Int) ∧ (p0.length : Int) ≤ 1099511627776) ∧ LoopW2 (List.replicate (Int.toNat (p0.length : Int)) ((0, false) : Cross)) 0 (fun x67 v68 next76 => ((v68 < (p0.length : Int)) → ix v68 p0.length ∧ m_laws_toCross (p0[(Int.toNat v68)]!) (fun r85 => ix v68 x67.length ∧ ok64 (v68 + 1) ∧ next76 (x67.set (Int.toNat v68) r85) (v68 + 1))) ∧ (¬ (v68 < (p0.length : Int)) → (m_laws_toCrossS_K0 Q) x67))

def m_spec_l01In (p0 : Int) (p1 : Int) (p2 : Int) (Q : Bool → Prop) : Prop :=
  Q ((decide (p0 ≥ p1)) && (decide (p0 ≤ p2)))

abbrev m_spec_CrossesOk_K0 (Q : Bool → Prop) : Prop :=
  Q true
def m_spec_CrossesOk (p0 : Int) (p1 : List Cross) (Q : Bool → Prop) : Prop :=
  m_spec_l01In p0 1 7 (fun r7 => ((((¬ (r7 = true)) ∨ ((p1.length : Int) > 40))) → Q false) ∧ (¬ (((¬ (r7 = true)) ∨ ((p1.length : Int) > 40))) → LoopW1 0 (fun v41 next49 => ((v41 < (p1.length : Int)) → ix v41 p1.length ∧ ok64 (p0 - 2) ∧ m_spec_l01In (p1[(Int.toNat v41)]!.1) 0 (p0 - 2) (fun r60 => ((¬ (r60 = true)) → Q false) ∧ (¬ (¬ (r60 = true)) → ok64 (v41 + 1) ∧ next49 (v41 + 1)))) ∧ (¬ (v41 < (p1.length : Int)) → (m_spec_CrossesOk_K0 Q)))))

abbrev m_spec_l08Start_K0 (Q : (List Int) → Prop) (x72 : List Int) : Prop :=
  Q x72
def m_spec_l08Start (p0 : Int) (Q : (List Int) → Prop) : Prop :=
  LoopW2 ([]) 0 (fun x78 v82 next90 => ((v82 < p0) → x78.length + 1 ≤ 1099511627776 ∧ ok64 (v82 + 1) ∧ next90 (x78 ++ ([v82])) (v82 + 1)) ∧ (¬ (v82 < p0) → (m_spec_l08Start_K0 Q) x78))

abbrev m_spec_OrderOk_K0 (v158 : Int) (next166 : Int → Prop) : Prop :=
  ok64 (v158 + 1) ∧ next166 (v158 + 1)
abbrev m_spec_OrderOk_K1 (p0 : List Int) (Q : Bool → Prop) : Prop :=
  m_spec_l01In (p0.length : Int) 1 7 (fun r258 => Q r258)
def m_spec_OrderOk (p0 : List Int) (Q : Bool → Prop) : Prop :=
  LoopW1 0 (fun v158 next166 => ((v158 < (p0.length : Int)) → ix v158 p0.length ∧ ok64 ((p0.length : Int) - 1) ∧ m_spec_l01In (p0[(Int.toNat v158)]!) 0 ((p0.length : Int) - 1) (fun r178 => ((¬ (r178 = true)) → Q false) ∧ (¬ (¬ (r178 = true)) → LoopW1 0 (fun v184 next192 => ((v184 < v158) → ix v184 p0.length ∧ ix v158 p0.length ∧ ((p0[(Int.toNat v184)]! = p0[(Int.toNat v158)]!) → Q false) ∧ (¬ (p0[(Int.toNat v184)]! = p0[(Int.toNat v158)]!) → ok64 (v184 + 1) ∧ next192 (v184 + 1))) ∧ (¬ (v184 < v158) → (m_spec_OrderOk_K0 v158 next166)))))) ∧ (¬ (v158 < (p0.length : Int)) → (m_spec_OrderOk_K1 p0 Q)))

def m_spec_SwapAt (p0 : List Int) (p1 : Int) (Q : (List Int) → Bool → Prop) : Prop :=
  0 + p0.length ≤ 1099511627776 ∧ m_spec_OrderOk p0 (fun r21 => (¬ (¬ (r21 = true)) → ok64 ((p0.length : Int) - 2)) ∧ ∃ r30 : Bool, (¬ (¬ (r21 = true)) → m_spec_l01In p1 0 ((p0.length : Int) - 2) (fun z => z = r30)) ∧ ((((¬ (r21 = true)) ∨ (¬ (r30 = true)))) → Q p0 false) ∧ (¬ (((¬ (r21 = true)) ∨ (¬ (r30 = true)))) → ok64 (p1 + 1) ∧ ix (p1 + 1) p0.length ∧ ix p1 p0.length ∧ ok64 (p1 + 1) ∧ ix p1 p0.length ∧ ix (p1 + 1) ((p0.set (Int.toNat p1) (p0[(Int.toNat (p1 + 1))]!)).length) ∧ Q ((p0.set (Int.toNat p1) (p0[(Int.toNat (p1 + 1))]!)).set (Int.toNat (p1 + 1)) (p0[(Int.toNat p1)]!)) true))

abbrev m_spec_PairsOf_K0 (p1 : List Cross) (x216 : List (List Int)) (x222 : List Int) (v226 : Int) (next236 : List (List Int) → List Int → Int → Prop) (v248 : Int) (v249 : Int) : Prop :=
  x216.length + 1 ≤ 1099511627776 ∧ ix v226 p1.length ∧ m_spec_SwapAt x222 (p1[(Int.toNat v226)]!.1) (fun r294 r299 => ok64 (v226 + 1) ∧ next236 (x216 ++ ([[v248, v249]])) r294 (v226 + 1))
abbrev m_spec_PairsOf_K1 (Q : (List (List Int)) → Prop) (x208 : List (List Int)) : Prop :=
  Q x208
def m_spec_PairsOf (p0 : Int) (p1 : List Cross) (Q : (List (List Int)) → Prop) : Prop :=
  m_spec_CrossesOk p0 p1 (fun r18 => ((¬ (r18 = true)) → Q ([])) ∧ (¬ (¬ (r18 = true)) → m_spec_l08Start p0 (fun r28 => LoopW3 ([]) r28 0 (fun x216 x222 v226 next236 => ((v226 < (p1.length : Int)) → ix v226 p1.length ∧ ix (p1[(Int.toNat v226)]!.1) x222.length ∧ ix v226 p1.length ∧ ok64 (p1[(Int.toNat v226)]!.1 + 1) ∧ ix (p1[(Int.toNat v226)]!.1 + 1) x222.length ∧ ix v226 p1.length ∧ ((¬ ((p1[(Int.toNat v226)]!.2) = true)) → (m_spec_PairsOf_K0 p1 x216 x222 v226 next236) (x222[(Int.toNat (p1[(Int.toNat v226)]!.1 + 1))]!) (x222[(Int.toNat (p1[(Int.toNat v226)]!.1))]!)) ∧ (¬ (¬ ((p1[(Int.toNat v226)]!.2) = true)) → (m_spec_PairsOf_K0 p1 x216 x222 v226 next236) (x222[(Int.toNat (p1[(Int.toNat v226)]!.1))]!) (x222[(Int.toNat (p1[(Int.toNat v226)]!.1 + 1))]!))) ∧ (¬ (v226 < (p1.length : Int)) → (m_spec_PairsOf_K1 Q) x216)))))

abbrev m_spec_TwistTable_K0 (r198 : List (List Int)) (x970 : List (List Int)) (v973 : Int) (next985 : List (List Int) → Int → Prop) (v991 : Int) : Prop :=
  ix v973 r198.length ∧ ix 0 ((r198[(Int.toNat v973)]!).length) ∧ ix ((r198[(Int.toNat v973)]!)[0]!) x970.length ∧ ix v973 r198.length ∧ ix 1 ((r198[(Int.toNat v973)]!).length) ∧ ix v973 r198.length ∧ ix 0 ((r198[(Int.toNat v973)]!).length) ∧ ix ((r198[(Int.toNat v973)]!)[0]!) x970.length ∧ ix v973 r198.length ∧ ix 1 ((r198[(Int.toNat v973)]!).length) ∧ ix ((r198[(Int.toNat v973)]!)[1]!) ((x970[(Int.toNat ((r198[(Int.toNat v973)]!)[0]!))]!).length) ∧ ok64 ((x970[(Int.toNat ((r198[(Int.toNat v973)]!)[0]!))]!)[(Int.toNat ((r198[(Int.toNat v973)]!)[1]!))]! + v991) ∧ ix ((r198[(Int.toNat v973)]!)[1]!) ((x970[(Int.toNat ((r198[(Int.toNat v973)]!)[0]!))]!).length) ∧ ix v973 r198.length ∧ ix 1 ((r198[(Int.toNat v973)]!).length) ∧ ix ((r198[(Int.toNat v973)]!)[1]!) ((x970.set (Int.toNat ((r198[(Int.toNat v973)]!)[0]!)) (x970[(Int.toNat ((r198[(Int.toNat v973)]!)[0]!))]!.set (Int.toNat ((r198[(Int.toNat v973)]!)[1]!)) ((x970[(Int.toNat ((r198[(Int.toNat v973)]!)[0]!))]!)[(Int.toNat ((r198[(Int.toNat v973)]!)[1]!))]! + v991))).length) ∧ ix v973 r198.length ∧ ix 0 ((r198[(Int.toNat v973)]!).length) ∧ ix v973 r198.length ∧ ix 1 ((r198[(Int.toNat v973)]!).length) ∧ ix ((r198[(Int.toNat v973)]!)[1]!) ((x970.set (Int.toNat ((r198[(Int.toNat v973)]!)[0]!)) (x970[(Int.toNat ((r198[(Int.toNat v973)]!)[0]!))]!.set (Int.toNat ((r198[(Int.toNat v973)]!)[1]!)) ((x970[(Int.toNat ((r198[(Int.toNat v973)]!)[0]!))]!)[(Int.toNat ((r198[(Int.toNat v973)]!)[1]!))]! + v991))).length) ∧ ix v973 r198.length ∧ ix 0 ((r198[(Int.toNat v973)]!).length) ∧ ix ((r198[(Int.toNat v973)]!)[0]!) (((x970.set (Int.toNat ((r198[(Int.toNat v973)]!)[0]!)) (x970[(Int.toNat ((r198[(Int.toNat v973)]!)[0]!))]!.set (Int.toNat ((r198[(Int.toNat v973)]!)[1]!)) ((x970[(Int.toNat ((r198[(Int.toNat v973)]!)[0]!))]!)[(Int.toNat ((r198[(Int.toNat v973)]!)[1]!))]! + v991)))[(Int.toNat ((r198[(Int.toNat v973)]!)[1]!))]!).length) ∧ ok64 (((x970.set (Int.toNat ((r198[(Int.toNat v973)]!)[0]!)) (x970[(Int.toNat ((r198[(Int.toNat v973)]!)[0]!))]!.set (Int.toNat ((r198[(Int.toNat v973)]!)[1]!)) ((x970[(Int.toNat ((r198[(Int.toNat v973)]!)[0]!))]!)[(Int.toNat ((r198[(Int.toNat v973)]!)[1]!))]! + v991)))[(Int.toNat ((r198[(Int.toNat v973)]!)[1]!))]!)[(Int.toNat ((r198[(Int.toNat v973)]!)[0]!))]! + v991) ∧ ix ((r198[(Int.toNat v973)]!)[0]!) (((x970.set (Int.toNat ((r198[(Int.toNat v973)]!)[0]!)) (x970[(Int.toNat ((r198[(Int.toNat v973)]!)[0]!))]!.set (Int.toNat ((r198[(Int.toNat v973)]!)[1]!)) ((x970[(Int.toNat ((r198[(Int.toNat v973)]!)[0]!))]!)[(Int.toNat ((r198[(Int.toNat v973)]!)[1]!))]! + v991)))[(Int.toNat ((r198[(Int.toNat v973)]!)[1]!))]!).length) ∧ ok64 (v973 + 1) ∧ next985 ((x970.set (Int.toNat ((r198[(Int.toNat v973)]!)[0]!)) (x970[(Int.toNat ((r198[(Int.toNat v973)]!)[0]!))]!.set (Int.toNat ((r198[(Int.toNat v973)]!)[1]!)) ((x970[(Int.toNat ((r198[(Int.toNat v973)]!)[0]!))]!)[(Int.toNat ((r198[(Int.toNat v973)]!)[1]!))]! + v991))).set (Int.toNat ((r198[(Int.toNat v973)]!)[1]!)) ((x970.set (Int.toNat ((r198[(Int.toNat v973)]!)[0]!)) (x970[(Int.toNat ((r198[(Int.toNat v973)]!)[0]!))]!.set (Int.toNat ((r198[(Int.toNat v973)]!)[1]!)) ((x970[(Int.toNat ((r198[(Int.toNat v973)]!)[0]!))]!)[(Int.toNat ((r198[(Int.toNat v973)]!)[1]!))]! + v991)))[(Int.toNat ((r198[(Int.toNat v973)]!)[1]!))]!.set (Int.toNat ((r198[(Int.toNat v973)]!)[0]!)) (((x970.set (Int.toNat ((r198[(Int.toNat v973)]!)[0]!)) (x970[(Int.toNat ((r198[(Int.toNat v973)]!)[0]!))]!.set (Int.toNat ((r198[(Int.toNat v973)]!)[1]!)) ((x970[(Int.toNat ((r198[(Int.toNat v973)]!)[0]!))]!)[(Int.toNat ((r198[(Int.toNat v973)]!)[1]!))]! + v991)))[(Int.toNat ((r198[(Int.toNat v973)]!)[1]!))]!)[(Int.toNat ((r198[(Int.toNat v973)]!)[0]!))]! + v991))) (v973 + 1)
abbrev m_spec_TwistTable_K1 (Q : (List (List Int)) → Prop) (x965 : List (List Int)) : Prop :=
  Q x965
abbrev m_spec_TwistTable_K2 (p0 : Int) (p1 : List Cross) (Q : (List (List Int)) → Prop) (x128 : List (List Int)) : Prop :=
  m_spec_PairsOf p0 p1 (fun r198 => LoopW2 x128 0 (fun x970 v973 next985 => ((v973 < (r198.length : Int)) → ix v973 p1.length ∧ (((p1[(Int.toNat v973)]!.2) = true) → (m_spec_TwistTable_K0 r198 x970 v973 next985) 1) ∧ (¬ ((p1[(Int.toNat v973)]!.2) = true) → (m_spec_TwistTable_K0 r198 x970 v973 next985) (-1))) ∧ (¬ (v973 < (r198.length : Int)) → (m_spec_TwistTable_K1 Q) x970)))
def m_spec_TwistTable (p0 : Int) (p1 : List Cross) (Q : (List (List Int)) → Prop) : Prop :=
  m_spec_CrossesOk p0 p1 (fun r18 => ((¬ (r18 = true)) → Q ([])) ∧ (¬ (¬ (r18 = true)) → LoopW2 ([]) 0 (fun x136 v142 next151 => ((v142 < p0) → (0 ≤ p0 ∧ p0 ≤ 1099511627776) ∧ x136.length + 1 ≤ 1099511627776 ∧ ok64 (v142 + 1) ∧ next151 (x136 ++ ([List.replicate (Int.toNat p0) (0 : Int)])) (v142 + 1)) ∧ (¬ (v142 < p0) → (m_spec_TwistTable_K2 p0 p1 Q) x136))))

def m_spec_TwistOf (p0 : Int) (p1 : List Cross) (p2 : Int) (p3 : Int) (Q : Int → Prop) : Prop :=
  m_spec_TwistTable p0 p1 (fun r6 => ok64 ((r6.length : Int) - 1) ∧ m_spec_l01In p2 0 ((r6.length : Int) - 1) (fun r23 => (¬ (¬ (r23 = true)) → ok64 ((r6.length : Int) - 1)) ∧ ∃ r32 : Bool, (¬ (¬ (r23 = true)) → m_spec_l01In p3 0 ((r6.length : Int) - 1) (fun z => z = r32)) ∧ ((((¬ (r23 = true)) ∨ (¬ (r32 = true)))) → Q 0) ∧ (¬ (((¬ (r23 = true)) ∨ (¬ (r32 = true)))) → ix p2 r6.length ∧ ix p3 ((r6[(Int.toNat p2)]!).length) ∧ Q ((r6[(Int.toNat p2)]!)[(Int.toNat p3)]!))))

def m_impl_within (p0 : Int) (p1 : Int) (p2 : Int) (Q : Bool → Prop) : Prop :=
  Q ((decide (p0 ≥ p1)) && (decide (p0 ≤ p2)))

abbrev m_impl_CrossesOk_K0 (Q : Bool → Prop) : Prop :=
  Q true
def m_impl_CrossesOk (p0 : Int) (p1 : List Cross) (Q : Bool → Prop) : Prop :=
  m_impl_within p0 1 7 (fun r7 => ((((¬ (r7 = true)) ∨ ((p1.length : Int) > 40))) → Q false) ∧ (¬ (((¬ (r7 = true)) ∨ ((p1.length : Int) > 40))) → LoopW1 0 (fun v52 next60 => ((v52 < (p1.length : Int)) → ix v52 p1.length ∧ ok64 (p0 - 2) ∧ m_impl_within (p1[(Int.toNat v52)]!.1) 0 (p0 - 2) (fun r82 => ((¬ (r82 = true)) → Q false) ∧ (¬ (¬ (r82 = true)) → ok64 (v52 + 1) ∧ next60 (v52 + 1)))) ∧ (¬ (v52 < (p1.length : Int)) → (m_impl_CrossesOk_K0 Q)))))

abbrev m_impl_twists_1_K0 (p1 : Int) (p2 : Int) (q0 : List (List Int)) (Q : (List (List Int)) → Prop) (v16 : Int) : Prop :=
  ix p1 q0.length ∧ ix p2 ((q0[(Int.toNat p1)]!).length) ∧ ok64 ((q0[(Int.toNat p1)]!)[(Int.toNat p2)]! + v16) ∧ ix p2 ((q0[(Int.toNat p1)]!).length) ∧ ix p2 ((q0.set (Int.toNat p1) (q0[(Int.toNat p1)]!.set (Int.toNat p2) ((q0[(Int.toNat p1)]!)[(Int.toNat p2)]! + v16))).length) ∧ ix p1 (((q0.set (Int.toNat p1) (q0[(Int.toNat p1)]!.set (Int.toNat p2) ((q0[(Int.toNat p1)]!)[(Int.toNat p2)]! + v16)))[(Int.toNat p2)]!).length) ∧ ok64 (((q0.set (Int.toNat p1) (q0[(Int.toNat p1)]!.set (Int.toNat p2) ((q0[(Int.toNat p1)]!)[(Int.toNat p2)]! + v16)))[(Int.toNat p2)]!)[(Int.toNat p1)]! + v16) ∧ ix p1 (((q0.set (Int.toNat p1) (q0[(Int.toNat p1)]!.set (Int.toNat p2) ((q0[(Int.toNat p1)]!)[(Int.toNat p2)]! + v16)))[(Int.toNat p2)]!).length) ∧ Q ((q0.set (Int.toNat p1) (q0[(Int.toNat p1)]!.set (Int.toNat p2) ((q0[(Int.toNat p1)]!)[(Int.toNat p2)]! + v16))).set (Int.toNat p2) ((q0.set (Int.toNat p1) (q0[(Int.toNat p1)]!.set (Int.toNat p2) ((q0[(Int.toNat p1)]!)[(Int.toNat p2)]! + v16)))[(Int.toNat p2)]!.set (Int.toNat p1) (((q0.set (Int.toNat p1) (q0[(Int.toNat p1)]!.set (Int.toNat p2) ((q0[(Int.toNat p1)]!)[(Int.toNat p2)]! + v16)))[(Int.toNat p2)]!)[(Int.toNat p1)]! + v16)))
def m_impl_twists_1 (p0 : Cross) (p1 : Int) (p2 : Int) (q0 : List (List Int)) (Q : (List (List Int)) → Prop) : Prop :=
  ((p0.2 = true) → (m_impl_twists_1_K0 p1 p2 q0 Q) 1) ∧ (¬ (p0.2 = true) → (m_impl_twists_1_K0 p1 p2 q0 Q) (-1))

abbrev m_impl_upTo_K0 (Q : (List Int) → Prop) (x74 : List Int) : Prop :=
  Q x74
def m_impl_upTo (p0 : Int) (Q : (List Int) → Prop) : Prop :=
  LoopW2 ([]) 0 (fun x80 v84 next92 => ((v84 < p0) → x80.length + 1 ≤ 1099511627776 ∧ ok64 (v84 + 1) ∧ next92 (x80 ++ ([v84])) (v84 + 1)) ∧ (¬ (v84 < p0) → (m_impl_upTo_K0 Q) x80))

abbrev m_impl_follow_twists_1_K0 (Q : (List Int) → (List (List Int)) → Prop) (x487 : List Int) (x488 : List (List Int)) : Prop :=
  Q x487 x488
def m_impl_follow_twists_1 (p0 : Int) (p1 : List Cross) (p2_0 : List (List Int)) (Q : (List Int) → (List (List Int)) → Prop) : Prop :=
  m_impl_upTo p0 (fun r10 => LoopW3 r10 0 p2_0 (fun x496 v497 x498 next515 => ((v497 < (p1.length : Int)) → ix v497 p1.length ∧ ix (p1[(Int.toNat v497)]!.1) x496.length ∧ ok64 (p1[(Int.toNat v497)]!.1 + 1) ∧ ix (p1[(Int.toNat v497)]!.1 + 1) x496.length ∧ m_impl_twists_1 (p1[(Int.toNat v497)]!.1, p1[(Int.toNat v497)]!.2) (x496[(Int.toNat (p1[(Int.toNat v497)]!.1))]!) (x496[(Int.toNat (p1[(Int.toNat v497)]!.1 + 1))]!) x498 (fun x602 => ok64 (p1[(Int.toNat v497)]!.1 + 1) ∧ ok64 (p1[(Int.toNat v497)]!.1 + 1) ∧ ix (p1[(Int.toNat v497)]!.1 + 1) x496.length ∧ ix (p1[(Int.toNat v497)]!.1) x496.length ∧ ix (p1[(Int.toNat v497)]!.1) x496.length ∧ ix (p1[(Int.toNat v497)]!.1 + 1) ((x496.set (Int.toNat (p1[(Int.toNat v497)]!.1)) (x496[(Int.toNat (p1[(Int.toNat v497)]!.1 + 1))]!)).length) ∧ ok64 (v497 + 1) ∧ next515 ((x496.set (Int.toNat (p1[(Int.toNat v497)]!.1)) (x496[(Int.toNat (p1[(Int.toNat v497)]!.1 + 1))]!)).set (Int.toNat (p1[(Int.toNat v497)]!.1 + 1)) (x496[(Int.toNat (p1[(Int.toNat v497)]!.1))]!)) (v497 + 1) x602)) ∧ (¬ (v497 < (p1.length : Int)) → (m_impl_follow_twists_1_K0 Q) x496 x498)))

abbrev m_impl_twists_K0 (p0 : Int) (p1 : List Cross) (Q : (List (List Int)) → Prop) (x175 : List (List Int)) : Prop :=
  m_impl_follow_twists_1 p0 p1 x175 (fun r268 x273 => Q x273)
def m_impl_twists (p0 : Int) (p1 : List Cross) (Q : (List (List Int)) → Prop) : Prop :=
  (0 ≤ p0 ∧ p0 ≤ 1099511627776) ∧ LoopW2 0 (List.replicate (Int.toNat p0) ([] : List Int)) (fun v180 x181 next194 => ((v180 < ((List.replicate (Int.toNat p0) ([] : List Int)).length : Int)) → (0 ≤ p0 ∧ p0 ≤ 1099511627776) ∧ ix v180 x181.length ∧ ok64 (v180 + 1) ∧ next194 (v180 + 1) (x181.set (Int.toNat v180) (List.replicate (Int.toNat p0) (0 : Int)))) ∧ (¬ (v180 < ((List.replicate (Int.toNat p0) ([] : List Int)).length : Int)) → (m_impl_twists_K0 p0 p1 Q) x181))

def m_impl_TwistOf (p0 : Int) (p1 : List Cross) (p2 : Int) (p3 : Int) (Q : Int → Prop) : Prop :=
  m_impl_CrossesOk p0 p1 (fun r7 => (¬ (¬ (r7 = true)) → ok64 (p0 - 1)) ∧ ∃ r15 : Bool, (¬ (¬ (r7 = true)) → m_impl_within p2 0 (p0 - 1) (fun z => z = r15)) ∧ (¬ (((¬ (r7 = true)) ∨ (¬ (r15 = true)))) → ok64 (p0 - 1)) ∧ ∃ r27 : Bool, (¬ (((¬ (r7 = true)) ∨ (¬ (r15 = true)))) → m_impl_within p3 0 (p0 - 1) (fun z => z = r27)) ∧ ((((((((¬ (r7 = true)) ∨ (¬ (r15 = true)))) ∨ (¬ (r27 = true)))) ∨ (p2 = p3))) → Q 0) ∧ (¬ (((((((¬ (r7 = true)) ∨ (¬ (r15 = true)))) ∨ (¬ (r27 = true)))) ∨ (p2 = p3))) → m_impl_twists p0 p1 (fun r43 => ix p2 r43.length ∧ ix p3 ((r43[(Int.toNat p2)]!).length) ∧ Q ((r43[(Int.toNat p2)]!)[(Int.toNat p3)]!))))

def m_laws_eqCross (p0 : Cross) (p1 : Cross) (Q : Bool → Prop) : Prop :=
  ((p0.1 ≠ p1.1) → Q false) ∧ (¬ (p0.1 ≠ p1.1) → (((p0.2) ≠ (p1.2)) → Q false) ∧ (¬ ((p0.2) ≠ (p1.2)) → Q true))

abbrev m_laws_eqCrossS_K0 (Q : Bool → Prop) : Prop :=
  Q true
def m_laws_eqCrossS (p0 : List Cross) (p1 : List Cross) (Q : Bool → Prop) : Prop :=
  (((p0.length : Int) ≠ (p1.length : Int)) → Q false) ∧ (¬ ((p0.length : Int) ≠ (p1.length : Int)) → LoopW1 0 (fun v76 next84 => ((v76 < (p0.length : Int)) → ix v76 p0.length ∧ ix v76 p1.length ∧ ∃ r132 : Bool, m_laws_eqCross (p0[(Int.toNat v76)]!) (p1[(Int.toNat v76)]!) (fun z => z = r132) ∧ ((¬ (r132 = true)) → Q false) ∧ (¬ (¬ (r132 = true)) → ok64 (v76 + 1) ∧ next84 (v76 + 1))) ∧ (¬ (v76 < (p0.length : Int)) → (m_laws_eqCrossS_K0 Q))))

def m_laws_FnExactTwistOf (p0 : Int) (p1 : List Cross) (p2 : Int) (p3 : Int) (Q : Bool → Prop) : Prop :=
  m_laws_szCrossS p1 1048576 (fun r7 => ((r7 < 0) → Q true) ∧ (¬ (r7 < 0) → m_laws_toCrossS p1 (fun r18 => m_spec_TwistOf p0 r18 p2 p3 (fun r28 => m_laws_toCrossS p1 (fun r35 => m_impl_TwistOf p0 r35 p2 p3 (fun r46 => ((r46 ≠ r28) → Q false) ∧ (¬ (r46 ≠ r28) → m_laws_toCrossS p1 (fun r58 => m_laws_eqCrossS r35 r58 (fun r68 => ((¬ (r68 = true)) → Q false) ∧ (¬ (¬ (r68 = true)) → Q true))))))))))

abbrev m_spec_LeastUndoing_K0 (v492 : Int) (next500 : Int → Int → Prop) (v504 : Int) : Prop :=
  ok64 (v492 + 1) ∧ next500 v504 (v492 + 1)
abbrev m_spec_LeastUndoing_K1 (Q : Int → Prop) (v488 : Int) : Prop :=
  Q v488
def m_spec_LeastUndoing (p0 : Int) (p1 : List Cross) (Q : Int → Prop) : Prop :=
  m_spec_CrossesOk p0 p1 (fun r7 => ((¬ (r7 = true)) → Q (-1)) ∧ (¬ (¬ (r7 = true)) → m_spec_TwistTable p0 p1 (fun r17 => LoopW2 0 0 (fun v491 v492 next500 => ((v492 < p0) → LoopW2 v491 0 (fun v507 v508 next516 => ((v508 < v492) → ix v492 r17.length ∧ ix v508 ((r17[(Int.toNat v492)]!).length) ∧ ix v492 r17.length ∧ ix v508 ((r17[(Int.toNat v492)]!).length) ∧ ok64 (-((r17[(Int.toNat v492)]!)[(Int.toNat v508)]!)) ∧ ok64 (v507 + (max ((r17[(Int.toNat v492)]!)[(Int.toNat v508)]!) (-((r17[(Int.toNat v492)]!)[(Int.toNat v508)]!)))) ∧ ok64 (v508 + 1) ∧ next516 (v507 + (max ((r17[(Int.toNat v492)]!)[(Int.toNat v508)]!) (-((r17[(Int.toNat v492)]!)[(Int.toNat v508)]!)))) (v508 + 1)) ∧ (¬ (v508 < v492) → (m_spec_LeastUndoing_K0 v492 next500) v507))) ∧ (¬ (v492 < p0) → (m_spec_LeastUndoing_K1 Q) v491)))))

def m_impl_size (p0 : Int) (Q : Int → Prop) : Prop :=
  ok64 (-p0) ∧ Q (max p0 (-p0))

abbrev m_impl_LeastUndoing_K0 (v173 : Int) (next181 : Int → Int → Prop) (v185 : Int) : Prop :=
  ok64 (v173 + 1) ∧ next181 v185 (v173 + 1)
abbrev m_impl_LeastUndoing_K1 (Q : Int → Prop) (v169 : Int) : Prop :=
  Q v169
def m_impl_LeastUndoing (p0 : Int) (p1 : List Cross) (Q : Int → Prop) : Prop :=
  m_impl_CrossesOk p0 p1 (fun r7 => ((¬ (r7 = true)) → Q (-1)) ∧ (¬ (¬ (r7 = true)) → m_impl_twists p0 p1 (fun r16 => LoopW2 0 0 (fun v172 v173 next181 => ((v173 < p0) → ok64 (v173 + 1) ∧ LoopW2 v172 (v173 + 1) (fun v190 v191 next199 => ((v191 < p0) → ix v173 r16.length ∧ ix v191 ((r16[(Int.toNat v173)]!).length) ∧ m_impl_size ((r16[(Int.toNat v173)]!)[(Int.toNat v191)]!) (fun r209 => ok64 (v190 + r209) ∧ ok64 (v191 + 1) ∧ next199 (v190 + r209) (v191 + 1))) ∧ (¬ (v191 < p0) → (m_impl_LeastUndoing_K0 v173 next181) v190))) ∧ (¬ (v173 < p0) → (m_impl_LeastUndoing_K1 Q) v172)))))

def m_laws_FnExactLeastUndoing (p0 : Int) (p1 : List Cross) (Q : Bool → Prop) : Prop :=
  m_laws_szCrossS p1 1048576 (fun r7 => ((r7 < 0) → Q true) ∧ (¬ (r7 < 0) → m_laws_toCrossS p1 (fun r18 => m_spec_LeastUndoing p0 r18 (fun r28 => m_laws_toCrossS p1 (fun r35 => m_impl_LeastUndoing p0 r35 (fun r46 => ((r46 ≠ r28) → Q false) ∧ (¬ (r46 ≠ r28) → m_laws_toCrossS p1 (fun r58 => m_laws_eqCrossS r35 r58 (fun r68 => ((¬ (r68 = true)) → Q false) ∧ (¬ (¬ (r68 = true)) → Q true))))))))))

def m_impl_TwistTable (p0 : Int) (p1 : List Cross) (Q : (List (List Int)) → Prop) : Prop :=
  m_impl_CrossesOk p0 p1 (fun r7 => ((¬ (r7 = true)) → Q ([])) ∧ (¬ (¬ (r7 = true)) → m_impl_twists p0 p1 (fun r23 => Q r23)))

abbrev m_laws_eqIntS_K0 (Q : Bool → Prop) : Prop :=
  Q true
def m_laws_eqIntS (p0 : List Int) (p1 : List Int) (Q : Bool → Prop) : Prop :=
  (((p0.length : Int) ≠ (p1.length : Int)) → Q false) ∧ (¬ ((p0.length : Int) ≠ (p1.length : Int)) → LoopW1 0 (fun v70 next78 => ((v70 < (p0.length : Int)) → ix v70 p0.length ∧ ix v70 p1.length ∧ ((p0[(Int.toNat v70)]! ≠ p1[(Int.toNat v70)]!) → Q false) ∧ (¬ (p0[(Int.toNat v70)]! ≠ p1[(Int.toNat v70)]!) → ok64 (v70 + 1) ∧ next78 (v70 + 1))) ∧ (¬ (v70 < (p0.length : Int)) → (m_laws_eqIntS_K0 Q))))

abbrev m_laws_eqIntSS_K0 (Q : Bool → Prop) : Prop :=
  Q true
def m_laws_eqIntSS (p0 : List (List Int)) (p1 : List (List Int)) (Q : Bool → Prop) : Prop :=
  (((p0.length : Int) ≠ (p1.length : Int)) → Q false) ∧ (¬ ((p0.length : Int) ≠ (p1.length : Int)) → LoopW1 0 (fun v76 next84 => ((v76 < (p0.length : Int)) → ix v76 p0.length ∧ ix v76 p1.length ∧ ∃ r132 : Bool, m_laws_eqIntS (p0[(Int.toNat v76)]!) (p1[(Int.toNat v76)]!) (fun z => z = r132) ∧ ((¬ (r132 = true)) → Q false) ∧ (¬ (¬ (r132 = true)) → ok64 (v76 + 1) ∧ next84 (v76 + 1))) ∧ (¬ (v76 < (p0.length : Int)) → (m_laws_eqIntSS_K0 Q))))

abbrev m_laws_markCrossS_K0 (Q : Int → (List Cross) → Prop) (x64 : List Cross) (v65 : Int) : Prop :=
  Q v65 x64
def m_laws_markCrossS (p0 : List Cross) (p1 : Int) (Q : Int → (List Cross) → Prop) : Prop :=
  LoopW3 p0 p1 0 (fun x68 v69 v70 next78 => ((v70 < (x68.length : Int)) → ix v70 x68.length ∧ ok64 (v69 + 1) ∧ ix v70 ((x68.set (Int.toNat v70) (v69, x68[(Int.toNat v70)]!.2)).length) ∧ ok64 ((v69 + 1) + 1) ∧ ok64 (v70 + 1) ∧ next78 ((x68.set (Int.toNat v70) (v69, x68[(Int.toNat v70)]!.2)).set (Int.toNat v70) ((x68.set (Int.toNat v70) (v69, x68[(Int.toNat v70)]!.2))[(Int.toNat v70)]!.1, (decide ((Int.tmod (v69 + 1) 3) = 0)))) ((v69 + 1) + 1) (v70 + 1)) ∧ (¬ (v70 < (x68.length : Int)) → (m_laws_markCrossS_K0 Q) x68 v69))

abbrev m_laws_markIntS_K0 (Q : Int → (List Int) → Prop) (x48 : List Int) (v49 : Int) : Prop :=
  Q v49 x48
def m_laws_markIntS (p0 : List Int) (p1 : Int) (Q : Int → (List Int) → Prop) : Prop :=
  LoopW3 p0 p1 0 (fun x52 v53 v54 next62 => ((v54 < (x52.length : Int)) → ix v54 x52.length ∧ ok64 (v53 + 1) ∧ ok64 (v54 + 1) ∧ next62 (x52.set (Int.toNat v54) v53) (v53 + 1) (v54 + 1)) ∧ (¬ (v54 < (x52.length : Int)) → (m_laws_markIntS_K0 Q) x52 v53))

abbrev m_laws_markIntSS_K0 (Q : Int → (List (List Int)) → Prop) (x72 : List (List Int)) (v75 : Int) : Prop :=
  Q v75 x72
def m_laws_markIntSS (p0 : List (List Int)) (p1 : Int) (Q : Int → (List (List Int)) → Prop) : Prop :=
  LoopW3 p0 p1 0 (fun x78 v81 v82 next90 => ((v82 < (x78.length : Int)) → ix v82 x78.length ∧ m_laws_markIntS (x78[(Int.toNat v82)]!) v81 (fun r107 x108 => ok64 (v82 + 1) ∧ next90 (x78.set (Int.toNat v82) x108) r107 (v82 + 1))) ∧ (¬ (v82 < (x78.length : Int)) → (m_laws_markIntSS_K0 Q) x78 v81))

abbrev m_laws_heldIntS_K0 (Q : Int → Prop) (v44 : Int) : Prop :=
  Q v44
def m_laws_heldIntS (p0 : List Int) (p1 : Int) (Q : Int → Prop) : Prop :=
  LoopW2 p1 0 (fun v47 v48 next56 => ((v48 < (p0.length : Int)) → ix v48 p0.length ∧ ((p0[(Int.toNat v48)]! ≠ v47) → Q (-1)) ∧ (¬ (p0[(Int.toNat v48)]! ≠ v47) → ok64 (v47 + 1) ∧ ok64 (v48 + 1) ∧ next56 (v47 + 1) (v48 + 1))) ∧ (¬ (v48 < (p0.length : Int)) → (m_laws_heldIntS_K0 Q) v47))

abbrev m_laws_heldIntSS_K0 (Q : Int → Prop) (v54 : Int) : Prop :=
  Q v54
def m_laws_heldIntSS (p0 : List (List Int)) (p1 : Int) (Q : Int → Prop) : Prop :=
  LoopW2 p1 0 (fun v57 v58 next66 => ((v58 < (p0.length : Int)) → ix v58 p0.length ∧ m_laws_heldIntS (p0[(Int.toNat v58)]!) v57 (fun r76 => ((r76 < 0) → Q (-1)) ∧ (¬ (r76 < 0) → ok64 (v58 + 1) ∧ next66 r76 (v58 + 1)))) ∧ (¬ (v58 < (p0.length : Int)) → (m_laws_heldIntSS_K0 Q) v57))

def m_laws_FnExactTwistTable (p0 : Int) (p1 : List Cross) (Q : Bool → Prop) : Prop :=
  m_laws_szCrossS p1 1048576 (fun r7 => ((r7 < 0) → Q true) ∧ (¬ (r7 < 0) → m_laws_toCrossS p1 (fun r18 => m_spec_TwistTable p0 r18 (fun r28 => m_laws_toCrossS p1 (fun r43 => m_impl_TwistTable p0 r43 (fun r54 => m_laws_eqIntSS r54 r28 (fun r70 => ((¬ (r70 = true)) → Q false) ∧ (¬ (¬ (r70 = true)) → m_laws_toCrossS p1 (fun r80 => m_laws_eqCrossS r43 r80 (fun r90 => ((¬ (r90 = true)) → Q false) ∧ (¬ (¬ (r90 = true)) → m_laws_markCrossS r43 1 (fun r101 x102 => ∃ r109 : Bool, (¬ (r101 < 0) → m_laws_eqIntSS r54 r28 (fun z => z = r109)) ∧ ((((r101 < 0) ∨ (¬ (r109 = true)))) → Q false) ∧ (¬ (((r101 < 0) ∨ (¬ (r109 = true)))) → m_laws_markIntSS r54 1 (fun r125 x126 => m_laws_heldIntSS x126 1 (fun r135 => ((r135 < 0) → Q false) ∧ (¬ (r135 < 0) → ((r135 ≠ r125) → Q false) ∧ (¬ (r135 ≠ r125) → m_laws_toCrossS p1 (fun r150 => m_impl_TwistTable p0 r150 (fun r160 => m_laws_eqIntSS r160 r28 (fun r176 => ((¬ (r176 = true)) → Q false) ∧ (¬ (¬ (r176 = true)) → m_laws_heldIntSS x126 1 (fun r186 => ((r186 < 0) → Q false) ∧ (¬ (r186 < 0) → ((r186 ≠ r125) → Q false) ∧ (¬ (r186 ≠ r125) → Q true))))))))))))))))))))))))

abbrev m_spec_OrderAfter_K0 (Q : (List Int) → Prop) (x88 : List Int) : Prop :=
  Q x88
def m_spec_OrderAfter (p0 : Int) (p1 : List Cross) (Q : (List Int) → Prop) : Prop :=
  m_spec_CrossesOk p0 p1 (fun r7 => ((¬ (r7 = true)) → Q ([])) ∧ (¬ (¬ (r7 = true)) → m_spec_l08Start p0 (fun r22 => LoopW2 r22 0 (fun x94 v98 next106 => ((v98 < (p1.length : Int)) → ix v98 p1.length ∧ m_spec_SwapAt x94 (p1[(Int.toNat v98)]!.1) (fun r115 r120 => ok64 (v98 + 1) ∧ next106 r115 (v98 + 1))) ∧ (¬ (v98 < (p1.length : Int)) → (m_spec_OrderAfter_K0 Q) x94)))))

abbrev m_spec_CountInversions_K0 (v316 : Int) (next324 : Int → Int → Prop) (v328 : Int) : Prop :=
  ok64 (v316 + 1) ∧ next324 v328 (v316 + 1)
abbrev m_spec_CountInversions_K1 (Q : Int → Prop) (v312 : Int) : Prop :=
  Q v312
def m_spec_CountInversions (p0 : List Int) (Q : Int → Prop) : Prop :=
  m_spec_OrderOk p0 (fun r7 => ((¬ (r7 = true)) → Q (-1)) ∧ (¬ (¬ (r7 = true)) → LoopW2 0 0 (fun v315 v316 next324 => ((v316 < (p0.length : Int)) → LoopW2 v315 0 (fun v331 v332 next340 => ((v332 < v316) → ix v332 p0.length ∧ ix v316 p0.length ∧ ((p0[(Int.toNat v332)]! > p0[(Int.toNat v316)]!) → ok64 (v331 + 1) ∧ ok64 (v332 + 1) ∧ next340 (v331 + 1) (v332 + 1)) ∧ (¬ (p0[(Int.toNat v332)]! > p0[(Int.toNat v316)]!) → ok64 (v332 + 1) ∧ next340 v331 (v332 + 1))) ∧ (¬ (v332 < v316) → (m_spec_CountInversions_K0 v316 next324) v331))) ∧ (¬ (v316 < (p0.length : Int)) → (m_spec_CountInversions_K1 Q) v315))))

abbrev m_spec_WoundPairs_K0 (v342 : Int) (next354 : List (List Int) → Int → Prop) (x358 : List (List Int)) : Prop :=
  ok64 (v342 + 1) ∧ next354 x358 (v342 + 1)
abbrev m_spec_WoundPairs_K1 (Q : (List (List Int)) → Prop) (x328 : List (List Int)) : Prop :=
  Q x328
def m_spec_WoundPairs (p0 : Int) (p1 : List Cross) (Q : (List (List Int)) → Prop) : Prop :=
  m_spec_TwistTable p0 p1 (fun r17 => LoopW2 ([]) 0 (fun x336 v342 next354 => ((v342 < (r17.length : Int)) → ok64 (v342 + 1) ∧ LoopW2 x336 (v342 + 1) (fun x367 v373 next381 => ((v373 < (r17.length : Int)) → ix v342 r17.length ∧ ix v373 ((r17[(Int.toNat v342)]!).length) ∧ (((r17[(Int.toNat v342)]!)[(Int.toNat v373)]! ≠ 0) → x367.length + 1 ≤ 1099511627776 ∧ ok64 (v373 + 1) ∧ next381 (x367 ++ ([[v342, v373]])) (v373 + 1)) ∧ (¬ ((r17[(Int.toNat v342)]!)[(Int.toNat v373)]! ≠ 0) → ok64 (v373 + 1) ∧ next381 x367 (v373 + 1))) ∧ (¬ (v373 < (r17.length : Int)) → (m_spec_WoundPairs_K0 v342 next354) x367))) ∧ (¬ (v342 < (r17.length : Int)) → (m_spec_WoundPairs_K1 Q) x336)))

def m_spec_IsUntwisted (p0 : Int) (p1 : List Cross) (Q : Bool → Prop) : Prop :=
  m_spec_CrossesOk p0 p1 (fun r6 => ((r6 = true) → m_spec_OrderAfter p0 p1 (fun r13 => m_spec_CountInversions r13 (fun r23 => ((r23 = 0) → m_spec_WoundPairs p0 p1 (fun r30 => Q (decide ((r30.length : Int) = 0)))) ∧ (¬ (r23 = 0) → Q false)))) ∧ (¬ (r6 = true) → Q false))

def m_impl_OrderAfter_1 (p0 : Cross) (p1 : Int) (p2 : Int) (Q : Prop) : Prop :=
  Q

abbrev m_impl_follow_OrderAfter_1_K0 (Q : (List Int) → Prop) (x449 : List Int) : Prop :=
  Q x449
def m_impl_follow_OrderAfter_1 (p0 : Int) (p1 : List Cross) (Q : (List Int) → Prop) : Prop :=
  m_impl_upTo p0 (fun r6 => LoopW2 r6 0 (fun x452 v453 next461 => ((v453 < (p1.length : Int)) → ix v453 p1.length ∧ ix (p1[(Int.toNat v453)]!.1) x452.length ∧ ok64 (p1[(Int.toNat v453)]!.1 + 1) ∧ ix (p1[(Int.toNat v453)]!.1 + 1) x452.length ∧ m_impl_OrderAfter_1 (p1[(Int.toNat v453)]!.1, p1[(Int.toNat v453)]!.2) (x452[(Int.toNat (p1[(Int.toNat v453)]!.1))]!) (x452[(Int.toNat (p1[(Int.toNat v453)]!.1 + 1))]!) (ok64 (p1[(Int.toNat v453)]!.1 + 1) ∧ ok64 (p1[(Int.toNat v453)]!.1 + 1) ∧ ix (p1[(Int.toNat v453)]!.1 + 1) x452.length ∧ ix (p1[(Int.toNat v453)]!.1) x452.length ∧ ix (p1[(Int.toNat v453)]!.1) x452.length ∧ ix (p1[(Int.toNat v453)]!.1 + 1) ((x452.set (Int.toNat (p1[(Int.toNat v453)]!.1)) (x452[(Int.toNat (p1[(Int.toNat v453)]!.1 + 1))]!)).length) ∧ ok64 (v453 + 1) ∧ next461 ((x452.set (Int.toNat (p1[(Int.toNat v453)]!.1)) (x452[(Int.toNat (p1[(Int.toNat v453)]!.1 + 1))]!)).set (Int.toNat (p1[(Int.toNat v453)]!.1 + 1)) (x452[(Int.toNat (p1[(Int.toNat v453)]!.1))]!)) (v453 + 1))) ∧ (¬ (v453 < (p1.length : Int)) → (m_impl_follow_OrderAfter_1_K0 Q) x452)))

def m_impl_OrderAfter (p0 : Int) (p1 : List Cross) (Q : (List Int) → Prop) : Prop :=
  m_impl_CrossesOk p0 p1 (fun r7 => ((¬ (r7 = true)) → Q ([])) ∧ (¬ (¬ (r7 = true)) → m_impl_follow_OrderAfter_1 p0 p1 (fun r18 => Q r18)))

abbrev m_impl_sameInts_K0 (Q : Bool → Prop) : Prop :=
  Q true
def m_impl_sameInts (p0 : List Int) (p1 : List Int) (Q : Bool → Prop) : Prop :=
  (((p0.length : Int) ≠ (p1.length : Int)) → Q false) ∧ (¬ ((p0.length : Int) ≠ (p1.length : Int)) → LoopW1 0 (fun v71 next79 => ((v71 < (p0.length : Int)) → ix v71 p0.length ∧ ix v71 p1.length ∧ ((p0[(Int.toNat v71)]! ≠ p1[(Int.toNat v71)]!) → Q false) ∧ (¬ (p0[(Int.toNat v71)]! ≠ p1[(Int.toNat v71)]!) → ok64 (v71 + 1) ∧ next79 (v71 + 1))) ∧ (¬ (v71 < (p0.length : Int)) → (m_impl_sameInts_K0 Q))))

def m_impl_isHome (p0 : Int) (p1 : List Cross) (Q : Bool → Prop) : Prop :=
  m_impl_OrderAfter p0 p1 (fun r6 => m_impl_upTo p0 (fun r16 => m_impl_sameInts r6 r16 (fun r26 => Q r26)))

abbrev m_impl_WoundPairs_K0 (v356 : Int) (next367 : List (List Int) → Int → Prop) (x371 : List (List Int)) : Prop :=
  ok64 (v356 + 1) ∧ next367 x371 (v356 + 1)
abbrev m_impl_WoundPairs_K1 (Q : (List (List Int)) → Prop) (x342 : List (List Int)) : Prop :=
  Q x342
def m_impl_WoundPairs (p0 : Int) (p1 : List Cross) (Q : (List (List Int)) → Prop) : Prop :=
  m_impl_CrossesOk p0 p1 (fun r7 => ((¬ (r7 = true)) → Q ([])) ∧ (¬ (¬ (r7 = true)) → m_impl_twists p0 p1 (fun r23 => LoopW2 ([]) 0 (fun x350 v356 next367 => ((v356 < p0) → ok64 (v356 + 1) ∧ LoopW2 x350 (v356 + 1) (fun x381 v387 next395 => ((v387 < p0) → ix v356 r23.length ∧ ix v387 ((r23[(Int.toNat v356)]!).length) ∧ (((r23[(Int.toNat v356)]!)[(Int.toNat v387)]! ≠ 0) → x381.length + 1 ≤ 1099511627776 ∧ ok64 (v387 + 1) ∧ next395 (x381 ++ ([[v356, v387]])) (v387 + 1)) ∧ (¬ ((r23[(Int.toNat v356)]!)[(Int.toNat v387)]! ≠ 0) → ok64 (v387 + 1) ∧ next395 x381 (v387 + 1))) ∧ (¬ (v387 < p0) → (m_impl_WoundPairs_K0 v356 next367) x381))) ∧ (¬ (v356 < p0) → (m_impl_WoundPairs_K1 Q) x350)))))

def m_impl_IsUntwisted (p0 : Int) (p1 : List Cross) (Q : Bool → Prop) : Prop :=
  m_impl_CrossesOk p0 p1 (fun r6 => ∃ r12 : Bool, (r6 = true → m_impl_isHome p0 p1 (fun z => z = r12)) ∧ ((((r6 = true) ∧ (r12 = true))) → m_impl_WoundPairs p0 p1 (fun r22 => Q (decide ((r22.length : Int) = 0)))) ∧ (¬ (((r6 = true) ∧ (r12 = true))) → Q false))

def m_laws_FnExactIsUntwisted (p0 : Int) (p1 : List Cross) (Q : Bool → Prop) : Prop :=
  m_laws_szCrossS p1 1048576 (fun r7 => ((r7 < 0) → Q true) ∧ (¬ (r7 < 0) → m_laws_toCrossS p1 (fun r18 => m_spec_IsUntwisted p0 r18 (fun r28 => m_laws_toCrossS p1 (fun r35 => m_impl_IsUntwisted p0 r35 (fun r46 => (((r46) ≠ (r28)) → Q false) ∧ (¬ ((r46) ≠ (r28)) → m_laws_toCrossS p1 (fun r58 => m_laws_eqCrossS r35 r58 (fun r68 => ((¬ (r68 = true)) → Q false) ∧ (¬ (¬ (r68 = true)) → Q true))))))))))

def m_laws_FnExactWoundPairs (p0 : Int) (p1 : List Cross) (Q : Bool → Prop) : Prop :=
  m_laws_szCrossS p1 1048576 (fun r7 => ((r7 < 0) → Q true) ∧ (¬ (r7 < 0) → m_laws_toCrossS p1 (fun r18 => m_spec_WoundPairs p0 r18 (fun r28 => m_laws_toCrossS p1 (fun r43 => m_impl_WoundPairs p0 r43 (fun r54 => m_laws_eqIntSS r54 r28 (fun r70 => ((¬ (r70 = true)) → Q false) ∧ (¬ (¬ (r70 = true)) → m_laws_toCrossS p1 (fun r80 => m_laws_eqCrossS r43 r80 (fun r90 => ((¬ (r90 = true)) → Q false) ∧ (¬ (¬ (r90 = true)) → m_laws_markCrossS r43 1 (fun r101 x102 => ∃ r109 : Bool, (¬ (r101 < 0) → m_laws_eqIntSS r54 r28 (fun z => z = r109)) ∧ ((((r101 < 0) ∨ (¬ (r109 = true)))) → Q false) ∧ (¬ (((r101 < 0) ∨ (¬ (r109 = true)))) → m_laws_markIntSS r54 1 (fun r125 x126 => m_laws_heldIntSS x126 1 (fun r135 => ((r135 < 0) → Q false) ∧ (¬ (r135 < 0) → ((r135 ≠ r125) → Q false) ∧ (¬ (r135 ≠ r125) → m_laws_toCrossS p1 (fun r150 => m_impl_WoundPairs p0 r150 (fun r160 => m_laws_eqIntSS r160 r28 (fun r176 => ((¬ (r176 = true)) → Q false) ∧ (¬ (¬ (r176 = true)) → m_laws_heldIntSS x126 1 (fun r186 => ((r186 < 0) → Q false) ∧ (¬ (r186 < 0) → ((r186 ≠ r125) → Q false) ∧ (¬ (r186 ≠ r125) → Q true))))))))))))))))))))))))

abbrev m_spec_SortingSwaps_K0 (x397 : List Int) (x401 : List Int) (next413 : List Int → List Int → Prop) (v424 : Int) : Prop :=
  m_spec_SwapAt x401 v424 (fun r497 r502 => x397.length + 1 ≤ 1099511627776 ∧ next413 (x397 ++ ([v424])) r497)
abbrev m_spec_SortingSwaps_K1 (Q : (List Int) → Prop) (x392 : List Int) : Prop :=
  Q x392
def m_spec_SortingSwaps (p0 : List Int) (Q : (List Int) → Prop) : Prop :=
  0 + p0.length ≤ 1099511627776 ∧ LoopW2 ([]) p0 (fun x397 x401 next413 => m_spec_CountInversions x401 (fun r419 => ((r419 > 0) → LoopW1 0 (fun v426 next434 => ix v426 x401.length ∧ ok64 (v426 + 1) ∧ ix (v426 + 1) x401.length ∧ ((x401[(Int.toNat v426)]! < x401[(Int.toNat (v426 + 1))]!) → ok64 (v426 + 1) ∧ next434 (v426 + 1)) ∧ (¬ (x401[(Int.toNat v426)]! < x401[(Int.toNat (v426 + 1))]!) → (m_spec_SortingSwaps_K0 x397 x401 next413) v426))) ∧ (¬ (r419 > 0) → (m_spec_SortingSwaps_K1 Q) x397)))

abbrev m_spec_BringHome_K0 (Q : (List Cross) → Bool → Prop) (x111 : List Cross) : Prop :=
  Q x111 true
def m_spec_BringHome (p0 : Int) (p1 : List Cross) (Q : (List Cross) → Bool → Prop) : Prop :=
  m_spec_CrossesOk p0 p1 (fun r14 => ((¬ (r14 = true)) → Q ([]) false) ∧ (¬ (¬ (r14 = true)) → m_spec_OrderAfter p0 p1 (fun r23 => m_spec_SortingSwaps r23 (fun r33 => LoopW2 ([]) 0 (fun x117 v121 next132 => ((v121 < (r33.length : Int)) → ix v121 r33.length ∧ x117.length + 1 ≤ 1099511627776 ∧ ok64 (v121 + 1) ∧ next132 (x117 ++ ([(r33[(Int.toNat v121)]!, true)])) (v121 + 1)) ∧ (¬ (v121 < (r33.length : Int)) → (m_spec_BringHome_K0 Q) x117))))))

abbrev m_impl_put_K0 (p0 : List Int) (v172 : Int) (next180 : List Int → Bool → Int → Prop) (x187 : List Int) (v191 : Bool) : Prop :=
  x187.length + 1 ≤ 1099511627776 ∧ ok64 (v172 + 1) ∧ next180 (x187 ++ ([p0[(Int.toNat v172)]!])) v191 (v172 + 1)
abbrev m_impl_put_K1 (p1 : Int) (Q : (List Int) → Prop) (x160 : List Int) (v164 : Bool) : Prop :=
  ((¬ (v164 = true)) → x160.length + 1 ≤ 1099511627776 ∧ Q (x160 ++ ([p1]))) ∧ (¬ (¬ (v164 = true)) → Q x160)
def m_impl_put (p0 : List Int) (p1 : Int) (Q : (List Int) → Prop) : Prop :=
  LoopW3 ([]) false 0 (fun x167 v171 v172 next180 => ((v172 < (p0.length : Int)) → ix v172 p0.length ∧ ((((¬ (v171 = true)) ∧ (p1 ≤ p0[(Int.toNat v172)]!))) → x167.length + 1 ≤ 1099511627776 ∧ (m_impl_put_K0 p0 v172 next180) (x167 ++ ([p1])) true) ∧ (¬ (((¬ (v171 = true)) ∧ (p1 ≤ p0[(Int.toNat v172)]!))) → (m_impl_put_K0 p0 v172 next180) x167 v171)) ∧ (¬ (v172 < (p0.length : Int)) → (m_impl_put_K1 p1 Q) x167 v171))

abbrev m_impl_sorted_K0 (Q : (List Int) → Prop) (x68 : List Int) : Prop :=
  Q x68
def m_impl_sorted (p0 : List Int) (Q : (List Int) → Prop) : Prop :=
  LoopW2 ([]) 0 (fun x74 v78 next86 => ((v78 < (p0.length : Int)) → ix v78 p0.length ∧ m_impl_put x74 (p0[(Int.toNat v78)]!) (fun r96 => ok64 (v78 + 1) ∧ next86 r96 (v78 + 1))) ∧ (¬ (v78 < (p0.length : Int)) → (m_impl_sorted_K0 Q) x74))

abbrev m_impl_allWithin_K0 (Q : Bool → Prop) : Prop :=
  Q true
def m_impl_allWithin (p0 : List Int) (p1 : Int) (p2 : Int) (Q : Bool → Prop) : Prop :=
  LoopW1 0 (fun v28 next36 => ((v28 < (p0.length : Int)) → ix v28 p0.length ∧ m_impl_within (p0[(Int.toNat v28)]!) p1 p2 (fun r47 => ((¬ (r47 = true)) → Q false) ∧ (¬ (¬ (r47 = true)) → ok64 (v28 + 1) ∧ next36 (v28 + 1)))) ∧ (¬ (v28 < (p0.length : Int)) → (m_impl_allWithin_K0 Q)))

abbrev m_impl_isStrict_K0 (p0 : List Int) (p1 : Int) (p2 : Int) (Q : Bool → Prop) : Prop :=
  m_impl_allWithin p0 p1 p2 (fun r200 => Q r200)
def m_impl_isStrict (p0 : List Int) (p1 : Int) (p2 : Int) (Q : Bool → Prop) : Prop :=
  LoopW1 0 (fun v98 next106 => ((v98 < (p0.length : Int)) → (v98 > 0 → ix v98 p0.length) ∧ (v98 > 0 → ok64 (v98 - 1)) ∧ (v98 > 0 → ix (v98 - 1) p0.length) ∧ ((((v98 > 0) ∧ (p0[(Int.toNat v98)]! ≤ p0[(Int.toNat (v98 - 1))]!))) → Q false) ∧ (¬ (((v98 > 0) ∧ (p0[(Int.toNat v98)]! ≤ p0[(Int.toNat (v98 - 1))]!))) → ok64 (v98 + 1) ∧ next106 (v98 + 1))) ∧ (¬ (v98 < (p0.length : Int)) → (m_impl_isStrict_K0 p0 p1 p2 Q)))

def m_impl_OrderOk (p0 : List Int) (Q : Bool → Prop) : Prop :=
  m_impl_within (p0.length : Int) 1 7 (fun r6 => ((r6 = true) → m_impl_sorted p0 (fun r13 => ok64 ((p0.length : Int) - 1) ∧ m_impl_isStrict r13 0 ((p0.length : Int) - 1) (fun r24 => Q r24))) ∧ (¬ (r6 = true) → Q false))

def m_impl_copyOf (p0 : List Int) (Q : (List Int) → Prop) : Prop :=
  0 + p0.length ≤ 1099511627776 ∧ Q p0

abbrev m_impl_SortingSwaps_K0 (Q : (List Int) → Prop) (x644 : List Int) : Prop :=
  Q x644
def m_impl_SortingSwaps (p0 : List Int) (Q : (List Int) → Prop) : Prop :=
  m_impl_OrderOk p0 (fun r7 => ((¬ (r7 = true)) → Q ([])) ∧ (¬ (¬ (r7 = true)) → m_impl_copyOf p0 (fun r18 => LoopW3 r18 ([]) true (fun x650 x651 v655 next664 => ((v655 = true) → LoopW4 x650 x651 false 0 (fun x670 x671 v675 v676 next684 => ok64 (v676 + 1) ∧ (((((v676 + 1) < (x670.length : Int)) ∧ (¬ (v675 = true)))) → ix v676 x670.length ∧ ok64 (v676 + 1) ∧ ix (v676 + 1) x670.length ∧ ((x670[(Int.toNat v676)]! > x670[(Int.toNat (v676 + 1))]!) → ok64 (v676 + 1) ∧ ok64 (v676 + 1) ∧ ix (v676 + 1) x670.length ∧ ix v676 x670.length ∧ ix v676 x670.length ∧ ix (v676 + 1) ((x670.set (Int.toNat v676) (x670[(Int.toNat (v676 + 1))]!)).length) ∧ x671.length + 1 ≤ 1099511627776 ∧ ok64 (v676 + 1) ∧ next684 ((x670.set (Int.toNat v676) (x670[(Int.toNat (v676 + 1))]!)).set (Int.toNat (v676 + 1)) (x670[(Int.toNat v676)]!)) (x671 ++ ([v676])) true (v676 + 1)) ∧ (¬ (x670[(Int.toNat v676)]! > x670[(Int.toNat (v676 + 1))]!) → ok64 (v676 + 1) ∧ next684 x670 x671 v675 (v676 + 1))) ∧ (¬ ((((v676 + 1) < (x670.length : Int)) ∧ (¬ (v675 = true)))) → next664 x670 x671 v675))) ∧ (¬ (v655 = true) → (m_impl_SortingSwaps_K0 Q) x651)))))

abbrev m_impl_BringHome_K0 (Q : (List Cross) → Bool → Prop) (x114 : List Cross) : Prop :=
  Q x114 true
def m_impl_BringHome (p0 : Int) (p1 : List Cross) (Q : (List Cross) → Bool → Prop) : Prop :=
  m_impl_CrossesOk p0 p1 (fun r7 => ((¬ (r7 = true)) → Q ([]) false) ∧ (¬ (¬ (r7 = true)) → m_impl_OrderAfter p0 p1 (fun r123 => m_impl_SortingSwaps r123 (fun r133 => LoopW2 ([]) 0 (fun x140 v144 next155 => ((v144 < (r133.length : Int)) → ix v144 r133.length ∧ x140.length + 1 ≤ 1099511627776 ∧ ok64 (v144 + 1) ∧ next155 (x140 ++ ([(r133[(Int.toNat v144)]!, true)])) (v144 + 1)) ∧ (¬ (v144 < (r133.length : Int)) → (m_impl_BringHome_K0 Q) x140))))))

abbrev m_laws_heldCrossS_K0 (Q : Int → Prop) (v58 : Int) : Prop :=
  Q v58
def m_laws_heldCrossS (p0 : List Cross) (p1 : Int) (Q : Int → Prop) : Prop :=
  LoopW2 p1 0 (fun v61 v62 next70 => ((v62 < (p0.length : Int)) → ix v62 p0.length ∧ ((p0[(Int.toNat v62)]!.1 ≠ v61) → Q (-1)) ∧ (¬ (p0[(Int.toNat v62)]!.1 ≠ v61) → ok64 (v61 + 1) ∧ ix v62 p0.length ∧ (((p0[(Int.toNat v62)]!.2) ≠ (decide ((Int.tmod (v61 + 1) 3) = 0))) → Q (-1)) ∧ (¬ ((p0[(Int.toNat v62)]!.2) ≠ (decide ((Int.tmod (v61 + 1) 3) = 0))) → ok64 ((v61 + 1) + 1) ∧ ok64 (v62 + 1) ∧ next70 ((v61 + 1) + 1) (v62 + 1)))) ∧ (¬ (v62 < (p0.length : Int)) → (m_laws_heldCrossS_K0 Q) v61))

def m_laws_FnExactBringHome (p0 : Int) (p1 : List Cross) (Q : Bool → Prop) : Prop :=
  m_laws_szCrossS p1 1048576 (fun r7 => ((r7 < 0) → Q true) ∧ (¬ (r7 < 0) → m_laws_toCrossS p1 (fun r18 => m_spec_BringHome p0 r18 (fun r28 r33 => m_laws_toCrossS p1 (fun r40 => m_impl_BringHome p0 r40 (fun r51 r56 => m_laws_eqCrossS r51 r28 (fun r64 => ((((¬ (r64 = true)) ∨ ((r56) ≠ (r33)))) → Q false) ∧ (¬ (((¬ (r64 = true)) ∨ ((r56) ≠ (r33)))) → m_laws_toCrossS p1 (fun r77 => m_laws_eqCrossS r40 r77 (fun r87 => ((¬ (r87 = true)) → Q false) ∧ (¬ (¬ (r87 = true)) → m_laws_markCrossS r40 1 (fun r98 x99 => ∃ r106 : Bool, (¬ (r98 < 0) → m_laws_eqCrossS r51 r28 (fun z => z = r106)) ∧ ((((((r98 < 0) ∨ (¬ (r106 = true)))) ∨ ((r56) ≠ (r33)))) → Q false) ∧ (¬ (((((r98 < 0) ∨ (¬ (r106 = true)))) ∨ ((r56) ≠ (r33)))) → m_laws_markCrossS r51 1 (fun r124 x125 => m_laws_heldCrossS x125 1 (fun r132 => ((r132 < 0) → Q false) ∧ (¬ (r132 < 0) → ((r132 ≠ r124) → Q false) ∧ (¬ (r132 ≠ r124) → m_laws_toCrossS p1 (fun r147 => m_impl_BringHome p0 r147 (fun r157 r162 => m_laws_eqCrossS r157 r28 (fun r170 => ((((¬ (r170 = true)) ∨ ((r162) ≠ (r33)))) → Q false) ∧ (¬ (((¬ (r170 = true)) ∨ ((r162) ≠ (r33)))) → m_laws_heldCrossS x125 1 (fun r183 => ((r183 < 0) → Q false) ∧ (¬ (r183 < 0) → ((r183 ≠ r124) → Q false) ∧ (¬ (r183 ≠ r124) → Q true))))))))))))))))))))))))

abbrev m_spec_FullTurn_K0 (Q : (List Cross) → Bool → Prop) (x234 : List Cross) : Prop :=
  Q x234 true
abbrev m_spec_FullTurn_K1 (p1 : Int) (p2 : Int) (p3 : Bool) (Q : (List Cross) → Bool → Prop) (x107 : List Cross) : Prop :=
  x107.length + 2 ≤ 1099511627776 ∧ ok64 (p1 + 1) ∧ LoopW2 (x107 ++ ([(p1, p3), (p1, p3)])) (p1 + 1) (fun x241 v245 next255 => ((v245 < p2) → x241.length + 1 ≤ 1099511627776 ∧ ok64 (v245 + 1) ∧ next255 (x241 ++ ([(v245, true)])) (v245 + 1)) ∧ (¬ (v245 < p2) → (m_spec_FullTurn_K0 Q) x241))
def m_spec_FullTurn (p0 : Int) (p1 : Int) (p2 : Int) (p3 : Bool) (Q : (List Cross) → Bool → Prop) : Prop :=
  m_spec_l01In p0 2 7 (fun r14 => (¬ (¬ (r14 = true)) → ok64 (p0 - 1)) ∧ ∃ r22 : Bool, (¬ (¬ (r14 = true)) → m_spec_l01In p2 1 (p0 - 1) (fun z => z = r22)) ∧ (¬ (((¬ (r14 = true)) ∨ (¬ (r22 = true)))) → ok64 (p2 - 1)) ∧ ∃ r34 : Bool, (¬ (((¬ (r14 = true)) ∨ (¬ (r22 = true)))) → m_spec_l01In p1 0 (p2 - 1) (fun z => z = r34)) ∧ ((((((¬ (r14 = true)) ∨ (¬ (r22 = true)))) ∨ (¬ (r34 = true)))) → Q ([]) false) ∧ (¬ (((((¬ (r14 = true)) ∨ (¬ (r22 = true)))) ∨ (¬ (r34 = true)))) → ok64 (p2 - 1) ∧ LoopW2 ([]) (p2 - 1) (fun x114 v118 next126 => ((v118 > p1) → x114.length + 1 ≤ 1099511627776 ∧ ok64 (v118 - 1) ∧ next126 (x114 ++ ([(v118, false)])) (v118 - 1)) ∧ (¬ (v118 > p1) → (m_spec_FullTurn_K1 p1 p2 p3 Q) x114))))

abbrev m_spec_UnwindAll_K0 (v801 : Int) (next814 : List Cross → Int → Prop) (x818 : List Cross) : Prop :=
  ok64 (v801 + 1) ∧ next814 x818 (v801 + 1)
abbrev m_spec_UnwindAll_K1 (Q : (List Cross) → Bool → Prop) (x791 : List Cross) : Prop :=
  Q x791 true
def m_spec_UnwindAll (p0 : Int) (p1 : List Cross) (Q : (List Cross) → Bool → Prop) : Prop :=
  m_spec_CrossesOk p0 p1 (fun r14 => ((¬ (¬ (r14 = true))) → m_spec_OrderAfter p0 p1 (fun r21 => m_spec_CountInversions r21 (fun r31 => ((r31 ≠ 0) → Q ([]) false) ∧ (¬ (r31 ≠ 0) → m_spec_WoundPairs p0 p1 (fun r41 => LoopW2 ([]) 0 (fun x797 v801 next814 => ((v801 < (r41.length : Int)) → ix v801 r41.length ∧ ix 0 ((r41[(Int.toNat v801)]!).length) ∧ ix v801 r41.length ∧ ix 1 ((r41[(Int.toNat v801)]!).length) ∧ ∃ r892 : Int, m_spec_TwistOf p0 p1 ((r41[(Int.toNat v801)]!)[0]!) ((r41[(Int.toNat v801)]!)[1]!) (fun z => z = r892) ∧ ix v801 r41.length ∧ ix 0 ((r41[(Int.toNat v801)]!).length) ∧ ix v801 r41.length ∧ ix 1 ((r41[(Int.toNat v801)]!).length) ∧ m_spec_FullTurn p0 ((r41[(Int.toNat v801)]!)[0]!) ((r41[(Int.toNat v801)]!)[1]!) (decide (r892 < 0)) (fun r978 r983 => ok64 (-r892) ∧ ok64 (Int.tdiv (max r892 (-r892)) 2) ∧ LoopW2 x797 (Int.tdiv (max r892 (-r892)) 2) (fun x1013 v1017 next1028 => ((v1017 > 0) → x1013.length + r978.length ≤ 1099511627776 ∧ ok64 (v1017 - 1) ∧ next1028 (x1013 ++ r978) (v1017 - 1)) ∧ (¬ (v1017 > 0) → (m_spec_UnwindAll_K0 v801 next814) x1013)))) ∧ (¬ (v801 < (r41.length : Int)) → (m_spec_UnwindAll_K1 Q) x797))))))) ∧ (¬ (¬ (¬ (r14 = true))) → Q ([]) false))

abbrev m_impl_FullTurn_K0 (Q : (List Cross) → Bool → Prop) (x220 : List Cross) : Prop :=
  Q x220 true
abbrev m_impl_FullTurn_K1 (p1 : Int) (p2 : Int) (p3 : Bool) (Q : (List Cross) → Bool → Prop) (x93 : List Cross) : Prop :=
  x93.length + 2 ≤ 1099511627776 ∧ ok64 (p1 + 1) ∧ LoopW2 (x93 ++ ([(p1, p3), (p1, p3)])) (p1 + 1) (fun x227 v231 next241 => ((v231 < p2) → x227.length + 1 ≤ 1099511627776 ∧ ok64 (v231 + 1) ∧ next241 (x227 ++ ([(v231, true)])) (v231 + 1)) ∧ (¬ (v231 < p2) → (m_impl_FullTurn_K0 Q) x227))
def m_impl_FullTurn (p0 : Int) (p1 : Int) (p2 : Int) (p3 : Bool) (Q : (List Cross) → Bool → Prop) : Prop :=
  m_impl_within p0 2 7 (fun r7 => ((((((((¬ (r7 = true)) ∨ (p1 < 0))) ∨ (p1 ≥ p2))) ∨ (p2 ≥ p0))) → Q ([]) false) ∧ (¬ (((((((¬ (r7 = true)) ∨ (p1 < 0))) ∨ (p1 ≥ p2))) ∨ (p2 ≥ p0))) → ok64 (p2 - 1) ∧ LoopW2 ([]) (p2 - 1) (fun x100 v104 next112 => ((v104 > p1) → x100.length + 1 ≤ 1099511627776 ∧ ok64 (v104 - 1) ∧ next112 (x100 ++ ([(v104, false)])) (v104 - 1)) ∧ (¬ (v104 > p1) → (m_impl_FullTurn_K1 p1 p2 p3 Q) x100))))

abbrev m_impl_UnwindAll_K0 (v802 : Int) (next815 : List Cross → Int → Prop) (x819 : List Cross) : Prop :=
  ok64 (v802 + 1) ∧ next815 x819 (v802 + 1)
abbrev m_impl_UnwindAll_K1 (Q : (List Cross) → Bool → Prop) (x778 : List Cross) : Prop :=
  Q x778 true
def m_impl_UnwindAll (p0 : Int) (p1 : List Cross) (Q : (List Cross) → Bool → Prop) : Prop :=
  m_impl_CrossesOk p0 p1 (fun r7 => ∃ r13 : Bool, (¬ (¬ (r7 = true)) → m_impl_isHome p0 p1 (fun z => z = r13)) ∧ ((((¬ (r7 = true)) ∨ (¬ (r13 = true)))) → Q ([]) false) ∧ (¬ (((¬ (r7 = true)) ∨ (¬ (r13 = true)))) → m_impl_twists p0 p1 (fun r28 => m_impl_WoundPairs p0 p1 (fun r787 => LoopW2 ([]) 0 (fun x798 v802 next815 => ((v802 < (r787.length : Int)) → ix v802 r787.length ∧ ix 0 ((r787[(Int.toNat v802)]!).length) ∧ ix ((r787[(Int.toNat v802)]!)[0]!) r28.length ∧ ix 1 ((r787[(Int.toNat v802)]!).length) ∧ ix ((r787[(Int.toNat v802)]!)[1]!) ((r28[(Int.toNat ((r787[(Int.toNat v802)]!)[0]!))]!).length) ∧ m_impl_size ((r28[(Int.toNat ((r787[(Int.toNat v802)]!)[0]!))]!)[(Int.toNat ((r787[(Int.toNat v802)]!)[1]!))]!) (fun r891 => ok64 (Int.tdiv r891 2) ∧ LoopW2 x798 0 (fun x895 v899 next907 => ((v899 < (Int.tdiv r891 2)) → ix 0 ((r787[(Int.toNat v802)]!).length) ∧ ix 1 ((r787[(Int.toNat v802)]!).length) ∧ m_impl_FullTurn p0 ((r787[(Int.toNat v802)]!)[0]!) ((r787[(Int.toNat v802)]!)[1]!) (decide ((r28[(Int.toNat ((r787[(Int.toNat v802)]!)[0]!))]!)[(Int.toNat ((r787[(Int.toNat v802)]!)[1]!))]! < 0)) (fun r962 r967 => x895.length + r962.length ≤ 1099511627776 ∧ ok64 (v899 + 1) ∧ next907 (x895 ++ r962) (v899 + 1))) ∧ (¬ (v899 < (Int.tdiv r891 2)) → (m_impl_UnwindAll_K0 v802 next815) x895)))) ∧ (¬ (v802 < (r787.length : Int)) → (m_impl_UnwindAll_K1 Q) x798))))))

def m_laws_FnExactUnwindAll (p0 : Int) (p1 : List Cross) (Q : Bool → Prop) : Prop :=
  m_laws_szCrossS p1 1048576 (fun r7 => ((r7 < 0) → Q true) ∧ (¬ (r7 < 0) → m_laws_toCrossS p1 (fun r18 => m_spec_UnwindAll p0 r18 (fun r28 r33 => m_laws_toCrossS p1 (fun r40 => m_impl_UnwindAll p0 r40 (fun r51 r56 => m_laws_eqCrossS r51 r28 (fun r64 => ((((¬ (r64 = true)) ∨ ((r56) ≠ (r33)))) → Q false) ∧ (¬ (((¬ (r64 = true)) ∨ ((r56) ≠ (r33)))) → m_laws_toCrossS p1 (fun r77 => m_laws_eqCrossS r40 r77 (fun r87 => ((¬ (r87 = true)) → Q false) ∧ (¬ (¬ (r87 = true)) → m_laws_markCrossS r40 1 (fun r98 x99 => ∃ r106 : Bool, (¬ (r98 < 0) → m_laws_eqCrossS r51 r28 (fun z => z = r106)) ∧ ((((((r98 < 0) ∨ (¬ (r106 = true)))) ∨ ((r56) ≠ (r33)))) → Q false) ∧ (¬ (((((r98 < 0) ∨ (¬ (r106 = true)))) ∨ ((r56) ≠ (r33)))) → m_laws_markCrossS r51 1 (fun r124 x125 => m_laws_heldCrossS x125 1 (fun r132 => ((r132 < 0) → Q false) ∧ (¬ (r132 < 0) → ((r132 ≠ r124) → Q false) ∧ (¬ (r132 ≠ r124) → m_laws_toCrossS p1 (fun r147 => m_impl_UnwindAll p0 r147 (fun r157 r162 => m_laws_eqCrossS r157 r28 (fun r170 => ((((¬ (r170 = true)) ∨ ((r162) ≠ (r33)))) → Q false) ∧ (¬ (((¬ (r170 = true)) ∨ ((r162) ≠ (r33)))) → m_laws_heldCrossS x125 1 (fun r183 => ((r183 < 0) → Q false) ∧ (¬ (r183 < 0) → ((r183 ≠ r124) → Q false) ∧ (¬ (r183 ≠ r124) → Q true))))))))))))))))))))))))

end Go.Proofs.Ytcgkcoogaieolaa
