/- Plain models of functions of the program, printed by a program (gen2.py): what each asks and what it hands on. No statement of the claim stands here. -/
import Derived.Test.YtcgkcoogaieolaaPure
namespace Go.Proofs.Ytcgkcoogaieolaa
def m_laws_big (p0 : List Byte) (Q : Bool → Prop) : Prop :=
  Q (decide ((p0.length : Int) > 1048576))

abbrev m_spec_l01New_raw_K0 (Q : Int → Int → Prop) (v40 : Int) : Prop :=
  Q 0 v40
def m_spec_l01New_raw (p0 : List Byte) (Q : Int → Int → Prop) : Prop :=
  ok64 (33061 + (p0.length : Int)) ∧ LoopW2 (33061 + (p0.length : Int)) 0 (fun v43 v44 next52 => ((((v44 < (p0.length : Int)) ∧ (v44 < 4000))) → ix v44 p0.length ∧ ok64 (v44 + 1) ∧ next52 (wand (wadd (wadd (wmul v43 131) ((p0[(Int.toNat v44)]!).val : Int)) 7) 1073741823) (v44 + 1)) ∧ (¬ (((v44 < (p0.length : Int)) ∧ (v44 < 4000))) → (m_spec_l01New_raw_K0 Q) v43))
def m_spec_l01New (p0 : List Byte) (Q : Prop) : Prop := p0.length ≤ 1099511627776 ∧ Q

def m_spec_l01Byte_raw (p0 : List Byte) (i0 : Int) (h0 : Int) (Q : Int → Int → Int → Prop) : Prop :=
  ((i0 < (p0.length : Int)) → ix i0 p0.length ∧ ok64 (i0 + 1) ∧ Q (wand (wadd (wand (wxor (sar (wadd (wmul h0 6364136223846793005) 1442695040888963407) 33) (sar (wadd (wmul h0 6364136223846793005) 1442695040888963407) 45)) 255) ((p0[(Int.toNat i0)]!).val : Int)) 255) (i0 + 1) (wadd (wmul h0 6364136223846793005) 1442695040888963407)) ∧ (¬ (i0 < (p0.length : Int)) → Q (wand (wxor (sar (wadd (wmul h0 6364136223846793005) 1442695040888963407) 33) (sar (wadd (wmul h0 6364136223846793005) 1442695040888963407) 45)) 255) i0 (wadd (wmul h0 6364136223846793005) 1442695040888963407))
def m_spec_l01Byte (Q : Int → Prop) : Prop := ∀ r : Int, 0 ≤ r → r ≤ 255 → Q r

def m_spec_l01Below (p1 : Int) (Q : Int → Prop) : Prop :=
  ((p1 ≤ 0) → Q 0) ∧ (¬ (p1 ≤ 0) → ((p1 ≤ 256) → m_spec_l01Byte (fun r14 => p1 ≠ 0 ∧ Q (Int.tmod r14 p1))) ∧ (¬ (p1 ≤ 256) → m_spec_l01Byte (fun r21 => m_spec_l01Byte (fun r27 => m_spec_l01Byte (fun r33 => m_spec_l01Byte (fun r39 => ok64 (r21 * 16777216) ∧ ok64 (r27 * 65536) ∧ ok64 ((r21 * 16777216) + (r27 * 65536)) ∧ ok64 (r33 * 256) ∧ ok64 (((r21 * 16777216) + (r27 * 65536)) + (r33 * 256)) ∧ ok64 ((((r21 * 16777216) + (r27 * 65536)) + (r33 * 256)) + r39) ∧ p1 ≠ 0 ∧ Q (Int.tmod ((((r21 * 16777216) + (r27 * 65536)) + (r33 * 256)) + r39) p1)))))))

def m_spec_l01Once (p1 : Int) (Q : Bool → Prop) : Prop :=
  m_spec_l01Below p1 (fun r7 => Q (decide (r7 = 0)))

abbrev m_spec_l08List_K0 (x551 : List Cross) (v555 : Int) (next563 : List Cross → Int → Prop) (v685 : Int) (v686 : Bool) : Prop :=
  x551.length + 1 ≤ 1099511627776 ∧ ok64 (v555 - 1) ∧ next563 (x551 ++ ([(v685, v686)])) (v555 - 1)
abbrev m_spec_l08List_K1 (r7 : Int) (Q : Int → (List Cross) → Prop) (x539 : List Cross) : Prop :=
  Q (2 + r7) x539
def m_spec_l08List (Q : Int → (List Cross) → Prop) : Prop :=
  m_spec_l01Below 4 (fun r7 => ok64 (2 + r7) ∧ m_spec_l01Below 10 (fun r549 => LoopW2 ([]) r549 (fun x551 v555 next563 => ((v555 > 0) → ok64 ((2 + r7) - 1) ∧ m_spec_l01Below ((2 + r7) - 1) (fun r573 => m_spec_l01Once 2 (fun r578 => (((x551.length : Int) > 0) → m_spec_l01Once 3 (fun r694 => ((r694 = true) → ok64 ((x551.length : Int) - 1) ∧ ix ((x551.length : Int) - 1) x551.length ∧ ok64 ((x551.length : Int) - 1) ∧ ix ((x551.length : Int) - 1) x551.length ∧ (m_spec_l08List_K0 x551 v555 next563) (x551[(Int.toNat ((x551.length : Int) - 1))]!.1) (!(x551[(Int.toNat ((x551.length : Int) - 1))]!.2))) ∧ (¬ (r694 = true) → (m_spec_l08List_K0 x551 v555 next563) r573 r578))) ∧ (¬ ((x551.length : Int) > 0) → (m_spec_l08List_K0 x551 v555 next563) r573 r578)))) ∧ (¬ (v555 > 0) → (m_spec_l08List_K1 r7 Q) x551))))

def m_spec_DrawCrosses (p0 : List Byte) (Q : Int → (List Cross) → Prop) : Prop :=
  m_spec_l01New p0 (m_spec_l08List (fun r13 r14 => Q r13 r14))

def m_impl_within (p0 : Int) (p1 : Int) (p2 : Int) (Q : Bool → Prop) : Prop :=
  Q ((decide (p0 ≥ p1)) && (decide (p0 ≤ p2)))

abbrev m_impl_CrossesOk_K0 (Q : Bool → Prop) : Prop :=
  Q true
def m_impl_CrossesOk (p0 : Int) (p1 : List Cross) (Q : Bool → Prop) : Prop :=
  m_impl_within p0 1 7 (fun r7 => ((((¬ (r7 = true)) ∨ ((p1.length : Int) > 40))) → Q false) ∧ (¬ (((¬ (r7 = true)) ∨ ((p1.length : Int) > 40))) → LoopW1 0 (fun v52 next60 => ((v52 < (p1.length : Int)) → ix v52 p1.length ∧ ok64 (p0 - 2) ∧ m_impl_within (p1[(Int.toNat v52)]!.1) 0 (p0 - 2) (fun r82 => ((¬ (r82 = true)) → Q false) ∧ (¬ (¬ (r82 = true)) → ok64 (v52 + 1) ∧ next60 (v52 + 1)))) ∧ (¬ (v52 < (p1.length : Int)) → (m_impl_CrossesOk_K0 Q)))))

abbrev m_impl_twists_1_K0 (p1 : Int) (p2 : Int) (q0 : List (List Int)) (Q : (List (List Int)) → Prop) (v16 : Int) : Prop :=
  ix p1 q0.length ∧ ix p2 ((q0[(Int.toNat p1)]!).length) ∧ ok64 ((q0[(Int.toNat p1)]!)[(Int.toNat p2)]! + v16) ∧ ix p2 ((q0[(Int.toNat p1)]!).length) ∧ ix p2 ((q0.set (Int.toNat p1) (q0[(Int.toNat p1)]!.set (Int.toNat p2) ((q0[(Int.toNat p1)]!)[(Int.toNat p2)]! + v16))).length) ∧ ix p1 (((q0.set (Int.toNat p1) (q0[(Int.toNat p1)]!.set (Int.toNat p2) ((q0[(Int.toNat p1)]!)[(Int.toNat p2)]! + v16)))[(Int.toNat p2)]!).length) ∧ ok64 (((q0.set (Int.toNat p1) (q0[(Int.toNat p1)]!.set (Int.toNat p2) ((q0[(Int.toNat p1)]!)[(Int.toNat p2)]! + v16)))[(Int.toNat p2)]!)[(Int.toNat p1)]! + v16) ∧ ix p1 (((q0.set (Int.toNat p1) (q0[(Int.toNat p1)]!.set (Int.toNat p2) ((q0[(Int.toNat p1)]!)[(Int.toNat p2)]! + v16)))[(Int.toNat p2)]!).length) ∧ Q ((q0.set (Int.toNat p1) (q0[(Int.toNat p1)]!.set (Int.toNat p2) ((q0[(Int.toNat p1)]!)[(Int.toNat p2)]! + v16))).set (Int.toNat p2) ((q0.set (Int.toNat p1) (q0[(Int.toNat p1)]!.set (Int.toNat p2) ((q0[(Int.toNat p1)]!)[(Int.toNat p2)]! + v16)))[(Int.toNat p2)]!.set (Int.toNat p1) (((q0.set (Int.toNat p1) (q0[(Int.toNat p1)]!.set (Int.toNat p2) ((q0[(Int.toNat p1)]!)[(Int.toNat p2)]! + v16)))[(Int.toNat p2)]!)[(Int.toNat p1)]! + v16)))
def m_impl_twists_1 (p0 : Cross) (p1 : Int) (p2 : Int) (q0 : List (List Int)) (Q : (List (List Int)) → Prop) : Prop :=
  ((p0.2 = true) → (m_impl_twists_1_K0 p1 p2 q0 Q) 1) ∧ (¬ (p0.2 = true) → (m_impl_twists_1_K0 p1 p2 q0 Q) (-1))

abbrev m_impl_upTo_K0 (Q : (List Int) → Prop) (x74 : List Int) : Prop :=
  Q x74
def m_impl_upTo (p0 : Int) (Q : (List Int) → Prop) : Prop :=
  LoopW2 ([]) 0 (fun x80 v84 next92 => ((v84 < p0) → x80.length + 1 ≤ 1099511627776 ∧ ok64 (v84 + 1) ∧ next92 (x80 ++ ([v84])) (v84 + 1)) ∧ (¬ (v84 < p0) → (m_impl_upTo_K0 Q) x80))

abbrev m_impl_follow_twists_1_K0 (Q : (List Int) → (List (List Int)) → Prop) (x487 : List Int) (x488 : List (List Int)) : Prop :=
  Q x487 x488
def m_impl_follow_twists_1 (p0 : Int) (p1 : List Cross) (p2_0 : List (List Int)) (Q : (List Int) → (List (List Int)) → Prop) : Prop :=
  m_impl_upTo p0 (fun r10 => LoopW3 r10 0 p2_0 (fun x496 v497 x498 next515 => ((v497 < (p1.length : Int)) → ix v497 p1.length ∧ ix (p1[(Int.toNat v497)]!.1) x496.length ∧ ok64 (p1[(Int.toNat v497)]!.1 + 1) ∧ ix (p1[(Int.toNat v497)]!.1 + 1) x496.length ∧ m_impl_twists_1 (p1[(Int.toNat v497)]!.1, p1[(Int.toNat v497)]!.2) (x496[(Int.toNat (p1[(Int.toNat v497)]!.1))]!) (x496[(Int.toNat (p1[(Int.toNat v497)]!.1 + 1))]!) x498 (fun x602 => ok64 (p1[(Int.toNat v497)]!.1 + 1) ∧ ok64 (p1[(Int.toNat v497)]!.1 + 1) ∧ ix (p1[(Int.toNat v497)]!.1 + 1) x496.length ∧ ix (p1[(Int.toNat v497)]!.1) x496.length ∧ ix (p1[(Int.toNat v497)]!.1) x496.length ∧ ix (p1[(Int.toNat v497)]!.1 + 1) ((x496.set (Int.toNat (p1[(Int.toNat v497)]!.1)) (x496[(Int.toNat (p1[(Int.toNat v497)]!.1 + 1))]!)).length) ∧ ok64 (v497 + 1) ∧ next515 ((x496.set (Int.toNat (p1[(Int.toNat v497)]!.1)) (x496[(Int.toNat (p1[(Int.toNat v497)]!.1 + 1))]!)).set (Int.toNat (p1[(Int.toNat v497)]!.1 + 1)) (x496[(Int.toNat (p1[(Int.toNat v497)]!.1))]!)) (v497 + 1) x602)) ∧ (¬ (v497 < (p1.length : Int)) → (m_impl_follow_twists_1_K0 Q) x496 x498)))

abbrev m_impl_twists_K0 (p0 : Int) (p1 : List Cross) (Q : (List (List Int)) → Prop) (x175 : List (List Int)) : Prop :=
  m_impl_follow_twists_1 p0 p1 x175 (fun r268 x273 => Q x273)
def m_impl_twists (p0 : Int) (p1 : List Cross) (Q : (List (List Int)) → Prop) : Prop :=
  (0 ≤ p0 ∧ p0 ≤ 1099511627776) ∧ LoopW2 0 (List.replicate (Int.toNat p0) ([] : List Int)) (fun v180 x181 next194 => ((v180 < ((List.replicate (Int.toNat p0) ([] : List Int)).length : Int)) → (0 ≤ p0 ∧ p0 ≤ 1099511627776) ∧ ix v180 x181.length ∧ ok64 (v180 + 1) ∧ next194 (v180 + 1) (x181.set (Int.toNat v180) (List.replicate (Int.toNat p0) (0 : Int)))) ∧ (¬ (v180 < ((List.replicate (Int.toNat p0) ([] : List Int)).length : Int)) → (m_impl_twists_K0 p0 p1 Q) x181))

def m_impl_TwistTable (p0 : Int) (p1 : List Cross) (Q : (List (List Int)) → Prop) : Prop :=
  m_impl_CrossesOk p0 p1 (fun r7 => ((¬ (r7 = true)) → Q ([])) ∧ (¬ (¬ (r7 = true)) → m_impl_twists p0 p1 (fun r23 => Q r23)))

def m_spec_l01In (p0 : Int) (p1 : Int) (p2 : Int) (Q : Bool → Prop) : Prop :=
  Q ((decide (p0 ≥ p1)) && (decide (p0 ≤ p2)))

abbrev m_spec_CrossesOk_K0 (Q : Bool → Prop) : Prop :=
  Q true
def m_spec_CrossesOk (p0 : Int) (p1 : List Cross) (Q : Bool → Prop) : Prop :=
  m_spec_l01In p0 1 7 (fun r7 => ((((¬ (r7 = true)) ∨ ((p1.length : Int) > 40))) → Q false) ∧ (¬ (((¬ (r7 = true)) ∨ ((p1.length : Int) > 40))) → LoopW1 0 (fun v41 next49 => ((v41 < (p1.length : Int)) → ix v41 p1.length ∧ ok64 (p0 - 2) ∧ m_spec_l01In (p1[(Int.toNat v41)]!.1) 0 (p0 - 2) (fun r60 => ((¬ (r60 = true)) → Q false) ∧ (¬ (¬ (r60 = true)) → ok64 (v41 + 1) ∧ next49 (v41 + 1)))) ∧ (¬ (v41 < (p1.length : Int)) → (m_spec_CrossesOk_K0 Q)))))

abbrev m_spec_l08Start_K0 (Q : (List Int) → Prop) (x72 : List Int) : Prop :=
  Q x72
def m_spec_l08Start (p0 : Int) (Q : (List Int) → Prop) : Prop :=
  LoopW2 ([]) 0 (fun x78 v82 next90 => ((v82 < p0) → x78.length + 1 ≤ 1099511627776 ∧ ok64 (v82 + 1) ∧ next90 (x78 ++ ([v82])) (v82 + 1)) ∧ (¬ (v82 < p0) → (m_spec_l08Start_K0 Q) x78))

abbrev m_spec_OrderOk_K0 (v158 : Int) (next166 : Int → Prop) : Prop :=
  ok64 (v158 + 1) ∧ next166 (v158 + 1)
abbrev m_spec_OrderOk_K1 (p0 : List Int) (Q : Bool → Prop) : Prop :=
  m_spec_l01In (p0.length : Int) 1 7 (fun r258 => Q r258)
def m_spec_OrderOk (p0 : List Int) (Q : Bool → Prop) : Prop :=
  LoopW1 0 (fun v158 next166 => ((v158 < (p0.length : Int)) → ix v158 p0.length ∧ ok64 ((p0.length : Int) - 1) ∧ m_spec_l01In (p0[(Int.toNat v158)]!) 0 ((p0.length : Int) - 1) (fun r178 => ((¬ (r178 = true)) → Q false) ∧ (¬ (¬ (r178 = true)) → LoopW1 0 (fun v184 next192 => ((v184 < v158) → ix v184 p0.length ∧ ix v158 p0.length ∧ ((p0[(Int.toNat v184)]! = p0[(Int.toNat v158)]!) → Q false) ∧ (¬ (p0[(Int.toNat v184)]! = p0[(Int.toNat v158)]!) → ok64 (v184 + 1) ∧ next192 (v184 + 1))) ∧ (¬ (v184 < v158) → (m_spec_OrderOk_K0 v158 next166)))))) ∧ (¬ (v158 < (p0.length : Int)) → (m_spec_OrderOk_K1 p0 Q)))

def m_spec_SwapAt (p0 : List Int) (p1 : Int) (Q : (List Int) → Bool → Prop) : Prop :=
  0 + p0.length ≤ 1099511627776 ∧ m_spec_OrderOk p0 (fun r21 => (¬ (¬ (r21 = true)) → ok64 ((p0.length : Int) - 2)) ∧ ∃ r30 : Bool, (¬ (¬ (r21 = true)) → m_spec_l01In p1 0 ((p0.length : Int) - 2) (fun z => z = r30)) ∧ ((((¬ (r21 = true)) ∨ (¬ (r30 = true)))) → Q p0 false) ∧ (¬ (((¬ (r21 = true)) ∨ (¬ (r30 = true)))) → ok64 (p1 + 1) ∧ ix (p1 + 1) p0.length ∧ ix p1 p0.length ∧ ok64 (p1 + 1) ∧ ix p1 p0.length ∧ ix (p1 + 1) ((p0.set (Int.toNat p1) (p0[(Int.toNat (p1 + 1))]!)).length) ∧ Q ((p0.set (Int.toNat p1) (p0[(Int.toNat (p1 + 1))]!)).set (Int.toNat (p1 + 1)) (p0[(Int.toNat p1)]!)) true))

abbrev m_spec_OrderAfter_K0 (Q : (List Int) → Prop) (x88 : List Int) : Prop :=
  Q x88
def m_spec_OrderAfter (p0 : Int) (p1 : List Cross) (Q : (List Int) → Prop) : Prop :=
  m_spec_CrossesOk p0 p1 (fun r7 => ((¬ (r7 = true)) → Q ([])) ∧ (¬ (¬ (r7 = true)) → m_spec_l08Start p0 (fun r22 => LoopW2 r22 0 (fun x94 v98 next106 => ((v98 < (p1.length : Int)) → ix v98 p1.length ∧ m_spec_SwapAt x94 (p1[(Int.toNat v98)]!.1) (fun r115 r120 => ok64 (v98 + 1) ∧ next106 r115 (v98 + 1))) ∧ (¬ (v98 < (p1.length : Int)) → (m_spec_OrderAfter_K0 Q) x94)))))

def m_impl_TwistOf (p0 : Int) (p1 : List Cross) (p2 : Int) (p3 : Int) (Q : Int → Prop) : Prop :=
  m_impl_CrossesOk p0 p1 (fun r7 => (¬ (¬ (r7 = true)) → ok64 (p0 - 1)) ∧ ∃ r15 : Bool, (¬ (¬ (r7 = true)) → m_impl_within p2 0 (p0 - 1) (fun z => z = r15)) ∧ (¬ (((¬ (r7 = true)) ∨ (¬ (r15 = true)))) → ok64 (p0 - 1)) ∧ ∃ r27 : Bool, (¬ (((¬ (r7 = true)) ∨ (¬ (r15 = true)))) → m_impl_within p3 0 (p0 - 1) (fun z => z = r27)) ∧ ((((((((¬ (r7 = true)) ∨ (¬ (r15 = true)))) ∨ (¬ (r27 = true)))) ∨ (p2 = p3))) → Q 0) ∧ (¬ (((((((¬ (r7 = true)) ∨ (¬ (r15 = true)))) ∨ (¬ (r27 = true)))) ∨ (p2 = p3))) → m_impl_twists p0 p1 (fun r43 => ix p2 r43.length ∧ ix p3 ((r43[(Int.toNat p2)]!).length) ∧ Q ((r43[(Int.toNat p2)]!)[(Int.toNat p3)]!))))

abbrev m_spec_PlaceOf_K0 (Q : Int → Prop) : Prop :=
  Q (-1)
def m_spec_PlaceOf (p0 : List Int) (p1 : Int) (Q : Int → Prop) : Prop :=
  LoopW1 0 (fun v29 next37 => ∃ r42 : Bool, (v29 < (p0.length : Int) → m_spec_OrderOk p0 (fun z => z = r42)) ∧ ((((v29 < (p0.length : Int)) ∧ (r42 = true))) → ix v29 p0.length ∧ ((p0[(Int.toNat v29)]! = p1) → Q v29) ∧ (¬ (p0[(Int.toNat v29)]! = p1) → ok64 (v29 + 1) ∧ next37 (v29 + 1))) ∧ (¬ (((v29 < (p0.length : Int)) ∧ (r42 = true))) → (m_spec_PlaceOf_K0 Q)))

def m_laws_btoi (p0 : Bool) (Q : Int → Prop) : Prop :=
  ((p0 = true) → Q 1) ∧ (¬ (p0 = true) → Q 0)

abbrev m_spec_UndoCrosses_K0 (Q : (List Cross) → Prop) (x221 : List Cross) : Prop :=
  Q x221
def m_spec_UndoCrosses (p0 : List Cross) (Q : (List Cross) → Prop) : Prop :=
  ok64 ((p0.length : Int) - 1) ∧ LoopW2 ([]) ((p0.length : Int) - 1) (fun x228 v232 next240 => ((v232 ≥ 0) → ix v232 p0.length ∧ ix v232 p0.length ∧ x228.length + 1 ≤ 1099511627776 ∧ ok64 (v232 - 1) ∧ next240 (x228 ++ ([(p0[(Int.toNat v232)]!.1, !(p0[(Int.toNat v232)]!.2))])) (v232 - 1)) ∧ (¬ (v232 ≥ 0) → (m_spec_UndoCrosses_K0 Q) x228))

abbrev m_spec_Reduced_K0 (Q : (List Cross) → Prop) (x406 : List Cross) : Prop :=
  Q x406
def m_spec_Reduced (p0 : Int) (p1 : List Cross) (Q : (List Cross) → Prop) : Prop :=
  LoopW2 ([]) 0 (fun x412 v416 next424 => ∃ r430 : Bool, (v416 < (p1.length : Int) → m_spec_CrossesOk p0 p1 (fun z => z = r430)) ∧ ((((v416 < (p1.length : Int)) ∧ (r430 = true))) → ((x412.length : Int) > 0 → ok64 ((x412.length : Int) - 1)) ∧ ((x412.length : Int) > 0 → ix ((x412.length : Int) - 1) x412.length) ∧ ((x412.length : Int) > 0 → ix v416 p1.length) ∧ ((((x412.length : Int) > 0) ∧ (x412[(Int.toNat ((x412.length : Int) - 1))]!.1 = p1[(Int.toNat v416)]!.1)) → ok64 ((x412.length : Int) - 1)) ∧ ((((x412.length : Int) > 0) ∧ (x412[(Int.toNat ((x412.length : Int) - 1))]!.1 = p1[(Int.toNat v416)]!.1)) → ix ((x412.length : Int) - 1) x412.length) ∧ ((((x412.length : Int) > 0) ∧ (x412[(Int.toNat ((x412.length : Int) - 1))]!.1 = p1[(Int.toNat v416)]!.1)) → ix v416 p1.length) ∧ (((((((x412.length : Int) > 0) ∧ (x412[(Int.toNat ((x412.length : Int) - 1))]!.1 = p1[(Int.toNat v416)]!.1))) ∧ ((x412[(Int.toNat ((x412.length : Int) - 1))]!.2) ≠ (p1[(Int.toNat v416)]!.2)))) → ok64 ((x412.length : Int) - 1) ∧ (0 ≤ ((x412.length : Int) - 1) ∧ ((x412.length : Int) - 1) ≤ (x412.length : Int)) ∧ ok64 (v416 + 1) ∧ next424 (x412.take (Int.toNat ((x412.length : Int) - 1))) (v416 + 1)) ∧ (¬ ((((((x412.length : Int) > 0) ∧ (x412[(Int.toNat ((x412.length : Int) - 1))]!.1 = p1[(Int.toNat v416)]!.1))) ∧ ((x412[(Int.toNat ((x412.length : Int) - 1))]!.2) ≠ (p1[(Int.toNat v416)]!.2)))) → ix v416 p1.length ∧ x412.length + 1 ≤ 1099511627776 ∧ ok64 (v416 + 1) ∧ next424 (x412 ++ ([p1[(Int.toNat v416)]!])) (v416 + 1))) ∧ (¬ (((v416 < (p1.length : Int)) ∧ (r430 = true))) → (m_spec_Reduced_K0 Q) x412))

abbrev m_impl_TotalTwist_K0 (Q : Int → Prop) (v77 : Int) : Prop :=
  Q v77
def m_impl_TotalTwist (p0 : Int) (p1 : List Cross) (Q : Int → Prop) : Prop :=
  m_impl_CrossesOk p0 p1 (fun r7 => ((¬ (r7 = true)) → Q 0) ∧ (¬ (¬ (r7 = true)) → LoopW2 0 0 (fun v80 v81 next89 => ((v81 < (p1.length : Int)) → ix v81 p1.length ∧ (((p1[(Int.toNat v81)]!.2) = true) → ok64 (v80 + 1) ∧ ok64 (v81 + 1) ∧ next89 (v80 + 1) (v81 + 1)) ∧ (¬ ((p1[(Int.toNat v81)]!.2) = true) → ok64 (v80 - 1) ∧ ok64 (v81 + 1) ∧ next89 (v80 - 1) (v81 + 1))) ∧ (¬ (v81 < (p1.length : Int)) → (m_impl_TotalTwist_K0 Q) v80))))

def m_impl_size (p0 : Int) (Q : Int → Prop) : Prop :=
  ok64 (-p0) ∧ Q (max p0 (-p0))

abbrev m_impl_LeastUndoing_K0 (v173 : Int) (next181 : Int → Int → Prop) (v185 : Int) : Prop :=
  ok64 (v173 + 1) ∧ next181 v185 (v173 + 1)
abbrev m_impl_LeastUndoing_K1 (Q : Int → Prop) (v169 : Int) : Prop :=
  Q v169
def m_impl_LeastUndoing (p0 : Int) (p1 : List Cross) (Q : Int → Prop) : Prop :=
  m_impl_CrossesOk p0 p1 (fun r7 => ((¬ (r7 = true)) → Q (-1)) ∧ (¬ (¬ (r7 = true)) → m_impl_twists p0 p1 (fun r16 => LoopW2 0 0 (fun v172 v173 next181 => ((v173 < p0) → ok64 (v173 + 1) ∧ LoopW2 v172 (v173 + 1) (fun v190 v191 next199 => ((v191 < p0) → ix v173 r16.length ∧ ix v191 ((r16[(Int.toNat v173)]!).length) ∧ m_impl_size ((r16[(Int.toNat v173)]!)[(Int.toNat v191)]!) (fun r209 => ok64 (v190 + r209) ∧ ok64 (v191 + 1) ∧ next199 (v190 + r209) (v191 + 1))) ∧ (¬ (v191 < p0) → (m_impl_LeastUndoing_K0 v173 next181) v190))) ∧ (¬ (v173 < p0) → (m_impl_LeastUndoing_K1 Q) v172)))))

abbrev m_impl_WoundPairs_K0 (v356 : Int) (next367 : List (List Int) → Int → Prop) (x371 : List (List Int)) : Prop :=
  ok64 (v356 + 1) ∧ next367 x371 (v356 + 1)
abbrev m_impl_WoundPairs_K1 (Q : (List (List Int)) → Prop) (x342 : List (List Int)) : Prop :=
  Q x342
def m_impl_WoundPairs (p0 : Int) (p1 : List Cross) (Q : (List (List Int)) → Prop) : Prop :=
  m_impl_CrossesOk p0 p1 (fun r7 => ((¬ (r7 = true)) → Q ([])) ∧ (¬ (¬ (r7 = true)) → m_impl_twists p0 p1 (fun r23 => LoopW2 ([]) 0 (fun x350 v356 next367 => ((v356 < p0) → ok64 (v356 + 1) ∧ LoopW2 x350 (v356 + 1) (fun x381 v387 next395 => ((v387 < p0) → ix v356 r23.length ∧ ix v387 ((r23[(Int.toNat v356)]!).length) ∧ (((r23[(Int.toNat v356)]!)[(Int.toNat v387)]! ≠ 0) → x381.length + 1 ≤ 1099511627776 ∧ ok64 (v387 + 1) ∧ next395 (x381 ++ ([[v356, v387]])) (v387 + 1)) ∧ (¬ ((r23[(Int.toNat v356)]!)[(Int.toNat v387)]! ≠ 0) → ok64 (v387 + 1) ∧ next395 x381 (v387 + 1))) ∧ (¬ (v387 < p0) → (m_impl_WoundPairs_K0 v356 next367) x381))) ∧ (¬ (v356 < p0) → (m_impl_WoundPairs_K1 Q) x350)))))

def m_impl_OrderAfter_1 (p0 : Cross) (p1 : Int) (p2 : Int) (Q : Prop) : Prop :=
  Q

abbrev m_impl_follow_OrderAfter_1_K0 (Q : (List Int) → Prop) (x449 : List Int) : Prop :=
  Q x449
def m_impl_follow_OrderAfter_1 (p0 : Int) (p1 : List Cross) (Q : (List Int) → Prop) : Prop :=
  m_impl_upTo p0 (fun r6 => LoopW2 r6 0 (fun x452 v453 next461 => ((v453 < (p1.length : Int)) → ix v453 p1.length ∧ ix (p1[(Int.toNat v453)]!.1) x452.length ∧ ok64 (p1[(Int.toNat v453)]!.1 + 1) ∧ ix (p1[(Int.toNat v453)]!.1 + 1) x452.length ∧ m_impl_OrderAfter_1 (p1[(Int.toNat v453)]!.1, p1[(Int.toNat v453)]!.2) (x452[(Int.toNat (p1[(Int.toNat v453)]!.1))]!) (x452[(Int.toNat (p1[(Int.toNat v453)]!.1 + 1))]!) (ok64 (p1[(Int.toNat v453)]!.1 + 1) ∧ ok64 (p1[(Int.toNat v453)]!.1 + 1) ∧ ix (p1[(Int.toNat v453)]!.1 + 1) x452.length ∧ ix (p1[(Int.toNat v453)]!.1) x452.length ∧ ix (p1[(Int.toNat v453)]!.1) x452.length ∧ ix (p1[(Int.toNat v453)]!.1 + 1) ((x452.set (Int.toNat (p1[(Int.toNat v453)]!.1)) (x452[(Int.toNat (p1[(Int.toNat v453)]!.1 + 1))]!)).length) ∧ ok64 (v453 + 1) ∧ next461 ((x452.set (Int.toNat (p1[(Int.toNat v453)]!.1)) (x452[(Int.toNat (p1[(Int.toNat v453)]!.1 + 1))]!)).set (Int.toNat (p1[(Int.toNat v453)]!.1 + 1)) (x452[(Int.toNat (p1[(Int.toNat v453)]!.1))]!)) (v453 + 1))) ∧ (¬ (v453 < (p1.length : Int)) → (m_impl_follow_OrderAfter_1_K0 Q) x452)))

def m_impl_OrderAfter (p0 : Int) (p1 : List Cross) (Q : (List Int) → Prop) : Prop :=
  m_impl_CrossesOk p0 p1 (fun r7 => ((¬ (r7 = true)) → Q ([])) ∧ (¬ (¬ (r7 = true)) → m_impl_follow_OrderAfter_1 p0 p1 (fun r18 => Q r18)))

abbrev m_impl_sameInts_K0 (Q : Bool → Prop) : Prop :=
  Q true
def m_impl_sameInts (p0 : List Int) (p1 : List Int) (Q : Bool → Prop) : Prop :=
  (((p0.length : Int) ≠ (p1.length : Int)) → Q false) ∧ (¬ ((p0.length : Int) ≠ (p1.length : Int)) → LoopW1 0 (fun v71 next79 => ((v71 < (p0.length : Int)) → ix v71 p0.length ∧ ix v71 p1.length ∧ ((p0[(Int.toNat v71)]! ≠ p1[(Int.toNat v71)]!) → Q false) ∧ (¬ (p0[(Int.toNat v71)]! ≠ p1[(Int.toNat v71)]!) → ok64 (v71 + 1) ∧ next79 (v71 + 1))) ∧ (¬ (v71 < (p0.length : Int)) → (m_impl_sameInts_K0 Q))))

def m_impl_isHome (p0 : Int) (p1 : List Cross) (Q : Bool → Prop) : Prop :=
  m_impl_OrderAfter p0 p1 (fun r6 => m_impl_upTo p0 (fun r16 => m_impl_sameInts r6 r16 (fun r26 => Q r26)))

def m_impl_IsUntwisted (p0 : Int) (p1 : List Cross) (Q : Bool → Prop) : Prop :=
  m_impl_CrossesOk p0 p1 (fun r6 => ∃ r12 : Bool, (r6 = true → m_impl_isHome p0 p1 (fun z => z = r12)) ∧ ((((r6 = true) ∧ (r12 = true))) → m_impl_WoundPairs p0 p1 (fun r22 => Q (decide ((r22.length : Int) = 0)))) ∧ (¬ (((r6 = true) ∧ (r12 = true))) → Q false))

abbrev m_spec_CountInversions_K0 (v316 : Int) (next324 : Int → Int → Prop) (v328 : Int) : Prop :=
  ok64 (v316 + 1) ∧ next324 v328 (v316 + 1)
abbrev m_spec_CountInversions_K1 (Q : Int → Prop) (v312 : Int) : Prop :=
  Q v312
def m_spec_CountInversions (p0 : List Int) (Q : Int → Prop) : Prop :=
  m_spec_OrderOk p0 (fun r7 => ((¬ (r7 = true)) → Q (-1)) ∧ (¬ (¬ (r7 = true)) → LoopW2 0 0 (fun v315 v316 next324 => ((v316 < (p0.length : Int)) → LoopW2 v315 0 (fun v331 v332 next340 => ((v332 < v316) → ix v332 p0.length ∧ ix v316 p0.length ∧ ((p0[(Int.toNat v332)]! > p0[(Int.toNat v316)]!) → ok64 (v331 + 1) ∧ ok64 (v332 + 1) ∧ next340 (v331 + 1) (v332 + 1)) ∧ (¬ (p0[(Int.toNat v332)]! > p0[(Int.toNat v316)]!) → ok64 (v332 + 1) ∧ next340 v331 (v332 + 1))) ∧ (¬ (v332 < v316) → (m_spec_CountInversions_K0 v316 next324) v331))) ∧ (¬ (v316 < (p0.length : Int)) → (m_spec_CountInversions_K1 Q) v315))))

abbrev m_laws_FnTwists_K0 (v1860 : Int) (next1871 : Int → Int → Int → Int → Prop) (v1875 : Int) (v1876 : Int) (v1877 : Int) : Prop :=
  ok64 (v1860 + 1) ∧ next1871 v1875 v1876 v1877 (v1860 + 1)
abbrev m_laws_FnTwists_K1 (r16 : Int) (r17 : List Cross) (r43 : List Int) (Q : Bool → Prop) (v1852 : Int) (v1853 : Int) (v1854 : Int) : Prop :=
  0 + r17.length ≤ 1099511627776 ∧ m_spec_UndoCrosses r17 (fun r2348 => r17.length + r2348.length ≤ 1099511627776 ∧ m_spec_Reduced r16 r17 (fun r2367 => m_impl_TotalTwist r16 r17 (fun r2378 => ∃ r2385 : Int, (v1852 = r2378 → m_impl_LeastUndoing r16 r17 (fun z => z = r2385)) ∧ ((((((v1852 = r2378) ∧ (v1853 = r2385))) ∧ (v1853 ≤ (r2367.length : Int)))) → m_impl_WoundPairs r16 r17 (fun r2400 => ∃ r2414 : Bool, ((r2400.length : Int) = v1854 → m_impl_IsUntwisted r16 (r17 ++ r2348) (fun z => z = r2414)) ∧ ∃ r2423 : Bool, ((((r2400.length : Int) = v1854) ∧ (r2414 = true)) → m_impl_IsUntwisted r16 r17 (fun z => z = r2423)) ∧ ∃ r2434 : Int, (((((r2400.length : Int) = v1854) ∧ (r2414 = true))) ∧ (v1854 = 0) → m_spec_CountInversions r43 (fun z => z = r2434)) ∧ ∃ r2446 : Int, ((((((r2400.length : Int) = v1854) ∧ (r2414 = true))) ∧ ((r2423) = (((decide (v1854 = 0)) && (decide (r2434 = 0)))))) → m_impl_TotalTwist r16 r2367 (fun z => z = r2446)) ∧ Q ((((decide ((r2400.length : Int) = v1854)) && r2414) && (decide ((r2423) = (((decide (v1854 = 0)) && (decide (r2434 = 0))))))) && (decide (r2446 = v1852))))) ∧ (¬ (((((v1852 = r2378) ∧ (v1853 = r2385))) ∧ (v1853 ≤ (r2367.length : Int)))) → Q false))))
def m_laws_FnTwists (p0 : List Byte) (Q : Bool → Prop) : Prop :=
  m_laws_big p0 (fun r7 => ((r7 = true) → Q true) ∧ (¬ (r7 = true) → m_spec_DrawCrosses p0 (fun r16 r17 => m_impl_TwistTable r16 r17 (fun r28 => m_spec_OrderAfter r16 r17 (fun r43 => (((r28.length : Int) ≠ r16) → Q false) ∧ (¬ ((r28.length : Int) ≠ r16) → LoopW4 0 0 0 0 (fun v1857 v1858 v1859 v1860 next1871 => ((v1860 < r16) → ix v1860 r28.length ∧ (¬ (((r28[(Int.toNat v1860)]!).length : Int) ≠ r16) → ix v1860 r28.length) ∧ (¬ (((r28[(Int.toNat v1860)]!).length : Int) ≠ r16) → ix v1860 ((r28[(Int.toNat v1860)]!).length)) ∧ ((((((r28[(Int.toNat v1860)]!).length : Int) ≠ r16) ∨ ((r28[(Int.toNat v1860)]!)[(Int.toNat v1860)]! ≠ 0))) → Q false) ∧ (¬ (((((r28[(Int.toNat v1860)]!).length : Int) ≠ r16) ∨ ((r28[(Int.toNat v1860)]!)[(Int.toNat v1860)]! ≠ 0))) → LoopW4 v1857 v1858 v1859 0 (fun v1895 v1896 v1897 v1898 next1906 => ((v1898 < v1860) → ix v1898 r28.length ∧ (¬ (((r28[(Int.toNat v1898)]!).length : Int) ≠ r16) → ix v1860 r28.length) ∧ (¬ (((r28[(Int.toNat v1898)]!).length : Int) ≠ r16) → ix v1898 ((r28[(Int.toNat v1860)]!).length)) ∧ (¬ (((r28[(Int.toNat v1898)]!).length : Int) ≠ r16) → ix v1898 r28.length) ∧ (¬ (((r28[(Int.toNat v1898)]!).length : Int) ≠ r16) → ix v1860 ((r28[(Int.toNat v1898)]!).length)) ∧ (¬ (((((r28[(Int.toNat v1898)]!).length : Int) ≠ r16) ∨ ((r28[(Int.toNat v1860)]!)[(Int.toNat v1898)]! ≠ (r28[(Int.toNat v1898)]!)[(Int.toNat v1860)]!))) → ix v1860 r28.length) ∧ (¬ (((((r28[(Int.toNat v1898)]!).length : Int) ≠ r16) ∨ ((r28[(Int.toNat v1860)]!)[(Int.toNat v1898)]! ≠ (r28[(Int.toNat v1898)]!)[(Int.toNat v1860)]!))) → ix v1898 ((r28[(Int.toNat v1860)]!).length)) ∧ ∃ r2099 : Int, (¬ (((((r28[(Int.toNat v1898)]!).length : Int) ≠ r16) ∨ ((r28[(Int.toNat v1860)]!)[(Int.toNat v1898)]! ≠ (r28[(Int.toNat v1898)]!)[(Int.toNat v1860)]!))) → m_impl_TwistOf r16 r17 v1860 v1898 (fun z => z = r2099)) ∧ (¬ (((((((r28[(Int.toNat v1898)]!).length : Int) ≠ r16) ∨ ((r28[(Int.toNat v1860)]!)[(Int.toNat v1898)]! ≠ (r28[(Int.toNat v1898)]!)[(Int.toNat v1860)]!))) ∨ ((r28[(Int.toNat v1860)]!)[(Int.toNat v1898)]! ≠ r2099))) → ix v1860 r28.length) ∧ (¬ (((((((r28[(Int.toNat v1898)]!).length : Int) ≠ r16) ∨ ((r28[(Int.toNat v1860)]!)[(Int.toNat v1898)]! ≠ (r28[(Int.toNat v1898)]!)[(Int.toNat v1860)]!))) ∨ ((r28[(Int.toNat v1860)]!)[(Int.toNat v1898)]! ≠ r2099))) → ix v1898 ((r28[(Int.toNat v1860)]!).length)) ∧ ∃ r2176 : Int, (¬ (((((((r28[(Int.toNat v1898)]!).length : Int) ≠ r16) ∨ ((r28[(Int.toNat v1860)]!)[(Int.toNat v1898)]! ≠ (r28[(Int.toNat v1898)]!)[(Int.toNat v1860)]!))) ∨ ((r28[(Int.toNat v1860)]!)[(Int.toNat v1898)]! ≠ r2099))) → m_spec_PlaceOf r43 v1898 (fun z => z = r2176)) ∧ ∃ r2193 : Int, (¬ (((((((r28[(Int.toNat v1898)]!).length : Int) ≠ r16) ∨ ((r28[(Int.toNat v1860)]!)[(Int.toNat v1898)]! ≠ (r28[(Int.toNat v1898)]!)[(Int.toNat v1860)]!))) ∨ ((r28[(Int.toNat v1860)]!)[(Int.toNat v1898)]! ≠ r2099))) → m_spec_PlaceOf r43 v1860 (fun z => z = r2193)) ∧ ((((((((((r28[(Int.toNat v1898)]!).length : Int) ≠ r16) ∨ ((r28[(Int.toNat v1860)]!)[(Int.toNat v1898)]! ≠ (r28[(Int.toNat v1898)]!)[(Int.toNat v1860)]!))) ∨ ((r28[(Int.toNat v1860)]!)[(Int.toNat v1898)]! ≠ r2099))) ∨ ((decide ((Int.tmod ((r28[(Int.toNat v1860)]!)[(Int.toNat v1898)]!) 2) = 0)) ≠ (decide (r2176 < r2193))))) → Q false) ∧ (¬ (((((((((r28[(Int.toNat v1898)]!).length : Int) ≠ r16) ∨ ((r28[(Int.toNat v1860)]!)[(Int.toNat v1898)]! ≠ (r28[(Int.toNat v1898)]!)[(Int.toNat v1860)]!))) ∨ ((r28[(Int.toNat v1860)]!)[(Int.toNat v1898)]! ≠ r2099))) ∨ ((decide ((Int.tmod ((r28[(Int.toNat v1860)]!)[(Int.toNat v1898)]!) 2) = 0)) ≠ (decide (r2176 < r2193))))) → ix v1860 r28.length ∧ ix v1898 ((r28[(Int.toNat v1860)]!).length) ∧ ok64 (v1895 + (r28[(Int.toNat v1860)]!)[(Int.toNat v1898)]!) ∧ ix v1860 r28.length ∧ ix v1898 ((r28[(Int.toNat v1860)]!).length) ∧ ix v1860 r28.length ∧ ix v1898 ((r28[(Int.toNat v1860)]!).length) ∧ ok64 (-((r28[(Int.toNat v1860)]!)[(Int.toNat v1898)]!)) ∧ ok64 (v1896 + (max ((r28[(Int.toNat v1860)]!)[(Int.toNat v1898)]!) (-((r28[(Int.toNat v1860)]!)[(Int.toNat v1898)]!)))) ∧ ix v1860 r28.length ∧ ix v1898 ((r28[(Int.toNat v1860)]!).length) ∧ m_laws_btoi (decide ((r28[(Int.toNat v1860)]!)[(Int.toNat v1898)]! ≠ 0)) (fun r2315 => ok64 (v1897 + r2315) ∧ ok64 (v1898 + 1) ∧ next1906 (v1895 + (r28[(Int.toNat v1860)]!)[(Int.toNat v1898)]!) (v1896 + (max ((r28[(Int.toNat v1860)]!)[(Int.toNat v1898)]!) (-((r28[(Int.toNat v1860)]!)[(Int.toNat v1898)]!)))) (v1897 + r2315) (v1898 + 1)))) ∧ (¬ (v1898 < v1860) → (m_laws_FnTwists_K0 v1860 next1871) v1895 v1896 v1897)))) ∧ (¬ (v1860 < r16) → (m_laws_FnTwists_K1 r16 r17 r43 Q) v1857 v1858 v1859))))))))

end Go.Proofs.Ytcgkcoogaieolaa
