/- Plain models of functions of the program, printed by a program (gen2.py): what each asks and what it hands on. No statement of the claim stands here. -/
import Derived.Test.YtcgkcoogaieolaaPure
namespace Go.Proofs.Ytcgkcoogaieolaa
def m_laws_big (p0 : List Byte) (Q : Bool → Prop) : Prop :=
  Q (decide ((p0.length : Int) > 1048576))

abbrev m_spec_l01New_raw_K0 (Q : Int → Int → Prop) (v40 : Int) : Prop :=
  Q 0 v40
def m_spec_l01New_raw (p0 : List Byte) (Q : Int → Int → Prop) : Prop :=
  ok64 (33061 + (p0.length : Int)) ∧ LoopW2 (33061 + (p0.length : Int)) 0 (fun v43 v44 next52 => ((((v44 < (p0.length : Int)) ∧ (v44 < 4000))) → ix v44 p0.length ∧ ok64 (v44 + 1) ∧ next52 (wand (wadd (wadd (wmul v43 131) ((p0[(Int.toNat v44)]!).val : Int)) 7) 1073741823) (v44 + 1)) ∧ (¬ (((v44 < (p0.length : Int)) ∧ (v44 < 4000))) → (m_spec_l01New_raw_K0 Q) v43))
def m_spec_l01New (p0 : List Byte) (Q : Prop) : Prop := p0.length ≤ 1099511627776 ∧ Q

def m_spec_l01Byte_raw (p0 : List Byte) (i0 : Int) (h0 : Int) (Q : Int → Int → Int → Prop) : Prop :=
  ((i0 < (p0.length : Int)) → ix i0 p0.length ∧ ok64 (i0 + 1) ∧ Q (wand (wadd (wand (wxor (sar (wadd (wmul h0 6364136223846793005) 1442695040888963407) 33) (sar (wadd (wmul h0 6364136223846793005) 1442695040888963407) 45)) 255) ((p0[(Int.toNat i0)]!).val : Int)) 255) (i0 + 1) (wadd (wmul h0 6364136223846793005) 1442695040888963407)) ∧ (¬ (i0 < (p0.length : Int)) → Q (wand (wxor (sar (wadd (wmul h0 6364136223846793005) 1442695040888963407) 33) (sar (wadd (wmul h0 6364136223846793005) 1442695040888963407) 45)) 255) i0 (wadd (wmul h0 6364136223846793005) 1442695040888963407))
def m_spec_l01Byte (Q : Int → Prop) : Prop := ∀ r : Int, 0 ≤ r → r ≤ 255 → Q r

def m_spec_l01Below (p1 : Int) (Q : Int → Prop) : Prop :=
  ((p1 ≤ 0) → Q 0) ∧ (¬ (p1 ≤ 0) → ((p1 ≤ 256) → m_spec_l01Byte (fun r14 => p1 ≠ 0 ∧ Q (Int.tmod r14 p1))) ∧ (¬ (p1 ≤ 256) → m_spec_l01Byte (fun r21 => m_spec_l01Byte (fun r27 => m_spec_l01Byte (fun r33 => m_spec_l01Byte (fun r39 => ok64 (r21 * 16777216) ∧ ok64 (r27 * 65536) ∧ ok64 ((r21 * 16777216) + (r27 * 65536)) ∧ ok64 (r33 * 256) ∧ ok64 (((r21 * 16777216) + (r27 * 65536)) + (r33 * 256)) ∧ ok64 ((((r21 * 16777216) + (r27 * 65536)) + (r33 * 256)) + r39) ∧ p1 ≠ 0 ∧ Q (Int.tmod ((((r21 * 16777216) + (r27 * 65536)) + (r33 * 256)) + r39) p1)))))))

def m_spec_l01Once (p1 : Int) (Q : Bool → Prop) : Prop :=
  m_spec_l01Below p1 (fun r7 => Q (decide (r7 = 0)))

abbrev m_spec_l08List_K0 (x551 : List Cross) (v555 : Int) (next563 : List Cross → Int → Prop) (v685 : Int) (v686 : Bool) : Prop :=
  x551.length + 1 ≤ 1099511627776 ∧ ok64 (v555 - 1) ∧ next563 (x551 ++ ([(v685, v686)])) (v555 - 1)
abbrev m_spec_l08List_K1 (r7 : Int) (Q : Int → (List Cross) → Prop) (x539 : List Cross) : Prop :=
  Q (2 + r7) x539
def m_spec_l08List (Q : Int → (List Cross) → Prop) : Prop :=
  m_spec_l01Below 4 (fun r7 => ok64 (2 + r7) ∧ m_spec_l01Below 10 (fun r549 => LoopW2 ([]) r549 (fun x551 v555 next563 => ((v555 > 0) → ok64 ((2 + r7) - 1) ∧ m_spec_l01Below ((2 + r7) - 1) (fun r573 => m_spec_l01Once 2 (fun r578 => (((x551.length : Int) > 0) → m_spec_l01Once 3 (fun r694 => ((r694 = true) → ok64 ((x551.length : Int) - 1) ∧ ix ((x551.length : Int) - 1) x551.length ∧ ok64 ((x551.length : Int) - 1) ∧ ix ((x551.length : Int) - 1) x551.length ∧ (m_spec_l08List_K0 x551 v555 next563) (x551[(Int.toNat ((x551.length : Int) - 1))]!.1) (!(x551[(Int.toNat ((x551.length : Int) - 1))]!.2))) ∧ (¬ (r694 = true) → (m_spec_l08List_K0 x551 v555 next563) r573 r578))) ∧ (¬ ((x551.length : Int) > 0) → (m_spec_l08List_K0 x551 v555 next563) r573 r578)))) ∧ (¬ (v555 > 0) → (m_spec_l08List_K1 r7 Q) x551))))

def m_spec_l01In (p0 : Int) (p1 : Int) (p2 : Int) (Q : Bool → Prop) : Prop :=
  Q ((decide (p0 ≥ p1)) && (decide (p0 ≤ p2)))

abbrev m_spec_CrossesOk_K0 (Q : Bool → Prop) : Prop :=
  Q true
def m_spec_CrossesOk (p0 : Int) (p1 : List Cross) (Q : Bool → Prop) : Prop :=
  m_spec_l01In p0 1 7 (fun r7 => ((((¬ (r7 = true)) ∨ ((p1.length : Int) > 40))) → Q false) ∧ (¬ (((¬ (r7 = true)) ∨ ((p1.length : Int) > 40))) → LoopW1 0 (fun v41 next49 => ((v41 < (p1.length : Int)) → ix v41 p1.length ∧ ok64 (p0 - 2) ∧ m_spec_l01In (p1[(Int.toNat v41)]!.1) 0 (p0 - 2) (fun r60 => ((¬ (r60 = true)) → Q false) ∧ (¬ (¬ (r60 = true)) → ok64 (v41 + 1) ∧ next49 (v41 + 1)))) ∧ (¬ (v41 < (p1.length : Int)) → (m_spec_CrossesOk_K0 Q)))))

abbrev m_spec_l08Start_K0 (Q : (List Int) → Prop) (x72 : List Int) : Prop :=
  Q x72
def m_spec_l08Start (p0 : Int) (Q : (List Int) → Prop) : Prop :=
  LoopW2 ([]) 0 (fun x78 v82 next90 => ((v82 < p0) → x78.length + 1 ≤ 1099511627776 ∧ ok64 (v82 + 1) ∧ next90 (x78 ++ ([v82])) (v82 + 1)) ∧ (¬ (v82 < p0) → (m_spec_l08Start_K0 Q) x78))

abbrev m_spec_OrderOk_K0 (v158 : Int) (next166 : Int → Prop) : Prop :=
  ok64 (v158 + 1) ∧ next166 (v158 + 1)
abbrev m_spec_OrderOk_K1 (p0 : List Int) (Q : Bool → Prop) : Prop :=
  m_spec_l01In (p0.length : Int) 1 7 (fun r258 => Q r258)
def m_spec_OrderOk (p0 : List Int) (Q : Bool → Prop) : Prop :=
  LoopW1 0 (fun v158 next166 => ((v158 < (p0.length : Int)) → ix v158 p0.length ∧ ok64 ((p0.length : Int) - 1) ∧ m_spec_l01In (p0[(Int.toNat v158)]!) 0 ((p0.length : Int) - 1) (fun r178 => ((¬ (r178 = true)) → Q false) ∧ (¬ (¬ (r178 = true)) → LoopW1 0 (fun v184 next192 => ((v184 < v158) → ix v184 p0.length ∧ ix v158 p0.length ∧ ((p0[(Int.toNat v184)]! = p0[(Int.toNat v158)]!) → Q false) ∧ (¬ (p0[(Int.toNat v184)]! = p0[(Int.toNat v158)]!) → ok64 (v184 + 1) ∧ next192 (v184 + 1))) ∧ (¬ (v184 < v158) → (m_spec_OrderOk_K0 v158 next166)))))) ∧ (¬ (v158 < (p0.length : Int)) → (m_spec_OrderOk_K1 p0 Q)))

def m_spec_SwapAt (p0 : List Int) (p1 : Int) (Q : (List Int) → Bool → Prop) : Prop :=
  0 + p0.length ≤ 1099511627776 ∧ m_spec_OrderOk p0 (fun r21 => (¬ (¬ (r21 = true)) → ok64 ((p0.length : Int) - 2)) ∧ ∃ r30 : Bool, (¬ (¬ (r21 = true)) → m_spec_l01In p1 0 ((p0.length : Int) - 2) (fun z => z = r30)) ∧ ((((¬ (r21 = true)) ∨ (¬ (r30 = true)))) → Q p0 false) ∧ (¬ (((¬ (r21 = true)) ∨ (¬ (r30 = true)))) → ok64 (p1 + 1) ∧ ix (p1 + 1) p0.length ∧ ix p1 p0.length ∧ ok64 (p1 + 1) ∧ ix p1 p0.length ∧ ix (p1 + 1) ((p0.set (Int.toNat p1) (p0[(Int.toNat (p1 + 1))]!)).length) ∧ Q ((p0.set (Int.toNat p1) (p0[(Int.toNat (p1 + 1))]!)).set (Int.toNat (p1 + 1)) (p0[(Int.toNat p1)]!)) true))

abbrev m_spec_OrderAfter_K0 (Q : (List Int) → Prop) (x88 : List Int) : Prop :=
  Q x88
def m_spec_OrderAfter (p0 : Int) (p1 : List Cross) (Q : (List Int) → Prop) : Prop :=
  m_spec_CrossesOk p0 p1 (fun r7 => ((¬ (r7 = true)) → Q ([])) ∧ (¬ (¬ (r7 = true)) → m_spec_l08Start p0 (fun r22 => LoopW2 r22 0 (fun x94 v98 next106 => ((v98 < (p1.length : Int)) → ix v98 p1.length ∧ m_spec_SwapAt x94 (p1[(Int.toNat v98)]!.1) (fun r115 r120 => ok64 (v98 + 1) ∧ next106 r115 (v98 + 1))) ∧ (¬ (v98 < (p1.length : Int)) → (m_spec_OrderAfter_K0 Q) x94)))))

abbrev m_spec_CountInversions_K0 (v316 : Int) (next324 : Int → Int → Prop) (v328 : Int) : Prop :=
  ok64 (v316 + 1) ∧ next324 v328 (v316 + 1)
abbrev m_spec_CountInversions_K1 (Q : Int → Prop) (v312 : Int) : Prop :=
  Q v312
def m_spec_CountInversions (p0 : List Int) (Q : Int → Prop) : Prop :=
  m_spec_OrderOk p0 (fun r7 => ((¬ (r7 = true)) → Q (-1)) ∧ (¬ (¬ (r7 = true)) → LoopW2 0 0 (fun v315 v316 next324 => ((v316 < (p0.length : Int)) → LoopW2 v315 0 (fun v331 v332 next340 => ((v332 < v316) → ix v332 p0.length ∧ ix v316 p0.length ∧ ((p0[(Int.toNat v332)]! > p0[(Int.toNat v316)]!) → ok64 (v331 + 1) ∧ ok64 (v332 + 1) ∧ next340 (v331 + 1) (v332 + 1)) ∧ (¬ (p0[(Int.toNat v332)]! > p0[(Int.toNat v316)]!) → ok64 (v332 + 1) ∧ next340 v331 (v332 + 1))) ∧ (¬ (v332 < v316) → (m_spec_CountInversions_K0 v316 next324) v331))) ∧ (¬ (v316 < (p0.length : Int)) → (m_spec_CountInversions_K1 Q) v315))))

abbrev m_spec_SortingSwaps_K0 (x397 : List Int) (x401 : List Int) (next413 : List Int → List Int → Prop) (v424 : Int) : Prop :=
  m_spec_SwapAt x401 v424 (fun r497 r502 => x397.length + 1 ≤ 1099511627776 ∧ next413 (x397 ++ ([v424])) r497)
abbrev m_spec_SortingSwaps_K1 (Q : (List Int) → Prop) (x392 : List Int) : Prop :=
  Q x392
def m_spec_SortingSwaps (p0 : List Int) (Q : (List Int) → Prop) : Prop :=
  0 + p0.length ≤ 1099511627776 ∧ LoopW2 ([]) p0 (fun x397 x401 next413 => m_spec_CountInversions x401 (fun r419 => ((r419 > 0) → LoopW1 0 (fun v426 next434 => ix v426 x401.length ∧ ok64 (v426 + 1) ∧ ix (v426 + 1) x401.length ∧ ((x401[(Int.toNat v426)]! < x401[(Int.toNat (v426 + 1))]!) → ok64 (v426 + 1) ∧ next434 (v426 + 1)) ∧ (¬ (x401[(Int.toNat v426)]! < x401[(Int.toNat (v426 + 1))]!) → (m_spec_SortingSwaps_K0 x397 x401 next413) v426))) ∧ (¬ (r419 > 0) → (m_spec_SortingSwaps_K1 Q) x397)))

abbrev m_spec_BringHome_K0 (Q : (List Cross) → Bool → Prop) (x111 : List Cross) : Prop :=
  Q x111 true
def m_spec_BringHome (p0 : Int) (p1 : List Cross) (Q : (List Cross) → Bool → Prop) : Prop :=
  m_spec_CrossesOk p0 p1 (fun r14 => ((¬ (r14 = true)) → Q ([]) false) ∧ (¬ (¬ (r14 = true)) → m_spec_OrderAfter p0 p1 (fun r23 => m_spec_SortingSwaps r23 (fun r33 => LoopW2 ([]) 0 (fun x117 v121 next132 => ((v121 < (r33.length : Int)) → ix v121 r33.length ∧ x117.length + 1 ≤ 1099511627776 ∧ ok64 (v121 + 1) ∧ next132 (x117 ++ ([(r33[(Int.toNat v121)]!, true)])) (v121 + 1)) ∧ (¬ (v121 < (r33.length : Int)) → (m_spec_BringHome_K0 Q) x117))))))

def m_spec_DrawHome (p0 : List Byte) (Q : Int → (List Cross) → Prop) : Prop :=
  m_spec_l01New p0 (m_spec_l08List (fun r13 r14 => m_spec_BringHome r13 r14 (fun r24 r29 => r14.length + r24.length ≤ 1099511627776 ∧ Q r13 (r14 ++ r24))))

def m_impl_within (p0 : Int) (p1 : Int) (p2 : Int) (Q : Bool → Prop) : Prop :=
  Q ((decide (p0 ≥ p1)) && (decide (p0 ≤ p2)))

abbrev m_impl_CrossesOk_K0 (Q : Bool → Prop) : Prop :=
  Q true
def m_impl_CrossesOk (p0 : Int) (p1 : List Cross) (Q : Bool → Prop) : Prop :=
  m_impl_within p0 1 7 (fun r7 => ((((¬ (r7 = true)) ∨ ((p1.length : Int) > 40))) → Q false) ∧ (¬ (((¬ (r7 = true)) ∨ ((p1.length : Int) > 40))) → LoopW1 0 (fun v52 next60 => ((v52 < (p1.length : Int)) → ix v52 p1.length ∧ ok64 (p0 - 2) ∧ m_impl_within (p1[(Int.toNat v52)]!.1) 0 (p0 - 2) (fun r82 => ((¬ (r82 = true)) → Q false) ∧ (¬ (¬ (r82 = true)) → ok64 (v52 + 1) ∧ next60 (v52 + 1)))) ∧ (¬ (v52 < (p1.length : Int)) → (m_impl_CrossesOk_K0 Q)))))

abbrev m_impl_upTo_K0 (Q : (List Int) → Prop) (x74 : List Int) : Prop :=
  Q x74
def m_impl_upTo (p0 : Int) (Q : (List Int) → Prop) : Prop :=
  LoopW2 ([]) 0 (fun x80 v84 next92 => ((v84 < p0) → x80.length + 1 ≤ 1099511627776 ∧ ok64 (v84 + 1) ∧ next92 (x80 ++ ([v84])) (v84 + 1)) ∧ (¬ (v84 < p0) → (m_impl_upTo_K0 Q) x80))

def m_impl_OrderAfter_1 (p0 : Cross) (p1 : Int) (p2 : Int) (Q : Prop) : Prop :=
  Q

abbrev m_impl_follow_OrderAfter_1_K0 (Q : (List Int) → Prop) (x449 : List Int) : Prop :=
  Q x449
def m_impl_follow_OrderAfter_1 (p0 : Int) (p1 : List Cross) (Q : (List Int) → Prop) : Prop :=
  m_impl_upTo p0 (fun r6 => LoopW2 r6 0 (fun x452 v453 next461 => ((v453 < (p1.length : Int)) → ix v453 p1.length ∧ ix (p1[(Int.toNat v453)]!.1) x452.length ∧ ok64 (p1[(Int.toNat v453)]!.1 + 1) ∧ ix (p1[(Int.toNat v453)]!.1 + 1) x452.length ∧ m_impl_OrderAfter_1 (p1[(Int.toNat v453)]!.1, p1[(Int.toNat v453)]!.2) (x452[(Int.toNat (p1[(Int.toNat v453)]!.1))]!) (x452[(Int.toNat (p1[(Int.toNat v453)]!.1 + 1))]!) (ok64 (p1[(Int.toNat v453)]!.1 + 1) ∧ ok64 (p1[(Int.toNat v453)]!.1 + 1) ∧ ix (p1[(Int.toNat v453)]!.1 + 1) x452.length ∧ ix (p1[(Int.toNat v453)]!.1) x452.length ∧ ix (p1[(Int.toNat v453)]!.1) x452.length ∧ ix (p1[(Int.toNat v453)]!.1 + 1) ((x452.set (Int.toNat (p1[(Int.toNat v453)]!.1)) (x452[(Int.toNat (p1[(Int.toNat v453)]!.1 + 1))]!)).length) ∧ ok64 (v453 + 1) ∧ next461 ((x452.set (Int.toNat (p1[(Int.toNat v453)]!.1)) (x452[(Int.toNat (p1[(Int.toNat v453)]!.1 + 1))]!)).set (Int.toNat (p1[(Int.toNat v453)]!.1 + 1)) (x452[(Int.toNat (p1[(Int.toNat v453)]!.1))]!)) (v453 + 1))) ∧ (¬ (v453 < (p1.length : Int)) → (m_impl_follow_OrderAfter_1_K0 Q) x452)))

def m_impl_OrderAfter (p0 : Int) (p1 : List Cross) (Q : (List Int) → Prop) : Prop :=
  m_impl_CrossesOk p0 p1 (fun r7 => ((¬ (r7 = true)) → Q ([])) ∧ (¬ (¬ (r7 = true)) → m_impl_follow_OrderAfter_1 p0 p1 (fun r18 => Q r18)))

abbrev m_impl_sameInts_K0 (Q : Bool → Prop) : Prop :=
  Q true
def m_impl_sameInts (p0 : List Int) (p1 : List Int) (Q : Bool → Prop) : Prop :=
  (((p0.length : Int) ≠ (p1.length : Int)) → Q false) ∧ (¬ ((p0.length : Int) ≠ (p1.length : Int)) → LoopW1 0 (fun v71 next79 => ((v71 < (p0.length : Int)) → ix v71 p0.length ∧ ix v71 p1.length ∧ ((p0[(Int.toNat v71)]! ≠ p1[(Int.toNat v71)]!) → Q false) ∧ (¬ (p0[(Int.toNat v71)]! ≠ p1[(Int.toNat v71)]!) → ok64 (v71 + 1) ∧ next79 (v71 + 1))) ∧ (¬ (v71 < (p0.length : Int)) → (m_impl_sameInts_K0 Q))))

def m_impl_isHome (p0 : Int) (p1 : List Cross) (Q : Bool → Prop) : Prop :=
  m_impl_OrderAfter p0 p1 (fun r6 => m_impl_upTo p0 (fun r16 => m_impl_sameInts r6 r16 (fun r26 => Q r26)))

abbrev m_impl_twists_1_K0 (p1 : Int) (p2 : Int) (q0 : List (List Int)) (Q : (List (List Int)) → Prop) (v16 : Int) : Prop :=
  ix p1 q0.length ∧ ix p2 ((q0[(Int.toNat p1)]!).length) ∧ ok64 ((q0[(Int.toNat p1)]!)[(Int.toNat p2)]! + v16) ∧ ix p2 ((q0[(Int.toNat p1)]!).length) ∧ ix p2 ((q0.set (Int.toNat p1) (q0[(Int.toNat p1)]!.set (Int.toNat p2) ((q0[(Int.toNat p1)]!)[(Int.toNat p2)]! + v16))).length) ∧ ix p1 (((q0.set (Int.toNat p1) (q0[(Int.toNat p1)]!.set (Int.toNat p2) ((q0[(Int.toNat p1)]!)[(Int.toNat p2)]! + v16)))[(Int.toNat p2)]!).length) ∧ ok64 (((q0.set (Int.toNat p1) (q0[(Int.toNat p1)]!.set (Int.toNat p2) ((q0[(Int.toNat p1)]!)[(Int.toNat p2)]! + v16)))[(Int.toNat p2)]!)[(Int.toNat p1)]! + v16) ∧ ix p1 (((q0.set (Int.toNat p1) (q0[(Int.toNat p1)]!.set (Int.toNat p2) ((q0[(Int.toNat p1)]!)[(Int.toNat p2)]! + v16)))[(Int.toNat p2)]!).length) ∧ Q ((q0.set (Int.toNat p1) (q0[(Int.toNat p1)]!.set (Int.toNat p2) ((q0[(Int.toNat p1)]!)[(Int.toNat p2)]! + v16))).set (Int.toNat p2) ((q0.set (Int.toNat p1) (q0[(Int.toNat p1)]!.set (Int.toNat p2) ((q0[(Int.toNat p1)]!)[(Int.toNat p2)]! + v16)))[(Int.toNat p2)]!.set (Int.toNat p1) (((q0.set (Int.toNat p1) (q0[(Int.toNat p1)]!.set (Int.toNat p2) ((q0[(Int.toNat p1)]!)[(Int.toNat p2)]! + v16)))[(Int.toNat p2)]!)[(Int.toNat p1)]! + v16)))
def m_impl_twists_1 (p0 : Cross) (p1 : Int) (p2 : Int) (q0 : List (List Int)) (Q : (List (List Int)) → Prop) : Prop :=
  ((p0.2 = true) → (m_impl_twists_1_K0 p1 p2 q0 Q) 1) ∧ (¬ (p0.2 = true) → (m_impl_twists_1_K0 p1 p2 q0 Q) (-1))

abbrev m_impl_follow_twists_1_K0 (Q : (List Int) → (List (List Int)) → Prop) (x487 : List Int) (x488 : List (List Int)) : Prop :=
  Q x487 x488
def m_impl_follow_twists_1 (p0 : Int) (p1 : List Cross) (p2_0 : List (List Int)) (Q : (List Int) → (List (List Int)) → Prop) : Prop :=
  m_impl_upTo p0 (fun r10 => LoopW3 r10 0 p2_0 (fun x496 v497 x498 next515 => ((v497 < (p1.length : Int)) → ix v497 p1.length ∧ ix (p1[(Int.toNat v497)]!.1) x496.length ∧ ok64 (p1[(Int.toNat v497)]!.1 + 1) ∧ ix (p1[(Int.toNat v497)]!.1 + 1) x496.length ∧ m_impl_twists_1 (p1[(Int.toNat v497)]!.1, p1[(Int.toNat v497)]!.2) (x496[(Int.toNat (p1[(Int.toNat v497)]!.1))]!) (x496[(Int.toNat (p1[(Int.toNat v497)]!.1 + 1))]!) x498 (fun x602 => ok64 (p1[(Int.toNat v497)]!.1 + 1) ∧ ok64 (p1[(Int.toNat v497)]!.1 + 1) ∧ ix (p1[(Int.toNat v497)]!.1 + 1) x496.length ∧ ix (p1[(Int.toNat v497)]!.1) x496.length ∧ ix (p1[(Int.toNat v497)]!.1) x496.length ∧ ix (p1[(Int.toNat v497)]!.1 + 1) ((x496.set (Int.toNat (p1[(Int.toNat v497)]!.1)) (x496[(Int.toNat (p1[(Int.toNat v497)]!.1 + 1))]!)).length) ∧ ok64 (v497 + 1) ∧ next515 ((x496.set (Int.toNat (p1[(Int.toNat v497)]!.1)) (x496[(Int.toNat (p1[(Int.toNat v497)]!.1 + 1))]!)).set (Int.toNat (p1[(Int.toNat v497)]!.1 + 1)) (x496[(Int.toNat (p1[(Int.toNat v497)]!.1))]!)) (v497 + 1) x602)) ∧ (¬ (v497 < (p1.length : Int)) → (m_impl_follow_twists_1_K0 Q) x496 x498)))

abbrev m_impl_twists_K0 (p0 : Int) (p1 : List Cross) (Q : (List (List Int)) → Prop) (x175 : List (List Int)) : Prop :=
  m_impl_follow_twists_1 p0 p1 x175 (fun r268 x273 => Q x273)
def m_impl_twists (p0 : Int) (p1 : List Cross) (Q : (List (List Int)) → Prop) : Prop :=
  (0 ≤ p0 ∧ p0 ≤ 1099511627776) ∧ LoopW2 0 (List.replicate (Int.toNat p0) ([] : List Int)) (fun v180 x181 next194 => ((v180 < ((List.replicate (Int.toNat p0) ([] : List Int)).length : Int)) → (0 ≤ p0 ∧ p0 ≤ 1099511627776) ∧ ix v180 x181.length ∧ ok64 (v180 + 1) ∧ next194 (v180 + 1) (x181.set (Int.toNat v180) (List.replicate (Int.toNat p0) (0 : Int)))) ∧ (¬ (v180 < ((List.replicate (Int.toNat p0) ([] : List Int)).length : Int)) → (m_impl_twists_K0 p0 p1 Q) x181))

abbrev m_impl_WoundPairs_K0 (v356 : Int) (next367 : List (List Int) → Int → Prop) (x371 : List (List Int)) : Prop :=
  ok64 (v356 + 1) ∧ next367 x371 (v356 + 1)
abbrev m_impl_WoundPairs_K1 (Q : (List (List Int)) → Prop) (x342 : List (List Int)) : Prop :=
  Q x342
def m_impl_WoundPairs (p0 : Int) (p1 : List Cross) (Q : (List (List Int)) → Prop) : Prop :=
  m_impl_CrossesOk p0 p1 (fun r7 => ((¬ (r7 = true)) → Q ([])) ∧ (¬ (¬ (r7 = true)) → m_impl_twists p0 p1 (fun r23 => LoopW2 ([]) 0 (fun x350 v356 next367 => ((v356 < p0) → ok64 (v356 + 1) ∧ LoopW2 x350 (v356 + 1) (fun x381 v387 next395 => ((v387 < p0) → ix v356 r23.length ∧ ix v387 ((r23[(Int.toNat v356)]!).length) ∧ (((r23[(Int.toNat v356)]!)[(Int.toNat v387)]! ≠ 0) → x381.length + 1 ≤ 1099511627776 ∧ ok64 (v387 + 1) ∧ next395 (x381 ++ ([[v356, v387]])) (v387 + 1)) ∧ (¬ ((r23[(Int.toNat v356)]!)[(Int.toNat v387)]! ≠ 0) → ok64 (v387 + 1) ∧ next395 x381 (v387 + 1))) ∧ (¬ (v387 < p0) → (m_impl_WoundPairs_K0 v356 next367) x381))) ∧ (¬ (v356 < p0) → (m_impl_WoundPairs_K1 Q) x350)))))

def m_impl_size (p0 : Int) (Q : Int → Prop) : Prop :=
  ok64 (-p0) ∧ Q (max p0 (-p0))

abbrev m_impl_FullTurn_K0 (Q : (List Cross) → Bool → Prop) (x220 : List Cross) : Prop :=
  Q x220 true
abbrev m_impl_FullTurn_K1 (p1 : Int) (p2 : Int) (p3 : Bool) (Q : (List Cross) → Bool → Prop) (x93 : List Cross) : Prop :=
  x93.length + 2 ≤ 1099511627776 ∧ ok64 (p1 + 1) ∧ LoopW2 (x93 ++ ([(p1, p3), (p1, p3)])) (p1 + 1) (fun x227 v231 next241 => ((v231 < p2) → x227.length + 1 ≤ 1099511627776 ∧ ok64 (v231 + 1) ∧ next241 (x227 ++ ([(v231, true)])) (v231 + 1)) ∧ (¬ (v231 < p2) → (m_impl_FullTurn_K0 Q) x227))
def m_impl_FullTurn (p0 : Int) (p1 : Int) (p2 : Int) (p3 : Bool) (Q : (List Cross) → Bool → Prop) : Prop :=
  m_impl_within p0 2 7 (fun r7 => ((((((((¬ (r7 = true)) ∨ (p1 < 0))) ∨ (p1 ≥ p2))) ∨ (p2 ≥ p0))) → Q ([]) false) ∧ (¬ (((((((¬ (r7 = true)) ∨ (p1 < 0))) ∨ (p1 ≥ p2))) ∨ (p2 ≥ p0))) → ok64 (p2 - 1) ∧ LoopW2 ([]) (p2 - 1) (fun x100 v104 next112 => ((v104 > p1) → x100.length + 1 ≤ 1099511627776 ∧ ok64 (v104 - 1) ∧ next112 (x100 ++ ([(v104, false)])) (v104 - 1)) ∧ (¬ (v104 > p1) → (m_impl_FullTurn_K1 p1 p2 p3 Q) x100))))

abbrev m_impl_UnwindAll_K0 (v802 : Int) (next815 : List Cross → Int → Prop) (x819 : List Cross) : Prop :=
  ok64 (v802 + 1) ∧ next815 x819 (v802 + 1)
abbrev m_impl_UnwindAll_K1 (Q : (List Cross) → Bool → Prop) (x778 : List Cross) : Prop :=
  Q x778 true
def m_impl_UnwindAll (p0 : Int) (p1 : List Cross) (Q : (List Cross) → Bool → Prop) : Prop :=
  m_impl_CrossesOk p0 p1 (fun r7 => ∃ r13 : Bool, (¬ (¬ (r7 = true)) → m_impl_isHome p0 p1 (fun z => z = r13)) ∧ ((((¬ (r7 = true)) ∨ (¬ (r13 = true)))) → Q ([]) false) ∧ (¬ (((¬ (r7 = true)) ∨ (¬ (r13 = true)))) → m_impl_twists p0 p1 (fun r28 => m_impl_WoundPairs p0 p1 (fun r787 => LoopW2 ([]) 0 (fun x798 v802 next815 => ((v802 < (r787.length : Int)) → ix v802 r787.length ∧ ix 0 ((r787[(Int.toNat v802)]!).length) ∧ ix ((r787[(Int.toNat v802)]!)[0]!) r28.length ∧ ix 1 ((r787[(Int.toNat v802)]!).length) ∧ ix ((r787[(Int.toNat v802)]!)[1]!) ((r28[(Int.toNat ((r787[(Int.toNat v802)]!)[0]!))]!).length) ∧ m_impl_size ((r28[(Int.toNat ((r787[(Int.toNat v802)]!)[0]!))]!)[(Int.toNat ((r787[(Int.toNat v802)]!)[1]!))]!) (fun r891 => ok64 (Int.tdiv r891 2) ∧ LoopW2 x798 0 (fun x895 v899 next907 => ((v899 < (Int.tdiv r891 2)) → ix 0 ((r787[(Int.toNat v802)]!).length) ∧ ix 1 ((r787[(Int.toNat v802)]!).length) ∧ m_impl_FullTurn p0 ((r787[(Int.toNat v802)]!)[0]!) ((r787[(Int.toNat v802)]!)[1]!) (decide ((r28[(Int.toNat ((r787[(Int.toNat v802)]!)[0]!))]!)[(Int.toNat ((r787[(Int.toNat v802)]!)[1]!))]! < 0)) (fun r962 r967 => x895.length + r962.length ≤ 1099511627776 ∧ ok64 (v899 + 1) ∧ next907 (x895 ++ r962) (v899 + 1))) ∧ (¬ (v899 < (Int.tdiv r891 2)) → (m_impl_UnwindAll_K0 v802 next815) x895)))) ∧ (¬ (v802 < (r787.length : Int)) → (m_impl_UnwindAll_K1 Q) x798))))))

def m_impl_JoinCrosses (p0 : List Cross) (p1 : List Cross) (Q : (List Cross) → Prop) : Prop :=
  0 + p0.length ≤ 1099511627776 ∧ p0.length + p1.length ≤ 1099511627776 ∧ Q (p0 ++ p1)

abbrev m_spec_PairsOf_K0 (p1 : List Cross) (x216 : List (List Int)) (x222 : List Int) (v226 : Int) (next236 : List (List Int) → List Int → Int → Prop) (v248 : Int) (v249 : Int) : Prop :=
  x216.length + 1 ≤ 1099511627776 ∧ ix v226 p1.length ∧ m_spec_SwapAt x222 (p1[(Int.toNat v226)]!.1) (fun r294 r299 => ok64 (v226 + 1) ∧ next236 (x216 ++ ([[v248, v249]])) r294 (v226 + 1))
abbrev m_spec_PairsOf_K1 (Q : (List (List Int)) → Prop) (x208 : List (List Int)) : Prop :=
  Q x208
def m_spec_PairsOf (p0 : Int) (p1 : List Cross) (Q : (List (List Int)) → Prop) : Prop :=
  m_spec_CrossesOk p0 p1 (fun r18 => ((¬ (r18 = true)) → Q ([])) ∧ (¬ (¬ (r18 = true)) → m_spec_l08Start p0 (fun r28 => LoopW3 ([]) r28 0 (fun x216 x222 v226 next236 => ((v226 < (p1.length : Int)) → ix v226 p1.length ∧ ix (p1[(Int.toNat v226)]!.1) x222.length ∧ ix v226 p1.length ∧ ok64 (p1[(Int.toNat v226)]!.1 + 1) ∧ ix (p1[(Int.toNat v226)]!.1 + 1) x222.length ∧ ix v226 p1.length ∧ ((¬ ((p1[(Int.toNat v226)]!.2) = true)) → (m_spec_PairsOf_K0 p1 x216 x222 v226 next236) (x222[(Int.toNat (p1[(Int.toNat v226)]!.1 + 1))]!) (x222[(Int.toNat (p1[(Int.toNat v226)]!.1))]!)) ∧ (¬ (¬ ((p1[(Int.toNat v226)]!.2) = true)) → (m_spec_PairsOf_K0 p1 x216 x222 v226 next236) (x222[(Int.toNat (p1[(Int.toNat v226)]!.1))]!) (x222[(Int.toNat (p1[(Int.toNat v226)]!.1 + 1))]!))) ∧ (¬ (v226 < (p1.length : Int)) → (m_spec_PairsOf_K1 Q) x216)))))

abbrev m_spec_TwistTable_K0 (r198 : List (List Int)) (x970 : List (List Int)) (v973 : Int) (next985 : List (List Int) → Int → Prop) (v991 : Int) : Prop :=
  ix v973 r198.length ∧ ix 0 ((r198[(Int.toNat v973)]!).length) ∧ ix ((r198[(Int.toNat v973)]!)[0]!) x970.length ∧ ix v973 r198.length ∧ ix 1 ((r198[(Int.toNat v973)]!).length) ∧ ix v973 r198.length ∧ ix 0 ((r198[(Int.toNat v973)]!).length) ∧ ix ((r198[(Int.toNat v973)]!)[0]!) x970.length ∧ ix v973 r198.length ∧ ix 1 ((r198[(Int.toNat v973)]!).length) ∧ ix ((r198[(Int.toNat v973)]!)[1]!) ((x970[(Int.toNat ((r198[(Int.toNat v973)]!)[0]!))]!).length) ∧ ok64 ((x970[(Int.toNat ((r198[(Int.toNat v973)]!)[0]!))]!)[(Int.toNat ((r198[(Int.toNat v973)]!)[1]!))]! + v991) ∧ ix ((r198[(Int.toNat v973)]!)[1]!) ((x970[(Int.toNat ((r198[(Int.toNat v973)]!)[0]!))]!).length) ∧ ix v973 r198.length ∧ ix 1 ((r198[(Int.toNat v973)]!).length) ∧ ix ((r198[(Int.toNat v973)]!)[1]!) ((x970.set (Int.toNat ((r198[(Int.toNat v973)]!)[0]!)) (x970[(Int.toNat ((r198[(Int.toNat v973)]!)[0]!))]!.set (Int.toNat ((r198[(Int.toNat v973)]!)[1]!)) ((x970[(Int.toNat ((r198[(Int.toNat v973)]!)[0]!))]!)[(Int.toNat ((r198[(Int.toNat v973)]!)[1]!))]! + v991))).length) ∧ ix v973 r198.length ∧ ix 0 ((r198[(Int.toNat v973)]!).length) ∧ ix v973 r198.length ∧ ix 1 ((r198[(Int.toNat v973)]!).length) ∧ ix ((r198[(Int.toNat v973)]!)[1]!) ((x970.set (Int.toNat ((r198[(Int.toNat v973)]!)[0]!)) (x970[(Int.toNat ((r198[(Int.toNat v973)]!)[0]!))]!.set (Int.toNat ((r198[(Int.toNat v973)]!)[1]!)) ((x970[(Int.toNat ((r198[(Int.toNat v973)]!)[0]!))]!)[(Int.toNat ((r198[(Int.toNat v973)]!)[1]!))]! + v991))).length) ∧ ix v973 r198.length ∧ ix 0 ((r198[(Int.toNat v973)]!).length) ∧ ix ((r198[(Int.toNat v973)]!)[0]!) (((x970.set (Int.toNat ((r198[(Int.toNat v973)]!)[0]!)) (x970[(Int.toNat ((r198[(Int.toNat v973)]!)[0]!))]!.set (Int.toNat ((r198[(Int.toNat v973)]!)[1]!)) ((x970[(Int.toNat ((r198[(Int.toNat v973)]!)[0]!))]!)[(Int.toNat ((r198[(Int.toNat v973)]!)[1]!))]! + v991)))[(Int.toNat ((r198[(Int.toNat v973)]!)[1]!))]!).length) ∧ ok64 (((x970.set (Int.toNat ((r198[(Int.toNat v973)]!)[0]!)) (x970[(Int.toNat ((r198[(Int.toNat v973)]!)[0]!))]!.set (Int.toNat ((r198[(Int.toNat v973)]!)[1]!)) ((x970[(Int.toNat ((r198[(Int.toNat v973)]!)[0]!))]!)[(Int.toNat ((r198[(Int.toNat v973)]!)[1]!))]! + v991)))[(Int.toNat ((r198[(Int.toNat v973)]!)[1]!))]!)[(Int.toNat ((r198[(Int.toNat v973)]!)[0]!))]! + v991) ∧ ix ((r198[(Int.toNat v973)]!)[0]!) (((x970.set (Int.toNat ((r198[(Int.toNat v973)]!)[0]!)) (x970[(Int.toNat ((r198[(Int.toNat v973)]!)[0]!))]!.set (Int.toNat ((r198[(Int.toNat v973)]!)[1]!)) ((x970[(Int.toNat ((r198[(Int.toNat v973)]!)[0]!))]!)[(Int.toNat ((r198[(Int.toNat v973)]!)[1]!))]! + v991)))[(Int.toNat ((r198[(Int.toNat v973)]!)[1]!))]!).length) ∧ ok64 (v973 + 1) ∧ next985 ((x970.set (Int.toNat ((r198[(Int.toNat v973)]!)[0]!)) (x970[(Int.toNat ((r198[(Int.toNat v973)]!)[0]!))]!.set (Int.toNat ((r198[(Int.toNat v973)]!)[1]!)) ((x970[(Int.toNat ((r198[(Int.toNat v973)]!)[0]!))]!)[(Int.toNat ((r198[(Int.toNat v973)]!)[1]!))]! + v991))).set (Int.toNat ((r198[(Int.toNat v973)]!)[1]!)) ((x970.set (Int.toNat ((r198[(Int.toNat v973)]!)[0]!)) (x970[(Int.toNat ((r198[(Int.toNat v973)]!)[0]!))]!.set (Int.toNat ((r198[(Int.toNat v973)]!)[1]!)) ((x970[(Int.toNat ((r198[(Int.toNat v973)]!)[0]!))]!)[(Int.toNat ((r198[(Int.toNat v973)]!)[1]!))]! + v991)))[(Int.toNat ((r198[(Int.toNat v973)]!)[1]!))]!.set (Int.toNat ((r198[(Int.toNat v973)]!)[0]!)) (((x970.set (Int.toNat ((r198[(Int.toNat v973)]!)[0]!)) (x970[(Int.toNat ((r198[(Int.toNat v973)]!)[0]!))]!.set (Int.toNat ((r198[(Int.toNat v973)]!)[1]!)) ((x970[(Int.toNat ((r198[(Int.toNat v973)]!)[0]!))]!)[(Int.toNat ((r198[(Int.toNat v973)]!)[1]!))]! + v991)))[(Int.toNat ((r198[(Int.toNat v973)]!)[1]!))]!)[(Int.toNat ((r198[(Int.toNat v973)]!)[0]!))]! + v991))) (v973 + 1)
abbrev m_spec_TwistTable_K1 (Q : (List (List Int)) → Prop) (x965 : List (List Int)) : Prop :=
  Q x965
abbrev m_spec_TwistTable_K2 (p0 : Int) (p1 : List Cross) (Q : (List (List Int)) → Prop) (x128 : List (List Int)) : Prop :=
  m_spec_PairsOf p0 p1 (fun r198 => LoopW2 x128 0 (fun x970 v973 next985 => ((v973 < (r198.length : Int)) → ix v973 p1.length ∧ (((p1[(Int.toNat v973)]!.2) = true) → (m_spec_TwistTable_K0 r198 x970 v973 next985) 1) ∧ (¬ ((p1[(Int.toNat v973)]!.2) = true) → (m_spec_TwistTable_K0 r198 x970 v973 next985) (-1))) ∧ (¬ (v973 < (r198.length : Int)) → (m_spec_TwistTable_K1 Q) x970)))
def m_spec_TwistTable (p0 : Int) (p1 : List Cross) (Q : (List (List Int)) → Prop) : Prop :=
  m_spec_CrossesOk p0 p1 (fun r18 => ((¬ (r18 = true)) → Q ([])) ∧ (¬ (¬ (r18 = true)) → LoopW2 ([]) 0 (fun x136 v142 next151 => ((v142 < p0) → (0 ≤ p0 ∧ p0 ≤ 1099511627776) ∧ x136.length + 1 ≤ 1099511627776 ∧ ok64 (v142 + 1) ∧ next151 (x136 ++ ([List.replicate (Int.toNat p0) (0 : Int)])) (v142 + 1)) ∧ (¬ (v142 < p0) → (m_spec_TwistTable_K2 p0 p1 Q) x136))))

abbrev m_spec_WoundPairs_K0 (v342 : Int) (next354 : List (List Int) → Int → Prop) (x358 : List (List Int)) : Prop :=
  ok64 (v342 + 1) ∧ next354 x358 (v342 + 1)
abbrev m_spec_WoundPairs_K1 (Q : (List (List Int)) → Prop) (x328 : List (List Int)) : Prop :=
  Q x328
def m_spec_WoundPairs (p0 : Int) (p1 : List Cross) (Q : (List (List Int)) → Prop) : Prop :=
  m_spec_TwistTable p0 p1 (fun r17 => LoopW2 ([]) 0 (fun x336 v342 next354 => ((v342 < (r17.length : Int)) → ok64 (v342 + 1) ∧ LoopW2 x336 (v342 + 1) (fun x367 v373 next381 => ((v373 < (r17.length : Int)) → ix v342 r17.length ∧ ix v373 ((r17[(Int.toNat v342)]!).length) ∧ (((r17[(Int.toNat v342)]!)[(Int.toNat v373)]! ≠ 0) → x367.length + 1 ≤ 1099511627776 ∧ ok64 (v373 + 1) ∧ next381 (x367 ++ ([[v342, v373]])) (v373 + 1)) ∧ (¬ ((r17[(Int.toNat v342)]!)[(Int.toNat v373)]! ≠ 0) → ok64 (v373 + 1) ∧ next381 x367 (v373 + 1))) ∧ (¬ (v373 < (r17.length : Int)) → (m_spec_WoundPairs_K0 v342 next354) x367))) ∧ (¬ (v342 < (r17.length : Int)) → (m_spec_WoundPairs_K1 Q) x336)))

def m_spec_IsUntwisted (p0 : Int) (p1 : List Cross) (Q : Bool → Prop) : Prop :=
  m_spec_CrossesOk p0 p1 (fun r6 => ((r6 = true) → m_spec_OrderAfter p0 p1 (fun r13 => m_spec_CountInversions r13 (fun r23 => ((r23 = 0) → m_spec_WoundPairs p0 p1 (fun r30 => Q (decide ((r30.length : Int) = 0)))) ∧ (¬ (r23 = 0) → Q false)))) ∧ (¬ (r6 = true) → Q false))

def m_laws_at (p0 : List Byte) (p1 : Int) (Q : Int → Prop) : Prop :=
  (((p0.length : Int) = 0) → Q 0) ∧ (¬ ((p0.length : Int) = 0) → ok64 (p1 * 5) ∧ ok64 ((p1 * 5) + 1) ∧ (p0.length : Int) ≠ 0 ∧ ix (Int.tmod ((p1 * 5) + 1) (p0.length : Int)) p0.length ∧ Q ((p0[(Int.toNat (Int.tmod ((p1 * 5) + 1) (p0.length : Int)))]!).val : Int))

def m_laws_btoi (p0 : Bool) (Q : Int → Prop) : Prop :=
  ((p0 = true) → Q 1) ∧ (¬ (p0 = true) → Q 0)

abbrev m_impl_put_K0 (p0 : List Int) (v172 : Int) (next180 : List Int → Bool → Int → Prop) (x187 : List Int) (v191 : Bool) : Prop :=
  x187.length + 1 ≤ 1099511627776 ∧ ok64 (v172 + 1) ∧ next180 (x187 ++ ([p0[(Int.toNat v172)]!])) v191 (v172 + 1)
abbrev m_impl_put_K1 (p1 : Int) (Q : (List Int) → Prop) (x160 : List Int) (v164 : Bool) : Prop :=
  ((¬ (v164 = true)) → x160.length + 1 ≤ 1099511627776 ∧ Q (x160 ++ ([p1]))) ∧ (¬ (¬ (v164 = true)) → Q x160)
def m_impl_put (p0 : List Int) (p1 : Int) (Q : (List Int) → Prop) : Prop :=
  LoopW3 ([]) false 0 (fun x167 v171 v172 next180 => ((v172 < (p0.length : Int)) → ix v172 p0.length ∧ ((((¬ (v171 = true)) ∧ (p1 ≤ p0[(Int.toNat v172)]!))) → x167.length + 1 ≤ 1099511627776 ∧ (m_impl_put_K0 p0 v172 next180) (x167 ++ ([p1])) true) ∧ (¬ (((¬ (v171 = true)) ∧ (p1 ≤ p0[(Int.toNat v172)]!))) → (m_impl_put_K0 p0 v172 next180) x167 v171)) ∧ (¬ (v172 < (p0.length : Int)) → (m_impl_put_K1 p1 Q) x167 v171))

abbrev m_impl_sorted_K0 (Q : (List Int) → Prop) (x68 : List Int) : Prop :=
  Q x68
def m_impl_sorted (p0 : List Int) (Q : (List Int) → Prop) : Prop :=
  LoopW2 ([]) 0 (fun x74 v78 next86 => ((v78 < (p0.length : Int)) → ix v78 p0.length ∧ m_impl_put x74 (p0[(Int.toNat v78)]!) (fun r96 => ok64 (v78 + 1) ∧ next86 r96 (v78 + 1))) ∧ (¬ (v78 < (p0.length : Int)) → (m_impl_sorted_K0 Q) x74))

abbrev m_impl_allWithin_K0 (Q : Bool → Prop) : Prop :=
  Q true
def m_impl_allWithin (p0 : List Int) (p1 : Int) (p2 : Int) (Q : Bool → Prop) : Prop :=
  LoopW1 0 (fun v28 next36 => ((v28 < (p0.length : Int)) → ix v28 p0.length ∧ m_impl_within (p0[(Int.toNat v28)]!) p1 p2 (fun r47 => ((¬ (r47 = true)) → Q false) ∧ (¬ (¬ (r47 = true)) → ok64 (v28 + 1) ∧ next36 (v28 + 1)))) ∧ (¬ (v28 < (p0.length : Int)) → (m_impl_allWithin_K0 Q)))

abbrev m_impl_isStrict_K0 (p0 : List Int) (p1 : Int) (p2 : Int) (Q : Bool → Prop) : Prop :=
  m_impl_allWithin p0 p1 p2 (fun r200 => Q r200)
def m_impl_isStrict (p0 : List Int) (p1 : Int) (p2 : Int) (Q : Bool → Prop) : Prop :=
  LoopW1 0 (fun v98 next106 => ((v98 < (p0.length : Int)) → (v98 > 0 → ix v98 p0.length) ∧ (v98 > 0 → ok64 (v98 - 1)) ∧ (v98 > 0 → ix (v98 - 1) p0.length) ∧ ((((v98 > 0) ∧ (p0[(Int.toNat v98)]! ≤ p0[(Int.toNat (v98 - 1))]!))) → Q false) ∧ (¬ (((v98 > 0) ∧ (p0[(Int.toNat v98)]! ≤ p0[(Int.toNat (v98 - 1))]!))) → ok64 (v98 + 1) ∧ next106 (v98 + 1))) ∧ (¬ (v98 < (p0.length : Int)) → (m_impl_isStrict_K0 p0 p1 p2 Q)))

def m_impl_OrderOk (p0 : List Int) (Q : Bool → Prop) : Prop :=
  m_impl_within (p0.length : Int) 1 7 (fun r6 => ((r6 = true) → m_impl_sorted p0 (fun r13 => ok64 ((p0.length : Int) - 1) ∧ m_impl_isStrict r13 0 ((p0.length : Int) - 1) (fun r24 => Q r24))) ∧ (¬ (r6 = true) → Q false))

def m_impl_copyOf (p0 : List Int) (Q : (List Int) → Prop) : Prop :=
  0 + p0.length ≤ 1099511627776 ∧ Q p0

abbrev m_impl_SortingSwaps_K0 (Q : (List Int) → Prop) (x644 : List Int) : Prop :=
  Q x644
def m_impl_SortingSwaps (p0 : List Int) (Q : (List Int) → Prop) : Prop :=
  m_impl_OrderOk p0 (fun r7 => ((¬ (r7 = true)) → Q ([])) ∧ (¬ (¬ (r7 = true)) → m_impl_copyOf p0 (fun r18 => LoopW3 r18 ([]) true (fun x650 x651 v655 next664 => ((v655 = true) → LoopW4 x650 x651 false 0 (fun x670 x671 v675 v676 next684 => ok64 (v676 + 1) ∧ (((((v676 + 1) < (x670.length : Int)) ∧ (¬ (v675 = true)))) → ix v676 x670.length ∧ ok64 (v676 + 1) ∧ ix (v676 + 1) x670.length ∧ ((x670[(Int.toNat v676)]! > x670[(Int.toNat (v676 + 1))]!) → ok64 (v676 + 1) ∧ ok64 (v676 + 1) ∧ ix (v676 + 1) x670.length ∧ ix v676 x670.length ∧ ix v676 x670.length ∧ ix (v676 + 1) ((x670.set (Int.toNat v676) (x670[(Int.toNat (v676 + 1))]!)).length) ∧ x671.length + 1 ≤ 1099511627776 ∧ ok64 (v676 + 1) ∧ next684 ((x670.set (Int.toNat v676) (x670[(Int.toNat (v676 + 1))]!)).set (Int.toNat (v676 + 1)) (x670[(Int.toNat v676)]!)) (x671 ++ ([v676])) true (v676 + 1)) ∧ (¬ (x670[(Int.toNat v676)]! > x670[(Int.toNat (v676 + 1))]!) → ok64 (v676 + 1) ∧ next684 x670 x671 v675 (v676 + 1))) ∧ (¬ ((((v676 + 1) < (x670.length : Int)) ∧ (¬ (v675 = true)))) → next664 x670 x671 v675))) ∧ (¬ (v655 = true) → (m_impl_SortingSwaps_K0 Q) x651)))))

abbrev m_impl_BringHome_K0 (Q : (List Cross) → Bool → Prop) (x114 : List Cross) : Prop :=
  Q x114 true
def m_impl_BringHome (p0 : Int) (p1 : List Cross) (Q : (List Cross) → Bool → Prop) : Prop :=
  m_impl_CrossesOk p0 p1 (fun r7 => ((¬ (r7 = true)) → Q ([]) false) ∧ (¬ (¬ (r7 = true)) → m_impl_OrderAfter p0 p1 (fun r123 => m_impl_SortingSwaps r123 (fun r133 => LoopW2 ([]) 0 (fun x140 v144 next155 => ((v144 < (r133.length : Int)) → ix v144 r133.length ∧ x140.length + 1 ≤ 1099511627776 ∧ ok64 (v144 + 1) ∧ next155 (x140 ++ ([(r133[(Int.toNat v144)]!, true)])) (v144 + 1)) ∧ (¬ (v144 < (r133.length : Int)) → (m_impl_BringHome_K0 Q) x140))))))

def m_spec_DrawCrosses (p0 : List Byte) (Q : Int → (List Cross) → Prop) : Prop :=
  m_spec_l01New p0 (m_spec_l08List (fun r13 r14 => Q r13 r14))

abbrev m_laws_FnUntwisting_K0 (v387 : Int) (next405 : Int → Prop) : Prop :=
  ok64 (v387 + 1) ∧ next405 (v387 + 1)
abbrev m_laws_FnUntwisting_K1 (p0 : List Byte) (r16 : Int) (r17 : List Cross) (Q : Bool → Prop) : Prop :=
  m_impl_BringHome r16 r17 (fun r531 r536 => m_spec_DrawCrosses p0 (fun r543 r544 => m_impl_BringHome r543 r544 (fun r555 r560 => ((((((r536 = true) ∧ ((r531.length : Int) = 0))) ∧ (r560 = true))) → m_spec_OrderAfter r543 r544 (fun r572 => m_spec_CountInversions r572 (fun r582 => Q (decide ((r555.length : Int) = r582))))) ∧ (¬ (((((r536 = true) ∧ ((r531.length : Int) = 0))) ∧ (r560 = true))) → Q false))))
def m_laws_FnUntwisting (p0 : List Byte) (Q : Bool → Prop) : Prop :=
  m_laws_big p0 (fun r7 => ((r7 = true) → Q true) ∧ (¬ (r7 = true) → m_spec_DrawHome p0 (fun r16 r17 => m_impl_UnwindAll r16 r17 (fun r28 r33 => ((¬ (r33 = true)) → Q false) ∧ (¬ (¬ (r33 = true)) → m_impl_JoinCrosses r17 r28 (fun r44 => ok64 ((r17.length : Int) + (r28.length : Int)) ∧ (((r44.length : Int) ≠ ((r17.length : Int) + (r28.length : Int))) → Q false) ∧ (¬ ((r44.length : Int) ≠ ((r17.length : Int) + (r28.length : Int))) → ∃ r61 : Bool, ((r44.length : Int) ≤ 40 → m_spec_IsUntwisted r16 r44 (fun z => z = r61)) ∧ (((((r44.length : Int) ≤ 40) ∧ (¬ (r61 = true)))) → Q false) ∧ (¬ ((((r44.length : Int) ≤ 40) ∧ (¬ (r61 = true)))) → m_laws_at p0 0 (fun r74 => ok64 (r16 - 1) ∧ (r16 - 1) ≠ 0 ∧ ok64 (1 + (Int.tmod r74 (r16 - 1))) ∧ m_laws_at p0 1 (fun r84 => (1 + (Int.tmod r74 (r16 - 1))) ≠ 0 ∧ m_impl_FullTurn r16 (Int.tmod r84 (1 + (Int.tmod r74 (r16 - 1)))) (1 + (Int.tmod r74 (r16 - 1))) true (fun r92 r97 => m_spec_TwistTable r16 r92 (fun r104 => (¬ (¬ (r97 = true)) → ok64 ((1 + (Int.tmod r74 (r16 - 1))) - (Int.tmod r84 (1 + (Int.tmod r74 (r16 - 1)))))) ∧ (¬ (¬ (r97 = true)) → ok64 (2 * ((1 + (Int.tmod r74 (r16 - 1))) - (Int.tmod r84 (1 + (Int.tmod r74 (r16 - 1))))))) ∧ ((¬ (((((¬ (r97 = true)) ∨ ((r92.length : Int) ≠ (2 * ((1 + (Int.tmod r74 (r16 - 1))) - (Int.tmod r84 (1 + (Int.tmod r74 (r16 - 1))))))))) ∨ ((r104.length : Int) ≠ r16)))) → m_spec_OrderAfter r16 r92 (fun r134 => m_spec_CountInversions r134 (fun r144 => ((r144 ≠ 0) → Q false) ∧ (¬ (r144 ≠ 0) → LoopW1 0 (fun v387 next405 => ((v387 < r16) → LoopW1 0 (fun v411 next419 => ((v411 < v387) → ix v387 r104.length ∧ ix v411 ((r104[(Int.toNat v387)]!).length) ∧ ∃ r498 : Int, m_laws_btoi ((decide (v387 = (1 + (Int.tmod r74 (r16 - 1))))) && (decide (v411 = (Int.tmod r84 (1 + (Int.tmod r74 (r16 - 1))))))) (fun z => z = r498) ∧ ok64 (2 * r498) ∧ (((r104[(Int.toNat v387)]!)[(Int.toNat v411)]! ≠ (2 * r498)) → Q false) ∧ (¬ ((r104[(Int.toNat v387)]!)[(Int.toNat v411)]! ≠ (2 * r498)) → ok64 (v411 + 1) ∧ next419 (v411 + 1))) ∧ (¬ (v411 < v387) → (m_laws_FnUntwisting_K0 v387 next405)))) ∧ (¬ (v387 < r16) → (m_laws_FnUntwisting_K1 p0 r16 r17 Q))))))) ∧ (¬ (¬ (((((¬ (r97 = true)) ∨ ((r92.length : Int) ≠ (2 * ((1 + (Int.tmod r74 (r16 - 1))) - (Int.tmod r84 (1 + (Int.tmod r74 (r16 - 1))))))))) ∨ ((r104.length : Int) ≠ r16)))) → Q false)))))))))))))

end Go.Proofs.Ytcgkcoogaieolaa
