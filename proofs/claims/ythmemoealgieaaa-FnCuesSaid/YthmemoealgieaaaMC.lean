/- Plain models of functions of the program, printed by a program (gen2.py): what each asks and what it hands on. No statement of the claim stands here. -/
import Derived.Test.YthmemoealgieaaaPure
namespace Go.Proofs.Ythmemoealgieaaa
def m_laws_big (p0 : List Byte) (Q : Bool → Prop) : Prop :=
  Q (decide ((p0.length : Int) > 1048576))

abbrev m_spec_l01New_raw_K0 (Q : Int → Int → Prop) (v40 : Int) : Prop :=
  Q 0 v40
def m_spec_l01New_raw (p0 : List Byte) (Q : Int → Int → Prop) : Prop :=
  ok64 (33061 + (p0.length : Int)) ∧ LoopW2 (33061 + (p0.length : Int)) 0 (fun v43 v44 next52 => ((((v44 < (p0.length : Int)) ∧ (v44 < 4000))) → ix v44 p0.length ∧ ok64 (v44 + 1) ∧ next52 (wand (wadd (wadd (wmul v43 131) ((p0[(Int.toNat v44)]!).val : Int)) 7) 1073741823) (v44 + 1)) ∧ (¬ (((v44 < (p0.length : Int)) ∧ (v44 < 4000))) → (m_spec_l01New_raw_K0 Q) v43))
def m_spec_l01New (p0 : List Byte) (Q : Prop) : Prop := p0.length ≤ 1099511627776 ∧ Q

def m_spec_l01Byte_raw (p0 : List Byte) (i0 : Int) (h0 : Int) (Q : Int → Int → Int → Prop) : Prop :=
  ((i0 < (p0.length : Int)) → ix i0 p0.length ∧ ok64 (i0 + 1) ∧ Q (wand (wadd (wand (wxor (sar (wadd (wmul h0 6364136223846793005) 1442695040888963407) 33) (sar (wadd (wmul h0 6364136223846793005) 1442695040888963407) 45)) 255) ((p0[(Int.toNat i0)]!).val : Int)) 255) (i0 + 1) (wadd (wmul h0 6364136223846793005) 1442695040888963407)) ∧ (¬ (i0 < (p0.length : Int)) → Q (wand (wxor (sar (wadd (wmul h0 6364136223846793005) 1442695040888963407) 33) (sar (wadd (wmul h0 6364136223846793005) 1442695040888963407) 45)) 255) i0 (wadd (wmul h0 6364136223846793005) 1442695040888963407))
def m_spec_l01Byte (Q : Int → Prop) : Prop := ∀ r : Int, 0 ≤ r → r ≤ 255 → Q r

def m_spec_l01Below (p1 : Int) (Q : Int → Prop) : Prop :=
  ((p1 ≤ 0) → Q 0) ∧ (¬ (p1 ≤ 0) → ((p1 ≤ 256) → m_spec_l01Byte (fun r14 => p1 ≠ 0 ∧ Q (Int.tmod r14 p1))) ∧ (¬ (p1 ≤ 256) → m_spec_l01Byte (fun r21 => m_spec_l01Byte (fun r27 => m_spec_l01Byte (fun r33 => m_spec_l01Byte (fun r39 => ok64 (r21 * 16777216) ∧ ok64 (r27 * 65536) ∧ ok64 ((r21 * 16777216) + (r27 * 65536)) ∧ ok64 (r33 * 256) ∧ ok64 (((r21 * 16777216) + (r27 * 65536)) + (r33 * 256)) ∧ ok64 ((((r21 * 16777216) + (r27 * 65536)) + (r33 * 256)) + r39) ∧ p1 ≠ 0 ∧ Q (Int.tmod ((((r21 * 16777216) + (r27 * 65536)) + (r33 * 256)) + r39) p1)))))))

def m_spec_l01Once (p1 : Int) (Q : Bool → Prop) : Prop :=
  m_spec_l01Below p1 (fun r7 => Q (decide (r7 = 0)))

abbrev m_spec_l11List_K0 (x1281 : List CueC) (r1313 : Int) (x1431 : List Int) (kont1308 : List CueC → Prop) (x1604 : List Int) : Prop :=
  x1281.length + 1 ≤ 1099511627776 ∧ kont1308 (x1281 ++ ([((1 + r1313), x1431, x1604)]))
abbrev m_spec_l11List_K1 (x1281 : List CueC) (r1313 : Int) (kont1308 : List CueC → Prop) (x1431 : List Int) : Prop :=
  LoopW2 0 ([]) (fun v1611 x1612 next1631 => ((v1611 < 5) → m_spec_l01Once 3 (fun r1640 => ((r1640 = true) → x1612.length + 1 ≤ 1099511627776 ∧ ok64 (v1611 + 1) ∧ next1631 (v1611 + 1) (x1612 ++ ([v1611]))) ∧ (¬ (r1640 = true) → ok64 (v1611 + 1) ∧ next1631 (v1611 + 1) x1612))) ∧ (¬ (v1611 < 5) → (m_spec_l11List_K0 x1281 r1313 x1431 kont1308) x1612))
abbrev m_spec_l11List_K2 (v1287 : Int) (next1298 : List CueC → Int → Prop) (x1302 : List CueC) : Prop :=
  ok64 (v1287 + 1) ∧ next1298 x1302 (v1287 + 1)
abbrev m_spec_l11List_K3 (Q : (List CueC) → Prop) (x1273 : List CueC) : Prop :=
  Q x1273
def m_spec_l11List (Q : (List CueC) → Prop) : Prop :=
  m_spec_l01Below 7 (fun r19 => ok64 (1 + r19) ∧ LoopW2 ([]) 0 (fun x1281 v1287 next1298 => ((v1287 < (1 + r19)) → m_spec_l01Below 9 (fun r1313 => ok64 (1 + r1313) ∧ LoopW2 0 ([]) (fun v1438 x1439 next1457 => ((v1438 < v1287) → m_spec_l01Once 4 (fun r1466 => ((r1466 = true) → x1439.length + 1 ≤ 1099511627776 ∧ ok64 (v1438 + 1) ∧ next1457 (v1438 + 1) (x1439 ++ ([v1438]))) ∧ (¬ (r1466 = true) → ok64 (v1438 + 1) ∧ next1457 (v1438 + 1) x1439))) ∧ (¬ (v1438 < v1287) → (m_spec_l11List_K1 x1281 r1313 (m_spec_l11List_K2 v1287 next1298)) x1439)))) ∧ (¬ (v1287 < (1 + r19)) → (m_spec_l11List_K3 Q) x1281)))

def m_spec_DrawCues (p0 : List Byte) (Q : (List CueC) → Prop) : Prop :=
  m_spec_l01New p0 (m_spec_l11List (fun r13 => Q r13))

def m_impl_within (p0 : Int) (p1 : Int) (p2 : Int) (Q : Bool → Prop) : Prop :=
  Q ((decide (p0 ≥ p1)) && (decide (p0 ≤ p2)))

abbrev m_impl_allWithin_K0 (Q : Bool → Prop) : Prop :=
  Q true
def m_impl_allWithin (p0 : List Int) (p1 : Int) (p2 : Int) (Q : Bool → Prop) : Prop :=
  LoopW1 0 (fun v28 next36 => ((v28 < (p0.length : Int)) → ix v28 p0.length ∧ m_impl_within (p0[(Int.toNat v28)]!) p1 p2 (fun r47 => ((¬ (r47 = true)) → Q false) ∧ (¬ (¬ (r47 = true)) → ok64 (v28 + 1) ∧ next36 (v28 + 1)))) ∧ (¬ (v28 < (p0.length : Int)) → (m_impl_allWithin_K0 Q)))

abbrev m_impl_isStrict_K0 (p0 : List Int) (p1 : Int) (p2 : Int) (Q : Bool → Prop) : Prop :=
  m_impl_allWithin p0 p1 p2 (fun r200 => Q r200)
def m_impl_isStrict (p0 : List Int) (p1 : Int) (p2 : Int) (Q : Bool → Prop) : Prop :=
  LoopW1 0 (fun v98 next106 => ((v98 < (p0.length : Int)) → (v98 > 0 → ix v98 p0.length) ∧ (v98 > 0 → ok64 (v98 - 1)) ∧ (v98 > 0 → ix (v98 - 1) p0.length) ∧ ((((v98 > 0) ∧ (p0[(Int.toNat v98)]! ≤ p0[(Int.toNat (v98 - 1))]!))) → Q false) ∧ (¬ (((v98 > 0) ∧ (p0[(Int.toNat v98)]! ≤ p0[(Int.toNat (v98 - 1))]!))) → ok64 (v98 + 1) ∧ next106 (v98 + 1))) ∧ (¬ (v98 < (p0.length : Int)) → (m_impl_isStrict_K0 p0 p1 p2 Q)))

abbrev m_impl_waits_K0 (v337 : Int) (next346 : List (List Bool) → Int → Prop) (x350 : List (List Bool)) : Prop :=
  ok64 (v337 + 1) ∧ next346 x350 (v337 + 1)
abbrev m_impl_waits_K1 (v1729 : Int) (next1737 : List (List Bool) → Int → Prop) (x1741 : List (List Bool)) : Prop :=
  ok64 (v1729 + 1) ∧ next1737 x1741 (v1729 + 1)
abbrev m_impl_waits_K2 (v1708 : Int) (next1716 : List (List Bool) → Int → Prop) (x1720 : List (List Bool)) : Prop :=
  ok64 (v1708 + 1) ∧ next1716 x1720 (v1708 + 1)
abbrev m_impl_waits_K3 (Q : (List (List Bool)) → Prop) (x1700 : List (List Bool)) : Prop :=
  Q x1700
abbrev m_impl_waits_K4 (p0 : List CueC) (Q : (List (List Bool)) → Prop) (x329 : List (List Bool)) : Prop :=
  LoopW2 x329 0 (fun x1705 v1708 next1716 => ((v1708 < (p0.length : Int)) → LoopW2 x1705 0 (fun x1726 v1729 next1737 => ((v1729 < (p0.length : Int)) → LoopW2 x1726 0 (fun x1747 v1750 next1758 => ((v1750 < (p0.length : Int)) → ix v1729 x1747.length ∧ ix v1729 x1747.length ∧ ix v1750 ((x1747[(Int.toNat v1729)]!).length) ∧ (¬ (((x1747[(Int.toNat v1729)]!)[(Int.toNat v1750)]!) = true) → ix v1729 x1747.length) ∧ (¬ (((x1747[(Int.toNat v1729)]!)[(Int.toNat v1750)]!) = true) → ix v1708 ((x1747[(Int.toNat v1729)]!).length)) ∧ ((¬ (((x1747[(Int.toNat v1729)]!)[(Int.toNat v1750)]!) = true)) ∧ (((x1747[(Int.toNat v1729)]!)[(Int.toNat v1708)]!) = true) → ix v1708 x1747.length) ∧ ((¬ (((x1747[(Int.toNat v1729)]!)[(Int.toNat v1750)]!) = true)) ∧ (((x1747[(Int.toNat v1729)]!)[(Int.toNat v1708)]!) = true) → ix v1750 ((x1747[(Int.toNat v1708)]!).length)) ∧ ix v1750 ((x1747[(Int.toNat v1729)]!).length) ∧ ok64 (v1750 + 1) ∧ next1758 (x1747.set (Int.toNat v1729) (x1747[(Int.toNat v1729)]!.set (Int.toNat v1750) (((x1747[(Int.toNat v1729)]!)[(Int.toNat v1750)]!) || (((x1747[(Int.toNat v1729)]!)[(Int.toNat v1708)]!) && ((x1747[(Int.toNat v1708)]!)[(Int.toNat v1750)]!))))) (v1750 + 1)) ∧ (¬ (v1750 < (p0.length : Int)) → (m_impl_waits_K1 v1729 next1737) x1747))) ∧ (¬ (v1729 < (p0.length : Int)) → (m_impl_waits_K2 v1708 next1716) x1726))) ∧ (¬ (v1708 < (p0.length : Int)) → (m_impl_waits_K3 Q) x1705))
def m_impl_waits (p0 : List CueC) (Q : (List (List Bool)) → Prop) : Prop :=
  (0 ≤ (p0.length : Int) ∧ (p0.length : Int) ≤ 1099511627776) ∧ LoopW2 (List.replicate (Int.toNat (p0.length : Int)) ([] : List Bool)) 0 (fun x334 v337 next346 => ((v337 < (p0.length : Int)) → ix v337 p0.length ∧ (0 ≤ (p0.length : Int) ∧ (p0.length : Int) ≤ 1099511627776) ∧ ix v337 x334.length ∧ LoopW2 (x334.set (Int.toNat v337) (List.replicate (Int.toNat (p0.length : Int)) (false : Bool))) 0 (fun x390 v393 next403 => ((v393 < ((p0[(Int.toNat v337)]!.2.1).length : Int)) → ix v393 ((p0[(Int.toNat v337)]!.2.1).length) ∧ ok64 ((p0.length : Int) - 1) ∧ m_impl_within ((p0[(Int.toNat v337)]!.2.1)[(Int.toNat v393)]!) 0 ((p0.length : Int) - 1) (fun r415 => ((r415 = true) → ix v337 x390.length ∧ ix ((p0[(Int.toNat v337)]!.2.1)[(Int.toNat v393)]!) ((x390[(Int.toNat v337)]!).length) ∧ ok64 (v393 + 1) ∧ next403 (x390.set (Int.toNat v337) (x390[(Int.toNat v337)]!.set (Int.toNat ((p0[(Int.toNat v337)]!.2.1)[(Int.toNat v393)]!)) true)) (v393 + 1)) ∧ (¬ (r415 = true) → ok64 (v393 + 1) ∧ next403 x390 (v393 + 1)))) ∧ (¬ (v393 < ((p0[(Int.toNat v337)]!.2.1).length : Int)) → (m_impl_waits_K0 v337 next346) x390))) ∧ (¬ (v337 < (p0.length : Int)) → (m_impl_waits_K4 p0 Q) x334))

abbrev m_impl_CircleIn_K0 (Q : (List Int) → Prop) (x109 : List Int) : Prop :=
  Q x109
def m_impl_CircleIn (p0 : List CueC) (Q : (List Int) → Prop) : Prop :=
  (((p0.length : Int) > 12) → Q ([])) ∧ (¬ ((p0.length : Int) > 12) → m_impl_waits p0 (fun r12 => LoopW2 ([]) 0 (fun x115 v119 next129 => ((v119 < (p0.length : Int)) → ix v119 r12.length ∧ ix v119 ((r12[(Int.toNat v119)]!).length) ∧ ((((r12[(Int.toNat v119)]!)[(Int.toNat v119)]!) = true) → x115.length + 1 ≤ 1099511627776 ∧ ok64 (v119 + 1) ∧ next129 (x115 ++ ([v119])) (v119 + 1)) ∧ (¬ (((r12[(Int.toNat v119)]!)[(Int.toNat v119)]!) = true) → ok64 (v119 + 1) ∧ next129 x115 (v119 + 1))) ∧ (¬ (v119 < (p0.length : Int)) → (m_impl_CircleIn_K0 Q) x115))))

abbrev m_impl_CuesOk_K0 (p0 : List CueC) (Q : Bool → Prop) : Prop :=
  m_impl_CircleIn p0 (fun r139 => Q (decide ((r139.length : Int) = 0)))
def m_impl_CuesOk (p0 : List CueC) (Q : Bool → Prop) : Prop :=
  m_impl_within (p0.length : Int) 1 12 (fun r7 => ((¬ (r7 = true)) → Q false) ∧ (¬ (¬ (r7 = true)) → LoopW1 0 (fun v72 next80 => ((v72 < (p0.length : Int)) → ix v72 p0.length ∧ m_impl_within (p0[(Int.toNat v72)]!.1) 1 50 (fun r101 => (¬ (¬ (r101 = true)) → ok64 ((p0.length : Int) - 1)) ∧ ∃ r111 : Bool, (¬ (¬ (r101 = true)) → m_impl_isStrict (p0[(Int.toNat v72)]!.2.1) 0 ((p0.length : Int) - 1) (fun z => z = r111)) ∧ ∃ r121 : Bool, (¬ (((¬ (r101 = true)) ∨ (¬ (r111 = true)))) → m_impl_isStrict (p0[(Int.toNat v72)]!.2.2) 0 6 (fun z => z = r121)) ∧ ((((((¬ (r101 = true)) ∨ (¬ (r111 = true)))) ∨ (¬ (r121 = true)))) → Q false) ∧ (¬ (((((¬ (r101 = true)) ∨ (¬ (r111 = true)))) ∨ (¬ (r121 = true)))) → ok64 (v72 + 1) ∧ next80 (v72 + 1)))) ∧ (¬ (v72 < (p0.length : Int)) → (m_impl_CuesOk_K0 p0 Q)))))

abbrev m_impl_isNext_K0 (p1 : Int) (p2 : Int) (Q : Bool → Prop) : Prop :=
  (0 ≤ p1 ∧ p1 < 64) ∧ ((0 : Int) ≤ (sar p2 p1) ∧ (0 : Int) ≤ 1 ∧ ((sar p2 p1) : Int) < 9223372036854775808 ∧ (1 : Int) < 9223372036854775808) ∧ Q (decide ((band (sar p2 p1) 1) = 0))
def m_impl_isNext (p0 : CueC) (p1 : Int) (p2 : Int) (Q : Bool → Prop) : Prop :=
  LoopW1 0 (fun v31 next40 => ((v31 < (p0.2.1.length : Int)) → ix v31 p0.2.1.length ∧ (0 ≤ p0.2.1[(Int.toNat v31)]! ∧ p0.2.1[(Int.toNat v31)]! < 64) ∧ ((0 : Int) ≤ (sar p2 (p0.2.1[(Int.toNat v31)]!)) ∧ (0 : Int) ≤ 1 ∧ ((sar p2 (p0.2.1[(Int.toNat v31)]!)) : Int) < 9223372036854775808 ∧ (1 : Int) < 9223372036854775808) ∧ (((band (sar p2 (p0.2.1[(Int.toNat v31)]!)) 1) = 0) → Q false) ∧ (¬ ((band (sar p2 (p0.2.1[(Int.toNat v31)]!)) 1) = 0) → ok64 (v31 + 1) ∧ next40 (v31 + 1))) ∧ (¬ (v31 < (p0.2.1.length : Int)) → (m_impl_isNext_K0 p1 p2 Q)))

abbrev m_impl_CueOrder_K0 (Q : (List Int) → Prop) (x214 : List Int) : Prop :=
  Q x214
def m_impl_CueOrder (p0 : List CueC) (Q : (List Int) → Prop) : Prop :=
  m_impl_CuesOk p0 (fun r7 => ((¬ (r7 = true)) → Q ([])) ∧ (¬ (¬ (r7 = true)) → LoopW2 ([]) 0 (fun x219 v223 next231 => (((x219.length : Int) < (p0.length : Int)) → LoopW1 0 (fun v236 next244 => ((v236 < (p0.length : Int)) → ix v236 p0.length ∧ m_impl_isNext (p0[(Int.toNat v236)]!.1, p0[(Int.toNat v236)]!.2.1, p0[(Int.toNat v236)]!.2.2) v236 v223 (fun r265 => ((r265 = true) → x219.length + 1 ≤ 1099511627776 ∧ (0 ≤ v236 ∧ v236 < 64) ∧ ok64 (sal 1 v236) ∧ ((0 : Int) ≤ v223 ∧ (0 : Int) ≤ (sal 1 v236) ∧ (v223 : Int) < 9223372036854775808 ∧ ((sal 1 v236) : Int) < 9223372036854775808) ∧ next231 (x219 ++ ([v236])) (bor v223 (sal 1 v236))) ∧ (¬ (r265 = true) → ok64 (v236 + 1) ∧ next244 (v236 + 1)))) ∧ (¬ (v236 < (p0.length : Int)) → next231 x219 v223))) ∧ (¬ ((x219.length : Int) < (p0.length : Int)) → (m_impl_CueOrder_K0 Q) x219))))

abbrev m_impl_FreeCues_K0 (Q : (List Int) → Prop) (x116 : List Int) : Prop :=
  Q x116
def m_impl_FreeCues (p0 : List CueC) (Q : (List Int) → Prop) : Prop :=
  m_impl_CuesOk p0 (fun r7 => ((¬ (r7 = true)) → Q ([])) ∧ (¬ (¬ (r7 = true)) → LoopW2 ([]) 0 (fun x122 v126 next134 => ((v126 < (p0.length : Int)) → ix v126 p0.length ∧ ((((p0[(Int.toNat v126)]!.2.1).length : Int) = 0) → x122.length + 1 ≤ 1099511627776 ∧ ok64 (v126 + 1) ∧ next134 (x122 ++ ([v126])) (v126 + 1)) ∧ (¬ (((p0[(Int.toNat v126)]!.2.1).length : Int) = 0) → ok64 (v126 + 1) ∧ next134 x122 (v126 + 1))) ∧ (¬ (v126 < (p0.length : Int)) → (m_impl_FreeCues_K0 Q) x122))))

def m_impl_WaitsFor (p0 : List CueC) (p1 : Int) (p2 : Int) (Q : Bool → Prop) : Prop :=
  m_impl_CuesOk p0 (fun r6 => (r6 = true → ok64 ((p0.length : Int) - 1)) ∧ ∃ r15 : Bool, (r6 = true → m_impl_within p1 0 ((p0.length : Int) - 1) (fun z => z = r15)) ∧ (((r6 = true) ∧ (r15 = true)) → ok64 ((p0.length : Int) - 1)) ∧ ∃ r27 : Bool, (((r6 = true) ∧ (r15 = true)) → m_impl_within p2 0 ((p0.length : Int) - 1) (fun z => z = r27)) ∧ ((((((r6 = true) ∧ (r15 = true))) ∧ (r27 = true))) → m_impl_waits p0 (fun r37 => ix p1 r37.length ∧ ix p2 ((r37[(Int.toNat p1)]!).length) ∧ Q ((r37[(Int.toNat p1)]!)[(Int.toNat p2)]!))) ∧ (¬ (((((r6 = true) ∧ (r15 = true))) ∧ (r27 = true))) → Q false))

abbrev m_laws_has_K0 (Q : Bool → Prop) : Prop :=
  Q false
def m_laws_has (p0 : List Int) (p1 : Int) (Q : Bool → Prop) : Prop :=
  LoopW1 0 (fun v21 next29 => ((v21 < (p0.length : Int)) → ix v21 p0.length ∧ ((p0[(Int.toNat v21)]! = p1) → Q true) ∧ (¬ (p0[(Int.toNat v21)]! = p1) → ok64 (v21 + 1) ∧ next29 (v21 + 1))) ∧ (¬ (v21 < (p0.length : Int)) → (m_laws_has_K0 Q)))

abbrev m_impl_CountOrders_K0 (v553 : Int) (next561 : List Int → Int → Prop) (x565 : List Int) : Prop :=
  ok64 (v553 + 1) ∧ next561 x565 (v553 + 1)
abbrev m_impl_CountOrders_K1 (Q : Int → Prop) (x549 : List Int) : Prop :=
  ok64 ((x549.length : Int) - 1) ∧ ix ((x549.length : Int) - 1) x549.length ∧ Q (x549[(Int.toNat ((x549.length : Int) - 1))]!)
def m_impl_CountOrders (p0 : List CueC) (Q : Int → Prop) : Prop :=
  m_impl_CuesOk p0 (fun r7 => ((((¬ (r7 = true)) ∨ ((p0.length : Int) > 10))) → Q (-1)) ∧ (¬ (((¬ (r7 = true)) ∨ ((p0.length : Int) > 10))) → (0 ≤ (p0.length : Int) ∧ (p0.length : Int) < 64) ∧ ok64 (sal 1 (p0.length : Int)) ∧ (0 ≤ (sal 1 (p0.length : Int)) ∧ (sal 1 (p0.length : Int)) ≤ 1099511627776) ∧ ix 0 ((List.replicate (Int.toNat (sal 1 (p0.length : Int))) (0 : Int)).length) ∧ LoopW2 ((List.replicate (Int.toNat (sal 1 (p0.length : Int))) (0 : Int)).set 0 1) 0 (fun x552 v553 next561 => ((v553 < (((List.replicate (Int.toNat (sal 1 (p0.length : Int))) (0 : Int)).set 0 1).length : Int)) → LoopW2 x552 0 (fun x569 v570 next578 => ((v570 < (p0.length : Int)) → ix v570 p0.length ∧ ix v553 x569.length ∧ ∃ r601 : Bool, (x569[(Int.toNat v553)]! > 0 → m_impl_isNext (p0[(Int.toNat v570)]!.1, p0[(Int.toNat v570)]!.2.1, p0[(Int.toNat v570)]!.2.2) v570 v553 (fun z => z = r601)) ∧ ((((x569[(Int.toNat v553)]! > 0) ∧ (r601 = true))) → (0 ≤ v570 ∧ v570 < 64) ∧ ok64 (sal 1 v570) ∧ ((0 : Int) ≤ v553 ∧ (0 : Int) ≤ (sal 1 v570) ∧ (v553 : Int) < 9223372036854775808 ∧ ((sal 1 v570) : Int) < 9223372036854775808) ∧ ix (bor v553 (sal 1 v570)) x569.length ∧ ix v553 x569.length ∧ ok64 (x569[(Int.toNat (bor v553 (sal 1 v570)))]! + x569[(Int.toNat v553)]!) ∧ ix (bor v553 (sal 1 v570)) x569.length ∧ ok64 (v570 + 1) ∧ next578 (x569.set (Int.toNat (bor v553 (sal 1 v570))) (x569[(Int.toNat (bor v553 (sal 1 v570)))]! + x569[(Int.toNat v553)]!)) (v570 + 1)) ∧ (¬ (((x569[(Int.toNat v553)]! > 0) ∧ (r601 = true))) → ok64 (v570 + 1) ∧ next578 x569 (v570 + 1))) ∧ (¬ (v570 < (p0.length : Int)) → (m_impl_CountOrders_K0 v553 next561) x569))) ∧ (¬ (v553 < (((List.replicate (Int.toNat (sal 1 (p0.length : Int))) (0 : Int)).set 0 1).length : Int)) → (m_impl_CountOrders_K1 Q) x552))))

abbrev m_laws_sameInts_K0 (Q : Bool → Prop) : Prop :=
  Q true
def m_laws_sameInts (p0 : List Int) (p1 : List Int) (Q : Bool → Prop) : Prop :=
  (((p0.length : Int) ≠ (p1.length : Int)) → Q false) ∧ (¬ ((p0.length : Int) ≠ (p1.length : Int)) → LoopW1 0 (fun v70 next78 => ((v70 < (p0.length : Int)) → ix v70 p0.length ∧ ix v70 p1.length ∧ ((p0[(Int.toNat v70)]! ≠ p1[(Int.toNat v70)]!) → Q false) ∧ (¬ (p0[(Int.toNat v70)]! ≠ p1[(Int.toNat v70)]!) → ok64 (v70 + 1) ∧ next78 (v70 + 1))) ∧ (¬ (v70 < (p0.length : Int)) → (m_laws_sameInts_K0 Q))))

abbrev m_laws_FnCues_K0 (r16 : List CueC) (r226 : List Int) (v618 : Int) (Q : Bool → Prop) (kont633 : Prop) : Prop :=
  ∃ r810 : Bool, m_laws_has r226 v618 (fun z => z = r810) ∧ ix v618 r16.length ∧ (((r810) ≠ (decide (((r16[(Int.toNat v618)]!.2.1).length : Int) = 0))) → Q false) ∧ (¬ ((r810) ≠ (decide (((r16[(Int.toNat v618)]!.2.1).length : Int) = 0))) → kont633)
abbrev m_laws_FnCues_K1 (r16 : List CueC) (r226 : List Int) (v618 : Int) (Q : Bool → Prop) (kont633 : Prop) : Prop :=
  LoopW1 0 (fun v764 next772 => ix v618 r16.length ∧ ((v764 < ((r16[(Int.toNat v618)]!.2.1).length : Int)) → ix v618 r16.length ∧ ix v764 ((r16[(Int.toNat v618)]!.2.1).length) ∧ m_impl_WaitsFor r16 v618 ((r16[(Int.toNat v618)]!.2.1)[(Int.toNat v764)]!) (fun r784 => ((¬ (r784 = true)) → Q false) ∧ (¬ (¬ (r784 = true)) → ok64 (v764 + 1) ∧ next772 (v764 + 1)))) ∧ (¬ (v764 < ((r16[(Int.toNat v618)]!.2.1).length : Int)) → (m_laws_FnCues_K0 r16 r226 v618 Q kont633)))
abbrev m_laws_FnCues_K2 (v618 : Int) (next629 : Int → Prop) : Prop :=
  ok64 (v618 + 1) ∧ next629 (v618 + 1)
abbrev m_laws_FnCues_K3 (r16 : List CueC) (v166 : Int) (r226 : List Int) (Q : Bool → Prop) : Prop :=
  m_impl_CountOrders r16 (fun r864 => (0 ≤ (r16.length : Int) ∧ (r16.length : Int) < 64) ∧ ok64 (sal 1 (r16.length : Int)) ∧ ok64 ((sal 1 (r16.length : Int)) - 1) ∧ ((((((v166 = ((sal 1 (r16.length : Int)) - 1)) ∧ (r864 ≥ 1))) ∧ ((r226.length : Int) ≥ 1))) → m_impl_CircleIn ([(1, [1], []), (1, [0], [])]) (fun r920 => m_laws_sameInts r920 ([0, 1]) (fun r936 => ∃ r941 : Bool, (r936 = true → m_impl_CuesOk ([(1, [1], []), (1, [0], [])]) (fun z => z = r941)) ∧ Q (r936 && (!r941))))) ∧ (¬ (((((v166 = ((sal 1 (r16.length : Int)) - 1)) ∧ (r864 ≥ 1))) ∧ ((r226.length : Int) ≥ 1))) → Q false))
abbrev m_laws_FnCues_K4 (r16 : List CueC) (Q : Bool → Prop) (x165 : List Int) (v166 : Int) : Prop :=
  m_impl_FreeCues r16 (fun r226 => LoopW1 0 (fun v618 next629 => ((v618 < (r16.length : Int)) → LoopW1 0 (fun v636 next644 => ((v636 < (r16.length : Int)) → m_impl_WaitsFor r16 v618 v636 (fun r653 => (r653 = true → ix v636 x165.length) ∧ (r653 = true → ix v618 x165.length) ∧ ∃ r741 : Bool, ((r653 = true) ∧ (¬ (x165[(Int.toNat v636)]! ≥ x165[(Int.toNat v618)]!)) → m_impl_WaitsFor r16 v636 v618 (fun z => z = r741)) ∧ ((((r653 = true) ∧ (((x165[(Int.toNat v636)]! ≥ x165[(Int.toNat v618)]!) ∨ (r741 = true))))) → Q false) ∧ (¬ (((r653 = true) ∧ (((x165[(Int.toNat v636)]! ≥ x165[(Int.toNat v618)]!) ∨ (r741 = true))))) → ok64 (v636 + 1) ∧ next644 (v636 + 1)))) ∧ (¬ (v636 < (r16.length : Int)) → (m_laws_FnCues_K1 r16 r226 v618 Q (m_laws_FnCues_K2 v618 next629))))) ∧ (¬ (v618 < (r16.length : Int)) → (m_laws_FnCues_K3 r16 v166 r226 Q))))
def m_laws_FnCues (p0 : List Byte) (Q : Bool → Prop) : Prop :=
  m_laws_big p0 (fun r7 => ((r7 = true) → Q true) ∧ (¬ (r7 = true) → m_spec_DrawCues p0 (fun r16 => m_impl_CueOrder r16 (fun r31 => m_impl_CuesOk r16 (fun r44 => ((¬ (((¬ (r44 = true)) ∨ ((r31.length : Int) ≠ (r16.length : Int))))) → m_impl_CircleIn r16 (fun r55 => (((r55.length : Int) ≠ 0) → Q false) ∧ (¬ ((r55.length : Int) ≠ 0) → (0 ≤ (r16.length : Int) ∧ (r16.length : Int) ≤ 1099511627776) ∧ LoopW3 (List.replicate (Int.toNat (r16.length : Int)) (0 : Int)) 0 0 (fun x169 v170 v171 next184 => ((v171 < (r16.length : Int)) → ix v171 r31.length ∧ (¬ (r31[(Int.toNat v171)]! < 0) → ix v171 r31.length) ∧ ((((r31[(Int.toNat v171)]! < 0) ∨ (r31[(Int.toNat v171)]! ≥ (r16.length : Int)))) → Q false) ∧ (¬ (((r31[(Int.toNat v171)]! < 0) ∨ (r31[(Int.toNat v171)]! ≥ (r16.length : Int)))) → ix v171 r31.length ∧ ix (r31[(Int.toNat v171)]!) x169.length ∧ ix v171 r31.length ∧ (0 ≤ r31[(Int.toNat v171)]! ∧ r31[(Int.toNat v171)]! < 64) ∧ ok64 (sal 1 (r31[(Int.toNat v171)]!)) ∧ ((0 : Int) ≤ v170 ∧ (0 : Int) ≤ (sal 1 (r31[(Int.toNat v171)]!)) ∧ (v170 : Int) < 9223372036854775808 ∧ ((sal 1 (r31[(Int.toNat v171)]!)) : Int) < 9223372036854775808) ∧ ok64 (v171 + 1) ∧ next184 (x169.set (Int.toNat (r31[(Int.toNat v171)]!)) v171) (bor v170 (sal 1 (r31[(Int.toNat v171)]!))) (v171 + 1))) ∧ (¬ (v171 < (r16.length : Int)) → (m_laws_FnCues_K4 r16 Q) x169 v170))))) ∧ (¬ (¬ (((¬ (r44 = true)) ∨ ((r31.length : Int) ≠ (r16.length : Int))))) → Q false))))))

end Go.Proofs.Ythmemoealgieaaa
