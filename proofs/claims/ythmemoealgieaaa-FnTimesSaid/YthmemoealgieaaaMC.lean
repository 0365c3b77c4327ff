/- Plain models of functions of the program, printed by a program (gen2.py): what each asks and what it hands on. No statement of the claim stands here. -/
import Derived.Test.YthmemoealgieaaaPure
namespace Go.Proofs.Ythmemoealgieaaa
def m_laws_big (p0 : List Byte) (Q : Bool → Prop) : Prop :=
  Q (decide ((p0.length : Int) > 1048576))

abbrev m_spec_l01New_raw_K0 (Q : Int → Int → Prop) (v40 : Int) : Prop :=
  Q 0 v40
def m_spec_l01New_raw (p0 : List Byte) (Q : Int → Int → Prop) : Prop :=
  ok64 (33061 + (p0.length : Int)) ∧ LoopW2 (33061 + (p0.length : Int)) 0 (fun v43 v44 next52 => ((((v44 < (p0.length : Int)) ∧ (v44 < 4000))) → ix v44 p0.length ∧ ok64 (v44 + 1) ∧ next52 (wand (wadd (wadd (wmul v43 131) ((p0[(Int.toNat v44)]!).val : Int)) 7) 1073741823) (v44 + 1)) ∧ (¬ (((v44 < (p0.length : Int)) ∧ (v44 < 4000))) → (m_spec_l01New_raw_K0 Q) v43))
def m_spec_l01New (p0 : List Byte) (Q : Prop) : Prop := p0.length ≤ 1099511627776 ∧ Q

def m_spec_l01Byte_raw (p0 : List Byte) (i0 : Int) (h0 : Int) (Q : Int → Int → Int → Prop) : Prop :=
  ((i0 < (p0.length : Int)) → ix i0 p0.length ∧ ok64 (i0 + 1) ∧ Q (wand (wadd (wand (wxor (sar (wadd (wmul h0 6364136223846793005) 1442695040888963407) 33) (sar (wadd (wmul h0 6364136223846793005) 1442695040888963407) 45)) 255) ((p0[(Int.toNat i0)]!).val : Int)) 255) (i0 + 1) (wadd (wmul h0 6364136223846793005) 1442695040888963407)) ∧ (¬ (i0 < (p0.length : Int)) → Q (wand (wxor (sar (wadd (wmul h0 6364136223846793005) 1442695040888963407) 33) (sar (wadd (wmul h0 6364136223846793005) 1442695040888963407) 45)) 255) i0 (wadd (wmul h0 6364136223846793005) 1442695040888963407))
def m_spec_l01Byte (Q : Int → Prop) : Prop := ∀ r : Int, 0 ≤ r → r ≤ 255 → Q r

def m_spec_l01Below (p1 : Int) (Q : Int → Prop) : Prop :=
  ((p1 ≤ 0) → Q 0) ∧ (¬ (p1 ≤ 0) → ((p1 ≤ 256) → m_spec_l01Byte (fun r14 => p1 ≠ 0 ∧ Q (Int.tmod r14 p1))) ∧ (¬ (p1 ≤ 256) → m_spec_l01Byte (fun r21 => m_spec_l01Byte (fun r27 => m_spec_l01Byte (fun r33 => m_spec_l01Byte (fun r39 => ok64 (r21 * 16777216) ∧ ok64 (r27 * 65536) ∧ ok64 ((r21 * 16777216) + (r27 * 65536)) ∧ ok64 (r33 * 256) ∧ ok64 (((r21 * 16777216) + (r27 * 65536)) + (r33 * 256)) ∧ ok64 ((((r21 * 16777216) + (r27 * 65536)) + (r33 * 256)) + r39) ∧ p1 ≠ 0 ∧ Q (Int.tmod ((((r21 * 16777216) + (r27 * 65536)) + (r33 * 256)) + r39) p1)))))))

def m_spec_l01Once (p1 : Int) (Q : Bool → Prop) : Prop :=
  m_spec_l01Below p1 (fun r7 => Q (decide (r7 = 0)))

abbrev m_spec_l11List_K0 (x1281 : List CueC) (r1313 : Int) (x1431 : List Int) (kont1308 : List CueC → Prop) (x1604 : List Int) : Prop :=
  x1281.length + 1 ≤ 1099511627776 ∧ kont1308 (x1281 ++ ([((1 + r1313), x1431, x1604)]))
abbrev m_spec_l11List_K1 (x1281 : List CueC) (r1313 : Int) (kont1308 : List CueC → Prop) (x1431 : List Int) : Prop :=
  LoopW2 0 ([]) (fun v1611 x1612 next1631 => ((v1611 < 5) → m_spec_l01Once 3 (fun r1640 => ((r1640 = true) → x1612.length + 1 ≤ 1099511627776 ∧ ok64 (v1611 + 1) ∧ next1631 (v1611 + 1) (x1612 ++ ([v1611]))) ∧ (¬ (r1640 = true) → ok64 (v1611 + 1) ∧ next1631 (v1611 + 1) x1612))) ∧ (¬ (v1611 < 5) → (m_spec_l11List_K0 x1281 r1313 x1431 kont1308) x1612))
abbrev m_spec_l11List_K2 (v1287 : Int) (next1298 : List CueC → Int → Prop) (x1302 : List CueC) : Prop :=
  ok64 (v1287 + 1) ∧ next1298 x1302 (v1287 + 1)
abbrev m_spec_l11List_K3 (Q : (List CueC) → Prop) (x1273 : List CueC) : Prop :=
  Q x1273
def m_spec_l11List (Q : (List CueC) → Prop) : Prop :=
  m_spec_l01Below 7 (fun r19 => ok64 (1 + r19) ∧ LoopW2 ([]) 0 (fun x1281 v1287 next1298 => ((v1287 < (1 + r19)) → m_spec_l01Below 9 (fun r1313 => ok64 (1 + r1313) ∧ LoopW2 0 ([]) (fun v1438 x1439 next1457 => ((v1438 < v1287) → m_spec_l01Once 4 (fun r1466 => ((r1466 = true) → x1439.length + 1 ≤ 1099511627776 ∧ ok64 (v1438 + 1) ∧ next1457 (v1438 + 1) (x1439 ++ ([v1438]))) ∧ (¬ (r1466 = true) → ok64 (v1438 + 1) ∧ next1457 (v1438 + 1) x1439))) ∧ (¬ (v1438 < v1287) → (m_spec_l11List_K1 x1281 r1313 (m_spec_l11List_K2 v1287 next1298)) x1439)))) ∧ (¬ (v1287 < (1 + r19)) → (m_spec_l11List_K3 Q) x1281)))

def m_spec_DrawCues (p0 : List Byte) (Q : (List CueC) → Prop) : Prop :=
  m_spec_l01New p0 (m_spec_l11List (fun r13 => Q r13))

def m_impl_within (p0 : Int) (p1 : Int) (p2 : Int) (Q : Bool → Prop) : Prop :=
  Q ((decide (p0 ≥ p1)) && (decide (p0 ≤ p2)))

abbrev m_impl_allWithin_K0 (Q : Bool → Prop) : Prop :=
  Q true
def m_impl_allWithin (p0 : List Int) (p1 : Int) (p2 : Int) (Q : Bool → Prop) : Prop :=
  LoopW1 0 (fun v28 next36 => ((v28 < (p0.length : Int)) → ix v28 p0.length ∧ m_impl_within (p0[(Int.toNat v28)]!) p1 p2 (fun r47 => ((¬ (r47 = true)) → Q false) ∧ (¬ (¬ (r47 = true)) → ok64 (v28 + 1) ∧ next36 (v28 + 1)))) ∧ (¬ (v28 < (p0.length : Int)) → (m_impl_allWithin_K0 Q)))

abbrev m_impl_isStrict_K0 (p0 : List Int) (p1 : Int) (p2 : Int) (Q : Bool → Prop) : Prop :=
  m_impl_allWithin p0 p1 p2 (fun r200 => Q r200)
def m_impl_isStrict (p0 : List Int) (p1 : Int) (p2 : Int) (Q : Bool → Prop) : Prop :=
  LoopW1 0 (fun v98 next106 => ((v98 < (p0.length : Int)) → (v98 > 0 → ix v98 p0.length) ∧ (v98 > 0 → ok64 (v98 - 1)) ∧ (v98 > 0 → ix (v98 - 1) p0.length) ∧ ((((v98 > 0) ∧ (p0[(Int.toNat v98)]! ≤ p0[(Int.toNat (v98 - 1))]!))) → Q false) ∧ (¬ (((v98 > 0) ∧ (p0[(Int.toNat v98)]! ≤ p0[(Int.toNat (v98 - 1))]!))) → ok64 (v98 + 1) ∧ next106 (v98 + 1))) ∧ (¬ (v98 < (p0.length : Int)) → (m_impl_isStrict_K0 p0 p1 p2 Q)))

abbrev m_impl_waits_K0 (v337 : Int) (next346 : List (List Bool) → Int → Prop) (x350 : List (List Bool)) : Prop :=
  ok64 (v337 + 1) ∧ next346 x350 (v337 + 1)
abbrev m_impl_waits_K1 (v1729 : Int) (next1737 : List (List Bool) → Int → Prop) (x1741 : List (List Bool)) : Prop :=
  ok64 (v1729 + 1) ∧ next1737 x1741 (v1729 + 1)
abbrev m_impl_waits_K2 (v1708 : Int) (next1716 : List (List Bool) → Int → Prop) (x1720 : List (List Bool)) : Prop :=
  ok64 (v1708 + 1) ∧ next1716 x1720 (v1708 + 1)
abbrev m_impl_waits_K3 (Q : (List (List Bool)) → Prop) (x1700 : List (List Bool)) : Prop :=
  Q x1700
abbrev m_impl_waits_K4 (p0 : List CueC) (Q : (List (List Bool)) → Prop) (x329 : List (List Bool)) : Prop :=
  LoopW2 x329 0 (fun x1705 v1708 next1716 => ((v1708 < (p0.length : Int)) → LoopW2 x1705 0 (fun x1726 v1729 next1737 => ((v1729 < (p0.length : Int)) → LoopW2 x1726 0 (fun x1747 v1750 next1758 => ((v1750 < (p0.length : Int)) → ix v1729 x1747.length ∧ ix v1729 x1747.length ∧ ix v1750 ((x1747[(Int.toNat v1729)]!).length) ∧ (¬ (((x1747[(Int.toNat v1729)]!)[(Int.toNat v1750)]!) = true) → ix v1729 x1747.length) ∧ (¬ (((x1747[(Int.toNat v1729)]!)[(Int.toNat v1750)]!) = true) → ix v1708 ((x1747[(Int.toNat v1729)]!).length)) ∧ ((¬ (((x1747[(Int.toNat v1729)]!)[(Int.toNat v1750)]!) = true)) ∧ (((x1747[(Int.toNat v1729)]!)[(Int.toNat v1708)]!) = true) → ix v1708 x1747.length) ∧ ((¬ (((x1747[(Int.toNat v1729)]!)[(Int.toNat v1750)]!) = true)) ∧ (((x1747[(Int.toNat v1729)]!)[(Int.toNat v1708)]!) = true) → ix v1750 ((x1747[(Int.toNat v1708)]!).length)) ∧ ix v1750 ((x1747[(Int.toNat v1729)]!).length) ∧ ok64 (v1750 + 1) ∧ next1758 (x1747.set (Int.toNat v1729) (x1747[(Int.toNat v1729)]!.set (Int.toNat v1750) (((x1747[(Int.toNat v1729)]!)[(Int.toNat v1750)]!) || (((x1747[(Int.toNat v1729)]!)[(Int.toNat v1708)]!) && ((x1747[(Int.toNat v1708)]!)[(Int.toNat v1750)]!))))) (v1750 + 1)) ∧ (¬ (v1750 < (p0.length : Int)) → (m_impl_waits_K1 v1729 next1737) x1747))) ∧ (¬ (v1729 < (p0.length : Int)) → (m_impl_waits_K2 v1708 next1716) x1726))) ∧ (¬ (v1708 < (p0.length : Int)) → (m_impl_waits_K3 Q) x1705))
def m_impl_waits (p0 : List CueC) (Q : (List (List Bool)) → Prop) : Prop :=
  (0 ≤ (p0.length : Int) ∧ (p0.length : Int) ≤ 1099511627776) ∧ LoopW2 (List.replicate (Int.toNat (p0.length : Int)) ([] : List Bool)) 0 (fun x334 v337 next346 => ((v337 < (p0.length : Int)) → ix v337 p0.length ∧ (0 ≤ (p0.length : Int) ∧ (p0.length : Int) ≤ 1099511627776) ∧ ix v337 x334.length ∧ LoopW2 (x334.set (Int.toNat v337) (List.replicate (Int.toNat (p0.length : Int)) (false : Bool))) 0 (fun x390 v393 next403 => ((v393 < ((p0[(Int.toNat v337)]!.2.1).length : Int)) → ix v393 ((p0[(Int.toNat v337)]!.2.1).length) ∧ ok64 ((p0.length : Int) - 1) ∧ m_impl_within ((p0[(Int.toNat v337)]!.2.1)[(Int.toNat v393)]!) 0 ((p0.length : Int) - 1) (fun r415 => ((r415 = true) → ix v337 x390.length ∧ ix ((p0[(Int.toNat v337)]!.2.1)[(Int.toNat v393)]!) ((x390[(Int.toNat v337)]!).length) ∧ ok64 (v393 + 1) ∧ next403 (x390.set (Int.toNat v337) (x390[(Int.toNat v337)]!.set (Int.toNat ((p0[(Int.toNat v337)]!.2.1)[(Int.toNat v393)]!)) true)) (v393 + 1)) ∧ (¬ (r415 = true) → ok64 (v393 + 1) ∧ next403 x390 (v393 + 1)))) ∧ (¬ (v393 < ((p0[(Int.toNat v337)]!.2.1).length : Int)) → (m_impl_waits_K0 v337 next346) x390))) ∧ (¬ (v337 < (p0.length : Int)) → (m_impl_waits_K4 p0 Q) x334))

abbrev m_impl_CircleIn_K0 (Q : (List Int) → Prop) (x109 : List Int) : Prop :=
  Q x109
def m_impl_CircleIn (p0 : List CueC) (Q : (List Int) → Prop) : Prop :=
  (((p0.length : Int) > 12) → Q ([])) ∧ (¬ ((p0.length : Int) > 12) → m_impl_waits p0 (fun r12 => LoopW2 ([]) 0 (fun x115 v119 next129 => ((v119 < (p0.length : Int)) → ix v119 r12.length ∧ ix v119 ((r12[(Int.toNat v119)]!).length) ∧ ((((r12[(Int.toNat v119)]!)[(Int.toNat v119)]!) = true) → x115.length + 1 ≤ 1099511627776 ∧ ok64 (v119 + 1) ∧ next129 (x115 ++ ([v119])) (v119 + 1)) ∧ (¬ (((r12[(Int.toNat v119)]!)[(Int.toNat v119)]!) = true) → ok64 (v119 + 1) ∧ next129 x115 (v119 + 1))) ∧ (¬ (v119 < (p0.length : Int)) → (m_impl_CircleIn_K0 Q) x115))))

abbrev m_impl_CuesOk_K0 (p0 : List CueC) (Q : Bool → Prop) : Prop :=
  m_impl_CircleIn p0 (fun r139 => Q (decide ((r139.length : Int) = 0)))
def m_impl_CuesOk (p0 : List CueC) (Q : Bool → Prop) : Prop :=
  m_impl_within (p0.length : Int) 1 12 (fun r7 => ((¬ (r7 = true)) → Q false) ∧ (¬ (¬ (r7 = true)) → LoopW1 0 (fun v72 next80 => ((v72 < (p0.length : Int)) → ix v72 p0.length ∧ m_impl_within (p0[(Int.toNat v72)]!.1) 1 50 (fun r101 => (¬ (¬ (r101 = true)) → ok64 ((p0.length : Int) - 1)) ∧ ∃ r111 : Bool, (¬ (¬ (r101 = true)) → m_impl_isStrict (p0[(Int.toNat v72)]!.2.1) 0 ((p0.length : Int) - 1) (fun z => z = r111)) ∧ ∃ r121 : Bool, (¬ (((¬ (r101 = true)) ∨ (¬ (r111 = true)))) → m_impl_isStrict (p0[(Int.toNat v72)]!.2.2) 0 6 (fun z => z = r121)) ∧ ((((((¬ (r101 = true)) ∨ (¬ (r111 = true)))) ∨ (¬ (r121 = true)))) → Q false) ∧ (¬ (((((¬ (r101 = true)) ∨ (¬ (r111 = true)))) ∨ (¬ (r121 = true)))) → ok64 (v72 + 1) ∧ next80 (v72 + 1)))) ∧ (¬ (v72 < (p0.length : Int)) → (m_impl_CuesOk_K0 p0 Q)))))

abbrev m_impl_isNext_K0 (p1 : Int) (p2 : Int) (Q : Bool → Prop) : Prop :=
  (0 ≤ p1 ∧ p1 < 64) ∧ ((0 : Int) ≤ (sar p2 p1) ∧ (0 : Int) ≤ 1 ∧ ((sar p2 p1) : Int) < 9223372036854775808 ∧ (1 : Int) < 9223372036854775808) ∧ Q (decide ((band (sar p2 p1) 1) = 0))
def m_impl_isNext (p0 : CueC) (p1 : Int) (p2 : Int) (Q : Bool → Prop) : Prop :=
  LoopW1 0 (fun v31 next40 => ((v31 < (p0.2.1.length : Int)) → ix v31 p0.2.1.length ∧ (0 ≤ p0.2.1[(Int.toNat v31)]! ∧ p0.2.1[(Int.toNat v31)]! < 64) ∧ ((0 : Int) ≤ (sar p2 (p0.2.1[(Int.toNat v31)]!)) ∧ (0 : Int) ≤ 1 ∧ ((sar p2 (p0.2.1[(Int.toNat v31)]!)) : Int) < 9223372036854775808 ∧ (1 : Int) < 9223372036854775808) ∧ (((band (sar p2 (p0.2.1[(Int.toNat v31)]!)) 1) = 0) → Q false) ∧ (¬ ((band (sar p2 (p0.2.1[(Int.toNat v31)]!)) 1) = 0) → ok64 (v31 + 1) ∧ next40 (v31 + 1))) ∧ (¬ (v31 < (p0.2.1.length : Int)) → (m_impl_isNext_K0 p1 p2 Q)))

abbrev m_impl_CueOrder_K0 (Q : (List Int) → Prop) (x214 : List Int) : Prop :=
  Q x214
def m_impl_CueOrder (p0 : List CueC) (Q : (List Int) → Prop) : Prop :=
  m_impl_CuesOk p0 (fun r7 => ((¬ (r7 = true)) → Q ([])) ∧ (¬ (¬ (r7 = true)) → LoopW2 ([]) 0 (fun x219 v223 next231 => (((x219.length : Int) < (p0.length : Int)) → LoopW1 0 (fun v236 next244 => ((v236 < (p0.length : Int)) → ix v236 p0.length ∧ m_impl_isNext (p0[(Int.toNat v236)]!.1, p0[(Int.toNat v236)]!.2.1, p0[(Int.toNat v236)]!.2.2) v236 v223 (fun r265 => ((r265 = true) → x219.length + 1 ≤ 1099511627776 ∧ (0 ≤ v236 ∧ v236 < 64) ∧ ok64 (sal 1 v236) ∧ ((0 : Int) ≤ v223 ∧ (0 : Int) ≤ (sal 1 v236) ∧ (v223 : Int) < 9223372036854775808 ∧ ((sal 1 v236) : Int) < 9223372036854775808) ∧ next231 (x219 ++ ([v236])) (bor v223 (sal 1 v236))) ∧ (¬ (r265 = true) → ok64 (v236 + 1) ∧ next244 (v236 + 1)))) ∧ (¬ (v236 < (p0.length : Int)) → next231 x219 v223))) ∧ (¬ ((x219.length : Int) < (p0.length : Int)) → (m_impl_CueOrder_K0 Q) x219))))

abbrev m_impl_StartsOf_K0 (v537 : Int) (next546 : List Int → Int → Prop) (x550 : List Int) : Prop :=
  ok64 (v537 + 1) ∧ next546 x550 (v537 + 1)
abbrev m_impl_StartsOf_K1 (Q : (List Int) → Prop) (x523 : List Int) : Prop :=
  Q x523
def m_impl_StartsOf (p0 : List CueC) (Q : (List Int) → Prop) : Prop :=
  m_impl_CuesOk p0 (fun r7 => ((¬ (r7 = true)) → Q ([])) ∧ (¬ (¬ (r7 = true)) → (0 ≤ (p0.length : Int) ∧ (p0.length : Int) ≤ 1099511627776) ∧ m_impl_CueOrder p0 (fun r529 => LoopW2 (List.replicate (Int.toNat (p0.length : Int)) (0 : Int)) 0 (fun x536 v537 next546 => ((v537 < (r529.length : Int)) → ix v537 r529.length ∧ ix (r529[(Int.toNat v537)]!) p0.length ∧ LoopW2 x536 0 (fun x556 v557 next565 => ((v557 < ((p0[(Int.toNat (r529[(Int.toNat v537)]!))]!.2.1).length : Int)) → ix v557 ((p0[(Int.toNat (r529[(Int.toNat v537)]!))]!.2.1).length) ∧ ix (r529[(Int.toNat v537)]!) x556.length ∧ ix ((p0[(Int.toNat (r529[(Int.toNat v537)]!))]!.2.1)[(Int.toNat v557)]!) x556.length ∧ ix ((p0[(Int.toNat (r529[(Int.toNat v537)]!))]!.2.1)[(Int.toNat v557)]!) p0.length ∧ ok64 (x556[(Int.toNat ((p0[(Int.toNat (r529[(Int.toNat v537)]!))]!.2.1)[(Int.toNat v557)]!))]! + p0[(Int.toNat ((p0[(Int.toNat (r529[(Int.toNat v537)]!))]!.2.1)[(Int.toNat v557)]!))]!.1) ∧ ix (r529[(Int.toNat v537)]!) x556.length ∧ ok64 (v557 + 1) ∧ next565 (x556.set (Int.toNat (r529[(Int.toNat v537)]!)) (max (x556[(Int.toNat (r529[(Int.toNat v537)]!))]!) (x556[(Int.toNat ((p0[(Int.toNat (r529[(Int.toNat v537)]!))]!.2.1)[(Int.toNat v557)]!))]! + p0[(Int.toNat ((p0[(Int.toNat (r529[(Int.toNat v537)]!))]!.2.1)[(Int.toNat v557)]!))]!.1))) (v557 + 1)) ∧ (¬ (v557 < ((p0[(Int.toNat (r529[(Int.toNat v537)]!))]!.2.1).length : Int)) → (m_impl_StartsOf_K0 v537 next546) x556))) ∧ (¬ (v537 < (r529.length : Int)) → (m_impl_StartsOf_K1 Q) x536)))))

abbrev m_impl_PlayTime_K0 (Q : Int → Prop) (v61 : Int) : Prop :=
  Q v61
def m_impl_PlayTime (p0 : List CueC) (Q : Int → Prop) : Prop :=
  m_impl_CuesOk p0 (fun r7 => ((¬ (r7 = true)) → Q (-1)) ∧ (¬ (¬ (r7 = true)) → m_impl_StartsOf p0 (fun r67 => LoopW2 0 0 (fun v74 v75 next83 => ((v75 < (r67.length : Int)) → ix v75 r67.length ∧ ix v75 p0.length ∧ ok64 (r67[(Int.toNat v75)]! + p0[(Int.toNat v75)]!.1) ∧ ok64 (v75 + 1) ∧ next83 (max v74 (r67[(Int.toNat v75)]! + p0[(Int.toNat v75)]!.1)) (v75 + 1)) ∧ (¬ (v75 < (r67.length : Int)) → (m_impl_PlayTime_K0 Q) v74)))))

abbrev m_impl_LatestStarts_K0 (v694 : Int) (next702 : List Int → Int → Prop) (x706 : List Int) : Prop :=
  ok64 (v694 - 1) ∧ next702 x706 (v694 - 1)
abbrev m_impl_LatestStarts_K1 (Q : (List Int) → Prop) (x689 : List Int) : Prop :=
  Q x689
abbrev m_impl_LatestStarts_K2 (p0 : List CueC) (r24 : List Int) (Q : (List Int) → Prop) (x132 : List Int) : Prop :=
  ok64 ((r24.length : Int) - 1) ∧ LoopW2 x132 ((r24.length : Int) - 1) (fun x693 v694 next702 => ((v694 ≥ 0) → ix v694 r24.length ∧ ix (r24[(Int.toNat v694)]!) p0.length ∧ LoopW2 x693 0 (fun x712 v713 next721 => ((v713 < ((p0[(Int.toNat (r24[(Int.toNat v694)]!))]!.2.1).length : Int)) → ix v713 ((p0[(Int.toNat (r24[(Int.toNat v694)]!))]!.2.1).length) ∧ ix ((p0[(Int.toNat (r24[(Int.toNat v694)]!))]!.2.1)[(Int.toNat v713)]!) x712.length ∧ ix (r24[(Int.toNat v694)]!) x712.length ∧ ix ((p0[(Int.toNat (r24[(Int.toNat v694)]!))]!.2.1)[(Int.toNat v713)]!) p0.length ∧ ok64 (x712[(Int.toNat (r24[(Int.toNat v694)]!))]! - p0[(Int.toNat ((p0[(Int.toNat (r24[(Int.toNat v694)]!))]!.2.1)[(Int.toNat v713)]!))]!.1) ∧ ix ((p0[(Int.toNat (r24[(Int.toNat v694)]!))]!.2.1)[(Int.toNat v713)]!) x712.length ∧ ok64 (v713 + 1) ∧ next721 (x712.set (Int.toNat ((p0[(Int.toNat (r24[(Int.toNat v694)]!))]!.2.1)[(Int.toNat v713)]!)) (min (x712[(Int.toNat ((p0[(Int.toNat (r24[(Int.toNat v694)]!))]!.2.1)[(Int.toNat v713)]!))]!) (x712[(Int.toNat (r24[(Int.toNat v694)]!))]! - p0[(Int.toNat ((p0[(Int.toNat (r24[(Int.toNat v694)]!))]!.2.1)[(Int.toNat v713)]!))]!.1))) (v713 + 1)) ∧ (¬ (v713 < ((p0[(Int.toNat (r24[(Int.toNat v694)]!))]!.2.1).length : Int)) → (m_impl_LatestStarts_K0 v694 next702) x712))) ∧ (¬ (v694 ≥ 0) → (m_impl_LatestStarts_K1 Q) x693))
def m_impl_LatestStarts (p0 : List CueC) (Q : (List Int) → Prop) : Prop :=
  m_impl_CuesOk p0 (fun r7 => ((¬ (r7 = true)) → Q ([])) ∧ (¬ (¬ (r7 = true)) → m_impl_PlayTime p0 (fun r18 => m_impl_CueOrder p0 (fun r24 => LoopW2 ([]) 0 (fun x138 v142 next151 => ((v142 < (p0.length : Int)) → ix v142 p0.length ∧ ok64 (r18 - p0[(Int.toNat v142)]!.1) ∧ x138.length + 1 ≤ 1099511627776 ∧ ok64 (v142 + 1) ∧ next151 (x138 ++ ([(r18 - p0[(Int.toNat v142)]!.1)])) (v142 + 1)) ∧ (¬ (v142 < (p0.length : Int)) → (m_impl_LatestStarts_K2 p0 r24 Q) x138))))))

abbrev m_impl_indexOf_K0 (Q : Int → Prop) : Prop :=
  Q (-1)
def m_impl_indexOf (p0 : List Int) (p1 : Int) (Q : Int → Prop) : Prop :=
  LoopW1 0 (fun v22 next30 => ((v22 < (p0.length : Int)) → ix v22 p0.length ∧ ((p0[(Int.toNat v22)]! = p1) → Q v22) ∧ (¬ (p0[(Int.toNat v22)]! = p1) → ok64 (v22 + 1) ∧ next30 (v22 + 1))) ∧ (¬ (v22 < (p0.length : Int)) → (m_impl_indexOf_K0 Q)))

abbrev m_impl_share_K0 (Q : Bool → Prop) : Prop :=
  Q false
def m_impl_share (p0 : CueC) (p1 : CueC) (Q : Bool → Prop) : Prop :=
  LoopW1 0 (fun v42 next52 => ((v42 < (p0.2.2.length : Int)) → ix v42 p0.2.2.length ∧ m_impl_indexOf p1.2.2 (p0.2.2[(Int.toNat v42)]!) (fun r63 => ((r63 ≥ 0) → Q true) ∧ (¬ (r63 ≥ 0) → ok64 (v42 + 1) ∧ next52 (v42 + 1)))) ∧ (¬ (v42 < (p0.2.2.length : Int)) → (m_impl_share_K0 Q)))

abbrev m_impl_SimplePlan_K0 (r1239 : List Int) (x1247 : List Int) (v1251 : Int) (kont1270 : List Int → List Int → Prop) (x1273 : List Int) : Prop :=
  x1247.length + 1 ≤ 1099511627776 ∧ kont1270 x1273 (x1247 ++ ([r1239[(Int.toNat v1251)]!]))
abbrev m_impl_SimplePlan_K1 (v1251 : Int) (next1261 : List Int → List Int → Int → Prop) (x1265 : List Int) (x1266 : List Int) : Prop :=
  ok64 (v1251 + 1) ∧ next1261 x1265 x1266 (v1251 + 1)
abbrev m_impl_SimplePlan_K2 (Q : (List Int) → Prop) (x1233 : List Int) : Prop :=
  Q x1233
def m_impl_SimplePlan (p0 : List CueC) (Q : (List Int) → Prop) : Prop :=
  m_impl_CuesOk p0 (fun r7 => ((¬ (r7 = true)) → Q ([])) ∧ (¬ (¬ (r7 = true)) → (0 ≤ (p0.length : Int) ∧ (p0.length : Int) ≤ 1099511627776) ∧ m_impl_CueOrder p0 (fun r1239 => LoopW3 (List.replicate (Int.toNat (p0.length : Int)) (0 : Int)) ([]) 0 (fun x1246 x1247 v1251 next1261 => ((v1251 < (r1239.length : Int)) → ix v1251 r1239.length ∧ LoopW2 x1246 0 (fun x1276 v1277 next1285 => ((v1277 < (x1247.length : Int)) → ix v1277 x1247.length ∧ ix (r1239[(Int.toNat v1251)]!) p0.length ∧ ∃ r1326 : Int, m_impl_indexOf (p0[(Int.toNat (r1239[(Int.toNat v1251)]!))]!.2.1) (x1247[(Int.toNat v1277)]!) (fun z => z = r1326) ∧ (¬ (r1326 ≥ 0) → ix (r1239[(Int.toNat v1251)]!) p0.length) ∧ (¬ (r1326 ≥ 0) → ix (x1247[(Int.toNat v1277)]!) p0.length) ∧ ∃ r1383 : Bool, (¬ (r1326 ≥ 0) → m_impl_share (p0[(Int.toNat (r1239[(Int.toNat v1251)]!))]!) (p0[(Int.toNat (x1247[(Int.toNat v1277)]!))]!) (fun z => z = r1383)) ∧ ((((r1326 ≥ 0) ∨ (r1383 = true))) → ix (r1239[(Int.toNat v1251)]!) x1276.length ∧ ix (x1247[(Int.toNat v1277)]!) x1276.length ∧ ix (x1247[(Int.toNat v1277)]!) p0.length ∧ ok64 (x1276[(Int.toNat (x1247[(Int.toNat v1277)]!))]! + p0[(Int.toNat (x1247[(Int.toNat v1277)]!))]!.1) ∧ ix (r1239[(Int.toNat v1251)]!) x1276.length ∧ ok64 (v1277 + 1) ∧ next1285 (x1276.set (Int.toNat (r1239[(Int.toNat v1251)]!)) (max (x1276[(Int.toNat (r1239[(Int.toNat v1251)]!))]!) (x1276[(Int.toNat (x1247[(Int.toNat v1277)]!))]! + p0[(Int.toNat (x1247[(Int.toNat v1277)]!))]!.1))) (v1277 + 1)) ∧ (¬ (((r1326 ≥ 0) ∨ (r1383 = true))) → ok64 (v1277 + 1) ∧ next1285 x1276 (v1277 + 1))) ∧ (¬ (v1277 < (x1247.length : Int)) → (m_impl_SimplePlan_K0 r1239 x1247 v1251 (m_impl_SimplePlan_K1 v1251 next1261)) x1276))) ∧ (¬ (v1251 < (r1239.length : Int)) → (m_impl_SimplePlan_K2 Q) x1246)))))

def m_impl_areStarts (p0 : List CueC) (p1 : List Int) (Q : Bool → Prop) : Prop :=
  m_impl_CuesOk p0 (fun r6 => ∃ r16 : Bool, (((r6 = true) ∧ ((p1.length : Int) = (p0.length : Int))) → m_impl_allWithin p1 0 10000 (fun z => z = r16)) ∧ Q ((r6 && (decide ((p1.length : Int) = (p0.length : Int)))) && r16))

abbrev m_impl_ClashesIn_K0 (v1212 : Int) (next1221 : List (List Int) → Int → Prop) (x1225 : List (List Int)) : Prop :=
  ok64 (v1212 + 1) ∧ next1221 x1225 (v1212 + 1)
abbrev m_impl_ClashesIn_K1 (Q : (List (List Int)) → Prop) (x1198 : List (List Int)) : Prop :=
  Q x1198
def m_impl_ClashesIn (p0 : List CueC) (p1 : List Int) (Q : (List (List Int)) → Prop) : Prop :=
  m_impl_areStarts p0 p1 (fun r7 => ((¬ (r7 = true)) → Q ([])) ∧ (¬ (¬ (r7 = true)) → LoopW2 ([]) 0 (fun x1206 v1212 next1221 => ((v1212 < (p0.length : Int)) → ok64 (v1212 + 1) ∧ LoopW2 x1206 (v1212 + 1) (fun x1235 v1241 next1249 => ((v1241 < (p0.length : Int)) → ix v1212 p0.length ∧ ix v1241 p0.length ∧ ∃ r1297 : Bool, m_impl_share (p0[(Int.toNat v1212)]!) (p0[(Int.toNat v1241)]!) (fun z => z = r1297) ∧ (r1297 = true → ix v1212 p1.length) ∧ (r1297 = true → ix v1241 p1.length) ∧ (r1297 = true → ix v1241 p0.length) ∧ (r1297 = true → ok64 (p1[(Int.toNat v1241)]! + p0[(Int.toNat v1241)]!.1)) ∧ (((r1297 = true) ∧ (p1[(Int.toNat v1212)]! < (p1[(Int.toNat v1241)]! + p0[(Int.toNat v1241)]!.1))) → ix v1241 p1.length) ∧ (((r1297 = true) ∧ (p1[(Int.toNat v1212)]! < (p1[(Int.toNat v1241)]! + p0[(Int.toNat v1241)]!.1))) → ix v1212 p1.length) ∧ (((r1297 = true) ∧ (p1[(Int.toNat v1212)]! < (p1[(Int.toNat v1241)]! + p0[(Int.toNat v1241)]!.1))) → ix v1212 p0.length) ∧ (((r1297 = true) ∧ (p1[(Int.toNat v1212)]! < (p1[(Int.toNat v1241)]! + p0[(Int.toNat v1241)]!.1))) → ok64 (p1[(Int.toNat v1212)]! + p0[(Int.toNat v1212)]!.1)) ∧ ((((((r1297 = true) ∧ (p1[(Int.toNat v1212)]! < (p1[(Int.toNat v1241)]! + p0[(Int.toNat v1241)]!.1)))) ∧ (p1[(Int.toNat v1241)]! < (p1[(Int.toNat v1212)]! + p0[(Int.toNat v1212)]!.1)))) → x1235.length + 1 ≤ 1099511627776 ∧ ok64 (v1241 + 1) ∧ next1249 (x1235 ++ ([[v1212, v1241]])) (v1241 + 1)) ∧ (¬ (((((r1297 = true) ∧ (p1[(Int.toNat v1212)]! < (p1[(Int.toNat v1241)]! + p0[(Int.toNat v1241)]!.1)))) ∧ (p1[(Int.toNat v1241)]! < (p1[(Int.toNat v1212)]! + p0[(Int.toNat v1212)]!.1)))) → ok64 (v1241 + 1) ∧ next1249 x1235 (v1241 + 1))) ∧ (¬ (v1241 < (p0.length : Int)) → (m_impl_ClashesIn_K0 v1212 next1221) x1235))) ∧ (¬ (v1212 < (p0.length : Int)) → (m_impl_ClashesIn_K1 Q) x1206))))

abbrev m_impl_IsPlan_K0 (v226 : Int) (next234 : Int → Prop) : Prop :=
  ok64 (v226 + 1) ∧ next234 (v226 + 1)
abbrev m_impl_IsPlan_K1 (p0 : List CueC) (p1 : List Int) (Q : Bool → Prop) : Prop :=
  m_impl_ClashesIn p0 p1 (fun r355 => Q (decide ((r355.length : Int) = 0)))
def m_impl_IsPlan (p0 : List CueC) (p1 : List Int) (Q : Bool → Prop) : Prop :=
  m_impl_areStarts p0 p1 (fun r7 => ((¬ (r7 = true)) → Q false) ∧ (¬ (¬ (r7 = true)) → LoopW1 0 (fun v226 next234 => ((v226 < (p0.length : Int)) → ix v226 p0.length ∧ LoopW1 0 (fun v252 next261 => ((v252 < ((p0[(Int.toNat v226)]!.2.1).length : Int)) → ix v252 ((p0[(Int.toNat v226)]!.2.1).length) ∧ ix v226 p1.length ∧ ix ((p0[(Int.toNat v226)]!.2.1)[(Int.toNat v252)]!) p1.length ∧ ix ((p0[(Int.toNat v226)]!.2.1)[(Int.toNat v252)]!) p0.length ∧ ok64 (p1[(Int.toNat ((p0[(Int.toNat v226)]!.2.1)[(Int.toNat v252)]!))]! + p0[(Int.toNat ((p0[(Int.toNat v226)]!.2.1)[(Int.toNat v252)]!))]!.1) ∧ ((p1[(Int.toNat v226)]! < (p1[(Int.toNat ((p0[(Int.toNat v226)]!.2.1)[(Int.toNat v252)]!))]! + p0[(Int.toNat ((p0[(Int.toNat v226)]!.2.1)[(Int.toNat v252)]!))]!.1)) → Q false) ∧ (¬ (p1[(Int.toNat v226)]! < (p1[(Int.toNat ((p0[(Int.toNat v226)]!.2.1)[(Int.toNat v252)]!))]! + p0[(Int.toNat ((p0[(Int.toNat v226)]!.2.1)[(Int.toNat v252)]!))]!.1)) → ok64 (v252 + 1) ∧ next261 (v252 + 1))) ∧ (¬ (v252 < ((p0[(Int.toNat v226)]!.2.1).length : Int)) → (m_impl_IsPlan_K0 v226 next234)))) ∧ (¬ (v226 < (p0.length : Int)) → (m_impl_IsPlan_K1 p0 p1 Q)))))

def m_laws_btoi (p0 : Bool) (Q : Int → Prop) : Prop :=
  ((p0 = true) → Q 1) ∧ (¬ (p0 = true) → Q 0)

abbrev m_laws_FnTimes_K0 (v1910 : Int) (next1924 : Int → Int → Int → Prop) (v1928 : Int) (v1929 : Int) : Prop :=
  ok64 (v1910 + 1) ∧ next1924 v1928 v1929 (v1910 + 1)
abbrev m_laws_FnTimes_K1 (r16 : List CueC) (r31 : List Int) (r53 : Int) (Q : Bool → Prop) (v1904 : Int) (v1905 : Int) : Prop :=
  m_impl_ClashesIn r16 r31 (fun r2467 => ∃ r2485 : Bool, (((v1904 ≥ 1) ∧ (v1905 ≥ r53)) → m_impl_IsPlan r16 r31 (fun z => z = r2485)) ∧ Q ((((decide (v1904 ≥ 1)) && (decide (v1905 ≥ r53))) && (decide ((r2485) = (decide ((r2467.length : Int) = 0))))) && (decide (r53 ≥ 1))))
def m_laws_FnTimes (p0 : List Byte) (Q : Bool → Prop) : Prop :=
  m_laws_big p0 (fun r7 => ((r7 = true) → Q true) ∧ (¬ (r7 = true) → m_spec_DrawCues p0 (fun r16 => m_impl_StartsOf r16 (fun r31 => m_impl_LatestStarts r16 (fun r42 => m_impl_PlayTime r16 (fun r53 => m_impl_SimplePlan r16 (fun r60 => ∃ r82 : Bool, (¬ ((((((r31.length : Int) ≠ (r16.length : Int)) ∨ ((r42.length : Int) ≠ (r16.length : Int)))) ∨ ((r60.length : Int) ≠ (r16.length : Int)))) → m_impl_IsPlan r16 r60 (fun z => z = r82)) ∧ ((¬ ((((((((r31.length : Int) ≠ (r16.length : Int)) ∨ ((r42.length : Int) ≠ (r16.length : Int)))) ∨ ((r60.length : Int) ≠ (r16.length : Int)))) ∨ (¬ (r82 = true))))) → m_impl_ClashesIn r16 r60 (fun r93 => (((r93.length : Int) ≠ 0) → Q false) ∧ (¬ ((r93.length : Int) ≠ 0) → LoopW3 0 0 0 (fun v1908 v1909 v1910 next1924 => ((v1910 < (r16.length : Int)) → ix v1910 r31.length ∧ ix v1910 r42.length ∧ (¬ (r31[(Int.toNat v1910)]! > r42[(Int.toNat v1910)]!) → ix v1910 r31.length) ∧ (¬ (r31[(Int.toNat v1910)]! > r42[(Int.toNat v1910)]!) → ix v1910 r60.length) ∧ (¬ (((r31[(Int.toNat v1910)]! > r42[(Int.toNat v1910)]!) ∨ (r31[(Int.toNat v1910)]! > r60[(Int.toNat v1910)]!))) → ix v1910 r31.length) ∧ (¬ (((((r31[(Int.toNat v1910)]! > r42[(Int.toNat v1910)]!) ∨ (r31[(Int.toNat v1910)]! > r60[(Int.toNat v1910)]!))) ∨ (r31[(Int.toNat v1910)]! < 0))) → ix v1910 r42.length) ∧ (¬ (((((r31[(Int.toNat v1910)]! > r42[(Int.toNat v1910)]!) ∨ (r31[(Int.toNat v1910)]! > r60[(Int.toNat v1910)]!))) ∨ (r31[(Int.toNat v1910)]! < 0))) → ix v1910 r16.length) ∧ (¬ (((((r31[(Int.toNat v1910)]! > r42[(Int.toNat v1910)]!) ∨ (r31[(Int.toNat v1910)]! > r60[(Int.toNat v1910)]!))) ∨ (r31[(Int.toNat v1910)]! < 0))) → ok64 (r42[(Int.toNat v1910)]! + r16[(Int.toNat v1910)]!.1)) ∧ ((((((((r31[(Int.toNat v1910)]! > r42[(Int.toNat v1910)]!) ∨ (r31[(Int.toNat v1910)]! > r60[(Int.toNat v1910)]!))) ∨ (r31[(Int.toNat v1910)]! < 0))) ∨ ((r42[(Int.toNat v1910)]! + r16[(Int.toNat v1910)]!.1) > r53))) → Q false) ∧ (¬ (((((((r31[(Int.toNat v1910)]! > r42[(Int.toNat v1910)]!) ∨ (r31[(Int.toNat v1910)]! > r60[(Int.toNat v1910)]!))) ∨ (r31[(Int.toNat v1910)]! < 0))) ∨ ((r42[(Int.toNat v1910)]! + r16[(Int.toNat v1910)]!.1) > r53))) → ix v1910 r31.length ∧ ix v1910 r42.length ∧ ∃ r2192 : Int, m_laws_btoi (decide (r31[(Int.toNat v1910)]! = r42[(Int.toNat v1910)]!)) (fun z => z = r2192) ∧ ok64 (v1908 + r2192) ∧ ix v1910 r60.length ∧ ix v1910 r16.length ∧ ok64 (r60[(Int.toNat v1910)]! + r16[(Int.toNat v1910)]!.1) ∧ LoopW1 0 (fun v2272 next2280 => ix v1910 r16.length ∧ ((v2272 < ((r16[(Int.toNat v1910)]!.2.1).length : Int)) → ix v1910 r16.length ∧ ix v2272 ((r16[(Int.toNat v1910)]!.2.1).length) ∧ ix ((r16[(Int.toNat v1910)]!.2.1)[(Int.toNat v2272)]!) r31.length ∧ ix ((r16[(Int.toNat v1910)]!.2.1)[(Int.toNat v2272)]!) r16.length ∧ ok64 (r31[(Int.toNat ((r16[(Int.toNat v1910)]!.2.1)[(Int.toNat v2272)]!))]! + r16[(Int.toNat ((r16[(Int.toNat v1910)]!.2.1)[(Int.toNat v2272)]!))]!.1) ∧ ix v1910 r31.length ∧ (¬ ((r31[(Int.toNat ((r16[(Int.toNat v1910)]!.2.1)[(Int.toNat v2272)]!))]! + r16[(Int.toNat ((r16[(Int.toNat v1910)]!.2.1)[(Int.toNat v2272)]!))]!.1) > r31[(Int.toNat v1910)]!) → ix ((r16[(Int.toNat v1910)]!.2.1)[(Int.toNat v2272)]!) r42.length) ∧ (¬ ((r31[(Int.toNat ((r16[(Int.toNat v1910)]!.2.1)[(Int.toNat v2272)]!))]! + r16[(Int.toNat ((r16[(Int.toNat v1910)]!.2.1)[(Int.toNat v2272)]!))]!.1) > r31[(Int.toNat v1910)]!) → ix ((r16[(Int.toNat v1910)]!.2.1)[(Int.toNat v2272)]!) r16.length) ∧ (¬ ((r31[(Int.toNat ((r16[(Int.toNat v1910)]!.2.1)[(Int.toNat v2272)]!))]! + r16[(Int.toNat ((r16[(Int.toNat v1910)]!.2.1)[(Int.toNat v2272)]!))]!.1) > r31[(Int.toNat v1910)]!) → ok64 (r42[(Int.toNat ((r16[(Int.toNat v1910)]!.2.1)[(Int.toNat v2272)]!))]! + r16[(Int.toNat ((r16[(Int.toNat v1910)]!.2.1)[(Int.toNat v2272)]!))]!.1)) ∧ (¬ ((r31[(Int.toNat ((r16[(Int.toNat v1910)]!.2.1)[(Int.toNat v2272)]!))]! + r16[(Int.toNat ((r16[(Int.toNat v1910)]!.2.1)[(Int.toNat v2272)]!))]!.1) > r31[(Int.toNat v1910)]!) → ix v1910 r42.length) ∧ (((((r31[(Int.toNat ((r16[(Int.toNat v1910)]!.2.1)[(Int.toNat v2272)]!))]! + r16[(Int.toNat ((r16[(Int.toNat v1910)]!.2.1)[(Int.toNat v2272)]!))]!.1) > r31[(Int.toNat v1910)]!) ∨ ((r42[(Int.toNat ((r16[(Int.toNat v1910)]!.2.1)[(Int.toNat v2272)]!))]! + r16[(Int.toNat ((r16[(Int.toNat v1910)]!.2.1)[(Int.toNat v2272)]!))]!.1) > r42[(Int.toNat v1910)]!))) → Q false) ∧ (¬ ((((r31[(Int.toNat ((r16[(Int.toNat v1910)]!.2.1)[(Int.toNat v2272)]!))]! + r16[(Int.toNat ((r16[(Int.toNat v1910)]!.2.1)[(Int.toNat v2272)]!))]!.1) > r31[(Int.toNat v1910)]!) ∨ ((r42[(Int.toNat ((r16[(Int.toNat v1910)]!.2.1)[(Int.toNat v2272)]!))]! + r16[(Int.toNat ((r16[(Int.toNat v1910)]!.2.1)[(Int.toNat v2272)]!))]!.1) > r42[(Int.toNat v1910)]!))) → ok64 (v2272 + 1) ∧ next2280 (v2272 + 1))) ∧ (¬ (v2272 < ((r16[(Int.toNat v1910)]!.2.1).length : Int)) → (m_laws_FnTimes_K0 v1910 next1924) (v1908 + r2192) (max v1909 (r60[(Int.toNat v1910)]! + r16[(Int.toNat v1910)]!.1)))))) ∧ (¬ (v1910 < (r16.length : Int)) → (m_laws_FnTimes_K1 r16 r31 r53 Q) v1908 v1909))))) ∧ (¬ (¬ ((((((((r31.length : Int) ≠ (r16.length : Int)) ∨ ((r42.length : Int) ≠ (r16.length : Int)))) ∨ ((r60.length : Int) ≠ (r16.length : Int)))) ∨ (¬ (r82 = true))))) → Q false))))))))

end Go.Proofs.Ythmemoealgieaaa
