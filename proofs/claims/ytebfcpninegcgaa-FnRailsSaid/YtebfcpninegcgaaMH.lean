/- Plain models of functions of the program, printed by a program (gen2.py): what each asks and what it hands on. No statement of the claim stands here. -/
import Derived.Test.YtebfcpninegcgaaPure
namespace Go.Proofs.Ytebfcpninegcgaa
def m_laws_big (p0 : List Byte) (Q : Bool → Prop) : Prop :=
  Q (decide ((p0.length : Int) > 1048576))

abbrev m_spec_l01New_raw_K0 (Q : Int → Int → Prop) (v40 : Int) : Prop :=
  Q 0 v40
def m_spec_l01New_raw (p0 : List Byte) (Q : Int → Int → Prop) : Prop :=
  ok64 (33061 + (p0.length : Int)) ∧ LoopW2 (33061 + (p0.length : Int)) 0 (fun v43 v44 next52 => ((((v44 < (p0.length : Int)) ∧ (v44 < 4000))) → ix v44 p0.length ∧ ok64 (v44 + 1) ∧ next52 (wand (wadd (wadd (wmul v43 131) ((p0[(Int.toNat v44)]!).val : Int)) 7) 1073741823) (v44 + 1)) ∧ (¬ (((v44 < (p0.length : Int)) ∧ (v44 < 4000))) → (m_spec_l01New_raw_K0 Q) v43))
def m_spec_l01New (p0 : List Byte) (Q : Prop) : Prop := p0.length ≤ 1099511627776 ∧ Q

def m_spec_l01Byte_raw (p0 : List Byte) (i0 : Int) (h0 : Int) (Q : Int → Int → Int → Prop) : Prop :=
  ((i0 < (p0.length : Int)) → ix i0 p0.length ∧ ok64 (i0 + 1) ∧ Q (wand (wadd (wand (wxor (sar (wadd (wmul h0 6364136223846793005) 1442695040888963407) 33) (sar (wadd (wmul h0 6364136223846793005) 1442695040888963407) 45)) 255) ((p0[(Int.toNat i0)]!).val : Int)) 255) (i0 + 1) (wadd (wmul h0 6364136223846793005) 1442695040888963407)) ∧ (¬ (i0 < (p0.length : Int)) → Q (wand (wxor (sar (wadd (wmul h0 6364136223846793005) 1442695040888963407) 33) (sar (wadd (wmul h0 6364136223846793005) 1442695040888963407) 45)) 255) i0 (wadd (wmul h0 6364136223846793005) 1442695040888963407))
def m_spec_l01Byte (Q : Int → Prop) : Prop := ∀ r : Int, 0 ≤ r → r ≤ 255 → Q r

def m_spec_l01Below (p1 : Int) (Q : Int → Prop) : Prop :=
  ((p1 ≤ 0) → Q 0) ∧ (¬ (p1 ≤ 0) → ((p1 ≤ 256) → m_spec_l01Byte (fun r14 => p1 ≠ 0 ∧ Q (Int.tmod r14 p1))) ∧ (¬ (p1 ≤ 256) → m_spec_l01Byte (fun r21 => m_spec_l01Byte (fun r27 => m_spec_l01Byte (fun r33 => m_spec_l01Byte (fun r39 => ok64 (r21 * 16777216) ∧ ok64 (r27 * 65536) ∧ ok64 ((r21 * 16777216) + (r27 * 65536)) ∧ ok64 (r33 * 256) ∧ ok64 (((r21 * 16777216) + (r27 * 65536)) + (r33 * 256)) ∧ ok64 ((((r21 * 16777216) + (r27 * 65536)) + (r33 * 256)) + r39) ∧ p1 ≠ 0 ∧ Q (Int.tmod ((((r21 * 16777216) + (r27 * 65536)) + (r33 * 256)) + r39) p1)))))))

abbrev m_spec_l16List_K0 (Q : (List Stay) → Prop) (x233 : List Stay) : Prop :=
  Q x233
def m_spec_l16List (Q : (List Stay) → Prop) : Prop :=
  m_spec_l01Below 8 (fun r15 => LoopW2 ([]) 0 (fun x239 v243 next251 => ((v243 < r15) → m_spec_l01Below 5 (fun r260 => m_spec_l01Below 20 (fun r265 => ok64 (r265 + 1) ∧ m_spec_l01Below 12 (fun r307 => ok64 ((r265 + 1) + r307) ∧ x239.length + 1 ≤ 1099511627776 ∧ ok64 (v243 + 1) ∧ next251 (x239 ++ ([(r260, r265, ((r265 + 1) + r307))])) (v243 + 1))))) ∧ (¬ (v243 < r15) → (m_spec_l16List_K0 Q) x239)))

def m_spec_DrawStays (p0 : List Byte) (Q : (List Stay) → Prop) : Prop :=
  m_spec_l01New p0 (m_spec_l16List (fun r13 => Q r13))

def m_impl_within (p0 : Int) (p1 : Int) (p2 : Int) (Q : Bool → Prop) : Prop :=
  Q ((decide (p0 ≥ p1)) && (decide (p0 ≤ p2)))

abbrev m_impl_StaysOk_K0 (p0 : List Stay) (Q : Bool → Prop) : Prop :=
  Q (decide ((p0.length : Int) ≤ 20))
def m_impl_StaysOk (p0 : List Stay) (Q : Bool → Prop) : Prop :=
  LoopW1 0 (fun v49 next57 => ((v49 < (p0.length : Int)) → ix v49 p0.length ∧ m_impl_within (p0[(Int.toNat v49)]!.1) 0 6 (fun r78 => ((((((((¬ (r78 = true)) ∨ (p0[(Int.toNat v49)]!.2.1 < 0))) ∨ (p0[(Int.toNat v49)]!.2.1 ≥ p0[(Int.toNat v49)]!.2.2))) ∨ (p0[(Int.toNat v49)]!.2.2 > 1000))) → Q false) ∧ (¬ (((((((¬ (r78 = true)) ∨ (p0[(Int.toNat v49)]!.2.1 < 0))) ∨ (p0[(Int.toNat v49)]!.2.1 ≥ p0[(Int.toNat v49)]!.2.2))) ∨ (p0[(Int.toNat v49)]!.2.2 > 1000))) → ok64 (v49 + 1) ∧ next57 (v49 + 1)))) ∧ (¬ (v49 < (p0.length : Int)) → (m_impl_StaysOk_K0 p0 Q)))

abbrev m_impl_MostAtOnce_K0 (v302 : Int) (kont316 : Int → Prop) (v330 : Int) : Prop :=
  kont316 (max v302 v330)
abbrev m_impl_MostAtOnce_K1 (v303 : Int) (next311 : Int → Int → Prop) (v315 : Int) : Prop :=
  ok64 (v303 + 1) ∧ next311 v315 (v303 + 1)
abbrev m_impl_MostAtOnce_K2 (Q : Int → Prop) (v299 : Int) : Prop :=
  Q v299
def m_impl_MostAtOnce (p0 : List Stay) (Q : Int → Prop) : Prop :=
  m_impl_StaysOk p0 (fun r7 => ((¬ (r7 = true)) → Q (-1)) ∧ (¬ (¬ (r7 = true)) → LoopW2 0 0 (fun v302 v303 next311 => ((v303 < (p0.length : Int)) → ix v303 p0.length ∧ LoopW2 0 0 (fun v333 v334 next342 => ((v334 < (p0.length : Int)) → ix v334 p0.length ∧ ((((p0[(Int.toNat v334)]!.2.1 ≤ p0[(Int.toNat v303)]!.2.1) ∧ (p0[(Int.toNat v303)]!.2.1 < p0[(Int.toNat v334)]!.2.2))) → ok64 (v333 + 1) ∧ ok64 (v334 + 1) ∧ next342 (v333 + 1) (v334 + 1)) ∧ (¬ (((p0[(Int.toNat v334)]!.2.1 ≤ p0[(Int.toNat v303)]!.2.1) ∧ (p0[(Int.toNat v303)]!.2.1 < p0[(Int.toNat v334)]!.2.2))) → ok64 (v334 + 1) ∧ next342 v333 (v334 + 1))) ∧ (¬ (v334 < (p0.length : Int)) → (m_impl_MostAtOnce_K0 v302 (m_impl_MostAtOnce_K1 v303 next311)) v333))) ∧ (¬ (v303 < (p0.length : Int)) → (m_impl_MostAtOnce_K2 Q) v302))))

abbrev m_impl_indexOf_K0 (Q : Int → Prop) : Prop :=
  Q (-1)
def m_impl_indexOf (p0 : List Int) (p1 : Int) (Q : Int → Prop) : Prop :=
  LoopW1 0 (fun v22 next30 => ((v22 < (p0.length : Int)) → ix v22 p0.length ∧ ((p0[(Int.toNat v22)]! = p1) → Q v22) ∧ (¬ (p0[(Int.toNat v22)]! = p1) → ok64 (v22 + 1) ∧ next30 (v22 + 1))) ∧ (¬ (v22 < (p0.length : Int)) → (m_impl_indexOf_K0 Q)))

abbrev m_impl_RailsFor_K0 (x848 : List Int) (v852 : Int) (kont868 : List Int → Prop) (v882 : Int) : Prop :=
  x848.length + 1 ≤ 1099511627776 ∧ ok64 (v882 + 1) ∧ (0 ≤ (v882 + 1) ∧ (v882 + 1) ≤ ((x848 ++ ([0])).length : Int)) ∧ (0 ≤ v882 ∧ v882 ≤ ((x848 ++ ([0])).length : Int)) ∧ ix v882 ((cpL (x848 ++ ([0])) (Int.toNat (v882 + 1)) ((x848 ++ ([0])).drop (Int.toNat v882))).length) ∧ kont868 ((cpL (x848 ++ ([0])) (Int.toNat (v882 + 1)) ((x848 ++ ([0])).drop (Int.toNat v882))).set (Int.toNat v882) v852)
abbrev m_impl_RailsFor_K1 (v852 : Int) (next860 : List Int → Int → Prop) (x864 : List Int) : Prop :=
  ok64 (v852 + 1) ∧ next860 x864 (v852 + 1)
abbrev m_impl_RailsFor_K2 (x842 : List Int) (x2104 : List Int) (v2105 : Int) (kont2119 : List Int → Prop) (x2129 : List Int) : Prop :=
  LoopW1 x2104 (fun x2302 next2310 => ix (x842[(Int.toNat v2105)]!) x2302.length ∧ m_impl_indexOf x2129 (x2302[(Int.toNat (x842[(Int.toNat v2105)]!))]!) (fun r2317 => ((r2317 ≥ 0) → ix (x842[(Int.toNat v2105)]!) x2302.length ∧ ok64 (x2302[(Int.toNat (x842[(Int.toNat v2105)]!))]! + 1) ∧ ix (x842[(Int.toNat v2105)]!) x2302.length ∧ next2310 (x2302.set (Int.toNat (x842[(Int.toNat v2105)]!)) (x2302[(Int.toNat (x842[(Int.toNat v2105)]!))]! + 1))) ∧ (¬ (r2317 ≥ 0) → kont2119 x2302)))
abbrev m_impl_RailsFor_K3 (v2105 : Int) (next2114 : List Int → Int → Prop) (x2118 : List Int) : Prop :=
  ok64 (v2105 + 1) ∧ next2114 x2118 (v2105 + 1)
abbrev m_impl_RailsFor_K4 (Q : (List Int) → Prop) (x2101 : List Int) : Prop :=
  Q x2101
abbrev m_impl_RailsFor_K5 (p0 : List Stay) (Q : (List Int) → Prop) (x842 : List Int) : Prop :=
  (0 ≤ (p0.length : Int) ∧ (p0.length : Int) ≤ 1099511627776) ∧ LoopW2 (List.replicate (Int.toNat (p0.length : Int)) (0 : Int)) 0 (fun x2104 v2105 next2114 => ((v2105 < (x842.length : Int)) → ix v2105 x842.length ∧ (0 ≤ v2105 ∧ v2105 ≤ (x842.length : Int)) ∧ LoopW2 ([]) 0 (fun x2136 v2140 next2150 => ((v2140 < ((x842.take (Int.toNat v2105)).length : Int)) → ix v2140 ((x842.take (Int.toNat v2105)).length) ∧ ix ((x842.take (Int.toNat v2105))[(Int.toNat v2140)]!) p0.length ∧ ix (x842[(Int.toNat v2105)]!) p0.length ∧ (p0[(Int.toNat ((x842.take (Int.toNat v2105))[(Int.toNat v2140)]!))]!.2.1 < p0[(Int.toNat (x842[(Int.toNat v2105)]!))]!.2.2 → ix (x842[(Int.toNat v2105)]!) p0.length) ∧ (p0[(Int.toNat ((x842.take (Int.toNat v2105))[(Int.toNat v2140)]!))]!.2.1 < p0[(Int.toNat (x842[(Int.toNat v2105)]!))]!.2.2 → ix ((x842.take (Int.toNat v2105))[(Int.toNat v2140)]!) p0.length) ∧ ((((p0[(Int.toNat ((x842.take (Int.toNat v2105))[(Int.toNat v2140)]!))]!.2.1 < p0[(Int.toNat (x842[(Int.toNat v2105)]!))]!.2.2) ∧ (p0[(Int.toNat (x842[(Int.toNat v2105)]!))]!.2.1 < p0[(Int.toNat ((x842.take (Int.toNat v2105))[(Int.toNat v2140)]!))]!.2.2))) → ix ((x842.take (Int.toNat v2105))[(Int.toNat v2140)]!) x2104.length ∧ x2136.length + 1 ≤ 1099511627776 ∧ ok64 (v2140 + 1) ∧ next2150 (x2136 ++ ([x2104[(Int.toNat ((x842.take (Int.toNat v2105))[(Int.toNat v2140)]!))]!])) (v2140 + 1)) ∧ (¬ (((p0[(Int.toNat ((x842.take (Int.toNat v2105))[(Int.toNat v2140)]!))]!.2.1 < p0[(Int.toNat (x842[(Int.toNat v2105)]!))]!.2.2) ∧ (p0[(Int.toNat (x842[(Int.toNat v2105)]!))]!.2.1 < p0[(Int.toNat ((x842.take (Int.toNat v2105))[(Int.toNat v2140)]!))]!.2.2))) → ok64 (v2140 + 1) ∧ next2150 x2136 (v2140 + 1))) ∧ (¬ (v2140 < ((x842.take (Int.toNat v2105)).length : Int)) → (m_impl_RailsFor_K2 x842 x2104 v2105 (m_impl_RailsFor_K3 v2105 next2114)) x2136))) ∧ (¬ (v2105 < (x842.length : Int)) → (m_impl_RailsFor_K4 Q) x2104))
def m_impl_RailsFor (p0 : List Stay) (Q : (List Int) → Prop) : Prop :=
  m_impl_StaysOk p0 (fun r7 => ((¬ (r7 = true)) → Q ([])) ∧ (¬ (¬ (r7 = true)) → LoopW2 ([]) 0 (fun x848 v852 next860 => ((v852 < (p0.length : Int)) → ix v852 p0.length ∧ LoopW1 (x848.length : Int) (fun v884 next893 => (v884 > 0 → ok64 (v884 - 1)) ∧ (v884 > 0 → ix (v884 - 1) x848.length) ∧ (v884 > 0 → ix (x848[(Int.toNat (v884 - 1))]!) p0.length) ∧ ((((v884 > 0) ∧ (p0[(Int.toNat (x848[(Int.toNat (v884 - 1))]!))]!.2.1 > p0[(Int.toNat v852)]!.2.1))) → ok64 (v884 - 1) ∧ next893 (v884 - 1)) ∧ (¬ (((v884 > 0) ∧ (p0[(Int.toNat (x848[(Int.toNat (v884 - 1))]!))]!.2.1 > p0[(Int.toNat v852)]!.2.1))) → (m_impl_RailsFor_K0 x848 v852 (m_impl_RailsFor_K1 v852 next860)) v884))) ∧ (¬ (v852 < (p0.length : Int)) → (m_impl_RailsFor_K5 p0 Q) x848))))

abbrev m_impl_CountRails_K0 (Q : Int → Prop) (v56 : Int) : Prop :=
  Q v56
def m_impl_CountRails (p0 : List Int) (Q : Int → Prop) : Prop :=
  LoopW2 0 0 (fun v59 v60 next68 => ((v60 < (p0.length : Int)) → ix v60 p0.length ∧ m_impl_indexOf p0 (p0[(Int.toNat v60)]!) (fun r79 => ((r79 = v60) → ok64 (v59 + 1) ∧ ok64 (v60 + 1) ∧ next68 (v59 + 1) (v60 + 1)) ∧ (¬ (r79 = v60) → ok64 (v60 + 1) ∧ next68 v59 (v60 + 1)))) ∧ (¬ (v60 < (p0.length : Int)) → (m_impl_CountRails_K0 Q) v59))

def m_impl_QuietTick_1 (p0 : Int) (Q : Bool → Prop) : Prop :=
  Q true

abbrev m_impl_isBusy_QuietTick_1_K0 (Q : Bool → Prop) : Prop :=
  Q false
def m_impl_isBusy_QuietTick_1 (p0 : List Stay) (p1 : Int) (Q : Bool → Prop) : Prop :=
  LoopW1 0 (fun v46 next54 => ((v46 < (p0.length : Int)) → ix v46 p0.length ∧ m_impl_QuietTick_1 (p0[(Int.toNat v46)]!.1) (fun r75 => ((((((r75 = true) ∧ (p0[(Int.toNat v46)]!.2.1 ≤ p1))) ∧ (p1 < p0[(Int.toNat v46)]!.2.2))) → Q true) ∧ (¬ (((((r75 = true) ∧ (p0[(Int.toNat v46)]!.2.1 ≤ p1))) ∧ (p1 < p0[(Int.toNat v46)]!.2.2))) → ok64 (v46 + 1) ∧ next54 (v46 + 1)))) ∧ (¬ (v46 < (p0.length : Int)) → (m_impl_isBusy_QuietTick_1_K0 Q)))

abbrev m_impl_QuietTick_K0 (Q : Int → Prop) (v51 : Int) : Prop :=
  Q v51
def m_impl_QuietTick (p0 : List Stay) (Q : Int → Prop) : Prop :=
  m_impl_StaysOk p0 (fun r7 => ((¬ (r7 = true)) → Q (-1)) ∧ (¬ (¬ (r7 = true)) → LoopW1 0 (fun v53 next61 => m_impl_isBusy_QuietTick_1 p0 v53 (fun r67 => ((r67 = true) → ok64 (v53 + 1) ∧ next61 (v53 + 1)) ∧ (¬ (r67 = true) → (m_impl_QuietTick_K0 Q) v53)))))

def m_impl_BusyTicks_1 (p0 : Int) (q0 : Int) (Q : Bool → Int → Prop) : Prop :=
  Q (decide (p0 = q0)) q0

abbrev m_impl_isBusy_BusyTicks_1_K0 (Q : Bool → Int → Prop) (v99 : Int) : Prop :=
  Q false v99
def m_impl_isBusy_BusyTicks_1 (p0 : List Stay) (p1 : Int) (p2_0 : Int) (Q : Bool → Int → Prop) : Prop :=
  LoopW2 0 p2_0 (fun v102 v103 next111 => ((v102 < (p0.length : Int)) → ix v102 p0.length ∧ m_impl_BusyTicks_1 (p0[(Int.toNat v102)]!.1) v103 (fun r133 x134 => ((((((r133 = true) ∧ (p0[(Int.toNat v102)]!.2.1 ≤ p1))) ∧ (p1 < p0[(Int.toNat v102)]!.2.2))) → Q true x134) ∧ (¬ (((((r133 = true) ∧ (p0[(Int.toNat v102)]!.2.1 ≤ p1))) ∧ (p1 < p0[(Int.toNat v102)]!.2.2))) → ok64 (v102 + 1) ∧ next111 (v102 + 1) x134))) ∧ (¬ (v102 < (p0.length : Int)) → (m_impl_isBusy_BusyTicks_1_K0 Q) v103))

abbrev m_impl_BusyTicks_K0 (Q : Int → Prop) (v71 : Int) : Prop :=
  Q v71
def m_impl_BusyTicks (p0 : List Stay) (p1 : Int) (Q : Int → Prop) : Prop :=
  m_impl_StaysOk p0 (fun r13 => ((¬ (r13 = true)) → Q (-1)) ∧ (¬ (¬ (r13 = true)) → LoopW3 0 0 p1 (fun v74 v75 v76 next84 => ((v75 < 1000) → m_impl_isBusy_BusyTicks_1 p0 v75 v76 (fun r94 x95 => ((r94 = true) → ok64 (v74 + 1) ∧ ok64 (v75 + 1) ∧ next84 (v74 + 1) (v75 + 1) x95) ∧ (¬ (r94 = true) → ok64 (v75 + 1) ∧ next84 v74 (v75 + 1) x95))) ∧ (¬ (v75 < 1000) → (m_impl_BusyTicks_K0 Q) v74))))

abbrev m_laws_FnRails_K0 (v472 : Int) (next481 : Int → Prop) : Prop :=
  ok64 (v472 + 1) ∧ next481 (v472 + 1)
abbrev m_laws_FnRails_K1 (r16 : List Stay) (r27 : Int) (r705 : Int) (v754 : Int) (Q : Bool → Prop) (v974 : Int) : Prop :=
  Q ((((decide (r705 ≥ 0)) && (decide (v754 ≤ v974))) && (decide ((decide (v754 > 0)) = (decide ((r16.length : Int) > 0))))) && (decide ((decide (r27 = 0)) = (decide ((r16.length : Int) = 0)))))
abbrev m_laws_FnRails_K2 (r16 : List Stay) (r27 : Int) (r705 : Int) (Q : Bool → Prop) (v754 : Int) : Prop :=
  LoopW2 0 0 (fun v977 v978 next986 => ((v978 < (r16.length : Int)) → ix v978 r16.length ∧ ok64 (v977 + r16[(Int.toNat v978)]!.2.2) ∧ ix v978 r16.length ∧ ok64 ((v977 + r16[(Int.toNat v978)]!.2.2) - r16[(Int.toNat v978)]!.2.1) ∧ ix v978 r16.length ∧ (r16[(Int.toNat v978)]!.2.1 ≤ r705 → ix v978 r16.length) ∧ ((((r16[(Int.toNat v978)]!.2.1 ≤ r705) ∧ (r705 < r16[(Int.toNat v978)]!.2.2))) → Q false) ∧ (¬ (((r16[(Int.toNat v978)]!.2.1 ≤ r705) ∧ (r705 < r16[(Int.toNat v978)]!.2.2))) → ok64 (v978 + 1) ∧ next986 ((v977 + r16[(Int.toNat v978)]!.2.2) - r16[(Int.toNat v978)]!.2.1) (v978 + 1))) ∧ (¬ (v978 < (r16.length : Int)) → (m_laws_FnRails_K1 r16 r27 r705 v754 Q) v977))
abbrev m_laws_FnRails_K3 (r16 : List Stay) (r27 : Int) (Q : Bool → Prop) : Prop :=
  m_impl_QuietTick r16 (fun r705 => LoopW2 0 0 (fun v757 v758 next766 => ((v758 < 5) → m_impl_BusyTicks r16 v758 (fun r774 => ok64 (v757 + r774) ∧ ok64 (v758 + 1) ∧ next766 (v757 + r774) (v758 + 1))) ∧ (¬ (v758 < 5) → (m_laws_FnRails_K2 r16 r27 r705 Q) v757)))
def m_laws_FnRails (p0 : List Byte) (Q : Bool → Prop) : Prop :=
  m_laws_big p0 (fun r7 => ((r7 = true) → Q true) ∧ (¬ (r7 = true) → m_spec_DrawStays p0 (fun r16 => m_impl_MostAtOnce r16 (fun r27 => m_impl_RailsFor r16 (fun r34 => ∃ r45 : Int, (¬ ((r34.length : Int) ≠ (r16.length : Int)) → m_impl_CountRails r34 (fun z => z = r45)) ∧ (((((r34.length : Int) ≠ (r16.length : Int)) ∨ (r45 ≠ r27))) → Q false) ∧ (¬ ((((r34.length : Int) ≠ (r16.length : Int)) ∨ (r45 ≠ r27))) → LoopW1 0 (fun v472 next481 => ((v472 < (r16.length : Int)) → ix v472 r34.length ∧ (¬ (r34[(Int.toNat v472)]! < 0) → ix v472 r34.length) ∧ ((((r34[(Int.toNat v472)]! < 0) ∨ (r34[(Int.toNat v472)]! ≥ r27))) → Q false) ∧ (¬ (((r34[(Int.toNat v472)]! < 0) ∨ (r34[(Int.toNat v472)]! ≥ r27))) → LoopW1 0 (fun v499 next507 => ((v499 < v472) → ix v472 r34.length ∧ ix v499 r34.length ∧ (r34[(Int.toNat v472)]! = r34[(Int.toNat v499)]! → ix v472 r16.length) ∧ (r34[(Int.toNat v472)]! = r34[(Int.toNat v499)]! → ix v499 r16.length) ∧ (((r34[(Int.toNat v472)]! = r34[(Int.toNat v499)]!) ∧ (r16[(Int.toNat v472)]!.2.1 < r16[(Int.toNat v499)]!.2.2)) → ix v499 r16.length) ∧ (((r34[(Int.toNat v472)]! = r34[(Int.toNat v499)]!) ∧ (r16[(Int.toNat v472)]!.2.1 < r16[(Int.toNat v499)]!.2.2)) → ix v472 r16.length) ∧ ((((((r34[(Int.toNat v472)]! = r34[(Int.toNat v499)]!) ∧ (r16[(Int.toNat v472)]!.2.1 < r16[(Int.toNat v499)]!.2.2))) ∧ (r16[(Int.toNat v499)]!.2.1 < r16[(Int.toNat v472)]!.2.2))) → Q false) ∧ (¬ (((((r34[(Int.toNat v472)]! = r34[(Int.toNat v499)]!) ∧ (r16[(Int.toNat v472)]!.2.1 < r16[(Int.toNat v499)]!.2.2))) ∧ (r16[(Int.toNat v499)]!.2.1 < r16[(Int.toNat v472)]!.2.2))) → ok64 (v499 + 1) ∧ next507 (v499 + 1))) ∧ (¬ (v499 < v472) → (m_laws_FnRails_K0 v472 next481))))) ∧ (¬ (v472 < (r16.length : Int)) → (m_laws_FnRails_K3 r16 r27 Q)))))))))

end Go.Proofs.Ytebfcpninegcgaa
