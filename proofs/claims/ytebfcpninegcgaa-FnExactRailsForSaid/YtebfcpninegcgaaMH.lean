/- Plain models of functions of the program, printed by a program (gen2.py): what each asks and what it hands on. No statement of the claim stands here. -/
import Derived.Test.YtebfcpninegcgaaPure
namespace Go.Proofs.Ytebfcpninegcgaa
def m_laws_szStayS (p0 : List Stay) (p1 : Int) (Q : Int → Prop) : Prop :=
  ok64 (p1 - (p0.length : Int)) ∧ (((p1 - (p0.length : Int)) < 0) → Q (-1)) ∧ (¬ ((p1 - (p0.length : Int)) < 0) → Q (p1 - (p0.length : Int)))

def m_laws_toStay (p0 : Stay) (Q : Stay → Prop) : Prop :=
  Q (p0.1, p0.2.1, p0.2.2)

abbrev m_laws_toStayS_K0 (Q : (List Stay) → Prop) (x64 : List Stay) : Prop :=
  Q x64
def m_laws_toStayS (p0 : List Stay) (Q : (List Stay) → Prop) : Prop :=
  (0 ≤ (p0.length : Int) ∧ (p0.length : Int) ≤ 1099511627776) ∧ LoopW2 (List.replicate (Int.toNat (p0.length : Int)) ((0, 0, 0) : Stay)) 0 (fun x67 v68 next76 => ((v68 < (p0.length : Int)) → ix v68 p0.length ∧ m_laws_toStay (p0[(Int.toNat v68)]!) (fun r85 => ix v68 x67.length ∧ ok64 (v68 + 1) ∧ next76 (x67.set (Int.toNat v68) r85) (v68 + 1))) ∧ (¬ (v68 < (p0.length : Int)) → (m_laws_toStayS_K0 Q) x67))

def m_spec_l01In (p0 : Int) (p1 : Int) (p2 : Int) (Q : Bool → Prop) : Prop :=
  Q ((decide (p0 ≥ p1)) && (decide (p0 ≤ p2)))

abbrev m_spec_StaysOk_K0 (p0 : List Stay) (Q : Bool → Prop) : Prop :=
  Q (decide ((p0.length : Int) ≤ 20))
def m_spec_StaysOk (p0 : List Stay) (Q : Bool → Prop) : Prop :=
  LoopW1 0 (fun v62 next70 => ((v62 < (p0.length : Int)) → ix v62 p0.length ∧ m_spec_l01In (p0[(Int.toNat v62)]!.1) 0 6 (fun r91 => ∃ r97 : Bool, (¬ (¬ (r91 = true)) → m_spec_l01In (p0[(Int.toNat v62)]!.2.2) 1 1000 (fun z => z = r97)) ∧ (¬ (((¬ (r91 = true)) ∨ (¬ (r97 = true)))) → ok64 (p0[(Int.toNat v62)]!.2.2 - 1)) ∧ ∃ r111 : Bool, (¬ (((¬ (r91 = true)) ∨ (¬ (r97 = true)))) → m_spec_l01In (p0[(Int.toNat v62)]!.2.1) 0 (p0[(Int.toNat v62)]!.2.2 - 1) (fun z => z = r111)) ∧ ((((((¬ (r91 = true)) ∨ (¬ (r97 = true)))) ∨ (¬ (r111 = true)))) → Q false) ∧ (¬ (((((¬ (r91 = true)) ∨ (¬ (r97 = true)))) ∨ (¬ (r111 = true)))) → ok64 (v62 + 1) ∧ next70 (v62 + 1)))) ∧ (¬ (v62 < (p0.length : Int)) → (m_spec_StaysOk_K0 p0 Q)))

abbrev m_spec_RailsFor_K0 (x1812 : List Bool) (v1830 : Int) (kont1828 : List Int → List Bool → Prop) (x2152 : List Int) : Prop :=
  ix v1830 x1812.length ∧ kont1828 x2152 (x1812.set (Int.toNat v1830) true)
abbrev m_spec_RailsFor_K1 (x1811 : List Int) (x1812 : List Bool) (v1830 : Int) (kont1828 : List Int → List Bool → Prop) (v1969 : Int) : Prop :=
  LoopW1 x1811 (fun x2154 next2162 => ix v1830 x2154.length ∧ (0 ≤ x2154[(Int.toNat v1830)]! ∧ x2154[(Int.toNat v1830)]! < 64) ∧ ((0 : Int) ≤ (sar v1969 (x2154[(Int.toNat v1830)]!)) ∧ (0 : Int) ≤ 1 ∧ ((sar v1969 (x2154[(Int.toNat v1830)]!)) : Int) < 9223372036854775808 ∧ (1 : Int) < 9223372036854775808) ∧ (((band (sar v1969 (x2154[(Int.toNat v1830)]!)) 1) = 1) → ix v1830 x2154.length ∧ ok64 (x2154[(Int.toNat v1830)]! + 1) ∧ ix v1830 x2154.length ∧ next2162 (x2154.set (Int.toNat v1830) (x2154[(Int.toNat v1830)]! + 1))) ∧ (¬ ((band (sar v1969 (x2154[(Int.toNat v1830)]!)) 1) = 1) → (m_spec_RailsFor_K0 x1812 v1830 kont1828) x2154))
abbrev m_spec_RailsFor_K2 (p0 : List Stay) (x1811 : List Int) (x1812 : List Bool) (kont1828 : List Int → List Bool → Prop) (v1830 : Int) : Prop :=
  LoopW2 0 0 (fun v1972 v1973 next1981 => ((v1973 < (p0.length : Int)) → ix v1973 x1812.length ∧ ((x1812[(Int.toNat v1973)]!) = true → ix v1973 p0.length) ∧ ((x1812[(Int.toNat v1973)]!) = true → ix v1830 p0.length) ∧ ((((x1812[(Int.toNat v1973)]!) = true) ∧ (p0[(Int.toNat v1973)]!.2.1 < p0[(Int.toNat v1830)]!.2.2)) → ix v1830 p0.length) ∧ ((((x1812[(Int.toNat v1973)]!) = true) ∧ (p0[(Int.toNat v1973)]!.2.1 < p0[(Int.toNat v1830)]!.2.2)) → ix v1973 p0.length) ∧ (((((((x1812[(Int.toNat v1973)]!) = true) ∧ (p0[(Int.toNat v1973)]!.2.1 < p0[(Int.toNat v1830)]!.2.2))) ∧ (p0[(Int.toNat v1830)]!.2.1 < p0[(Int.toNat v1973)]!.2.2))) → ix v1973 x1811.length ∧ (0 ≤ x1811[(Int.toNat v1973)]! ∧ x1811[(Int.toNat v1973)]! < 64) ∧ ok64 (sal 1 (x1811[(Int.toNat v1973)]!)) ∧ ((0 : Int) ≤ v1972 ∧ (0 : Int) ≤ (sal 1 (x1811[(Int.toNat v1973)]!)) ∧ (v1972 : Int) < 9223372036854775808 ∧ ((sal 1 (x1811[(Int.toNat v1973)]!)) : Int) < 9223372036854775808) ∧ ok64 (v1973 + 1) ∧ next1981 (bor v1972 (sal 1 (x1811[(Int.toNat v1973)]!))) (v1973 + 1)) ∧ (¬ ((((((x1812[(Int.toNat v1973)]!) = true) ∧ (p0[(Int.toNat v1973)]!.2.1 < p0[(Int.toNat v1830)]!.2.2))) ∧ (p0[(Int.toNat v1830)]!.2.1 < p0[(Int.toNat v1973)]!.2.2))) → ok64 (v1973 + 1) ∧ next1981 v1972 (v1973 + 1))) ∧ (¬ (v1973 < (p0.length : Int)) → (m_spec_RailsFor_K1 x1811 x1812 v1830 kont1828) v1972))
abbrev m_spec_RailsFor_K3 (v1813 : Int) (next1822 : List Int → List Bool → Int → Prop) (x1826 : List Int) (x1827 : List Bool) : Prop :=
  ok64 (v1813 + 1) ∧ next1822 x1826 x1827 (v1813 + 1)
abbrev m_spec_RailsFor_K4 (Q : (List Int) → Prop) (x1808 : List Int) : Prop :=
  Q x1808
def m_spec_RailsFor (p0 : List Stay) (Q : (List Int) → Prop) : Prop :=
  m_spec_StaysOk p0 (fun r7 => ((¬ (r7 = true)) → Q ([])) ∧ (¬ (¬ (r7 = true)) → (0 ≤ (p0.length : Int) ∧ (p0.length : Int) ≤ 1099511627776) ∧ (0 ≤ (p0.length : Int) ∧ (p0.length : Int) ≤ 1099511627776) ∧ LoopW3 (List.replicate (Int.toNat (p0.length : Int)) (0 : Int)) (List.replicate (Int.toNat (p0.length : Int)) (false : Bool)) 0 (fun x1811 x1812 v1813 next1822 => ((v1813 < (p0.length : Int)) → LoopW2 (-1) 0 (fun v1833 v1834 next1842 => ((v1834 < (p0.length : Int)) → ix v1834 x1812.length ∧ ((¬ ((x1812[(Int.toNat v1834)]!) = true)) ∧ (¬ (v1833 < 0)) → ix v1834 p0.length) ∧ ((¬ ((x1812[(Int.toNat v1834)]!) = true)) ∧ (¬ (v1833 < 0)) → ix v1833 p0.length) ∧ ((((¬ ((x1812[(Int.toNat v1834)]!) = true)) ∧ (((v1833 < 0) ∨ (p0[(Int.toNat v1834)]!.2.1 < p0[(Int.toNat v1833)]!.2.1))))) → ok64 (v1834 + 1) ∧ next1842 v1834 (v1834 + 1)) ∧ (¬ (((¬ ((x1812[(Int.toNat v1834)]!) = true)) ∧ (((v1833 < 0) ∨ (p0[(Int.toNat v1834)]!.2.1 < p0[(Int.toNat v1833)]!.2.1))))) → ok64 (v1834 + 1) ∧ next1842 v1833 (v1834 + 1))) ∧ (¬ (v1834 < (p0.length : Int)) → (m_spec_RailsFor_K2 p0 x1811 x1812 (m_spec_RailsFor_K3 v1813 next1822)) v1833))) ∧ (¬ (v1813 < (p0.length : Int)) → (m_spec_RailsFor_K4 Q) x1811))))

def m_impl_within (p0 : Int) (p1 : Int) (p2 : Int) (Q : Bool → Prop) : Prop :=
  Q ((decide (p0 ≥ p1)) && (decide (p0 ≤ p2)))

abbrev m_impl_StaysOk_K0 (p0 : List Stay) (Q : Bool → Prop) : Prop :=
  Q (decide ((p0.length : Int) ≤ 20))
def m_impl_StaysOk (p0 : List Stay) (Q : Bool → Prop) : Prop :=
  LoopW1 0 (fun v49 next57 => ((v49 < (p0.length : Int)) → ix v49 p0.length ∧ m_impl_within (p0[(Int.toNat v49)]!.1) 0 6 (fun r78 => ((((((((¬ (r78 = true)) ∨ (p0[(Int.toNat v49)]!.2.1 < 0))) ∨ (p0[(Int.toNat v49)]!.2.1 ≥ p0[(Int.toNat v49)]!.2.2))) ∨ (p0[(Int.toNat v49)]!.2.2 > 1000))) → Q false) ∧ (¬ (((((((¬ (r78 = true)) ∨ (p0[(Int.toNat v49)]!.2.1 < 0))) ∨ (p0[(Int.toNat v49)]!.2.1 ≥ p0[(Int.toNat v49)]!.2.2))) ∨ (p0[(Int.toNat v49)]!.2.2 > 1000))) → ok64 (v49 + 1) ∧ next57 (v49 + 1)))) ∧ (¬ (v49 < (p0.length : Int)) → (m_impl_StaysOk_K0 p0 Q)))

abbrev m_impl_indexOf_K0 (Q : Int → Prop) : Prop :=
  Q (-1)
def m_impl_indexOf (p0 : List Int) (p1 : Int) (Q : Int → Prop) : Prop :=
  LoopW1 0 (fun v22 next30 => ((v22 < (p0.length : Int)) → ix v22 p0.length ∧ ((p0[(Int.toNat v22)]! = p1) → Q v22) ∧ (¬ (p0[(Int.toNat v22)]! = p1) → ok64 (v22 + 1) ∧ next30 (v22 + 1))) ∧ (¬ (v22 < (p0.length : Int)) → (m_impl_indexOf_K0 Q)))

abbrev m_impl_RailsFor_K0 (x848 : List Int) (v852 : Int) (kont868 : List Int → Prop) (v882 : Int) : Prop :=
  x848.length + 1 ≤ 1099511627776 ∧ ok64 (v882 + 1) ∧ (0 ≤ (v882 + 1) ∧ (v882 + 1) ≤ ((x848 ++ ([0])).length : Int)) ∧ (0 ≤ v882 ∧ v882 ≤ ((x848 ++ ([0])).length : Int)) ∧ ix v882 ((cpL (x848 ++ ([0])) (Int.toNat (v882 + 1)) ((x848 ++ ([0])).drop (Int.toNat v882))).length) ∧ kont868 ((cpL (x848 ++ ([0])) (Int.toNat (v882 + 1)) ((x848 ++ ([0])).drop (Int.toNat v882))).set (Int.toNat v882) v852)
abbrev m_impl_RailsFor_K1 (v852 : Int) (next860 : List Int → Int → Prop) (x864 : List Int) : Prop :=
  ok64 (v852 + 1) ∧ next860 x864 (v852 + 1)
abbrev m_impl_RailsFor_K2 (x842 : List Int) (x2104 : List Int) (v2105 : Int) (kont2119 : List Int → Prop) (x2129 : List Int) : Prop :=
  LoopW1 x2104 (fun x2302 next2310 => ix (x842[(Int.toNat v2105)]!) x2302.length ∧ m_impl_indexOf x2129 (x2302[(Int.toNat (x842[(Int.toNat v2105)]!))]!) (fun r2317 => ((r2317 ≥ 0) → ix (x842[(Int.toNat v2105)]!) x2302.length ∧ ok64 (x2302[(Int.toNat (x842[(Int.toNat v2105)]!))]! + 1) ∧ ix (x842[(Int.toNat v2105)]!) x2302.length ∧ next2310 (x2302.set (Int.toNat (x842[(Int.toNat v2105)]!)) (x2302[(Int.toNat (x842[(Int.toNat v2105)]!))]! + 1))) ∧ (¬ (r2317 ≥ 0) → kont2119 x2302)))
abbrev m_impl_RailsFor_K3 (v2105 : Int) (next2114 : List Int → Int → Prop) (x2118 : List Int) : Prop :=
  ok64 (v2105 + 1) ∧ next2114 x2118 (v2105 + 1)
abbrev m_impl_RailsFor_K4 (Q : (List Int) → Prop) (x2101 : List Int) : Prop :=
  Q x2101
abbrev m_impl_RailsFor_K5 (p0 : List Stay) (Q : (List Int) → Prop) (x842 : List Int) : Prop :=
  (0 ≤ (p0.length : Int) ∧ (p0.length : Int) ≤ 1099511627776) ∧ LoopW2 (List.replicate (Int.toNat (p0.length : Int)) (0 : Int)) 0 (fun x2104 v2105 next2114 => ((v2105 < (x842.length : Int)) → ix v2105 x842.length ∧ (0 ≤ v2105 ∧ v2105 ≤ (x842.length : Int)) ∧ LoopW2 ([]) 0 (fun x2136 v2140 next2150 => ((v2140 < ((x842.take (Int.toNat v2105)).length : Int)) → ix v2140 ((x842.take (Int.toNat v2105)).length) ∧ ix ((x842.take (Int.toNat v2105))[(Int.toNat v2140)]!) p0.length ∧ ix (x842[(Int.toNat v2105)]!) p0.length ∧ (p0[(Int.toNat ((x842.take (Int.toNat v2105))[(Int.toNat v2140)]!))]!.2.1 < p0[(Int.toNat (x842[(Int.toNat v2105)]!))]!.2.2 → ix (x842[(Int.toNat v2105)]!) p0.length) ∧ (p0[(Int.toNat ((x842.take (Int.toNat v2105))[(Int.toNat v2140)]!))]!.2.1 < p0[(Int.toNat (x842[(Int.toNat v2105)]!))]!.2.2 → ix ((x842.take (Int.toNat v2105))[(Int.toNat v2140)]!) p0.length) ∧ ((((p0[(Int.toNat ((x842.take (Int.toNat v2105))[(Int.toNat v2140)]!))]!.2.1 < p0[(Int.toNat (x842[(Int.toNat v2105)]!))]!.2.2) ∧ (p0[(Int.toNat (x842[(Int.toNat v2105)]!))]!.2.1 < p0[(Int.toNat ((x842.take (Int.toNat v2105))[(Int.toNat v2140)]!))]!.2.2))) → ix ((x842.take (Int.toNat v2105))[(Int.toNat v2140)]!) x2104.length ∧ x2136.length + 1 ≤ 1099511627776 ∧ ok64 (v2140 + 1) ∧ next2150 (x2136 ++ ([x2104[(Int.toNat ((x842.take (Int.toNat v2105))[(Int.toNat v2140)]!))]!])) (v2140 + 1)) ∧ (¬ (((p0[(Int.toNat ((x842.take (Int.toNat v2105))[(Int.toNat v2140)]!))]!.2.1 < p0[(Int.toNat (x842[(Int.toNat v2105)]!))]!.2.2) ∧ (p0[(Int.toNat (x842[(Int.toNat v2105)]!))]!.2.1 < p0[(Int.toNat ((x842.take (Int.toNat v2105))[(Int.toNat v2140)]!))]!.2.2))) → ok64 (v2140 + 1) ∧ next2150 x2136 (v2140 + 1))) ∧ (¬ (v2140 < ((x842.take (Int.toNat v2105)).length : Int)) → (m_impl_RailsFor_K2 x842 x2104 v2105 (m_impl_RailsFor_K3 v2105 next2114)) x2136))) ∧ (¬ (v2105 < (x842.length : Int)) → (m_impl_RailsFor_K4 Q) x2104))
def m_impl_RailsFor (p0 : List Stay) (Q : (List Int) → Prop) : Prop :=
  m_impl_StaysOk p0 (fun r7 => ((¬ (r7 = true)) → Q ([])) ∧ (¬ (¬ (r7 = true)) → LoopW2 ([]) 0 (fun x848 v852 next860 => ((v852 < (p0.length : Int)) → ix v852 p0.length ∧ LoopW1 (x848.length : Int) (fun v884 next893 => (v884 > 0 → ok64 (v884 - 1)) ∧ (v884 > 0 → ix (v884 - 1) x848.length) ∧ (v884 > 0 → ix (x848[(Int.toNat (v884 - 1))]!) p0.length) ∧ ((((v884 > 0) ∧ (p0[(Int.toNat (x848[(Int.toNat (v884 - 1))]!))]!.2.1 > p0[(Int.toNat v852)]!.2.1))) → ok64 (v884 - 1) ∧ next893 (v884 - 1)) ∧ (¬ (((v884 > 0) ∧ (p0[(Int.toNat (x848[(Int.toNat (v884 - 1))]!))]!.2.1 > p0[(Int.toNat v852)]!.2.1))) → (m_impl_RailsFor_K0 x848 v852 (m_impl_RailsFor_K1 v852 next860)) v884))) ∧ (¬ (v852 < (p0.length : Int)) → (m_impl_RailsFor_K5 p0 Q) x848))))

abbrev m_laws_eqIntS_K0 (Q : Bool → Prop) : Prop :=
  Q true
def m_laws_eqIntS (p0 : List Int) (p1 : List Int) (Q : Bool → Prop) : Prop :=
  (((p0.length : Int) ≠ (p1.length : Int)) → Q false) ∧ (¬ ((p0.length : Int) ≠ (p1.length : Int)) → LoopW1 0 (fun v70 next78 => ((v70 < (p0.length : Int)) → ix v70 p0.length ∧ ix v70 p1.length ∧ ((p0[(Int.toNat v70)]! ≠ p1[(Int.toNat v70)]!) → Q false) ∧ (¬ (p0[(Int.toNat v70)]! ≠ p1[(Int.toNat v70)]!) → ok64 (v70 + 1) ∧ next78 (v70 + 1))) ∧ (¬ (v70 < (p0.length : Int)) → (m_laws_eqIntS_K0 Q))))

def m_laws_eqStay (p0 : Stay) (p1 : Stay) (Q : Bool → Prop) : Prop :=
  ((p0.1 ≠ p1.1) → Q false) ∧ (¬ (p0.1 ≠ p1.1) → ((p0.2.1 ≠ p1.2.1) → Q false) ∧ (¬ (p0.2.1 ≠ p1.2.1) → ((p0.2.2 ≠ p1.2.2) → Q false) ∧ (¬ (p0.2.2 ≠ p1.2.2) → Q true)))

abbrev m_laws_eqStayS_K0 (Q : Bool → Prop) : Prop :=
  Q true
def m_laws_eqStayS (p0 : List Stay) (p1 : List Stay) (Q : Bool → Prop) : Prop :=
  (((p0.length : Int) ≠ (p1.length : Int)) → Q false) ∧ (¬ ((p0.length : Int) ≠ (p1.length : Int)) → LoopW1 0 (fun v76 next84 => ((v76 < (p0.length : Int)) → ix v76 p0.length ∧ ix v76 p1.length ∧ ∃ r132 : Bool, m_laws_eqStay (p0[(Int.toNat v76)]!) (p1[(Int.toNat v76)]!) (fun z => z = r132) ∧ ((¬ (r132 = true)) → Q false) ∧ (¬ (¬ (r132 = true)) → ok64 (v76 + 1) ∧ next84 (v76 + 1))) ∧ (¬ (v76 < (p0.length : Int)) → (m_laws_eqStayS_K0 Q))))

abbrev m_laws_markStayS_K0 (Q : Int → (List Stay) → Prop) (x80 : List Stay) (v81 : Int) : Prop :=
  Q v81 x80
def m_laws_markStayS (p0 : List Stay) (p1 : Int) (Q : Int → (List Stay) → Prop) : Prop :=
  LoopW3 p0 p1 0 (fun x84 v85 v86 next94 => ((v86 < (x84.length : Int)) → ix v86 x84.length ∧ ok64 (v85 + 1) ∧ ix v86 ((x84.set (Int.toNat v86) (v85, x84[(Int.toNat v86)]!.2.1, x84[(Int.toNat v86)]!.2.2)).length) ∧ ok64 ((v85 + 1) + 1) ∧ ix v86 (((x84.set (Int.toNat v86) (v85, x84[(Int.toNat v86)]!.2.1, x84[(Int.toNat v86)]!.2.2)).set (Int.toNat v86) ((x84.set (Int.toNat v86) (v85, x84[(Int.toNat v86)]!.2.1, x84[(Int.toNat v86)]!.2.2))[(Int.toNat v86)]!.1, (v85 + 1), (x84.set (Int.toNat v86) (v85, x84[(Int.toNat v86)]!.2.1, x84[(Int.toNat v86)]!.2.2))[(Int.toNat v86)]!.2.2)).length) ∧ ok64 (((v85 + 1) + 1) + 1) ∧ ok64 (v86 + 1) ∧ next94 (((x84.set (Int.toNat v86) (v85, x84[(Int.toNat v86)]!.2.1, x84[(Int.toNat v86)]!.2.2)).set (Int.toNat v86) ((x84.set (Int.toNat v86) (v85, x84[(Int.toNat v86)]!.2.1, x84[(Int.toNat v86)]!.2.2))[(Int.toNat v86)]!.1, (v85 + 1), (x84.set (Int.toNat v86) (v85, x84[(Int.toNat v86)]!.2.1, x84[(Int.toNat v86)]!.2.2))[(Int.toNat v86)]!.2.2)).set (Int.toNat v86) (((x84.set (Int.toNat v86) (v85, x84[(Int.toNat v86)]!.2.1, x84[(Int.toNat v86)]!.2.2)).set (Int.toNat v86) ((x84.set (Int.toNat v86) (v85, x84[(Int.toNat v86)]!.2.1, x84[(Int.toNat v86)]!.2.2))[(Int.toNat v86)]!.1, (v85 + 1), (x84.set (Int.toNat v86) (v85, x84[(Int.toNat v86)]!.2.1, x84[(Int.toNat v86)]!.2.2))[(Int.toNat v86)]!.2.2))[(Int.toNat v86)]!.1, ((x84.set (Int.toNat v86) (v85, x84[(Int.toNat v86)]!.2.1, x84[(Int.toNat v86)]!.2.2)).set (Int.toNat v86) ((x84.set (Int.toNat v86) (v85, x84[(Int.toNat v86)]!.2.1, x84[(Int.toNat v86)]!.2.2))[(Int.toNat v86)]!.1, (v85 + 1), (x84.set (Int.toNat v86) (v85, x84[(Int.toNat v86)]!.2.1, x84[(Int.toNat v86)]!.2.2))[(Int.toNat v86)]!.2.2))[(Int.toNat v86)]!.2.1, ((v85 + 1) + 1))) (((v85 + 1) + 1) + 1) (v86 + 1)) ∧ (¬ (v86 < (x84.length : Int)) → (m_laws_markStayS_K0 Q) x84 v85))

abbrev m_laws_markIntS_K0 (Q : Int → (List Int) → Prop) (x48 : List Int) (v49 : Int) : Prop :=
  Q v49 x48
def m_laws_markIntS (p0 : List Int) (p1 : Int) (Q : Int → (List Int) → Prop) : Prop :=
  LoopW3 p0 p1 0 (fun x52 v53 v54 next62 => ((v54 < (x52.length : Int)) → ix v54 x52.length ∧ ok64 (v53 + 1) ∧ ok64 (v54 + 1) ∧ next62 (x52.set (Int.toNat v54) v53) (v53 + 1) (v54 + 1)) ∧ (¬ (v54 < (x52.length : Int)) → (m_laws_markIntS_K0 Q) x52 v53))

abbrev m_laws_heldIntS_K0 (Q : Int → Prop) (v44 : Int) : Prop :=
  Q v44
def m_laws_heldIntS (p0 : List Int) (p1 : Int) (Q : Int → Prop) : Prop :=
  LoopW2 p1 0 (fun v47 v48 next56 => ((v48 < (p0.length : Int)) → ix v48 p0.length ∧ ((p0[(Int.toNat v48)]! ≠ v47) → Q (-1)) ∧ (¬ (p0[(Int.toNat v48)]! ≠ v47) → ok64 (v47 + 1) ∧ ok64 (v48 + 1) ∧ next56 (v47 + 1) (v48 + 1))) ∧ (¬ (v48 < (p0.length : Int)) → (m_laws_heldIntS_K0 Q) v47))

def m_laws_FnExactRailsFor (p0 : List Stay) (Q : Bool → Prop) : Prop :=
  m_laws_szStayS p0 1048576 (fun r7 => ((r7 < 0) → Q true) ∧ (¬ (r7 < 0) → m_laws_toStayS p0 (fun r18 => m_spec_RailsFor r18 (fun r28 => m_laws_toStayS p0 (fun r39 => m_impl_RailsFor r39 (fun r50 => m_laws_eqIntS r50 r28 (fun r62 => ((¬ (r62 = true)) → Q false) ∧ (¬ (¬ (r62 = true)) → m_laws_toStayS p0 (fun r72 => m_laws_eqStayS r39 r72 (fun r82 => ((¬ (r82 = true)) → Q false) ∧ (¬ (¬ (r82 = true)) → m_laws_markStayS r39 1 (fun r93 x94 => ∃ r101 : Bool, (¬ (r93 < 0) → m_laws_eqIntS r50 r28 (fun z => z = r101)) ∧ ((((r93 < 0) ∨ (¬ (r101 = true)))) → Q false) ∧ (¬ (((r93 < 0) ∨ (¬ (r101 = true)))) → m_laws_markIntS r50 1 (fun r116 x117 => m_laws_heldIntS x117 1 (fun r124 => ((r124 < 0) → Q false) ∧ (¬ (r124 < 0) → ((r124 ≠ r116) → Q false) ∧ (¬ (r124 ≠ r116) → m_laws_toStayS p0 (fun r139 => m_impl_RailsFor r139 (fun r149 => m_laws_eqIntS r149 r28 (fun r161 => ((¬ (r161 = true)) → Q false) ∧ (¬ (¬ (r161 = true)) → m_laws_heldIntS x117 1 (fun r171 => ((r171 < 0) → Q false) ∧ (¬ (r171 < 0) → ((r171 ≠ r116) → Q false) ∧ (¬ (r171 ≠ r116) → Q true))))))))))))))))))))))))

end Go.Proofs.Ytebfcpninegcgaa
