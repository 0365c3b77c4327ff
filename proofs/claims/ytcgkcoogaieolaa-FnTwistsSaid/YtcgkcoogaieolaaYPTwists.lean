/- The walks: the code does what its model says. Printed by a program (gen2.py). No statement of the claim stands here. -/
import Derived.Test.YtcgkcoogaieolaaLit
import Derived.Test.YtcgkcoogaieolaaFacts2
import Derived.Test.YtcgkcoogaieolaaSop
import Derived.Test.YtcgkcoogaieolaaFacts
import Derived.Test.YtcgkcoogaieolaaMB
import Derived.Test.YtcgkcoogaieolaaWB1
import Derived.Test.YtcgkcoogaieolaaWB2
namespace Go.Proofs.Ytcgkcoogaieolaa
open Go Go.RowKit
set_option maxRecDepth 100000
theorem m_laws_FnTwists_fn {w : World} {a0 : Option Addr} {n0 c0 : Nat} {p0 : List Byte} {Q : Bool → Prop} (hp0 : Vw w.heap.size w a0 n0 c0 p0) (hm : m_laws_FnTwists p0 Q) :
    Fn Try.prog 5 #[.slice a0 n0 c0] w (fun v w' => ∃ (r0 : Bool), Q r0 ∧ v = .bool r0 ∧ Ext w w') := by
  unfold m_laws_FnTwists at hm
  have hB0 := Below.refl w.heap.size w
  have hS0 : Sep w w.heap.size [] := Sep.nil (Nat.le_refl _)
  refine fn_of_wp Try.func5 rfl (by kernel_rfl) (Nat.le_of_ble_eq_true rfl) ?_
  refine w_seq fun K1 hK1 => ?_
  refine w_region ?_
  refine wl_val (g_assign (v := .bool false) rfl) rfl ?_
  refine wl_nil ?_
  refine hK1 _ _ ?_
  refine w_seq fun K2 hK2 => ?_
  refine w_seq fun K3 hK3 => ?_
  refine w_region ?_
  refine wl_val (g_move (v := .slice a0 n0 c0) rfl) rfl ?_
  refine wl_step rfl (g_call (vs := #[.slice a0 n0 c0]) CF23 (args1 rfl) (m_laws_big_fn ((hp0.bel hB0).up hS0) hm)) ?_
  rintro _ w4 ⟨r7, hm, rfl, hE5⟩
  have hB8 := hB0.trans (Ext.stp hE5 hS0.base)
  have hS9 := hS0.ext hE5
  refine wl_nil ?_
  refine hK3 _ _ ?_
  refine w_condI (p := r7 = true) (b := r7) rfl Iff.rfl (fun h10 => ?_) (fun h10 => ?_)
  · replace hm := hm.1 h10
    refine w_seq fun K11 hK11 => ?_
    refine w_region ?_
    refine wl_val (g_assign (v := .bool true) rfl) rfl ?_
    refine wl_nil ?_
    refine hK11 _ _ ?_
    refine w_ret ?_
    repeat first | with_reducible refine q_then ?_ | with_reducible refine q_block ?_
    exact ret1 rfl (by decide) ⟨_, hm, rfl, toExt hB8⟩
  · replace hm := hm.2 h10
    refine w_skip ?_
    refine hK2 _ _ ?_
    refine w_seq fun K12 hK12 => ?_
    refine w_region ?_
    refine wl_val (g_move (v := .slice a0 n0 c0) rfl) rfl ?_
    refine wl_step rfl (g_call (vs := #[.slice a0 n0 c0]) CF24 (args1 rfl) (m_spec_DrawCrosses_fn ((hp0.bel hB8).up hS9) hm)) ?_
    rintro _ w13 ⟨r16, r17, a18, n19, c20, hm, rfl, hE14, hN15⟩
    have hS22 := hS9.call1 hE14 hN15
    have hB23 := hB8.trans (Ext.stp hE14 hS9.base)
    refine wl_val (g_move (v := .tuple #[.int .i64 r16, .slice a18 n19 c20]) rfl) rfl ?_
    refine wl_val (g_extract (vs := #[.int .i64 r16, .slice a18 n19 c20]) rfl rfl) rfl ?_
    refine wl_val (g_extract (vs := #[.int .i64 r16, .slice a18 n19 c20]) rfl rfl) rfl ?_
    refine wl_val (g_assign (v := .int .i64 r16) rfl) rfl ?_
    refine wl_val (g_assign (v := .slice a18 n19 c20) rfl) rfl ?_
    refine wl_nil ?_
    refine hK12 _ _ ?_
    refine w_seq fun K24 hK24 => ?_
    refine w_region ?_
    refine wl_val (g_move (v := .int .i64 r16) rfl) rfl ?_
    refine wl_val (g_move (v := .slice a18 n19 c20) rfl) rfl ?_
    refine wl_step rfl (g_call (vs := #[.int .i64 r16, .slice a18 n19 c20]) CF25 (args2 rfl rfl) (m_impl_TwistTable_fn r16 (oS.vw hS22.g0) hm)) ?_
    rintro _ w25 ⟨r28, a29, n30, c31, y32, hm, he33, rfl, hE26, hN27⟩
    have hS37 := hS22.call2 hE26 hN27
    have hB38 := hB23.trans (Ext.stp hE26 hS22.base)
    refine wl_val (g_assign (v := .slice a29 n30 c31) rfl) rfl ?_
    refine wl_nil ?_
    refine hK24 _ _ ?_
    refine w_seq fun K39 hK39 => ?_
    refine w_region ?_
    refine wl_val (g_move (v := .int .i64 r16) rfl) rfl ?_
    refine wl_val (g_move (v := .slice a18 n19 c20) rfl) rfl ?_
    refine wl_step rfl (g_call (vs := #[.int .i64 r16, .slice a18 n19 c20]) CF26 (args2 rfl rfl) (m_spec_OrderAfter_fn r16 (oS.vw hS37.g2) hm)) ?_
    rintro _ w40 ⟨r43, a44, n45, c46, hm, rfl, hE41, hN42⟩
    have hS48 := hS37.call1 hE41 hN42
    have hB49 := hB38.trans (Ext.stp hE41 hS37.base)
    refine wl_val (g_assign (v := .slice a44 n45 c46) rfl) rfl ?_
    refine wl_nil ?_
    refine hK39 _ _ ?_
    refine w_seq fun K50 hK50 => ?_
    refine w_seq fun K51 hK51 => ?_
    refine w_region ?_
    refine wl_val (g_move (v := .slice a29 n30 c31) rfl) rfl ?_
    refine wl_val (q_len SL37 rfl (Tv.len (oT.vw hS48.g1 hS48.g2 he33))) rfl ?_
    refine wl_val (g_move (v := .int .i64 r16) rfl) rfl ?_
    refine wl_val (g_neq (a := (r28.length : Int)) (b := r16) rfl rfl) rfl ?_
    refine wl_nil ?_
    refine hK51 _ _ ?_
    refine w_condI (p := (r28.length : Int) ≠ r16) (b := (decide ((r28.length : Int) ≠ r16))) rfl decide_eq_true_iff (fun h52 => ?_) (fun h52 => ?_)
    · replace hm := hm.1 h52
      refine w_seq fun K53 hK53 => ?_
      refine w_region ?_
      refine wl_val (g_assign (v := .bool false) rfl) rfl ?_
      refine wl_nil ?_
      refine hK53 _ _ ?_
      refine w_ret ?_
      repeat first | with_reducible refine q_then ?_ | with_reducible refine q_block ?_
      exact ret1 rfl (by decide) ⟨_, hm, rfl, toExt hB49⟩
    · replace hm := hm.2 h52
      refine w_skip ?_
      refine hK50 _ _ ?_
      refine w_seq fun K54 hK54 => ?_
      refine w_region ?_
      refine wl_val (g_assign (v := .int .i64 0) rfl) rfl ?_
      refine wl_nil ?_
      refine hK54 _ _ ?_
      refine w_seq fun K55 hK55 => ?_
      refine w_region ?_
      refine wl_val (g_assign (v := .int .i64 0) rfl) rfl ?_
      refine wl_nil ?_
      refine hK55 _ _ ?_
      refine w_seq fun K56 hK56 => ?_
      refine w_region ?_
      refine wl_val (g_assign (v := .int .i64 0) rfl) rfl ?_
      refine wl_nil ?_
      refine hK56 _ _ ?_
      refine w_cut (σ := Int × Int × Int) (fun ⟨v1852, v1853, v1854⟩ => [(3, .int .i64 r16), (4, .slice a18 n19 c20), (6, .slice a44 n45 c46), (7, .int .i64 v1852), (8, .int .i64 v1853), (9, .int .i64 v1854)]) (fun ⟨v1852, v1853, v1854⟩ w' => m_laws_FnTwists_K1 r16 r17 r43 Q v1852 v1853 v1854 ∧ Below w.heap.size w w' ∧ Sep w' w.heap.size [oS 56 a18 n19 c20 (r17 : List Cross), oS 3 a44 n45 c46 (r43 : List Int)]) ?_ ?_
      · refine w_seq fun K1856 hK1856 => ?_
        refine w_region ?_
        refine wl_val (g_assign (v := .int .i64 0) rfl) rfl ?_
        refine wl_nil ?_
        refine hK1856 _ _ ?_
        refine w_block ?_
        have hS1861 := hS48.f2
        have hS1862 := hS1861.f2
        have hS1863 := hS1862.f3
        obtain ⟨I1864, μ1865, h01866, hr1867⟩ := hm
        refine w_for (σ := Int × Int × Int × Int) (fun ⟨v1857, v1858, v1859, v1860⟩ => [(3, .int .i64 r16), (4, .slice a18 n19 c20), (5, .slice a29 n30 c31), (6, .slice a44 n45 c46), (7, .int .i64 v1857), (8, .int .i64 v1858), (9, .int .i64 v1859), (10, .int .i64 v1860)]) (fun ⟨v1857, v1858, v1859, v1860⟩ w' => I1864 v1857 v1858 v1859 v1860 ∧ Below w.heap.size w w' ∧ Sep w' w.heap.size [oS 56 a18 n19 c20 (r17 : List Cross), oS 39 a29 n30 c31 (y32 : List (Hd Int)), oT 3 (y32 : List (Hd Int)), oS 3 a44 n45 c46 (r43 : List Int)]) (fun ⟨v1857, v1858, v1859, v1860⟩ => μ1865 v1857 v1858 v1859 v1860) (0, 0, 0, 0) ⟨rfl, rfl, rfl, rfl, rfl, rfl, rfl, rfl, trivial⟩ ⟨h01866, hB49, hS1863⟩ ?_
        rintro ⟨v1857, v1858, v1859, v1860⟩ b_ w1868 ⟨hi_, hB1869, hS1870⟩
        show Wp _ _ _ _ (upds b_ [(3, .int .i64 r16), (4, .slice a18 n19 c20), (5, .slice a29 n30 c31), (6, .slice a44 n45 c46), (7, .int .i64 v1857), (8, .int .i64 v1858), (9, .int .i64 v1859), (10, .int .i64 v1860)]) w1868
        have hm := hr1867 v1857 v1858 v1859 v1860 hi_
        refine w_seq fun K1872 hK1872 => ?_
        refine w_seq fun K1873 hK1873 => ?_
        refine w_region ?_
        refine wl_val (g_move (v := .int .i64 v1860) rfl) rfl ?_
        refine wl_val (g_move (v := .int .i64 r16) rfl) rfl ?_
        refine wl_val (g_lss (a := v1860) (b := r16) rfl rfl) rfl ?_
        refine wl_nil ?_
        refine hK1873 _ _ ?_
        refine w_condI (p := v1860 < r16) (b := (decide (v1860 < r16))) rfl decide_eq_true_iff (fun h1874 => ?_) (fun h1874 => ?_)
        · replace hm := hm.1 h1874
          refine w_skip ?_
          refine hK1872 _ _ ?_
          refine w_cut (σ := Int × Int × Int) (fun ⟨v1875, v1876, v1877⟩ => [(3, .int .i64 r16), (4, .slice a18 n19 c20), (5, .slice a29 n30 c31), (6, .slice a44 n45 c46), (7, .int .i64 v1875), (8, .int .i64 v1876), (9, .int .i64 v1877), (10, .int .i64 v1860)]) (fun ⟨v1875, v1876, v1877⟩ w' => m_laws_FnTwists_K0 v1860 (fun v1857' v1858' v1859' v1860' => I1864 v1857' v1858' v1859' v1860' ∧ μ1865 v1857' v1858' v1859' v1860' < μ1865 v1857 v1858 v1859 v1860) v1875 v1876 v1877 ∧ Below w.heap.size w w' ∧ Sep w' w.heap.size [oS 56 a18 n19 c20 (r17 : List Cross), oS 39 a29 n30 c31 (y32 : List (Hd Int)), oT 3 (y32 : List (Hd Int)), oS 3 a44 n45 c46 (r43 : List Int)]) ?_ ?_
          · refine w_block ?_
            refine w_seq fun K1879 hK1879 => ?_
            refine w_seq fun K1880 hK1880 => ?_
            refine w_region ?_
            refine wl_val (g_move (v := .slice a29 n30 c31) rfl) rfl ?_
            refine wl_val (g_move (v := .int .i64 v1860) rfl) rfl ?_
            obtain ⟨hg1881, hm⟩ := hm
            refine wl_val (q_index (i := v1860) SL37 rfl rfl (Tv.o (oT.vw hS1870.g1 hS1870.g2 he33)) (Tv.g (oT.vw hS1870.g1 hS1870.g2 he33) hg1881)) rfl ?_
            refine wl_val (q_load (i := v1860) (v := .slice ((y32[(Int.toNat v1860)]!).1) ((y32[(Int.toNat v1860)]!).2.2.length) ((y32[(Int.toNat v1860)]!).2.1)) ON39 (Tv.o (oT.vw hS1870.g1 hS1870.g2 he33)) (Tv.g (oT.vw hS1870.g1 hS1870.g2 he33) hg1881) rfl rfl) rfl ?_
            refine wl_val (q_len SL39 rfl (Vw.len (Tv.row (oT.vw hS1870.g1 hS1870.g2 he33) hg1881))) rfl ?_
            refine wl_val (g_move (v := .int .i64 r16) rfl) rfl ?_
            refine wl_val (g_neq (a := ((r28[(Int.toNat v1860)]!).length : Int)) (b := r16) rfl rfl) rfl ?_
            refine wl_val (g_move (v := .bool (decide (((r28[(Int.toNat v1860)]!).length : Int) ≠ r16))) rfl) rfl ?_
            refine wl_guard (c := (decide (((r28[(Int.toNat v1860)]!).length : Int) ≠ r16)) = false) (val := .slice a29 n30 c31) (b := ((decide (((r28[(Int.toNat v1860)]!).length : Int) ≠ r16)) == false)) (gv_some rfl rfl rfl) beq_iff_eq (fun hc1882 => ?_) ?_
            · have hcq13 : ¬ (((r28[(Int.toNat v1860)]!).length : Int) ≠ r16) := (i_neg decide_eq_true_iff hc1882)
              exact g_move (v := .slice a29 n30 c31) rfl
            refine wl_guard (c := (decide (((r28[(Int.toNat v1860)]!).length : Int) ≠ r16)) = false) (val := .int .i64 v1860) (b := ((decide (((r28[(Int.toNat v1860)]!).length : Int) ≠ r16)) == false)) (gv_some rfl rfl rfl) beq_iff_eq (fun hc1883 => ?_) ?_
            · have hcq13 : ¬ (((r28[(Int.toNat v1860)]!).length : Int) ≠ r16) := (i_neg decide_eq_true_iff hc1883)
              exact g_move (v := .int .i64 v1860) rfl
            obtain ⟨hg1885, hm⟩ := hm
            refine wl_guard (c := (decide (((r28[(Int.toNat v1860)]!).length : Int) ≠ r16)) = false) (val := .pointer (some ((adr a29).add ((Int.toNat v1860) * El.m (Hd Int))))) (b := ((decide (((r28[(Int.toNat v1860)]!).length : Int) ≠ r16)) == false)) (gv_some rfl rfl rfl) beq_iff_eq (fun hc1884 => ?_) ?_
            · have hcq13 : ¬ (((r28[(Int.toNat v1860)]!).length : Int) ≠ r16) := (i_neg decide_eq_true_iff hc1884)
              exact q_index (i := v1860) SL37 (if_pos hc1884) (if_pos hc1884) (Tv.o (oT.vw hS1870.g1 hS1870.g2 he33)) (Tv.g (oT.vw hS1870.g1 hS1870.g2 he33) (hg1885 hcq13))
            refine wl_guard (c := (decide (((r28[(Int.toNat v1860)]!).length : Int) ≠ r16)) = false) (val := .slice ((y32[(Int.toNat v1860)]!).1) ((y32[(Int.toNat v1860)]!).2.2.length) ((y32[(Int.toNat v1860)]!).2.1)) (b := ((decide (((r28[(Int.toNat v1860)]!).length : Int) ≠ r16)) == false)) (gv_some rfl rfl rfl) beq_iff_eq (fun hc1886 => ?_) ?_
            · have hcq13 : ¬ (((r28[(Int.toNat v1860)]!).length : Int) ≠ r16) := (i_neg decide_eq_true_iff hc1886)
              exact q_load (i := v1860) (v := .slice ((y32[(Int.toNat v1860)]!).1) ((y32[(Int.toNat v1860)]!).2.2.length) ((y32[(Int.toNat v1860)]!).2.1)) ON39 (Tv.o (oT.vw hS1870.g1 hS1870.g2 he33)) (Tv.g (oT.vw hS1870.g1 hS1870.g2 he33) (hg1885 hcq13)) rfl (if_pos hc1886)
            refine wl_guard (c := (decide (((r28[(Int.toNat v1860)]!).length : Int) ≠ r16)) = false) (val := .int .i64 v1860) (b := ((decide (((r28[(Int.toNat v1860)]!).length : Int) ≠ r16)) == false)) (gv_some rfl rfl rfl) beq_iff_eq (fun hc1887 => ?_) ?_
            · have hcq13 : ¬ (((r28[(Int.toNat v1860)]!).length : Int) ≠ r16) := (i_neg decide_eq_true_iff hc1887)
              exact g_move (v := .int .i64 v1860) rfl
            obtain ⟨hg1889, hm⟩ := hm
            refine wl_guard (c := (decide (((r28[(Int.toNat v1860)]!).length : Int) ≠ r16)) = false) (val := .pointer (some ((adr ((y32[(Int.toNat v1860)]!).1)).add ((Int.toNat v1860) * El.m Int)))) (b := ((decide (((r28[(Int.toNat v1860)]!).length : Int) ≠ r16)) == false)) (gv_some rfl rfl rfl) beq_iff_eq (fun hc1888 => ?_) ?_
            · have hcq13 : ¬ (((r28[(Int.toNat v1860)]!).length : Int) ≠ r16) := (i_neg decide_eq_true_iff hc1888)
              exact q_index (i := v1860) SL39 (if_pos hc1888) (if_pos hc1888) (Tv.row (oT.vw hS1870.g1 hS1870.g2 he33) (hg1885 hcq13)) (hg1889 hcq13)
            refine wl_guard (c := (decide (((r28[(Int.toNat v1860)]!).length : Int) ≠ r16)) = false) (val := .int .i64 ((r28[(Int.toNat v1860)]!)[(Int.toNat v1860)]!)) (b := ((decide (((r28[(Int.toNat v1860)]!).length : Int) ≠ r16)) == false)) (gv_some rfl rfl rfl) beq_iff_eq (fun hc1890 => ?_) ?_
            · have hcq13 : ¬ (((r28[(Int.toNat v1860)]!).length : Int) ≠ r16) := (i_neg decide_eq_true_iff hc1890)
              exact q_load (i := v1860) (v := .int .i64 ((r28[(Int.toNat v1860)]!)[(Int.toNat v1860)]!)) ON3 (Tv.row (oT.vw hS1870.g1 hS1870.g2 he33) (hg1885 hcq13)) (hg1889 hcq13) rfl (if_pos hc1890)
            refine wl_guard (c := (decide (((r28[(Int.toNat v1860)]!).length : Int) ≠ r16)) = false) (val := .bool (decide ((r28[(Int.toNat v1860)]!)[(Int.toNat v1860)]! ≠ 0))) (b := ((decide (((r28[(Int.toNat v1860)]!).length : Int) ≠ r16)) == false)) (gv_some rfl rfl rfl) beq_iff_eq (fun hc1891 => ?_) ?_
            · have hcq13 : ¬ (((r28[(Int.toNat v1860)]!).length : Int) ≠ r16) := (i_neg decide_eq_true_iff hc1891)
              exact g_neq (a := (r28[(Int.toNat v1860)]!)[(Int.toNat v1860)]!) (b := 0) (if_pos hc1891) rfl
            refine wl_val (g_pick_or (b := (decide (((r28[(Int.toNat v1860)]!).length : Int) ≠ r16))) (q := (decide ((r28[(Int.toNat v1860)]!)[(Int.toNat v1860)]! ≠ 0))) rfl rfl) rfl ?_
            refine wl_nil ?_
            refine hK1880 _ _ ?_
            refine w_condI (p := ((((r28[(Int.toNat v1860)]!).length : Int) ≠ r16) ∨ ((r28[(Int.toNat v1860)]!)[(Int.toNat v1860)]! ≠ 0))) (b := ((decide (((r28[(Int.toNat v1860)]!).length : Int) ≠ r16)) || (decide ((r28[(Int.toNat v1860)]!)[(Int.toNat v1860)]! ≠ 0)))) rfl (i_or decide_eq_true_iff decide_eq_true_iff) (fun h1892 => ?_) (fun h1892 => ?_)
            · replace hm := hm.1 h1892
              refine w_seq fun K1893 hK1893 => ?_
              refine w_region ?_
              refine wl_val (g_assign (v := .bool false) rfl) rfl ?_
              refine wl_nil ?_
              refine hK1893 _ _ ?_
              refine w_ret ?_
              repeat first | with_reducible refine q_then ?_ | with_reducible refine q_block ?_
              exact ret1 rfl (by decide) ⟨_, hm, rfl, toExt hB1869⟩
            · replace hm := hm.2 h1892
              refine w_skip ?_
              refine hK1879 _ _ ?_
              refine w_seq fun K1894 hK1894 => ?_
              refine w_region ?_
              refine wl_val (g_assign (v := .int .i64 0) rfl) rfl ?_
              refine wl_nil ?_
              refine hK1894 _ _ ?_
              refine w_block ?_
              obtain ⟨I1899, μ1900, h01901, hr1902⟩ := hm
              refine w_for (σ := Int × Int × Int × Int) (fun ⟨v1895, v1896, v1897, v1898⟩ => [(3, .int .i64 r16), (4, .slice a18 n19 c20), (5, .slice a29 n30 c31), (6, .slice a44 n45 c46), (7, .int .i64 v1895), (8, .int .i64 v1896), (9, .int .i64 v1897), (10, .int .i64 v1860), (11, .int .i64 v1898)]) (fun ⟨v1895, v1896, v1897, v1898⟩ w' => I1899 v1895 v1896 v1897 v1898 ∧ Below w.heap.size w w' ∧ Sep w' w.heap.size [oS 56 a18 n19 c20 (r17 : List Cross), oS 39 a29 n30 c31 (y32 : List (Hd Int)), oT 3 (y32 : List (Hd Int)), oS 3 a44 n45 c46 (r43 : List Int)]) (fun ⟨v1895, v1896, v1897, v1898⟩ => μ1900 v1895 v1896 v1897 v1898) (v1857, v1858, v1859, 0) ⟨rfl, rfl, rfl, rfl, rfl, rfl, rfl, rfl, rfl, trivial⟩ ⟨h01901, hB1869, hS1870⟩ ?_
              rintro ⟨v1895, v1896, v1897, v1898⟩ b_ w1903 ⟨hi_, hB1904, hS1905⟩
              show Wp _ _ _ _ (upds b_ [(3, .int .i64 r16), (4, .slice a18 n19 c20), (5, .slice a29 n30 c31), (6, .slice a44 n45 c46), (7, .int .i64 v1895), (8, .int .i64 v1896), (9, .int .i64 v1897), (10, .int .i64 v1860), (11, .int .i64 v1898)]) w1903
              have hm := hr1902 v1895 v1896 v1897 v1898 hi_
              refine w_seq fun K1907 hK1907 => ?_
              refine w_seq fun K1908 hK1908 => ?_
              refine w_region ?_
              refine wl_val (g_move (v := .int .i64 v1898) rfl) rfl ?_
              refine wl_val (g_move (v := .int .i64 v1860) rfl) rfl ?_
              refine wl_val (g_lss (a := v1898) (b := v1860) rfl rfl) rfl ?_
              refine wl_nil ?_
              refine hK1908 _ _ ?_
              refine w_condI (p := v1898 < v1860) (b := (decide (v1898 < v1860))) rfl decide_eq_true_iff (fun h1909 => ?_) (fun h1909 => ?_)
              · replace hm := hm.1 h1909
                refine w_skip ?_
                refine hK1907 _ _ ?_
                refine w_seq fun K1910 hK1910 => ?_
                refine w_block ?_
                refine w_seq fun K1911 hK1911 => ?_
                refine w_seq fun K1912 hK1912 => ?_
                refine w_draw (X := Ext) (Y := Ext) [] MIX (by decide +kernel) rfl Ext.refl (fun _ _ _ => Ext.trans) (fun _ _ _ => Chg.trans) (fun _ _ h => Ext.chg h _) (fun w1913 hE1914 => ?_)
                have hB1915 := hB1904.trans (Ext.stp hE1914 hS1905.base)
                have hS1916 := hS1905.ext hE1914
                refine ⟨.slice a29 n30 c31, fun w1917 hX1918 => od_plain rfl (by have hS1919 := hS1916.ext hX1918; have hB1920 := hB1915.trans (Ext.stp hX1918 hS1916.base); exact is_ext (g_move (v := .slice a29 n30 c31) rfl)), ?_⟩
                refine ⟨.int .i64 v1898, fun w1921 hX1922 => od_plain rfl (by have hS1923 := hS1916.ext hX1922; have hB1924 := hB1915.trans (Ext.stp hX1922 hS1916.base); exact is_ext (g_move (v := .int .i64 v1898) rfl)), ?_⟩
                obtain ⟨hg1929, hm⟩ := hm
                refine ⟨.pointer (some ((adr a29).add ((Int.toNat v1898) * El.m (Hd Int)))), fun w1925 hX1926 => od_plain rfl (by have hS1927 := hS1916.ext hX1926; have hB1928 := hB1915.trans (Ext.stp hX1926 hS1916.base); exact is_ext (q_index (i := v1898) SL37 rfl rfl (Tv.o (oT.vw hS1927.g1 hS1927.g2 he33)) (Tv.g (oT.vw hS1927.g1 hS1927.g2 he33) hg1929))), ?_⟩
                refine ⟨.slice ((y32[(Int.toNat v1898)]!).1) ((y32[(Int.toNat v1898)]!).2.2.length) ((y32[(Int.toNat v1898)]!).2.1), fun w1930 hX1931 => od_plain rfl (by have hS1932 := hS1916.ext hX1931; have hB1933 := hB1915.trans (Ext.stp hX1931 hS1916.base); exact is_ext (q_load (i := v1898) (v := .slice ((y32[(Int.toNat v1898)]!).1) ((y32[(Int.toNat v1898)]!).2.2.length) ((y32[(Int.toNat v1898)]!).2.1)) ON39 (Tv.o (oT.vw hS1932.g1 hS1932.g2 he33)) (Tv.g (oT.vw hS1932.g1 hS1932.g2 he33) hg1929) rfl rfl)), ?_⟩
                refine ⟨.int .i64 ((r28[(Int.toNat v1898)]!).length : Int), fun w1934 hX1935 => od_plain rfl (by have hS1936 := hS1916.ext hX1935; have hB1937 := hB1915.trans (Ext.stp hX1935 hS1916.base); exact is_ext (q_len SL39 rfl (Vw.len (Tv.row (oT.vw hS1936.g1 hS1936.g2 he33) hg1929)))), ?_⟩
                refine ⟨.int .i64 r16, fun w1938 hX1939 => od_plain rfl (by have hS1940 := hS1916.ext hX1939; have hB1941 := hB1915.trans (Ext.stp hX1939 hS1916.base); exact is_ext (g_move (v := .int .i64 r16) rfl)), ?_⟩
                refine ⟨.bool (decide (((r28[(Int.toNat v1898)]!).length : Int) ≠ r16)), fun w1942 hX1943 => od_plain rfl (by have hS1944 := hS1916.ext hX1943; have hB1945 := hB1915.trans (Ext.stp hX1943 hS1916.base); exact is_ext (g_neq (a := ((r28[(Int.toNat v1898)]!).length : Int)) (b := r16) rfl rfl)), ?_⟩
                refine ⟨.bool (decide (((r28[(Int.toNat v1898)]!).length : Int) ≠ r16)), fun w1946 hX1947 => od_plain rfl (by have hS1948 := hS1916.ext hX1947; have hB1949 := hB1915.trans (Ext.stp hX1947 hS1916.base); exact is_ext (g_move (v := .bool (decide (((r28[(Int.toNat v1898)]!).length : Int) ≠ r16))) rfl)), ?_⟩
                refine ⟨if (decide (((r28[(Int.toNat v1898)]!).length : Int) ≠ r16)) = false then .slice a29 n30 c31 else undef, fun w1950 hX1951 => od_guard (c := (decide (((r28[(Int.toNat v1898)]!).length : Int) ≠ r16)) = false) (val := .slice a29 n30 c31) (b := ((decide (((r28[(Int.toNat v1898)]!).length : Int) ≠ r16)) == false)) (gv_some rfl rfl rfl) beq_iff_eq (fun hc1954 => ?_), ?_⟩
                · have hS1952 := hS1916.ext hX1951
                  have hB1953 := hB1915.trans (Ext.stp hX1951 hS1916.base)
                  have hcq14 : ¬ (((r28[(Int.toNat v1898)]!).length : Int) ≠ r16) := (i_neg decide_eq_true_iff hc1954)
                  exact is_ext (g_move (v := .slice a29 n30 c31) rfl)
                refine ⟨if (decide (((r28[(Int.toNat v1898)]!).length : Int) ≠ r16)) = false then .int .i64 v1860 else undef, fun w1955 hX1956 => od_guard (c := (decide (((r28[(Int.toNat v1898)]!).length : Int) ≠ r16)) = false) (val := .int .i64 v1860) (b := ((decide (((r28[(Int.toNat v1898)]!).length : Int) ≠ r16)) == false)) (gv_some rfl rfl rfl) beq_iff_eq (fun hc1959 => ?_), ?_⟩
                · have hS1957 := hS1916.ext hX1956
                  have hB1958 := hB1915.trans (Ext.stp hX1956 hS1916.base)
                  have hcq14 : ¬ (((r28[(Int.toNat v1898)]!).length : Int) ≠ r16) := (i_neg decide_eq_true_iff hc1959)
                  exact is_ext (g_move (v := .int .i64 v1860) rfl)
                obtain ⟨hg1965, hm⟩ := hm
                refine ⟨if (decide (((r28[(Int.toNat v1898)]!).length : Int) ≠ r16)) = false then .pointer (some ((adr a29).add ((Int.toNat v1860) * El.m (Hd Int)))) else undef, fun w1960 hX1961 => od_guard (c := (decide (((r28[(Int.toNat v1898)]!).length : Int) ≠ r16)) = false) (val := .pointer (some ((adr a29).add ((Int.toNat v1860) * El.m (Hd Int))))) (b := ((decide (((r28[(Int.toNat v1898)]!).length : Int) ≠ r16)) == false)) (gv_some rfl rfl rfl) beq_iff_eq (fun hc1964 => ?_), ?_⟩
                · have hS1962 := hS1916.ext hX1961
                  have hB1963 := hB1915.trans (Ext.stp hX1961 hS1916.base)
                  have hcq14 : ¬ (((r28[(Int.toNat v1898)]!).length : Int) ≠ r16) := (i_neg decide_eq_true_iff hc1964)
                  exact is_ext (q_index (i := v1860) SL37 (if_pos hc1964) (if_pos hc1964) (Tv.o (oT.vw hS1962.g1 hS1962.g2 he33)) (Tv.g (oT.vw hS1962.g1 hS1962.g2 he33) (hg1965 hcq14)))
                refine ⟨if (decide (((r28[(Int.toNat v1898)]!).length : Int) ≠ r16)) = false then .slice ((y32[(Int.toNat v1860)]!).1) ((y32[(Int.toNat v1860)]!).2.2.length) ((y32[(Int.toNat v1860)]!).2.1) else undef, fun w1966 hX1967 => od_guard (c := (decide (((r28[(Int.toNat v1898)]!).length : Int) ≠ r16)) = false) (val := .slice ((y32[(Int.toNat v1860)]!).1) ((y32[(Int.toNat v1860)]!).2.2.length) ((y32[(Int.toNat v1860)]!).2.1)) (b := ((decide (((r28[(Int.toNat v1898)]!).length : Int) ≠ r16)) == false)) (gv_some rfl rfl rfl) beq_iff_eq (fun hc1970 => ?_), ?_⟩
                · have hS1968 := hS1916.ext hX1967
                  have hB1969 := hB1915.trans (Ext.stp hX1967 hS1916.base)
                  have hcq14 : ¬ (((r28[(Int.toNat v1898)]!).length : Int) ≠ r16) := (i_neg decide_eq_true_iff hc1970)
                  exact is_ext (q_load (i := v1860) (v := .slice ((y32[(Int.toNat v1860)]!).1) ((y32[(Int.toNat v1860)]!).2.2.length) ((y32[(Int.toNat v1860)]!).2.1)) ON39 (Tv.o (oT.vw hS1968.g1 hS1968.g2 he33)) (Tv.g (oT.vw hS1968.g1 hS1968.g2 he33) (hg1965 hcq14)) rfl (if_pos hc1970))
                refine ⟨if (decide (((r28[(Int.toNat v1898)]!).length : Int) ≠ r16)) = false then .int .i64 v1898 else undef, fun w1971 hX1972 => od_guard (c := (decide (((r28[(Int.toNat v1898)]!).length : Int) ≠ r16)) = false) (val := .int .i64 v1898) (b := ((decide (((r28[(Int.toNat v1898)]!).length : Int) ≠ r16)) == false)) (gv_some rfl rfl rfl) beq_iff_eq (fun hc1975 => ?_), ?_⟩
                · have hS1973 := hS1916.ext hX1972
                  have hB1974 := hB1915.trans (Ext.stp hX1972 hS1916.base)
                  have hcq14 : ¬ (((r28[(Int.toNat v1898)]!).length : Int) ≠ r16) := (i_neg decide_eq_true_iff hc1975)
                  exact is_ext (g_move (v := .int .i64 v1898) rfl)
                obtain ⟨hg1981, hm⟩ := hm
                refine ⟨if (decide (((r28[(Int.toNat v1898)]!).length : Int) ≠ r16)) = false then .pointer (some ((adr ((y32[(Int.toNat v1860)]!).1)).add ((Int.toNat v1898) * El.m Int))) else undef, fun w1976 hX1977 => od_guard (c := (decide (((r28[(Int.toNat v1898)]!).length : Int) ≠ r16)) = false) (val := .pointer (some ((adr ((y32[(Int.toNat v1860)]!).1)).add ((Int.toNat v1898) * El.m Int)))) (b := ((decide (((r28[(Int.toNat v1898)]!).length : Int) ≠ r16)) == false)) (gv_some rfl rfl rfl) beq_iff_eq (fun hc1980 => ?_), ?_⟩
                · have hS1978 := hS1916.ext hX1977
                  have hB1979 := hB1915.trans (Ext.stp hX1977 hS1916.base)
                  have hcq14 : ¬ (((r28[(Int.toNat v1898)]!).length : Int) ≠ r16) := (i_neg decide_eq_true_iff hc1980)
                  exact is_ext (q_index (i := v1898) SL39 (if_pos hc1980) (if_pos hc1980) (Tv.row (oT.vw hS1978.g1 hS1978.g2 he33) (hg1965 hcq14)) (hg1981 hcq14))
                refine ⟨if (decide (((r28[(Int.toNat v1898)]!).length : Int) ≠ r16)) = false then .int .i64 ((r28[(Int.toNat v1860)]!)[(Int.toNat v1898)]!) else undef, fun w1982 hX1983 => od_guard (c := (decide (((r28[(Int.toNat v1898)]!).length : Int) ≠ r16)) = false) (val := .int .i64 ((r28[(Int.toNat v1860)]!)[(Int.toNat v1898)]!)) (b := ((decide (((r28[(Int.toNat v1898)]!).length : Int) ≠ r16)) == false)) (gv_some rfl rfl rfl) beq_iff_eq (fun hc1986 => ?_), ?_⟩
                · have hS1984 := hS1916.ext hX1983
                  have hB1985 := hB1915.trans (Ext.stp hX1983 hS1916.base)
                  have hcq14 : ¬ (((r28[(Int.toNat v1898)]!).length : Int) ≠ r16) := (i_neg decide_eq_true_iff hc1986)
                  exact is_ext (q_load (i := v1898) (v := .int .i64 ((r28[(Int.toNat v1860)]!)[(Int.toNat v1898)]!)) ON3 (Tv.row (oT.vw hS1984.g1 hS1984.g2 he33) (hg1965 hcq14)) (hg1981 hcq14) rfl (if_pos hc1986))
                refine ⟨if (decide (((r28[(Int.toNat v1898)]!).length : Int) ≠ r16)) = false then .slice a29 n30 c31 else undef, fun w1987 hX1988 => od_guard (c := (decide (((r28[(Int.toNat v1898)]!).length : Int) ≠ r16)) = false) (val := .slice a29 n30 c31) (b := ((decide (((r28[(Int.toNat v1898)]!).length : Int) ≠ r16)) == false)) (gv_some rfl rfl rfl) beq_iff_eq (fun hc1991 => ?_), ?_⟩
                · have hS1989 := hS1916.ext hX1988
                  have hB1990 := hB1915.trans (Ext.stp hX1988 hS1916.base)
                  have hcq14 : ¬ (((r28[(Int.toNat v1898)]!).length : Int) ≠ r16) := (i_neg decide_eq_true_iff hc1991)
                  exact is_ext (g_move (v := .slice a29 n30 c31) rfl)
                refine ⟨if (decide (((r28[(Int.toNat v1898)]!).length : Int) ≠ r16)) = false then .int .i64 v1898 else undef, fun w1992 hX1993 => od_guard (c := (decide (((r28[(Int.toNat v1898)]!).length : Int) ≠ r16)) = false) (val := .int .i64 v1898) (b := ((decide (((r28[(Int.toNat v1898)]!).length : Int) ≠ r16)) == false)) (gv_some rfl rfl rfl) beq_iff_eq (fun hc1996 => ?_), ?_⟩
                · have hS1994 := hS1916.ext hX1993
                  have hB1995 := hB1915.trans (Ext.stp hX1993 hS1916.base)
                  have hcq14 : ¬ (((r28[(Int.toNat v1898)]!).length : Int) ≠ r16) := (i_neg decide_eq_true_iff hc1996)
                  exact is_ext (g_move (v := .int .i64 v1898) rfl)
                obtain ⟨hg2002, hm⟩ := hm
                refine ⟨if (decide (((r28[(Int.toNat v1898)]!).length : Int) ≠ r16)) = false then .pointer (some ((adr a29).add ((Int.toNat v1898) * El.m (Hd Int)))) else undef, fun w1997 hX1998 => od_guard (c := (decide (((r28[(Int.toNat v1898)]!).length : Int) ≠ r16)) = false) (val := .pointer (some ((adr a29).add ((Int.toNat v1898) * El.m (Hd Int))))) (b := ((decide (((r28[(Int.toNat v1898)]!).length : Int) ≠ r16)) == false)) (gv_some rfl rfl rfl) beq_iff_eq (fun hc2001 => ?_), ?_⟩
                · have hS1999 := hS1916.ext hX1998
                  have hB2000 := hB1915.trans (Ext.stp hX1998 hS1916.base)
                  have hcq14 : ¬ (((r28[(Int.toNat v1898)]!).length : Int) ≠ r16) := (i_neg decide_eq_true_iff hc2001)
                  exact is_ext (q_index (i := v1898) SL37 (if_pos hc2001) (if_pos hc2001) (Tv.o (oT.vw hS1999.g1 hS1999.g2 he33)) (Tv.g (oT.vw hS1999.g1 hS1999.g2 he33) (hg2002 hcq14)))
                refine ⟨if (decide (((r28[(Int.toNat v1898)]!).length : Int) ≠ r16)) = false then .slice ((y32[(Int.toNat v1898)]!).1) ((y32[(Int.toNat v1898)]!).2.2.length) ((y32[(Int.toNat v1898)]!).2.1) else undef, fun w2003 hX2004 => od_guard (c := (decide (((r28[(Int.toNat v1898)]!).length : Int) ≠ r16)) = false) (val := .slice ((y32[(Int.toNat v1898)]!).1) ((y32[(Int.toNat v1898)]!).2.2.length) ((y32[(Int.toNat v1898)]!).2.1)) (b := ((decide (((r28[(Int.toNat v1898)]!).length : Int) ≠ r16)) == false)) (gv_some rfl rfl rfl) beq_iff_eq (fun hc2007 => ?_), ?_⟩
                · have hS2005 := hS1916.ext hX2004
                  have hB2006 := hB1915.trans (Ext.stp hX2004 hS1916.base)
                  have hcq14 : ¬ (((r28[(Int.toNat v1898)]!).length : Int) ≠ r16) := (i_neg decide_eq_true_iff hc2007)
                  exact is_ext (q_load (i := v1898) (v := .slice ((y32[(Int.toNat v1898)]!).1) ((y32[(Int.toNat v1898)]!).2.2.length) ((y32[(Int.toNat v1898)]!).2.1)) ON39 (Tv.o (oT.vw hS2005.g1 hS2005.g2 he33)) (Tv.g (oT.vw hS2005.g1 hS2005.g2 he33) (hg2002 hcq14)) rfl (if_pos hc2007))
                refine ⟨if (decide (((r28[(Int.toNat v1898)]!).length : Int) ≠ r16)) = false then .int .i64 v1860 else undef, fun w2008 hX2009 => od_guard (c := (decide (((r28[(Int.toNat v1898)]!).length : Int) ≠ r16)) = false) (val := .int .i64 v1860) (b := ((decide (((r28[(Int.toNat v1898)]!).length : Int) ≠ r16)) == false)) (gv_some rfl rfl rfl) beq_iff_eq (fun hc2012 => ?_), ?_⟩
                · have hS2010 := hS1916.ext hX2009
                  have hB2011 := hB1915.trans (Ext.stp hX2009 hS1916.base)
                  have hcq14 : ¬ (((r28[(Int.toNat v1898)]!).length : Int) ≠ r16) := (i_neg decide_eq_true_iff hc2012)
                  exact is_ext (g_move (v := .int .i64 v1860) rfl)
                obtain ⟨hg2018, hm⟩ := hm
                refine ⟨if (decide (((r28[(Int.toNat v1898)]!).length : Int) ≠ r16)) = false then .pointer (some ((adr ((y32[(Int.toNat v1898)]!).1)).add ((Int.toNat v1860) * El.m Int))) else undef, fun w2013 hX2014 => od_guard (c := (decide (((r28[(Int.toNat v1898)]!).length : Int) ≠ r16)) = false) (val := .pointer (some ((adr ((y32[(Int.toNat v1898)]!).1)).add ((Int.toNat v1860) * El.m Int)))) (b := ((decide (((r28[(Int.toNat v1898)]!).length : Int) ≠ r16)) == false)) (gv_some rfl rfl rfl) beq_iff_eq (fun hc2017 => ?_), ?_⟩
                · have hS2015 := hS1916.ext hX2014
                  have hB2016 := hB1915.trans (Ext.stp hX2014 hS1916.base)
                  have hcq14 : ¬ (((r28[(Int.toNat v1898)]!).length : Int) ≠ r16) := (i_neg decide_eq_true_iff hc2017)
                  exact is_ext (q_index (i := v1860) SL39 (if_pos hc2017) (if_pos hc2017) (Tv.row (oT.vw hS2015.g1 hS2015.g2 he33) (hg2002 hcq14)) (hg2018 hcq14))
                refine ⟨if (decide (((r28[(Int.toNat v1898)]!).length : Int) ≠ r16)) = false then .int .i64 ((r28[(Int.toNat v1898)]!)[(Int.toNat v1860)]!) else undef, fun w2019 hX2020 => od_guard (c := (decide (((r28[(Int.toNat v1898)]!).length : Int) ≠ r16)) = false) (val := .int .i64 ((r28[(Int.toNat v1898)]!)[(Int.toNat v1860)]!)) (b := ((decide (((r28[(Int.toNat v1898)]!).length : Int) ≠ r16)) == false)) (gv_some rfl rfl rfl) beq_iff_eq (fun hc2023 => ?_), ?_⟩
                · have hS2021 := hS1916.ext hX2020
                  have hB2022 := hB1915.trans (Ext.stp hX2020 hS1916.base)
                  have hcq14 : ¬ (((r28[(Int.toNat v1898)]!).length : Int) ≠ r16) := (i_neg decide_eq_true_iff hc2023)
                  exact is_ext (q_load (i := v1860) (v := .int .i64 ((r28[(Int.toNat v1898)]!)[(Int.toNat v1860)]!)) ON3 (Tv.row (oT.vw hS2021.g1 hS2021.g2 he33) (hg2002 hcq14)) (hg2018 hcq14) rfl (if_pos hc2023))
                refine ⟨if (decide (((r28[(Int.toNat v1898)]!).length : Int) ≠ r16)) = false then .bool (decide ((r28[(Int.toNat v1860)]!)[(Int.toNat v1898)]! ≠ (r28[(Int.toNat v1898)]!)[(Int.toNat v1860)]!)) else undef, fun w2024 hX2025 => od_guard (c := (decide (((r28[(Int.toNat v1898)]!).length : Int) ≠ r16)) = false) (val := .bool (decide ((r28[(Int.toNat v1860)]!)[(Int.toNat v1898)]! ≠ (r28[(Int.toNat v1898)]!)[(Int.toNat v1860)]!))) (b := ((decide (((r28[(Int.toNat v1898)]!).length : Int) ≠ r16)) == false)) (gv_some rfl rfl rfl) beq_iff_eq (fun hc2028 => ?_), ?_⟩
                · have hS2026 := hS1916.ext hX2025
                  have hB2027 := hB1915.trans (Ext.stp hX2025 hS1916.base)
                  have hcq14 : ¬ (((r28[(Int.toNat v1898)]!).length : Int) ≠ r16) := (i_neg decide_eq_true_iff hc2028)
                  exact is_ext (g_neq (a := (r28[(Int.toNat v1860)]!)[(Int.toNat v1898)]!) (b := (r28[(Int.toNat v1898)]!)[(Int.toNat v1860)]!) (if_pos hc2028) (if_pos hc2028))
                refine ⟨.bool ((decide (((r28[(Int.toNat v1898)]!).length : Int) ≠ r16)) || (decide ((r28[(Int.toNat v1860)]!)[(Int.toNat v1898)]! ≠ (r28[(Int.toNat v1898)]!)[(Int.toNat v1860)]!))), fun w2029 hX2030 => od_plain rfl (by have hS2031 := hS1916.ext hX2030; have hB2032 := hB1915.trans (Ext.stp hX2030 hS1916.base); exact is_ext (g_pick_or (b := (decide (((r28[(Int.toNat v1898)]!).length : Int) ≠ r16))) (q := (decide ((r28[(Int.toNat v1860)]!)[(Int.toNat v1898)]! ≠ (r28[(Int.toNat v1898)]!)[(Int.toNat v1860)]!))) rfl rfl)), ?_⟩
                refine ⟨.bool ((decide (((r28[(Int.toNat v1898)]!).length : Int) ≠ r16)) || (decide ((r28[(Int.toNat v1860)]!)[(Int.toNat v1898)]! ≠ (r28[(Int.toNat v1898)]!)[(Int.toNat v1860)]!))), fun w2033 hX2034 => od_plain rfl (by have hS2035 := hS1916.ext hX2034; have hB2036 := hB1915.trans (Ext.stp hX2034 hS1916.base); exact is_ext (g_move (v := .bool ((decide (((r28[(Int.toNat v1898)]!).length : Int) ≠ r16)) || (decide ((r28[(Int.toNat v1860)]!)[(Int.toNat v1898)]! ≠ (r28[(Int.toNat v1898)]!)[(Int.toNat v1860)]!)))) rfl)), ?_⟩
                refine ⟨if ((decide (((r28[(Int.toNat v1898)]!).length : Int) ≠ r16)) || (decide ((r28[(Int.toNat v1860)]!)[(Int.toNat v1898)]! ≠ (r28[(Int.toNat v1898)]!)[(Int.toNat v1860)]!))) = false then .slice a29 n30 c31 else undef, fun w2037 hX2038 => od_guard (c := ((decide (((r28[(Int.toNat v1898)]!).length : Int) ≠ r16)) || (decide ((r28[(Int.toNat v1860)]!)[(Int.toNat v1898)]! ≠ (r28[(Int.toNat v1898)]!)[(Int.toNat v1860)]!))) = false) (val := .slice a29 n30 c31) (b := (((decide (((r28[(Int.toNat v1898)]!).length : Int) ≠ r16)) || (decide ((r28[(Int.toNat v1860)]!)[(Int.toNat v1898)]! ≠ (r28[(Int.toNat v1898)]!)[(Int.toNat v1860)]!))) == false)) (gv_some rfl rfl rfl) beq_iff_eq (fun hc2041 => ?_), ?_⟩
                · have hS2039 := hS1916.ext hX2038
                  have hB2040 := hB1915.trans (Ext.stp hX2038 hS1916.base)
                  have hcq15 : ¬ (((((r28[(Int.toNat v1898)]!).length : Int) ≠ r16) ∨ ((r28[(Int.toNat v1860)]!)[(Int.toNat v1898)]! ≠ (r28[(Int.toNat v1898)]!)[(Int.toNat v1860)]!))) := (i_neg (i_or decide_eq_true_iff decide_eq_true_iff) hc2041)
                  exact is_ext (g_move (v := .slice a29 n30 c31) rfl)
                refine ⟨if ((decide (((r28[(Int.toNat v1898)]!).length : Int) ≠ r16)) || (decide ((r28[(Int.toNat v1860)]!)[(Int.toNat v1898)]! ≠ (r28[(Int.toNat v1898)]!)[(Int.toNat v1860)]!))) = false then .int .i64 v1860 else undef, fun w2042 hX2043 => od_guard (c := ((decide (((r28[(Int.toNat v1898)]!).length : Int) ≠ r16)) || (decide ((r28[(Int.toNat v1860)]!)[(Int.toNat v1898)]! ≠ (r28[(Int.toNat v1898)]!)[(Int.toNat v1860)]!))) = false) (val := .int .i64 v1860) (b := (((decide (((r28[(Int.toNat v1898)]!).length : Int) ≠ r16)) || (decide ((r28[(Int.toNat v1860)]!)[(Int.toNat v1898)]! ≠ (r28[(Int.toNat v1898)]!)[(Int.toNat v1860)]!))) == false)) (gv_some rfl rfl rfl) beq_iff_eq (fun hc2046 => ?_), ?_⟩
                · have hS2044 := hS1916.ext hX2043
                  have hB2045 := hB1915.trans (Ext.stp hX2043 hS1916.base)
                  have hcq15 : ¬ (((((r28[(Int.toNat v1898)]!).length : Int) ≠ r16) ∨ ((r28[(Int.toNat v1860)]!)[(Int.toNat v1898)]! ≠ (r28[(Int.toNat v1898)]!)[(Int.toNat v1860)]!))) := (i_neg (i_or decide_eq_true_iff decide_eq_true_iff) hc2046)
                  exact is_ext (g_move (v := .int .i64 v1860) rfl)
                obtain ⟨hg2052, hm⟩ := hm
                refine ⟨if ((decide (((r28[(Int.toNat v1898)]!).length : Int) ≠ r16)) || (decide ((r28[(Int.toNat v1860)]!)[(Int.toNat v1898)]! ≠ (r28[(Int.toNat v1898)]!)[(Int.toNat v1860)]!))) = false then .pointer (some ((adr a29).add ((Int.toNat v1860) * El.m (Hd Int)))) else undef, fun w2047 hX2048 => od_guard (c := ((decide (((r28[(Int.toNat v1898)]!).length : Int) ≠ r16)) || (decide ((r28[(Int.toNat v1860)]!)[(Int.toNat v1898)]! ≠ (r28[(Int.toNat v1898)]!)[(Int.toNat v1860)]!))) = false) (val := .pointer (some ((adr a29).add ((Int.toNat v1860) * El.m (Hd Int))))) (b := (((decide (((r28[(Int.toNat v1898)]!).length : Int) ≠ r16)) || (decide ((r28[(Int.toNat v1860)]!)[(Int.toNat v1898)]! ≠ (r28[(Int.toNat v1898)]!)[(Int.toNat v1860)]!))) == false)) (gv_some rfl rfl rfl) beq_iff_eq (fun hc2051 => ?_), ?_⟩
                · have hS2049 := hS1916.ext hX2048
                  have hB2050 := hB1915.trans (Ext.stp hX2048 hS1916.base)
                  have hcq15 : ¬ (((((r28[(Int.toNat v1898)]!).length : Int) ≠ r16) ∨ ((r28[(Int.toNat v1860)]!)[(Int.toNat v1898)]! ≠ (r28[(Int.toNat v1898)]!)[(Int.toNat v1860)]!))) := (i_neg (i_or decide_eq_true_iff decide_eq_true_iff) hc2051)
                  exact is_ext (q_index (i := v1860) SL37 (if_pos hc2051) (if_pos hc2051) (Tv.o (oT.vw hS2049.g1 hS2049.g2 he33)) (Tv.g (oT.vw hS2049.g1 hS2049.g2 he33) (hg2052 hcq15)))
                refine ⟨if ((decide (((r28[(Int.toNat v1898)]!).length : Int) ≠ r16)) || (decide ((r28[(Int.toNat v1860)]!)[(Int.toNat v1898)]! ≠ (r28[(Int.toNat v1898)]!)[(Int.toNat v1860)]!))) = false then .slice ((y32[(Int.toNat v1860)]!).1) ((y32[(Int.toNat v1860)]!).2.2.length) ((y32[(Int.toNat v1860)]!).2.1) else undef, fun w2053 hX2054 => od_guard (c := ((decide (((r28[(Int.toNat v1898)]!).length : Int) ≠ r16)) || (decide ((r28[(Int.toNat v1860)]!)[(Int.toNat v1898)]! ≠ (r28[(Int.toNat v1898)]!)[(Int.toNat v1860)]!))) = false) (val := .slice ((y32[(Int.toNat v1860)]!).1) ((y32[(Int.toNat v1860)]!).2.2.length) ((y32[(Int.toNat v1860)]!).2.1)) (b := (((decide (((r28[(Int.toNat v1898)]!).length : Int) ≠ r16)) || (decide ((r28[(Int.toNat v1860)]!)[(Int.toNat v1898)]! ≠ (r28[(Int.toNat v1898)]!)[(Int.toNat v1860)]!))) == false)) (gv_some rfl rfl rfl) beq_iff_eq (fun hc2057 => ?_), ?_⟩
                · have hS2055 := hS1916.ext hX2054
                  have hB2056 := hB1915.trans (Ext.stp hX2054 hS1916.base)
                  have hcq15 : ¬ (((((r28[(Int.toNat v1898)]!).length : Int) ≠ r16) ∨ ((r28[(Int.toNat v1860)]!)[(Int.toNat v1898)]! ≠ (r28[(Int.toNat v1898)]!)[(Int.toNat v1860)]!))) := (i_neg (i_or decide_eq_true_iff decide_eq_true_iff) hc2057)
                  exact is_ext (q_load (i := v1860) (v := .slice ((y32[(Int.toNat v1860)]!).1) ((y32[(Int.toNat v1860)]!).2.2.length) ((y32[(Int.toNat v1860)]!).2.1)) ON39 (Tv.o (oT.vw hS2055.g1 hS2055.g2 he33)) (Tv.g (oT.vw hS2055.g1 hS2055.g2 he33) (hg2052 hcq15)) rfl (if_pos hc2057))
                refine ⟨if ((decide (((r28[(Int.toNat v1898)]!).length : Int) ≠ r16)) || (decide ((r28[(Int.toNat v1860)]!)[(Int.toNat v1898)]! ≠ (r28[(Int.toNat v1898)]!)[(Int.toNat v1860)]!))) = false then .int .i64 v1898 else undef, fun w2058 hX2059 => od_guard (c := ((decide (((r28[(Int.toNat v1898)]!).length : Int) ≠ r16)) || (decide ((r28[(Int.toNat v1860)]!)[(Int.toNat v1898)]! ≠ (r28[(Int.toNat v1898)]!)[(Int.toNat v1860)]!))) = false) (val := .int .i64 v1898) (b := (((decide (((r28[(Int.toNat v1898)]!).length : Int) ≠ r16)) || (decide ((r28[(Int.toNat v1860)]!)[(Int.toNat v1898)]! ≠ (r28[(Int.toNat v1898)]!)[(Int.toNat v1860)]!))) == false)) (gv_some rfl rfl rfl) beq_iff_eq (fun hc2062 => ?_), ?_⟩
                · have hS2060 := hS1916.ext hX2059
                  have hB2061 := hB1915.trans (Ext.stp hX2059 hS1916.base)
                  have hcq15 : ¬ (((((r28[(Int.toNat v1898)]!).length : Int) ≠ r16) ∨ ((r28[(Int.toNat v1860)]!)[(Int.toNat v1898)]! ≠ (r28[(Int.toNat v1898)]!)[(Int.toNat v1860)]!))) := (i_neg (i_or decide_eq_true_iff decide_eq_true_iff) hc2062)
                  exact is_ext (g_move (v := .int .i64 v1898) rfl)
                obtain ⟨hg2068, hm⟩ := hm
                refine ⟨if ((decide (((r28[(Int.toNat v1898)]!).length : Int) ≠ r16)) || (decide ((r28[(Int.toNat v1860)]!)[(Int.toNat v1898)]! ≠ (r28[(Int.toNat v1898)]!)[(Int.toNat v1860)]!))) = false then .pointer (some ((adr ((y32[(Int.toNat v1860)]!).1)).add ((Int.toNat v1898) * El.m Int))) else undef, fun w2063 hX2064 => od_guard (c := ((decide (((r28[(Int.toNat v1898)]!).length : Int) ≠ r16)) || (decide ((r28[(Int.toNat v1860)]!)[(Int.toNat v1898)]! ≠ (r28[(Int.toNat v1898)]!)[(Int.toNat v1860)]!))) = false) (val := .pointer (some ((adr ((y32[(Int.toNat v1860)]!).1)).add ((Int.toNat v1898) * El.m Int)))) (b := (((decide (((r28[(Int.toNat v1898)]!).length : Int) ≠ r16)) || (decide ((r28[(Int.toNat v1860)]!)[(Int.toNat v1898)]! ≠ (r28[(Int.toNat v1898)]!)[(Int.toNat v1860)]!))) == false)) (gv_some rfl rfl rfl) beq_iff_eq (fun hc2067 => ?_), ?_⟩
                · have hS2065 := hS1916.ext hX2064
                  have hB2066 := hB1915.trans (Ext.stp hX2064 hS1916.base)
                  have hcq15 : ¬ (((((r28[(Int.toNat v1898)]!).length : Int) ≠ r16) ∨ ((r28[(Int.toNat v1860)]!)[(Int.toNat v1898)]! ≠ (r28[(Int.toNat v1898)]!)[(Int.toNat v1860)]!))) := (i_neg (i_or decide_eq_true_iff decide_eq_true_iff) hc2067)
                  exact is_ext (q_index (i := v1898) SL39 (if_pos hc2067) (if_pos hc2067) (Tv.row (oT.vw hS2065.g1 hS2065.g2 he33) (hg2052 hcq15)) (hg2068 hcq15))
                refine ⟨if ((decide (((r28[(Int.toNat v1898)]!).length : Int) ≠ r16)) || (decide ((r28[(Int.toNat v1860)]!)[(Int.toNat v1898)]! ≠ (r28[(Int.toNat v1898)]!)[(Int.toNat v1860)]!))) = false then .int .i64 ((r28[(Int.toNat v1860)]!)[(Int.toNat v1898)]!) else undef, fun w2069 hX2070 => od_guard (c := ((decide (((r28[(Int.toNat v1898)]!).length : Int) ≠ r16)) || (decide ((r28[(Int.toNat v1860)]!)[(Int.toNat v1898)]! ≠ (r28[(Int.toNat v1898)]!)[(Int.toNat v1860)]!))) = false) (val := .int .i64 ((r28[(Int.toNat v1860)]!)[(Int.toNat v1898)]!)) (b := (((decide (((r28[(Int.toNat v1898)]!).length : Int) ≠ r16)) || (decide ((r28[(Int.toNat v1860)]!)[(Int.toNat v1898)]! ≠ (r28[(Int.toNat v1898)]!)[(Int.toNat v1860)]!))) == false)) (gv_some rfl rfl rfl) beq_iff_eq (fun hc2073 => ?_), ?_⟩
                · have hS2071 := hS1916.ext hX2070
                  have hB2072 := hB1915.trans (Ext.stp hX2070 hS1916.base)
                  have hcq15 : ¬ (((((r28[(Int.toNat v1898)]!).length : Int) ≠ r16) ∨ ((r28[(Int.toNat v1860)]!)[(Int.toNat v1898)]! ≠ (r28[(Int.toNat v1898)]!)[(Int.toNat v1860)]!))) := (i_neg (i_or decide_eq_true_iff decide_eq_true_iff) hc2073)
                  exact is_ext (q_load (i := v1898) (v := .int .i64 ((r28[(Int.toNat v1860)]!)[(Int.toNat v1898)]!)) ON3 (Tv.row (oT.vw hS2071.g1 hS2071.g2 he33) (hg2052 hcq15)) (hg2068 hcq15) rfl (if_pos hc2073))
                refine ⟨if ((decide (((r28[(Int.toNat v1898)]!).length : Int) ≠ r16)) || (decide ((r28[(Int.toNat v1860)]!)[(Int.toNat v1898)]! ≠ (r28[(Int.toNat v1898)]!)[(Int.toNat v1860)]!))) = false then .int .i64 r16 else undef, fun w2074 hX2075 => od_guard (c := ((decide (((r28[(Int.toNat v1898)]!).length : Int) ≠ r16)) || (decide ((r28[(Int.toNat v1860)]!)[(Int.toNat v1898)]! ≠ (r28[(Int.toNat v1898)]!)[(Int.toNat v1860)]!))) = false) (val := .int .i64 r16) (b := (((decide (((r28[(Int.toNat v1898)]!).length : Int) ≠ r16)) || (decide ((r28[(Int.toNat v1860)]!)[(Int.toNat v1898)]! ≠ (r28[(Int.toNat v1898)]!)[(Int.toNat v1860)]!))) == false)) (gv_some rfl rfl rfl) beq_iff_eq (fun hc2078 => ?_), ?_⟩
                · have hS2076 := hS1916.ext hX2075
                  have hB2077 := hB1915.trans (Ext.stp hX2075 hS1916.base)
                  have hcq15 : ¬ (((((r28[(Int.toNat v1898)]!).length : Int) ≠ r16) ∨ ((r28[(Int.toNat v1860)]!)[(Int.toNat v1898)]! ≠ (r28[(Int.toNat v1898)]!)[(Int.toNat v1860)]!))) := (i_neg (i_or decide_eq_true_iff decide_eq_true_iff) hc2078)
                  exact is_ext (g_move (v := .int .i64 r16) rfl)
                refine ⟨if ((decide (((r28[(Int.toNat v1898)]!).length : Int) ≠ r16)) || (decide ((r28[(Int.toNat v1860)]!)[(Int.toNat v1898)]! ≠ (r28[(Int.toNat v1898)]!)[(Int.toNat v1860)]!))) = false then .slice a18 n19 c20 else undef, fun w2079 hX2080 => od_guard (c := ((decide (((r28[(Int.toNat v1898)]!).length : Int) ≠ r16)) || (decide ((r28[(Int.toNat v1860)]!)[(Int.toNat v1898)]! ≠ (r28[(Int.toNat v1898)]!)[(Int.toNat v1860)]!))) = false) (val := .slice a18 n19 c20) (b := (((decide (((r28[(Int.toNat v1898)]!).length : Int) ≠ r16)) || (decide ((r28[(Int.toNat v1860)]!)[(Int.toNat v1898)]! ≠ (r28[(Int.toNat v1898)]!)[(Int.toNat v1860)]!))) == false)) (gv_some rfl rfl rfl) beq_iff_eq (fun hc2083 => ?_), ?_⟩
                · have hS2081 := hS1916.ext hX2080
                  have hB2082 := hB1915.trans (Ext.stp hX2080 hS1916.base)
                  have hcq15 : ¬ (((((r28[(Int.toNat v1898)]!).length : Int) ≠ r16) ∨ ((r28[(Int.toNat v1860)]!)[(Int.toNat v1898)]! ≠ (r28[(Int.toNat v1898)]!)[(Int.toNat v1860)]!))) := (i_neg (i_or decide_eq_true_iff decide_eq_true_iff) hc2083)
                  exact is_ext (g_move (v := .slice a18 n19 c20) rfl)
                refine ⟨if ((decide (((r28[(Int.toNat v1898)]!).length : Int) ≠ r16)) || (decide ((r28[(Int.toNat v1860)]!)[(Int.toNat v1898)]! ≠ (r28[(Int.toNat v1898)]!)[(Int.toNat v1860)]!))) = false then .int .i64 v1860 else undef, fun w2084 hX2085 => od_guard (c := ((decide (((r28[(Int.toNat v1898)]!).length : Int) ≠ r16)) || (decide ((r28[(Int.toNat v1860)]!)[(Int.toNat v1898)]! ≠ (r28[(Int.toNat v1898)]!)[(Int.toNat v1860)]!))) = false) (val := .int .i64 v1860) (b := (((decide (((r28[(Int.toNat v1898)]!).length : Int) ≠ r16)) || (decide ((r28[(Int.toNat v1860)]!)[(Int.toNat v1898)]! ≠ (r28[(Int.toNat v1898)]!)[(Int.toNat v1860)]!))) == false)) (gv_some rfl rfl rfl) beq_iff_eq (fun hc2088 => ?_), ?_⟩
                · have hS2086 := hS1916.ext hX2085
                  have hB2087 := hB1915.trans (Ext.stp hX2085 hS1916.base)
                  have hcq15 : ¬ (((((r28[(Int.toNat v1898)]!).length : Int) ≠ r16) ∨ ((r28[(Int.toNat v1860)]!)[(Int.toNat v1898)]! ≠ (r28[(Int.toNat v1898)]!)[(Int.toNat v1860)]!))) := (i_neg (i_or decide_eq_true_iff decide_eq_true_iff) hc2088)
                  exact is_ext (g_move (v := .int .i64 v1860) rfl)
                refine ⟨if ((decide (((r28[(Int.toNat v1898)]!).length : Int) ≠ r16)) || (decide ((r28[(Int.toNat v1860)]!)[(Int.toNat v1898)]! ≠ (r28[(Int.toNat v1898)]!)[(Int.toNat v1860)]!))) = false then .int .i64 v1898 else undef, fun w2089 hX2090 => od_guard (c := ((decide (((r28[(Int.toNat v1898)]!).length : Int) ≠ r16)) || (decide ((r28[(Int.toNat v1860)]!)[(Int.toNat v1898)]! ≠ (r28[(Int.toNat v1898)]!)[(Int.toNat v1860)]!))) = false) (val := .int .i64 v1898) (b := (((decide (((r28[(Int.toNat v1898)]!).length : Int) ≠ r16)) || (decide ((r28[(Int.toNat v1860)]!)[(Int.toNat v1898)]! ≠ (r28[(Int.toNat v1898)]!)[(Int.toNat v1860)]!))) == false)) (gv_some rfl rfl rfl) beq_iff_eq (fun hc2093 => ?_), ?_⟩
                · have hS2091 := hS1916.ext hX2090
                  have hB2092 := hB1915.trans (Ext.stp hX2090 hS1916.base)
                  have hcq15 : ¬ (((((r28[(Int.toNat v1898)]!).length : Int) ≠ r16) ∨ ((r28[(Int.toNat v1860)]!)[(Int.toNat v1898)]! ≠ (r28[(Int.toNat v1898)]!)[(Int.toNat v1860)]!))) := (i_neg (i_or decide_eq_true_iff decide_eq_true_iff) hc2093)
                  exact is_ext (g_move (v := .int .i64 v1898) rfl)
                obtain ⟨r2099, hk2100, hm⟩ := hm
                refine ⟨if ((decide (((r28[(Int.toNat v1898)]!).length : Int) ≠ r16)) || (decide ((r28[(Int.toNat v1860)]!)[(Int.toNat v1898)]! ≠ (r28[(Int.toNat v1898)]!)[(Int.toNat v1860)]!))) = false then .int .i64 r2099 else undef, fun w2094 hX2095 => od_guard (c := ((decide (((r28[(Int.toNat v1898)]!).length : Int) ≠ r16)) || (decide ((r28[(Int.toNat v1860)]!)[(Int.toNat v1898)]! ≠ (r28[(Int.toNat v1898)]!)[(Int.toNat v1860)]!))) = false) (val := .int .i64 r2099) (b := (((decide (((r28[(Int.toNat v1898)]!).length : Int) ≠ r16)) || (decide ((r28[(Int.toNat v1860)]!)[(Int.toNat v1898)]! ≠ (r28[(Int.toNat v1898)]!)[(Int.toNat v1860)]!))) == false)) (gv_some rfl rfl rfl) beq_iff_eq (fun hc2098 => ?_), ?_⟩
                · have hS2096 := hS1916.ext hX2095
                  have hB2097 := hB1915.trans (Ext.stp hX2095 hS1916.base)
                  have hcq15 : ¬ (((((r28[(Int.toNat v1898)]!).length : Int) ≠ r16) ∨ ((r28[(Int.toNat v1860)]!)[(Int.toNat v1898)]! ≠ (r28[(Int.toNat v1898)]!)[(Int.toNat v1860)]!))) := (i_neg (i_or decide_eq_true_iff decide_eq_true_iff) hc2098)
                  exact (g_call (vs := #[.int .i64 r16, .slice a18 n19 c20, .int .i64 v1860, .int .i64 v1898]) CF27 (args4 (if_pos hc2098) (if_pos hc2098) (if_pos hc2098) (if_pos hc2098)) ((m_impl_TwistOf_fn r16 (oS.vw hS2096.g0) v1860 v1898 (hk2100 hcq15)).mono fun _ _ ⟨_, h1, h2, h3⟩ => ⟨by rw [h2, h1], h3⟩))
                refine ⟨if ((decide (((r28[(Int.toNat v1898)]!).length : Int) ≠ r16)) || (decide ((r28[(Int.toNat v1860)]!)[(Int.toNat v1898)]! ≠ (r28[(Int.toNat v1898)]!)[(Int.toNat v1860)]!))) = false then .bool (decide ((r28[(Int.toNat v1860)]!)[(Int.toNat v1898)]! ≠ r2099)) else undef, fun w2101 hX2102 => od_guard (c := ((decide (((r28[(Int.toNat v1898)]!).length : Int) ≠ r16)) || (decide ((r28[(Int.toNat v1860)]!)[(Int.toNat v1898)]! ≠ (r28[(Int.toNat v1898)]!)[(Int.toNat v1860)]!))) = false) (val := .bool (decide ((r28[(Int.toNat v1860)]!)[(Int.toNat v1898)]! ≠ r2099))) (b := (((decide (((r28[(Int.toNat v1898)]!).length : Int) ≠ r16)) || (decide ((r28[(Int.toNat v1860)]!)[(Int.toNat v1898)]! ≠ (r28[(Int.toNat v1898)]!)[(Int.toNat v1860)]!))) == false)) (gv_some rfl rfl rfl) beq_iff_eq (fun hc2105 => ?_), ?_⟩
                · have hS2103 := hS1916.ext hX2102
                  have hB2104 := hB1915.trans (Ext.stp hX2102 hS1916.base)
                  have hcq15 : ¬ (((((r28[(Int.toNat v1898)]!).length : Int) ≠ r16) ∨ ((r28[(Int.toNat v1860)]!)[(Int.toNat v1898)]! ≠ (r28[(Int.toNat v1898)]!)[(Int.toNat v1860)]!))) := (i_neg (i_or decide_eq_true_iff decide_eq_true_iff) hc2105)
                  exact is_ext (g_neq (a := (r28[(Int.toNat v1860)]!)[(Int.toNat v1898)]!) (b := r2099) (if_pos hc2105) (if_pos hc2105))
                refine ⟨.bool (((decide (((r28[(Int.toNat v1898)]!).length : Int) ≠ r16)) || (decide ((r28[(Int.toNat v1860)]!)[(Int.toNat v1898)]! ≠ (r28[(Int.toNat v1898)]!)[(Int.toNat v1860)]!))) || (decide ((r28[(Int.toNat v1860)]!)[(Int.toNat v1898)]! ≠ r2099))), fun w2106 hX2107 => od_plain rfl (by have hS2108 := hS1916.ext hX2107; have hB2109 := hB1915.trans (Ext.stp hX2107 hS1916.base); exact is_ext (g_pick_or (b := ((decide (((r28[(Int.toNat v1898)]!).length : Int) ≠ r16)) || (decide ((r28[(Int.toNat v1860)]!)[(Int.toNat v1898)]! ≠ (r28[(Int.toNat v1898)]!)[(Int.toNat v1860)]!)))) (q := (decide ((r28[(Int.toNat v1860)]!)[(Int.toNat v1898)]! ≠ r2099))) rfl rfl)), ?_⟩
                refine ⟨.bool (((decide (((r28[(Int.toNat v1898)]!).length : Int) ≠ r16)) || (decide ((r28[(Int.toNat v1860)]!)[(Int.toNat v1898)]! ≠ (r28[(Int.toNat v1898)]!)[(Int.toNat v1860)]!))) || (decide ((r28[(Int.toNat v1860)]!)[(Int.toNat v1898)]! ≠ r2099))), fun w2110 hX2111 => od_plain rfl (by have hS2112 := hS1916.ext hX2111; have hB2113 := hB1915.trans (Ext.stp hX2111 hS1916.base); exact is_ext (g_move (v := .bool (((decide (((r28[(Int.toNat v1898)]!).length : Int) ≠ r16)) || (decide ((r28[(Int.toNat v1860)]!)[(Int.toNat v1898)]! ≠ (r28[(Int.toNat v1898)]!)[(Int.toNat v1860)]!))) || (decide ((r28[(Int.toNat v1860)]!)[(Int.toNat v1898)]! ≠ r2099)))) rfl)), ?_⟩
                refine ⟨if (((decide (((r28[(Int.toNat v1898)]!).length : Int) ≠ r16)) || (decide ((r28[(Int.toNat v1860)]!)[(Int.toNat v1898)]! ≠ (r28[(Int.toNat v1898)]!)[(Int.toNat v1860)]!))) || (decide ((r28[(Int.toNat v1860)]!)[(Int.toNat v1898)]! ≠ r2099))) = false then .slice a29 n30 c31 else undef, fun w2114 hX2115 => od_guard (c := (((decide (((r28[(Int.toNat v1898)]!).length : Int) ≠ r16)) || (decide ((r28[(Int.toNat v1860)]!)[(Int.toNat v1898)]! ≠ (r28[(Int.toNat v1898)]!)[(Int.toNat v1860)]!))) || (decide ((r28[(Int.toNat v1860)]!)[(Int.toNat v1898)]! ≠ r2099))) = false) (val := .slice a29 n30 c31) (b := ((((decide (((r28[(Int.toNat v1898)]!).length : Int) ≠ r16)) || (decide ((r28[(Int.toNat v1860)]!)[(Int.toNat v1898)]! ≠ (r28[(Int.toNat v1898)]!)[(Int.toNat v1860)]!))) || (decide ((r28[(Int.toNat v1860)]!)[(Int.toNat v1898)]! ≠ r2099))) == false)) (gv_some rfl rfl rfl) beq_iff_eq (fun hc2118 => ?_), ?_⟩
                · have hS2116 := hS1916.ext hX2115
                  have hB2117 := hB1915.trans (Ext.stp hX2115 hS1916.base)
                  have hcq16 : ¬ (((((((r28[(Int.toNat v1898)]!).length : Int) ≠ r16) ∨ ((r28[(Int.toNat v1860)]!)[(Int.toNat v1898)]! ≠ (r28[(Int.toNat v1898)]!)[(Int.toNat v1860)]!))) ∨ ((r28[(Int.toNat v1860)]!)[(Int.toNat v1898)]! ≠ r2099))) := (i_neg (i_or (i_or decide_eq_true_iff decide_eq_true_iff) decide_eq_true_iff) hc2118)
                  exact is_ext (g_move (v := .slice a29 n30 c31) rfl)
                refine ⟨if (((decide (((r28[(Int.toNat v1898)]!).length : Int) ≠ r16)) || (decide ((r28[(Int.toNat v1860)]!)[(Int.toNat v1898)]! ≠ (r28[(Int.toNat v1898)]!)[(Int.toNat v1860)]!))) || (decide ((r28[(Int.toNat v1860)]!)[(Int.toNat v1898)]! ≠ r2099))) = false then .int .i64 v1860 else undef, fun w2119 hX2120 => od_guard (c := (((decide (((r28[(Int.toNat v1898)]!).length : Int) ≠ r16)) || (decide ((r28[(Int.toNat v1860)]!)[(Int.toNat v1898)]! ≠ (r28[(Int.toNat v1898)]!)[(Int.toNat v1860)]!))) || (decide ((r28[(Int.toNat v1860)]!)[(Int.toNat v1898)]! ≠ r2099))) = false) (val := .int .i64 v1860) (b := ((((decide (((r28[(Int.toNat v1898)]!).length : Int) ≠ r16)) || (decide ((r28[(Int.toNat v1860)]!)[(Int.toNat v1898)]! ≠ (r28[(Int.toNat v1898)]!)[(Int.toNat v1860)]!))) || (decide ((r28[(Int.toNat v1860)]!)[(Int.toNat v1898)]! ≠ r2099))) == false)) (gv_some rfl rfl rfl) beq_iff_eq (fun hc2123 => ?_), ?_⟩
                · have hS2121 := hS1916.ext hX2120
                  have hB2122 := hB1915.trans (Ext.stp hX2120 hS1916.base)
                  have hcq16 : ¬ (((((((r28[(Int.toNat v1898)]!).length : Int) ≠ r16) ∨ ((r28[(Int.toNat v1860)]!)[(Int.toNat v1898)]! ≠ (r28[(Int.toNat v1898)]!)[(Int.toNat v1860)]!))) ∨ ((r28[(Int.toNat v1860)]!)[(Int.toNat v1898)]! ≠ r2099))) := (i_neg (i_or (i_or decide_eq_true_iff decide_eq_true_iff) decide_eq_true_iff) hc2123)
                  exact is_ext (g_move (v := .int .i64 v1860) rfl)
                obtain ⟨hg2129, hm⟩ := hm
                refine ⟨if (((decide (((r28[(Int.toNat v1898)]!).length : Int) ≠ r16)) || (decide ((r28[(Int.toNat v1860)]!)[(Int.toNat v1898)]! ≠ (r28[(Int.toNat v1898)]!)[(Int.toNat v1860)]!))) || (decide ((r28[(Int.toNat v1860)]!)[(Int.toNat v1898)]! ≠ r2099))) = false then .pointer (some ((adr a29).add ((Int.toNat v1860) * El.m (Hd Int)))) else undef, fun w2124 hX2125 => od_guard (c := (((decide (((r28[(Int.toNat v1898)]!).length : Int) ≠ r16)) || (decide ((r28[(Int.toNat v1860)]!)[(Int.toNat v1898)]! ≠ (r28[(Int.toNat v1898)]!)[(Int.toNat v1860)]!))) || (decide ((r28[(Int.toNat v1860)]!)[(Int.toNat v1898)]! ≠ r2099))) = false) (val := .pointer (some ((adr a29).add ((Int.toNat v1860) * El.m (Hd Int))))) (b := ((((decide (((r28[(Int.toNat v1898)]!).length : Int) ≠ r16)) || (decide ((r28[(Int.toNat v1860)]!)[(Int.toNat v1898)]! ≠ (r28[(Int.toNat v1898)]!)[(Int.toNat v1860)]!))) || (decide ((r28[(Int.toNat v1860)]!)[(Int.toNat v1898)]! ≠ r2099))) == false)) (gv_some rfl rfl rfl) beq_iff_eq (fun hc2128 => ?_), ?_⟩
                · have hS2126 := hS1916.ext hX2125
                  have hB2127 := hB1915.trans (Ext.stp hX2125 hS1916.base)
                  have hcq16 : ¬ (((((((r28[(Int.toNat v1898)]!).length : Int) ≠ r16) ∨ ((r28[(Int.toNat v1860)]!)[(Int.toNat v1898)]! ≠ (r28[(Int.toNat v1898)]!)[(Int.toNat v1860)]!))) ∨ ((r28[(Int.toNat v1860)]!)[(Int.toNat v1898)]! ≠ r2099))) := (i_neg (i_or (i_or decide_eq_true_iff decide_eq_true_iff) decide_eq_true_iff) hc2128)
                  exact is_ext (q_index (i := v1860) SL37 (if_pos hc2128) (if_pos hc2128) (Tv.o (oT.vw hS2126.g1 hS2126.g2 he33)) (Tv.g (oT.vw hS2126.g1 hS2126.g2 he33) (hg2129 hcq16)))
                refine ⟨if (((decide (((r28[(Int.toNat v1898)]!).length : Int) ≠ r16)) || (decide ((r28[(Int.toNat v1860)]!)[(Int.toNat v1898)]! ≠ (r28[(Int.toNat v1898)]!)[(Int.toNat v1860)]!))) || (decide ((r28[(Int.toNat v1860)]!)[(Int.toNat v1898)]! ≠ r2099))) = false then .slice ((y32[(Int.toNat v1860)]!).1) ((y32[(Int.toNat v1860)]!).2.2.length) ((y32[(Int.toNat v1860)]!).2.1) else undef, fun w2130 hX2131 => od_guard (c := (((decide (((r28[(Int.toNat v1898)]!).length : Int) ≠ r16)) || (decide ((r28[(Int.toNat v1860)]!)[(Int.toNat v1898)]! ≠ (r28[(Int.toNat v1898)]!)[(Int.toNat v1860)]!))) || (decide ((r28[(Int.toNat v1860)]!)[(Int.toNat v1898)]! ≠ r2099))) = false) (val := .slice ((y32[(Int.toNat v1860)]!).1) ((y32[(Int.toNat v1860)]!).2.2.length) ((y32[(Int.toNat v1860)]!).2.1)) (b := ((((decide (((r28[(Int.toNat v1898)]!).length : Int) ≠ r16)) || (decide ((r28[(Int.toNat v1860)]!)[(Int.toNat v1898)]! ≠ (r28[(Int.toNat v1898)]!)[(Int.toNat v1860)]!))) || (decide ((r28[(Int.toNat v1860)]!)[(Int.toNat v1898)]! ≠ r2099))) == false)) (gv_some rfl rfl rfl) beq_iff_eq (fun hc2134 => ?_), ?_⟩
                · have hS2132 := hS1916.ext hX2131
                  have hB2133 := hB1915.trans (Ext.stp hX2131 hS1916.base)
                  have hcq16 : ¬ (((((((r28[(Int.toNat v1898)]!).length : Int) ≠ r16) ∨ ((r28[(Int.toNat v1860)]!)[(Int.toNat v1898)]! ≠ (r28[(Int.toNat v1898)]!)[(Int.toNat v1860)]!))) ∨ ((r28[(Int.toNat v1860)]!)[(Int.toNat v1898)]! ≠ r2099))) := (i_neg (i_or (i_or decide_eq_true_iff decide_eq_true_iff) decide_eq_true_iff) hc2134)
                  exact is_ext (q_load (i := v1860) (v := .slice ((y32[(Int.toNat v1860)]!).1) ((y32[(Int.toNat v1860)]!).2.2.length) ((y32[(Int.toNat v1860)]!).2.1)) ON39 (Tv.o (oT.vw hS2132.g1 hS2132.g2 he33)) (Tv.g (oT.vw hS2132.g1 hS2132.g2 he33) (hg2129 hcq16)) rfl (if_pos hc2134))
                refine ⟨if (((decide (((r28[(Int.toNat v1898)]!).length : Int) ≠ r16)) || (decide ((r28[(Int.toNat v1860)]!)[(Int.toNat v1898)]! ≠ (r28[(Int.toNat v1898)]!)[(Int.toNat v1860)]!))) || (decide ((r28[(Int.toNat v1860)]!)[(Int.toNat v1898)]! ≠ r2099))) = false then .int .i64 v1898 else undef, fun w2135 hX2136 => od_guard (c := (((decide (((r28[(Int.toNat v1898)]!).length : Int) ≠ r16)) || (decide ((r28[(Int.toNat v1860)]!)[(Int.toNat v1898)]! ≠ (r28[(Int.toNat v1898)]!)[(Int.toNat v1860)]!))) || (decide ((r28[(Int.toNat v1860)]!)[(Int.toNat v1898)]! ≠ r2099))) = false) (val := .int .i64 v1898) (b := ((((decide (((r28[(Int.toNat v1898)]!).length : Int) ≠ r16)) || (decide ((r28[(Int.toNat v1860)]!)[(Int.toNat v1898)]! ≠ (r28[(Int.toNat v1898)]!)[(Int.toNat v1860)]!))) || (decide ((r28[(Int.toNat v1860)]!)[(Int.toNat v1898)]! ≠ r2099))) == false)) (gv_some rfl rfl rfl) beq_iff_eq (fun hc2139 => ?_), ?_⟩
                · have hS2137 := hS1916.ext hX2136
                  have hB2138 := hB1915.trans (Ext.stp hX2136 hS1916.base)
                  have hcq16 : ¬ (((((((r28[(Int.toNat v1898)]!).length : Int) ≠ r16) ∨ ((r28[(Int.toNat v1860)]!)[(Int.toNat v1898)]! ≠ (r28[(Int.toNat v1898)]!)[(Int.toNat v1860)]!))) ∨ ((r28[(Int.toNat v1860)]!)[(Int.toNat v1898)]! ≠ r2099))) := (i_neg (i_or (i_or decide_eq_true_iff decide_eq_true_iff) decide_eq_true_iff) hc2139)
                  exact is_ext (g_move (v := .int .i64 v1898) rfl)
                obtain ⟨hg2145, hm⟩ := hm
                refine ⟨if (((decide (((r28[(Int.toNat v1898)]!).length : Int) ≠ r16)) || (decide ((r28[(Int.toNat v1860)]!)[(Int.toNat v1898)]! ≠ (r28[(Int.toNat v1898)]!)[(Int.toNat v1860)]!))) || (decide ((r28[(Int.toNat v1860)]!)[(Int.toNat v1898)]! ≠ r2099))) = false then .pointer (some ((adr ((y32[(Int.toNat v1860)]!).1)).add ((Int.toNat v1898) * El.m Int))) else undef, fun w2140 hX2141 => od_guard (c := (((decide (((r28[(Int.toNat v1898)]!).length : Int) ≠ r16)) || (decide ((r28[(Int.toNat v1860)]!)[(Int.toNat v1898)]! ≠ (r28[(Int.toNat v1898)]!)[(Int.toNat v1860)]!))) || (decide ((r28[(Int.toNat v1860)]!)[(Int.toNat v1898)]! ≠ r2099))) = false) (val := .pointer (some ((adr ((y32[(Int.toNat v1860)]!).1)).add ((Int.toNat v1898) * El.m Int)))) (b := ((((decide (((r28[(Int.toNat v1898)]!).length : Int) ≠ r16)) || (decide ((r28[(Int.toNat v1860)]!)[(Int.toNat v1898)]! ≠ (r28[(Int.toNat v1898)]!)[(Int.toNat v1860)]!))) || (decide ((r28[(Int.toNat v1860)]!)[(Int.toNat v1898)]! ≠ r2099))) == false)) (gv_some rfl rfl rfl) beq_iff_eq (fun hc2144 => ?_), ?_⟩
                · have hS2142 := hS1916.ext hX2141
                  have hB2143 := hB1915.trans (Ext.stp hX2141 hS1916.base)
                  have hcq16 : ¬ (((((((r28[(Int.toNat v1898)]!).length : Int) ≠ r16) ∨ ((r28[(Int.toNat v1860)]!)[(Int.toNat v1898)]! ≠ (r28[(Int.toNat v1898)]!)[(Int.toNat v1860)]!))) ∨ ((r28[(Int.toNat v1860)]!)[(Int.toNat v1898)]! ≠ r2099))) := (i_neg (i_or (i_or decide_eq_true_iff decide_eq_true_iff) decide_eq_true_iff) hc2144)
                  exact is_ext (q_index (i := v1898) SL39 (if_pos hc2144) (if_pos hc2144) (Tv.row (oT.vw hS2142.g1 hS2142.g2 he33) (hg2129 hcq16)) (hg2145 hcq16))
                refine ⟨if (((decide (((r28[(Int.toNat v1898)]!).length : Int) ≠ r16)) || (decide ((r28[(Int.toNat v1860)]!)[(Int.toNat v1898)]! ≠ (r28[(Int.toNat v1898)]!)[(Int.toNat v1860)]!))) || (decide ((r28[(Int.toNat v1860)]!)[(Int.toNat v1898)]! ≠ r2099))) = false then .int .i64 ((r28[(Int.toNat v1860)]!)[(Int.toNat v1898)]!) else undef, fun w2146 hX2147 => od_guard (c := (((decide (((r28[(Int.toNat v1898)]!).length : Int) ≠ r16)) || (decide ((r28[(Int.toNat v1860)]!)[(Int.toNat v1898)]! ≠ (r28[(Int.toNat v1898)]!)[(Int.toNat v1860)]!))) || (decide ((r28[(Int.toNat v1860)]!)[(Int.toNat v1898)]! ≠ r2099))) = false) (val := .int .i64 ((r28[(Int.toNat v1860)]!)[(Int.toNat v1898)]!)) (b := ((((decide (((r28[(Int.toNat v1898)]!).length : Int) ≠ r16)) || (decide ((r28[(Int.toNat v1860)]!)[(Int.toNat v1898)]! ≠ (r28[(Int.toNat v1898)]!)[(Int.toNat v1860)]!))) || (decide ((r28[(Int.toNat v1860)]!)[(Int.toNat v1898)]! ≠ r2099))) == false)) (gv_some rfl rfl rfl) beq_iff_eq (fun hc2150 => ?_), ?_⟩
                · have hS2148 := hS1916.ext hX2147
                  have hB2149 := hB1915.trans (Ext.stp hX2147 hS1916.base)
                  have hcq16 : ¬ (((((((r28[(Int.toNat v1898)]!).length : Int) ≠ r16) ∨ ((r28[(Int.toNat v1860)]!)[(Int.toNat v1898)]! ≠ (r28[(Int.toNat v1898)]!)[(Int.toNat v1860)]!))) ∨ ((r28[(Int.toNat v1860)]!)[(Int.toNat v1898)]! ≠ r2099))) := (i_neg (i_or (i_or decide_eq_true_iff decide_eq_true_iff) decide_eq_true_iff) hc2150)
                  exact is_ext (q_load (i := v1898) (v := .int .i64 ((r28[(Int.toNat v1860)]!)[(Int.toNat v1898)]!)) ON3 (Tv.row (oT.vw hS2148.g1 hS2148.g2 he33) (hg2129 hcq16)) (hg2145 hcq16) rfl (if_pos hc2150))
                refine ⟨if (((decide (((r28[(Int.toNat v1898)]!).length : Int) ≠ r16)) || (decide ((r28[(Int.toNat v1860)]!)[(Int.toNat v1898)]! ≠ (r28[(Int.toNat v1898)]!)[(Int.toNat v1860)]!))) || (decide ((r28[(Int.toNat v1860)]!)[(Int.toNat v1898)]! ≠ r2099))) = false then .int .i64 (Int.tmod ((r28[(Int.toNat v1860)]!)[(Int.toNat v1898)]!) 2) else undef, fun w2151 hX2152 => od_guard (c := (((decide (((r28[(Int.toNat v1898)]!).length : Int) ≠ r16)) || (decide ((r28[(Int.toNat v1860)]!)[(Int.toNat v1898)]! ≠ (r28[(Int.toNat v1898)]!)[(Int.toNat v1860)]!))) || (decide ((r28[(Int.toNat v1860)]!)[(Int.toNat v1898)]! ≠ r2099))) = false) (val := .int .i64 (Int.tmod ((r28[(Int.toNat v1860)]!)[(Int.toNat v1898)]!) 2)) (b := ((((decide (((r28[(Int.toNat v1898)]!).length : Int) ≠ r16)) || (decide ((r28[(Int.toNat v1860)]!)[(Int.toNat v1898)]! ≠ (r28[(Int.toNat v1898)]!)[(Int.toNat v1860)]!))) || (decide ((r28[(Int.toNat v1860)]!)[(Int.toNat v1898)]! ≠ r2099))) == false)) (gv_some rfl rfl rfl) beq_iff_eq (fun hc2155 => ?_), ?_⟩
                · have hS2153 := hS1916.ext hX2152
                  have hB2154 := hB1915.trans (Ext.stp hX2152 hS1916.base)
                  have hcq16 : ¬ (((((((r28[(Int.toNat v1898)]!).length : Int) ≠ r16) ∨ ((r28[(Int.toNat v1860)]!)[(Int.toNat v1898)]! ≠ (r28[(Int.toNat v1898)]!)[(Int.toNat v1860)]!))) ∨ ((r28[(Int.toNat v1860)]!)[(Int.toNat v1898)]! ≠ r2099))) := (i_neg (i_or (i_or decide_eq_true_iff decide_eq_true_iff) decide_eq_true_iff) hc2155)
                  exact is_ext (g_rem (a := (r28[(Int.toNat v1860)]!)[(Int.toNat v1898)]!) (b := 2) (if_pos hc2155) rfl (by decide))
                refine ⟨if (((decide (((r28[(Int.toNat v1898)]!).length : Int) ≠ r16)) || (decide ((r28[(Int.toNat v1860)]!)[(Int.toNat v1898)]! ≠ (r28[(Int.toNat v1898)]!)[(Int.toNat v1860)]!))) || (decide ((r28[(Int.toNat v1860)]!)[(Int.toNat v1898)]! ≠ r2099))) = false then .bool (decide ((Int.tmod ((r28[(Int.toNat v1860)]!)[(Int.toNat v1898)]!) 2) = 0)) else undef, fun w2156 hX2157 => od_guard (c := (((decide (((r28[(Int.toNat v1898)]!).length : Int) ≠ r16)) || (decide ((r28[(Int.toNat v1860)]!)[(Int.toNat v1898)]! ≠ (r28[(Int.toNat v1898)]!)[(Int.toNat v1860)]!))) || (decide ((r28[(Int.toNat v1860)]!)[(Int.toNat v1898)]! ≠ r2099))) = false) (val := .bool (decide ((Int.tmod ((r28[(Int.toNat v1860)]!)[(Int.toNat v1898)]!) 2) = 0))) (b := ((((decide (((r28[(Int.toNat v1898)]!).length : Int) ≠ r16)) || (decide ((r28[(Int.toNat v1860)]!)[(Int.toNat v1898)]! ≠ (r28[(Int.toNat v1898)]!)[(Int.toNat v1860)]!))) || (decide ((r28[(Int.toNat v1860)]!)[(Int.toNat v1898)]! ≠ r2099))) == false)) (gv_some rfl rfl rfl) beq_iff_eq (fun hc2160 => ?_), ?_⟩
                · have hS2158 := hS1916.ext hX2157
                  have hB2159 := hB1915.trans (Ext.stp hX2157 hS1916.base)
                  have hcq16 : ¬ (((((((r28[(Int.toNat v1898)]!).length : Int) ≠ r16) ∨ ((r28[(Int.toNat v1860)]!)[(Int.toNat v1898)]! ≠ (r28[(Int.toNat v1898)]!)[(Int.toNat v1860)]!))) ∨ ((r28[(Int.toNat v1860)]!)[(Int.toNat v1898)]! ≠ r2099))) := (i_neg (i_or (i_or decide_eq_true_iff decide_eq_true_iff) decide_eq_true_iff) hc2160)
                  exact is_ext (g_eql (a := (Int.tmod ((r28[(Int.toNat v1860)]!)[(Int.toNat v1898)]!) 2)) (b := 0) (if_pos hc2160) rfl)
                refine ⟨if (((decide (((r28[(Int.toNat v1898)]!).length : Int) ≠ r16)) || (decide ((r28[(Int.toNat v1860)]!)[(Int.toNat v1898)]! ≠ (r28[(Int.toNat v1898)]!)[(Int.toNat v1860)]!))) || (decide ((r28[(Int.toNat v1860)]!)[(Int.toNat v1898)]! ≠ r2099))) = false then .slice a44 n45 c46 else undef, fun w2161 hX2162 => od_guard (c := (((decide (((r28[(Int.toNat v1898)]!).length : Int) ≠ r16)) || (decide ((r28[(Int.toNat v1860)]!)[(Int.toNat v1898)]! ≠ (r28[(Int.toNat v1898)]!)[(Int.toNat v1860)]!))) || (decide ((r28[(Int.toNat v1860)]!)[(Int.toNat v1898)]! ≠ r2099))) = false) (val := .slice a44 n45 c46) (b := ((((decide (((r28[(Int.toNat v1898)]!).length : Int) ≠ r16)) || (decide ((r28[(Int.toNat v1860)]!)[(Int.toNat v1898)]! ≠ (r28[(Int.toNat v1898)]!)[(Int.toNat v1860)]!))) || (decide ((r28[(Int.toNat v1860)]!)[(Int.toNat v1898)]! ≠ r2099))) == false)) (gv_some rfl rfl rfl) beq_iff_eq (fun hc2165 => ?_), ?_⟩
                · have hS2163 := hS1916.ext hX2162
                  have hB2164 := hB1915.trans (Ext.stp hX2162 hS1916.base)
                  have hcq16 : ¬ (((((((r28[(Int.toNat v1898)]!).length : Int) ≠ r16) ∨ ((r28[(Int.toNat v1860)]!)[(Int.toNat v1898)]! ≠ (r28[(Int.toNat v1898)]!)[(Int.toNat v1860)]!))) ∨ ((r28[(Int.toNat v1860)]!)[(Int.toNat v1898)]! ≠ r2099))) := (i_neg (i_or (i_or decide_eq_true_iff decide_eq_true_iff) decide_eq_true_iff) hc2165)
                  exact is_ext (g_move (v := .slice a44 n45 c46) rfl)
                refine ⟨if (((decide (((r28[(Int.toNat v1898)]!).length : Int) ≠ r16)) || (decide ((r28[(Int.toNat v1860)]!)[(Int.toNat v1898)]! ≠ (r28[(Int.toNat v1898)]!)[(Int.toNat v1860)]!))) || (decide ((r28[(Int.toNat v1860)]!)[(Int.toNat v1898)]! ≠ r2099))) = false then .int .i64 v1898 else undef, fun w2166 hX2167 => od_guard (c := (((decide (((r28[(Int.toNat v1898)]!).length : Int) ≠ r16)) || (decide ((r28[(Int.toNat v1860)]!)[(Int.toNat v1898)]! ≠ (r28[(Int.toNat v1898)]!)[(Int.toNat v1860)]!))) || (decide ((r28[(Int.toNat v1860)]!)[(Int.toNat v1898)]! ≠ r2099))) = false) (val := .int .i64 v1898) (b := ((((decide (((r28[(Int.toNat v1898)]!).length : Int) ≠ r16)) || (decide ((r28[(Int.toNat v1860)]!)[(Int.toNat v1898)]! ≠ (r28[(Int.toNat v1898)]!)[(Int.toNat v1860)]!))) || (decide ((r28[(Int.toNat v1860)]!)[(Int.toNat v1898)]! ≠ r2099))) == false)) (gv_some rfl rfl rfl) beq_iff_eq (fun hc2170 => ?_), ?_⟩
                · have hS2168 := hS1916.ext hX2167
                  have hB2169 := hB1915.trans (Ext.stp hX2167 hS1916.base)
                  have hcq16 : ¬ (((((((r28[(Int.toNat v1898)]!).length : Int) ≠ r16) ∨ ((r28[(Int.toNat v1860)]!)[(Int.toNat v1898)]! ≠ (r28[(Int.toNat v1898)]!)[(Int.toNat v1860)]!))) ∨ ((r28[(Int.toNat v1860)]!)[(Int.toNat v1898)]! ≠ r2099))) := (i_neg (i_or (i_or decide_eq_true_iff decide_eq_true_iff) decide_eq_true_iff) hc2170)
                  exact is_ext (g_move (v := .int .i64 v1898) rfl)
                obtain ⟨r2176, hk2177, hm⟩ := hm
                refine ⟨if (((decide (((r28[(Int.toNat v1898)]!).length : Int) ≠ r16)) || (decide ((r28[(Int.toNat v1860)]!)[(Int.toNat v1898)]! ≠ (r28[(Int.toNat v1898)]!)[(Int.toNat v1860)]!))) || (decide ((r28[(Int.toNat v1860)]!)[(Int.toNat v1898)]! ≠ r2099))) = false then .int .i64 r2176 else undef, fun w2171 hX2172 => od_guard (c := (((decide (((r28[(Int.toNat v1898)]!).length : Int) ≠ r16)) || (decide ((r28[(Int.toNat v1860)]!)[(Int.toNat v1898)]! ≠ (r28[(Int.toNat v1898)]!)[(Int.toNat v1860)]!))) || (decide ((r28[(Int.toNat v1860)]!)[(Int.toNat v1898)]! ≠ r2099))) = false) (val := .int .i64 r2176) (b := ((((decide (((r28[(Int.toNat v1898)]!).length : Int) ≠ r16)) || (decide ((r28[(Int.toNat v1860)]!)[(Int.toNat v1898)]! ≠ (r28[(Int.toNat v1898)]!)[(Int.toNat v1860)]!))) || (decide ((r28[(Int.toNat v1860)]!)[(Int.toNat v1898)]! ≠ r2099))) == false)) (gv_some rfl rfl rfl) beq_iff_eq (fun hc2175 => ?_), ?_⟩
                · have hS2173 := hS1916.ext hX2172
                  have hB2174 := hB1915.trans (Ext.stp hX2172 hS1916.base)
                  have hcq16 : ¬ (((((((r28[(Int.toNat v1898)]!).length : Int) ≠ r16) ∨ ((r28[(Int.toNat v1860)]!)[(Int.toNat v1898)]! ≠ (r28[(Int.toNat v1898)]!)[(Int.toNat v1860)]!))) ∨ ((r28[(Int.toNat v1860)]!)[(Int.toNat v1898)]! ≠ r2099))) := (i_neg (i_or (i_or decide_eq_true_iff decide_eq_true_iff) decide_eq_true_iff) hc2175)
                  exact (g_call (vs := #[.slice a44 n45 c46, .int .i64 v1898]) CF28 (args2 (if_pos hc2175) (if_pos hc2175)) ((m_spec_PlaceOf_fn (oS.vw hS2173.g3) v1898 (hk2177 hcq16)).mono fun _ _ ⟨_, h1, h2, h3⟩ => ⟨by rw [h2, h1], h3⟩))
                refine ⟨if (((decide (((r28[(Int.toNat v1898)]!).length : Int) ≠ r16)) || (decide ((r28[(Int.toNat v1860)]!)[(Int.toNat v1898)]! ≠ (r28[(Int.toNat v1898)]!)[(Int.toNat v1860)]!))) || (decide ((r28[(Int.toNat v1860)]!)[(Int.toNat v1898)]! ≠ r2099))) = false then .slice a44 n45 c46 else undef, fun w2178 hX2179 => od_guard (c := (((decide (((r28[(Int.toNat v1898)]!).length : Int) ≠ r16)) || (decide ((r28[(Int.toNat v1860)]!)[(Int.toNat v1898)]! ≠ (r28[(Int.toNat v1898)]!)[(Int.toNat v1860)]!))) || (decide ((r28[(Int.toNat v1860)]!)[(Int.toNat v1898)]! ≠ r2099))) = false) (val := .slice a44 n45 c46) (b := ((((decide (((r28[(Int.toNat v1898)]!).length : Int) ≠ r16)) || (decide ((r28[(Int.toNat v1860)]!)[(Int.toNat v1898)]! ≠ (r28[(Int.toNat v1898)]!)[(Int.toNat v1860)]!))) || (decide ((r28[(Int.toNat v1860)]!)[(Int.toNat v1898)]! ≠ r2099))) == false)) (gv_some rfl rfl rfl) beq_iff_eq (fun hc2182 => ?_), ?_⟩
                · have hS2180 := hS1916.ext hX2179
                  have hB2181 := hB1915.trans (Ext.stp hX2179 hS1916.base)
                  have hcq16 : ¬ (((((((r28[(Int.toNat v1898)]!).length : Int) ≠ r16) ∨ ((r28[(Int.toNat v1860)]!)[(Int.toNat v1898)]! ≠ (r28[(Int.toNat v1898)]!)[(Int.toNat v1860)]!))) ∨ ((r28[(Int.toNat v1860)]!)[(Int.toNat v1898)]! ≠ r2099))) := (i_neg (i_or (i_or decide_eq_true_iff decide_eq_true_iff) decide_eq_true_iff) hc2182)
                  exact is_ext (g_move (v := .slice a44 n45 c46) rfl)
                refine ⟨if (((decide (((r28[(Int.toNat v1898)]!).length : Int) ≠ r16)) || (decide ((r28[(Int.toNat v1860)]!)[(Int.toNat v1898)]! ≠ (r28[(Int.toNat v1898)]!)[(Int.toNat v1860)]!))) || (decide ((r28[(Int.toNat v1860)]!)[(Int.toNat v1898)]! ≠ r2099))) = false then .int .i64 v1860 else undef, fun w2183 hX2184 => od_guard (c := (((decide (((r28[(Int.toNat v1898)]!).length : Int) ≠ r16)) || (decide ((r28[(Int.toNat v1860)]!)[(Int.toNat v1898)]! ≠ (r28[(Int.toNat v1898)]!)[(Int.toNat v1860)]!))) || (decide ((r28[(Int.toNat v1860)]!)[(Int.toNat v1898)]! ≠ r2099))) = false) (val := .int .i64 v1860) (b := ((((decide (((r28[(Int.toNat v1898)]!).length : Int) ≠ r16)) || (decide ((r28[(Int.toNat v1860)]!)[(Int.toNat v1898)]! ≠ (r28[(Int.toNat v1898)]!)[(Int.toNat v1860)]!))) || (decide ((r28[(Int.toNat v1860)]!)[(Int.toNat v1898)]! ≠ r2099))) == false)) (gv_some rfl rfl rfl) beq_iff_eq (fun hc2187 => ?_), ?_⟩
                · have hS2185 := hS1916.ext hX2184
                  have hB2186 := hB1915.trans (Ext.stp hX2184 hS1916.base)
                  have hcq16 : ¬ (((((((r28[(Int.toNat v1898)]!).length : Int) ≠ r16) ∨ ((r28[(Int.toNat v1860)]!)[(Int.toNat v1898)]! ≠ (r28[(Int.toNat v1898)]!)[(Int.toNat v1860)]!))) ∨ ((r28[(Int.toNat v1860)]!)[(Int.toNat v1898)]! ≠ r2099))) := (i_neg (i_or (i_or decide_eq_true_iff decide_eq_true_iff) decide_eq_true_iff) hc2187)
                  exact is_ext (g_move (v := .int .i64 v1860) rfl)
                obtain ⟨r2193, hk2194, hm⟩ := hm
                refine ⟨if (((decide (((r28[(Int.toNat v1898)]!).length : Int) ≠ r16)) || (decide ((r28[(Int.toNat v1860)]!)[(Int.toNat v1898)]! ≠ (r28[(Int.toNat v1898)]!)[(Int.toNat v1860)]!))) || (decide ((r28[(Int.toNat v1860)]!)[(Int.toNat v1898)]! ≠ r2099))) = false then .int .i64 r2193 else undef, fun w2188 hX2189 => od_guard (c := (((decide (((r28[(Int.toNat v1898)]!).length : Int) ≠ r16)) || (decide ((r28[(Int.toNat v1860)]!)[(Int.toNat v1898)]! ≠ (r28[(Int.toNat v1898)]!)[(Int.toNat v1860)]!))) || (decide ((r28[(Int.toNat v1860)]!)[(Int.toNat v1898)]! ≠ r2099))) = false) (val := .int .i64 r2193) (b := ((((decide (((r28[(Int.toNat v1898)]!).length : Int) ≠ r16)) || (decide ((r28[(Int.toNat v1860)]!)[(Int.toNat v1898)]! ≠ (r28[(Int.toNat v1898)]!)[(Int.toNat v1860)]!))) || (decide ((r28[(Int.toNat v1860)]!)[(Int.toNat v1898)]! ≠ r2099))) == false)) (gv_some rfl rfl rfl) beq_iff_eq (fun hc2192 => ?_), ?_⟩
                · have hS2190 := hS1916.ext hX2189
                  have hB2191 := hB1915.trans (Ext.stp hX2189 hS1916.base)
                  have hcq16 : ¬ (((((((r28[(Int.toNat v1898)]!).length : Int) ≠ r16) ∨ ((r28[(Int.toNat v1860)]!)[(Int.toNat v1898)]! ≠ (r28[(Int.toNat v1898)]!)[(Int.toNat v1860)]!))) ∨ ((r28[(Int.toNat v1860)]!)[(Int.toNat v1898)]! ≠ r2099))) := (i_neg (i_or (i_or decide_eq_true_iff decide_eq_true_iff) decide_eq_true_iff) hc2192)
                  exact (g_call (vs := #[.slice a44 n45 c46, .int .i64 v1860]) CF28 (args2 (if_pos hc2192) (if_pos hc2192)) ((m_spec_PlaceOf_fn (oS.vw hS2190.g3) v1860 (hk2194 hcq16)).mono fun _ _ ⟨_, h1, h2, h3⟩ => ⟨by rw [h2, h1], h3⟩))
                refine ⟨if (((decide (((r28[(Int.toNat v1898)]!).length : Int) ≠ r16)) || (decide ((r28[(Int.toNat v1860)]!)[(Int.toNat v1898)]! ≠ (r28[(Int.toNat v1898)]!)[(Int.toNat v1860)]!))) || (decide ((r28[(Int.toNat v1860)]!)[(Int.toNat v1898)]! ≠ r2099))) = false then .bool (decide (r2176 < r2193)) else undef, fun w2195 hX2196 => od_guard (c := (((decide (((r28[(Int.toNat v1898)]!).length : Int) ≠ r16)) || (decide ((r28[(Int.toNat v1860)]!)[(Int.toNat v1898)]! ≠ (r28[(Int.toNat v1898)]!)[(Int.toNat v1860)]!))) || (decide ((r28[(Int.toNat v1860)]!)[(Int.toNat v1898)]! ≠ r2099))) = false) (val := .bool (decide (r2176 < r2193))) (b := ((((decide (((r28[(Int.toNat v1898)]!).length : Int) ≠ r16)) || (decide ((r28[(Int.toNat v1860)]!)[(Int.toNat v1898)]! ≠ (r28[(Int.toNat v1898)]!)[(Int.toNat v1860)]!))) || (decide ((r28[(Int.toNat v1860)]!)[(Int.toNat v1898)]! ≠ r2099))) == false)) (gv_some rfl rfl rfl) beq_iff_eq (fun hc2199 => ?_), ?_⟩
                · have hS2197 := hS1916.ext hX2196
                  have hB2198 := hB1915.trans (Ext.stp hX2196 hS1916.base)
                  have hcq16 : ¬ (((((((r28[(Int.toNat v1898)]!).length : Int) ≠ r16) ∨ ((r28[(Int.toNat v1860)]!)[(Int.toNat v1898)]! ≠ (r28[(Int.toNat v1898)]!)[(Int.toNat v1860)]!))) ∨ ((r28[(Int.toNat v1860)]!)[(Int.toNat v1898)]! ≠ r2099))) := (i_neg (i_or (i_or decide_eq_true_iff decide_eq_true_iff) decide_eq_true_iff) hc2199)
                  exact is_ext (g_lss (a := r2176) (b := r2193) (if_pos hc2199) (if_pos hc2199))
                refine ⟨if (((decide (((r28[(Int.toNat v1898)]!).length : Int) ≠ r16)) || (decide ((r28[(Int.toNat v1860)]!)[(Int.toNat v1898)]! ≠ (r28[(Int.toNat v1898)]!)[(Int.toNat v1860)]!))) || (decide ((r28[(Int.toNat v1860)]!)[(Int.toNat v1898)]! ≠ r2099))) = false then .bool (decide ((decide ((Int.tmod ((r28[(Int.toNat v1860)]!)[(Int.toNat v1898)]!) 2) = 0)) ≠ (decide (r2176 < r2193)))) else undef, fun w2200 hX2201 => od_guard (c := (((decide (((r28[(Int.toNat v1898)]!).length : Int) ≠ r16)) || (decide ((r28[(Int.toNat v1860)]!)[(Int.toNat v1898)]! ≠ (r28[(Int.toNat v1898)]!)[(Int.toNat v1860)]!))) || (decide ((r28[(Int.toNat v1860)]!)[(Int.toNat v1898)]! ≠ r2099))) = false) (val := .bool (decide ((decide ((Int.tmod ((r28[(Int.toNat v1860)]!)[(Int.toNat v1898)]!) 2) = 0)) ≠ (decide (r2176 < r2193))))) (b := ((((decide (((r28[(Int.toNat v1898)]!).length : Int) ≠ r16)) || (decide ((r28[(Int.toNat v1860)]!)[(Int.toNat v1898)]! ≠ (r28[(Int.toNat v1898)]!)[(Int.toNat v1860)]!))) || (decide ((r28[(Int.toNat v1860)]!)[(Int.toNat v1898)]! ≠ r2099))) == false)) (gv_some rfl rfl rfl) beq_iff_eq (fun hc2204 => ?_), ?_⟩
                · have hS2202 := hS1916.ext hX2201
                  have hB2203 := hB1915.trans (Ext.stp hX2201 hS1916.base)
                  have hcq16 : ¬ (((((((r28[(Int.toNat v1898)]!).length : Int) ≠ r16) ∨ ((r28[(Int.toNat v1860)]!)[(Int.toNat v1898)]! ≠ (r28[(Int.toNat v1898)]!)[(Int.toNat v1860)]!))) ∨ ((r28[(Int.toNat v1860)]!)[(Int.toNat v1898)]! ≠ r2099))) := (i_neg (i_or (i_or decide_eq_true_iff decide_eq_true_iff) decide_eq_true_iff) hc2204)
                  exact is_ext (g_neq_b (a := (decide ((Int.tmod ((r28[(Int.toNat v1860)]!)[(Int.toNat v1898)]!) 2) = 0))) (b := (decide (r2176 < r2193))) UB (if_pos hc2204) (if_pos hc2204))
                refine ⟨.bool ((((decide (((r28[(Int.toNat v1898)]!).length : Int) ≠ r16)) || (decide ((r28[(Int.toNat v1860)]!)[(Int.toNat v1898)]! ≠ (r28[(Int.toNat v1898)]!)[(Int.toNat v1860)]!))) || (decide ((r28[(Int.toNat v1860)]!)[(Int.toNat v1898)]! ≠ r2099))) || (decide ((decide ((Int.tmod ((r28[(Int.toNat v1860)]!)[(Int.toNat v1898)]!) 2) = 0)) ≠ (decide (r2176 < r2193))))), fun w2205 hX2206 => od_plain rfl (by have hS2207 := hS1916.ext hX2206; have hB2208 := hB1915.trans (Ext.stp hX2206 hS1916.base); exact is_ext (g_pick_or (b := (((decide (((r28[(Int.toNat v1898)]!).length : Int) ≠ r16)) || (decide ((r28[(Int.toNat v1860)]!)[(Int.toNat v1898)]! ≠ (r28[(Int.toNat v1898)]!)[(Int.toNat v1860)]!))) || (decide ((r28[(Int.toNat v1860)]!)[(Int.toNat v1898)]! ≠ r2099)))) (q := (decide ((decide ((Int.tmod ((r28[(Int.toNat v1860)]!)[(Int.toNat v1898)]!) 2) = 0)) ≠ (decide (r2176 < r2193))))) rfl rfl)), ?_⟩
                intro w2209 hX2210
                have hB2211 := hB1915.trans (Ext.stp hX2210 hS1916.base)
                have hS2212 := hS1916.ext hX2210
                refine hK1912 _ _ ?_
                refine w_condI (p := ((((((((r28[(Int.toNat v1898)]!).length : Int) ≠ r16) ∨ ((r28[(Int.toNat v1860)]!)[(Int.toNat v1898)]! ≠ (r28[(Int.toNat v1898)]!)[(Int.toNat v1860)]!))) ∨ ((r28[(Int.toNat v1860)]!)[(Int.toNat v1898)]! ≠ r2099))) ∨ ((decide ((Int.tmod ((r28[(Int.toNat v1860)]!)[(Int.toNat v1898)]!) 2) = 0)) ≠ (decide (r2176 < r2193))))) (b := ((((decide (((r28[(Int.toNat v1898)]!).length : Int) ≠ r16)) || (decide ((r28[(Int.toNat v1860)]!)[(Int.toNat v1898)]! ≠ (r28[(Int.toNat v1898)]!)[(Int.toNat v1860)]!))) || (decide ((r28[(Int.toNat v1860)]!)[(Int.toNat v1898)]! ≠ r2099))) || (decide ((decide ((Int.tmod ((r28[(Int.toNat v1860)]!)[(Int.toNat v1898)]!) 2) = 0)) ≠ (decide (r2176 < r2193)))))) rfl (i_or (i_or (i_or decide_eq_true_iff decide_eq_true_iff) decide_eq_true_iff) decide_eq_true_iff) (fun h2213 => ?_) (fun h2213 => ?_)
                · replace hm := hm.1 h2213
                  refine w_seq fun K2214 hK2214 => ?_
                  refine w_region ?_
                  refine wl_val (g_assign (v := .bool false) rfl) rfl ?_
                  refine wl_nil ?_
                  refine hK2214 _ _ ?_
                  refine w_ret ?_
                  repeat first | with_reducible refine q_then ?_ | with_reducible refine q_block ?_
                  exact ret1 rfl (by decide) ⟨_, hm, rfl, toExt hB2211⟩
                · replace hm := hm.2 h2213
                  refine w_skip ?_
                  refine hK1911 _ _ ?_
                  refine w_seq fun K2215 hK2215 => ?_
                  refine w_region ?_
                  refine wl_val (g_move (v := .int .i64 v1895) rfl) rfl ?_
                  refine wl_val (g_move (v := .slice a29 n30 c31) rfl) rfl ?_
                  refine wl_val (g_move (v := .int .i64 v1860) rfl) rfl ?_
                  obtain ⟨hg2216, hm⟩ := hm
                  refine wl_val (q_index (i := v1860) SL37 rfl rfl (Tv.o (oT.vw hS2212.g1 hS2212.g2 he33)) (Tv.g (oT.vw hS2212.g1 hS2212.g2 he33) hg2216)) rfl ?_
                  refine wl_val (q_load (i := v1860) (v := .slice ((y32[(Int.toNat v1860)]!).1) ((y32[(Int.toNat v1860)]!).2.2.length) ((y32[(Int.toNat v1860)]!).2.1)) ON39 (Tv.o (oT.vw hS2212.g1 hS2212.g2 he33)) (Tv.g (oT.vw hS2212.g1 hS2212.g2 he33) hg2216) rfl rfl) rfl ?_
                  refine wl_val (g_move (v := .int .i64 v1898) rfl) rfl ?_
                  obtain ⟨hg2217, hm⟩ := hm
                  refine wl_val (q_index (i := v1898) SL39 rfl rfl (Tv.row (oT.vw hS2212.g1 hS2212.g2 he33) hg2216) hg2217) rfl ?_
                  refine wl_val (q_load (i := v1898) (v := .int .i64 ((r28[(Int.toNat v1860)]!)[(Int.toNat v1898)]!)) ON3 (Tv.row (oT.vw hS2212.g1 hS2212.g2 he33) hg2216) hg2217 rfl rfl) rfl ?_
                  obtain ⟨hg2218, hm⟩ := hm
                  refine wl_val (g_add (a := v1895) (b := (r28[(Int.toNat v1860)]!)[(Int.toNat v1898)]!) rfl rfl hg2218) rfl ?_
                  refine wl_val (g_assign (v := .int .i64 (v1895 + (r28[(Int.toNat v1860)]!)[(Int.toNat v1898)]!)) rfl) rfl ?_
                  refine wl_nil ?_
                  refine hK2215 _ _ ?_
                  refine w_seq fun K2219 hK2219 => ?_
                  refine w_draw (X := Ext) (Y := Ext) [] MIX (by decide +kernel) rfl Ext.refl (fun _ _ _ => Ext.trans) (fun _ _ _ => Chg.trans) (fun _ _ h => Ext.chg h _) (fun w2220 hE2221 => ?_)
                  have hB2222 := hB2211.trans (Ext.stp hE2221 hS2212.base)
                  have hS2223 := hS2212.ext hE2221
                  refine ⟨.int .i64 v1896, fun w2224 hX2225 => od_plain rfl (by have hS2226 := hS2223.ext hX2225; have hB2227 := hB2222.trans (Ext.stp hX2225 hS2223.base); exact is_ext (g_move (v := .int .i64 v1896) rfl)), ?_⟩
                  refine ⟨.slice a29 n30 c31, fun w2228 hX2229 => od_plain rfl (by have hS2230 := hS2223.ext hX2229; have hB2231 := hB2222.trans (Ext.stp hX2229 hS2223.base); exact is_ext (g_move (v := .slice a29 n30 c31) rfl)), ?_⟩
                  refine ⟨.int .i64 v1860, fun w2232 hX2233 => od_plain rfl (by have hS2234 := hS2223.ext hX2233; have hB2235 := hB2222.trans (Ext.stp hX2233 hS2223.base); exact is_ext (g_move (v := .int .i64 v1860) rfl)), ?_⟩
                  obtain ⟨hg2240, hm⟩ := hm
                  refine ⟨.pointer (some ((adr a29).add ((Int.toNat v1860) * El.m (Hd Int)))), fun w2236 hX2237 => od_plain rfl (by have hS2238 := hS2223.ext hX2237; have hB2239 := hB2222.trans (Ext.stp hX2237 hS2223.base); exact is_ext (q_index (i := v1860) SL37 rfl rfl (Tv.o (oT.vw hS2238.g1 hS2238.g2 he33)) (Tv.g (oT.vw hS2238.g1 hS2238.g2 he33) hg2240))), ?_⟩
                  refine ⟨.slice ((y32[(Int.toNat v1860)]!).1) ((y32[(Int.toNat v1860)]!).2.2.length) ((y32[(Int.toNat v1860)]!).2.1), fun w2241 hX2242 => od_plain rfl (by have hS2243 := hS2223.ext hX2242; have hB2244 := hB2222.trans (Ext.stp hX2242 hS2223.base); exact is_ext (q_load (i := v1860) (v := .slice ((y32[(Int.toNat v1860)]!).1) ((y32[(Int.toNat v1860)]!).2.2.length) ((y32[(Int.toNat v1860)]!).2.1)) ON39 (Tv.o (oT.vw hS2243.g1 hS2243.g2 he33)) (Tv.g (oT.vw hS2243.g1 hS2243.g2 he33) hg2240) rfl rfl)), ?_⟩
                  refine ⟨.int .i64 v1898, fun w2245 hX2246 => od_plain rfl (by have hS2247 := hS2223.ext hX2246; have hB2248 := hB2222.trans (Ext.stp hX2246 hS2223.base); exact is_ext (g_move (v := .int .i64 v1898) rfl)), ?_⟩
                  obtain ⟨hg2253, hm⟩ := hm
                  refine ⟨.pointer (some ((adr ((y32[(Int.toNat v1860)]!).1)).add ((Int.toNat v1898) * El.m Int))), fun w2249 hX2250 => od_plain rfl (by have hS2251 := hS2223.ext hX2250; have hB2252 := hB2222.trans (Ext.stp hX2250 hS2223.base); exact is_ext (q_index (i := v1898) SL39 rfl rfl (Tv.row (oT.vw hS2251.g1 hS2251.g2 he33) hg2240) hg2253)), ?_⟩
                  refine ⟨.int .i64 ((r28[(Int.toNat v1860)]!)[(Int.toNat v1898)]!), fun w2254 hX2255 => od_plain rfl (by have hS2256 := hS2223.ext hX2255; have hB2257 := hB2222.trans (Ext.stp hX2255 hS2223.base); exact is_ext (q_load (i := v1898) (v := .int .i64 ((r28[(Int.toNat v1860)]!)[(Int.toNat v1898)]!)) ON3 (Tv.row (oT.vw hS2256.g1 hS2256.g2 he33) hg2240) hg2253 rfl rfl)), ?_⟩
                  refine ⟨.slice a29 n30 c31, fun w2258 hX2259 => od_plain rfl (by have hS2260 := hS2223.ext hX2259; have hB2261 := hB2222.trans (Ext.stp hX2259 hS2223.base); exact is_ext (g_move (v := .slice a29 n30 c31) rfl)), ?_⟩
                  refine ⟨.int .i64 v1860, fun w2262 hX2263 => od_plain rfl (by have hS2264 := hS2223.ext hX2263; have hB2265 := hB2222.trans (Ext.stp hX2263 hS2223.base); exact is_ext (g_move (v := .int .i64 v1860) rfl)), ?_⟩
                  obtain ⟨hg2270, hm⟩ := hm
                  refine ⟨.pointer (some ((adr a29).add ((Int.toNat v1860) * El.m (Hd Int)))), fun w2266 hX2267 => od_plain rfl (by have hS2268 := hS2223.ext hX2267; have hB2269 := hB2222.trans (Ext.stp hX2267 hS2223.base); exact is_ext (q_index (i := v1860) SL37 rfl rfl (Tv.o (oT.vw hS2268.g1 hS2268.g2 he33)) (Tv.g (oT.vw hS2268.g1 hS2268.g2 he33) hg2270))), ?_⟩
                  refine ⟨.slice ((y32[(Int.toNat v1860)]!).1) ((y32[(Int.toNat v1860)]!).2.2.length) ((y32[(Int.toNat v1860)]!).2.1), fun w2271 hX2272 => od_plain rfl (by have hS2273 := hS2223.ext hX2272; have hB2274 := hB2222.trans (Ext.stp hX2272 hS2223.base); exact is_ext (q_load (i := v1860) (v := .slice ((y32[(Int.toNat v1860)]!).1) ((y32[(Int.toNat v1860)]!).2.2.length) ((y32[(Int.toNat v1860)]!).2.1)) ON39 (Tv.o (oT.vw hS2273.g1 hS2273.g2 he33)) (Tv.g (oT.vw hS2273.g1 hS2273.g2 he33) hg2270) rfl rfl)), ?_⟩
                  refine ⟨.int .i64 v1898, fun w2275 hX2276 => od_plain rfl (by have hS2277 := hS2223.ext hX2276; have hB2278 := hB2222.trans (Ext.stp hX2276 hS2223.base); exact is_ext (g_move (v := .int .i64 v1898) rfl)), ?_⟩
                  obtain ⟨hg2283, hm⟩ := hm
                  refine ⟨.pointer (some ((adr ((y32[(Int.toNat v1860)]!).1)).add ((Int.toNat v1898) * El.m Int))), fun w2279 hX2280 => od_plain rfl (by have hS2281 := hS2223.ext hX2280; have hB2282 := hB2222.trans (Ext.stp hX2280 hS2223.base); exact is_ext (q_index (i := v1898) SL39 rfl rfl (Tv.row (oT.vw hS2281.g1 hS2281.g2 he33) hg2270) hg2283)), ?_⟩
                  refine ⟨.int .i64 ((r28[(Int.toNat v1860)]!)[(Int.toNat v1898)]!), fun w2284 hX2285 => od_plain rfl (by have hS2286 := hS2223.ext hX2285; have hB2287 := hB2222.trans (Ext.stp hX2285 hS2223.base); exact is_ext (q_load (i := v1898) (v := .int .i64 ((r28[(Int.toNat v1860)]!)[(Int.toNat v1898)]!)) ON3 (Tv.row (oT.vw hS2286.g1 hS2286.g2 he33) hg2270) hg2283 rfl rfl)), ?_⟩
                  obtain ⟨hg2292, hm⟩ := hm
                  refine ⟨.int .i64 (-((r28[(Int.toNat v1860)]!)[(Int.toNat v1898)]!)), fun w2288 hX2289 => od_plain rfl (by have hS2290 := hS2223.ext hX2289; have hB2291 := hB2222.trans (Ext.stp hX2289 hS2223.base); exact is_ext (g_neg (a := (r28[(Int.toNat v1860)]!)[(Int.toNat v1898)]!) rfl hg2292)), ?_⟩
                  refine ⟨.int .i64 (max ((r28[(Int.toNat v1860)]!)[(Int.toNat v1898)]!) (-((r28[(Int.toNat v1860)]!)[(Int.toNat v1898)]!))), fun w2293 hX2294 => od_plain rfl (by have hS2295 := hS2223.ext hX2294; have hB2296 := hB2222.trans (Ext.stp hX2294 hS2223.base); exact is_ext (g_max (a := (r28[(Int.toNat v1860)]!)[(Int.toNat v1898)]!) (b := (-((r28[(Int.toNat v1860)]!)[(Int.toNat v1898)]!))) rfl rfl)), ?_⟩
                  obtain ⟨hg2301, hm⟩ := hm
                  refine ⟨.int .i64 (v1896 + (max ((r28[(Int.toNat v1860)]!)[(Int.toNat v1898)]!) (-((r28[(Int.toNat v1860)]!)[(Int.toNat v1898)]!)))), fun w2297 hX2298 => od_plain rfl (by have hS2299 := hS2223.ext hX2298; have hB2300 := hB2222.trans (Ext.stp hX2298 hS2223.base); exact is_ext (g_add (a := v1896) (b := (max ((r28[(Int.toNat v1860)]!)[(Int.toNat v1898)]!) (-((r28[(Int.toNat v1860)]!)[(Int.toNat v1898)]!)))) rfl rfl hg2301)), ?_⟩
                  refine ⟨.int .i64 (v1896 + (max ((r28[(Int.toNat v1860)]!)[(Int.toNat v1898)]!) (-((r28[(Int.toNat v1860)]!)[(Int.toNat v1898)]!)))), fun w2302 hX2303 => od_plain rfl (by have hS2304 := hS2223.ext hX2303; have hB2305 := hB2222.trans (Ext.stp hX2303 hS2223.base); exact is_ext (g_assign (v := .int .i64 (v1896 + (max ((r28[(Int.toNat v1860)]!)[(Int.toNat v1898)]!) (-((r28[(Int.toNat v1860)]!)[(Int.toNat v1898)]!))))) rfl)), ?_⟩
                  intro w2306 hX2307
                  have hB2308 := hB2222.trans (Ext.stp hX2307 hS2223.base)
                  have hS2309 := hS2223.ext hX2307
                  refine hK2219 _ _ ?_
                  refine w_region ?_
                  refine wl_val (g_move (v := .int .i64 v1897) rfl) rfl ?_
                  refine wl_val (g_move (v := .slice a29 n30 c31) rfl) rfl ?_
                  refine wl_val (g_move (v := .int .i64 v1860) rfl) rfl ?_
                  obtain ⟨hg2310, hm⟩ := hm
                  refine wl_val (q_index (i := v1860) SL37 rfl rfl (Tv.o (oT.vw hS2309.g1 hS2309.g2 he33)) (Tv.g (oT.vw hS2309.g1 hS2309.g2 he33) hg2310)) rfl ?_
                  refine wl_val (q_load (i := v1860) (v := .slice ((y32[(Int.toNat v1860)]!).1) ((y32[(Int.toNat v1860)]!).2.2.length) ((y32[(Int.toNat v1860)]!).2.1)) ON39 (Tv.o (oT.vw hS2309.g1 hS2309.g2 he33)) (Tv.g (oT.vw hS2309.g1 hS2309.g2 he33) hg2310) rfl rfl) rfl ?_
                  refine wl_val (g_move (v := .int .i64 v1898) rfl) rfl ?_
                  obtain ⟨hg2311, hm⟩ := hm
                  refine wl_val (q_index (i := v1898) SL39 rfl rfl (Tv.row (oT.vw hS2309.g1 hS2309.g2 he33) hg2310) hg2311) rfl ?_
                  refine wl_val (q_load (i := v1898) (v := .int .i64 ((r28[(Int.toNat v1860)]!)[(Int.toNat v1898)]!)) ON3 (Tv.row (oT.vw hS2309.g1 hS2309.g2 he33) hg2310) hg2311 rfl rfl) rfl ?_
                  refine wl_val (g_neq (a := (r28[(Int.toNat v1860)]!)[(Int.toNat v1898)]!) (b := 0) rfl rfl) rfl ?_
                  refine wl_step rfl (g_call (vs := #[.bool (decide ((r28[(Int.toNat v1860)]!)[(Int.toNat v1898)]! ≠ 0))]) CF29 (args1 rfl) (m_laws_btoi_fn (decide ((r28[(Int.toNat v1860)]!)[(Int.toNat v1898)]! ≠ 0)) hm)) ?_
                  rintro _ w2312 ⟨r2315, hm, rfl, hE2313⟩
                  have hB2316 := hB2308.trans (Ext.stp hE2313 hS2309.base)
                  have hS2317 := hS2309.ext hE2313
                  obtain ⟨hg2318, hm⟩ := hm
                  refine wl_val (g_add (a := v1897) (b := r2315) rfl rfl hg2318) rfl ?_
                  refine wl_val (g_assign (v := .int .i64 (v1897 + r2315)) rfl) rfl ?_
                  refine wl_nil ?_
                  refine hK1910 _ _ ?_
                  refine w_region ?_
                  refine wl_val (g_move (v := .int .i64 v1898) rfl) rfl ?_
                  obtain ⟨hg2319, hm⟩ := hm
                  refine wl_val (g_add (a := v1898) (b := 1) rfl rfl hg2319) rfl ?_
                  refine wl_val (g_assign (v := .int .i64 (v1898 + 1)) rfl) rfl ?_
                  refine wl_nil ?_
                  exact ⟨((v1895 + (r28[(Int.toNat v1860)]!)[(Int.toNat v1898)]!), (v1896 + (max ((r28[(Int.toNat v1860)]!)[(Int.toNat v1898)]!) (-((r28[(Int.toNat v1860)]!)[(Int.toNat v1898)]!)))), (v1897 + r2315), (v1898 + 1)), hm.2, ⟨rfl, rfl, rfl, rfl, rfl, rfl, rfl, rfl, rfl, trivial⟩, ⟨hm.1, hB2316, hS2317⟩⟩
              · replace hm := hm.2 h1909
                refine w_exit ?_
                exact ⟨(v1895, v1896, v1897), ⟨rfl, rfl, rfl, rfl, rfl, rfl, rfl, rfl, trivial⟩, ⟨hm, hB1904, hS1905⟩⟩
          · rintro ⟨v1875, v1876, v1877⟩ b_ w2320 ⟨hm, hB2321, hS2322⟩
            show Wp _ _ _ _ (upds b_ [(3, .int .i64 r16), (4, .slice a18 n19 c20), (5, .slice a29 n30 c31), (6, .slice a44 n45 c46), (7, .int .i64 v1875), (8, .int .i64 v1876), (9, .int .i64 v1877), (10, .int .i64 v1860)]) w2320
            refine w_region ?_
            refine wl_val (g_move (v := .int .i64 v1860) rfl) rfl ?_
            obtain ⟨hg2323, hm⟩ := hm
            refine wl_val (g_add (a := v1860) (b := 1) rfl rfl hg2323) rfl ?_
            refine wl_val (g_assign (v := .int .i64 (v1860 + 1)) rfl) rfl ?_
            refine wl_nil ?_
            exact ⟨(v1875, v1876, v1877, (v1860 + 1)), hm.2, ⟨rfl, rfl, rfl, rfl, rfl, rfl, rfl, rfl, trivial⟩, ⟨hm.1, hB2321, hS2322⟩⟩
        · replace hm := hm.2 h1874
          refine w_exit ?_
          have hS2324 := hS1870.f1
          have hS2325 := hS2324.tail
          have hS2326 := hS2325.f1
          have hS2327 := hS2326.tail
          exact ⟨(v1857, v1858, v1859), ⟨rfl, rfl, rfl, rfl, rfl, rfl, trivial⟩, ⟨hm, hB1869, hS2327⟩⟩
      · rintro ⟨v1852, v1853, v1854⟩ b_ w2328 ⟨hm, hB2329, hS2330⟩
        show Wp _ _ _ _ (upds b_ [(3, .int .i64 r16), (4, .slice a18 n19 c20), (6, .slice a44 n45 c46), (7, .int .i64 v1852), (8, .int .i64 v1853), (9, .int .i64 v1854)]) w2328
        refine w_seq fun K2331 hK2331 => ?_
        refine w_region ?_
        refine wl_step rfl (q_lit0 (α := Cross) rfl SL24 hS2330) ?_
        rintro _ w2332 ⟨a2333, rfl, hS2335, hE2334⟩
        have hB2337 := hB2329.trans (Ext.stp hE2334 hS2330.base)
        refine wl_val (g_move (v := .slice a18 n19 c20) rfl) rfl ?_
        obtain ⟨hg2343, hm⟩ := hm
        refine wl_step rfl (q_append SL24 rfl rfl hS2335 (oS.vw hS2335.g1) hg2343 (by decide)) ?_
        rintro _ w2338 ⟨a2339, c2340, rfl, hS2342, hb2341⟩
        have hB2344 := hB2337.trans hb2341
        refine wl_val (g_move (v := .slice a18 n19 c20) rfl) rfl ?_
        refine wl_step rfl (g_call (vs := #[.slice a18 n19 c20]) CF30 (args1 rfl) (m_spec_UndoCrosses_fn (oS.vw hS2342.g1) hm)) ?_
        rintro _ w2345 ⟨r2348, a2349, n2350, c2351, hm, rfl, hE2346, hN2347⟩
        have hS2353 := hS2342.call1 hE2346 hN2347
        have hB2354 := hB2344.trans (Ext.stp hE2346 hS2342.base)
        have hS2360 := hS2353.f1
        obtain ⟨hg2361, hm⟩ := hm
        refine wl_step rfl (q_append SL24 rfl rfl hS2360 (oS.vw hS2360.g1) hg2361 (by decide)) ?_
        rintro _ w2355 ⟨a2356, c2357, rfl, hS2359, hb2358⟩
        have hB2362 := hB2354.trans hb2358
        refine wl_val (g_assign (v := .slice a2356 ((0 + n19) + n2350) c2357) rfl) rfl ?_
        refine wl_nil ?_
        refine hK2331 _ _ ?_
        refine w_seq fun K2363 hK2363 => ?_
        refine w_region ?_
        refine wl_val (g_move (v := .int .i64 r16) rfl) rfl ?_
        refine wl_val (g_move (v := .slice a18 n19 c20) rfl) rfl ?_
        refine wl_step rfl (g_call (vs := #[.int .i64 r16, .slice a18 n19 c20]) CF31 (args2 rfl rfl) (m_spec_Reduced_fn r16 (oS.vw hS2359.g2) hm)) ?_
        rintro _ w2364 ⟨r2367, a2368, n2369, c2370, hm, rfl, hE2365, hN2366⟩
        have hS2372 := hS2359.call1 hE2365 hN2366
        have hB2373 := hB2362.trans (Ext.stp hE2365 hS2359.base)
        refine wl_val (g_assign (v := .slice a2368 n2369 c2370) rfl) rfl ?_
        refine wl_nil ?_
        refine hK2363 _ _ ?_
        refine w_seq fun K2374 hK2374 => ?_
        refine w_region ?_
        refine wl_val (g_move (v := .int .i64 v1852) rfl) rfl ?_
        refine wl_val (g_move (v := .int .i64 r16) rfl) rfl ?_
        refine wl_val (g_move (v := .slice a18 n19 c20) rfl) rfl ?_
        refine wl_step rfl (g_call (vs := #[.int .i64 r16, .slice a18 n19 c20]) CF32 (args2 rfl rfl) (m_impl_TotalTwist_fn r16 (oS.vw hS2372.g3) hm)) ?_
        rintro _ w2375 ⟨r2378, hm, rfl, hE2376⟩
        have hB2379 := hB2373.trans (Ext.stp hE2376 hS2372.base)
        have hS2380 := hS2372.ext hE2376
        refine wl_val (g_eql (a := v1852) (b := r2378) rfl rfl) rfl ?_
        refine wl_val (g_move (v := .bool (decide (v1852 = r2378))) rfl) rfl ?_
        refine wl_guard (c := (decide (v1852 = r2378)) = true) (val := .int .i64 v1853) (b := ((decide (v1852 = r2378)) == true)) (gv_some rfl rfl rfl) beq_iff_eq (fun hc2381 => ?_) ?_
        · have hcq17 : v1852 = r2378 := (decide_eq_true_iff.mp hc2381)
          exact g_move (v := .int .i64 v1853) rfl
        refine wl_guard (c := (decide (v1852 = r2378)) = true) (val := .int .i64 r16) (b := ((decide (v1852 = r2378)) == true)) (gv_some rfl rfl rfl) beq_iff_eq (fun hc2382 => ?_) ?_
        · have hcq17 : v1852 = r2378 := (decide_eq_true_iff.mp hc2382)
          exact g_move (v := .int .i64 r16) rfl
        refine wl_guard (c := (decide (v1852 = r2378)) = true) (val := .slice a18 n19 c20) (b := ((decide (v1852 = r2378)) == true)) (gv_some rfl rfl rfl) beq_iff_eq (fun hc2383 => ?_) ?_
        · have hcq17 : v1852 = r2378 := (decide_eq_true_iff.mp hc2383)
          exact g_move (v := .slice a18 n19 c20) rfl
        obtain ⟨r2385, hk2386, hm⟩ := hm
        refine wl_guardE (X := Ext) (c := (decide (v1852 = r2378)) = true) (val := .int .i64 r2385) (Ext.refl _) (b := ((decide (v1852 = r2378)) == true)) (gv_some rfl rfl rfl) beq_iff_eq (fun hc2384 => ?_) (fun w2387 hE2388 => ?_)
        · have hcq17 : v1852 = r2378 := (decide_eq_true_iff.mp hc2384)
          exact (g_call (vs := #[.int .i64 r16, .slice a18 n19 c20]) CF33 (args2 (if_pos hc2384) (if_pos hc2384)) ((m_impl_LeastUndoing_fn r16 (oS.vw hS2380.g3) (hk2386 hcq17)).mono fun _ _ ⟨_, h1, h2, h3⟩ => ⟨by rw [h2, h1], h3⟩))
        have hB2389 := hB2379.trans (Ext.stp hE2388 hS2380.base)
        have hS2390 := hS2380.ext hE2388
        refine wl_guard (c := (decide (v1852 = r2378)) = true) (val := .bool (decide (v1853 = r2385))) (b := ((decide (v1852 = r2378)) == true)) (gv_some rfl rfl rfl) beq_iff_eq (fun hc2391 => ?_) ?_
        · have hcq17 : v1852 = r2378 := (decide_eq_true_iff.mp hc2391)
          exact g_eql (a := v1853) (b := r2385) (if_pos hc2391) (if_pos hc2391)
        refine wl_val (g_pick_and (b := (decide (v1852 = r2378))) (q := (decide (v1853 = r2385))) rfl rfl) rfl ?_
        refine wl_val (g_move (v := .bool ((decide (v1852 = r2378)) && (decide (v1853 = r2385)))) rfl) rfl ?_
        refine wl_guard (c := ((decide (v1852 = r2378)) && (decide (v1853 = r2385))) = true) (val := .int .i64 v1853) (b := (((decide (v1852 = r2378)) && (decide (v1853 = r2385))) == true)) (gv_some rfl rfl rfl) beq_iff_eq (fun hc2392 => ?_) ?_
        · have hcq18 : ((v1852 = r2378) ∧ (v1853 = r2385)) := ((i_and decide_eq_true_iff decide_eq_true_iff).mp hc2392)
          exact g_move (v := .int .i64 v1853) rfl
        refine wl_guard (c := ((decide (v1852 = r2378)) && (decide (v1853 = r2385))) = true) (val := .slice a2368 n2369 c2370) (b := (((decide (v1852 = r2378)) && (decide (v1853 = r2385))) == true)) (gv_some rfl rfl rfl) beq_iff_eq (fun hc2393 => ?_) ?_
        · have hcq18 : ((v1852 = r2378) ∧ (v1853 = r2385)) := ((i_and decide_eq_true_iff decide_eq_true_iff).mp hc2393)
          exact g_move (v := .slice a2368 n2369 c2370) rfl
        refine wl_guard (c := ((decide (v1852 = r2378)) && (decide (v1853 = r2385))) = true) (val := .int .i64 (r2367.length : Int)) (b := (((decide (v1852 = r2378)) && (decide (v1853 = r2385))) == true)) (gv_some rfl rfl rfl) beq_iff_eq (fun hc2394 => ?_) ?_
        · have hcq18 : ((v1852 = r2378) ∧ (v1853 = r2385)) := ((i_and decide_eq_true_iff decide_eq_true_iff).mp hc2394)
          exact q_len SL24 (if_pos hc2394) (Vw.len (oS.vw hS2390.g0))
        refine wl_guard (c := ((decide (v1852 = r2378)) && (decide (v1853 = r2385))) = true) (val := .bool (decide (v1853 ≤ (r2367.length : Int)))) (b := (((decide (v1852 = r2378)) && (decide (v1853 = r2385))) == true)) (gv_some rfl rfl rfl) beq_iff_eq (fun hc2395 => ?_) ?_
        · have hcq18 : ((v1852 = r2378) ∧ (v1853 = r2385)) := ((i_and decide_eq_true_iff decide_eq_true_iff).mp hc2395)
          exact g_leq (a := v1853) (b := (r2367.length : Int)) (if_pos hc2395) (if_pos hc2395)
        refine wl_val (g_pick_and (b := ((decide (v1852 = r2378)) && (decide (v1853 = r2385)))) (q := (decide (v1853 ≤ (r2367.length : Int)))) rfl rfl) rfl ?_
        refine wl_val (g_move (v := .bool (((decide (v1852 = r2378)) && (decide (v1853 = r2385))) && (decide (v1853 ≤ (r2367.length : Int))))) rfl) rfl ?_
        by_cases hc2396 : (((decide (v1852 = r2378)) && (decide (v1853 = r2385))) && (decide (v1853 ≤ (r2367.length : Int)))) = true
        · replace hm := hm.1 ((i_and (i_and decide_eq_true_iff decide_eq_true_iff) decide_eq_true_iff).mp hc2396)
          refine wl_valT (g_move (v := .int .i64 r16) rfl) (gv_T (gv_some rfl rfl rfl) hc2396) ?_
          refine wl_valT (g_move (v := .slice a18 n19 c20) rfl) (gv_T (gv_some rfl rfl rfl) hc2396) ?_
          refine wl_stepT (gv_T (gv_some rfl rfl rfl) hc2396) (g_call (vs := #[.int .i64 r16, .slice a18 n19 c20]) CF34 (args2 rfl rfl) (m_impl_WoundPairs_fn r16 (oS.vw hS2390.g3) hm)) ?_
          rintro _ w2397 ⟨r2400, a2401, n2402, c2403, y2404, hm, he2405, rfl, hE2398, hN2399⟩
          have hS2409 := hS2390.call2 hE2398 hN2399
          have hB2410 := hB2389.trans (Ext.stp hE2398 hS2390.base)
          refine wl_valT (q_len SL37 rfl (Tv.len (oT.vw hS2409.g0 hS2409.g1 he2405))) (gv_T (gv_some rfl rfl rfl) hc2396) ?_
          refine wl_valT (g_move (v := .int .i64 v1854) rfl) (gv_T (gv_some rfl rfl rfl) hc2396) ?_
          refine wl_valT (g_eql (a := (r2400.length : Int)) (b := v1854) rfl rfl) (gv_T (gv_some rfl rfl rfl) hc2396) ?_
          refine wl_val (g_pickT (b := (((decide (v1852 = r2378)) && (decide (v1853 = r2385))) && (decide (v1853 ≤ (r2367.length : Int))))) rfl hc2396 rfl) rfl ?_
          refine wl_val (g_move (v := .bool (decide ((r2400.length : Int) = v1854))) rfl) rfl ?_
          refine wl_guard (c := (decide ((r2400.length : Int) = v1854)) = true) (val := .int .i64 r16) (b := ((decide ((r2400.length : Int) = v1854)) == true)) (gv_some rfl rfl rfl) beq_iff_eq (fun hc2411 => ?_) ?_
          · have hcq19 : (r2400.length : Int) = v1854 := (decide_eq_true_iff.mp hc2411)
            exact g_move (v := .int .i64 r16) rfl
          refine wl_guard (c := (decide ((r2400.length : Int) = v1854)) = true) (val := .slice a2356 ((0 + n19) + n2350) c2357) (b := ((decide ((r2400.length : Int) = v1854)) == true)) (gv_some rfl rfl rfl) beq_iff_eq (fun hc2412 => ?_) ?_
          · have hcq19 : (r2400.length : Int) = v1854 := (decide_eq_true_iff.mp hc2412)
            exact g_move (v := .slice a2356 ((0 + n19) + n2350) c2357) rfl
          obtain ⟨r2414, hk2415, hm⟩ := hm
          refine wl_guardE (X := Ext) (c := (decide ((r2400.length : Int) = v1854)) = true) (val := .bool r2414) (Ext.refl _) (b := ((decide ((r2400.length : Int) = v1854)) == true)) (gv_some rfl rfl rfl) beq_iff_eq (fun hc2413 => ?_) (fun w2416 hE2417 => ?_)
          · have hcq19 : (r2400.length : Int) = v1854 := (decide_eq_true_iff.mp hc2413)
            exact (g_call (vs := #[.int .i64 r16, .slice a2356 ((0 + n19) + n2350) c2357]) CF35 (args2 (if_pos hc2413) (if_pos hc2413)) ((m_impl_IsUntwisted_fn r16 (oS.vw hS2409.g3) (hk2415 hcq19)).mono fun _ _ ⟨_, h1, h2, h3⟩ => ⟨by rw [h2, h1], h3⟩))
          have hB2418 := hB2410.trans (Ext.stp hE2417 hS2409.base)
          have hS2419 := hS2409.ext hE2417
          refine wl_val (g_pick_and (b := (decide ((r2400.length : Int) = v1854))) (q := r2414) rfl rfl) rfl ?_
          refine wl_val (g_move (v := .bool ((decide ((r2400.length : Int) = v1854)) && r2414)) rfl) rfl ?_
          refine wl_guard (c := ((decide ((r2400.length : Int) = v1854)) && r2414) = true) (val := .int .i64 r16) (b := (((decide ((r2400.length : Int) = v1854)) && r2414) == true)) (gv_some rfl rfl rfl) beq_iff_eq (fun hc2420 => ?_) ?_
          · have hcq20 : (((r2400.length : Int) = v1854) ∧ (r2414 = true)) := ((i_and decide_eq_true_iff Iff.rfl).mp hc2420)
            exact g_move (v := .int .i64 r16) rfl
          refine wl_guard (c := ((decide ((r2400.length : Int) = v1854)) && r2414) = true) (val := .slice a18 n19 c20) (b := (((decide ((r2400.length : Int) = v1854)) && r2414) == true)) (gv_some rfl rfl rfl) beq_iff_eq (fun hc2421 => ?_) ?_
          · have hcq20 : (((r2400.length : Int) = v1854) ∧ (r2414 = true)) := ((i_and decide_eq_true_iff Iff.rfl).mp hc2421)
            exact g_move (v := .slice a18 n19 c20) rfl
          obtain ⟨r2423, hk2424, hm⟩ := hm
          refine wl_guardE (X := Ext) (c := ((decide ((r2400.length : Int) = v1854)) && r2414) = true) (val := .bool r2423) (Ext.refl _) (b := (((decide ((r2400.length : Int) = v1854)) && r2414) == true)) (gv_some rfl rfl rfl) beq_iff_eq (fun hc2422 => ?_) (fun w2425 hE2426 => ?_)
          · have hcq20 : (((r2400.length : Int) = v1854) ∧ (r2414 = true)) := ((i_and decide_eq_true_iff Iff.rfl).mp hc2422)
            exact (g_call (vs := #[.int .i64 r16, .slice a18 n19 c20]) CF35 (args2 (if_pos hc2422) (if_pos hc2422)) ((m_impl_IsUntwisted_fn r16 (oS.vw hS2419.g5) (hk2424 hcq20)).mono fun _ _ ⟨_, h1, h2, h3⟩ => ⟨by rw [h2, h1], h3⟩))
          have hB2427 := hB2418.trans (Ext.stp hE2426 hS2419.base)
          have hS2428 := hS2419.ext hE2426
          refine wl_guard (c := ((decide ((r2400.length : Int) = v1854)) && r2414) = true) (val := .int .i64 v1854) (b := (((decide ((r2400.length : Int) = v1854)) && r2414) == true)) (gv_some rfl rfl rfl) beq_iff_eq (fun hc2429 => ?_) ?_
          · have hcq20 : (((r2400.length : Int) = v1854) ∧ (r2414 = true)) := ((i_and decide_eq_true_iff Iff.rfl).mp hc2429)
            exact g_move (v := .int .i64 v1854) rfl
          refine wl_guard (c := ((decide ((r2400.length : Int) = v1854)) && r2414) = true) (val := .bool (decide (v1854 = 0))) (b := (((decide ((r2400.length : Int) = v1854)) && r2414) == true)) (gv_some rfl rfl rfl) beq_iff_eq (fun hc2430 => ?_) ?_
          · have hcq20 : (((r2400.length : Int) = v1854) ∧ (r2414 = true)) := ((i_and decide_eq_true_iff Iff.rfl).mp hc2430)
            exact g_eql (a := v1854) (b := 0) (if_pos hc2430) rfl
          refine wl_guard (c := ((decide ((r2400.length : Int) = v1854)) && r2414) = true) (val := .bool (decide (v1854 = 0))) (b := (((decide ((r2400.length : Int) = v1854)) && r2414) == true)) (gv_some rfl rfl rfl) beq_iff_eq (fun hc2431 => ?_) ?_
          · have hcq20 : (((r2400.length : Int) = v1854) ∧ (r2414 = true)) := ((i_and decide_eq_true_iff Iff.rfl).mp hc2431)
            exact g_move (v := .bool (decide (v1854 = 0))) (if_pos hc2431)
          refine wl_guard (c := (((decide ((r2400.length : Int) = v1854)) && r2414) = true) ∧ (decide (v1854 = 0)) = true) (val := .slice a44 n45 c46) (b := decide ((((decide ((r2400.length : Int) = v1854)) && r2414) = true) ∧ (decide (v1854 = 0)) = true)) (gv_gd rfl rfl rfl) decide_eq_true_iff (fun hc2432 => ?_) ?_
          · have hcq21 : ((((r2400.length : Int) = v1854) ∧ (r2414 = true))) ∧ (v1854 = 0) := ⟨((i_and decide_eq_true_iff Iff.rfl).mp (hc2432).1), decide_eq_true_iff.mp (hc2432).2⟩
            have hcq20 := (hcq21).1
            exact g_move (v := .slice a44 n45 c46) rfl
          obtain ⟨r2434, hk2435, hm⟩ := hm
          refine wl_guardE (X := Ext) (c := (((decide ((r2400.length : Int) = v1854)) && r2414) = true) ∧ (decide (v1854 = 0)) = true) (val := .int .i64 r2434) (Ext.refl _) (b := decide ((((decide ((r2400.length : Int) = v1854)) && r2414) = true) ∧ (decide (v1854 = 0)) = true)) (gv_gd rfl rfl rfl) decide_eq_true_iff (fun hc2433 => ?_) (fun w2436 hE2437 => ?_)
          · have hcq21 : ((((r2400.length : Int) = v1854) ∧ (r2414 = true))) ∧ (v1854 = 0) := ⟨((i_and decide_eq_true_iff Iff.rfl).mp (hc2433).1), decide_eq_true_iff.mp (hc2433).2⟩
            have hcq20 := (hcq21).1
            exact (g_call (vs := #[.slice a44 n45 c46]) CF36 (args1 (if_pos hc2433)) ((m_spec_CountInversions_fn (oS.vw hS2428.g6) (hk2435 hcq21)).mono fun _ _ ⟨_, h1, h2, h3⟩ => ⟨by rw [h2, h1], h3⟩))
          have hB2438 := hB2427.trans (Ext.stp hE2437 hS2428.base)
          have hS2439 := hS2428.ext hE2437
          refine wl_guard (c := (((decide ((r2400.length : Int) = v1854)) && r2414) = true) ∧ (decide (v1854 = 0)) = true) (val := .bool (decide (r2434 = 0))) (b := decide ((((decide ((r2400.length : Int) = v1854)) && r2414) = true) ∧ (decide (v1854 = 0)) = true)) (gv_gd rfl rfl rfl) decide_eq_true_iff (fun hc2440 => ?_) ?_
          · have hcq21 : ((((r2400.length : Int) = v1854) ∧ (r2414 = true))) ∧ (v1854 = 0) := ⟨((i_and decide_eq_true_iff Iff.rfl).mp (hc2440).1), decide_eq_true_iff.mp (hc2440).2⟩
            have hcq20 := (hcq21).1
            exact g_eql (a := r2434) (b := 0) (if_pos hc2440) rfl
          refine wl_guard (c := ((decide ((r2400.length : Int) = v1854)) && r2414) = true) (val := .bool ((decide (v1854 = 0)) && (decide (r2434 = 0)))) (b := (((decide ((r2400.length : Int) = v1854)) && r2414) == true)) (gv_some rfl rfl rfl) beq_iff_eq (fun hc2441 => ?_) ?_
          · have hcq20 : (((r2400.length : Int) = v1854) ∧ (r2414 = true)) := ((i_and decide_eq_true_iff Iff.rfl).mp hc2441)
            exact g_pick_and (b := (decide (v1854 = 0))) (q := (decide (r2434 = 0))) (if_pos hc2441) (gd_in hc2441)
          refine wl_guard (c := ((decide ((r2400.length : Int) = v1854)) && r2414) = true) (val := .bool (decide ((r2423) = (((decide (v1854 = 0)) && (decide (r2434 = 0))))))) (b := (((decide ((r2400.length : Int) = v1854)) && r2414) == true)) (gv_some rfl rfl rfl) beq_iff_eq (fun hc2442 => ?_) ?_
          · have hcq20 : (((r2400.length : Int) = v1854) ∧ (r2414 = true)) := ((i_and decide_eq_true_iff Iff.rfl).mp hc2442)
            exact g_eql_b (a := r2423) (b := ((decide (v1854 = 0)) && (decide (r2434 = 0)))) UB (if_pos hc2442) (if_pos hc2442)
          refine wl_val (g_pick_and (b := ((decide ((r2400.length : Int) = v1854)) && r2414)) (q := (decide ((r2423) = (((decide (v1854 = 0)) && (decide (r2434 = 0))))))) rfl rfl) rfl ?_
          refine wl_val (g_move (v := .bool (((decide ((r2400.length : Int) = v1854)) && r2414) && (decide ((r2423) = (((decide (v1854 = 0)) && (decide (r2434 = 0)))))))) rfl) rfl ?_
          refine wl_guard (c := (((decide ((r2400.length : Int) = v1854)) && r2414) && (decide ((r2423) = (((decide (v1854 = 0)) && (decide (r2434 = 0))))))) = true) (val := .int .i64 r16) (b := ((((decide ((r2400.length : Int) = v1854)) && r2414) && (decide ((r2423) = (((decide (v1854 = 0)) && (decide (r2434 = 0))))))) == true)) (gv_some rfl rfl rfl) beq_iff_eq (fun hc2443 => ?_) ?_
          · have hcq22 : (((((r2400.length : Int) = v1854) ∧ (r2414 = true))) ∧ ((r2423) = (((decide (v1854 = 0)) && (decide (r2434 = 0)))))) := ((i_and (i_and decide_eq_true_iff Iff.rfl) decide_eq_true_iff).mp hc2443)
            exact g_move (v := .int .i64 r16) rfl
          refine wl_guard (c := (((decide ((r2400.length : Int) = v1854)) && r2414) && (decide ((r2423) = (((decide (v1854 = 0)) && (decide (r2434 = 0))))))) = true) (val := .slice a2368 n2369 c2370) (b := ((((decide ((r2400.length : Int) = v1854)) && r2414) && (decide ((r2423) = (((decide (v1854 = 0)) && (decide (r2434 = 0))))))) == true)) (gv_some rfl rfl rfl) beq_iff_eq (fun hc2444 => ?_) ?_
          · have hcq22 : (((((r2400.length : Int) = v1854) ∧ (r2414 = true))) ∧ ((r2423) = (((decide (v1854 = 0)) && (decide (r2434 = 0)))))) := ((i_and (i_and decide_eq_true_iff Iff.rfl) decide_eq_true_iff).mp hc2444)
            exact g_move (v := .slice a2368 n2369 c2370) rfl
          obtain ⟨r2446, hk2447, hm⟩ := hm
          refine wl_guardE (X := Ext) (c := (((decide ((r2400.length : Int) = v1854)) && r2414) && (decide ((r2423) = (((decide (v1854 = 0)) && (decide (r2434 = 0))))))) = true) (val := .int .i64 r2446) (Ext.refl _) (b := ((((decide ((r2400.length : Int) = v1854)) && r2414) && (decide ((r2423) = (((decide (v1854 = 0)) && (decide (r2434 = 0))))))) == true)) (gv_some rfl rfl rfl) beq_iff_eq (fun hc2445 => ?_) (fun w2448 hE2449 => ?_)
          · have hcq22 : (((((r2400.length : Int) = v1854) ∧ (r2414 = true))) ∧ ((r2423) = (((decide (v1854 = 0)) && (decide (r2434 = 0)))))) := ((i_and (i_and decide_eq_true_iff Iff.rfl) decide_eq_true_iff).mp hc2445)
            exact (g_call (vs := #[.int .i64 r16, .slice a2368 n2369 c2370]) CF32 (args2 (if_pos hc2445) (if_pos hc2445)) ((m_impl_TotalTwist_fn r16 (oS.vw hS2439.g2) (hk2447 hcq22)).mono fun _ _ ⟨_, h1, h2, h3⟩ => ⟨by rw [h2, h1], h3⟩))
          have hB2450 := hB2438.trans (Ext.stp hE2449 hS2439.base)
          have hS2451 := hS2439.ext hE2449
          refine wl_guard (c := (((decide ((r2400.length : Int) = v1854)) && r2414) && (decide ((r2423) = (((decide (v1854 = 0)) && (decide (r2434 = 0))))))) = true) (val := .int .i64 v1852) (b := ((((decide ((r2400.length : Int) = v1854)) && r2414) && (decide ((r2423) = (((decide (v1854 = 0)) && (decide (r2434 = 0))))))) == true)) (gv_some rfl rfl rfl) beq_iff_eq (fun hc2452 => ?_) ?_
          · have hcq22 : (((((r2400.length : Int) = v1854) ∧ (r2414 = true))) ∧ ((r2423) = (((decide (v1854 = 0)) && (decide (r2434 = 0)))))) := ((i_and (i_and decide_eq_true_iff Iff.rfl) decide_eq_true_iff).mp hc2452)
            exact g_move (v := .int .i64 v1852) rfl
          refine wl_guard (c := (((decide ((r2400.length : Int) = v1854)) && r2414) && (decide ((r2423) = (((decide (v1854 = 0)) && (decide (r2434 = 0))))))) = true) (val := .bool (decide (r2446 = v1852))) (b := ((((decide ((r2400.length : Int) = v1854)) && r2414) && (decide ((r2423) = (((decide (v1854 = 0)) && (decide (r2434 = 0))))))) == true)) (gv_some rfl rfl rfl) beq_iff_eq (fun hc2453 => ?_) ?_
          · have hcq22 : (((((r2400.length : Int) = v1854) ∧ (r2414 = true))) ∧ ((r2423) = (((decide (v1854 = 0)) && (decide (r2434 = 0)))))) := ((i_and (i_and decide_eq_true_iff Iff.rfl) decide_eq_true_iff).mp hc2453)
            exact g_eql (a := r2446) (b := v1852) (if_pos hc2453) (if_pos hc2453)
          refine wl_val (g_pick_and (b := (((decide ((r2400.length : Int) = v1854)) && r2414) && (decide ((r2423) = (((decide (v1854 = 0)) && (decide (r2434 = 0)))))))) (q := (decide (r2446 = v1852))) rfl rfl) rfl ?_
          refine wl_val (g_assign (v := .bool ((((decide ((r2400.length : Int) = v1854)) && r2414) && (decide ((r2423) = (((decide (v1854 = 0)) && (decide (r2434 = 0))))))) && (decide (r2446 = v1852)))) rfl) rfl ?_
          refine wl_nil ?_
          refine hK2374 _ _ ?_
          refine w_ret ?_
          repeat first | with_reducible refine q_then ?_ | with_reducible refine q_block ?_
          exact ret1 rfl (by decide) ⟨_, hm, rfl, toExt hB2450⟩
        · have hc2396n := b_F hc2396
          replace hm := hm.2 (i_neg (i_and (i_and decide_eq_true_iff decide_eq_true_iff) decide_eq_true_iff) hc2396n)
          refine wl_skipF (gv_F (gv_some rfl rfl rfl) hc2396n) ?_
          refine wl_skipF (gv_F (gv_some rfl rfl rfl) hc2396n) ?_
          refine wl_skipF (gv_F (gv_some rfl rfl rfl) hc2396n) ?_
          refine wl_skipF (gv_F (gv_some rfl rfl rfl) hc2396n) ?_
          refine wl_skipF (gv_F (gv_some rfl rfl rfl) hc2396n) ?_
          refine wl_skipF (gv_F (gv_some rfl rfl rfl) hc2396n) ?_
          refine wl_val (g_pickF (b := (((decide (v1852 = r2378)) && (decide (v1853 = r2385))) && (decide (v1853 ≤ (r2367.length : Int))))) rfl hc2396n rfl) rfl ?_
          refine wl_val (g_move (v := .bool false) rfl) rfl ?_
          refine wl_skipF (gv_F (gv_some rfl rfl rfl) rfl) ?_
          refine wl_skipF (gv_F (gv_some rfl rfl rfl) rfl) ?_
          refine wl_skipF (gv_F (gv_some rfl rfl rfl) rfl) ?_
          refine wl_val (g_pickF (b := false) rfl rfl rfl) rfl ?_
          refine wl_val (g_move (v := .bool false) rfl) rfl ?_
          refine wl_skipF (gv_F (gv_some rfl rfl rfl) rfl) ?_
          refine wl_skipF (gv_F (gv_some rfl rfl rfl) rfl) ?_
          refine wl_skipF (gv_F (gv_some rfl rfl rfl) rfl) ?_
          refine wl_skipF (gv_F (gv_some rfl rfl rfl) rfl) ?_
          refine wl_skipF (gv_F (gv_some rfl rfl rfl) rfl) ?_
          refine wl_skipF (gv_F (gv_some rfl rfl rfl) rfl) ?_
          refine wl_skipF (gv_U rfl rfl rfl) ?_
          refine wl_skipF (gv_U rfl rfl rfl) ?_
          refine wl_skipF (gv_U rfl rfl rfl) ?_
          refine wl_skipF (gv_F (gv_some rfl rfl rfl) rfl) ?_
          refine wl_skipF (gv_F (gv_some rfl rfl rfl) rfl) ?_
          refine wl_val (g_pickF (b := false) rfl rfl rfl) rfl ?_
          refine wl_val (g_move (v := .bool false) rfl) rfl ?_
          refine wl_skipF (gv_F (gv_some rfl rfl rfl) rfl) ?_
          refine wl_skipF (gv_F (gv_some rfl rfl rfl) rfl) ?_
          refine wl_skipF (gv_F (gv_some rfl rfl rfl) rfl) ?_
          refine wl_skipF (gv_F (gv_some rfl rfl rfl) rfl) ?_
          refine wl_skipF (gv_F (gv_some rfl rfl rfl) rfl) ?_
          refine wl_val (g_pickF (b := false) rfl rfl rfl) rfl ?_
          refine wl_val (g_assign (v := .bool false) rfl) rfl ?_
          refine wl_nil ?_
          refine hK2374 _ _ ?_
          refine w_ret ?_
          repeat first | with_reducible refine q_then ?_ | with_reducible refine q_block ?_
          exact ret1 rfl (by decide) ⟨_, hm, rfl, toExt hB2389⟩

end Go.Proofs.Ytcgkcoogaieolaa
