/- The walks: the code does what its model says. Printed by a program (gen2.py). No statement of the claim stands here. -/
import Derived.Test.YtebfcpninegcgaaScop
import Derived.Test.YtebfcpninegcgaaSop
import Derived.Test.YtebfcpninegcgaaFacts
import Derived.Test.YtebfcpninegcgaaMH
namespace Go.Proofs.Ytebfcpninegcgaa
open Go Go.RowKit
set_option maxRecDepth 100000
theorem m_laws_szStayS_fn {w : World} {a0 : Option Addr} {n0 c0 : Nat} {p0 : List Stay} {Q : Int → Prop} (hp0 : Vw w.heap.size w a0 n0 c0 p0) (p1 : Int) (hm : m_laws_szStayS p0 p1 Q) :
    Fn Try.prog 5 #[.slice a0 n0 c0, .int .i64 p1] w (fun v w' => ∃ (r0 : Int), Q r0 ∧ v = .int .i64 r0 ∧ Ext w w') := by
  unfold m_laws_szStayS at hm
  have hB0 := Below.refl w.heap.size w
  have hS0 : Sep w w.heap.size [] := Sep.nil (Nat.le_refl _)
  refine fn_of_wp Try.func5 rfl (by kernel_rfl) (Nat.le_of_ble_eq_true rfl) ?_
  refine w_seq fun K1 hK1 => ?_
  refine w_region ?_
  refine wl_val (g_assign (v := .int .i64 0) rfl) rfl ?_
  refine wl_nil ?_
  refine hK1 _ _ ?_
  refine w_seq fun K2 hK2 => ?_
  refine w_region ?_
  refine wl_val (g_move (v := .int .i64 p1) rfl) rfl ?_
  refine wl_val (g_move (v := .slice a0 n0 c0) rfl) rfl ?_
  refine wl_val (q_len SL22 rfl (Vw.len (hp0.bel hB0))) rfl ?_
  obtain ⟨hg3, hm⟩ := hm
  refine wl_val (g_sub (a := p1) (b := (p0.length : Int)) rfl rfl hg3) rfl ?_
  refine wl_val (g_assign (v := .int .i64 (p1 - (p0.length : Int))) rfl) rfl ?_
  refine wl_nil ?_
  refine hK2 _ _ ?_
  refine w_seq fun K4 hK4 => ?_
  refine w_seq fun K5 hK5 => ?_
  refine w_region ?_
  refine wl_val (g_move (v := .int .i64 (p1 - (p0.length : Int))) rfl) rfl ?_
  refine wl_val (g_lss (a := (p1 - (p0.length : Int))) (b := 0) rfl rfl) rfl ?_
  refine wl_nil ?_
  refine hK5 _ _ ?_
  refine w_condI (p := (p1 - (p0.length : Int)) < 0) (b := (decide ((p1 - (p0.length : Int)) < 0))) rfl decide_eq_true_iff (fun h6 => ?_) (fun h6 => ?_)
  · replace hm := hm.1 h6
    refine w_seq fun K7 hK7 => ?_
    refine w_region ?_
    refine wl_val (g_assign (v := .int .i64 (-1)) rfl) rfl ?_
    refine wl_nil ?_
    refine hK7 _ _ ?_
    refine w_ret ?_
    repeat first | with_reducible refine q_then ?_ | with_reducible refine q_block ?_
    exact ret1 rfl (by decide) ⟨_, hm, rfl, toExt hB0⟩
  · replace hm := hm.2 h6
    refine w_skip ?_
    refine hK4 _ _ ?_
    refine w_seq fun K8 hK8 => ?_
    refine w_region ?_
    refine wl_val (g_move (v := .int .i64 (p1 - (p0.length : Int))) rfl) rfl ?_
    refine wl_val (g_assign (v := .int .i64 (p1 - (p0.length : Int))) rfl) rfl ?_
    refine wl_nil ?_
    refine hK8 _ _ ?_
    refine w_ret ?_
    repeat first | with_reducible refine q_then ?_ | with_reducible refine q_block ?_
    exact ret1 rfl (by decide) ⟨_, hm, rfl, toExt hB0⟩

theorem m_laws_toStay_fn {w : World}  {Q : Stay → Prop} (p0 : Stay) (hm : m_laws_toStay p0 Q) :
    Fn Try.prog 21 #[.agg #[.int .i64 p0.1, .int .i64 p0.2.1, .int .i64 p0.2.2]] w (fun v w' => ∃ (r0 : Stay), Q r0 ∧ v = .agg #[.int .i64 r0.1, .int .i64 r0.2.1, .int .i64 r0.2.2] ∧ Ext w w') := by
  unfold m_laws_toStay at hm
  have hB0 := Below.refl w.heap.size w
  have hS0 : Sep w w.heap.size [] := Sep.nil (Nat.le_refl _)
  refine fn_of_wp Try.func21 rfl (by kernel_rfl) (Nat.le_of_ble_eq_true rfl) ?_
  refine w_seq fun K1 hK1 => ?_
  refine w_region ?_
  refine wl_step rfl (q_box (cs := #[.int .i64 p0.1, .int .i64 p0.2.1, .int .i64 p0.2.2]) rfl rfl hS0) ?_
  rintro _ w2 ⟨g3, rfl, hS5, hE4⟩
  have hB7 := hB0.trans (Ext.stp hE4 hS0.base)
  refine wl_step rfl (q_alloc (cs := #[.int .i64 0, .int .i64 0, .int .i64 0]) ZR39 rfl hS5) ?_
  rintro _ w8 ⟨g9, rfl, hS11, hE10⟩
  have hB13 := hB7.trans (Ext.stp hE10 hS5.base)
  refine wl_nil ?_
  refine hK1 _ _ ?_
  refine w_seq fun K14 hK14 => ?_
  refine w_region ?_
  refine wl_step rfl (q_alloc (cs := #[.int .i64 0, .int .i64 0, .int .i64 0]) ZR39 rfl hS11) ?_
  rintro _ w15 ⟨g16, rfl, hS18, hE17⟩
  have hB20 := hB13.trans (Ext.stp hE17 hS11.base)
  refine wl_nil ?_
  refine hK14 _ _ ?_
  refine w_seq fun K21 hK21 => ?_
  refine w_region ?_
  refine wl_val (g_fieldAddr (q := (⟨g3, 0, none⟩ : Addr)) FL43_0 ON3 rfl) rfl ?_
  refine wl_val (q_loadB (i := 0) (bs := #[.int .i64 p0.1, .int .i64 p0.2.1, .int .i64 p0.2.2]) hS18.g2 ON3 rfl rfl) rfl ?_
  refine wl_val (g_fieldAddr (q := (⟨g16, 0, none⟩ : Addr)) FL39_0 ON3 rfl) rfl ?_
  refine wl_step rfl (q_storeB (i := 0) (bs' := #[.int .i64 p0.1, .int .i64 0, .int .i64 0]) (vs := [.int .i64 p0.1]) hS18 ON3.sz rfl rfl rfl (by simp [Value.oneCell']) (Nat.le_of_ble_eq_true rfl) rfl) ?_
  rintro _ w22 ⟨rfl, hS23, hb24⟩
  have hB25 := hB20.trans hb24
  refine wl_nil ?_
  refine hK21 _ _ ?_
  refine w_seq fun K26 hK26 => ?_
  refine w_region ?_
  refine wl_val (g_fieldAddr (q := (⟨g3, 0, none⟩ : Addr)) FL43_1 ON3 rfl) rfl ?_
  refine wl_val (q_loadB (i := 1) (bs := #[.int .i64 p0.1, .int .i64 p0.2.1, .int .i64 p0.2.2]) hS23.g2 ON3 rfl rfl) rfl ?_
  refine wl_val (g_fieldAddr (q := (⟨g16, 0, none⟩ : Addr)) FL39_1 ON3 rfl) rfl ?_
  refine wl_step rfl (q_storeB (i := 1) (bs' := #[.int .i64 p0.1, .int .i64 p0.2.1, .int .i64 0]) (vs := [.int .i64 p0.2.1]) hS23 ON3.sz rfl rfl rfl (by simp [Value.oneCell']) (Nat.le_of_ble_eq_true rfl) rfl) ?_
  rintro _ w27 ⟨rfl, hS28, hb29⟩
  have hB30 := hB25.trans hb29
  refine wl_nil ?_
  refine hK26 _ _ ?_
  refine w_seq fun K31 hK31 => ?_
  refine w_region ?_
  refine wl_val (g_fieldAddr (q := (⟨g3, 0, none⟩ : Addr)) FL43_2 ON3 rfl) rfl ?_
  refine wl_val (q_loadB (i := 2) (bs := #[.int .i64 p0.1, .int .i64 p0.2.1, .int .i64 p0.2.2]) hS28.g2 ON3 rfl rfl) rfl ?_
  refine wl_val (g_fieldAddr (q := (⟨g16, 0, none⟩ : Addr)) FL39_2 ON3 rfl) rfl ?_
  refine wl_step rfl (q_storeB (i := 2) (bs' := #[.int .i64 p0.1, .int .i64 p0.2.1, .int .i64 p0.2.2]) (vs := [.int .i64 p0.2.2]) hS28 ON3.sz rfl rfl rfl (by simp [Value.oneCell']) (Nat.le_of_ble_eq_true rfl) rfl) ?_
  rintro _ w32 ⟨rfl, hS33, hb34⟩
  have hB35 := hB30.trans hb34
  refine wl_nil ?_
  refine hK31 _ _ ?_
  refine w_seq fun K36 hK36 => ?_
  refine w_region ?_
  refine wl_val (q_loadBS (bs := #[.int .i64 p0.1, .int .i64 p0.2.1, .int .i64 p0.2.2]) hS33.g0 AG39 rfl) rfl ?_
  have hS40 := hS33.f1
  refine wl_step rfl (q_storeB (i := 0) (bs' := #[.int .i64 p0.1, .int .i64 p0.2.1, .int .i64 p0.2.2]) (vs := [.int .i64 p0.1, .int .i64 p0.2.1, .int .i64 p0.2.2]) hS40 AG39.sz rfl rfl rfl (by simp [Value.oneCell']) (Nat.le_of_ble_eq_true rfl) rfl) ?_
  rintro _ w37 ⟨rfl, hS38, hb39⟩
  have hB41 := hB35.trans hb39
  refine wl_nil ?_
  refine hK36 _ _ ?_
  refine w_ret ?_
  repeat first | with_reducible refine q_then ?_ | with_reducible refine q_block ?_
  exact ret_cell (q := ⟨g9, 0, none⟩) (cs := [.int .i64 p0.1, .int .i64 p0.2.1, .int .i64 p0.2.2]) rfl (by decide) rfl AG39 (Blk.all hS38.g0 rfl) ⟨_, hm, rfl, toExt hB41⟩

theorem m_laws_toStayS_fn {w : World} {a0 : Option Addr} {n0 c0 : Nat} {p0 : List Stay} {Q : (List Stay) → Prop} (hp0 : Vw w.heap.size w a0 n0 c0 p0) (hm : m_laws_toStayS p0 Q) :
    Fn Try.prog 7 #[.slice a0 n0 c0] w (fun v w' => ∃ (r0 : List Stay) (a0 : Option Addr) (n0 c0 : Nat), Q r0 ∧ v = .slice a0 n0 c0 ∧ Ext w w' ∧ Sep w' w.heap.size [oS 39 a0 n0 c0 r0]) := by
  unfold m_laws_toStayS at hm
  have hB0 := Below.refl w.heap.size w
  have hS0 : Sep w w.heap.size [] := Sep.nil (Nat.le_refl _)
  refine fn_of_wp Try.func7 rfl (by kernel_rfl) (Nat.le_of_ble_eq_true rfl) ?_
  refine w_seq fun K1 hK1 => ?_
  refine w_region ?_
  refine wl_val (g_assign (v := .slice none 0 0) rfl) rfl ?_
  refine wl_nil ?_
  refine hK1 _ _ ?_
  refine w_seq fun K2 hK2 => ?_
  refine w_region ?_
  refine wl_val (g_move (v := .slice a0 n0 c0) rfl) rfl ?_
  refine wl_val (q_len SL22 rfl (Vw.len (hp0.bel hB0))) rfl ?_
  obtain ⟨hg3, hm⟩ := hm
  refine wl_step rfl (q_make (y := ((0, 0, 0) : Stay)) SL26 rfl rfl hg3.1 hg3.2 (by decide) hS0) ?_
  rintro _ w4 ⟨a5, rfl, hS7, hE6⟩
  have hB9 := hB0.trans (Ext.stp hE6 hS0.base)
  refine wl_val (g_assign (v := .slice a5 (Int.toNat (p0.length : Int)) (Int.toNat (p0.length : Int))) rfl) rfl ?_
  refine wl_nil ?_
  refine hK2 _ _ ?_
  refine w_cut (σ := List Stay) (fun x64 => [(3, .slice a5 (Int.toNat (p0.length : Int)) (Int.toNat (p0.length : Int)))]) (fun x64 w' => m_laws_toStayS_K0 Q x64 ∧ Below w.heap.size w w' ∧ Sep w' w.heap.size [oS 39 a5 (Int.toNat (p0.length : Int)) (Int.toNat (p0.length : Int)) (x64 : List Stay)]) ?_ ?_
  · refine w_seq fun K66 hK66 => ?_
    refine w_region ?_
    refine wl_val (g_assign (v := .int .i64 0) rfl) rfl ?_
    refine wl_nil ?_
    refine hK66 _ _ ?_
    refine w_block ?_
    obtain ⟨I69, μ70, h071, hr72⟩ := hm
    refine w_for (σ := List Stay × Int) (fun ⟨x67, v68⟩ => [(0, .slice a0 n0 c0), (3, .slice a5 (Int.toNat (p0.length : Int)) (Int.toNat (p0.length : Int))), (4, .int .i64 v68)]) (fun ⟨x67, v68⟩ w' => I69 x67 v68 ∧ Below w.heap.size w w' ∧ Sep w' w.heap.size [oS 39 a5 (Int.toNat (p0.length : Int)) (Int.toNat (p0.length : Int)) (x67 : List Stay)]) (fun ⟨x67, v68⟩ => μ70 x67 v68) (List.replicate (Int.toNat (p0.length : Int)) ((0, 0, 0) : Stay), 0) ⟨rfl, rfl, rfl, trivial⟩ ⟨h071, hB9, hS7⟩ ?_
    rintro ⟨x67, v68⟩ b_ w73 ⟨hi_, hB74, hS75⟩
    show Wp _ _ _ _ (upds b_ [(0, .slice a0 n0 c0), (3, .slice a5 (Int.toNat (p0.length : Int)) (Int.toNat (p0.length : Int))), (4, .int .i64 v68)]) w73
    have hm := hr72 x67 v68 hi_
    refine w_seq fun K77 hK77 => ?_
    refine w_seq fun K78 hK78 => ?_
    refine w_region ?_
    refine wl_val (g_move (v := .int .i64 v68) rfl) rfl ?_
    refine wl_val (g_move (v := .slice a0 n0 c0) rfl) rfl ?_
    refine wl_val (q_len SL22 rfl (Vw.len (hp0.bel hB74))) rfl ?_
    refine wl_val (g_lss (a := v68) (b := (p0.length : Int)) rfl rfl) rfl ?_
    refine wl_nil ?_
    refine hK78 _ _ ?_
    refine w_condI (p := v68 < (p0.length : Int)) (b := (decide (v68 < (p0.length : Int)))) rfl decide_eq_true_iff (fun h79 => ?_) (fun h79 => ?_)
    · replace hm := hm.1 h79
      refine w_skip ?_
      refine hK77 _ _ ?_
      refine w_seq fun K80 hK80 => ?_
      refine w_block ?_
      refine w_region ?_
      refine wl_val (g_move (v := .slice a5 (Int.toNat (p0.length : Int)) (Int.toNat (p0.length : Int))) rfl) rfl ?_
      refine wl_val (g_move (v := .int .i64 v68) rfl) rfl ?_
      refine wl_val (g_move (v := .slice a0 n0 c0) rfl) rfl ?_
      refine wl_val (g_move (v := .int .i64 v68) rfl) rfl ?_
      obtain ⟨hg81, hm⟩ := hm
      refine wl_val (q_index (i := v68) SL22 rfl rfl (hp0.bel hB74) hg81) rfl ?_
      refine wl_val (q_loadS (i := v68) (cs := [.int .i64 (p0[(Int.toNat v68)]!.1), .int .i64 (p0[(Int.toNat v68)]!.2.1), .int .i64 (p0[(Int.toNat v68)]!.2.2)]) AG43 (hp0.bel hB74) hg81 rfl rfl) rfl ?_
      refine wl_step rfl (g_call (vs := #[.agg #[.int .i64 (p0[(Int.toNat v68)]!.1), .int .i64 (p0[(Int.toNat v68)]!.2.1), .int .i64 (p0[(Int.toNat v68)]!.2.2)]]) CF21 (args1 rfl) (m_laws_toStay_fn (p0[(Int.toNat v68)]!) hm)) ?_
      rintro _ w82 ⟨r85, hm, rfl, hE83⟩
      have hB86 := hB74.trans (Ext.stp hE83 hS75.base)
      have hS87 := hS75.ext hE83
      obtain ⟨hg88, hm⟩ := hm
      refine wl_val (q_index (i := v68) SL26 rfl rfl (oS.vw hS87.g0) hg88) rfl ?_
      refine wl_step rfl (q_store (i := v68) (v := (r85 : Stay)) hS87 AG39.sz hg88 rfl rfl rfl) ?_
      rintro _ w89 ⟨rfl, hS90, hb91⟩
      have hB92 := hB86.trans hb91
      refine wl_nil ?_
      refine hK80 _ _ ?_
      refine w_region ?_
      refine wl_val (g_move (v := .int .i64 v68) rfl) rfl ?_
      obtain ⟨hg93, hm⟩ := hm
      refine wl_val (g_add (a := v68) (b := 1) rfl rfl hg93) rfl ?_
      refine wl_val (g_assign (v := .int .i64 (v68 + 1)) rfl) rfl ?_
      refine wl_nil ?_
      exact ⟨((x67.set (Int.toNat v68) r85), (v68 + 1)), hm.2, ⟨rfl, rfl, rfl, trivial⟩, ⟨hm.1, hB92, hS90⟩⟩
    · replace hm := hm.2 h79
      refine w_exit ?_
      exact ⟨(x67), ⟨rfl, trivial⟩, ⟨hm, hB74, hS75⟩⟩
  · rintro x64 b_ w94 ⟨hm, hB95, hS96⟩
    show Wp _ _ _ _ (upds b_ [(3, .slice a5 (Int.toNat (p0.length : Int)) (Int.toNat (p0.length : Int)))]) w94
    refine w_seq fun K97 hK97 => ?_
    refine w_region ?_
    refine wl_val (g_move (v := .slice a5 (Int.toNat (p0.length : Int)) (Int.toNat (p0.length : Int))) rfl) rfl ?_
    refine wl_val (g_assign (v := .slice a5 (Int.toNat (p0.length : Int)) (Int.toNat (p0.length : Int))) rfl) rfl ?_
    refine wl_nil ?_
    refine hK97 _ _ ?_
    refine w_ret ?_
    repeat first | with_reducible refine q_then ?_ | with_reducible refine q_block ?_
    exact ret1 rfl (by decide) ⟨_, _, _, _, hm, rfl, toExt hB95, hS96⟩

theorem m_spec_l01In_fn {w : World}  {Q : Bool → Prop} (p0 : Int) (p1 : Int) (p2 : Int) (hm : m_spec_l01In p0 p1 p2 Q) :
    Fn Try.prog 30 #[.int .i64 p0, .int .i64 p1, .int .i64 p2] w (fun v w' => ∃ (r0 : Bool), Q r0 ∧ v = .bool r0 ∧ Ext w w') := by
  unfold m_spec_l01In at hm
  have hB0 := Below.refl w.heap.size w
  have hS0 : Sep w w.heap.size [] := Sep.nil (Nat.le_refl _)
  refine fn_of_wp Try.func30 rfl (by kernel_rfl) (Nat.le_of_ble_eq_true rfl) ?_
  refine w_seq fun K1 hK1 => ?_
  refine w_region ?_
  refine wl_val (g_assign (v := .bool false) rfl) rfl ?_
  refine wl_nil ?_
  refine hK1 _ _ ?_
  refine w_seq fun K2 hK2 => ?_
  refine w_region ?_
  refine wl_val (g_move (v := .int .i64 p0) rfl) rfl ?_
  refine wl_val (g_move (v := .int .i64 p1) rfl) rfl ?_
  refine wl_val (g_geq (a := p0) (b := p1) rfl rfl) rfl ?_
  refine wl_val (g_move (v := .bool (decide (p0 ≥ p1))) rfl) rfl ?_
  refine wl_guard (c := (decide (p0 ≥ p1)) = true) (val := .int .i64 p0) (b := ((decide (p0 ≥ p1)) == true)) (gv_some rfl rfl rfl) beq_iff_eq (fun hc3 => ?_) ?_
  · have hcq0 : p0 ≥ p1 := (decide_eq_true_iff.mp hc3)
    exact g_move (v := .int .i64 p0) rfl
  refine wl_guard (c := (decide (p0 ≥ p1)) = true) (val := .int .i64 p2) (b := ((decide (p0 ≥ p1)) == true)) (gv_some rfl rfl rfl) beq_iff_eq (fun hc4 => ?_) ?_
  · have hcq0 : p0 ≥ p1 := (decide_eq_true_iff.mp hc4)
    exact g_move (v := .int .i64 p2) rfl
  refine wl_guard (c := (decide (p0 ≥ p1)) = true) (val := .bool (decide (p0 ≤ p2))) (b := ((decide (p0 ≥ p1)) == true)) (gv_some rfl rfl rfl) beq_iff_eq (fun hc5 => ?_) ?_
  · have hcq0 : p0 ≥ p1 := (decide_eq_true_iff.mp hc5)
    exact g_leq (a := p0) (b := p2) (if_pos hc5) (if_pos hc5)
  refine wl_val (g_pick_and (b := (decide (p0 ≥ p1))) (q := (decide (p0 ≤ p2))) rfl rfl) rfl ?_
  refine wl_val (g_assign (v := .bool ((decide (p0 ≥ p1)) && (decide (p0 ≤ p2)))) rfl) rfl ?_
  refine wl_nil ?_
  refine hK2 _ _ ?_
  refine w_ret ?_
  repeat first | with_reducible refine q_then ?_ | with_reducible refine q_block ?_
  exact ret1 rfl (by decide) ⟨_, hm, rfl, toExt hB0⟩

theorem m_spec_StaysOk_fn {w : World} {a0 : Option Addr} {n0 c0 : Nat} {p0 : List Stay} {Q : Bool → Prop} (hp0 : Vw w.heap.size w a0 n0 c0 p0) (hm : m_spec_StaysOk p0 Q) :
    Fn Try.prog 20 #[.slice a0 n0 c0] w (fun v w' => ∃ (r0 : Bool), Q r0 ∧ v = .bool r0 ∧ Ext w w') := by
  unfold m_spec_StaysOk at hm
  have hB0 := Below.refl w.heap.size w
  have hS0 : Sep w w.heap.size [] := Sep.nil (Nat.le_refl _)
  refine fn_of_wp Try.func20 rfl (by kernel_rfl) (Nat.le_of_ble_eq_true rfl) ?_
  refine w_seq fun K1 hK1 => ?_
  refine w_region ?_
  refine wl_val (g_assign (v := .bool false) rfl) rfl ?_
  refine wl_nil ?_
  refine hK1 _ _ ?_
  refine w_cut (σ := Unit) (fun _ => [(0, .slice a0 n0 c0)]) (fun _ w' => m_spec_StaysOk_K0 p0 Q ∧ Below w.heap.size w w' ∧ Sep w' w.heap.size []) ?_ ?_
  · refine w_seq fun K3 hK3 => ?_
    refine w_region ?_
    refine wl_val (g_assign (v := .int .i64 0) rfl) rfl ?_
    refine wl_nil ?_
    refine hK3 _ _ ?_
    refine w_block ?_
    obtain ⟨I63, μ64, h065, hr66⟩ := hm
    refine w_for (σ := Int) (fun v62 => [(0, .slice a0 n0 c0), (3, .int .i64 v62)]) (fun v62 w' => I63 v62 ∧ Below w.heap.size w w' ∧ Sep w' w.heap.size []) (fun v62 => μ64 v62) (0) ⟨rfl, rfl, trivial⟩ ⟨h065, hB0, hS0⟩ ?_
    rintro v62 b_ w67 ⟨hi_, hB68, hS69⟩
    show Wp _ _ _ _ (upds b_ [(0, .slice a0 n0 c0), (3, .int .i64 v62)]) w67
    have hm := hr66 v62 hi_
    refine w_seq fun K71 hK71 => ?_
    refine w_seq fun K72 hK72 => ?_
    refine w_region ?_
    refine wl_val (g_move (v := .int .i64 v62) rfl) rfl ?_
    refine wl_val (g_move (v := .slice a0 n0 c0) rfl) rfl ?_
    refine wl_val (q_len SL26 rfl (Vw.len (hp0.bel hB68))) rfl ?_
    refine wl_val (g_lss (a := v62) (b := (p0.length : Int)) rfl rfl) rfl ?_
    refine wl_nil ?_
    refine hK72 _ _ ?_
    refine w_condI (p := v62 < (p0.length : Int)) (b := (decide (v62 < (p0.length : Int)))) rfl decide_eq_true_iff (fun h73 => ?_) (fun h73 => ?_)
    · replace hm := hm.1 h73
      refine w_skip ?_
      refine hK71 _ _ ?_
      refine w_seq fun K74 hK74 => ?_
      refine w_block ?_
      refine w_seq fun K75 hK75 => ?_
      refine w_region ?_
      refine wl_val (g_move (v := .slice a0 n0 c0) rfl) rfl ?_
      refine wl_val (g_move (v := .int .i64 v62) rfl) rfl ?_
      obtain ⟨hg76, hm⟩ := hm
      refine wl_val (q_index (i := v62) SL26 rfl rfl (hp0.bel hB68) hg76) rfl ?_
      refine wl_val (q_loadS (i := v62) (cs := [.int .i64 (p0[(Int.toNat v62)]!.1), .int .i64 (p0[(Int.toNat v62)]!.2.1), .int .i64 (p0[(Int.toNat v62)]!.2.2)]) AG39 (hp0.bel hB68) hg76 rfl rfl) rfl ?_
      refine wl_step rfl (q_alloc (cs := #[.int .i64 0, .int .i64 0, .int .i64 0]) ZR39 rfl hS69) ?_
      rintro _ w77 ⟨g78, rfl, hS80, hE79⟩
      have hB82 := hB68.trans (Ext.stp hE79 hS69.base)
      refine wl_step rfl (q_storeB (i := 0) (bs' := #[.int .i64 (p0[(Int.toNat v62)]!.1), .int .i64 (p0[(Int.toNat v62)]!.2.1), .int .i64 (p0[(Int.toNat v62)]!.2.2)]) (vs := [.int .i64 (p0[(Int.toNat v62)]!.1), .int .i64 (p0[(Int.toNat v62)]!.2.1), .int .i64 (p0[(Int.toNat v62)]!.2.2)]) hS80 AG39.sz rfl rfl rfl (by simp [Value.oneCell']) (Nat.le_of_ble_eq_true rfl) rfl) ?_
      rintro _ w83 ⟨rfl, hS84, hb85⟩
      have hB86 := hB82.trans hb85
      refine wl_nil ?_
      refine hK75 _ _ ?_
      refine w_seq fun K87 hK87 => ?_
      refine w_region ?_
      refine wl_val (g_fieldAddr (q := (⟨g78, 0, none⟩ : Addr)) FL39_0 ON3 rfl) rfl ?_
      refine wl_val (q_loadB (i := 0) (bs := #[.int .i64 (p0[(Int.toNat v62)]!.1), .int .i64 (p0[(Int.toNat v62)]!.2.1), .int .i64 (p0[(Int.toNat v62)]!.2.2)]) hS84.g0 ON3 rfl rfl) rfl ?_
      refine wl_step rfl (g_call (vs := #[.int .i64 (p0[(Int.toNat v62)]!.1), .int .i64 0, .int .i64 6]) CF30 (args3 rfl rfl rfl) (m_spec_l01In_fn (p0[(Int.toNat v62)]!.1) 0 6 hm)) ?_
      rintro _ w88 ⟨r91, hm, rfl, hE89⟩
      have hB92 := hB86.trans (Ext.stp hE89 hS84.base)
      have hS93 := hS84.ext hE89
      refine wl_val (g_not (a := r91) rfl) rfl ?_
      refine wl_val (g_move (v := .bool (!r91)) rfl) rfl ?_
      refine wl_guard (c := (!r91) = false) (val := .pointer (some (((⟨g78, 0, none⟩ : Addr)).add 2))) (b := ((!r91) == false)) (gv_some rfl rfl rfl) beq_iff_eq (fun hc94 => ?_) ?_
      · have hcq2 : ¬ (¬ (r91 = true)) := (i_neg (i_not Iff.rfl) hc94)
        exact g_fieldAddr (q := (⟨g78, 0, none⟩ : Addr)) FL39_2 ON3 rfl
      refine wl_guard (c := (!r91) = false) (val := .int .i64 (p0[(Int.toNat v62)]!.2.2)) (b := ((!r91) == false)) (gv_some rfl rfl rfl) beq_iff_eq (fun hc95 => ?_) ?_
      · have hcq2 : ¬ (¬ (r91 = true)) := (i_neg (i_not Iff.rfl) hc95)
        exact q_loadB (i := 2) (bs := #[.int .i64 (p0[(Int.toNat v62)]!.1), .int .i64 (p0[(Int.toNat v62)]!.2.1), .int .i64 (p0[(Int.toNat v62)]!.2.2)]) hS93.g0 ON3 (if_pos hc95) rfl
      obtain ⟨r97, hk98, hm⟩ := hm
      refine wl_guardE (X := Ext) (c := (!r91) = false) (val := .bool r97) (Ext.refl _) (b := ((!r91) == false)) (gv_some rfl rfl rfl) beq_iff_eq (fun hc96 => ?_) (fun w99 hE100 => ?_)
      · have hcq2 : ¬ (¬ (r91 = true)) := (i_neg (i_not Iff.rfl) hc96)
        exact (g_call (vs := #[.int .i64 (p0[(Int.toNat v62)]!.2.2), .int .i64 1, .int .i64 1000]) CF30 (args3 (if_pos hc96) rfl rfl) ((m_spec_l01In_fn (p0[(Int.toNat v62)]!.2.2) 1 1000 (hk98 hcq2)).mono fun _ _ ⟨_, h1, h2, h3⟩ => ⟨by rw [h2, h1], h3⟩))
      have hB101 := hB92.trans (Ext.stp hE100 hS93.base)
      have hS102 := hS93.ext hE100
      refine wl_guard (c := (!r91) = false) (val := .bool (!r97)) (b := ((!r91) == false)) (gv_some rfl rfl rfl) beq_iff_eq (fun hc103 => ?_) ?_
      · have hcq2 : ¬ (¬ (r91 = true)) := (i_neg (i_not Iff.rfl) hc103)
        exact g_not (a := r97) (if_pos hc103)
      refine wl_val (g_pick_or (b := (!r91)) (q := (!r97)) rfl rfl) rfl ?_
      refine wl_val (g_move (v := .bool ((!r91) || (!r97))) rfl) rfl ?_
      refine wl_guard (c := ((!r91) || (!r97)) = false) (val := .pointer (some (((⟨g78, 0, none⟩ : Addr)).add 1))) (b := (((!r91) || (!r97)) == false)) (gv_some rfl rfl rfl) beq_iff_eq (fun hc104 => ?_) ?_
      · have hcq3 : ¬ (((¬ (r91 = true)) ∨ (¬ (r97 = true)))) := (i_neg (i_or (i_not Iff.rfl) (i_not Iff.rfl)) hc104)
        exact g_fieldAddr (q := (⟨g78, 0, none⟩ : Addr)) FL39_1 ON3 rfl
      refine wl_guard (c := ((!r91) || (!r97)) = false) (val := .int .i64 (p0[(Int.toNat v62)]!.2.1)) (b := (((!r91) || (!r97)) == false)) (gv_some rfl rfl rfl) beq_iff_eq (fun hc105 => ?_) ?_
      · have hcq3 : ¬ (((¬ (r91 = true)) ∨ (¬ (r97 = true)))) := (i_neg (i_or (i_not Iff.rfl) (i_not Iff.rfl)) hc105)
        exact q_loadB (i := 1) (bs := #[.int .i64 (p0[(Int.toNat v62)]!.1), .int .i64 (p0[(Int.toNat v62)]!.2.1), .int .i64 (p0[(Int.toNat v62)]!.2.2)]) hS102.g0 ON3 (if_pos hc105) rfl
      refine wl_guard (c := ((!r91) || (!r97)) = false) (val := .pointer (some (((⟨g78, 0, none⟩ : Addr)).add 2))) (b := (((!r91) || (!r97)) == false)) (gv_some rfl rfl rfl) beq_iff_eq (fun hc106 => ?_) ?_
      · have hcq3 : ¬ (((¬ (r91 = true)) ∨ (¬ (r97 = true)))) := (i_neg (i_or (i_not Iff.rfl) (i_not Iff.rfl)) hc106)
        exact g_fieldAddr (q := (⟨g78, 0, none⟩ : Addr)) FL39_2 ON3 rfl
      refine wl_guard (c := ((!r91) || (!r97)) = false) (val := .int .i64 (p0[(Int.toNat v62)]!.2.2)) (b := (((!r91) || (!r97)) == false)) (gv_some rfl rfl rfl) beq_iff_eq (fun hc107 => ?_) ?_
      · have hcq3 : ¬ (((¬ (r91 = true)) ∨ (¬ (r97 = true)))) := (i_neg (i_or (i_not Iff.rfl) (i_not Iff.rfl)) hc107)
        exact q_loadB (i := 2) (bs := #[.int .i64 (p0[(Int.toNat v62)]!.1), .int .i64 (p0[(Int.toNat v62)]!.2.1), .int .i64 (p0[(Int.toNat v62)]!.2.2)]) hS102.g0 ON3 (if_pos hc107) rfl
      obtain ⟨hg109, hm⟩ := hm
      refine wl_guard (c := ((!r91) || (!r97)) = false) (val := .int .i64 (p0[(Int.toNat v62)]!.2.2 - 1)) (b := (((!r91) || (!r97)) == false)) (gv_some rfl rfl rfl) beq_iff_eq (fun hc108 => ?_) ?_
      · have hcq3 : ¬ (((¬ (r91 = true)) ∨ (¬ (r97 = true)))) := (i_neg (i_or (i_not Iff.rfl) (i_not Iff.rfl)) hc108)
        exact g_sub (a := p0[(Int.toNat v62)]!.2.2) (b := 1) (if_pos hc108) rfl (hg109 hcq3)
      obtain ⟨r111, hk112, hm⟩ := hm
      refine wl_guardE (X := Ext) (c := ((!r91) || (!r97)) = false) (val := .bool r111) (Ext.refl _) (b := (((!r91) || (!r97)) == false)) (gv_some rfl rfl rfl) beq_iff_eq (fun hc110 => ?_) (fun w113 hE114 => ?_)
      · have hcq3 : ¬ (((¬ (r91 = true)) ∨ (¬ (r97 = true)))) := (i_neg (i_or (i_not Iff.rfl) (i_not Iff.rfl)) hc110)
        exact (g_call (vs := #[.int .i64 (p0[(Int.toNat v62)]!.2.1), .int .i64 0, .int .i64 (p0[(Int.toNat v62)]!.2.2 - 1)]) CF30 (args3 (if_pos hc110) rfl (if_pos hc110)) ((m_spec_l01In_fn (p0[(Int.toNat v62)]!.2.1) 0 (p0[(Int.toNat v62)]!.2.2 - 1) (hk112 hcq3)).mono fun _ _ ⟨_, h1, h2, h3⟩ => ⟨by rw [h2, h1], h3⟩))
      have hB115 := hB101.trans (Ext.stp hE114 hS102.base)
      have hS116 := hS102.ext hE114
      refine wl_guard (c := ((!r91) || (!r97)) = false) (val := .bool (!r111)) (b := (((!r91) || (!r97)) == false)) (gv_some rfl rfl rfl) beq_iff_eq (fun hc117 => ?_) ?_
      · have hcq3 : ¬ (((¬ (r91 = true)) ∨ (¬ (r97 = true)))) := (i_neg (i_or (i_not Iff.rfl) (i_not Iff.rfl)) hc117)
        exact g_not (a := r111) (if_pos hc117)
      refine wl_val (g_pick_or (b := ((!r91) || (!r97))) (q := (!r111)) rfl rfl) rfl ?_
      refine wl_nil ?_
      refine hK87 _ _ ?_
      refine w_condI (p := ((((¬ (r91 = true)) ∨ (¬ (r97 = true)))) ∨ (¬ (r111 = true)))) (b := (((!r91) || (!r97)) || (!r111))) rfl (i_or (i_or (i_not Iff.rfl) (i_not Iff.rfl)) (i_not Iff.rfl)) (fun h118 => ?_) (fun h118 => ?_)
      · replace hm := hm.1 h118
        refine w_seq fun K119 hK119 => ?_
        refine w_region ?_
        refine wl_val (g_assign (v := .bool false) rfl) rfl ?_
        refine wl_nil ?_
        refine hK119 _ _ ?_
        refine w_ret ?_
        repeat first | with_reducible refine q_then ?_ | with_reducible refine q_block ?_
        exact ret1 rfl (by decide) ⟨_, hm, rfl, toExt hB115⟩
      · replace hm := hm.2 h118
        refine w_skip ?_
        refine hK74 _ _ ?_
        refine w_region ?_
        refine wl_val (g_move (v := .int .i64 v62) rfl) rfl ?_
        obtain ⟨hg120, hm⟩ := hm
        refine wl_val (g_add (a := v62) (b := 1) rfl rfl hg120) rfl ?_
        refine wl_val (g_assign (v := .int .i64 (v62 + 1)) rfl) rfl ?_
        refine wl_nil ?_
        have hS121 := hS116.tail
        exact ⟨((v62 + 1)), hm.2, ⟨rfl, rfl, trivial⟩, ⟨hm.1, hB115, hS121⟩⟩
    · replace hm := hm.2 h73
      refine w_exit ?_
      exact ⟨(), ⟨rfl, trivial⟩, ⟨hm, hB68, hS69⟩⟩
  · rintro _ b_ w122 ⟨hm, hB123, hS124⟩
    show Wp _ _ _ _ (upds b_ [(0, .slice a0 n0 c0)]) w122
    refine w_seq fun K125 hK125 => ?_
    refine w_region ?_
    refine wl_val (g_move (v := .slice a0 n0 c0) rfl) rfl ?_
    refine wl_val (q_len SL26 rfl (Vw.len (hp0.bel hB123))) rfl ?_
    refine wl_val (g_leq (a := (p0.length : Int)) (b := 20) rfl rfl) rfl ?_
    refine wl_val (g_assign (v := .bool (decide ((p0.length : Int) ≤ 20))) rfl) rfl ?_
    refine wl_nil ?_
    refine hK125 _ _ ?_
    refine w_ret ?_
    repeat first | with_reducible refine q_then ?_ | with_reducible refine q_block ?_
    exact ret1 rfl (by decide) ⟨_, hm, rfl, toExt hB123⟩

theorem m_spec_RailsFor_fn {w : World} {a0 : Option Addr} {n0 c0 : Nat} {p0 : List Stay} {Q : (List Int) → Prop} (hp0 : Vw w.heap.size w a0 n0 c0 p0) (hm : m_spec_RailsFor p0 Q) :
    Fn Try.prog 6 #[.slice a0 n0 c0] w (fun v w' => ∃ (r0 : List Int) (a0 : Option Addr) (n0 c0 : Nat), Q r0 ∧ v = .slice a0 n0 c0 ∧ Ext w w' ∧ Sep w' w.heap.size [oS 3 a0 n0 c0 r0]) := by
  unfold m_spec_RailsFor at hm
  have hB0 := Below.refl w.heap.size w
  have hS0 : Sep w w.heap.size [] := Sep.nil (Nat.le_refl _)
  refine fn_of_wp Try.func6 rfl (by kernel_rfl) (Nat.le_of_ble_eq_true rfl) ?_
  refine w_seq fun K1 hK1 => ?_
  refine w_region ?_
  refine wl_val (g_assign (v := .slice none 0 0) rfl) rfl ?_
  refine wl_nil ?_
  refine hK1 _ _ ?_
  refine w_seq fun K2 hK2 => ?_
  refine w_seq fun K3 hK3 => ?_
  refine w_region ?_
  refine wl_val (g_move (v := .slice a0 n0 c0) rfl) rfl ?_
  refine wl_step rfl (g_call (vs := #[.slice a0 n0 c0]) CF20 (args1 rfl) (m_spec_StaysOk_fn ((hp0.bel hB0).up hS0) hm)) ?_
  rintro _ w4 ⟨r7, hm, rfl, hE5⟩
  have hB8 := hB0.trans (Ext.stp hE5 hS0.base)
  have hS9 := hS0.ext hE5
  refine wl_val (g_not (a := r7) rfl) rfl ?_
  refine wl_nil ?_
  refine hK3 _ _ ?_
  refine w_condI (p := ¬ (r7 = true)) (b := (!r7)) rfl (i_not Iff.rfl) (fun h10 => ?_) (fun h10 => ?_)
  · replace hm := hm.1 h10
    refine w_seq fun K11 hK11 => ?_
    refine w_region ?_
    refine wl_step rfl (q_lit0 (α := Int) rfl SL24 hS9) ?_
    rintro _ w12 ⟨a13, rfl, hS15, hE14⟩
    have hB17 := hB8.trans (Ext.stp hE14 hS9.base)
    refine wl_val (g_assign (v := .slice a13 0 0) rfl) rfl ?_
    refine wl_nil ?_
    refine hK11 _ _ ?_
    refine w_ret ?_
    repeat first | with_reducible refine q_then ?_ | with_reducible refine q_block ?_
    exact ret1 rfl (by decide) ⟨_, _, _, _, hm, rfl, toExt hB17, hS15⟩
  · replace hm := hm.2 h10
    refine w_skip ?_
    refine hK2 _ _ ?_
    refine w_seq fun K18 hK18 => ?_
    refine w_region ?_
    refine wl_val (g_move (v := .slice a0 n0 c0) rfl) rfl ?_
    refine wl_val (q_len SL26 rfl (Vw.len (hp0.bel hB8))) rfl ?_
    obtain ⟨hg19, hm⟩ := hm
    refine wl_step rfl (q_make (y := (0 : Int)) SL24 rfl rfl hg19.1 hg19.2 (by decide) hS9) ?_
    rintro _ w20 ⟨a21, rfl, hS23, hE22⟩
    have hB25 := hB8.trans (Ext.stp hE22 hS9.base)
    refine wl_val (g_assign (v := .slice a21 (Int.toNat (p0.length : Int)) (Int.toNat (p0.length : Int))) rfl) rfl ?_
    refine wl_nil ?_
    refine hK18 _ _ ?_
    refine w_seq fun K26 hK26 => ?_
    refine w_region ?_
    refine wl_val (g_move (v := .slice a0 n0 c0) rfl) rfl ?_
    refine wl_val (q_len SL26 rfl (Vw.len (hp0.bel hB25))) rfl ?_
    obtain ⟨hg27, hm⟩ := hm
    refine wl_step rfl (q_make (y := (false : Bool)) SL41 rfl rfl hg27.1 hg27.2 (by decide) hS23) ?_
    rintro _ w28 ⟨a29, rfl, hS31, hE30⟩
    have hB33 := hB25.trans (Ext.stp hE30 hS23.base)
    refine wl_val (g_assign (v := .slice a29 (Int.toNat (p0.length : Int)) (Int.toNat (p0.length : Int))) rfl) rfl ?_
    refine wl_nil ?_
    refine hK26 _ _ ?_
    refine w_cut (σ := List Int) (fun x1808 => [(3, .slice a21 (Int.toNat (p0.length : Int)) (Int.toNat (p0.length : Int)))]) (fun x1808 w' => m_spec_RailsFor_K4 Q x1808 ∧ Below w.heap.size w w' ∧ Sep w' w.heap.size [oS 3 a21 (Int.toNat (p0.length : Int)) (Int.toNat (p0.length : Int)) (x1808 : List Int)]) ?_ ?_
    · refine w_seq fun K1810 hK1810 => ?_
      refine w_region ?_
      refine wl_val (g_assign (v := .int .i64 0) rfl) rfl ?_
      refine wl_nil ?_
      refine hK1810 _ _ ?_
      refine w_block ?_
      have hS1814 := hS31.f1
      obtain ⟨I1815, μ1816, h01817, hr1818⟩ := hm
      refine w_for (σ := List Int × List Bool × Int) (fun ⟨x1811, x1812, v1813⟩ => [(0, .slice a0 n0 c0), (3, .slice a21 (Int.toNat (p0.length : Int)) (Int.toNat (p0.length : Int))), (4, .slice a29 (Int.toNat (p0.length : Int)) (Int.toNat (p0.length : Int))), (5, .int .i64 v1813)]) (fun ⟨x1811, x1812, v1813⟩ w' => I1815 x1811 x1812 v1813 ∧ Below w.heap.size w w' ∧ Sep w' w.heap.size [oS 3 a21 (Int.toNat (p0.length : Int)) (Int.toNat (p0.length : Int)) (x1811 : List Int), oS 4 a29 (Int.toNat (p0.length : Int)) (Int.toNat (p0.length : Int)) (x1812 : List Bool)]) (fun ⟨x1811, x1812, v1813⟩ => μ1816 x1811 x1812 v1813) (List.replicate (Int.toNat (p0.length : Int)) (0 : Int), List.replicate (Int.toNat (p0.length : Int)) (false : Bool), 0) ⟨rfl, rfl, rfl, rfl, trivial⟩ ⟨h01817, hB33, hS1814⟩ ?_
      rintro ⟨x1811, x1812, v1813⟩ b_ w1819 ⟨hi_, hB1820, hS1821⟩
      show Wp _ _ _ _ (upds b_ [(0, .slice a0 n0 c0), (3, .slice a21 (Int.toNat (p0.length : Int)) (Int.toNat (p0.length : Int))), (4, .slice a29 (Int.toNat (p0.length : Int)) (Int.toNat (p0.length : Int))), (5, .int .i64 v1813)]) w1819
      have hm := hr1818 x1811 x1812 v1813 hi_
      refine w_seq fun K1823 hK1823 => ?_
      refine w_seq fun K1824 hK1824 => ?_
      refine w_region ?_
      refine wl_val (g_move (v := .int .i64 v1813) rfl) rfl ?_
      refine wl_val (g_move (v := .slice a0 n0 c0) rfl) rfl ?_
      refine wl_val (q_len SL26 rfl (Vw.len (hp0.bel hB1820))) rfl ?_
      refine wl_val (g_lss (a := v1813) (b := (p0.length : Int)) rfl rfl) rfl ?_
      refine wl_nil ?_
      refine hK1824 _ _ ?_
      refine w_condI (p := v1813 < (p0.length : Int)) (b := (decide (v1813 < (p0.length : Int)))) rfl decide_eq_true_iff (fun h1825 => ?_) (fun h1825 => ?_)
      · replace hm := hm.1 h1825
        refine w_skip ?_
        refine hK1823 _ _ ?_
        refine w_cut (σ := List Int × List Bool) (fun ⟨x1826, x1827⟩ => [(0, .slice a0 n0 c0), (3, .slice a21 (Int.toNat (p0.length : Int)) (Int.toNat (p0.length : Int))), (4, .slice a29 (Int.toNat (p0.length : Int)) (Int.toNat (p0.length : Int))), (5, .int .i64 v1813)]) (fun ⟨x1826, x1827⟩ w' => m_spec_RailsFor_K3 v1813 (fun x1811' x1812' v1813' => I1815 x1811' x1812' v1813' ∧ μ1816 x1811' x1812' v1813' < μ1816 x1811 x1812 v1813) x1826 x1827 ∧ Below w.heap.size w w' ∧ Sep w' w.heap.size [oS 3 a21 (Int.toNat (p0.length : Int)) (Int.toNat (p0.length : Int)) (x1826 : List Int), oS 4 a29 (Int.toNat (p0.length : Int)) (Int.toNat (p0.length : Int)) (x1827 : List Bool)]) ?_ ?_
        · refine w_block ?_
          refine w_seq fun K1829 hK1829 => ?_
          refine w_region ?_
          refine wl_val (g_assign (v := .int .i64 (-1)) rfl) rfl ?_
          refine wl_nil ?_
          refine hK1829 _ _ ?_
          refine w_cut (σ := Int) (fun v1830 => [(0, .slice a0 n0 c0), (3, .slice a21 (Int.toNat (p0.length : Int)) (Int.toNat (p0.length : Int))), (4, .slice a29 (Int.toNat (p0.length : Int)) (Int.toNat (p0.length : Int))), (5, .int .i64 v1813), (6, .int .i64 v1830)]) (fun v1830 w' => m_spec_RailsFor_K2 p0 x1811 x1812 (m_spec_RailsFor_K3 v1813 (fun x1811' x1812' v1813' => I1815 x1811' x1812' v1813' ∧ μ1816 x1811' x1812' v1813' < μ1816 x1811 x1812 v1813)) v1830 ∧ Below w.heap.size w w' ∧ Sep w' w.heap.size [oS 3 a21 (Int.toNat (p0.length : Int)) (Int.toNat (p0.length : Int)) (x1811 : List Int), oS 4 a29 (Int.toNat (p0.length : Int)) (Int.toNat (p0.length : Int)) (x1812 : List Bool)]) ?_ ?_
          · refine w_seq fun K1832 hK1832 => ?_
            refine w_region ?_
            refine wl_val (g_assign (v := .int .i64 0) rfl) rfl ?_
            refine wl_nil ?_
            refine hK1832 _ _ ?_
            refine w_block ?_
            obtain ⟨I1835, μ1836, h01837, hr1838⟩ := hm
            refine w_for (σ := Int × Int) (fun ⟨v1833, v1834⟩ => [(0, .slice a0 n0 c0), (3, .slice a21 (Int.toNat (p0.length : Int)) (Int.toNat (p0.length : Int))), (4, .slice a29 (Int.toNat (p0.length : Int)) (Int.toNat (p0.length : Int))), (5, .int .i64 v1813), (6, .int .i64 v1833), (7, .int .i64 v1834)]) (fun ⟨v1833, v1834⟩ w' => I1835 v1833 v1834 ∧ Below w.heap.size w w' ∧ Sep w' w.heap.size [oS 3 a21 (Int.toNat (p0.length : Int)) (Int.toNat (p0.length : Int)) (x1811 : List Int), oS 4 a29 (Int.toNat (p0.length : Int)) (Int.toNat (p0.length : Int)) (x1812 : List Bool)]) (fun ⟨v1833, v1834⟩ => μ1836 v1833 v1834) ((-1), 0) ⟨rfl, rfl, rfl, rfl, rfl, rfl, trivial⟩ ⟨h01837, hB1820, hS1821⟩ ?_
            rintro ⟨v1833, v1834⟩ b_ w1839 ⟨hi_, hB1840, hS1841⟩
            show Wp _ _ _ _ (upds b_ [(0, .slice a0 n0 c0), (3, .slice a21 (Int.toNat (p0.length : Int)) (Int.toNat (p0.length : Int))), (4, .slice a29 (Int.toNat (p0.length : Int)) (Int.toNat (p0.length : Int))), (5, .int .i64 v1813), (6, .int .i64 v1833), (7, .int .i64 v1834)]) w1839
            have hm := hr1838 v1833 v1834 hi_
            refine w_seq fun K1843 hK1843 => ?_
            refine w_seq fun K1844 hK1844 => ?_
            refine w_region ?_
            refine wl_val (g_move (v := .int .i64 v1834) rfl) rfl ?_
            refine wl_val (g_move (v := .slice a0 n0 c0) rfl) rfl ?_
            refine wl_val (q_len SL26 rfl (Vw.len (hp0.bel hB1840))) rfl ?_
            refine wl_val (g_lss (a := v1834) (b := (p0.length : Int)) rfl rfl) rfl ?_
            refine wl_nil ?_
            refine hK1844 _ _ ?_
            refine w_condI (p := v1834 < (p0.length : Int)) (b := (decide (v1834 < (p0.length : Int)))) rfl decide_eq_true_iff (fun h1845 => ?_) (fun h1845 => ?_)
            · replace hm := hm.1 h1845
              refine w_skip ?_
              refine hK1843 _ _ ?_
              refine w_seq fun K1846 hK1846 => ?_
              refine w_block ?_
              refine w_seq fun K1847 hK1847 => ?_
              refine w_draw (X := Ext) (Y := Ext) [] MIX (by decide +kernel) rfl Ext.refl (fun _ _ _ => Ext.trans) (fun _ _ _ => Chg.trans) (fun _ _ h => Ext.chg h _) (fun w1848 hE1849 => ?_)
              have hB1850 := hB1840.trans (Ext.stp hE1849 hS1841.base)
              have hS1851 := hS1841.ext hE1849
              refine ⟨.slice a29 (Int.toNat (p0.length : Int)) (Int.toNat (p0.length : Int)), fun w1852 hX1853 => od_plain rfl (by have hS1854 := hS1851.ext hX1853; have hB1855 := hB1850.trans (Ext.stp hX1853 hS1851.base); exact is_ext (g_move (v := .slice a29 (Int.toNat (p0.length : Int)) (Int.toNat (p0.length : Int))) rfl)), ?_⟩
              refine ⟨.int .i64 v1834, fun w1856 hX1857 => od_plain rfl (by have hS1858 := hS1851.ext hX1857; have hB1859 := hB1850.trans (Ext.stp hX1857 hS1851.base); exact is_ext (g_move (v := .int .i64 v1834) rfl)), ?_⟩
              obtain ⟨hg1864, hm⟩ := hm
              refine ⟨.pointer (some ((adr a29).add ((Int.toNat v1834) * El.m Bool))), fun w1860 hX1861 => od_plain rfl (by have hS1862 := hS1851.ext hX1861; have hB1863 := hB1850.trans (Ext.stp hX1861 hS1851.base); exact is_ext (q_index (i := v1834) SL41 rfl rfl (oS.vw hS1862.g1) hg1864)), ?_⟩
              refine ⟨.bool (x1812[(Int.toNat v1834)]!), fun w1865 hX1866 => od_plain rfl (by have hS1867 := hS1851.ext hX1866; have hB1868 := hB1850.trans (Ext.stp hX1866 hS1851.base); exact is_ext (q_load (i := v1834) (v := .bool (x1812[(Int.toNat v1834)]!)) ON4 (oS.vw hS1867.g1) hg1864 rfl rfl)), ?_⟩
              refine ⟨.bool (!(x1812[(Int.toNat v1834)]!)), fun w1869 hX1870 => od_plain rfl (by have hS1871 := hS1851.ext hX1870; have hB1872 := hB1850.trans (Ext.stp hX1870 hS1851.base); exact is_ext (g_not (a := (x1812[(Int.toNat v1834)]!)) rfl)), ?_⟩
              refine ⟨.bool (!(x1812[(Int.toNat v1834)]!)), fun w1873 hX1874 => od_plain rfl (by have hS1875 := hS1851.ext hX1874; have hB1876 := hB1850.trans (Ext.stp hX1874 hS1851.base); exact is_ext (g_move (v := .bool (!(x1812[(Int.toNat v1834)]!))) rfl)), ?_⟩
              refine ⟨if (!(x1812[(Int.toNat v1834)]!)) = true then .int .i64 v1833 else undef, fun w1877 hX1878 => od_guard (c := (!(x1812[(Int.toNat v1834)]!)) = true) (val := .int .i64 v1833) (b := ((!(x1812[(Int.toNat v1834)]!)) == true)) (gv_some rfl rfl rfl) beq_iff_eq (fun hc1881 => ?_), ?_⟩
              · have hS1879 := hS1851.ext hX1878
                have hB1880 := hB1850.trans (Ext.stp hX1878 hS1851.base)
                have hcq20 : ¬ ((x1812[(Int.toNat v1834)]!) = true) := ((i_not Iff.rfl).mp hc1881)
                exact is_ext (g_move (v := .int .i64 v1833) rfl)
              refine ⟨if (!(x1812[(Int.toNat v1834)]!)) = true then .bool (decide (v1833 < 0)) else undef, fun w1882 hX1883 => od_guard (c := (!(x1812[(Int.toNat v1834)]!)) = true) (val := .bool (decide (v1833 < 0))) (b := ((!(x1812[(Int.toNat v1834)]!)) == true)) (gv_some rfl rfl rfl) beq_iff_eq (fun hc1886 => ?_), ?_⟩
              · have hS1884 := hS1851.ext hX1883
                have hB1885 := hB1850.trans (Ext.stp hX1883 hS1851.base)
                have hcq20 : ¬ ((x1812[(Int.toNat v1834)]!) = true) := ((i_not Iff.rfl).mp hc1886)
                exact is_ext (g_lss (a := v1833) (b := 0) (if_pos hc1886) rfl)
              refine ⟨if (!(x1812[(Int.toNat v1834)]!)) = true then .bool (decide (v1833 < 0)) else undef, fun w1887 hX1888 => od_guard (c := (!(x1812[(Int.toNat v1834)]!)) = true) (val := .bool (decide (v1833 < 0))) (b := ((!(x1812[(Int.toNat v1834)]!)) == true)) (gv_some rfl rfl rfl) beq_iff_eq (fun hc1891 => ?_), ?_⟩
              · have hS1889 := hS1851.ext hX1888
                have hB1890 := hB1850.trans (Ext.stp hX1888 hS1851.base)
                have hcq20 : ¬ ((x1812[(Int.toNat v1834)]!) = true) := ((i_not Iff.rfl).mp hc1891)
                exact is_ext (g_move (v := .bool (decide (v1833 < 0))) (if_pos hc1891))
              refine ⟨if ((!(x1812[(Int.toNat v1834)]!)) = true) ∧ (decide (v1833 < 0)) = false then .slice a0 n0 c0 else undef, fun w1892 hX1893 => od_guard (c := ((!(x1812[(Int.toNat v1834)]!)) = true) ∧ (decide (v1833 < 0)) = false) (val := .slice a0 n0 c0) (b := decide (((!(x1812[(Int.toNat v1834)]!)) = true) ∧ (decide (v1833 < 0)) = false)) (gv_gd rfl rfl rfl) decide_eq_true_iff (fun hc1896 => ?_), ?_⟩
              · have hS1894 := hS1851.ext hX1893
                have hB1895 := hB1850.trans (Ext.stp hX1893 hS1851.base)
                have hcq21 : (¬ ((x1812[(Int.toNat v1834)]!) = true)) ∧ (¬ (v1833 < 0)) := ⟨((i_not Iff.rfl).mp (hc1896).1), i_neg decide_eq_true_iff (hc1896).2⟩
                have hcq20 := (hcq21).1
                exact is_ext (g_move (v := .slice a0 n0 c0) rfl)
              refine ⟨if ((!(x1812[(Int.toNat v1834)]!)) = true) ∧ (decide (v1833 < 0)) = false then .int .i64 v1834 else undef, fun w1897 hX1898 => od_guard (c := ((!(x1812[(Int.toNat v1834)]!)) = true) ∧ (decide (v1833 < 0)) = false) (val := .int .i64 v1834) (b := decide (((!(x1812[(Int.toNat v1834)]!)) = true) ∧ (decide (v1833 < 0)) = false)) (gv_gd rfl rfl rfl) decide_eq_true_iff (fun hc1901 => ?_), ?_⟩
              · have hS1899 := hS1851.ext hX1898
                have hB1900 := hB1850.trans (Ext.stp hX1898 hS1851.base)
                have hcq21 : (¬ ((x1812[(Int.toNat v1834)]!) = true)) ∧ (¬ (v1833 < 0)) := ⟨((i_not Iff.rfl).mp (hc1901).1), i_neg decide_eq_true_iff (hc1901).2⟩
                have hcq20 := (hcq21).1
                exact is_ext (g_move (v := .int .i64 v1834) rfl)
              obtain ⟨hg1907, hm⟩ := hm
              refine ⟨if ((!(x1812[(Int.toNat v1834)]!)) = true) ∧ (decide (v1833 < 0)) = false then .pointer (some ((adr a0).add ((Int.toNat v1834) * El.m Stay))) else undef, fun w1902 hX1903 => od_guard (c := ((!(x1812[(Int.toNat v1834)]!)) = true) ∧ (decide (v1833 < 0)) = false) (val := .pointer (some ((adr a0).add ((Int.toNat v1834) * El.m Stay)))) (b := decide (((!(x1812[(Int.toNat v1834)]!)) = true) ∧ (decide (v1833 < 0)) = false)) (gv_gd rfl rfl rfl) decide_eq_true_iff (fun hc1906 => ?_), ?_⟩
              · have hS1904 := hS1851.ext hX1903
                have hB1905 := hB1850.trans (Ext.stp hX1903 hS1851.base)
                have hcq21 : (¬ ((x1812[(Int.toNat v1834)]!) = true)) ∧ (¬ (v1833 < 0)) := ⟨((i_not Iff.rfl).mp (hc1906).1), i_neg decide_eq_true_iff (hc1906).2⟩
                have hcq20 := (hcq21).1
                exact is_ext (q_index (i := v1834) SL26 (if_pos hc1906) (if_pos hc1906) (hp0.bel hB1905) (hg1907 hcq21))
              refine ⟨if ((!(x1812[(Int.toNat v1834)]!)) = true) ∧ (decide (v1833 < 0)) = false then .pointer (some (((adr a0).add ((Int.toNat v1834) * El.m Stay)).add 1)) else undef, fun w1908 hX1909 => od_guard (c := ((!(x1812[(Int.toNat v1834)]!)) = true) ∧ (decide (v1833 < 0)) = false) (val := .pointer (some (((adr a0).add ((Int.toNat v1834) * El.m Stay)).add 1))) (b := decide (((!(x1812[(Int.toNat v1834)]!)) = true) ∧ (decide (v1833 < 0)) = false)) (gv_gd rfl rfl rfl) decide_eq_true_iff (fun hc1912 => ?_), ?_⟩
              · have hS1910 := hS1851.ext hX1909
                have hB1911 := hB1850.trans (Ext.stp hX1909 hS1851.base)
                have hcq21 : (¬ ((x1812[(Int.toNat v1834)]!) = true)) ∧ (¬ (v1833 < 0)) := ⟨((i_not Iff.rfl).mp (hc1912).1), i_neg decide_eq_true_iff (hc1912).2⟩
                have hcq20 := (hcq21).1
                exact is_ext (g_fieldAddr (q := (adr a0).add ((Int.toNat v1834) * El.m Stay)) FL39_1 ON3 (if_pos hc1912))
              refine ⟨if ((!(x1812[(Int.toNat v1834)]!)) = true) ∧ (decide (v1833 < 0)) = false then .int .i64 (p0[(Int.toNat v1834)]!.2.1) else undef, fun w1913 hX1914 => od_guard (c := ((!(x1812[(Int.toNat v1834)]!)) = true) ∧ (decide (v1833 < 0)) = false) (val := .int .i64 (p0[(Int.toNat v1834)]!.2.1)) (b := decide (((!(x1812[(Int.toNat v1834)]!)) = true) ∧ (decide (v1833 < 0)) = false)) (gv_gd rfl rfl rfl) decide_eq_true_iff (fun hc1917 => ?_), ?_⟩
              · have hS1915 := hS1851.ext hX1914
                have hB1916 := hB1850.trans (Ext.stp hX1914 hS1851.base)
                have hcq21 : (¬ ((x1812[(Int.toNat v1834)]!) = true)) ∧ (¬ (v1833 < 0)) := ⟨((i_not Iff.rfl).mp (hc1917).1), i_neg decide_eq_true_iff (hc1917).2⟩
                have hcq20 := (hcq21).1
                exact is_ext (q_loadF (i := v1834) (j := 1) (v := .int .i64 (p0[(Int.toNat v1834)]!.2.1)) ON3 (hp0.bel hB1916) (hg1907 hcq21) rfl (if_pos hc1917))
              refine ⟨if ((!(x1812[(Int.toNat v1834)]!)) = true) ∧ (decide (v1833 < 0)) = false then .slice a0 n0 c0 else undef, fun w1918 hX1919 => od_guard (c := ((!(x1812[(Int.toNat v1834)]!)) = true) ∧ (decide (v1833 < 0)) = false) (val := .slice a0 n0 c0) (b := decide (((!(x1812[(Int.toNat v1834)]!)) = true) ∧ (decide (v1833 < 0)) = false)) (gv_gd rfl rfl rfl) decide_eq_true_iff (fun hc1922 => ?_), ?_⟩
              · have hS1920 := hS1851.ext hX1919
                have hB1921 := hB1850.trans (Ext.stp hX1919 hS1851.base)
                have hcq21 : (¬ ((x1812[(Int.toNat v1834)]!) = true)) ∧ (¬ (v1833 < 0)) := ⟨((i_not Iff.rfl).mp (hc1922).1), i_neg decide_eq_true_iff (hc1922).2⟩
                have hcq20 := (hcq21).1
                exact is_ext (g_move (v := .slice a0 n0 c0) rfl)
              refine ⟨if ((!(x1812[(Int.toNat v1834)]!)) = true) ∧ (decide (v1833 < 0)) = false then .int .i64 v1833 else undef, fun w1923 hX1924 => od_guard (c := ((!(x1812[(Int.toNat v1834)]!)) = true) ∧ (decide (v1833 < 0)) = false) (val := .int .i64 v1833) (b := decide (((!(x1812[(Int.toNat v1834)]!)) = true) ∧ (decide (v1833 < 0)) = false)) (gv_gd rfl rfl rfl) decide_eq_true_iff (fun hc1927 => ?_), ?_⟩
              · have hS1925 := hS1851.ext hX1924
                have hB1926 := hB1850.trans (Ext.stp hX1924 hS1851.base)
                have hcq21 : (¬ ((x1812[(Int.toNat v1834)]!) = true)) ∧ (¬ (v1833 < 0)) := ⟨((i_not Iff.rfl).mp (hc1927).1), i_neg decide_eq_true_iff (hc1927).2⟩
                have hcq20 := (hcq21).1
                exact is_ext (g_move (v := .int .i64 v1833) rfl)
              obtain ⟨hg1933, hm⟩ := hm
              refine ⟨if ((!(x1812[(Int.toNat v1834)]!)) = true) ∧ (decide (v1833 < 0)) = false then .pointer (some ((adr a0).add ((Int.toNat v1833) * El.m Stay))) else undef, fun w1928 hX1929 => od_guard (c := ((!(x1812[(Int.toNat v1834)]!)) = true) ∧ (decide (v1833 < 0)) = false) (val := .pointer (some ((adr a0).add ((Int.toNat v1833) * El.m Stay)))) (b := decide (((!(x1812[(Int.toNat v1834)]!)) = true) ∧ (decide (v1833 < 0)) = false)) (gv_gd rfl rfl rfl) decide_eq_true_iff (fun hc1932 => ?_), ?_⟩
              · have hS1930 := hS1851.ext hX1929
                have hB1931 := hB1850.trans (Ext.stp hX1929 hS1851.base)
                have hcq21 : (¬ ((x1812[(Int.toNat v1834)]!) = true)) ∧ (¬ (v1833 < 0)) := ⟨((i_not Iff.rfl).mp (hc1932).1), i_neg decide_eq_true_iff (hc1932).2⟩
                have hcq20 := (hcq21).1
                exact is_ext (q_index (i := v1833) SL26 (if_pos hc1932) (if_pos hc1932) (hp0.bel hB1931) (hg1933 hcq21))
              refine ⟨if ((!(x1812[(Int.toNat v1834)]!)) = true) ∧ (decide (v1833 < 0)) = false then .pointer (some (((adr a0).add ((Int.toNat v1833) * El.m Stay)).add 1)) else undef, fun w1934 hX1935 => od_guard (c := ((!(x1812[(Int.toNat v1834)]!)) = true) ∧ (decide (v1833 < 0)) = false) (val := .pointer (some (((adr a0).add ((Int.toNat v1833) * El.m Stay)).add 1))) (b := decide (((!(x1812[(Int.toNat v1834)]!)) = true) ∧ (decide (v1833 < 0)) = false)) (gv_gd rfl rfl rfl) decide_eq_true_iff (fun hc1938 => ?_), ?_⟩
              · have hS1936 := hS1851.ext hX1935
                have hB1937 := hB1850.trans (Ext.stp hX1935 hS1851.base)
                have hcq21 : (¬ ((x1812[(Int.toNat v1834)]!) = true)) ∧ (¬ (v1833 < 0)) := ⟨((i_not Iff.rfl).mp (hc1938).1), i_neg decide_eq_true_iff (hc1938).2⟩
                have hcq20 := (hcq21).1
                exact is_ext (g_fieldAddr (q := (adr a0).add ((Int.toNat v1833) * El.m Stay)) FL39_1 ON3 (if_pos hc1938))
              refine ⟨if ((!(x1812[(Int.toNat v1834)]!)) = true) ∧ (decide (v1833 < 0)) = false then .int .i64 (p0[(Int.toNat v1833)]!.2.1) else undef, fun w1939 hX1940 => od_guard (c := ((!(x1812[(Int.toNat v1834)]!)) = true) ∧ (decide (v1833 < 0)) = false) (val := .int .i64 (p0[(Int.toNat v1833)]!.2.1)) (b := decide (((!(x1812[(Int.toNat v1834)]!)) = true) ∧ (decide (v1833 < 0)) = false)) (gv_gd rfl rfl rfl) decide_eq_true_iff (fun hc1943 => ?_), ?_⟩
              · have hS1941 := hS1851.ext hX1940
                have hB1942 := hB1850.trans (Ext.stp hX1940 hS1851.base)
                have hcq21 : (¬ ((x1812[(Int.toNat v1834)]!) = true)) ∧ (¬ (v1833 < 0)) := ⟨((i_not Iff.rfl).mp (hc1943).1), i_neg decide_eq_true_iff (hc1943).2⟩
                have hcq20 := (hcq21).1
                exact is_ext (q_loadF (i := v1833) (j := 1) (v := .int .i64 (p0[(Int.toNat v1833)]!.2.1)) ON3 (hp0.bel hB1942) (hg1933 hcq21) rfl (if_pos hc1943))
              refine ⟨if ((!(x1812[(Int.toNat v1834)]!)) = true) ∧ (decide (v1833 < 0)) = false then .bool (decide (p0[(Int.toNat v1834)]!.2.1 < p0[(Int.toNat v1833)]!.2.1)) else undef, fun w1944 hX1945 => od_guard (c := ((!(x1812[(Int.toNat v1834)]!)) = true) ∧ (decide (v1833 < 0)) = false) (val := .bool (decide (p0[(Int.toNat v1834)]!.2.1 < p0[(Int.toNat v1833)]!.2.1))) (b := decide (((!(x1812[(Int.toNat v1834)]!)) = true) ∧ (decide (v1833 < 0)) = false)) (gv_gd rfl rfl rfl) decide_eq_true_iff (fun hc1948 => ?_), ?_⟩
              · have hS1946 := hS1851.ext hX1945
                have hB1947 := hB1850.trans (Ext.stp hX1945 hS1851.base)
                have hcq21 : (¬ ((x1812[(Int.toNat v1834)]!) = true)) ∧ (¬ (v1833 < 0)) := ⟨((i_not Iff.rfl).mp (hc1948).1), i_neg decide_eq_true_iff (hc1948).2⟩
                have hcq20 := (hcq21).1
                exact is_ext (g_lss (a := p0[(Int.toNat v1834)]!.2.1) (b := p0[(Int.toNat v1833)]!.2.1) (if_pos hc1948) (if_pos hc1948))
              refine ⟨if (!(x1812[(Int.toNat v1834)]!)) = true then .bool ((decide (v1833 < 0)) || (decide (p0[(Int.toNat v1834)]!.2.1 < p0[(Int.toNat v1833)]!.2.1))) else undef, fun w1949 hX1950 => od_guard (c := (!(x1812[(Int.toNat v1834)]!)) = true) (val := .bool ((decide (v1833 < 0)) || (decide (p0[(Int.toNat v1834)]!.2.1 < p0[(Int.toNat v1833)]!.2.1)))) (b := ((!(x1812[(Int.toNat v1834)]!)) == true)) (gv_some rfl rfl rfl) beq_iff_eq (fun hc1953 => ?_), ?_⟩
              · have hS1951 := hS1851.ext hX1950
                have hB1952 := hB1850.trans (Ext.stp hX1950 hS1851.base)
                have hcq20 : ¬ ((x1812[(Int.toNat v1834)]!) = true) := ((i_not Iff.rfl).mp hc1953)
                exact is_ext (g_pick_or (b := (decide (v1833 < 0))) (q := (decide (p0[(Int.toNat v1834)]!.2.1 < p0[(Int.toNat v1833)]!.2.1))) (if_pos hc1953) (gd_in hc1953))
              refine ⟨.bool ((!(x1812[(Int.toNat v1834)]!)) && ((decide (v1833 < 0)) || (decide (p0[(Int.toNat v1834)]!.2.1 < p0[(Int.toNat v1833)]!.2.1)))), fun w1954 hX1955 => od_plain rfl (by have hS1956 := hS1851.ext hX1955; have hB1957 := hB1850.trans (Ext.stp hX1955 hS1851.base); exact is_ext (g_pick_and (b := (!(x1812[(Int.toNat v1834)]!))) (q := ((decide (v1833 < 0)) || (decide (p0[(Int.toNat v1834)]!.2.1 < p0[(Int.toNat v1833)]!.2.1)))) rfl rfl)), ?_⟩
              intro w1958 hX1959
              have hB1960 := hB1850.trans (Ext.stp hX1959 hS1851.base)
              have hS1961 := hS1851.ext hX1959
              refine hK1847 _ _ ?_
              refine w_condI (p := ((¬ ((x1812[(Int.toNat v1834)]!) = true)) ∧ (((v1833 < 0) ∨ (p0[(Int.toNat v1834)]!.2.1 < p0[(Int.toNat v1833)]!.2.1))))) (b := ((!(x1812[(Int.toNat v1834)]!)) && ((decide (v1833 < 0)) || (decide (p0[(Int.toNat v1834)]!.2.1 < p0[(Int.toNat v1833)]!.2.1))))) rfl (i_and (i_not Iff.rfl) (i_or decide_eq_true_iff decide_eq_true_iff)) (fun h1962 => ?_) (fun h1962 => ?_)
              · replace hm := hm.1 h1962
                refine w_region ?_
                refine wl_val (g_move (v := .int .i64 v1834) rfl) rfl ?_
                refine wl_val (g_assign (v := .int .i64 v1834) rfl) rfl ?_
                refine wl_nil ?_
                refine hK1846 _ _ ?_
                refine w_region ?_
                refine wl_val (g_move (v := .int .i64 v1834) rfl) rfl ?_
                obtain ⟨hg1963, hm⟩ := hm
                refine wl_val (g_add (a := v1834) (b := 1) rfl rfl hg1963) rfl ?_
                refine wl_val (g_assign (v := .int .i64 (v1834 + 1)) rfl) rfl ?_
                refine wl_nil ?_
                exact ⟨(v1834, (v1834 + 1)), hm.2, ⟨rfl, rfl, rfl, rfl, rfl, rfl, trivial⟩, ⟨hm.1, hB1960, hS1961⟩⟩
              · replace hm := hm.2 h1962
                refine w_skip ?_
                refine hK1846 _ _ ?_
                refine w_region ?_
                refine wl_val (g_move (v := .int .i64 v1834) rfl) rfl ?_
                obtain ⟨hg1964, hm⟩ := hm
                refine wl_val (g_add (a := v1834) (b := 1) rfl rfl hg1964) rfl ?_
                refine wl_val (g_assign (v := .int .i64 (v1834 + 1)) rfl) rfl ?_
                refine wl_nil ?_
                exact ⟨(v1833, (v1834 + 1)), hm.2, ⟨rfl, rfl, rfl, rfl, rfl, rfl, trivial⟩, ⟨hm.1, hB1960, hS1961⟩⟩
            · replace hm := hm.2 h1845
              refine w_exit ?_
              exact ⟨(v1833), ⟨rfl, rfl, rfl, rfl, rfl, trivial⟩, ⟨hm, hB1840, hS1841⟩⟩
          · rintro v1830 b_ w1965 ⟨hm, hB1966, hS1967⟩
            show Wp _ _ _ _ (upds b_ [(0, .slice a0 n0 c0), (3, .slice a21 (Int.toNat (p0.length : Int)) (Int.toNat (p0.length : Int))), (4, .slice a29 (Int.toNat (p0.length : Int)) (Int.toNat (p0.length : Int))), (5, .int .i64 v1813), (6, .int .i64 v1830)]) w1965
            refine w_seq fun K1968 hK1968 => ?_
            refine w_region ?_
            refine wl_val (g_assign (v := .int .i64 0) rfl) rfl ?_
            refine wl_nil ?_
            refine hK1968 _ _ ?_
            refine w_cut (σ := Int) (fun v1969 => [(0, .slice a0 n0 c0), (3, .slice a21 (Int.toNat (p0.length : Int)) (Int.toNat (p0.length : Int))), (4, .slice a29 (Int.toNat (p0.length : Int)) (Int.toNat (p0.length : Int))), (5, .int .i64 v1813), (6, .int .i64 v1830), (8, .int .i64 v1969)]) (fun v1969 w' => m_spec_RailsFor_K1 x1811 x1812 v1830 (m_spec_RailsFor_K3 v1813 (fun x1811' x1812' v1813' => I1815 x1811' x1812' v1813' ∧ μ1816 x1811' x1812' v1813' < μ1816 x1811 x1812 v1813)) v1969 ∧ Below w.heap.size w w' ∧ Sep w' w.heap.size [oS 3 a21 (Int.toNat (p0.length : Int)) (Int.toNat (p0.length : Int)) (x1811 : List Int), oS 4 a29 (Int.toNat (p0.length : Int)) (Int.toNat (p0.length : Int)) (x1812 : List Bool)]) ?_ ?_
            · refine w_seq fun K1971 hK1971 => ?_
              refine w_region ?_
              refine wl_val (g_assign (v := .int .i64 0) rfl) rfl ?_
              refine wl_nil ?_
              refine hK1971 _ _ ?_
              refine w_block ?_
              obtain ⟨I1974, μ1975, h01976, hr1977⟩ := hm
              refine w_for (σ := Int × Int) (fun ⟨v1972, v1973⟩ => [(0, .slice a0 n0 c0), (3, .slice a21 (Int.toNat (p0.length : Int)) (Int.toNat (p0.length : Int))), (4, .slice a29 (Int.toNat (p0.length : Int)) (Int.toNat (p0.length : Int))), (5, .int .i64 v1813), (6, .int .i64 v1830), (8, .int .i64 v1972), (9, .int .i64 v1973)]) (fun ⟨v1972, v1973⟩ w' => I1974 v1972 v1973 ∧ Below w.heap.size w w' ∧ Sep w' w.heap.size [oS 3 a21 (Int.toNat (p0.length : Int)) (Int.toNat (p0.length : Int)) (x1811 : List Int), oS 4 a29 (Int.toNat (p0.length : Int)) (Int.toNat (p0.length : Int)) (x1812 : List Bool)]) (fun ⟨v1972, v1973⟩ => μ1975 v1972 v1973) (0, 0) ⟨rfl, rfl, rfl, rfl, rfl, rfl, rfl, trivial⟩ ⟨h01976, hB1966, hS1967⟩ ?_
              rintro ⟨v1972, v1973⟩ b_ w1978 ⟨hi_, hB1979, hS1980⟩
              show Wp _ _ _ _ (upds b_ [(0, .slice a0 n0 c0), (3, .slice a21 (Int.toNat (p0.length : Int)) (Int.toNat (p0.length : Int))), (4, .slice a29 (Int.toNat (p0.length : Int)) (Int.toNat (p0.length : Int))), (5, .int .i64 v1813), (6, .int .i64 v1830), (8, .int .i64 v1972), (9, .int .i64 v1973)]) w1978
              have hm := hr1977 v1972 v1973 hi_
              refine w_seq fun K1982 hK1982 => ?_
              refine w_seq fun K1983 hK1983 => ?_
              refine w_region ?_
              refine wl_val (g_move (v := .int .i64 v1973) rfl) rfl ?_
              refine wl_val (g_move (v := .slice a0 n0 c0) rfl) rfl ?_
              refine wl_val (q_len SL26 rfl (Vw.len (hp0.bel hB1979))) rfl ?_
              refine wl_val (g_lss (a := v1973) (b := (p0.length : Int)) rfl rfl) rfl ?_
              refine wl_nil ?_
              refine hK1983 _ _ ?_
              refine w_condI (p := v1973 < (p0.length : Int)) (b := (decide (v1973 < (p0.length : Int)))) rfl decide_eq_true_iff (fun h1984 => ?_) (fun h1984 => ?_)
              · replace hm := hm.1 h1984
                refine w_skip ?_
                refine hK1982 _ _ ?_
                refine w_seq fun K1985 hK1985 => ?_
                refine w_block ?_
                refine w_seq fun K1986 hK1986 => ?_
                refine w_draw (X := Ext) (Y := Ext) [] MIX (by decide +kernel) rfl Ext.refl (fun _ _ _ => Ext.trans) (fun _ _ _ => Chg.trans) (fun _ _ h => Ext.chg h _) (fun w1987 hE1988 => ?_)
                have hB1989 := hB1979.trans (Ext.stp hE1988 hS1980.base)
                have hS1990 := hS1980.ext hE1988
                refine ⟨.slice a29 (Int.toNat (p0.length : Int)) (Int.toNat (p0.length : Int)), fun w1991 hX1992 => od_plain rfl (by have hS1993 := hS1990.ext hX1992; have hB1994 := hB1989.trans (Ext.stp hX1992 hS1990.base); exact is_ext (g_move (v := .slice a29 (Int.toNat (p0.length : Int)) (Int.toNat (p0.length : Int))) rfl)), ?_⟩
                refine ⟨.int .i64 v1973, fun w1995 hX1996 => od_plain rfl (by have hS1997 := hS1990.ext hX1996; have hB1998 := hB1989.trans (Ext.stp hX1996 hS1990.base); exact is_ext (g_move (v := .int .i64 v1973) rfl)), ?_⟩
                obtain ⟨hg2003, hm⟩ := hm
                refine ⟨.pointer (some ((adr a29).add ((Int.toNat v1973) * El.m Bool))), fun w1999 hX2000 => od_plain rfl (by have hS2001 := hS1990.ext hX2000; have hB2002 := hB1989.trans (Ext.stp hX2000 hS1990.base); exact is_ext (q_index (i := v1973) SL41 rfl rfl (oS.vw hS2001.g1) hg2003)), ?_⟩
                refine ⟨.bool (x1812[(Int.toNat v1973)]!), fun w2004 hX2005 => od_plain rfl (by have hS2006 := hS1990.ext hX2005; have hB2007 := hB1989.trans (Ext.stp hX2005 hS1990.base); exact is_ext (q_load (i := v1973) (v := .bool (x1812[(Int.toNat v1973)]!)) ON4 (oS.vw hS2006.g1) hg2003 rfl rfl)), ?_⟩
                refine ⟨.bool (x1812[(Int.toNat v1973)]!), fun w2008 hX2009 => od_plain rfl (by have hS2010 := hS1990.ext hX2009; have hB2011 := hB1989.trans (Ext.stp hX2009 hS1990.base); exact is_ext (g_move (v := .bool (x1812[(Int.toNat v1973)]!)) rfl)), ?_⟩
                refine ⟨if (x1812[(Int.toNat v1973)]!) = true then .slice a0 n0 c0 else undef, fun w2012 hX2013 => od_guard (c := (x1812[(Int.toNat v1973)]!) = true) (val := .slice a0 n0 c0) (b := ((x1812[(Int.toNat v1973)]!) == true)) (gv_some rfl rfl rfl) beq_iff_eq (fun hc2016 => ?_), ?_⟩
                · have hS2014 := hS1990.ext hX2013
                  have hB2015 := hB1989.trans (Ext.stp hX2013 hS1990.base)
                  have hcq22 : (x1812[(Int.toNat v1973)]!) = true := (Iff.rfl.mp hc2016)
                  exact is_ext (g_move (v := .slice a0 n0 c0) rfl)
                refine ⟨if (x1812[(Int.toNat v1973)]!) = true then .int .i64 v1973 else undef, fun w2017 hX2018 => od_guard (c := (x1812[(Int.toNat v1973)]!) = true) (val := .int .i64 v1973) (b := ((x1812[(Int.toNat v1973)]!) == true)) (gv_some rfl rfl rfl) beq_iff_eq (fun hc2021 => ?_), ?_⟩
                · have hS2019 := hS1990.ext hX2018
                  have hB2020 := hB1989.trans (Ext.stp hX2018 hS1990.base)
                  have hcq22 : (x1812[(Int.toNat v1973)]!) = true := (Iff.rfl.mp hc2021)
                  exact is_ext (g_move (v := .int .i64 v1973) rfl)
                obtain ⟨hg2027, hm⟩ := hm
                refine ⟨if (x1812[(Int.toNat v1973)]!) = true then .pointer (some ((adr a0).add ((Int.toNat v1973) * El.m Stay))) else undef, fun w2022 hX2023 => od_guard (c := (x1812[(Int.toNat v1973)]!) = true) (val := .pointer (some ((adr a0).add ((Int.toNat v1973) * El.m Stay)))) (b := ((x1812[(Int.toNat v1973)]!) == true)) (gv_some rfl rfl rfl) beq_iff_eq (fun hc2026 => ?_), ?_⟩
                · have hS2024 := hS1990.ext hX2023
                  have hB2025 := hB1989.trans (Ext.stp hX2023 hS1990.base)
                  have hcq22 : (x1812[(Int.toNat v1973)]!) = true := (Iff.rfl.mp hc2026)
                  exact is_ext (q_index (i := v1973) SL26 (if_pos hc2026) (if_pos hc2026) (hp0.bel hB2025) (hg2027 hcq22))
                refine ⟨if (x1812[(Int.toNat v1973)]!) = true then .pointer (some (((adr a0).add ((Int.toNat v1973) * El.m Stay)).add 1)) else undef, fun w2028 hX2029 => od_guard (c := (x1812[(Int.toNat v1973)]!) = true) (val := .pointer (some (((adr a0).add ((Int.toNat v1973) * El.m Stay)).add 1))) (b := ((x1812[(Int.toNat v1973)]!) == true)) (gv_some rfl rfl rfl) beq_iff_eq (fun hc2032 => ?_), ?_⟩
                · have hS2030 := hS1990.ext hX2029
                  have hB2031 := hB1989.trans (Ext.stp hX2029 hS1990.base)
                  have hcq22 : (x1812[(Int.toNat v1973)]!) = true := (Iff.rfl.mp hc2032)
                  exact is_ext (g_fieldAddr (q := (adr a0).add ((Int.toNat v1973) * El.m Stay)) FL39_1 ON3 (if_pos hc2032))
                refine ⟨if (x1812[(Int.toNat v1973)]!) = true then .int .i64 (p0[(Int.toNat v1973)]!.2.1) else undef, fun w2033 hX2034 => od_guard (c := (x1812[(Int.toNat v1973)]!) = true) (val := .int .i64 (p0[(Int.toNat v1973)]!.2.1)) (b := ((x1812[(Int.toNat v1973)]!) == true)) (gv_some rfl rfl rfl) beq_iff_eq (fun hc2037 => ?_), ?_⟩
                · have hS2035 := hS1990.ext hX2034
                  have hB2036 := hB1989.trans (Ext.stp hX2034 hS1990.base)
                  have hcq22 : (x1812[(Int.toNat v1973)]!) = true := (Iff.rfl.mp hc2037)
                  exact is_ext (q_loadF (i := v1973) (j := 1) (v := .int .i64 (p0[(Int.toNat v1973)]!.2.1)) ON3 (hp0.bel hB2036) (hg2027 hcq22) rfl (if_pos hc2037))
                refine ⟨if (x1812[(Int.toNat v1973)]!) = true then .slice a0 n0 c0 else undef, fun w2038 hX2039 => od_guard (c := (x1812[(Int.toNat v1973)]!) = true) (val := .slice a0 n0 c0) (b := ((x1812[(Int.toNat v1973)]!) == true)) (gv_some rfl rfl rfl) beq_iff_eq (fun hc2042 => ?_), ?_⟩
                · have hS2040 := hS1990.ext hX2039
                  have hB2041 := hB1989.trans (Ext.stp hX2039 hS1990.base)
                  have hcq22 : (x1812[(Int.toNat v1973)]!) = true := (Iff.rfl.mp hc2042)
                  exact is_ext (g_move (v := .slice a0 n0 c0) rfl)
                refine ⟨if (x1812[(Int.toNat v1973)]!) = true then .int .i64 v1830 else undef, fun w2043 hX2044 => od_guard (c := (x1812[(Int.toNat v1973)]!) = true) (val := .int .i64 v1830) (b := ((x1812[(Int.toNat v1973)]!) == true)) (gv_some rfl rfl rfl) beq_iff_eq (fun hc2047 => ?_), ?_⟩
                · have hS2045 := hS1990.ext hX2044
                  have hB2046 := hB1989.trans (Ext.stp hX2044 hS1990.base)
                  have hcq22 : (x1812[(Int.toNat v1973)]!) = true := (Iff.rfl.mp hc2047)
                  exact is_ext (g_move (v := .int .i64 v1830) rfl)
                obtain ⟨hg2053, hm⟩ := hm
                refine ⟨if (x1812[(Int.toNat v1973)]!) = true then .pointer (some ((adr a0).add ((Int.toNat v1830) * El.m Stay))) else undef, fun w2048 hX2049 => od_guard (c := (x1812[(Int.toNat v1973)]!) = true) (val := .pointer (some ((adr a0).add ((Int.toNat v1830) * El.m Stay)))) (b := ((x1812[(Int.toNat v1973)]!) == true)) (gv_some rfl rfl rfl) beq_iff_eq (fun hc2052 => ?_), ?_⟩
                · have hS2050 := hS1990.ext hX2049
                  have hB2051 := hB1989.trans (Ext.stp hX2049 hS1990.base)
                  have hcq22 : (x1812[(Int.toNat v1973)]!) = true := (Iff.rfl.mp hc2052)
                  exact is_ext (q_index (i := v1830) SL26 (if_pos hc2052) (if_pos hc2052) (hp0.bel hB2051) (hg2053 hcq22))
                refine ⟨if (x1812[(Int.toNat v1973)]!) = true then .pointer (some (((adr a0).add ((Int.toNat v1830) * El.m Stay)).add 2)) else undef, fun w2054 hX2055 => od_guard (c := (x1812[(Int.toNat v1973)]!) = true) (val := .pointer (some (((adr a0).add ((Int.toNat v1830) * El.m Stay)).add 2))) (b := ((x1812[(Int.toNat v1973)]!) == true)) (gv_some rfl rfl rfl) beq_iff_eq (fun hc2058 => ?_), ?_⟩
                · have hS2056 := hS1990.ext hX2055
                  have hB2057 := hB1989.trans (Ext.stp hX2055 hS1990.base)
                  have hcq22 : (x1812[(Int.toNat v1973)]!) = true := (Iff.rfl.mp hc2058)
                  exact is_ext (g_fieldAddr (q := (adr a0).add ((Int.toNat v1830) * El.m Stay)) FL39_2 ON3 (if_pos hc2058))
                refine ⟨if (x1812[(Int.toNat v1973)]!) = true then .int .i64 (p0[(Int.toNat v1830)]!.2.2) else undef, fun w2059 hX2060 => od_guard (c := (x1812[(Int.toNat v1973)]!) = true) (val := .int .i64 (p0[(Int.toNat v1830)]!.2.2)) (b := ((x1812[(Int.toNat v1973)]!) == true)) (gv_some rfl rfl rfl) beq_iff_eq (fun hc2063 => ?_), ?_⟩
                · have hS2061 := hS1990.ext hX2060
                  have hB2062 := hB1989.trans (Ext.stp hX2060 hS1990.base)
                  have hcq22 : (x1812[(Int.toNat v1973)]!) = true := (Iff.rfl.mp hc2063)
                  exact is_ext (q_loadF (i := v1830) (j := 2) (v := .int .i64 (p0[(Int.toNat v1830)]!.2.2)) ON3 (hp0.bel hB2062) (hg2053 hcq22) rfl (if_pos hc2063))
                refine ⟨if (x1812[(Int.toNat v1973)]!) = true then .bool (decide (p0[(Int.toNat v1973)]!.2.1 < p0[(Int.toNat v1830)]!.2.2)) else undef, fun w2064 hX2065 => od_guard (c := (x1812[(Int.toNat v1973)]!) = true) (val := .bool (decide (p0[(Int.toNat v1973)]!.2.1 < p0[(Int.toNat v1830)]!.2.2))) (b := ((x1812[(Int.toNat v1973)]!) == true)) (gv_some rfl rfl rfl) beq_iff_eq (fun hc2068 => ?_), ?_⟩
                · have hS2066 := hS1990.ext hX2065
                  have hB2067 := hB1989.trans (Ext.stp hX2065 hS1990.base)
                  have hcq22 : (x1812[(Int.toNat v1973)]!) = true := (Iff.rfl.mp hc2068)
                  exact is_ext (g_lss (a := p0[(Int.toNat v1973)]!.2.1) (b := p0[(Int.toNat v1830)]!.2.2) (if_pos hc2068) (if_pos hc2068))
                refine ⟨.bool ((x1812[(Int.toNat v1973)]!) && (decide (p0[(Int.toNat v1973)]!.2.1 < p0[(Int.toNat v1830)]!.2.2))), fun w2069 hX2070 => od_plain rfl (by have hS2071 := hS1990.ext hX2070; have hB2072 := hB1989.trans (Ext.stp hX2070 hS1990.base); exact is_ext (g_pick_and (b := (x1812[(Int.toNat v1973)]!)) (q := (decide (p0[(Int.toNat v1973)]!.2.1 < p0[(Int.toNat v1830)]!.2.2))) rfl rfl)), ?_⟩
                refine ⟨.bool ((x1812[(Int.toNat v1973)]!) && (decide (p0[(Int.toNat v1973)]!.2.1 < p0[(Int.toNat v1830)]!.2.2))), fun w2073 hX2074 => od_plain rfl (by have hS2075 := hS1990.ext hX2074; have hB2076 := hB1989.trans (Ext.stp hX2074 hS1990.base); exact is_ext (g_move (v := .bool ((x1812[(Int.toNat v1973)]!) && (decide (p0[(Int.toNat v1973)]!.2.1 < p0[(Int.toNat v1830)]!.2.2)))) rfl)), ?_⟩
                refine ⟨if ((x1812[(Int.toNat v1973)]!) && (decide (p0[(Int.toNat v1973)]!.2.1 < p0[(Int.toNat v1830)]!.2.2))) = true then .slice a0 n0 c0 else undef, fun w2077 hX2078 => od_guard (c := ((x1812[(Int.toNat v1973)]!) && (decide (p0[(Int.toNat v1973)]!.2.1 < p0[(Int.toNat v1830)]!.2.2))) = true) (val := .slice a0 n0 c0) (b := (((x1812[(Int.toNat v1973)]!) && (decide (p0[(Int.toNat v1973)]!.2.1 < p0[(Int.toNat v1830)]!.2.2))) == true)) (gv_some rfl rfl rfl) beq_iff_eq (fun hc2081 => ?_), ?_⟩
                · have hS2079 := hS1990.ext hX2078
                  have hB2080 := hB1989.trans (Ext.stp hX2078 hS1990.base)
                  have hcq23 : (((x1812[(Int.toNat v1973)]!) = true) ∧ (p0[(Int.toNat v1973)]!.2.1 < p0[(Int.toNat v1830)]!.2.2)) := ((i_and Iff.rfl decide_eq_true_iff).mp hc2081)
                  exact is_ext (g_move (v := .slice a0 n0 c0) rfl)
                refine ⟨if ((x1812[(Int.toNat v1973)]!) && (decide (p0[(Int.toNat v1973)]!.2.1 < p0[(Int.toNat v1830)]!.2.2))) = true then .int .i64 v1830 else undef, fun w2082 hX2083 => od_guard (c := ((x1812[(Int.toNat v1973)]!) && (decide (p0[(Int.toNat v1973)]!.2.1 < p0[(Int.toNat v1830)]!.2.2))) = true) (val := .int .i64 v1830) (b := (((x1812[(Int.toNat v1973)]!) && (decide (p0[(Int.toNat v1973)]!.2.1 < p0[(Int.toNat v1830)]!.2.2))) == true)) (gv_some rfl rfl rfl) beq_iff_eq (fun hc2086 => ?_), ?_⟩
                · have hS2084 := hS1990.ext hX2083
                  have hB2085 := hB1989.trans (Ext.stp hX2083 hS1990.base)
                  have hcq23 : (((x1812[(Int.toNat v1973)]!) = true) ∧ (p0[(Int.toNat v1973)]!.2.1 < p0[(Int.toNat v1830)]!.2.2)) := ((i_and Iff.rfl decide_eq_true_iff).mp hc2086)
                  exact is_ext (g_move (v := .int .i64 v1830) rfl)
                obtain ⟨hg2092, hm⟩ := hm
                refine ⟨if ((x1812[(Int.toNat v1973)]!) && (decide (p0[(Int.toNat v1973)]!.2.1 < p0[(Int.toNat v1830)]!.2.2))) = true then .pointer (some ((adr a0).add ((Int.toNat v1830) * El.m Stay))) else undef, fun w2087 hX2088 => od_guard (c := ((x1812[(Int.toNat v1973)]!) && (decide (p0[(Int.toNat v1973)]!.2.1 < p0[(Int.toNat v1830)]!.2.2))) = true) (val := .pointer (some ((adr a0).add ((Int.toNat v1830) * El.m Stay)))) (b := (((x1812[(Int.toNat v1973)]!) && (decide (p0[(Int.toNat v1973)]!.2.1 < p0[(Int.toNat v1830)]!.2.2))) == true)) (gv_some rfl rfl rfl) beq_iff_eq (fun hc2091 => ?_), ?_⟩
                · have hS2089 := hS1990.ext hX2088
                  have hB2090 := hB1989.trans (Ext.stp hX2088 hS1990.base)
                  have hcq23 : (((x1812[(Int.toNat v1973)]!) = true) ∧ (p0[(Int.toNat v1973)]!.2.1 < p0[(Int.toNat v1830)]!.2.2)) := ((i_and Iff.rfl decide_eq_true_iff).mp hc2091)
                  exact is_ext (q_index (i := v1830) SL26 (if_pos hc2091) (if_pos hc2091) (hp0.bel hB2090) (hg2092 hcq23))
                refine ⟨if ((x1812[(Int.toNat v1973)]!) && (decide (p0[(Int.toNat v1973)]!.2.1 < p0[(Int.toNat v1830)]!.2.2))) = true then .pointer (some (((adr a0).add ((Int.toNat v1830) * El.m Stay)).add 1)) else undef, fun w2093 hX2094 => od_guard (c := ((x1812[(Int.toNat v1973)]!) && (decide (p0[(Int.toNat v1973)]!.2.1 < p0[(Int.toNat v1830)]!.2.2))) = true) (val := .pointer (some (((adr a0).add ((Int.toNat v1830) * El.m Stay)).add 1))) (b := (((x1812[(Int.toNat v1973)]!) && (decide (p0[(Int.toNat v1973)]!.2.1 < p0[(Int.toNat v1830)]!.2.2))) == true)) (gv_some rfl rfl rfl) beq_iff_eq (fun hc2097 => ?_), ?_⟩
                · have hS2095 := hS1990.ext hX2094
                  have hB2096 := hB1989.trans (Ext.stp hX2094 hS1990.base)
                  have hcq23 : (((x1812[(Int.toNat v1973)]!) = true) ∧ (p0[(Int.toNat v1973)]!.2.1 < p0[(Int.toNat v1830)]!.2.2)) := ((i_and Iff.rfl decide_eq_true_iff).mp hc2097)
                  exact is_ext (g_fieldAddr (q := (adr a0).add ((Int.toNat v1830) * El.m Stay)) FL39_1 ON3 (if_pos hc2097))
                refine ⟨if ((x1812[(Int.toNat v1973)]!) && (decide (p0[(Int.toNat v1973)]!.2.1 < p0[(Int.toNat v1830)]!.2.2))) = true then .int .i64 (p0[(Int.toNat v1830)]!.2.1) else undef, fun w2098 hX2099 => od_guard (c := ((x1812[(Int.toNat v1973)]!) && (decide (p0[(Int.toNat v1973)]!.2.1 < p0[(Int.toNat v1830)]!.2.2))) = true) (val := .int .i64 (p0[(Int.toNat v1830)]!.2.1)) (b := (((x1812[(Int.toNat v1973)]!) && (decide (p0[(Int.toNat v1973)]!.2.1 < p0[(Int.toNat v1830)]!.2.2))) == true)) (gv_some rfl rfl rfl) beq_iff_eq (fun hc2102 => ?_), ?_⟩
                · have hS2100 := hS1990.ext hX2099
                  have hB2101 := hB1989.trans (Ext.stp hX2099 hS1990.base)
                  have hcq23 : (((x1812[(Int.toNat v1973)]!) = true) ∧ (p0[(Int.toNat v1973)]!.2.1 < p0[(Int.toNat v1830)]!.2.2)) := ((i_and Iff.rfl decide_eq_true_iff).mp hc2102)
                  exact is_ext (q_loadF (i := v1830) (j := 1) (v := .int .i64 (p0[(Int.toNat v1830)]!.2.1)) ON3 (hp0.bel hB2101) (hg2092 hcq23) rfl (if_pos hc2102))
                refine ⟨if ((x1812[(Int.toNat v1973)]!) && (decide (p0[(Int.toNat v1973)]!.2.1 < p0[(Int.toNat v1830)]!.2.2))) = true then .slice a0 n0 c0 else undef, fun w2103 hX2104 => od_guard (c := ((x1812[(Int.toNat v1973)]!) && (decide (p0[(Int.toNat v1973)]!.2.1 < p0[(Int.toNat v1830)]!.2.2))) = true) (val := .slice a0 n0 c0) (b := (((x1812[(Int.toNat v1973)]!) && (decide (p0[(Int.toNat v1973)]!.2.1 < p0[(Int.toNat v1830)]!.2.2))) == true)) (gv_some rfl rfl rfl) beq_iff_eq (fun hc2107 => ?_), ?_⟩
                · have hS2105 := hS1990.ext hX2104
                  have hB2106 := hB1989.trans (Ext.stp hX2104 hS1990.base)
                  have hcq23 : (((x1812[(Int.toNat v1973)]!) = true) ∧ (p0[(Int.toNat v1973)]!.2.1 < p0[(Int.toNat v1830)]!.2.2)) := ((i_and Iff.rfl decide_eq_true_iff).mp hc2107)
                  exact is_ext (g_move (v := .slice a0 n0 c0) rfl)
                refine ⟨if ((x1812[(Int.toNat v1973)]!) && (decide (p0[(Int.toNat v1973)]!.2.1 < p0[(Int.toNat v1830)]!.2.2))) = true then .int .i64 v1973 else undef, fun w2108 hX2109 => od_guard (c := ((x1812[(Int.toNat v1973)]!) && (decide (p0[(Int.toNat v1973)]!.2.1 < p0[(Int.toNat v1830)]!.2.2))) = true) (val := .int .i64 v1973) (b := (((x1812[(Int.toNat v1973)]!) && (decide (p0[(Int.toNat v1973)]!.2.1 < p0[(Int.toNat v1830)]!.2.2))) == true)) (gv_some rfl rfl rfl) beq_iff_eq (fun hc2112 => ?_), ?_⟩
                · have hS2110 := hS1990.ext hX2109
                  have hB2111 := hB1989.trans (Ext.stp hX2109 hS1990.base)
                  have hcq23 : (((x1812[(Int.toNat v1973)]!) = true) ∧ (p0[(Int.toNat v1973)]!.2.1 < p0[(Int.toNat v1830)]!.2.2)) := ((i_and Iff.rfl decide_eq_true_iff).mp hc2112)
                  exact is_ext (g_move (v := .int .i64 v1973) rfl)
                obtain ⟨hg2118, hm⟩ := hm
                refine ⟨if ((x1812[(Int.toNat v1973)]!) && (decide (p0[(Int.toNat v1973)]!.2.1 < p0[(Int.toNat v1830)]!.2.2))) = true then .pointer (some ((adr a0).add ((Int.toNat v1973) * El.m Stay))) else undef, fun w2113 hX2114 => od_guard (c := ((x1812[(Int.toNat v1973)]!) && (decide (p0[(Int.toNat v1973)]!.2.1 < p0[(Int.toNat v1830)]!.2.2))) = true) (val := .pointer (some ((adr a0).add ((Int.toNat v1973) * El.m Stay)))) (b := (((x1812[(Int.toNat v1973)]!) && (decide (p0[(Int.toNat v1973)]!.2.1 < p0[(Int.toNat v1830)]!.2.2))) == true)) (gv_some rfl rfl rfl) beq_iff_eq (fun hc2117 => ?_), ?_⟩
                · have hS2115 := hS1990.ext hX2114
                  have hB2116 := hB1989.trans (Ext.stp hX2114 hS1990.base)
                  have hcq23 : (((x1812[(Int.toNat v1973)]!) = true) ∧ (p0[(Int.toNat v1973)]!.2.1 < p0[(Int.toNat v1830)]!.2.2)) := ((i_and Iff.rfl decide_eq_true_iff).mp hc2117)
                  exact is_ext (q_index (i := v1973) SL26 (if_pos hc2117) (if_pos hc2117) (hp0.bel hB2116) (hg2118 hcq23))
                refine ⟨if ((x1812[(Int.toNat v1973)]!) && (decide (p0[(Int.toNat v1973)]!.2.1 < p0[(Int.toNat v1830)]!.2.2))) = true then .pointer (some (((adr a0).add ((Int.toNat v1973) * El.m Stay)).add 2)) else undef, fun w2119 hX2120 => od_guard (c := ((x1812[(Int.toNat v1973)]!) && (decide (p0[(Int.toNat v1973)]!.2.1 < p0[(Int.toNat v1830)]!.2.2))) = true) (val := .pointer (some (((adr a0).add ((Int.toNat v1973) * El.m Stay)).add 2))) (b := (((x1812[(Int.toNat v1973)]!) && (decide (p0[(Int.toNat v1973)]!.2.1 < p0[(Int.toNat v1830)]!.2.2))) == true)) (gv_some rfl rfl rfl) beq_iff_eq (fun hc2123 => ?_), ?_⟩
                · have hS2121 := hS1990.ext hX2120
                  have hB2122 := hB1989.trans (Ext.stp hX2120 hS1990.base)
                  have hcq23 : (((x1812[(Int.toNat v1973)]!) = true) ∧ (p0[(Int.toNat v1973)]!.2.1 < p0[(Int.toNat v1830)]!.2.2)) := ((i_and Iff.rfl decide_eq_true_iff).mp hc2123)
                  exact is_ext (g_fieldAddr (q := (adr a0).add ((Int.toNat v1973) * El.m Stay)) FL39_2 ON3 (if_pos hc2123))
                refine ⟨if ((x1812[(Int.toNat v1973)]!) && (decide (p0[(Int.toNat v1973)]!.2.1 < p0[(Int.toNat v1830)]!.2.2))) = true then .int .i64 (p0[(Int.toNat v1973)]!.2.2) else undef, fun w2124 hX2125 => od_guard (c := ((x1812[(Int.toNat v1973)]!) && (decide (p0[(Int.toNat v1973)]!.2.1 < p0[(Int.toNat v1830)]!.2.2))) = true) (val := .int .i64 (p0[(Int.toNat v1973)]!.2.2)) (b := (((x1812[(Int.toNat v1973)]!) && (decide (p0[(Int.toNat v1973)]!.2.1 < p0[(Int.toNat v1830)]!.2.2))) == true)) (gv_some rfl rfl rfl) beq_iff_eq (fun hc2128 => ?_), ?_⟩
                · have hS2126 := hS1990.ext hX2125
                  have hB2127 := hB1989.trans (Ext.stp hX2125 hS1990.base)
                  have hcq23 : (((x1812[(Int.toNat v1973)]!) = true) ∧ (p0[(Int.toNat v1973)]!.2.1 < p0[(Int.toNat v1830)]!.2.2)) := ((i_and Iff.rfl decide_eq_true_iff).mp hc2128)
                  exact is_ext (q_loadF (i := v1973) (j := 2) (v := .int .i64 (p0[(Int.toNat v1973)]!.2.2)) ON3 (hp0.bel hB2127) (hg2118 hcq23) rfl (if_pos hc2128))
                refine ⟨if ((x1812[(Int.toNat v1973)]!) && (decide (p0[(Int.toNat v1973)]!.2.1 < p0[(Int.toNat v1830)]!.2.2))) = true then .bool (decide (p0[(Int.toNat v1830)]!.2.1 < p0[(Int.toNat v1973)]!.2.2)) else undef, fun w2129 hX2130 => od_guard (c := ((x1812[(Int.toNat v1973)]!) && (decide (p0[(Int.toNat v1973)]!.2.1 < p0[(Int.toNat v1830)]!.2.2))) = true) (val := .bool (decide (p0[(Int.toNat v1830)]!.2.1 < p0[(Int.toNat v1973)]!.2.2))) (b := (((x1812[(Int.toNat v1973)]!) && (decide (p0[(Int.toNat v1973)]!.2.1 < p0[(Int.toNat v1830)]!.2.2))) == true)) (gv_some rfl rfl rfl) beq_iff_eq (fun hc2133 => ?_), ?_⟩
                · have hS2131 := hS1990.ext hX2130
                  have hB2132 := hB1989.trans (Ext.stp hX2130 hS1990.base)
                  have hcq23 : (((x1812[(Int.toNat v1973)]!) = true) ∧ (p0[(Int.toNat v1973)]!.2.1 < p0[(Int.toNat v1830)]!.2.2)) := ((i_and Iff.rfl decide_eq_true_iff).mp hc2133)
                  exact is_ext (g_lss (a := p0[(Int.toNat v1830)]!.2.1) (b := p0[(Int.toNat v1973)]!.2.2) (if_pos hc2133) (if_pos hc2133))
                refine ⟨.bool (((x1812[(Int.toNat v1973)]!) && (decide (p0[(Int.toNat v1973)]!.2.1 < p0[(Int.toNat v1830)]!.2.2))) && (decide (p0[(Int.toNat v1830)]!.2.1 < p0[(Int.toNat v1973)]!.2.2))), fun w2134 hX2135 => od_plain rfl (by have hS2136 := hS1990.ext hX2135; have hB2137 := hB1989.trans (Ext.stp hX2135 hS1990.base); exact is_ext (g_pick_and (b := ((x1812[(Int.toNat v1973)]!) && (decide (p0[(Int.toNat v1973)]!.2.1 < p0[(Int.toNat v1830)]!.2.2)))) (q := (decide (p0[(Int.toNat v1830)]!.2.1 < p0[(Int.toNat v1973)]!.2.2))) rfl rfl)), ?_⟩
                intro w2138 hX2139
                have hB2140 := hB1989.trans (Ext.stp hX2139 hS1990.base)
                have hS2141 := hS1990.ext hX2139
                refine hK1986 _ _ ?_
                refine w_condI (p := (((((x1812[(Int.toNat v1973)]!) = true) ∧ (p0[(Int.toNat v1973)]!.2.1 < p0[(Int.toNat v1830)]!.2.2))) ∧ (p0[(Int.toNat v1830)]!.2.1 < p0[(Int.toNat v1973)]!.2.2))) (b := (((x1812[(Int.toNat v1973)]!) && (decide (p0[(Int.toNat v1973)]!.2.1 < p0[(Int.toNat v1830)]!.2.2))) && (decide (p0[(Int.toNat v1830)]!.2.1 < p0[(Int.toNat v1973)]!.2.2)))) rfl (i_and (i_and Iff.rfl decide_eq_true_iff) decide_eq_true_iff) (fun h2142 => ?_) (fun h2142 => ?_)
                · replace hm := hm.1 h2142
                  refine w_region ?_
                  refine wl_val (g_move (v := .int .i64 v1972) rfl) rfl ?_
                  refine wl_val (g_move (v := .slice a21 (Int.toNat (p0.length : Int)) (Int.toNat (p0.length : Int))) rfl) rfl ?_
                  refine wl_val (g_move (v := .int .i64 v1973) rfl) rfl ?_
                  obtain ⟨hg2143, hm⟩ := hm
                  refine wl_val (q_index (i := v1973) SL24 rfl rfl (oS.vw hS2141.g0) hg2143) rfl ?_
                  refine wl_val (q_load (i := v1973) (v := .int .i64 (x1811[(Int.toNat v1973)]!)) ON3 (oS.vw hS2141.g0) hg2143 rfl rfl) rfl ?_
                  obtain ⟨hg2144, hm⟩ := hm
                  obtain ⟨hg2145, hm⟩ := hm
                  refine wl_val (g_shl (a := 1) (b := x1811[(Int.toNat v1973)]!) rfl rfl hg2144 hg2145) rfl ?_
                  obtain ⟨hg2146, hm⟩ := hm
                  refine wl_val (g_bor (a := v1972) (b := (sal 1 (x1811[(Int.toNat v1973)]!))) rfl rfl hg2146) rfl ?_
                  refine wl_val (g_assign (v := .int .i64 (bor v1972 (sal 1 (x1811[(Int.toNat v1973)]!)))) rfl) rfl ?_
                  refine wl_nil ?_
                  refine hK1985 _ _ ?_
                  refine w_region ?_
                  refine wl_val (g_move (v := .int .i64 v1973) rfl) rfl ?_
                  obtain ⟨hg2147, hm⟩ := hm
                  refine wl_val (g_add (a := v1973) (b := 1) rfl rfl hg2147) rfl ?_
                  refine wl_val (g_assign (v := .int .i64 (v1973 + 1)) rfl) rfl ?_
                  refine wl_nil ?_
                  exact ⟨((bor v1972 (sal 1 (x1811[(Int.toNat v1973)]!))), (v1973 + 1)), hm.2, ⟨rfl, rfl, rfl, rfl, rfl, rfl, rfl, trivial⟩, ⟨hm.1, hB2140, hS2141⟩⟩
                · replace hm := hm.2 h2142
                  refine w_skip ?_
                  refine hK1985 _ _ ?_
                  refine w_region ?_
                  refine wl_val (g_move (v := .int .i64 v1973) rfl) rfl ?_
                  obtain ⟨hg2148, hm⟩ := hm
                  refine wl_val (g_add (a := v1973) (b := 1) rfl rfl hg2148) rfl ?_
                  refine wl_val (g_assign (v := .int .i64 (v1973 + 1)) rfl) rfl ?_
                  refine wl_nil ?_
                  exact ⟨(v1972, (v1973 + 1)), hm.2, ⟨rfl, rfl, rfl, rfl, rfl, rfl, rfl, trivial⟩, ⟨hm.1, hB2140, hS2141⟩⟩
              · replace hm := hm.2 h1984
                refine w_exit ?_
                exact ⟨(v1972), ⟨rfl, rfl, rfl, rfl, rfl, rfl, trivial⟩, ⟨hm, hB1979, hS1980⟩⟩
            · rintro v1969 b_ w2149 ⟨hm, hB2150, hS2151⟩
              show Wp _ _ _ _ (upds b_ [(0, .slice a0 n0 c0), (3, .slice a21 (Int.toNat (p0.length : Int)) (Int.toNat (p0.length : Int))), (4, .slice a29 (Int.toNat (p0.length : Int)) (Int.toNat (p0.length : Int))), (5, .int .i64 v1813), (6, .int .i64 v1830), (8, .int .i64 v1969)]) w2149
              refine w_cut (σ := List Int) (fun x2152 => [(0, .slice a0 n0 c0), (3, .slice a21 (Int.toNat (p0.length : Int)) (Int.toNat (p0.length : Int))), (4, .slice a29 (Int.toNat (p0.length : Int)) (Int.toNat (p0.length : Int))), (5, .int .i64 v1813), (6, .int .i64 v1830)]) (fun x2152 w' => m_spec_RailsFor_K0 x1812 v1830 (m_spec_RailsFor_K3 v1813 (fun x1811' x1812' v1813' => I1815 x1811' x1812' v1813' ∧ μ1816 x1811' x1812' v1813' < μ1816 x1811 x1812 v1813)) x2152 ∧ Below w.heap.size w w' ∧ Sep w' w.heap.size [oS 3 a21 (Int.toNat (p0.length : Int)) (Int.toNat (p0.length : Int)) (x2152 : List Int), oS 4 a29 (Int.toNat (p0.length : Int)) (Int.toNat (p0.length : Int)) (x1812 : List Bool)]) ?_ ?_
              · refine w_block ?_
                obtain ⟨I2155, μ2156, h02157, hr2158⟩ := hm
                refine w_for (σ := List Int) (fun x2154 => [(0, .slice a0 n0 c0), (3, .slice a21 (Int.toNat (p0.length : Int)) (Int.toNat (p0.length : Int))), (4, .slice a29 (Int.toNat (p0.length : Int)) (Int.toNat (p0.length : Int))), (5, .int .i64 v1813), (6, .int .i64 v1830), (8, .int .i64 v1969)]) (fun x2154 w' => I2155 x2154 ∧ Below w.heap.size w w' ∧ Sep w' w.heap.size [oS 3 a21 (Int.toNat (p0.length : Int)) (Int.toNat (p0.length : Int)) (x2154 : List Int), oS 4 a29 (Int.toNat (p0.length : Int)) (Int.toNat (p0.length : Int)) (x1812 : List Bool)]) (fun x2154 => μ2156 x2154) (x1811) ⟨rfl, rfl, rfl, rfl, rfl, rfl, trivial⟩ ⟨h02157, hB2150, hS2151⟩ ?_
                rintro x2154 b_ w2159 ⟨hi_, hB2160, hS2161⟩
                show Wp _ _ _ _ (upds b_ [(0, .slice a0 n0 c0), (3, .slice a21 (Int.toNat (p0.length : Int)) (Int.toNat (p0.length : Int))), (4, .slice a29 (Int.toNat (p0.length : Int)) (Int.toNat (p0.length : Int))), (5, .int .i64 v1813), (6, .int .i64 v1830), (8, .int .i64 v1969)]) w2159
                have hm := hr2158 x2154 hi_
                refine w_seq fun K2163 hK2163 => ?_
                refine w_seq fun K2164 hK2164 => ?_
                refine w_region ?_
                refine wl_val (g_move (v := .int .i64 v1969) rfl) rfl ?_
                refine wl_val (g_move (v := .slice a21 (Int.toNat (p0.length : Int)) (Int.toNat (p0.length : Int))) rfl) rfl ?_
                refine wl_val (g_move (v := .int .i64 v1830) rfl) rfl ?_
                obtain ⟨hg2165, hm⟩ := hm
                refine wl_val (q_index (i := v1830) SL24 rfl rfl (oS.vw hS2161.g0) hg2165) rfl ?_
                refine wl_val (q_load (i := v1830) (v := .int .i64 (x2154[(Int.toNat v1830)]!)) ON3 (oS.vw hS2161.g0) hg2165 rfl rfl) rfl ?_
                obtain ⟨hg2166, hm⟩ := hm
                refine wl_val (g_shr (a := v1969) (b := x2154[(Int.toNat v1830)]!) rfl rfl hg2166) rfl ?_
                obtain ⟨hg2167, hm⟩ := hm
                refine wl_val (g_band (a := (sar v1969 (x2154[(Int.toNat v1830)]!))) (b := 1) rfl rfl hg2167) rfl ?_
                refine wl_val (g_eql (a := (band (sar v1969 (x2154[(Int.toNat v1830)]!)) 1)) (b := 1) rfl rfl) rfl ?_
                refine wl_nil ?_
                refine hK2164 _ _ ?_
                refine w_condI (p := (band (sar v1969 (x2154[(Int.toNat v1830)]!)) 1) = 1) (b := (decide ((band (sar v1969 (x2154[(Int.toNat v1830)]!)) 1) = 1))) rfl decide_eq_true_iff (fun h2168 => ?_) (fun h2168 => ?_)
                · replace hm := hm.1 h2168
                  refine w_skip ?_
                  refine hK2163 _ _ ?_
                  refine w_block ?_
                  refine w_region ?_
                  refine wl_val (g_move (v := .slice a21 (Int.toNat (p0.length : Int)) (Int.toNat (p0.length : Int))) rfl) rfl ?_
                  refine wl_val (g_move (v := .int .i64 v1830) rfl) rfl ?_
                  refine wl_val (g_move (v := .slice a21 (Int.toNat (p0.length : Int)) (Int.toNat (p0.length : Int))) rfl) rfl ?_
                  refine wl_val (g_move (v := .int .i64 v1830) rfl) rfl ?_
                  obtain ⟨hg2169, hm⟩ := hm
                  refine wl_val (q_index (i := v1830) SL24 rfl rfl (oS.vw hS2161.g0) hg2169) rfl ?_
                  refine wl_val (q_load (i := v1830) (v := .int .i64 (x2154[(Int.toNat v1830)]!)) ON3 (oS.vw hS2161.g0) hg2169 rfl rfl) rfl ?_
                  obtain ⟨hg2170, hm⟩ := hm
                  refine wl_val (g_add (a := x2154[(Int.toNat v1830)]!) (b := 1) rfl rfl hg2170) rfl ?_
                  obtain ⟨hg2171, hm⟩ := hm
                  refine wl_val (q_index (i := v1830) SL24 rfl rfl (oS.vw hS2161.g0) hg2171) rfl ?_
                  refine wl_step rfl (q_store (i := v1830) (v := ((x2154[(Int.toNat v1830)]! + 1) : Int)) hS2161 ON3.sz hg2171 rfl rfl rfl) ?_
                  rintro _ w2172 ⟨rfl, hS2173, hb2174⟩
                  have hB2175 := hB2160.trans hb2174
                  refine wl_nil ?_
                  exact ⟨((x2154.set (Int.toNat v1830) (x2154[(Int.toNat v1830)]! + 1))), hm.2, ⟨rfl, rfl, rfl, rfl, rfl, rfl, trivial⟩, ⟨hm.1, hB2175, hS2173⟩⟩
                · replace hm := hm.2 h2168
                  refine w_exit ?_
                  exact ⟨(x2154), ⟨rfl, rfl, rfl, rfl, rfl, trivial⟩, ⟨hm, hB2160, hS2161⟩⟩
              · rintro x2152 b_ w2176 ⟨hm, hB2177, hS2178⟩
                show Wp _ _ _ _ (upds b_ [(0, .slice a0 n0 c0), (3, .slice a21 (Int.toNat (p0.length : Int)) (Int.toNat (p0.length : Int))), (4, .slice a29 (Int.toNat (p0.length : Int)) (Int.toNat (p0.length : Int))), (5, .int .i64 v1813), (6, .int .i64 v1830)]) w2176
                refine w_region ?_
                refine wl_val (g_move (v := .slice a29 (Int.toNat (p0.length : Int)) (Int.toNat (p0.length : Int))) rfl) rfl ?_
                refine wl_val (g_move (v := .int .i64 v1830) rfl) rfl ?_
                obtain ⟨hg2179, hm⟩ := hm
                refine wl_val (q_index (i := v1830) SL41 rfl rfl (oS.vw hS2178.g1) hg2179) rfl ?_
                have hS2183 := hS2178.f1
                refine wl_step rfl (q_store (i := v1830) (v := (true : Bool)) hS2183 ON4.sz hg2179 rfl rfl rfl) ?_
                rintro _ w2180 ⟨rfl, hS2181, hb2182⟩
                have hB2184 := hB2177.trans hb2182
                refine wl_nil ?_
                have hS2185 := hS2181.f1
                exact ⟨(x2152, (x1812.set (Int.toNat v1830) true)), ⟨rfl, rfl, rfl, rfl, trivial⟩, ⟨hm, hB2184, hS2185⟩⟩
        · rintro ⟨x1826, x1827⟩ b_ w2186 ⟨hm, hB2187, hS2188⟩
          show Wp _ _ _ _ (upds b_ [(0, .slice a0 n0 c0), (3, .slice a21 (Int.toNat (p0.length : Int)) (Int.toNat (p0.length : Int))), (4, .slice a29 (Int.toNat (p0.length : Int)) (Int.toNat (p0.length : Int))), (5, .int .i64 v1813)]) w2186
          refine w_region ?_
          refine wl_val (g_move (v := .int .i64 v1813) rfl) rfl ?_
          obtain ⟨hg2189, hm⟩ := hm
          refine wl_val (g_add (a := v1813) (b := 1) rfl rfl hg2189) rfl ?_
          refine wl_val (g_assign (v := .int .i64 (v1813 + 1)) rfl) rfl ?_
          refine wl_nil ?_
          exact ⟨(x1826, x1827, (v1813 + 1)), hm.2, ⟨rfl, rfl, rfl, rfl, trivial⟩, ⟨hm.1, hB2187, hS2188⟩⟩
      · replace hm := hm.2 h1825
        refine w_exit ?_
        have hS2190 := hS1821.f1
        have hS2191 := hS2190.tail
        exact ⟨(x1811), ⟨rfl, trivial⟩, ⟨hm, hB1820, hS2191⟩⟩
    · rintro x1808 b_ w2192 ⟨hm, hB2193, hS2194⟩
      show Wp _ _ _ _ (upds b_ [(3, .slice a21 (Int.toNat (p0.length : Int)) (Int.toNat (p0.length : Int)))]) w2192
      refine w_seq fun K2195 hK2195 => ?_
      refine w_region ?_
      refine wl_val (g_move (v := .slice a21 (Int.toNat (p0.length : Int)) (Int.toNat (p0.length : Int))) rfl) rfl ?_
      refine wl_val (g_assign (v := .slice a21 (Int.toNat (p0.length : Int)) (Int.toNat (p0.length : Int))) rfl) rfl ?_
      refine wl_nil ?_
      refine hK2195 _ _ ?_
      refine w_ret ?_
      repeat first | with_reducible refine q_then ?_ | with_reducible refine q_block ?_
      exact ret1 rfl (by decide) ⟨_, _, _, _, hm, rfl, toExt hB2193, hS2194⟩

theorem m_impl_within_fn {w : World}  {Q : Bool → Prop} (p0 : Int) (p1 : Int) (p2 : Int) (hm : m_impl_within p0 p1 p2 Q) :
    Fn Try.prog 31 #[.int .i64 p0, .int .i64 p1, .int .i64 p2] w (fun v w' => ∃ (r0 : Bool), Q r0 ∧ v = .bool r0 ∧ Ext w w') := by
  unfold m_impl_within at hm
  have hB0 := Below.refl w.heap.size w
  have hS0 : Sep w w.heap.size [] := Sep.nil (Nat.le_refl _)
  refine fn_of_wp Try.func31 rfl (by kernel_rfl) (Nat.le_of_ble_eq_true rfl) ?_
  refine w_seq fun K1 hK1 => ?_
  refine w_region ?_
  refine wl_val (g_assign (v := .bool false) rfl) rfl ?_
  refine wl_nil ?_
  refine hK1 _ _ ?_
  refine w_seq fun K2 hK2 => ?_
  refine w_region ?_
  refine wl_val (g_move (v := .int .i64 p0) rfl) rfl ?_
  refine wl_val (g_move (v := .int .i64 p1) rfl) rfl ?_
  refine wl_val (g_geq (a := p0) (b := p1) rfl rfl) rfl ?_
  refine wl_val (g_move (v := .bool (decide (p0 ≥ p1))) rfl) rfl ?_
  refine wl_guard (c := (decide (p0 ≥ p1)) = true) (val := .int .i64 p0) (b := ((decide (p0 ≥ p1)) == true)) (gv_some rfl rfl rfl) beq_iff_eq (fun hc3 => ?_) ?_
  · have hcq0 : p0 ≥ p1 := (decide_eq_true_iff.mp hc3)
    exact g_move (v := .int .i64 p0) rfl
  refine wl_guard (c := (decide (p0 ≥ p1)) = true) (val := .int .i64 p2) (b := ((decide (p0 ≥ p1)) == true)) (gv_some rfl rfl rfl) beq_iff_eq (fun hc4 => ?_) ?_
  · have hcq0 : p0 ≥ p1 := (decide_eq_true_iff.mp hc4)
    exact g_move (v := .int .i64 p2) rfl
  refine wl_guard (c := (decide (p0 ≥ p1)) = true) (val := .bool (decide (p0 ≤ p2))) (b := ((decide (p0 ≥ p1)) == true)) (gv_some rfl rfl rfl) beq_iff_eq (fun hc5 => ?_) ?_
  · have hcq0 : p0 ≥ p1 := (decide_eq_true_iff.mp hc5)
    exact g_leq (a := p0) (b := p2) (if_pos hc5) (if_pos hc5)
  refine wl_val (g_pick_and (b := (decide (p0 ≥ p1))) (q := (decide (p0 ≤ p2))) rfl rfl) rfl ?_
  refine wl_val (g_assign (v := .bool ((decide (p0 ≥ p1)) && (decide (p0 ≤ p2)))) rfl) rfl ?_
  refine wl_nil ?_
  refine hK2 _ _ ?_
  refine w_ret ?_
  repeat first | with_reducible refine q_then ?_ | with_reducible refine q_block ?_
  exact ret1 rfl (by decide) ⟨_, hm, rfl, toExt hB0⟩

theorem m_impl_StaysOk_fn {w : World} {a0 : Option Addr} {n0 c0 : Nat} {p0 : List Stay} {Q : Bool → Prop} (hp0 : Vw w.heap.size w a0 n0 c0 p0) (hm : m_impl_StaysOk p0 Q) :
    Fn Try.prog 22 #[.slice a0 n0 c0] w (fun v w' => ∃ (r0 : Bool), Q r0 ∧ v = .bool r0 ∧ Ext w w') := by
  unfold m_impl_StaysOk at hm
  have hB0 := Below.refl w.heap.size w
  have hS0 : Sep w w.heap.size [] := Sep.nil (Nat.le_refl _)
  refine fn_of_wp Try.func22 rfl (by kernel_rfl) (Nat.le_of_ble_eq_true rfl) ?_
  refine w_seq fun K1 hK1 => ?_
  refine w_region ?_
  refine wl_val (g_assign (v := .bool false) rfl) rfl ?_
  refine wl_nil ?_
  refine hK1 _ _ ?_
  refine w_cut (σ := Unit) (fun _ => [(0, .slice a0 n0 c0)]) (fun _ w' => m_impl_StaysOk_K0 p0 Q ∧ Below w.heap.size w w' ∧ Sep w' w.heap.size []) ?_ ?_
  · refine w_seq fun K3 hK3 => ?_
    refine w_region ?_
    refine wl_val (g_move (v := .slice a0 n0 c0) rfl) rfl ?_
    refine wl_val (q_len SL26 rfl (Vw.len (hp0.bel hB0))) rfl ?_
    refine wl_val (g_move (v := .int .i64 0) rfl) rfl ?_
    refine wl_nil ?_
    refine hK3 _ _ ?_
    refine w_block ?_
    obtain ⟨I50, μ51, h052, hr53⟩ := hm
    refine w_for (σ := Int) (fun v49 => [(0, .slice a0 n0 c0), (5, .slice a0 n0 c0), (6, .int .i64 (p0.length : Int)), (7, .int .i64 v49)]) (fun v49 w' => I50 v49 ∧ Below w.heap.size w w' ∧ Sep w' w.heap.size []) (fun v49 => μ51 v49) (0) ⟨rfl, rfl, rfl, rfl, trivial⟩ ⟨h052, hB0, hS0⟩ ?_
    rintro v49 b_ w54 ⟨hi_, hB55, hS56⟩
    show Wp _ _ _ _ (upds b_ [(0, .slice a0 n0 c0), (5, .slice a0 n0 c0), (6, .int .i64 (p0.length : Int)), (7, .int .i64 v49)]) w54
    have hm := hr53 v49 hi_
    refine w_seq fun K58 hK58 => ?_
    refine w_region ?_
    refine wl_val (g_lss (a := v49) (b := (p0.length : Int)) rfl rfl) rfl ?_
    refine wl_nil ?_
    refine hK58 _ _ ?_
    refine w_seq fun K59 hK59 => ?_
    refine w_condI (p := v49 < (p0.length : Int)) (b := (decide (v49 < (p0.length : Int)))) rfl decide_eq_true_iff (fun h60 => ?_) (fun h60 => ?_)
    · replace hm := hm.1 h60
      refine w_skip ?_
      refine hK59 _ _ ?_
      refine w_seq fun K61 hK61 => ?_
      refine w_block ?_
      refine w_seq fun K62 hK62 => ?_
      refine w_region ?_
      obtain ⟨hg63, hm⟩ := hm
      refine wl_val (q_index (i := v49) SL26 rfl rfl (hp0.bel hB55) hg63) rfl ?_
      refine wl_val (q_loadS (i := v49) (cs := [.int .i64 (p0[(Int.toNat v49)]!.1), .int .i64 (p0[(Int.toNat v49)]!.2.1), .int .i64 (p0[(Int.toNat v49)]!.2.2)]) AG39 (hp0.bel hB55) hg63 rfl rfl) rfl ?_
      refine wl_step rfl (q_alloc (cs := #[.int .i64 0, .int .i64 0, .int .i64 0]) ZR39 rfl hS56) ?_
      rintro _ w64 ⟨g65, rfl, hS67, hE66⟩
      have hB69 := hB55.trans (Ext.stp hE66 hS56.base)
      refine wl_step rfl (q_storeB (i := 0) (bs' := #[.int .i64 (p0[(Int.toNat v49)]!.1), .int .i64 (p0[(Int.toNat v49)]!.2.1), .int .i64 (p0[(Int.toNat v49)]!.2.2)]) (vs := [.int .i64 (p0[(Int.toNat v49)]!.1), .int .i64 (p0[(Int.toNat v49)]!.2.1), .int .i64 (p0[(Int.toNat v49)]!.2.2)]) hS67 AG39.sz rfl rfl rfl (by simp [Value.oneCell']) (Nat.le_of_ble_eq_true rfl) rfl) ?_
      rintro _ w70 ⟨rfl, hS71, hb72⟩
      have hB73 := hB69.trans hb72
      refine wl_nil ?_
      refine hK62 _ _ ?_
      refine w_seq fun K74 hK74 => ?_
      refine w_region ?_
      refine wl_val (g_fieldAddr (q := (⟨g65, 0, none⟩ : Addr)) FL39_0 ON3 rfl) rfl ?_
      refine wl_val (q_loadB (i := 0) (bs := #[.int .i64 (p0[(Int.toNat v49)]!.1), .int .i64 (p0[(Int.toNat v49)]!.2.1), .int .i64 (p0[(Int.toNat v49)]!.2.2)]) hS71.g0 ON3 rfl rfl) rfl ?_
      refine wl_step rfl (g_call (vs := #[.int .i64 (p0[(Int.toNat v49)]!.1), .int .i64 0, .int .i64 6]) CF31 (args3 rfl rfl rfl) (m_impl_within_fn (p0[(Int.toNat v49)]!.1) 0 6 hm)) ?_
      rintro _ w75 ⟨r78, hm, rfl, hE76⟩
      have hB79 := hB73.trans (Ext.stp hE76 hS71.base)
      have hS80 := hS71.ext hE76
      refine wl_val (g_not (a := r78) rfl) rfl ?_
      refine wl_val (g_move (v := .bool (!r78)) rfl) rfl ?_
      refine wl_guard (c := (!r78) = false) (val := .pointer (some (((⟨g65, 0, none⟩ : Addr)).add 1))) (b := ((!r78) == false)) (gv_some rfl rfl rfl) beq_iff_eq (fun hc81 => ?_) ?_
      · have hcq3 : ¬ (¬ (r78 = true)) := (i_neg (i_not Iff.rfl) hc81)
        exact g_fieldAddr (q := (⟨g65, 0, none⟩ : Addr)) FL39_1 ON3 rfl
      refine wl_guard (c := (!r78) = false) (val := .int .i64 (p0[(Int.toNat v49)]!.2.1)) (b := ((!r78) == false)) (gv_some rfl rfl rfl) beq_iff_eq (fun hc82 => ?_) ?_
      · have hcq3 : ¬ (¬ (r78 = true)) := (i_neg (i_not Iff.rfl) hc82)
        exact q_loadB (i := 1) (bs := #[.int .i64 (p0[(Int.toNat v49)]!.1), .int .i64 (p0[(Int.toNat v49)]!.2.1), .int .i64 (p0[(Int.toNat v49)]!.2.2)]) hS80.g0 ON3 (if_pos hc82) rfl
      refine wl_guard (c := (!r78) = false) (val := .bool (decide (p0[(Int.toNat v49)]!.2.1 < 0))) (b := ((!r78) == false)) (gv_some rfl rfl rfl) beq_iff_eq (fun hc83 => ?_) ?_
      · have hcq3 : ¬ (¬ (r78 = true)) := (i_neg (i_not Iff.rfl) hc83)
        exact g_lss (a := p0[(Int.toNat v49)]!.2.1) (b := 0) (if_pos hc83) rfl
      refine wl_val (g_pick_or (b := (!r78)) (q := (decide (p0[(Int.toNat v49)]!.2.1 < 0))) rfl rfl) rfl ?_
      refine wl_val (g_move (v := .bool ((!r78) || (decide (p0[(Int.toNat v49)]!.2.1 < 0)))) rfl) rfl ?_
      refine wl_guard (c := ((!r78) || (decide (p0[(Int.toNat v49)]!.2.1 < 0))) = false) (val := .pointer (some (((⟨g65, 0, none⟩ : Addr)).add 1))) (b := (((!r78) || (decide (p0[(Int.toNat v49)]!.2.1 < 0))) == false)) (gv_some rfl rfl rfl) beq_iff_eq (fun hc84 => ?_) ?_
      · have hcq4 : ¬ (((¬ (r78 = true)) ∨ (p0[(Int.toNat v49)]!.2.1 < 0))) := (i_neg (i_or (i_not Iff.rfl) decide_eq_true_iff) hc84)
        exact g_fieldAddr (q := (⟨g65, 0, none⟩ : Addr)) FL39_1 ON3 rfl
      refine wl_guard (c := ((!r78) || (decide (p0[(Int.toNat v49)]!.2.1 < 0))) = false) (val := .int .i64 (p0[(Int.toNat v49)]!.2.1)) (b := (((!r78) || (decide (p0[(Int.toNat v49)]!.2.1 < 0))) == false)) (gv_some rfl rfl rfl) beq_iff_eq (fun hc85 => ?_) ?_
      · have hcq4 : ¬ (((¬ (r78 = true)) ∨ (p0[(Int.toNat v49)]!.2.1 < 0))) := (i_neg (i_or (i_not Iff.rfl) decide_eq_true_iff) hc85)
        exact q_loadB (i := 1) (bs := #[.int .i64 (p0[(Int.toNat v49)]!.1), .int .i64 (p0[(Int.toNat v49)]!.2.1), .int .i64 (p0[(Int.toNat v49)]!.2.2)]) hS80.g0 ON3 (if_pos hc85) rfl
      refine wl_guard (c := ((!r78) || (decide (p0[(Int.toNat v49)]!.2.1 < 0))) = false) (val := .pointer (some (((⟨g65, 0, none⟩ : Addr)).add 2))) (b := (((!r78) || (decide (p0[(Int.toNat v49)]!.2.1 < 0))) == false)) (gv_some rfl rfl rfl) beq_iff_eq (fun hc86 => ?_) ?_
      · have hcq4 : ¬ (((¬ (r78 = true)) ∨ (p0[(Int.toNat v49)]!.2.1 < 0))) := (i_neg (i_or (i_not Iff.rfl) decide_eq_true_iff) hc86)
        exact g_fieldAddr (q := (⟨g65, 0, none⟩ : Addr)) FL39_2 ON3 rfl
      refine wl_guard (c := ((!r78) || (decide (p0[(Int.toNat v49)]!.2.1 < 0))) = false) (val := .int .i64 (p0[(Int.toNat v49)]!.2.2)) (b := (((!r78) || (decide (p0[(Int.toNat v49)]!.2.1 < 0))) == false)) (gv_some rfl rfl rfl) beq_iff_eq (fun hc87 => ?_) ?_
      · have hcq4 : ¬ (((¬ (r78 = true)) ∨ (p0[(Int.toNat v49)]!.2.1 < 0))) := (i_neg (i_or (i_not Iff.rfl) decide_eq_true_iff) hc87)
        exact q_loadB (i := 2) (bs := #[.int .i64 (p0[(Int.toNat v49)]!.1), .int .i64 (p0[(Int.toNat v49)]!.2.1), .int .i64 (p0[(Int.toNat v49)]!.2.2)]) hS80.g0 ON3 (if_pos hc87) rfl
      refine wl_guard (c := ((!r78) || (decide (p0[(Int.toNat v49)]!.2.1 < 0))) = false) (val := .bool (decide (p0[(Int.toNat v49)]!.2.1 ≥ p0[(Int.toNat v49)]!.2.2))) (b := (((!r78) || (decide (p0[(Int.toNat v49)]!.2.1 < 0))) == false)) (gv_some rfl rfl rfl) beq_iff_eq (fun hc88 => ?_) ?_
      · have hcq4 : ¬ (((¬ (r78 = true)) ∨ (p0[(Int.toNat v49)]!.2.1 < 0))) := (i_neg (i_or (i_not Iff.rfl) decide_eq_true_iff) hc88)
        exact g_geq (a := p0[(Int.toNat v49)]!.2.1) (b := p0[(Int.toNat v49)]!.2.2) (if_pos hc88) (if_pos hc88)
      refine wl_val (g_pick_or (b := ((!r78) || (decide (p0[(Int.toNat v49)]!.2.1 < 0)))) (q := (decide (p0[(Int.toNat v49)]!.2.1 ≥ p0[(Int.toNat v49)]!.2.2))) rfl rfl) rfl ?_
      refine wl_val (g_move (v := .bool (((!r78) || (decide (p0[(Int.toNat v49)]!.2.1 < 0))) || (decide (p0[(Int.toNat v49)]!.2.1 ≥ p0[(Int.toNat v49)]!.2.2)))) rfl) rfl ?_
      refine wl_guard (c := (((!r78) || (decide (p0[(Int.toNat v49)]!.2.1 < 0))) || (decide (p0[(Int.toNat v49)]!.2.1 ≥ p0[(Int.toNat v49)]!.2.2))) = false) (val := .pointer (some (((⟨g65, 0, none⟩ : Addr)).add 2))) (b := ((((!r78) || (decide (p0[(Int.toNat v49)]!.2.1 < 0))) || (decide (p0[(Int.toNat v49)]!.2.1 ≥ p0[(Int.toNat v49)]!.2.2))) == false)) (gv_some rfl rfl rfl) beq_iff_eq (fun hc89 => ?_) ?_
      · have hcq5 : ¬ (((((¬ (r78 = true)) ∨ (p0[(Int.toNat v49)]!.2.1 < 0))) ∨ (p0[(Int.toNat v49)]!.2.1 ≥ p0[(Int.toNat v49)]!.2.2))) := (i_neg (i_or (i_or (i_not Iff.rfl) decide_eq_true_iff) decide_eq_true_iff) hc89)
        exact g_fieldAddr (q := (⟨g65, 0, none⟩ : Addr)) FL39_2 ON3 rfl
      refine wl_guard (c := (((!r78) || (decide (p0[(Int.toNat v49)]!.2.1 < 0))) || (decide (p0[(Int.toNat v49)]!.2.1 ≥ p0[(Int.toNat v49)]!.2.2))) = false) (val := .int .i64 (p0[(Int.toNat v49)]!.2.2)) (b := ((((!r78) || (decide (p0[(Int.toNat v49)]!.2.1 < 0))) || (decide (p0[(Int.toNat v49)]!.2.1 ≥ p0[(Int.toNat v49)]!.2.2))) == false)) (gv_some rfl rfl rfl) beq_iff_eq (fun hc90 => ?_) ?_
      · have hcq5 : ¬ (((((¬ (r78 = true)) ∨ (p0[(Int.toNat v49)]!.2.1 < 0))) ∨ (p0[(Int.toNat v49)]!.2.1 ≥ p0[(Int.toNat v49)]!.2.2))) := (i_neg (i_or (i_or (i_not Iff.rfl) decide_eq_true_iff) decide_eq_true_iff) hc90)
        exact q_loadB (i := 2) (bs := #[.int .i64 (p0[(Int.toNat v49)]!.1), .int .i64 (p0[(Int.toNat v49)]!.2.1), .int .i64 (p0[(Int.toNat v49)]!.2.2)]) hS80.g0 ON3 (if_pos hc90) rfl
      refine wl_guard (c := (((!r78) || (decide (p0[(Int.toNat v49)]!.2.1 < 0))) || (decide (p0[(Int.toNat v49)]!.2.1 ≥ p0[(Int.toNat v49)]!.2.2))) = false) (val := .bool (decide (p0[(Int.toNat v49)]!.2.2 > 1000))) (b := ((((!r78) || (decide (p0[(Int.toNat v49)]!.2.1 < 0))) || (decide (p0[(Int.toNat v49)]!.2.1 ≥ p0[(Int.toNat v49)]!.2.2))) == false)) (gv_some rfl rfl rfl) beq_iff_eq (fun hc91 => ?_) ?_
      · have hcq5 : ¬ (((((¬ (r78 = true)) ∨ (p0[(Int.toNat v49)]!.2.1 < 0))) ∨ (p0[(Int.toNat v49)]!.2.1 ≥ p0[(Int.toNat v49)]!.2.2))) := (i_neg (i_or (i_or (i_not Iff.rfl) decide_eq_true_iff) decide_eq_true_iff) hc91)
        exact g_gtr (a := p0[(Int.toNat v49)]!.2.2) (b := 1000) (if_pos hc91) rfl
      refine wl_val (g_pick_or (b := (((!r78) || (decide (p0[(Int.toNat v49)]!.2.1 < 0))) || (decide (p0[(Int.toNat v49)]!.2.1 ≥ p0[(Int.toNat v49)]!.2.2)))) (q := (decide (p0[(Int.toNat v49)]!.2.2 > 1000))) rfl rfl) rfl ?_
      refine wl_nil ?_
      refine hK74 _ _ ?_
      refine w_condI (p := ((((((¬ (r78 = true)) ∨ (p0[(Int.toNat v49)]!.2.1 < 0))) ∨ (p0[(Int.toNat v49)]!.2.1 ≥ p0[(Int.toNat v49)]!.2.2))) ∨ (p0[(Int.toNat v49)]!.2.2 > 1000))) (b := ((((!r78) || (decide (p0[(Int.toNat v49)]!.2.1 < 0))) || (decide (p0[(Int.toNat v49)]!.2.1 ≥ p0[(Int.toNat v49)]!.2.2))) || (decide (p0[(Int.toNat v49)]!.2.2 > 1000)))) rfl (i_or (i_or (i_or (i_not Iff.rfl) decide_eq_true_iff) decide_eq_true_iff) decide_eq_true_iff) (fun h92 => ?_) (fun h92 => ?_)
      · replace hm := hm.1 h92
        refine w_seq fun K93 hK93 => ?_
        refine w_region ?_
        refine wl_val (g_assign (v := .bool false) rfl) rfl ?_
        refine wl_nil ?_
        refine hK93 _ _ ?_
        refine w_ret ?_
        repeat first | with_reducible refine q_then ?_ | with_reducible refine q_block ?_
        exact ret1 rfl (by decide) ⟨_, hm, rfl, toExt hB79⟩
      · replace hm := hm.2 h92
        refine w_skip ?_
        refine hK61 _ _ ?_
        refine w_region ?_
        obtain ⟨hg94, hm⟩ := hm
        refine wl_val (g_add (a := v49) (b := 1) rfl rfl hg94) rfl ?_
        refine wl_val (g_move (v := .int .i64 (v49 + 1)) rfl) rfl ?_
        refine wl_nil ?_
        have hS95 := hS80.tail
        exact ⟨((v49 + 1)), hm.2, ⟨rfl, rfl, rfl, rfl, trivial⟩, ⟨hm.1, hB79, hS95⟩⟩
    · replace hm := hm.2 h60
      refine w_exit ?_
      exact ⟨(), ⟨rfl, trivial⟩, ⟨hm, hB55, hS56⟩⟩
  · rintro _ b_ w96 ⟨hm, hB97, hS98⟩
    show Wp _ _ _ _ (upds b_ [(0, .slice a0 n0 c0)]) w96
    refine w_seq fun K99 hK99 => ?_
    refine w_region ?_
    refine wl_val (g_move (v := .slice a0 n0 c0) rfl) rfl ?_
    refine wl_val (q_len SL26 rfl (Vw.len (hp0.bel hB97))) rfl ?_
    refine wl_val (g_leq (a := (p0.length : Int)) (b := 20) rfl rfl) rfl ?_
    refine wl_val (g_assign (v := .bool (decide ((p0.length : Int) ≤ 20))) rfl) rfl ?_
    refine wl_nil ?_
    refine hK99 _ _ ?_
    refine w_ret ?_
    repeat first | with_reducible refine q_then ?_ | with_reducible refine q_block ?_
    exact ret1 rfl (by decide) ⟨_, hm, rfl, toExt hB97⟩

theorem m_impl_indexOf_fn {w : World} {a0 : Option Addr} {n0 c0 : Nat} {p0 : List Int} {Q : Int → Prop} (hp0 : Vw w.heap.size w a0 n0 c0 p0) (p1 : Int) (hm : m_impl_indexOf p0 p1 Q) :
    Fn Try.prog 23 #[.slice a0 n0 c0, .int .i64 p1] w (fun v w' => ∃ (r0 : Int), Q r0 ∧ v = .int .i64 r0 ∧ Ext w w') := by
  unfold m_impl_indexOf at hm
  have hB0 := Below.refl w.heap.size w
  have hS0 : Sep w w.heap.size [] := Sep.nil (Nat.le_refl _)
  refine fn_of_wp Try.func23 rfl (by kernel_rfl) (Nat.le_of_ble_eq_true rfl) ?_
  refine w_seq fun K1 hK1 => ?_
  refine w_region ?_
  refine wl_val (g_assign (v := .int .i64 0) rfl) rfl ?_
  refine wl_nil ?_
  refine hK1 _ _ ?_
  refine w_cut (σ := Unit) (fun _ => []) (fun _ w' => m_impl_indexOf_K0 Q ∧ Below w.heap.size w w' ∧ Sep w' w.heap.size []) ?_ ?_
  · refine w_seq fun K3 hK3 => ?_
    refine w_region ?_
    refine wl_val (g_move (v := .slice a0 n0 c0) rfl) rfl ?_
    refine wl_val (q_len SL24 rfl (Vw.len (hp0.bel hB0))) rfl ?_
    refine wl_val (g_move (v := .int .i64 0) rfl) rfl ?_
    refine wl_nil ?_
    refine hK3 _ _ ?_
    refine w_block ?_
    obtain ⟨I23, μ24, h025, hr26⟩ := hm
    refine w_for (σ := Int) (fun v22 => [(1, .int .i64 p1), (7, .slice a0 n0 c0), (8, .int .i64 (p0.length : Int)), (9, .int .i64 v22)]) (fun v22 w' => I23 v22 ∧ Below w.heap.size w w' ∧ Sep w' w.heap.size []) (fun v22 => μ24 v22) (0) ⟨rfl, rfl, rfl, rfl, trivial⟩ ⟨h025, hB0, hS0⟩ ?_
    rintro v22 b_ w27 ⟨hi_, hB28, hS29⟩
    show Wp _ _ _ _ (upds b_ [(1, .int .i64 p1), (7, .slice a0 n0 c0), (8, .int .i64 (p0.length : Int)), (9, .int .i64 v22)]) w27
    have hm := hr26 v22 hi_
    refine w_seq fun K31 hK31 => ?_
    refine w_region ?_
    refine wl_val (g_lss (a := v22) (b := (p0.length : Int)) rfl rfl) rfl ?_
    refine wl_nil ?_
    refine hK31 _ _ ?_
    refine w_seq fun K32 hK32 => ?_
    refine w_condI (p := v22 < (p0.length : Int)) (b := (decide (v22 < (p0.length : Int)))) rfl decide_eq_true_iff (fun h33 => ?_) (fun h33 => ?_)
    · replace hm := hm.1 h33
      refine w_skip ?_
      refine hK32 _ _ ?_
      refine w_seq fun K34 hK34 => ?_
      refine w_block ?_
      refine w_seq fun K35 hK35 => ?_
      refine w_region ?_
      refine wl_val (g_move (v := .int .i64 v22) rfl) rfl ?_
      obtain ⟨hg36, hm⟩ := hm
      refine wl_val (q_index (i := v22) SL24 rfl rfl (hp0.bel hB28) hg36) rfl ?_
      refine wl_val (q_load (i := v22) (v := .int .i64 (p0[(Int.toNat v22)]!)) ON3 (hp0.bel hB28) hg36 rfl rfl) rfl ?_
      refine wl_val (g_assign (v := .int .i64 v22) rfl) rfl ?_
      refine wl_val (g_assign (v := .int .i64 (p0[(Int.toNat v22)]!)) rfl) rfl ?_
      refine wl_nil ?_
      refine hK35 _ _ ?_
      refine w_seq fun K37 hK37 => ?_
      refine w_region ?_
      refine wl_val (g_move (v := .int .i64 (p0[(Int.toNat v22)]!)) rfl) rfl ?_
      refine wl_val (g_move (v := .int .i64 p1) rfl) rfl ?_
      refine wl_val (g_eql (a := p0[(Int.toNat v22)]!) (b := p1) rfl rfl) rfl ?_
      refine wl_nil ?_
      refine hK37 _ _ ?_
      refine w_condI (p := p0[(Int.toNat v22)]! = p1) (b := (decide (p0[(Int.toNat v22)]! = p1))) rfl decide_eq_true_iff (fun h38 => ?_) (fun h38 => ?_)
      · replace hm := hm.1 h38
        refine w_seq fun K39 hK39 => ?_
        refine w_region ?_
        refine wl_val (g_move (v := .int .i64 v22) rfl) rfl ?_
        refine wl_val (g_assign (v := .int .i64 v22) rfl) rfl ?_
        refine wl_nil ?_
        refine hK39 _ _ ?_
        refine w_ret ?_
        repeat first | with_reducible refine q_then ?_ | with_reducible refine q_block ?_
        exact ret1 rfl (by decide) ⟨_, hm, rfl, toExt hB28⟩
      · replace hm := hm.2 h38
        refine w_skip ?_
        refine hK34 _ _ ?_
        refine w_region ?_
        obtain ⟨hg40, hm⟩ := hm
        refine wl_val (g_add (a := v22) (b := 1) rfl rfl hg40) rfl ?_
        refine wl_val (g_move (v := .int .i64 (v22 + 1)) rfl) rfl ?_
        refine wl_nil ?_
        exact ⟨((v22 + 1)), hm.2, ⟨rfl, rfl, rfl, rfl, trivial⟩, ⟨hm.1, hB28, hS29⟩⟩
    · replace hm := hm.2 h33
      refine w_exit ?_
      exact ⟨(), trivial, ⟨hm, hB28, hS29⟩⟩
  · rintro _ b_ w41 ⟨hm, hB42, hS43⟩
    show Wp _ _ _ _ (upds b_ []) w41
    refine w_seq fun K44 hK44 => ?_
    refine w_region ?_
    refine wl_val (g_assign (v := .int .i64 (-1)) rfl) rfl ?_
    refine wl_nil ?_
    refine hK44 _ _ ?_
    refine w_ret ?_
    repeat first | with_reducible refine q_then ?_ | with_reducible refine q_block ?_
    exact ret1 rfl (by decide) ⟨_, hm, rfl, toExt hB42⟩

theorem m_impl_RailsFor_fn {w : World} {a0 : Option Addr} {n0 c0 : Nat} {p0 : List Stay} {Q : (List Int) → Prop} (hp0 : Vw w.heap.size w a0 n0 c0 p0) (hm : m_impl_RailsFor p0 Q) :
    Fn Try.prog 8 #[.slice a0 n0 c0] w (fun v w' => ∃ (r0 : List Int) (a0 : Option Addr) (n0 c0 : Nat), Q r0 ∧ v = .slice a0 n0 c0 ∧ Ext w w' ∧ Sep w' w.heap.size [oS 3 a0 n0 c0 r0]) := by
  unfold m_impl_RailsFor at hm
  have hB0 := Below.refl w.heap.size w
  have hS0 : Sep w w.heap.size [] := Sep.nil (Nat.le_refl _)
  refine fn_of_wp Try.func8 rfl (by kernel_rfl) (Nat.le_of_ble_eq_true rfl) ?_
  refine w_seq fun K1 hK1 => ?_
  refine w_region ?_
  refine wl_val (g_assign (v := .slice none 0 0) rfl) rfl ?_
  refine wl_nil ?_
  refine hK1 _ _ ?_
  refine w_seq fun K2 hK2 => ?_
  refine w_seq fun K3 hK3 => ?_
  refine w_region ?_
  refine wl_val (g_move (v := .slice a0 n0 c0) rfl) rfl ?_
  refine wl_step rfl (g_call (vs := #[.slice a0 n0 c0]) CF22 (args1 rfl) (m_impl_StaysOk_fn ((hp0.bel hB0).up hS0) hm)) ?_
  rintro _ w4 ⟨r7, hm, rfl, hE5⟩
  have hB8 := hB0.trans (Ext.stp hE5 hS0.base)
  have hS9 := hS0.ext hE5
  refine wl_val (g_not (a := r7) rfl) rfl ?_
  refine wl_nil ?_
  refine hK3 _ _ ?_
  refine w_condI (p := ¬ (r7 = true)) (b := (!r7)) rfl (i_not Iff.rfl) (fun h10 => ?_) (fun h10 => ?_)
  · replace hm := hm.1 h10
    refine w_seq fun K11 hK11 => ?_
    refine w_region ?_
    refine wl_val (g_assign (v := .slice none 0 0) rfl) rfl ?_
    refine wl_nil ?_
    refine hK11 _ _ ?_
    refine w_ret ?_
    have hS12 := hS9.nilS (α := Int) (E := 3)
    repeat first | with_reducible refine q_then ?_ | with_reducible refine q_block ?_
    exact ret1 rfl (by decide) ⟨_, _, _, _, hm, rfl, toExt hB8, hS12⟩
  · replace hm := hm.2 h10
    refine w_skip ?_
    refine hK2 _ _ ?_
    refine w_seq fun K14 hK14 => ?_
    refine w_region ?_
    refine wl_step rfl (q_lit0 (α := Int) rfl SL24 hS9) ?_
    rintro _ w15 ⟨a16, rfl, hS18, hE17⟩
    have hB20 := hB8.trans (Ext.stp hE17 hS9.base)
    refine wl_val (g_assign (v := .slice a16 0 0) rfl) rfl ?_
    refine wl_nil ?_
    refine hK14 _ _ ?_
    refine w_cut (σ := List Int × Option Addr × Nat × Nat) (fun ⟨x842, a843, n844, c845⟩ => [(0, .slice a0 n0 c0), (3, .slice a843 n844 c845)]) (fun ⟨x842, a843, n844, c845⟩ w' => m_impl_RailsFor_K5 p0 Q x842 ∧ Below w.heap.size w w' ∧ Sep w' w.heap.size [oS 3 a843 n844 c845 (x842 : List Int)]) ?_ ?_
    · refine w_seq fun K847 hK847 => ?_
      refine w_region ?_
      refine wl_val (g_move (v := .slice a0 n0 c0) rfl) rfl ?_
      refine wl_val (q_len SL26 rfl (Vw.len (hp0.bel hB20))) rfl ?_
      refine wl_val (g_move (v := .int .i64 0) rfl) rfl ?_
      refine wl_nil ?_
      refine hK847 _ _ ?_
      refine w_block ?_
      obtain ⟨I853, μ854, h0855, hr856⟩ := hm
      refine w_for (σ := List Int × Option Addr × Nat × Nat × Int) (fun ⟨x848, a849, n850, c851, v852⟩ => [(0, .slice a0 n0 c0), (3, .slice a849 n850 c851), (17, .slice a0 n0 c0), (18, .int .i64 (p0.length : Int)), (19, .int .i64 v852)]) (fun ⟨x848, a849, n850, c851, v852⟩ w' => I853 x848 v852 ∧ Below w.heap.size w w' ∧ Sep w' w.heap.size [oS 3 a849 n850 c851 (x848 : List Int)]) (fun ⟨x848, a849, n850, c851, v852⟩ => μ854 x848 v852) ([], a16, 0, 0, 0) ⟨rfl, rfl, rfl, rfl, rfl, trivial⟩ ⟨h0855, hB20, hS18⟩ ?_
      rintro ⟨x848, a849, n850, c851, v852⟩ b_ w857 ⟨hi_, hB858, hS859⟩
      show Wp _ _ _ _ (upds b_ [(0, .slice a0 n0 c0), (3, .slice a849 n850 c851), (17, .slice a0 n0 c0), (18, .int .i64 (p0.length : Int)), (19, .int .i64 v852)]) w857
      have hm := hr856 x848 v852 hi_
      refine w_seq fun K861 hK861 => ?_
      refine w_region ?_
      refine wl_val (g_lss (a := v852) (b := (p0.length : Int)) rfl rfl) rfl ?_
      refine wl_nil ?_
      refine hK861 _ _ ?_
      refine w_seq fun K862 hK862 => ?_
      refine w_condI (p := v852 < (p0.length : Int)) (b := (decide (v852 < (p0.length : Int)))) rfl decide_eq_true_iff (fun h863 => ?_) (fun h863 => ?_)
      · replace hm := hm.1 h863
        refine w_skip ?_
        refine hK862 _ _ ?_
        refine w_cut (σ := List Int × Option Addr × Nat × Nat) (fun ⟨x864, a865, n866, c867⟩ => [(0, .slice a0 n0 c0), (3, .slice a865 n866 c867), (17, .slice a0 n0 c0), (18, .int .i64 (p0.length : Int)), (19, .int .i64 v852)]) (fun ⟨x864, a865, n866, c867⟩ w' => m_impl_RailsFor_K1 v852 (fun x848' v852' => I853 x848' v852' ∧ μ854 x848' v852' < μ854 x848 v852) x864 ∧ Below w.heap.size w w' ∧ Sep w' w.heap.size [oS 3 a865 n866 c867 (x864 : List Int)]) ?_ ?_
        · refine w_block ?_
          refine w_seq fun K869 hK869 => ?_
          refine w_region ?_
          refine wl_val (g_move (v := .int .i64 v852) rfl) rfl ?_
          obtain ⟨hg870, hm⟩ := hm
          refine wl_val (q_index (i := v852) SL26 rfl rfl (hp0.bel hB858) hg870) rfl ?_
          refine wl_val (q_loadS (i := v852) (cs := [.int .i64 (p0[(Int.toNat v852)]!.1), .int .i64 (p0[(Int.toNat v852)]!.2.1), .int .i64 (p0[(Int.toNat v852)]!.2.2)]) AG39 (hp0.bel hB858) hg870 rfl rfl) rfl ?_
          refine wl_step rfl (q_alloc (cs := #[.int .i64 0, .int .i64 0, .int .i64 0]) ZR39 rfl hS859) ?_
          rintro _ w871 ⟨g872, rfl, hS874, hE873⟩
          have hB876 := hB858.trans (Ext.stp hE873 hS859.base)
          refine wl_val (g_assign (v := .int .i64 v852) rfl) rfl ?_
          refine wl_step rfl (q_storeB (i := 0) (bs' := #[.int .i64 (p0[(Int.toNat v852)]!.1), .int .i64 (p0[(Int.toNat v852)]!.2.1), .int .i64 (p0[(Int.toNat v852)]!.2.2)]) (vs := [.int .i64 (p0[(Int.toNat v852)]!.1), .int .i64 (p0[(Int.toNat v852)]!.2.1), .int .i64 (p0[(Int.toNat v852)]!.2.2)]) hS874 AG39.sz rfl rfl rfl (by simp [Value.oneCell']) (Nat.le_of_ble_eq_true rfl) rfl) ?_
          rintro _ w877 ⟨rfl, hS878, hb879⟩
          have hB880 := hB876.trans hb879
          refine wl_nil ?_
          refine hK869 _ _ ?_
          refine w_seq fun K881 hK881 => ?_
          refine w_region ?_
          refine wl_val (g_move (v := .slice a849 n850 c851) rfl) rfl ?_
          refine wl_val (q_len SL24 rfl (Vw.len (oS.vw hS878.g1))) rfl ?_
          refine wl_val (g_assign (v := .int .i64 (x848.length : Int)) rfl) rfl ?_
          refine wl_nil ?_
          refine hK881 _ _ ?_
          refine w_cut (σ := Int) (fun v882 => [(0, .slice a0 n0 c0), (3, .slice a849 n850 c851), (4, .int .i64 v852), (6, .int .i64 v882), (17, .slice a0 n0 c0), (18, .int .i64 (p0.length : Int)), (19, .int .i64 v852)]) (fun v882 w' => m_impl_RailsFor_K0 x848 v852 (m_impl_RailsFor_K1 v852 (fun x848' v852' => I853 x848' v852' ∧ μ854 x848' v852' < μ854 x848 v852)) v882 ∧ Below w.heap.size w w' ∧ Sep w' w.heap.size [oS 3 a849 n850 c851 (x848 : List Int)]) ?_ ?_
          · refine w_block ?_
            have hS885 := hS878.f1
            obtain ⟨I886, μ887, h0888, hr889⟩ := hm
            refine w_for (σ := Int) (fun v884 => [(0, .slice a0 n0 c0), (3, .slice a849 n850 c851), (4, .int .i64 v852), (5, .pointer (some (⟨g872, 0, none⟩ : Addr))), (6, .int .i64 v884), (17, .slice a0 n0 c0), (18, .int .i64 (p0.length : Int)), (19, .int .i64 v852)]) (fun v884 w' => I886 v884 ∧ Below w.heap.size w w' ∧ Sep w' w.heap.size [oS 3 a849 n850 c851 (x848 : List Int), oB g872 39 #[.int .i64 (p0[(Int.toNat v852)]!.1), .int .i64 (p0[(Int.toNat v852)]!.2.1), .int .i64 (p0[(Int.toNat v852)]!.2.2)]]) (fun v884 => μ887 v884) ((x848.length : Int)) ⟨rfl, rfl, rfl, rfl, rfl, rfl, rfl, rfl, trivial⟩ ⟨h0888, hB880, hS885⟩ ?_
            rintro v884 b_ w890 ⟨hi_, hB891, hS892⟩
            show Wp _ _ _ _ (upds b_ [(0, .slice a0 n0 c0), (3, .slice a849 n850 c851), (4, .int .i64 v852), (5, .pointer (some (⟨g872, 0, none⟩ : Addr))), (6, .int .i64 v884), (17, .slice a0 n0 c0), (18, .int .i64 (p0.length : Int)), (19, .int .i64 v852)]) w890
            have hm := hr889 v884 hi_
            refine w_seq fun K894 hK894 => ?_
            refine w_seq fun K895 hK895 => ?_
            refine w_draw (X := Ext) (Y := Ext) [] MIX (by decide +kernel) rfl Ext.refl (fun _ _ _ => Ext.trans) (fun _ _ _ => Chg.trans) (fun _ _ h => Ext.chg h _) (fun w896 hE897 => ?_)
            have hB898 := hB891.trans (Ext.stp hE897 hS892.base)
            have hS899 := hS892.ext hE897
            refine ⟨.int .i64 v884, fun w900 hX901 => od_plain rfl (by have hS902 := hS899.ext hX901; have hB903 := hB898.trans (Ext.stp hX901 hS899.base); exact is_ext (g_move (v := .int .i64 v884) rfl)), ?_⟩
            refine ⟨.bool (decide (v884 > 0)), fun w904 hX905 => od_plain rfl (by have hS906 := hS899.ext hX905; have hB907 := hB898.trans (Ext.stp hX905 hS899.base); exact is_ext (g_gtr (a := v884) (b := 0) rfl rfl)), ?_⟩
            refine ⟨.bool (decide (v884 > 0)), fun w908 hX909 => od_plain rfl (by have hS910 := hS899.ext hX909; have hB911 := hB898.trans (Ext.stp hX909 hS899.base); exact is_ext (g_move (v := .bool (decide (v884 > 0))) rfl)), ?_⟩
            refine ⟨if (decide (v884 > 0)) = true then .slice a0 n0 c0 else undef, fun w912 hX913 => od_guard (c := (decide (v884 > 0)) = true) (val := .slice a0 n0 c0) (b := ((decide (v884 > 0)) == true)) (gv_some rfl rfl rfl) beq_iff_eq (fun hc916 => ?_), ?_⟩
            · have hS914 := hS899.ext hX913
              have hB915 := hB898.trans (Ext.stp hX913 hS899.base)
              have hcq5 : v884 > 0 := (decide_eq_true_iff.mp hc916)
              exact is_ext (g_move (v := .slice a0 n0 c0) rfl)
            refine ⟨if (decide (v884 > 0)) = true then .slice a849 n850 c851 else undef, fun w917 hX918 => od_guard (c := (decide (v884 > 0)) = true) (val := .slice a849 n850 c851) (b := ((decide (v884 > 0)) == true)) (gv_some rfl rfl rfl) beq_iff_eq (fun hc921 => ?_), ?_⟩
            · have hS919 := hS899.ext hX918
              have hB920 := hB898.trans (Ext.stp hX918 hS899.base)
              have hcq5 : v884 > 0 := (decide_eq_true_iff.mp hc921)
              exact is_ext (g_move (v := .slice a849 n850 c851) rfl)
            refine ⟨if (decide (v884 > 0)) = true then .int .i64 v884 else undef, fun w922 hX923 => od_guard (c := (decide (v884 > 0)) = true) (val := .int .i64 v884) (b := ((decide (v884 > 0)) == true)) (gv_some rfl rfl rfl) beq_iff_eq (fun hc926 => ?_), ?_⟩
            · have hS924 := hS899.ext hX923
              have hB925 := hB898.trans (Ext.stp hX923 hS899.base)
              have hcq5 : v884 > 0 := (decide_eq_true_iff.mp hc926)
              exact is_ext (g_move (v := .int .i64 v884) rfl)
            obtain ⟨hg932, hm⟩ := hm
            refine ⟨if (decide (v884 > 0)) = true then .int .i64 (v884 - 1) else undef, fun w927 hX928 => od_guard (c := (decide (v884 > 0)) = true) (val := .int .i64 (v884 - 1)) (b := ((decide (v884 > 0)) == true)) (gv_some rfl rfl rfl) beq_iff_eq (fun hc931 => ?_), ?_⟩
            · have hS929 := hS899.ext hX928
              have hB930 := hB898.trans (Ext.stp hX928 hS899.base)
              have hcq5 : v884 > 0 := (decide_eq_true_iff.mp hc931)
              exact is_ext (g_sub (a := v884) (b := 1) (if_pos hc931) rfl (hg932 hcq5))
            obtain ⟨hg938, hm⟩ := hm
            refine ⟨if (decide (v884 > 0)) = true then .pointer (some ((adr a849).add ((Int.toNat (v884 - 1)) * El.m Int))) else undef, fun w933 hX934 => od_guard (c := (decide (v884 > 0)) = true) (val := .pointer (some ((adr a849).add ((Int.toNat (v884 - 1)) * El.m Int)))) (b := ((decide (v884 > 0)) == true)) (gv_some rfl rfl rfl) beq_iff_eq (fun hc937 => ?_), ?_⟩
            · have hS935 := hS899.ext hX934
              have hB936 := hB898.trans (Ext.stp hX934 hS899.base)
              have hcq5 : v884 > 0 := (decide_eq_true_iff.mp hc937)
              exact is_ext (q_index (i := (v884 - 1)) SL24 (if_pos hc937) (if_pos hc937) (oS.vw hS935.g0) (hg938 hcq5))
            refine ⟨if (decide (v884 > 0)) = true then .int .i64 (x848[(Int.toNat (v884 - 1))]!) else undef, fun w939 hX940 => od_guard (c := (decide (v884 > 0)) = true) (val := .int .i64 (x848[(Int.toNat (v884 - 1))]!)) (b := ((decide (v884 > 0)) == true)) (gv_some rfl rfl rfl) beq_iff_eq (fun hc943 => ?_), ?_⟩
            · have hS941 := hS899.ext hX940
              have hB942 := hB898.trans (Ext.stp hX940 hS899.base)
              have hcq5 : v884 > 0 := (decide_eq_true_iff.mp hc943)
              exact is_ext (q_load (i := (v884 - 1)) (v := .int .i64 (x848[(Int.toNat (v884 - 1))]!)) ON3 (oS.vw hS941.g0) (hg938 hcq5) rfl (if_pos hc943))
            obtain ⟨hg949, hm⟩ := hm
            refine ⟨if (decide (v884 > 0)) = true then .pointer (some ((adr a0).add ((Int.toNat (x848[(Int.toNat (v884 - 1))]!)) * El.m Stay))) else undef, fun w944 hX945 => od_guard (c := (decide (v884 > 0)) = true) (val := .pointer (some ((adr a0).add ((Int.toNat (x848[(Int.toNat (v884 - 1))]!)) * El.m Stay)))) (b := ((decide (v884 > 0)) == true)) (gv_some rfl rfl rfl) beq_iff_eq (fun hc948 => ?_), ?_⟩
            · have hS946 := hS899.ext hX945
              have hB947 := hB898.trans (Ext.stp hX945 hS899.base)
              have hcq5 : v884 > 0 := (decide_eq_true_iff.mp hc948)
              exact is_ext (q_index (i := x848[(Int.toNat (v884 - 1))]!) SL26 (if_pos hc948) (if_pos hc948) (hp0.bel hB947) (hg949 hcq5))
            refine ⟨if (decide (v884 > 0)) = true then .pointer (some (((adr a0).add ((Int.toNat (x848[(Int.toNat (v884 - 1))]!)) * El.m Stay)).add 1)) else undef, fun w950 hX951 => od_guard (c := (decide (v884 > 0)) = true) (val := .pointer (some (((adr a0).add ((Int.toNat (x848[(Int.toNat (v884 - 1))]!)) * El.m Stay)).add 1))) (b := ((decide (v884 > 0)) == true)) (gv_some rfl rfl rfl) beq_iff_eq (fun hc954 => ?_), ?_⟩
            · have hS952 := hS899.ext hX951
              have hB953 := hB898.trans (Ext.stp hX951 hS899.base)
              have hcq5 : v884 > 0 := (decide_eq_true_iff.mp hc954)
              exact is_ext (g_fieldAddr (q := (adr a0).add ((Int.toNat (x848[(Int.toNat (v884 - 1))]!)) * El.m Stay)) FL39_1 ON3 (if_pos hc954))
            refine ⟨if (decide (v884 > 0)) = true then .int .i64 (p0[(Int.toNat (x848[(Int.toNat (v884 - 1))]!))]!.2.1) else undef, fun w955 hX956 => od_guard (c := (decide (v884 > 0)) = true) (val := .int .i64 (p0[(Int.toNat (x848[(Int.toNat (v884 - 1))]!))]!.2.1)) (b := ((decide (v884 > 0)) == true)) (gv_some rfl rfl rfl) beq_iff_eq (fun hc959 => ?_), ?_⟩
            · have hS957 := hS899.ext hX956
              have hB958 := hB898.trans (Ext.stp hX956 hS899.base)
              have hcq5 : v884 > 0 := (decide_eq_true_iff.mp hc959)
              exact is_ext (q_loadF (i := x848[(Int.toNat (v884 - 1))]!) (j := 1) (v := .int .i64 (p0[(Int.toNat (x848[(Int.toNat (v884 - 1))]!))]!.2.1)) ON3 (hp0.bel hB958) (hg949 hcq5) rfl (if_pos hc959))
            refine ⟨if (decide (v884 > 0)) = true then .pointer (some (((⟨g872, 0, none⟩ : Addr)).add 1)) else undef, fun w960 hX961 => od_guard (c := (decide (v884 > 0)) = true) (val := .pointer (some (((⟨g872, 0, none⟩ : Addr)).add 1))) (b := ((decide (v884 > 0)) == true)) (gv_some rfl rfl rfl) beq_iff_eq (fun hc964 => ?_), ?_⟩
            · have hS962 := hS899.ext hX961
              have hB963 := hB898.trans (Ext.stp hX961 hS899.base)
              have hcq5 : v884 > 0 := (decide_eq_true_iff.mp hc964)
              exact is_ext (g_fieldAddr (q := (⟨g872, 0, none⟩ : Addr)) FL39_1 ON3 rfl)
            refine ⟨if (decide (v884 > 0)) = true then .int .i64 (p0[(Int.toNat v852)]!.2.1) else undef, fun w965 hX966 => od_guard (c := (decide (v884 > 0)) = true) (val := .int .i64 (p0[(Int.toNat v852)]!.2.1)) (b := ((decide (v884 > 0)) == true)) (gv_some rfl rfl rfl) beq_iff_eq (fun hc969 => ?_), ?_⟩
            · have hS967 := hS899.ext hX966
              have hB968 := hB898.trans (Ext.stp hX966 hS899.base)
              have hcq5 : v884 > 0 := (decide_eq_true_iff.mp hc969)
              exact is_ext (q_loadB (i := 1) (bs := #[.int .i64 (p0[(Int.toNat v852)]!.1), .int .i64 (p0[(Int.toNat v852)]!.2.1), .int .i64 (p0[(Int.toNat v852)]!.2.2)]) hS967.g1 ON3 (if_pos hc969) rfl)
            refine ⟨if (decide (v884 > 0)) = true then .bool (decide (p0[(Int.toNat (x848[(Int.toNat (v884 - 1))]!))]!.2.1 > p0[(Int.toNat v852)]!.2.1)) else undef, fun w970 hX971 => od_guard (c := (decide (v884 > 0)) = true) (val := .bool (decide (p0[(Int.toNat (x848[(Int.toNat (v884 - 1))]!))]!.2.1 > p0[(Int.toNat v852)]!.2.1))) (b := ((decide (v884 > 0)) == true)) (gv_some rfl rfl rfl) beq_iff_eq (fun hc974 => ?_), ?_⟩
            · have hS972 := hS899.ext hX971
              have hB973 := hB898.trans (Ext.stp hX971 hS899.base)
              have hcq5 : v884 > 0 := (decide_eq_true_iff.mp hc974)
              exact is_ext (g_gtr (a := p0[(Int.toNat (x848[(Int.toNat (v884 - 1))]!))]!.2.1) (b := p0[(Int.toNat v852)]!.2.1) (if_pos hc974) (if_pos hc974))
            refine ⟨.bool ((decide (v884 > 0)) && (decide (p0[(Int.toNat (x848[(Int.toNat (v884 - 1))]!))]!.2.1 > p0[(Int.toNat v852)]!.2.1))), fun w975 hX976 => od_plain rfl (by have hS977 := hS899.ext hX976; have hB978 := hB898.trans (Ext.stp hX976 hS899.base); exact is_ext (g_pick_and (b := (decide (v884 > 0))) (q := (decide (p0[(Int.toNat (x848[(Int.toNat (v884 - 1))]!))]!.2.1 > p0[(Int.toNat v852)]!.2.1))) rfl rfl)), ?_⟩
            intro w979 hX980
            have hB981 := hB898.trans (Ext.stp hX980 hS899.base)
            have hS982 := hS899.ext hX980
            refine hK895 _ _ ?_
            refine w_condI (p := ((v884 > 0) ∧ (p0[(Int.toNat (x848[(Int.toNat (v884 - 1))]!))]!.2.1 > p0[(Int.toNat v852)]!.2.1))) (b := ((decide (v884 > 0)) && (decide (p0[(Int.toNat (x848[(Int.toNat (v884 - 1))]!))]!.2.1 > p0[(Int.toNat v852)]!.2.1)))) rfl (i_and decide_eq_true_iff decide_eq_true_iff) (fun h983 => ?_) (fun h983 => ?_)
            · replace hm := hm.1 h983
              refine w_skip ?_
              refine hK894 _ _ ?_
              refine w_block ?_
              refine w_region ?_
              refine wl_val (g_move (v := .int .i64 v884) rfl) rfl ?_
              obtain ⟨hg984, hm⟩ := hm
              refine wl_val (g_sub (a := v884) (b := 1) rfl rfl hg984) rfl ?_
              refine wl_val (g_assign (v := .int .i64 (v884 - 1)) rfl) rfl ?_
              refine wl_nil ?_
              exact ⟨((v884 - 1)), hm.2, ⟨rfl, rfl, rfl, rfl, rfl, rfl, rfl, rfl, trivial⟩, ⟨hm.1, hB981, hS982⟩⟩
            · replace hm := hm.2 h983
              refine w_exit ?_
              have hS985 := hS982.f1
              have hS986 := hS985.tail
              exact ⟨(v884), ⟨rfl, rfl, rfl, rfl, rfl, rfl, rfl, trivial⟩, ⟨hm, hB981, hS986⟩⟩
          · rintro v882 b_ w987 ⟨hm, hB988, hS989⟩
            show Wp _ _ _ _ (upds b_ [(0, .slice a0 n0 c0), (3, .slice a849 n850 c851), (4, .int .i64 v852), (6, .int .i64 v882), (17, .slice a0 n0 c0), (18, .int .i64 (p0.length : Int)), (19, .int .i64 v852)]) w987
            refine w_seq fun K990 hK990 => ?_
            refine w_region ?_
            refine wl_val (g_move (v := .slice a849 n850 c851) rfl) rfl ?_
            refine wl_step rfl (q_lit1 (y := (0 : Int)) SL24 rfl rfl (by decide) hS989) ?_
            rintro _ w991 ⟨a992, rfl, hS994, hE993⟩
            have hB996 := hB988.trans (Ext.stp hE993 hS989.base)
            have hS1002 := hS994.f1
            obtain ⟨hg1003, hm⟩ := hm
            refine wl_step rfl (q_append SL24 rfl rfl hS1002 (oS.vw hS1002.g1) hg1003 (by decide)) ?_
            rintro _ w997 ⟨a998, c999, rfl, hS1001, hb1000⟩
            have hB1004 := hB996.trans hb1000
            refine wl_val (g_assign (v := .slice a998 (n850 + 1) c999) rfl) rfl ?_
            refine wl_nil ?_
            refine hK990 _ _ ?_
            refine w_seq fun K1005 hK1005 => ?_
            refine w_draw (X := Ext) (Y := Ext) [0, 0, 0, 0, 0, 0, 0, 1] MIX (by decide +kernel) rfl Ext.refl (fun _ _ _ => Ext.trans) (fun _ _ _ => Chg.trans) (fun _ _ h => Ext.chg h _) (fun w1006 hE1007 => ?_)
            have hB1008 := hB1004.trans (Ext.stp hE1007 hS1001.base)
            have hS1009 := hS1001.ext hE1007
            refine ⟨.slice a998 (n850 + 1) c999, fun w1010 hX1011 => od_plain rfl (by have hS1012 := hS1009.ext hX1011; have hB1013 := hB1008.trans (Ext.stp hX1011 hS1009.base); exact is_ext (g_move (v := .slice a998 (n850 + 1) c999) rfl)), ?_⟩
            refine ⟨.int .i64 v882, fun w1014 hX1015 => od_plain rfl (by have hS1016 := hS1009.ext hX1015; have hB1017 := hB1008.trans (Ext.stp hX1015 hS1009.base); exact is_ext (g_move (v := .int .i64 v882) rfl)), ?_⟩
            obtain ⟨hg1022, hm⟩ := hm
            refine ⟨.int .i64 (v882 + 1), fun w1018 hX1019 => od_plain rfl (by have hS1020 := hS1009.ext hX1019; have hB1021 := hB1008.trans (Ext.stp hX1019 hS1009.base); exact is_ext (g_add (a := v882) (b := 1) rfl rfl hg1022)), ?_⟩
            obtain ⟨hg1027, hm⟩ := hm
            refine ⟨.slice (if c999 = (Int.toNat (v882 + 1)) then a998 else a998.map (·.add ((Int.toNat (v882 + 1)) * El.m Int))) ((n850 + 1) - (Int.toNat (v882 + 1))) (c999 - (Int.toNat (v882 + 1))), fun w1023 hX1024 => od_plain rfl (by have hS1025 := hS1009.ext hX1024; have hB1026 := hB1008.trans (Ext.stp hX1024 hS1009.base); exact is_ext (q_sliceL (l := (v882 + 1)) SL24 rfl rfl (oS.vw hS1025.g0) hg1027)), ?_⟩
            refine ⟨.slice a998 (n850 + 1) c999, fun w1028 hX1029 => od_plain rfl (by have hS1030 := hS1009.ext hX1029; have hB1031 := hB1008.trans (Ext.stp hX1029 hS1009.base); exact is_ext (g_move (v := .slice a998 (n850 + 1) c999) rfl)), ?_⟩
            refine ⟨.int .i64 v882, fun w1032 hX1033 => od_plain rfl (by have hS1034 := hS1009.ext hX1033; have hB1035 := hB1008.trans (Ext.stp hX1033 hS1009.base); exact is_ext (g_move (v := .int .i64 v882) rfl)), ?_⟩
            obtain ⟨hg1040, hm⟩ := hm
            refine ⟨.slice (if c999 = (Int.toNat v882) then a998 else a998.map (·.add ((Int.toNat v882) * El.m Int))) ((n850 + 1) - (Int.toNat v882)) (c999 - (Int.toNat v882)), fun w1036 hX1037 => od_plain rfl (by have hS1038 := hS1009.ext hX1037; have hB1039 := hB1008.trans (Ext.stp hX1037 hS1009.base); exact is_ext (q_sliceL (l := v882) SL24 rfl rfl (oS.vw hS1038.g0) hg1040)), ?_⟩
            intro w1041 hX1042
            have hB1043 := hB1008.trans (Ext.stp hX1042 hS1009.base)
            have hS1044 := hS1009.ext hX1042
            refine ⟨_, od_plain rfl (q_copy (l := (Int.toNat (v882 + 1))) SL24 hS1044 (tn_le hg1027) rfl rfl (Vw.drop (oS.vw hS1044.g0) (Int.toNat v882) (tn_le hg1040))), ?_⟩
            rintro _ w1045 ⟨rfl, hS1047, hb1046⟩
            have hB1048 := hB1043.trans hb1046
            intro w1049 hX1050
            have hB1051 := hB1048.trans (Ext.stp hX1050 hS1047.base)
            have hS1052 := hS1047.ext hX1050
            refine hK1005 _ _ ?_
            refine w_region ?_
            refine wl_val (g_move (v := .slice a998 (n850 + 1) c999) rfl) rfl ?_
            refine wl_val (g_move (v := .int .i64 v882) rfl) rfl ?_
            refine wl_val (g_move (v := .int .i64 v852) rfl) rfl ?_
            obtain ⟨hg1053, hm⟩ := hm
            refine wl_val (q_index (i := v882) SL24 rfl rfl (oS.vw hS1052.g0) hg1053) rfl ?_
            refine wl_step rfl (q_store (i := v882) (v := (v852 : Int)) hS1052 ON3.sz hg1053 rfl rfl rfl) ?_
            rintro _ w1054 ⟨rfl, hS1055, hb1056⟩
            have hB1057 := hB1051.trans hb1056
            refine wl_nil ?_
            have hS1058 := hS1055.f1
            have hS1059 := hS1058.tail
            exact ⟨(((cpL (x848 ++ ([0])) (Int.toNat (v882 + 1)) ((x848 ++ ([0])).drop (Int.toNat v882))).set (Int.toNat v882) v852), a998, (n850 + 1), c999), ⟨rfl, rfl, rfl, rfl, rfl, trivial⟩, ⟨hm, hB1057, hS1059⟩⟩
        · rintro ⟨x864, a865, n866, c867⟩ b_ w1060 ⟨hm, hB1061, hS1062⟩
          show Wp _ _ _ _ (upds b_ [(0, .slice a0 n0 c0), (3, .slice a865 n866 c867), (17, .slice a0 n0 c0), (18, .int .i64 (p0.length : Int)), (19, .int .i64 v852)]) w1060
          refine w_region ?_
          obtain ⟨hg1063, hm⟩ := hm
          refine wl_val (g_add (a := v852) (b := 1) rfl rfl hg1063) rfl ?_
          refine wl_val (g_move (v := .int .i64 (v852 + 1)) rfl) rfl ?_
          refine wl_nil ?_
          exact ⟨(x864, a865, n866, c867, (v852 + 1)), hm.2, ⟨rfl, rfl, rfl, rfl, rfl, trivial⟩, ⟨hm.1, hB1061, hS1062⟩⟩
      · replace hm := hm.2 h863
        refine w_exit ?_
        exact ⟨(x848, a849, n850, c851), ⟨rfl, rfl, trivial⟩, ⟨hm, hB858, hS859⟩⟩
    · rintro ⟨x842, a843, n844, c845⟩ b_ w1064 ⟨hm, hB1065, hS1066⟩
      show Wp _ _ _ _ (upds b_ [(0, .slice a0 n0 c0), (3, .slice a843 n844 c845)]) w1064
      refine w_seq fun K1067 hK1067 => ?_
      refine w_region ?_
      refine wl_val (g_move (v := .slice a0 n0 c0) rfl) rfl ?_
      refine wl_val (q_len SL26 rfl (Vw.len (hp0.bel hB1065))) rfl ?_
      obtain ⟨hg1068, hm⟩ := hm
      refine wl_step rfl (q_make (y := (0 : Int)) SL24 rfl rfl hg1068.1 hg1068.2 (by decide) hS1066) ?_
      rintro _ w1069 ⟨a1070, rfl, hS1072, hE1071⟩
      have hB1074 := hB1065.trans (Ext.stp hE1071 hS1066.base)
      refine wl_val (g_assign (v := .slice a1070 (Int.toNat (p0.length : Int)) (Int.toNat (p0.length : Int))) rfl) rfl ?_
      refine wl_nil ?_
      refine hK1067 _ _ ?_
      refine w_cut (σ := List Int) (fun x2101 => [(7, .slice a1070 (Int.toNat (p0.length : Int)) (Int.toNat (p0.length : Int)))]) (fun x2101 w' => m_impl_RailsFor_K4 Q x2101 ∧ Below w.heap.size w w' ∧ Sep w' w.heap.size [oS 3 a1070 (Int.toNat (p0.length : Int)) (Int.toNat (p0.length : Int)) (x2101 : List Int)]) ?_ ?_
      · refine w_seq fun K2103 hK2103 => ?_
        refine w_region ?_
        refine wl_val (g_move (v := .slice a843 n844 c845) rfl) rfl ?_
        refine wl_val (q_len SL24 rfl (Vw.len (oS.vw hS1072.g1))) rfl ?_
        refine wl_val (g_move (v := .int .i64 0) rfl) rfl ?_
        refine wl_nil ?_
        refine hK2103 _ _ ?_
        refine w_block ?_
        have hS2106 := hS1072.f1
        obtain ⟨I2107, μ2108, h02109, hr2110⟩ := hm
        refine w_for (σ := List Int × Int) (fun ⟨x2104, v2105⟩ => [(0, .slice a0 n0 c0), (3, .slice a843 n844 c845), (7, .slice a1070 (Int.toNat (p0.length : Int)) (Int.toNat (p0.length : Int))), (63, .slice a843 n844 c845), (64, .int .i64 (x842.length : Int)), (65, .int .i64 v2105)]) (fun ⟨x2104, v2105⟩ w' => I2107 x2104 v2105 ∧ Below w.heap.size w w' ∧ Sep w' w.heap.size [oS 3 a843 n844 c845 (x842 : List Int), oS 3 a1070 (Int.toNat (p0.length : Int)) (Int.toNat (p0.length : Int)) (x2104 : List Int)]) (fun ⟨x2104, v2105⟩ => μ2108 x2104 v2105) (List.replicate (Int.toNat (p0.length : Int)) (0 : Int), 0) ⟨rfl, rfl, rfl, rfl, rfl, rfl, trivial⟩ ⟨h02109, hB1074, hS2106⟩ ?_
        rintro ⟨x2104, v2105⟩ b_ w2111 ⟨hi_, hB2112, hS2113⟩
        show Wp _ _ _ _ (upds b_ [(0, .slice a0 n0 c0), (3, .slice a843 n844 c845), (7, .slice a1070 (Int.toNat (p0.length : Int)) (Int.toNat (p0.length : Int))), (63, .slice a843 n844 c845), (64, .int .i64 (x842.length : Int)), (65, .int .i64 v2105)]) w2111
        have hm := hr2110 x2104 v2105 hi_
        refine w_seq fun K2115 hK2115 => ?_
        refine w_region ?_
        refine wl_val (g_lss (a := v2105) (b := (x842.length : Int)) rfl rfl) rfl ?_
        refine wl_nil ?_
        refine hK2115 _ _ ?_
        refine w_seq fun K2116 hK2116 => ?_
        refine w_condI (p := v2105 < (x842.length : Int)) (b := (decide (v2105 < (x842.length : Int)))) rfl decide_eq_true_iff (fun h2117 => ?_) (fun h2117 => ?_)
        · replace hm := hm.1 h2117
          refine w_skip ?_
          refine hK2116 _ _ ?_
          refine w_cut (σ := List Int) (fun x2118 => [(0, .slice a0 n0 c0), (3, .slice a843 n844 c845), (7, .slice a1070 (Int.toNat (p0.length : Int)) (Int.toNat (p0.length : Int))), (63, .slice a843 n844 c845), (64, .int .i64 (x842.length : Int)), (65, .int .i64 v2105)]) (fun x2118 w' => m_impl_RailsFor_K3 v2105 (fun x2104' v2105' => I2107 x2104' v2105' ∧ μ2108 x2104' v2105' < μ2108 x2104 v2105) x2118 ∧ Below w.heap.size w w' ∧ Sep w' w.heap.size [oS 3 a843 n844 c845 (x842 : List Int), oS 3 a1070 (Int.toNat (p0.length : Int)) (Int.toNat (p0.length : Int)) (x2118 : List Int)]) ?_ ?_
          · refine w_block ?_
            refine w_seq fun K2120 hK2120 => ?_
            refine w_region ?_
            refine wl_val (g_move (v := .int .i64 v2105) rfl) rfl ?_
            obtain ⟨hg2121, hm⟩ := hm
            refine wl_val (q_index (i := v2105) SL24 rfl rfl (oS.vw hS2113.g0) hg2121) rfl ?_
            refine wl_val (q_load (i := v2105) (v := .int .i64 (x842[(Int.toNat v2105)]!)) ON3 (oS.vw hS2113.g0) hg2121 rfl rfl) rfl ?_
            refine wl_val (g_assign (v := .int .i64 v2105) rfl) rfl ?_
            refine wl_val (g_assign (v := .int .i64 (x842[(Int.toNat v2105)]!)) rfl) rfl ?_
            refine wl_nil ?_
            refine hK2120 _ _ ?_
            refine w_seq fun K2122 hK2122 => ?_
            refine w_region ?_
            refine wl_step rfl (q_lit0 (α := Int) rfl SL24 hS2113) ?_
            rintro _ w2123 ⟨a2124, rfl, hS2126, hE2125⟩
            have hB2128 := hB2112.trans (Ext.stp hE2125 hS2113.base)
            refine wl_val (g_assign (v := .slice a2124 0 0) rfl) rfl ?_
            refine wl_nil ?_
            refine hK2122 _ _ ?_
            refine w_cut (σ := List Int × Option Addr × Nat × Nat) (fun ⟨x2129, a2130, n2131, c2132⟩ => [(0, .slice a0 n0 c0), (3, .slice a843 n844 c845), (7, .slice a1070 (Int.toNat (p0.length : Int)) (Int.toNat (p0.length : Int))), (9, .int .i64 (x842[(Int.toNat v2105)]!)), (10, .slice a2130 n2131 c2132), (63, .slice a843 n844 c845), (64, .int .i64 (x842.length : Int)), (65, .int .i64 v2105)]) (fun ⟨x2129, a2130, n2131, c2132⟩ w' => m_impl_RailsFor_K2 x842 x2104 v2105 (m_impl_RailsFor_K3 v2105 (fun x2104' v2105' => I2107 x2104' v2105' ∧ μ2108 x2104' v2105' < μ2108 x2104 v2105)) x2129 ∧ Below w.heap.size w w' ∧ Sep w' w.heap.size [oS 3 a843 n844 c845 (x842 : List Int), oS 3 a1070 (Int.toNat (p0.length : Int)) (Int.toNat (p0.length : Int)) (x2104 : List Int), oS 3 a2130 n2131 c2132 (x2129 : List Int)]) ?_ ?_
            · refine w_seq fun K2134 hK2134 => ?_
              refine w_region ?_
              refine wl_val (g_move (v := .slice a843 n844 c845) rfl) rfl ?_
              refine wl_val (g_move (v := .int .i64 v2105) rfl) rfl ?_
              obtain ⟨hg2135, hm⟩ := hm
              refine wl_val (q_sliceH (h := v2105) SL24 rfl rfl (oS.vw hS2126.g1) hg2135) rfl ?_
              refine wl_val (q_len SL24 rfl (Vw.len (Vw.take (oS.vw hS2126.g1) (Int.toNat v2105) (tn_le hg2135)))) rfl ?_
              refine wl_val (g_move (v := .int .i64 0) rfl) rfl ?_
              refine wl_nil ?_
              refine hK2134 _ _ ?_
              refine w_block ?_
              have hS2141 := hS2126.f2
              have hS2142 := hS2141.f2
              obtain ⟨I2143, μ2144, h02145, hr2146⟩ := hm
              refine w_for (σ := List Int × Option Addr × Nat × Nat × Int) (fun ⟨x2136, a2137, n2138, c2139, v2140⟩ => [(0, .slice a0 n0 c0), (3, .slice a843 n844 c845), (7, .slice a1070 (Int.toNat (p0.length : Int)) (Int.toNat (p0.length : Int))), (9, .int .i64 (x842[(Int.toNat v2105)]!)), (10, .slice a2137 n2138 c2139), (63, .slice a843 n844 c845), (64, .int .i64 (x842.length : Int)), (65, .int .i64 v2105), (73, .slice a843 (Int.toNat v2105) c845), (74, .int .i64 ((x842.take (Int.toNat v2105)).length : Int)), (75, .int .i64 v2140)]) (fun ⟨x2136, a2137, n2138, c2139, v2140⟩ w' => I2143 x2136 v2140 ∧ Below w.heap.size w w' ∧ Sep w' w.heap.size [oS 3 a843 n844 c845 (x842 : List Int), oS 3 a1070 (Int.toNat (p0.length : Int)) (Int.toNat (p0.length : Int)) (x2104 : List Int), oS 3 a2137 n2138 c2139 (x2136 : List Int)]) (fun ⟨x2136, a2137, n2138, c2139, v2140⟩ => μ2144 x2136 v2140) ([], a2124, 0, 0, 0) ⟨rfl, rfl, rfl, rfl, rfl, rfl, rfl, rfl, rfl, rfl, rfl, trivial⟩ ⟨h02145, hB2128, hS2142⟩ ?_
              rintro ⟨x2136, a2137, n2138, c2139, v2140⟩ b_ w2147 ⟨hi_, hB2148, hS2149⟩
              show Wp _ _ _ _ (upds b_ [(0, .slice a0 n0 c0), (3, .slice a843 n844 c845), (7, .slice a1070 (Int.toNat (p0.length : Int)) (Int.toNat (p0.length : Int))), (9, .int .i64 (x842[(Int.toNat v2105)]!)), (10, .slice a2137 n2138 c2139), (63, .slice a843 n844 c845), (64, .int .i64 (x842.length : Int)), (65, .int .i64 v2105), (73, .slice a843 (Int.toNat v2105) c845), (74, .int .i64 ((x842.take (Int.toNat v2105)).length : Int)), (75, .int .i64 v2140)]) w2147
              have hm := hr2146 x2136 v2140 hi_
              refine w_seq fun K2151 hK2151 => ?_
              refine w_region ?_
              refine wl_val (g_lss (a := v2140) (b := ((x842.take (Int.toNat v2105)).length : Int)) rfl rfl) rfl ?_
              refine wl_nil ?_
              refine hK2151 _ _ ?_
              refine w_seq fun K2152 hK2152 => ?_
              refine w_condI (p := v2140 < ((x842.take (Int.toNat v2105)).length : Int)) (b := (decide (v2140 < ((x842.take (Int.toNat v2105)).length : Int)))) rfl decide_eq_true_iff (fun h2153 => ?_) (fun h2153 => ?_)
              · replace hm := hm.1 h2153
                refine w_skip ?_
                refine hK2152 _ _ ?_
                refine w_seq fun K2154 hK2154 => ?_
                refine w_block ?_
                refine w_seq fun K2155 hK2155 => ?_
                refine w_region ?_
                obtain ⟨hg2156, hm⟩ := hm
                refine wl_val (q_index (i := v2140) SL24 rfl rfl (Vw.take (oS.vw hS2149.g0) (Int.toNat v2105) (tn_le hg2135)) hg2156) rfl ?_
                refine wl_val (q_load (i := v2140) (v := .int .i64 ((x842.take (Int.toNat v2105))[(Int.toNat v2140)]!)) ON3 (Vw.take (oS.vw hS2149.g0) (Int.toNat v2105) (tn_le hg2135)) hg2156 rfl rfl) rfl ?_
                refine wl_val (g_assign (v := .int .i64 ((x842.take (Int.toNat v2105))[(Int.toNat v2140)]!)) rfl) rfl ?_
                refine wl_nil ?_
                refine hK2155 _ _ ?_
                refine w_seq fun K2157 hK2157 => ?_
                refine w_draw (X := Ext) (Y := Ext) [] MIX (by decide +kernel) rfl Ext.refl (fun _ _ _ => Ext.trans) (fun _ _ _ => Chg.trans) (fun _ _ h => Ext.chg h _) (fun w2158 hE2159 => ?_)
                have hB2160 := hB2148.trans (Ext.stp hE2159 hS2149.base)
                have hS2161 := hS2149.ext hE2159
                refine ⟨.slice a0 n0 c0, fun w2162 hX2163 => od_plain rfl (by have hS2164 := hS2161.ext hX2163; have hB2165 := hB2160.trans (Ext.stp hX2163 hS2161.base); exact is_ext (g_move (v := .slice a0 n0 c0) rfl)), ?_⟩
                refine ⟨.int .i64 ((x842.take (Int.toNat v2105))[(Int.toNat v2140)]!), fun w2166 hX2167 => od_plain rfl (by have hS2168 := hS2161.ext hX2167; have hB2169 := hB2160.trans (Ext.stp hX2167 hS2161.base); exact is_ext (g_move (v := .int .i64 ((x842.take (Int.toNat v2105))[(Int.toNat v2140)]!)) rfl)), ?_⟩
                obtain ⟨hg2174, hm⟩ := hm
                refine ⟨.pointer (some ((adr a0).add ((Int.toNat ((x842.take (Int.toNat v2105))[(Int.toNat v2140)]!)) * El.m Stay))), fun w2170 hX2171 => od_plain rfl (by have hS2172 := hS2161.ext hX2171; have hB2173 := hB2160.trans (Ext.stp hX2171 hS2161.base); exact is_ext (q_index (i := (x842.take (Int.toNat v2105))[(Int.toNat v2140)]!) SL26 rfl rfl (hp0.bel hB2173) hg2174)), ?_⟩
                refine ⟨.pointer (some (((adr a0).add ((Int.toNat ((x842.take (Int.toNat v2105))[(Int.toNat v2140)]!)) * El.m Stay)).add 1)), fun w2175 hX2176 => od_plain rfl (by have hS2177 := hS2161.ext hX2176; have hB2178 := hB2160.trans (Ext.stp hX2176 hS2161.base); exact is_ext (g_fieldAddr (q := (adr a0).add ((Int.toNat ((x842.take (Int.toNat v2105))[(Int.toNat v2140)]!)) * El.m Stay)) FL39_1 ON3 rfl)), ?_⟩
                refine ⟨.int .i64 (p0[(Int.toNat ((x842.take (Int.toNat v2105))[(Int.toNat v2140)]!))]!.2.1), fun w2179 hX2180 => od_plain rfl (by have hS2181 := hS2161.ext hX2180; have hB2182 := hB2160.trans (Ext.stp hX2180 hS2161.base); exact is_ext (q_loadF (i := (x842.take (Int.toNat v2105))[(Int.toNat v2140)]!) (j := 1) (v := .int .i64 (p0[(Int.toNat ((x842.take (Int.toNat v2105))[(Int.toNat v2140)]!))]!.2.1)) ON3 (hp0.bel hB2182) hg2174 rfl rfl)), ?_⟩
                refine ⟨.slice a0 n0 c0, fun w2183 hX2184 => od_plain rfl (by have hS2185 := hS2161.ext hX2184; have hB2186 := hB2160.trans (Ext.stp hX2184 hS2161.base); exact is_ext (g_move (v := .slice a0 n0 c0) rfl)), ?_⟩
                refine ⟨.int .i64 (x842[(Int.toNat v2105)]!), fun w2187 hX2188 => od_plain rfl (by have hS2189 := hS2161.ext hX2188; have hB2190 := hB2160.trans (Ext.stp hX2188 hS2161.base); exact is_ext (g_move (v := .int .i64 (x842[(Int.toNat v2105)]!)) rfl)), ?_⟩
                obtain ⟨hg2195, hm⟩ := hm
                refine ⟨.pointer (some ((adr a0).add ((Int.toNat (x842[(Int.toNat v2105)]!)) * El.m Stay))), fun w2191 hX2192 => od_plain rfl (by have hS2193 := hS2161.ext hX2192; have hB2194 := hB2160.trans (Ext.stp hX2192 hS2161.base); exact is_ext (q_index (i := x842[(Int.toNat v2105)]!) SL26 rfl rfl (hp0.bel hB2194) hg2195)), ?_⟩
                refine ⟨.pointer (some (((adr a0).add ((Int.toNat (x842[(Int.toNat v2105)]!)) * El.m Stay)).add 2)), fun w2196 hX2197 => od_plain rfl (by have hS2198 := hS2161.ext hX2197; have hB2199 := hB2160.trans (Ext.stp hX2197 hS2161.base); exact is_ext (g_fieldAddr (q := (adr a0).add ((Int.toNat (x842[(Int.toNat v2105)]!)) * El.m Stay)) FL39_2 ON3 rfl)), ?_⟩
                refine ⟨.int .i64 (p0[(Int.toNat (x842[(Int.toNat v2105)]!))]!.2.2), fun w2200 hX2201 => od_plain rfl (by have hS2202 := hS2161.ext hX2201; have hB2203 := hB2160.trans (Ext.stp hX2201 hS2161.base); exact is_ext (q_loadF (i := x842[(Int.toNat v2105)]!) (j := 2) (v := .int .i64 (p0[(Int.toNat (x842[(Int.toNat v2105)]!))]!.2.2)) ON3 (hp0.bel hB2203) hg2195 rfl rfl)), ?_⟩
                refine ⟨.bool (decide (p0[(Int.toNat ((x842.take (Int.toNat v2105))[(Int.toNat v2140)]!))]!.2.1 < p0[(Int.toNat (x842[(Int.toNat v2105)]!))]!.2.2)), fun w2204 hX2205 => od_plain rfl (by have hS2206 := hS2161.ext hX2205; have hB2207 := hB2160.trans (Ext.stp hX2205 hS2161.base); exact is_ext (g_lss (a := p0[(Int.toNat ((x842.take (Int.toNat v2105))[(Int.toNat v2140)]!))]!.2.1) (b := p0[(Int.toNat (x842[(Int.toNat v2105)]!))]!.2.2) rfl rfl)), ?_⟩
                refine ⟨.bool (decide (p0[(Int.toNat ((x842.take (Int.toNat v2105))[(Int.toNat v2140)]!))]!.2.1 < p0[(Int.toNat (x842[(Int.toNat v2105)]!))]!.2.2)), fun w2208 hX2209 => od_plain rfl (by have hS2210 := hS2161.ext hX2209; have hB2211 := hB2160.trans (Ext.stp hX2209 hS2161.base); exact is_ext (g_move (v := .bool (decide (p0[(Int.toNat ((x842.take (Int.toNat v2105))[(Int.toNat v2140)]!))]!.2.1 < p0[(Int.toNat (x842[(Int.toNat v2105)]!))]!.2.2))) rfl)), ?_⟩
                refine ⟨if (decide (p0[(Int.toNat ((x842.take (Int.toNat v2105))[(Int.toNat v2140)]!))]!.2.1 < p0[(Int.toNat (x842[(Int.toNat v2105)]!))]!.2.2)) = true then .slice a0 n0 c0 else undef, fun w2212 hX2213 => od_guard (c := (decide (p0[(Int.toNat ((x842.take (Int.toNat v2105))[(Int.toNat v2140)]!))]!.2.1 < p0[(Int.toNat (x842[(Int.toNat v2105)]!))]!.2.2)) = true) (val := .slice a0 n0 c0) (b := ((decide (p0[(Int.toNat ((x842.take (Int.toNat v2105))[(Int.toNat v2140)]!))]!.2.1 < p0[(Int.toNat (x842[(Int.toNat v2105)]!))]!.2.2)) == true)) (gv_some rfl rfl rfl) beq_iff_eq (fun hc2216 => ?_), ?_⟩
                · have hS2214 := hS2161.ext hX2213
                  have hB2215 := hB2160.trans (Ext.stp hX2213 hS2161.base)
                  have hcq11 : p0[(Int.toNat ((x842.take (Int.toNat v2105))[(Int.toNat v2140)]!))]!.2.1 < p0[(Int.toNat (x842[(Int.toNat v2105)]!))]!.2.2 := (decide_eq_true_iff.mp hc2216)
                  exact is_ext (g_move (v := .slice a0 n0 c0) rfl)
                refine ⟨if (decide (p0[(Int.toNat ((x842.take (Int.toNat v2105))[(Int.toNat v2140)]!))]!.2.1 < p0[(Int.toNat (x842[(Int.toNat v2105)]!))]!.2.2)) = true then .int .i64 (x842[(Int.toNat v2105)]!) else undef, fun w2217 hX2218 => od_guard (c := (decide (p0[(Int.toNat ((x842.take (Int.toNat v2105))[(Int.toNat v2140)]!))]!.2.1 < p0[(Int.toNat (x842[(Int.toNat v2105)]!))]!.2.2)) = true) (val := .int .i64 (x842[(Int.toNat v2105)]!)) (b := ((decide (p0[(Int.toNat ((x842.take (Int.toNat v2105))[(Int.toNat v2140)]!))]!.2.1 < p0[(Int.toNat (x842[(Int.toNat v2105)]!))]!.2.2)) == true)) (gv_some rfl rfl rfl) beq_iff_eq (fun hc2221 => ?_), ?_⟩
                · have hS2219 := hS2161.ext hX2218
                  have hB2220 := hB2160.trans (Ext.stp hX2218 hS2161.base)
                  have hcq11 : p0[(Int.toNat ((x842.take (Int.toNat v2105))[(Int.toNat v2140)]!))]!.2.1 < p0[(Int.toNat (x842[(Int.toNat v2105)]!))]!.2.2 := (decide_eq_true_iff.mp hc2221)
                  exact is_ext (g_move (v := .int .i64 (x842[(Int.toNat v2105)]!)) rfl)
                obtain ⟨hg2227, hm⟩ := hm
                refine ⟨if (decide (p0[(Int.toNat ((x842.take (Int.toNat v2105))[(Int.toNat v2140)]!))]!.2.1 < p0[(Int.toNat (x842[(Int.toNat v2105)]!))]!.2.2)) = true then .pointer (some ((adr a0).add ((Int.toNat (x842[(Int.toNat v2105)]!)) * El.m Stay))) else undef, fun w2222 hX2223 => od_guard (c := (decide (p0[(Int.toNat ((x842.take (Int.toNat v2105))[(Int.toNat v2140)]!))]!.2.1 < p0[(Int.toNat (x842[(Int.toNat v2105)]!))]!.2.2)) = true) (val := .pointer (some ((adr a0).add ((Int.toNat (x842[(Int.toNat v2105)]!)) * El.m Stay)))) (b := ((decide (p0[(Int.toNat ((x842.take (Int.toNat v2105))[(Int.toNat v2140)]!))]!.2.1 < p0[(Int.toNat (x842[(Int.toNat v2105)]!))]!.2.2)) == true)) (gv_some rfl rfl rfl) beq_iff_eq (fun hc2226 => ?_), ?_⟩
                · have hS2224 := hS2161.ext hX2223
                  have hB2225 := hB2160.trans (Ext.stp hX2223 hS2161.base)
                  have hcq11 : p0[(Int.toNat ((x842.take (Int.toNat v2105))[(Int.toNat v2140)]!))]!.2.1 < p0[(Int.toNat (x842[(Int.toNat v2105)]!))]!.2.2 := (decide_eq_true_iff.mp hc2226)
                  exact is_ext (q_index (i := x842[(Int.toNat v2105)]!) SL26 (if_pos hc2226) (if_pos hc2226) (hp0.bel hB2225) (hg2227 hcq11))
                refine ⟨if (decide (p0[(Int.toNat ((x842.take (Int.toNat v2105))[(Int.toNat v2140)]!))]!.2.1 < p0[(Int.toNat (x842[(Int.toNat v2105)]!))]!.2.2)) = true then .pointer (some (((adr a0).add ((Int.toNat (x842[(Int.toNat v2105)]!)) * El.m Stay)).add 1)) else undef, fun w2228 hX2229 => od_guard (c := (decide (p0[(Int.toNat ((x842.take (Int.toNat v2105))[(Int.toNat v2140)]!))]!.2.1 < p0[(Int.toNat (x842[(Int.toNat v2105)]!))]!.2.2)) = true) (val := .pointer (some (((adr a0).add ((Int.toNat (x842[(Int.toNat v2105)]!)) * El.m Stay)).add 1))) (b := ((decide (p0[(Int.toNat ((x842.take (Int.toNat v2105))[(Int.toNat v2140)]!))]!.2.1 < p0[(Int.toNat (x842[(Int.toNat v2105)]!))]!.2.2)) == true)) (gv_some rfl rfl rfl) beq_iff_eq (fun hc2232 => ?_), ?_⟩
                · have hS2230 := hS2161.ext hX2229
                  have hB2231 := hB2160.trans (Ext.stp hX2229 hS2161.base)
                  have hcq11 : p0[(Int.toNat ((x842.take (Int.toNat v2105))[(Int.toNat v2140)]!))]!.2.1 < p0[(Int.toNat (x842[(Int.toNat v2105)]!))]!.2.2 := (decide_eq_true_iff.mp hc2232)
                  exact is_ext (g_fieldAddr (q := (adr a0).add ((Int.toNat (x842[(Int.toNat v2105)]!)) * El.m Stay)) FL39_1 ON3 (if_pos hc2232))
                refine ⟨if (decide (p0[(Int.toNat ((x842.take (Int.toNat v2105))[(Int.toNat v2140)]!))]!.2.1 < p0[(Int.toNat (x842[(Int.toNat v2105)]!))]!.2.2)) = true then .int .i64 (p0[(Int.toNat (x842[(Int.toNat v2105)]!))]!.2.1) else undef, fun w2233 hX2234 => od_guard (c := (decide (p0[(Int.toNat ((x842.take (Int.toNat v2105))[(Int.toNat v2140)]!))]!.2.1 < p0[(Int.toNat (x842[(Int.toNat v2105)]!))]!.2.2)) = true) (val := .int .i64 (p0[(Int.toNat (x842[(Int.toNat v2105)]!))]!.2.1)) (b := ((decide (p0[(Int.toNat ((x842.take (Int.toNat v2105))[(Int.toNat v2140)]!))]!.2.1 < p0[(Int.toNat (x842[(Int.toNat v2105)]!))]!.2.2)) == true)) (gv_some rfl rfl rfl) beq_iff_eq (fun hc2237 => ?_), ?_⟩
                · have hS2235 := hS2161.ext hX2234
                  have hB2236 := hB2160.trans (Ext.stp hX2234 hS2161.base)
                  have hcq11 : p0[(Int.toNat ((x842.take (Int.toNat v2105))[(Int.toNat v2140)]!))]!.2.1 < p0[(Int.toNat (x842[(Int.toNat v2105)]!))]!.2.2 := (decide_eq_true_iff.mp hc2237)
                  exact is_ext (q_loadF (i := x842[(Int.toNat v2105)]!) (j := 1) (v := .int .i64 (p0[(Int.toNat (x842[(Int.toNat v2105)]!))]!.2.1)) ON3 (hp0.bel hB2236) (hg2227 hcq11) rfl (if_pos hc2237))
                refine ⟨if (decide (p0[(Int.toNat ((x842.take (Int.toNat v2105))[(Int.toNat v2140)]!))]!.2.1 < p0[(Int.toNat (x842[(Int.toNat v2105)]!))]!.2.2)) = true then .slice a0 n0 c0 else undef, fun w2238 hX2239 => od_guard (c := (decide (p0[(Int.toNat ((x842.take (Int.toNat v2105))[(Int.toNat v2140)]!))]!.2.1 < p0[(Int.toNat (x842[(Int.toNat v2105)]!))]!.2.2)) = true) (val := .slice a0 n0 c0) (b := ((decide (p0[(Int.toNat ((x842.take (Int.toNat v2105))[(Int.toNat v2140)]!))]!.2.1 < p0[(Int.toNat (x842[(Int.toNat v2105)]!))]!.2.2)) == true)) (gv_some rfl rfl rfl) beq_iff_eq (fun hc2242 => ?_), ?_⟩
                · have hS2240 := hS2161.ext hX2239
                  have hB2241 := hB2160.trans (Ext.stp hX2239 hS2161.base)
                  have hcq11 : p0[(Int.toNat ((x842.take (Int.toNat v2105))[(Int.toNat v2140)]!))]!.2.1 < p0[(Int.toNat (x842[(Int.toNat v2105)]!))]!.2.2 := (decide_eq_true_iff.mp hc2242)
                  exact is_ext (g_move (v := .slice a0 n0 c0) rfl)
                refine ⟨if (decide (p0[(Int.toNat ((x842.take (Int.toNat v2105))[(Int.toNat v2140)]!))]!.2.1 < p0[(Int.toNat (x842[(Int.toNat v2105)]!))]!.2.2)) = true then .int .i64 ((x842.take (Int.toNat v2105))[(Int.toNat v2140)]!) else undef, fun w2243 hX2244 => od_guard (c := (decide (p0[(Int.toNat ((x842.take (Int.toNat v2105))[(Int.toNat v2140)]!))]!.2.1 < p0[(Int.toNat (x842[(Int.toNat v2105)]!))]!.2.2)) = true) (val := .int .i64 ((x842.take (Int.toNat v2105))[(Int.toNat v2140)]!)) (b := ((decide (p0[(Int.toNat ((x842.take (Int.toNat v2105))[(Int.toNat v2140)]!))]!.2.1 < p0[(Int.toNat (x842[(Int.toNat v2105)]!))]!.2.2)) == true)) (gv_some rfl rfl rfl) beq_iff_eq (fun hc2247 => ?_), ?_⟩
                · have hS2245 := hS2161.ext hX2244
                  have hB2246 := hB2160.trans (Ext.stp hX2244 hS2161.base)
                  have hcq11 : p0[(Int.toNat ((x842.take (Int.toNat v2105))[(Int.toNat v2140)]!))]!.2.1 < p0[(Int.toNat (x842[(Int.toNat v2105)]!))]!.2.2 := (decide_eq_true_iff.mp hc2247)
                  exact is_ext (g_move (v := .int .i64 ((x842.take (Int.toNat v2105))[(Int.toNat v2140)]!)) rfl)
                obtain ⟨hg2253, hm⟩ := hm
                refine ⟨if (decide (p0[(Int.toNat ((x842.take (Int.toNat v2105))[(Int.toNat v2140)]!))]!.2.1 < p0[(Int.toNat (x842[(Int.toNat v2105)]!))]!.2.2)) = true then .pointer (some ((adr a0).add ((Int.toNat ((x842.take (Int.toNat v2105))[(Int.toNat v2140)]!)) * El.m Stay))) else undef, fun w2248 hX2249 => od_guard (c := (decide (p0[(Int.toNat ((x842.take (Int.toNat v2105))[(Int.toNat v2140)]!))]!.2.1 < p0[(Int.toNat (x842[(Int.toNat v2105)]!))]!.2.2)) = true) (val := .pointer (some ((adr a0).add ((Int.toNat ((x842.take (Int.toNat v2105))[(Int.toNat v2140)]!)) * El.m Stay)))) (b := ((decide (p0[(Int.toNat ((x842.take (Int.toNat v2105))[(Int.toNat v2140)]!))]!.2.1 < p0[(Int.toNat (x842[(Int.toNat v2105)]!))]!.2.2)) == true)) (gv_some rfl rfl rfl) beq_iff_eq (fun hc2252 => ?_), ?_⟩
                · have hS2250 := hS2161.ext hX2249
                  have hB2251 := hB2160.trans (Ext.stp hX2249 hS2161.base)
                  have hcq11 : p0[(Int.toNat ((x842.take (Int.toNat v2105))[(Int.toNat v2140)]!))]!.2.1 < p0[(Int.toNat (x842[(Int.toNat v2105)]!))]!.2.2 := (decide_eq_true_iff.mp hc2252)
                  exact is_ext (q_index (i := (x842.take (Int.toNat v2105))[(Int.toNat v2140)]!) SL26 (if_pos hc2252) (if_pos hc2252) (hp0.bel hB2251) (hg2253 hcq11))
                refine ⟨if (decide (p0[(Int.toNat ((x842.take (Int.toNat v2105))[(Int.toNat v2140)]!))]!.2.1 < p0[(Int.toNat (x842[(Int.toNat v2105)]!))]!.2.2)) = true then .pointer (some (((adr a0).add ((Int.toNat ((x842.take (Int.toNat v2105))[(Int.toNat v2140)]!)) * El.m Stay)).add 2)) else undef, fun w2254 hX2255 => od_guard (c := (decide (p0[(Int.toNat ((x842.take (Int.toNat v2105))[(Int.toNat v2140)]!))]!.2.1 < p0[(Int.toNat (x842[(Int.toNat v2105)]!))]!.2.2)) = true) (val := .pointer (some (((adr a0).add ((Int.toNat ((x842.take (Int.toNat v2105))[(Int.toNat v2140)]!)) * El.m Stay)).add 2))) (b := ((decide (p0[(Int.toNat ((x842.take (Int.toNat v2105))[(Int.toNat v2140)]!))]!.2.1 < p0[(Int.toNat (x842[(Int.toNat v2105)]!))]!.2.2)) == true)) (gv_some rfl rfl rfl) beq_iff_eq (fun hc2258 => ?_), ?_⟩
                · have hS2256 := hS2161.ext hX2255
                  have hB2257 := hB2160.trans (Ext.stp hX2255 hS2161.base)
                  have hcq11 : p0[(Int.toNat ((x842.take (Int.toNat v2105))[(Int.toNat v2140)]!))]!.2.1 < p0[(Int.toNat (x842[(Int.toNat v2105)]!))]!.2.2 := (decide_eq_true_iff.mp hc2258)
                  exact is_ext (g_fieldAddr (q := (adr a0).add ((Int.toNat ((x842.take (Int.toNat v2105))[(Int.toNat v2140)]!)) * El.m Stay)) FL39_2 ON3 (if_pos hc2258))
                refine ⟨if (decide (p0[(Int.toNat ((x842.take (Int.toNat v2105))[(Int.toNat v2140)]!))]!.2.1 < p0[(Int.toNat (x842[(Int.toNat v2105)]!))]!.2.2)) = true then .int .i64 (p0[(Int.toNat ((x842.take (Int.toNat v2105))[(Int.toNat v2140)]!))]!.2.2) else undef, fun w2259 hX2260 => od_guard (c := (decide (p0[(Int.toNat ((x842.take (Int.toNat v2105))[(Int.toNat v2140)]!))]!.2.1 < p0[(Int.toNat (x842[(Int.toNat v2105)]!))]!.2.2)) = true) (val := .int .i64 (p0[(Int.toNat ((x842.take (Int.toNat v2105))[(Int.toNat v2140)]!))]!.2.2)) (b := ((decide (p0[(Int.toNat ((x842.take (Int.toNat v2105))[(Int.toNat v2140)]!))]!.2.1 < p0[(Int.toNat (x842[(Int.toNat v2105)]!))]!.2.2)) == true)) (gv_some rfl rfl rfl) beq_iff_eq (fun hc2263 => ?_), ?_⟩
                · have hS2261 := hS2161.ext hX2260
                  have hB2262 := hB2160.trans (Ext.stp hX2260 hS2161.base)
                  have hcq11 : p0[(Int.toNat ((x842.take (Int.toNat v2105))[(Int.toNat v2140)]!))]!.2.1 < p0[(Int.toNat (x842[(Int.toNat v2105)]!))]!.2.2 := (decide_eq_true_iff.mp hc2263)
                  exact is_ext (q_loadF (i := (x842.take (Int.toNat v2105))[(Int.toNat v2140)]!) (j := 2) (v := .int .i64 (p0[(Int.toNat ((x842.take (Int.toNat v2105))[(Int.toNat v2140)]!))]!.2.2)) ON3 (hp0.bel hB2262) (hg2253 hcq11) rfl (if_pos hc2263))
                refine ⟨if (decide (p0[(Int.toNat ((x842.take (Int.toNat v2105))[(Int.toNat v2140)]!))]!.2.1 < p0[(Int.toNat (x842[(Int.toNat v2105)]!))]!.2.2)) = true then .bool (decide (p0[(Int.toNat (x842[(Int.toNat v2105)]!))]!.2.1 < p0[(Int.toNat ((x842.take (Int.toNat v2105))[(Int.toNat v2140)]!))]!.2.2)) else undef, fun w2264 hX2265 => od_guard (c := (decide (p0[(Int.toNat ((x842.take (Int.toNat v2105))[(Int.toNat v2140)]!))]!.2.1 < p0[(Int.toNat (x842[(Int.toNat v2105)]!))]!.2.2)) = true) (val := .bool (decide (p0[(Int.toNat (x842[(Int.toNat v2105)]!))]!.2.1 < p0[(Int.toNat ((x842.take (Int.toNat v2105))[(Int.toNat v2140)]!))]!.2.2))) (b := ((decide (p0[(Int.toNat ((x842.take (Int.toNat v2105))[(Int.toNat v2140)]!))]!.2.1 < p0[(Int.toNat (x842[(Int.toNat v2105)]!))]!.2.2)) == true)) (gv_some rfl rfl rfl) beq_iff_eq (fun hc2268 => ?_), ?_⟩
                · have hS2266 := hS2161.ext hX2265
                  have hB2267 := hB2160.trans (Ext.stp hX2265 hS2161.base)
                  have hcq11 : p0[(Int.toNat ((x842.take (Int.toNat v2105))[(Int.toNat v2140)]!))]!.2.1 < p0[(Int.toNat (x842[(Int.toNat v2105)]!))]!.2.2 := (decide_eq_true_iff.mp hc2268)
                  exact is_ext (g_lss (a := p0[(Int.toNat (x842[(Int.toNat v2105)]!))]!.2.1) (b := p0[(Int.toNat ((x842.take (Int.toNat v2105))[(Int.toNat v2140)]!))]!.2.2) (if_pos hc2268) (if_pos hc2268))
                refine ⟨.bool ((decide (p0[(Int.toNat ((x842.take (Int.toNat v2105))[(Int.toNat v2140)]!))]!.2.1 < p0[(Int.toNat (x842[(Int.toNat v2105)]!))]!.2.2)) && (decide (p0[(Int.toNat (x842[(Int.toNat v2105)]!))]!.2.1 < p0[(Int.toNat ((x842.take (Int.toNat v2105))[(Int.toNat v2140)]!))]!.2.2))), fun w2269 hX2270 => od_plain rfl (by have hS2271 := hS2161.ext hX2270; have hB2272 := hB2160.trans (Ext.stp hX2270 hS2161.base); exact is_ext (g_pick_and (b := (decide (p0[(Int.toNat ((x842.take (Int.toNat v2105))[(Int.toNat v2140)]!))]!.2.1 < p0[(Int.toNat (x842[(Int.toNat v2105)]!))]!.2.2))) (q := (decide (p0[(Int.toNat (x842[(Int.toNat v2105)]!))]!.2.1 < p0[(Int.toNat ((x842.take (Int.toNat v2105))[(Int.toNat v2140)]!))]!.2.2))) rfl rfl)), ?_⟩
                intro w2273 hX2274
                have hB2275 := hB2160.trans (Ext.stp hX2274 hS2161.base)
                have hS2276 := hS2161.ext hX2274
                refine hK2157 _ _ ?_
                refine w_condI (p := ((p0[(Int.toNat ((x842.take (Int.toNat v2105))[(Int.toNat v2140)]!))]!.2.1 < p0[(Int.toNat (x842[(Int.toNat v2105)]!))]!.2.2) ∧ (p0[(Int.toNat (x842[(Int.toNat v2105)]!))]!.2.1 < p0[(Int.toNat ((x842.take (Int.toNat v2105))[(Int.toNat v2140)]!))]!.2.2))) (b := ((decide (p0[(Int.toNat ((x842.take (Int.toNat v2105))[(Int.toNat v2140)]!))]!.2.1 < p0[(Int.toNat (x842[(Int.toNat v2105)]!))]!.2.2)) && (decide (p0[(Int.toNat (x842[(Int.toNat v2105)]!))]!.2.1 < p0[(Int.toNat ((x842.take (Int.toNat v2105))[(Int.toNat v2140)]!))]!.2.2)))) rfl (i_and decide_eq_true_iff decide_eq_true_iff) (fun h2277 => ?_) (fun h2277 => ?_)
                · replace hm := hm.1 h2277
                  refine w_region ?_
                  refine wl_val (g_move (v := .slice a2137 n2138 c2139) rfl) rfl ?_
                  refine wl_val (g_move (v := .slice a1070 (Int.toNat (p0.length : Int)) (Int.toNat (p0.length : Int))) rfl) rfl ?_
                  refine wl_val (g_move (v := .int .i64 ((x842.take (Int.toNat v2105))[(Int.toNat v2140)]!)) rfl) rfl ?_
                  obtain ⟨hg2278, hm⟩ := hm
                  refine wl_val (q_index (i := (x842.take (Int.toNat v2105))[(Int.toNat v2140)]!) SL24 rfl rfl (oS.vw hS2276.g1) hg2278) rfl ?_
                  refine wl_val (q_load (i := (x842.take (Int.toNat v2105))[(Int.toNat v2140)]!) (v := .int .i64 (x2104[(Int.toNat ((x842.take (Int.toNat v2105))[(Int.toNat v2140)]!))]!)) ON3 (oS.vw hS2276.g1) hg2278 rfl rfl) rfl ?_
                  refine wl_step rfl (q_lit1 (y := (x2104[(Int.toNat ((x842.take (Int.toNat v2105))[(Int.toNat v2140)]!))]! : Int)) SL24 rfl rfl (by decide) hS2276) ?_
                  rintro _ w2279 ⟨a2280, rfl, hS2282, hE2281⟩
                  have hB2284 := hB2275.trans (Ext.stp hE2281 hS2276.base)
                  have hS2290 := hS2282.f3
                  obtain ⟨hg2291, hm⟩ := hm
                  refine wl_step rfl (q_append SL24 rfl rfl hS2290 (oS.vw hS2290.g1) hg2291 (by decide)) ?_
                  rintro _ w2285 ⟨a2286, c2287, rfl, hS2289, hb2288⟩
                  have hB2292 := hB2284.trans hb2288
                  refine wl_val (g_assign (v := .slice a2286 (n2138 + 1) c2287) rfl) rfl ?_
                  refine wl_nil ?_
                  refine hK2154 _ _ ?_
                  refine w_region ?_
                  obtain ⟨hg2293, hm⟩ := hm
                  refine wl_val (g_add (a := v2140) (b := 1) rfl rfl hg2293) rfl ?_
                  refine wl_val (g_move (v := .int .i64 (v2140 + 1)) rfl) rfl ?_
                  refine wl_nil ?_
                  have hS2294 := hS2289.f1
                  have hS2295 := hS2294.tail
                  have hS2296 := hS2295.f2
                  have hS2297 := hS2296.f2
                  exact ⟨((x2136 ++ ([x2104[(Int.toNat ((x842.take (Int.toNat v2105))[(Int.toNat v2140)]!))]!])), a2286, (n2138 + 1), c2287, (v2140 + 1)), hm.2, ⟨rfl, rfl, rfl, rfl, rfl, rfl, rfl, rfl, rfl, rfl, rfl, trivial⟩, ⟨hm.1, hB2292, hS2297⟩⟩
                · replace hm := hm.2 h2277
                  refine w_skip ?_
                  refine hK2154 _ _ ?_
                  refine w_region ?_
                  obtain ⟨hg2298, hm⟩ := hm
                  refine wl_val (g_add (a := v2140) (b := 1) rfl rfl hg2298) rfl ?_
                  refine wl_val (g_move (v := .int .i64 (v2140 + 1)) rfl) rfl ?_
                  refine wl_nil ?_
                  exact ⟨(x2136, a2137, n2138, c2139, (v2140 + 1)), hm.2, ⟨rfl, rfl, rfl, rfl, rfl, rfl, rfl, rfl, rfl, rfl, rfl, trivial⟩, ⟨hm.1, hB2275, hS2276⟩⟩
              · replace hm := hm.2 h2153
                refine w_exit ?_
                exact ⟨(x2136, a2137, n2138, c2139), ⟨rfl, rfl, rfl, rfl, rfl, rfl, rfl, rfl, trivial⟩, ⟨hm, hB2148, hS2149⟩⟩
            · rintro ⟨x2129, a2130, n2131, c2132⟩ b_ w2299 ⟨hm, hB2300, hS2301⟩
              show Wp _ _ _ _ (upds b_ [(0, .slice a0 n0 c0), (3, .slice a843 n844 c845), (7, .slice a1070 (Int.toNat (p0.length : Int)) (Int.toNat (p0.length : Int))), (9, .int .i64 (x842[(Int.toNat v2105)]!)), (10, .slice a2130 n2131 c2132), (63, .slice a843 n844 c845), (64, .int .i64 (x842.length : Int)), (65, .int .i64 v2105)]) w2299
              refine w_block ?_
              obtain ⟨I2303, μ2304, h02305, hr2306⟩ := hm
              refine w_for (σ := List Int) (fun x2302 => [(0, .slice a0 n0 c0), (3, .slice a843 n844 c845), (7, .slice a1070 (Int.toNat (p0.length : Int)) (Int.toNat (p0.length : Int))), (9, .int .i64 (x842[(Int.toNat v2105)]!)), (10, .slice a2130 n2131 c2132), (63, .slice a843 n844 c845), (64, .int .i64 (x842.length : Int)), (65, .int .i64 v2105)]) (fun x2302 w' => I2303 x2302 ∧ Below w.heap.size w w' ∧ Sep w' w.heap.size [oS 3 a843 n844 c845 (x842 : List Int), oS 3 a1070 (Int.toNat (p0.length : Int)) (Int.toNat (p0.length : Int)) (x2302 : List Int), oS 3 a2130 n2131 c2132 (x2129 : List Int)]) (fun x2302 => μ2304 x2302) (x2104) ⟨rfl, rfl, rfl, rfl, rfl, rfl, rfl, rfl, trivial⟩ ⟨h02305, hB2300, hS2301⟩ ?_
              rintro x2302 b_ w2307 ⟨hi_, hB2308, hS2309⟩
              show Wp _ _ _ _ (upds b_ [(0, .slice a0 n0 c0), (3, .slice a843 n844 c845), (7, .slice a1070 (Int.toNat (p0.length : Int)) (Int.toNat (p0.length : Int))), (9, .int .i64 (x842[(Int.toNat v2105)]!)), (10, .slice a2130 n2131 c2132), (63, .slice a843 n844 c845), (64, .int .i64 (x842.length : Int)), (65, .int .i64 v2105)]) w2307
              have hm := hr2306 x2302 hi_
              refine w_seq fun K2311 hK2311 => ?_
              refine w_seq fun K2312 hK2312 => ?_
              refine w_region ?_
              refine wl_val (g_move (v := .slice a2130 n2131 c2132) rfl) rfl ?_
              refine wl_val (g_move (v := .slice a1070 (Int.toNat (p0.length : Int)) (Int.toNat (p0.length : Int))) rfl) rfl ?_
              refine wl_val (g_move (v := .int .i64 (x842[(Int.toNat v2105)]!)) rfl) rfl ?_
              obtain ⟨hg2313, hm⟩ := hm
              refine wl_val (q_index (i := x842[(Int.toNat v2105)]!) SL24 rfl rfl (oS.vw hS2309.g1) hg2313) rfl ?_
              refine wl_val (q_load (i := x842[(Int.toNat v2105)]!) (v := .int .i64 (x2302[(Int.toNat (x842[(Int.toNat v2105)]!))]!)) ON3 (oS.vw hS2309.g1) hg2313 rfl rfl) rfl ?_
              refine wl_step rfl (g_call (vs := #[.slice a2130 n2131 c2132, .int .i64 (x2302[(Int.toNat (x842[(Int.toNat v2105)]!))]!)]) CF23 (args2 rfl rfl) (m_impl_indexOf_fn (oS.vw hS2309.g2) (x2302[(Int.toNat (x842[(Int.toNat v2105)]!))]!) hm)) ?_
              rintro _ w2314 ⟨r2317, hm, rfl, hE2315⟩
              have hB2318 := hB2308.trans (Ext.stp hE2315 hS2309.base)
              have hS2319 := hS2309.ext hE2315
              refine wl_val (g_geq (a := r2317) (b := 0) rfl rfl) rfl ?_
              refine wl_nil ?_
              refine hK2312 _ _ ?_
              refine w_condI (p := r2317 ≥ 0) (b := (decide (r2317 ≥ 0))) rfl decide_eq_true_iff (fun h2320 => ?_) (fun h2320 => ?_)
              · replace hm := hm.1 h2320
                refine w_skip ?_
                refine hK2311 _ _ ?_
                refine w_block ?_
                refine w_region ?_
                refine wl_val (g_move (v := .slice a1070 (Int.toNat (p0.length : Int)) (Int.toNat (p0.length : Int))) rfl) rfl ?_
                refine wl_val (g_move (v := .int .i64 (x842[(Int.toNat v2105)]!)) rfl) rfl ?_
                obtain ⟨hg2321, hm⟩ := hm
                refine wl_val (q_index (i := x842[(Int.toNat v2105)]!) SL24 rfl rfl (oS.vw hS2319.g1) hg2321) rfl ?_
                refine wl_val (q_load (i := x842[(Int.toNat v2105)]!) (v := .int .i64 (x2302[(Int.toNat (x842[(Int.toNat v2105)]!))]!)) ON3 (oS.vw hS2319.g1) hg2321 rfl rfl) rfl ?_
                obtain ⟨hg2322, hm⟩ := hm
                refine wl_val (g_add (a := x2302[(Int.toNat (x842[(Int.toNat v2105)]!))]!) (b := 1) rfl rfl hg2322) rfl ?_
                obtain ⟨hg2323, hm⟩ := hm
                refine wl_val (q_index (i := x842[(Int.toNat v2105)]!) SL24 rfl rfl (oS.vw hS2319.g1) hg2323) rfl ?_
                have hS2327 := hS2319.f1
                refine wl_step rfl (q_store (i := x842[(Int.toNat v2105)]!) (v := ((x2302[(Int.toNat (x842[(Int.toNat v2105)]!))]! + 1) : Int)) hS2327 ON3.sz hg2323 rfl rfl rfl) ?_
                rintro _ w2324 ⟨rfl, hS2325, hb2326⟩
                have hB2328 := hB2318.trans hb2326
                refine wl_nil ?_
                have hS2329 := hS2325.f2
                have hS2330 := hS2329.f1
                have hS2331 := hS2330.f2
                exact ⟨((x2302.set (Int.toNat (x842[(Int.toNat v2105)]!)) (x2302[(Int.toNat (x842[(Int.toNat v2105)]!))]! + 1))), hm.2, ⟨rfl, rfl, rfl, rfl, rfl, rfl, rfl, rfl, trivial⟩, ⟨hm.1, hB2328, hS2331⟩⟩
              · replace hm := hm.2 h2320
                refine w_exit ?_
                have hS2332 := hS2319.f2
                have hS2333 := hS2332.tail
                exact ⟨(x2302), ⟨rfl, rfl, rfl, rfl, rfl, rfl, trivial⟩, ⟨hm, hB2318, hS2333⟩⟩
          · rintro x2118 b_ w2334 ⟨hm, hB2335, hS2336⟩
            show Wp _ _ _ _ (upds b_ [(0, .slice a0 n0 c0), (3, .slice a843 n844 c845), (7, .slice a1070 (Int.toNat (p0.length : Int)) (Int.toNat (p0.length : Int))), (63, .slice a843 n844 c845), (64, .int .i64 (x842.length : Int)), (65, .int .i64 v2105)]) w2334
            refine w_region ?_
            obtain ⟨hg2337, hm⟩ := hm
            refine wl_val (g_add (a := v2105) (b := 1) rfl rfl hg2337) rfl ?_
            refine wl_val (g_move (v := .int .i64 (v2105 + 1)) rfl) rfl ?_
            refine wl_nil ?_
            exact ⟨(x2118, (v2105 + 1)), hm.2, ⟨rfl, rfl, rfl, rfl, rfl, rfl, trivial⟩, ⟨hm.1, hB2335, hS2336⟩⟩
        · replace hm := hm.2 h2117
          refine w_exit ?_
          have hS2338 := hS2113.tail
          exact ⟨(x2104), ⟨rfl, trivial⟩, ⟨hm, hB2112, hS2338⟩⟩
      · rintro x2101 b_ w2339 ⟨hm, hB2340, hS2341⟩
        show Wp _ _ _ _ (upds b_ [(7, .slice a1070 (Int.toNat (p0.length : Int)) (Int.toNat (p0.length : Int)))]) w2339
        refine w_seq fun K2342 hK2342 => ?_
        refine w_region ?_
        refine wl_val (g_move (v := .slice a1070 (Int.toNat (p0.length : Int)) (Int.toNat (p0.length : Int))) rfl) rfl ?_
        refine wl_val (g_assign (v := .slice a1070 (Int.toNat (p0.length : Int)) (Int.toNat (p0.length : Int))) rfl) rfl ?_
        refine wl_nil ?_
        refine hK2342 _ _ ?_
        refine w_ret ?_
        repeat first | with_reducible refine q_then ?_ | with_reducible refine q_block ?_
        exact ret1 rfl (by decide) ⟨_, _, _, _, hm, rfl, toExt hB2340, hS2341⟩

theorem m_laws_eqIntS_fn {w : World} {a0 : Option Addr} {n0 c0 : Nat} {p0 : List Int} {a1 : Option Addr} {n1 c1 : Nat} {p1 : List Int} {Q : Bool → Prop} (hp0 : Vw w.heap.size w a0 n0 c0 p0) (hp1 : Vw w.heap.size w a1 n1 c1 p1) (hm : m_laws_eqIntS p0 p1 Q) :
    Fn Try.prog 9 #[.slice a0 n0 c0, .slice a1 n1 c1] w (fun v w' => ∃ (r0 : Bool), Q r0 ∧ v = .bool r0 ∧ Ext w w') := by
  unfold m_laws_eqIntS at hm
  have hB0 := Below.refl w.heap.size w
  have hS0 : Sep w w.heap.size [] := Sep.nil (Nat.le_refl _)
  refine fn_of_wp Try.func9 rfl (by kernel_rfl) (Nat.le_of_ble_eq_true rfl) ?_
  refine w_seq fun K1 hK1 => ?_
  refine w_region ?_
  refine wl_val (g_assign (v := .bool false) rfl) rfl ?_
  refine wl_nil ?_
  refine hK1 _ _ ?_
  refine w_seq fun K2 hK2 => ?_
  refine w_seq fun K3 hK3 => ?_
  refine w_region ?_
  refine wl_val (g_move (v := .slice a0 n0 c0) rfl) rfl ?_
  refine wl_val (q_len SL24 rfl (Vw.len (hp0.bel hB0))) rfl ?_
  refine wl_val (g_move (v := .slice a1 n1 c1) rfl) rfl ?_
  refine wl_val (q_len SL24 rfl (Vw.len (hp1.bel hB0))) rfl ?_
  refine wl_val (g_neq (a := (p0.length : Int)) (b := (p1.length : Int)) rfl rfl) rfl ?_
  refine wl_nil ?_
  refine hK3 _ _ ?_
  refine w_condI (p := (p0.length : Int) ≠ (p1.length : Int)) (b := (decide ((p0.length : Int) ≠ (p1.length : Int)))) rfl decide_eq_true_iff (fun h4 => ?_) (fun h4 => ?_)
  · replace hm := hm.1 h4
    refine w_seq fun K5 hK5 => ?_
    refine w_region ?_
    refine wl_val (g_assign (v := .bool false) rfl) rfl ?_
    refine wl_nil ?_
    refine hK5 _ _ ?_
    refine w_ret ?_
    repeat first | with_reducible refine q_then ?_ | with_reducible refine q_block ?_
    exact ret1 rfl (by decide) ⟨_, hm, rfl, toExt hB0⟩
  · replace hm := hm.2 h4
    refine w_skip ?_
    refine hK2 _ _ ?_
    refine w_cut (σ := Unit) (fun _ => []) (fun _ w' => m_laws_eqIntS_K0 Q ∧ Below w.heap.size w w' ∧ Sep w' w.heap.size []) ?_ ?_
    · refine w_seq fun K7 hK7 => ?_
      refine w_region ?_
      refine wl_val (g_assign (v := .int .i64 0) rfl) rfl ?_
      refine wl_nil ?_
      refine hK7 _ _ ?_
      refine w_block ?_
      obtain ⟨I71, μ72, h073, hr74⟩ := hm
      refine w_for (σ := Int) (fun v70 => [(0, .slice a0 n0 c0), (1, .slice a1 n1 c1), (5, .int .i64 v70)]) (fun v70 w' => I71 v70 ∧ Below w.heap.size w w' ∧ Sep w' w.heap.size []) (fun v70 => μ72 v70) (0) ⟨rfl, rfl, rfl, trivial⟩ ⟨h073, hB0, hS0⟩ ?_
      rintro v70 b_ w75 ⟨hi_, hB76, hS77⟩
      show Wp _ _ _ _ (upds b_ [(0, .slice a0 n0 c0), (1, .slice a1 n1 c1), (5, .int .i64 v70)]) w75
      have hm := hr74 v70 hi_
      refine w_seq fun K79 hK79 => ?_
      refine w_seq fun K80 hK80 => ?_
      refine w_region ?_
      refine wl_val (g_move (v := .int .i64 v70) rfl) rfl ?_
      refine wl_val (g_move (v := .slice a0 n0 c0) rfl) rfl ?_
      refine wl_val (q_len SL24 rfl (Vw.len (hp0.bel hB76))) rfl ?_
      refine wl_val (g_lss (a := v70) (b := (p0.length : Int)) rfl rfl) rfl ?_
      refine wl_nil ?_
      refine hK80 _ _ ?_
      refine w_condI (p := v70 < (p0.length : Int)) (b := (decide (v70 < (p0.length : Int)))) rfl decide_eq_true_iff (fun h81 => ?_) (fun h81 => ?_)
      · replace hm := hm.1 h81
        refine w_skip ?_
        refine hK79 _ _ ?_
        refine w_seq fun K82 hK82 => ?_
        refine w_block ?_
        refine w_seq fun K83 hK83 => ?_
        refine w_draw (X := Ext) (Y := Ext) [] MIX (by decide +kernel) rfl Ext.refl (fun _ _ _ => Ext.trans) (fun _ _ _ => Chg.trans) (fun _ _ h => Ext.chg h _) (fun w84 hE85 => ?_)
        have hB86 := hB76.trans (Ext.stp hE85 hS77.base)
        have hS87 := hS77.ext hE85
        refine ⟨.slice a0 n0 c0, fun w88 hX89 => od_plain rfl (by have hS90 := hS87.ext hX89; have hB91 := hB86.trans (Ext.stp hX89 hS87.base); exact is_ext (g_move (v := .slice a0 n0 c0) rfl)), ?_⟩
        refine ⟨.int .i64 v70, fun w92 hX93 => od_plain rfl (by have hS94 := hS87.ext hX93; have hB95 := hB86.trans (Ext.stp hX93 hS87.base); exact is_ext (g_move (v := .int .i64 v70) rfl)), ?_⟩
        obtain ⟨hg100, hm⟩ := hm
        refine ⟨.pointer (some ((adr a0).add ((Int.toNat v70) * El.m Int))), fun w96 hX97 => od_plain rfl (by have hS98 := hS87.ext hX97; have hB99 := hB86.trans (Ext.stp hX97 hS87.base); exact is_ext (q_index (i := v70) SL24 rfl rfl (hp0.bel hB99) hg100)), ?_⟩
        refine ⟨.int .i64 (p0[(Int.toNat v70)]!), fun w101 hX102 => od_plain rfl (by have hS103 := hS87.ext hX102; have hB104 := hB86.trans (Ext.stp hX102 hS87.base); exact is_ext (q_load (i := v70) (v := .int .i64 (p0[(Int.toNat v70)]!)) ON3 (hp0.bel hB104) hg100 rfl rfl)), ?_⟩
        refine ⟨.slice a1 n1 c1, fun w105 hX106 => od_plain rfl (by have hS107 := hS87.ext hX106; have hB108 := hB86.trans (Ext.stp hX106 hS87.base); exact is_ext (g_move (v := .slice a1 n1 c1) rfl)), ?_⟩
        refine ⟨.int .i64 v70, fun w109 hX110 => od_plain rfl (by have hS111 := hS87.ext hX110; have hB112 := hB86.trans (Ext.stp hX110 hS87.base); exact is_ext (g_move (v := .int .i64 v70) rfl)), ?_⟩
        obtain ⟨hg117, hm⟩ := hm
        refine ⟨.pointer (some ((adr a1).add ((Int.toNat v70) * El.m Int))), fun w113 hX114 => od_plain rfl (by have hS115 := hS87.ext hX114; have hB116 := hB86.trans (Ext.stp hX114 hS87.base); exact is_ext (q_index (i := v70) SL24 rfl rfl (hp1.bel hB116) hg117)), ?_⟩
        refine ⟨.int .i64 (p1[(Int.toNat v70)]!), fun w118 hX119 => od_plain rfl (by have hS120 := hS87.ext hX119; have hB121 := hB86.trans (Ext.stp hX119 hS87.base); exact is_ext (q_load (i := v70) (v := .int .i64 (p1[(Int.toNat v70)]!)) ON3 (hp1.bel hB121) hg117 rfl rfl)), ?_⟩
        refine ⟨.bool (decide (p0[(Int.toNat v70)]! ≠ p1[(Int.toNat v70)]!)), fun w122 hX123 => od_plain rfl (by have hS124 := hS87.ext hX123; have hB125 := hB86.trans (Ext.stp hX123 hS87.base); exact is_ext (g_neq (a := p0[(Int.toNat v70)]!) (b := p1[(Int.toNat v70)]!) rfl rfl)), ?_⟩
        intro w126 hX127
        have hB128 := hB86.trans (Ext.stp hX127 hS87.base)
        have hS129 := hS87.ext hX127
        refine hK83 _ _ ?_
        refine w_condI (p := p0[(Int.toNat v70)]! ≠ p1[(Int.toNat v70)]!) (b := (decide (p0[(Int.toNat v70)]! ≠ p1[(Int.toNat v70)]!))) rfl decide_eq_true_iff (fun h130 => ?_) (fun h130 => ?_)
        · replace hm := hm.1 h130
          refine w_seq fun K131 hK131 => ?_
          refine w_region ?_
          refine wl_val (g_assign (v := .bool false) rfl) rfl ?_
          refine wl_nil ?_
          refine hK131 _ _ ?_
          refine w_ret ?_
          repeat first | with_reducible refine q_then ?_ | with_reducible refine q_block ?_
          exact ret1 rfl (by decide) ⟨_, hm, rfl, toExt hB128⟩
        · replace hm := hm.2 h130
          refine w_skip ?_
          refine hK82 _ _ ?_
          refine w_region ?_
          refine wl_val (g_move (v := .int .i64 v70) rfl) rfl ?_
          obtain ⟨hg132, hm⟩ := hm
          refine wl_val (g_add (a := v70) (b := 1) rfl rfl hg132) rfl ?_
          refine wl_val (g_assign (v := .int .i64 (v70 + 1)) rfl) rfl ?_
          refine wl_nil ?_
          exact ⟨((v70 + 1)), hm.2, ⟨rfl, rfl, rfl, trivial⟩, ⟨hm.1, hB128, hS129⟩⟩
      · replace hm := hm.2 h81
        refine w_exit ?_
        exact ⟨(), trivial, ⟨hm, hB76, hS77⟩⟩
    · rintro _ b_ w133 ⟨hm, hB134, hS135⟩
      show Wp _ _ _ _ (upds b_ []) w133
      refine w_seq fun K136 hK136 => ?_
      refine w_region ?_
      refine wl_val (g_assign (v := .bool true) rfl) rfl ?_
      refine wl_nil ?_
      refine hK136 _ _ ?_
      refine w_ret ?_
      repeat first | with_reducible refine q_then ?_ | with_reducible refine q_block ?_
      exact ret1 rfl (by decide) ⟨_, hm, rfl, toExt hB134⟩

theorem m_laws_eqStay_fn {w : World}  {Q : Bool → Prop} (p0 : Stay) (p1 : Stay) (hm : m_laws_eqStay p0 p1 Q) :
    Fn Try.prog 24 #[.agg #[.int .i64 p0.1, .int .i64 p0.2.1, .int .i64 p0.2.2], .agg #[.int .i64 p1.1, .int .i64 p1.2.1, .int .i64 p1.2.2]] w (fun v w' => ∃ (r0 : Bool), Q r0 ∧ v = .bool r0 ∧ Ext w w') := by
  unfold m_laws_eqStay at hm
  have hB0 := Below.refl w.heap.size w
  have hS0 : Sep w w.heap.size [] := Sep.nil (Nat.le_refl _)
  refine fn_of_wp Try.func24 rfl (by kernel_rfl) (Nat.le_of_ble_eq_true rfl) ?_
  refine w_seq fun K1 hK1 => ?_
  refine w_region ?_
  refine wl_step rfl (q_box (cs := #[.int .i64 p0.1, .int .i64 p0.2.1, .int .i64 p0.2.2]) rfl rfl hS0) ?_
  rintro _ w2 ⟨g3, rfl, hS5, hE4⟩
  have hB7 := hB0.trans (Ext.stp hE4 hS0.base)
  refine wl_step rfl (q_box (cs := #[.int .i64 p1.1, .int .i64 p1.2.1, .int .i64 p1.2.2]) rfl rfl hS5) ?_
  rintro _ w8 ⟨g9, rfl, hS11, hE10⟩
  have hB13 := hB7.trans (Ext.stp hE10 hS5.base)
  refine wl_val (g_assign (v := .bool false) rfl) rfl ?_
  refine wl_nil ?_
  refine hK1 _ _ ?_
  refine w_seq fun K14 hK14 => ?_
  refine w_seq fun K15 hK15 => ?_
  refine w_region ?_
  refine wl_val (g_fieldAddr (q := (⟨g3, 0, none⟩ : Addr)) FL39_0 ON3 rfl) rfl ?_
  refine wl_val (q_loadB (i := 0) (bs := #[.int .i64 p0.1, .int .i64 p0.2.1, .int .i64 p0.2.2]) hS11.g1 ON3 rfl rfl) rfl ?_
  refine wl_val (g_fieldAddr (q := (⟨g9, 0, none⟩ : Addr)) FL39_0 ON3 rfl) rfl ?_
  refine wl_val (q_loadB (i := 0) (bs := #[.int .i64 p1.1, .int .i64 p1.2.1, .int .i64 p1.2.2]) hS11.g0 ON3 rfl rfl) rfl ?_
  refine wl_val (g_neq (a := p0.1) (b := p1.1) rfl rfl) rfl ?_
  refine wl_nil ?_
  refine hK15 _ _ ?_
  refine w_condI (p := p0.1 ≠ p1.1) (b := (decide (p0.1 ≠ p1.1))) rfl decide_eq_true_iff (fun h16 => ?_) (fun h16 => ?_)
  · replace hm := hm.1 h16
    refine w_seq fun K17 hK17 => ?_
    refine w_region ?_
    refine wl_val (g_assign (v := .bool false) rfl) rfl ?_
    refine wl_nil ?_
    refine hK17 _ _ ?_
    refine w_ret ?_
    repeat first | with_reducible refine q_then ?_ | with_reducible refine q_block ?_
    exact ret1 rfl (by decide) ⟨_, hm, rfl, toExt hB13⟩
  · replace hm := hm.2 h16
    refine w_skip ?_
    refine hK14 _ _ ?_
    refine w_seq fun K18 hK18 => ?_
    refine w_seq fun K19 hK19 => ?_
    refine w_region ?_
    refine wl_val (g_fieldAddr (q := (⟨g3, 0, none⟩ : Addr)) FL39_1 ON3 rfl) rfl ?_
    refine wl_val (q_loadB (i := 1) (bs := #[.int .i64 p0.1, .int .i64 p0.2.1, .int .i64 p0.2.2]) hS11.g1 ON3 rfl rfl) rfl ?_
    refine wl_val (g_fieldAddr (q := (⟨g9, 0, none⟩ : Addr)) FL39_1 ON3 rfl) rfl ?_
    refine wl_val (q_loadB (i := 1) (bs := #[.int .i64 p1.1, .int .i64 p1.2.1, .int .i64 p1.2.2]) hS11.g0 ON3 rfl rfl) rfl ?_
    refine wl_val (g_neq (a := p0.2.1) (b := p1.2.1) rfl rfl) rfl ?_
    refine wl_nil ?_
    refine hK19 _ _ ?_
    refine w_condI (p := p0.2.1 ≠ p1.2.1) (b := (decide (p0.2.1 ≠ p1.2.1))) rfl decide_eq_true_iff (fun h20 => ?_) (fun h20 => ?_)
    · replace hm := hm.1 h20
      refine w_seq fun K21 hK21 => ?_
      refine w_region ?_
      refine wl_val (g_assign (v := .bool false) rfl) rfl ?_
      refine wl_nil ?_
      refine hK21 _ _ ?_
      refine w_ret ?_
      repeat first | with_reducible refine q_then ?_ | with_reducible refine q_block ?_
      exact ret1 rfl (by decide) ⟨_, hm, rfl, toExt hB13⟩
    · replace hm := hm.2 h20
      refine w_skip ?_
      refine hK18 _ _ ?_
      refine w_seq fun K22 hK22 => ?_
      refine w_seq fun K23 hK23 => ?_
      refine w_region ?_
      refine wl_val (g_fieldAddr (q := (⟨g3, 0, none⟩ : Addr)) FL39_2 ON3 rfl) rfl ?_
      refine wl_val (q_loadB (i := 2) (bs := #[.int .i64 p0.1, .int .i64 p0.2.1, .int .i64 p0.2.2]) hS11.g1 ON3 rfl rfl) rfl ?_
      refine wl_val (g_fieldAddr (q := (⟨g9, 0, none⟩ : Addr)) FL39_2 ON3 rfl) rfl ?_
      refine wl_val (q_loadB (i := 2) (bs := #[.int .i64 p1.1, .int .i64 p1.2.1, .int .i64 p1.2.2]) hS11.g0 ON3 rfl rfl) rfl ?_
      refine wl_val (g_neq (a := p0.2.2) (b := p1.2.2) rfl rfl) rfl ?_
      refine wl_nil ?_
      refine hK23 _ _ ?_
      refine w_condI (p := p0.2.2 ≠ p1.2.2) (b := (decide (p0.2.2 ≠ p1.2.2))) rfl decide_eq_true_iff (fun h24 => ?_) (fun h24 => ?_)
      · replace hm := hm.1 h24
        refine w_seq fun K25 hK25 => ?_
        refine w_region ?_
        refine wl_val (g_assign (v := .bool false) rfl) rfl ?_
        refine wl_nil ?_
        refine hK25 _ _ ?_
        refine w_ret ?_
        repeat first | with_reducible refine q_then ?_ | with_reducible refine q_block ?_
        exact ret1 rfl (by decide) ⟨_, hm, rfl, toExt hB13⟩
      · replace hm := hm.2 h24
        refine w_skip ?_
        refine hK22 _ _ ?_
        refine w_seq fun K26 hK26 => ?_
        refine w_region ?_
        refine wl_val (g_assign (v := .bool true) rfl) rfl ?_
        refine wl_nil ?_
        refine hK26 _ _ ?_
        refine w_ret ?_
        repeat first | with_reducible refine q_then ?_ | with_reducible refine q_block ?_
        exact ret1 rfl (by decide) ⟨_, hm, rfl, toExt hB13⟩

theorem m_laws_eqStayS_fn {w : World} {a0 : Option Addr} {n0 c0 : Nat} {p0 : List Stay} {a1 : Option Addr} {n1 c1 : Nat} {p1 : List Stay} {Q : Bool → Prop} (hp0 : Vw w.heap.size w a0 n0 c0 p0) (hp1 : Vw w.heap.size w a1 n1 c1 p1) (hm : m_laws_eqStayS p0 p1 Q) :
    Fn Try.prog 10 #[.slice a0 n0 c0, .slice a1 n1 c1] w (fun v w' => ∃ (r0 : Bool), Q r0 ∧ v = .bool r0 ∧ Ext w w') := by
  unfold m_laws_eqStayS at hm
  have hB0 := Below.refl w.heap.size w
  have hS0 : Sep w w.heap.size [] := Sep.nil (Nat.le_refl _)
  refine fn_of_wp Try.func10 rfl (by kernel_rfl) (Nat.le_of_ble_eq_true rfl) ?_
  refine w_seq fun K1 hK1 => ?_
  refine w_region ?_
  refine wl_val (g_assign (v := .bool false) rfl) rfl ?_
  refine wl_nil ?_
  refine hK1 _ _ ?_
  refine w_seq fun K2 hK2 => ?_
  refine w_seq fun K3 hK3 => ?_
  refine w_region ?_
  refine wl_val (g_move (v := .slice a0 n0 c0) rfl) rfl ?_
  refine wl_val (q_len SL26 rfl (Vw.len (hp0.bel hB0))) rfl ?_
  refine wl_val (g_move (v := .slice a1 n1 c1) rfl) rfl ?_
  refine wl_val (q_len SL26 rfl (Vw.len (hp1.bel hB0))) rfl ?_
  refine wl_val (g_neq (a := (p0.length : Int)) (b := (p1.length : Int)) rfl rfl) rfl ?_
  refine wl_nil ?_
  refine hK3 _ _ ?_
  refine w_condI (p := (p0.length : Int) ≠ (p1.length : Int)) (b := (decide ((p0.length : Int) ≠ (p1.length : Int)))) rfl decide_eq_true_iff (fun h4 => ?_) (fun h4 => ?_)
  · replace hm := hm.1 h4
    refine w_seq fun K5 hK5 => ?_
    refine w_region ?_
    refine wl_val (g_assign (v := .bool false) rfl) rfl ?_
    refine wl_nil ?_
    refine hK5 _ _ ?_
    refine w_ret ?_
    repeat first | with_reducible refine q_then ?_ | with_reducible refine q_block ?_
    exact ret1 rfl (by decide) ⟨_, hm, rfl, toExt hB0⟩
  · replace hm := hm.2 h4
    refine w_skip ?_
    refine hK2 _ _ ?_
    refine w_cut (σ := Unit) (fun _ => []) (fun _ w' => m_laws_eqStayS_K0 Q ∧ Below w.heap.size w w' ∧ Sep w' w.heap.size []) ?_ ?_
    · refine w_seq fun K7 hK7 => ?_
      refine w_region ?_
      refine wl_val (g_assign (v := .int .i64 0) rfl) rfl ?_
      refine wl_nil ?_
      refine hK7 _ _ ?_
      refine w_block ?_
      obtain ⟨I77, μ78, h079, hr80⟩ := hm
      refine w_for (σ := Int) (fun v76 => [(0, .slice a0 n0 c0), (1, .slice a1 n1 c1), (5, .int .i64 v76)]) (fun v76 w' => I77 v76 ∧ Below w.heap.size w w' ∧ Sep w' w.heap.size []) (fun v76 => μ78 v76) (0) ⟨rfl, rfl, rfl, trivial⟩ ⟨h079, hB0, hS0⟩ ?_
      rintro v76 b_ w81 ⟨hi_, hB82, hS83⟩
      show Wp _ _ _ _ (upds b_ [(0, .slice a0 n0 c0), (1, .slice a1 n1 c1), (5, .int .i64 v76)]) w81
      have hm := hr80 v76 hi_
      refine w_seq fun K85 hK85 => ?_
      refine w_seq fun K86 hK86 => ?_
      refine w_region ?_
      refine wl_val (g_move (v := .int .i64 v76) rfl) rfl ?_
      refine wl_val (g_move (v := .slice a0 n0 c0) rfl) rfl ?_
      refine wl_val (q_len SL26 rfl (Vw.len (hp0.bel hB82))) rfl ?_
      refine wl_val (g_lss (a := v76) (b := (p0.length : Int)) rfl rfl) rfl ?_
      refine wl_nil ?_
      refine hK86 _ _ ?_
      refine w_condI (p := v76 < (p0.length : Int)) (b := (decide (v76 < (p0.length : Int)))) rfl decide_eq_true_iff (fun h87 => ?_) (fun h87 => ?_)
      · replace hm := hm.1 h87
        refine w_skip ?_
        refine hK85 _ _ ?_
        refine w_seq fun K88 hK88 => ?_
        refine w_block ?_
        refine w_seq fun K89 hK89 => ?_
        refine w_draw (X := Ext) (Y := Ext) [] MIX (by decide +kernel) rfl Ext.refl (fun _ _ _ => Ext.trans) (fun _ _ _ => Chg.trans) (fun _ _ h => Ext.chg h _) (fun w90 hE91 => ?_)
        have hB92 := hB82.trans (Ext.stp hE91 hS83.base)
        have hS93 := hS83.ext hE91
        refine ⟨.slice a0 n0 c0, fun w94 hX95 => od_plain rfl (by have hS96 := hS93.ext hX95; have hB97 := hB92.trans (Ext.stp hX95 hS93.base); exact is_ext (g_move (v := .slice a0 n0 c0) rfl)), ?_⟩
        refine ⟨.int .i64 v76, fun w98 hX99 => od_plain rfl (by have hS100 := hS93.ext hX99; have hB101 := hB92.trans (Ext.stp hX99 hS93.base); exact is_ext (g_move (v := .int .i64 v76) rfl)), ?_⟩
        obtain ⟨hg106, hm⟩ := hm
        refine ⟨.pointer (some ((adr a0).add ((Int.toNat v76) * El.m Stay))), fun w102 hX103 => od_plain rfl (by have hS104 := hS93.ext hX103; have hB105 := hB92.trans (Ext.stp hX103 hS93.base); exact is_ext (q_index (i := v76) SL26 rfl rfl (hp0.bel hB105) hg106)), ?_⟩
        refine ⟨.agg #[.int .i64 (p0[(Int.toNat v76)]!.1), .int .i64 (p0[(Int.toNat v76)]!.2.1), .int .i64 (p0[(Int.toNat v76)]!.2.2)], fun w107 hX108 => od_plain rfl (by have hS109 := hS93.ext hX108; have hB110 := hB92.trans (Ext.stp hX108 hS93.base); exact is_ext (q_loadS (i := v76) (cs := [.int .i64 (p0[(Int.toNat v76)]!.1), .int .i64 (p0[(Int.toNat v76)]!.2.1), .int .i64 (p0[(Int.toNat v76)]!.2.2)]) AG39 (hp0.bel hB110) hg106 rfl rfl)), ?_⟩
        refine ⟨.slice a1 n1 c1, fun w111 hX112 => od_plain rfl (by have hS113 := hS93.ext hX112; have hB114 := hB92.trans (Ext.stp hX112 hS93.base); exact is_ext (g_move (v := .slice a1 n1 c1) rfl)), ?_⟩
        refine ⟨.int .i64 v76, fun w115 hX116 => od_plain rfl (by have hS117 := hS93.ext hX116; have hB118 := hB92.trans (Ext.stp hX116 hS93.base); exact is_ext (g_move (v := .int .i64 v76) rfl)), ?_⟩
        obtain ⟨hg123, hm⟩ := hm
        refine ⟨.pointer (some ((adr a1).add ((Int.toNat v76) * El.m Stay))), fun w119 hX120 => od_plain rfl (by have hS121 := hS93.ext hX120; have hB122 := hB92.trans (Ext.stp hX120 hS93.base); exact is_ext (q_index (i := v76) SL26 rfl rfl (hp1.bel hB122) hg123)), ?_⟩
        refine ⟨.agg #[.int .i64 (p1[(Int.toNat v76)]!.1), .int .i64 (p1[(Int.toNat v76)]!.2.1), .int .i64 (p1[(Int.toNat v76)]!.2.2)], fun w124 hX125 => od_plain rfl (by have hS126 := hS93.ext hX125; have hB127 := hB92.trans (Ext.stp hX125 hS93.base); exact is_ext (q_loadS (i := v76) (cs := [.int .i64 (p1[(Int.toNat v76)]!.1), .int .i64 (p1[(Int.toNat v76)]!.2.1), .int .i64 (p1[(Int.toNat v76)]!.2.2)]) AG39 (hp1.bel hB127) hg123 rfl rfl)), ?_⟩
        obtain ⟨r132, hk133, hm⟩ := hm
        refine ⟨.bool r132, fun w128 hX129 => od_plain rfl (by have hS130 := hS93.ext hX129; have hB131 := hB92.trans (Ext.stp hX129 hS93.base); exact (g_call (vs := #[.agg #[.int .i64 (p0[(Int.toNat v76)]!.1), .int .i64 (p0[(Int.toNat v76)]!.2.1), .int .i64 (p0[(Int.toNat v76)]!.2.2)], .agg #[.int .i64 (p1[(Int.toNat v76)]!.1), .int .i64 (p1[(Int.toNat v76)]!.2.1), .int .i64 (p1[(Int.toNat v76)]!.2.2)]]) CF24 (args2 rfl rfl) ((m_laws_eqStay_fn (p0[(Int.toNat v76)]!) (p1[(Int.toNat v76)]!) hk133).mono fun _ _ ⟨_, h1, h2, h3⟩ => ⟨by rw [h2, h1], h3⟩))), ?_⟩
        refine ⟨.bool (!r132), fun w134 hX135 => od_plain rfl (by have hS136 := hS93.ext hX135; have hB137 := hB92.trans (Ext.stp hX135 hS93.base); exact is_ext (g_not (a := r132) rfl)), ?_⟩
        intro w138 hX139
        have hB140 := hB92.trans (Ext.stp hX139 hS93.base)
        have hS141 := hS93.ext hX139
        refine hK89 _ _ ?_
        refine w_condI (p := ¬ (r132 = true)) (b := (!r132)) rfl (i_not Iff.rfl) (fun h142 => ?_) (fun h142 => ?_)
        · replace hm := hm.1 h142
          refine w_seq fun K143 hK143 => ?_
          refine w_region ?_
          refine wl_val (g_assign (v := .bool false) rfl) rfl ?_
          refine wl_nil ?_
          refine hK143 _ _ ?_
          refine w_ret ?_
          repeat first | with_reducible refine q_then ?_ | with_reducible refine q_block ?_
          exact ret1 rfl (by decide) ⟨_, hm, rfl, toExt hB140⟩
        · replace hm := hm.2 h142
          refine w_skip ?_
          refine hK88 _ _ ?_
          refine w_region ?_
          refine wl_val (g_move (v := .int .i64 v76) rfl) rfl ?_
          obtain ⟨hg144, hm⟩ := hm
          refine wl_val (g_add (a := v76) (b := 1) rfl rfl hg144) rfl ?_
          refine wl_val (g_assign (v := .int .i64 (v76 + 1)) rfl) rfl ?_
          refine wl_nil ?_
          exact ⟨((v76 + 1)), hm.2, ⟨rfl, rfl, rfl, trivial⟩, ⟨hm.1, hB140, hS141⟩⟩
      · replace hm := hm.2 h87
        refine w_exit ?_
        exact ⟨(), trivial, ⟨hm, hB82, hS83⟩⟩
    · rintro _ b_ w145 ⟨hm, hB146, hS147⟩
      show Wp _ _ _ _ (upds b_ []) w145
      refine w_seq fun K148 hK148 => ?_
      refine w_region ?_
      refine wl_val (g_assign (v := .bool true) rfl) rfl ?_
      refine wl_nil ?_
      refine hK148 _ _ ?_
      refine w_ret ?_
      repeat first | with_reducible refine q_then ?_ | with_reducible refine q_block ?_
      exact ret1 rfl (by decide) ⟨_, hm, rfl, toExt hB146⟩

end Go.Proofs.Ytebfcpninegcgaa
