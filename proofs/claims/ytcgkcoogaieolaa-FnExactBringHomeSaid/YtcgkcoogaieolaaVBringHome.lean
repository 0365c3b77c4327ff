/- The walks: the code does what its model says. Printed by a program (gen2.py). No statement of the claim stands here. -/
import Derived.Test.YtcgkcoogaieolaaSop
import Derived.Test.YtcgkcoogaieolaaFacts
import Derived.Test.YtcgkcoogaieolaaMB
namespace Go.Proofs.Ytcgkcoogaieolaa
open Go Go.RowKit
set_option maxRecDepth 100000
theorem m_laws_szCrossS_fn {w : World} {a0 : Option Addr} {n0 c0 : Nat} {p0 : List Cross} {Q : Int → Prop} (hp0 : Vw w.heap.size w a0 n0 c0 p0) (p1 : Int) (hm : m_laws_szCrossS p0 p1 Q) :
    Fn Try.prog 14 #[.slice a0 n0 c0, .int .i64 p1] w (fun v w' => ∃ (r0 : Int), Q r0 ∧ v = .int .i64 r0 ∧ Ext w w') := by
  unfold m_laws_szCrossS at hm
  have hB0 := Below.refl w.heap.size w
  have hS0 : Sep w w.heap.size [] := Sep.nil (Nat.le_refl _)
  refine fn_of_wp Try.func14 rfl (by kernel_rfl) (Nat.le_of_ble_eq_true rfl) ?_
  refine w_seq fun K1 hK1 => ?_
  refine w_region ?_
  refine wl_val (g_assign (v := .int .i64 0) rfl) rfl ?_
  refine wl_nil ?_
  refine hK1 _ _ ?_
  refine w_seq fun K2 hK2 => ?_
  refine w_region ?_
  refine wl_val (g_move (v := .int .i64 p1) rfl) rfl ?_
  refine wl_val (g_move (v := .slice a0 n0 c0) rfl) rfl ?_
  refine wl_val (q_len SL22 rfl (Vw.len (hp0.bel hB0))) rfl ?_
  obtain ⟨hg3, hm⟩ := hm
  refine wl_val (g_sub (a := p1) (b := (p0.length : Int)) rfl rfl hg3) rfl ?_
  refine wl_val (g_assign (v := .int .i64 (p1 - (p0.length : Int))) rfl) rfl ?_
  refine wl_nil ?_
  refine hK2 _ _ ?_
  refine w_seq fun K4 hK4 => ?_
  refine w_seq fun K5 hK5 => ?_
  refine w_region ?_
  refine wl_val (g_move (v := .int .i64 (p1 - (p0.length : Int))) rfl) rfl ?_
  refine wl_val (g_lss (a := (p1 - (p0.length : Int))) (b := 0) rfl rfl) rfl ?_
  refine wl_nil ?_
  refine hK5 _ _ ?_
  refine w_condI (p := (p1 - (p0.length : Int)) < 0) (b := (decide ((p1 - (p0.length : Int)) < 0))) rfl decide_eq_true_iff (fun h6 => ?_) (fun h6 => ?_)
  · replace hm := hm.1 h6
    refine w_seq fun K7 hK7 => ?_
    refine w_region ?_
    refine wl_val (g_assign (v := .int .i64 (-1)) rfl) rfl ?_
    refine wl_nil ?_
    refine hK7 _ _ ?_
    refine w_ret ?_
    repeat first | with_reducible refine q_then ?_ | with_reducible refine q_block ?_
    exact ret1 rfl (by decide) ⟨_, hm, rfl, toExt hB0⟩
  · replace hm := hm.2 h6
    refine w_skip ?_
    refine hK4 _ _ ?_
    refine w_seq fun K8 hK8 => ?_
    refine w_region ?_
    refine wl_val (g_move (v := .int .i64 (p1 - (p0.length : Int))) rfl) rfl ?_
    refine wl_val (g_assign (v := .int .i64 (p1 - (p0.length : Int))) rfl) rfl ?_
    refine wl_nil ?_
    refine hK8 _ _ ?_
    refine w_ret ?_
    repeat first | with_reducible refine q_then ?_ | with_reducible refine q_block ?_
    exact ret1 rfl (by decide) ⟨_, hm, rfl, toExt hB0⟩

theorem m_laws_toCross_fn {w : World}  {Q : Cross → Prop} (p0 : Cross) (hm : m_laws_toCross p0 Q) :
    Fn Try.prog 51 #[.agg #[.int .i64 p0.1, .bool p0.2]] w (fun v w' => ∃ (r0 : Cross), Q r0 ∧ v = .agg #[.int .i64 r0.1, .bool r0.2] ∧ Ext w w') := by
  unfold m_laws_toCross at hm
  have hB0 := Below.refl w.heap.size w
  have hS0 : Sep w w.heap.size [] := Sep.nil (Nat.le_refl _)
  refine fn_of_wp Try.func51 rfl (by kernel_rfl) (Nat.le_of_ble_eq_true rfl) ?_
  refine w_seq fun K1 hK1 => ?_
  refine w_region ?_
  refine wl_step rfl (q_box (cs := #[.int .i64 p0.1, .bool p0.2]) rfl rfl hS0) ?_
  rintro _ w2 ⟨g3, rfl, hS5, hE4⟩
  have hB7 := hB0.trans (Ext.stp hE4 hS0.base)
  refine wl_step rfl (q_alloc (cs := #[.int .i64 0, .bool false]) ZR56 rfl hS5) ?_
  rintro _ w8 ⟨g9, rfl, hS11, hE10⟩
  have hB13 := hB7.trans (Ext.stp hE10 hS5.base)
  refine wl_nil ?_
  refine hK1 _ _ ?_
  refine w_seq fun K14 hK14 => ?_
  refine w_region ?_
  refine wl_step rfl (q_alloc (cs := #[.int .i64 0, .bool false]) ZR56 rfl hS11) ?_
  rintro _ w15 ⟨g16, rfl, hS18, hE17⟩
  have hB20 := hB13.trans (Ext.stp hE17 hS11.base)
  refine wl_nil ?_
  refine hK14 _ _ ?_
  refine w_seq fun K21 hK21 => ?_
  refine w_region ?_
  refine wl_val (g_fieldAddr (q := (⟨g3, 0, none⟩ : Addr)) FL58_0 ON3 rfl) rfl ?_
  refine wl_val (q_loadB (i := 0) (bs := #[.int .i64 p0.1, .bool p0.2]) hS18.g2 ON3 rfl rfl) rfl ?_
  refine wl_val (g_fieldAddr (q := (⟨g16, 0, none⟩ : Addr)) FL56_0 ON3 rfl) rfl ?_
  refine wl_step rfl (q_storeB (i := 0) (bs' := #[.int .i64 p0.1, .bool false]) (vs := [.int .i64 p0.1]) hS18 ON3.sz rfl rfl rfl (by simp [Value.oneCell']) (Nat.le_of_ble_eq_true rfl) rfl) ?_
  rintro _ w22 ⟨rfl, hS23, hb24⟩
  have hB25 := hB20.trans hb24
  refine wl_nil ?_
  refine hK21 _ _ ?_
  refine w_seq fun K26 hK26 => ?_
  refine w_region ?_
  refine wl_val (g_fieldAddr (q := (⟨g3, 0, none⟩ : Addr)) FL58_1 ON4 rfl) rfl ?_
  refine wl_val (q_loadB (i := 1) (bs := #[.int .i64 p0.1, .bool p0.2]) hS23.g2 ON4 rfl rfl) rfl ?_
  refine wl_val (g_fieldAddr (q := (⟨g16, 0, none⟩ : Addr)) FL56_1 ON4 rfl) rfl ?_
  refine wl_step rfl (q_storeB (i := 1) (bs' := #[.int .i64 p0.1, .bool p0.2]) (vs := [.bool p0.2]) hS23 ON4.sz rfl rfl rfl (by simp [Value.oneCell']) (Nat.le_of_ble_eq_true rfl) rfl) ?_
  rintro _ w27 ⟨rfl, hS28, hb29⟩
  have hB30 := hB25.trans hb29
  refine wl_nil ?_
  refine hK26 _ _ ?_
  refine w_seq fun K31 hK31 => ?_
  refine w_region ?_
  refine wl_val (q_loadBS (bs := #[.int .i64 p0.1, .bool p0.2]) hS28.g0 AG56 rfl) rfl ?_
  have hS35 := hS28.f1
  refine wl_step rfl (q_storeB (i := 0) (bs' := #[.int .i64 p0.1, .bool p0.2]) (vs := [.int .i64 p0.1, .bool p0.2]) hS35 AG56.sz rfl rfl rfl (by simp [Value.oneCell']) (Nat.le_of_ble_eq_true rfl) rfl) ?_
  rintro _ w32 ⟨rfl, hS33, hb34⟩
  have hB36 := hB30.trans hb34
  refine wl_nil ?_
  refine hK31 _ _ ?_
  refine w_ret ?_
  repeat first | with_reducible refine q_then ?_ | with_reducible refine q_block ?_
  exact ret_cell (q := ⟨g9, 0, none⟩) (cs := [.int .i64 p0.1, .bool p0.2]) rfl (by decide) rfl AG56 (Blk.all hS33.g0 rfl) ⟨_, hm, rfl, toExt hB36⟩

theorem m_laws_toCrossS_fn {w : World} {a0 : Option Addr} {n0 c0 : Nat} {p0 : List Cross} {Q : (List Cross) → Prop} (hp0 : Vw w.heap.size w a0 n0 c0 p0) (hm : m_laws_toCrossS p0 Q) :
    Fn Try.prog 16 #[.slice a0 n0 c0] w (fun v w' => ∃ (r0 : List Cross) (a0 : Option Addr) (n0 c0 : Nat), Q r0 ∧ v = .slice a0 n0 c0 ∧ Ext w w' ∧ Sep w' w.heap.size [oS 56 a0 n0 c0 r0]) := by
  unfold m_laws_toCrossS at hm
  have hB0 := Below.refl w.heap.size w
  have hS0 : Sep w w.heap.size [] := Sep.nil (Nat.le_refl _)
  refine fn_of_wp Try.func16 rfl (by kernel_rfl) (Nat.le_of_ble_eq_true rfl) ?_
  refine w_seq fun K1 hK1 => ?_
  refine w_region ?_
  refine wl_val (g_assign (v := .slice none 0 0) rfl) rfl ?_
  refine wl_nil ?_
  refine hK1 _ _ ?_
  refine w_seq fun K2 hK2 => ?_
  refine w_region ?_
  refine wl_val (g_move (v := .slice a0 n0 c0) rfl) rfl ?_
  refine wl_val (q_len SL22 rfl (Vw.len (hp0.bel hB0))) rfl ?_
  obtain ⟨hg3, hm⟩ := hm
  refine wl_step rfl (q_make (y := ((0, false) : Cross)) SL24 rfl rfl hg3.1 hg3.2 (by decide) hS0) ?_
  rintro _ w4 ⟨a5, rfl, hS7, hE6⟩
  have hB9 := hB0.trans (Ext.stp hE6 hS0.base)
  refine wl_val (g_assign (v := .slice a5 (Int.toNat (p0.length : Int)) (Int.toNat (p0.length : Int))) rfl) rfl ?_
  refine wl_nil ?_
  refine hK2 _ _ ?_
  refine w_cut (σ := List Cross) (fun x64 => [(3, .slice a5 (Int.toNat (p0.length : Int)) (Int.toNat (p0.length : Int)))]) (fun x64 w' => m_laws_toCrossS_K0 Q x64 ∧ Below w.heap.size w w' ∧ Sep w' w.heap.size [oS 56 a5 (Int.toNat (p0.length : Int)) (Int.toNat (p0.length : Int)) (x64 : List Cross)]) ?_ ?_
  · refine w_seq fun K66 hK66 => ?_
    refine w_region ?_
    refine wl_val (g_assign (v := .int .i64 0) rfl) rfl ?_
    refine wl_nil ?_
    refine hK66 _ _ ?_
    refine w_block ?_
    obtain ⟨I69, μ70, h071, hr72⟩ := hm
    refine w_for (σ := List Cross × Int) (fun ⟨x67, v68⟩ => [(0, .slice a0 n0 c0), (3, .slice a5 (Int.toNat (p0.length : Int)) (Int.toNat (p0.length : Int))), (4, .int .i64 v68)]) (fun ⟨x67, v68⟩ w' => I69 x67 v68 ∧ Below w.heap.size w w' ∧ Sep w' w.heap.size [oS 56 a5 (Int.toNat (p0.length : Int)) (Int.toNat (p0.length : Int)) (x67 : List Cross)]) (fun ⟨x67, v68⟩ => μ70 x67 v68) (List.replicate (Int.toNat (p0.length : Int)) ((0, false) : Cross), 0) ⟨rfl, rfl, rfl, trivial⟩ ⟨h071, hB9, hS7⟩ ?_
    rintro ⟨x67, v68⟩ b_ w73 ⟨hi_, hB74, hS75⟩
    show Wp _ _ _ _ (upds b_ [(0, .slice a0 n0 c0), (3, .slice a5 (Int.toNat (p0.length : Int)) (Int.toNat (p0.length : Int))), (4, .int .i64 v68)]) w73
    have hm := hr72 x67 v68 hi_
    refine w_seq fun K77 hK77 => ?_
    refine w_seq fun K78 hK78 => ?_
    refine w_region ?_
    refine wl_val (g_move (v := .int .i64 v68) rfl) rfl ?_
    refine wl_val (g_move (v := .slice a0 n0 c0) rfl) rfl ?_
    refine wl_val (q_len SL22 rfl (Vw.len (hp0.bel hB74))) rfl ?_
    refine wl_val (g_lss (a := v68) (b := (p0.length : Int)) rfl rfl) rfl ?_
    refine wl_nil ?_
    refine hK78 _ _ ?_
    refine w_condI (p := v68 < (p0.length : Int)) (b := (decide (v68 < (p0.length : Int)))) rfl decide_eq_true_iff (fun h79 => ?_) (fun h79 => ?_)
    · replace hm := hm.1 h79
      refine w_skip ?_
      refine hK77 _ _ ?_
      refine w_seq fun K80 hK80 => ?_
      refine w_block ?_
      refine w_region ?_
      refine wl_val (g_move (v := .slice a5 (Int.toNat (p0.length : Int)) (Int.toNat (p0.length : Int))) rfl) rfl ?_
      refine wl_val (g_move (v := .int .i64 v68) rfl) rfl ?_
      refine wl_val (g_move (v := .slice a0 n0 c0) rfl) rfl ?_
      refine wl_val (g_move (v := .int .i64 v68) rfl) rfl ?_
      obtain ⟨hg81, hm⟩ := hm
      refine wl_val (q_index (i := v68) SL22 rfl rfl (hp0.bel hB74) hg81) rfl ?_
      refine wl_val (q_loadS (i := v68) (cs := [.int .i64 (p0[(Int.toNat v68)]!.1), .bool (p0[(Int.toNat v68)]!.2)]) AG58 (hp0.bel hB74) hg81 rfl rfl) rfl ?_
      refine wl_step rfl (g_call (vs := #[.agg #[.int .i64 (p0[(Int.toNat v68)]!.1), .bool (p0[(Int.toNat v68)]!.2)]]) CF51 (args1 rfl) (m_laws_toCross_fn (p0[(Int.toNat v68)]!) hm)) ?_
      rintro _ w82 ⟨r85, hm, rfl, hE83⟩
      have hB86 := hB74.trans (Ext.stp hE83 hS75.base)
      have hS87 := hS75.ext hE83
      obtain ⟨hg88, hm⟩ := hm
      refine wl_val (q_index (i := v68) SL24 rfl rfl (oS.vw hS87.g0) hg88) rfl ?_
      refine wl_step rfl (q_store (i := v68) (v := (r85 : Cross)) hS87 AG56.sz hg88 rfl rfl rfl) ?_
      rintro _ w89 ⟨rfl, hS90, hb91⟩
      have hB92 := hB86.trans hb91
      refine wl_nil ?_
      refine hK80 _ _ ?_
      refine w_region ?_
      refine wl_val (g_move (v := .int .i64 v68) rfl) rfl ?_
      obtain ⟨hg93, hm⟩ := hm
      refine wl_val (g_add (a := v68) (b := 1) rfl rfl hg93) rfl ?_
      refine wl_val (g_assign (v := .int .i64 (v68 + 1)) rfl) rfl ?_
      refine wl_nil ?_
      exact ⟨((x67.set (Int.toNat v68) r85), (v68 + 1)), hm.2, ⟨rfl, rfl, rfl, trivial⟩, ⟨hm.1, hB92, hS90⟩⟩
    · replace hm := hm.2 h79
      refine w_exit ?_
      exact ⟨(x67), ⟨rfl, trivial⟩, ⟨hm, hB74, hS75⟩⟩
  · rintro x64 b_ w94 ⟨hm, hB95, hS96⟩
    show Wp _ _ _ _ (upds b_ [(3, .slice a5 (Int.toNat (p0.length : Int)) (Int.toNat (p0.length : Int)))]) w94
    refine w_seq fun K97 hK97 => ?_
    refine w_region ?_
    refine wl_val (g_move (v := .slice a5 (Int.toNat (p0.length : Int)) (Int.toNat (p0.length : Int))) rfl) rfl ?_
    refine wl_val (g_assign (v := .slice a5 (Int.toNat (p0.length : Int)) (Int.toNat (p0.length : Int))) rfl) rfl ?_
    refine wl_nil ?_
    refine hK97 _ _ ?_
    refine w_ret ?_
    repeat first | with_reducible refine q_then ?_ | with_reducible refine q_block ?_
    exact ret1 rfl (by decide) ⟨_, _, _, _, hm, rfl, toExt hB95, hS96⟩

theorem m_spec_l01In_fn {w : World}  {Q : Bool → Prop} (p0 : Int) (p1 : Int) (p2 : Int) (hm : m_spec_l01In p0 p1 p2 Q) :
    Fn Try.prog 53 #[.int .i64 p0, .int .i64 p1, .int .i64 p2] w (fun v w' => ∃ (r0 : Bool), Q r0 ∧ v = .bool r0 ∧ Ext w w') := by
  unfold m_spec_l01In at hm
  have hB0 := Below.refl w.heap.size w
  have hS0 : Sep w w.heap.size [] := Sep.nil (Nat.le_refl _)
  refine fn_of_wp Try.func53 rfl (by kernel_rfl) (Nat.le_of_ble_eq_true rfl) ?_
  refine w_seq fun K1 hK1 => ?_
  refine w_region ?_
  refine wl_val (g_assign (v := .bool false) rfl) rfl ?_
  refine wl_nil ?_
  refine hK1 _ _ ?_
  refine w_seq fun K2 hK2 => ?_
  refine w_region ?_
  refine wl_val (g_move (v := .int .i64 p0) rfl) rfl ?_
  refine wl_val (g_move (v := .int .i64 p1) rfl) rfl ?_
  refine wl_val (g_geq (a := p0) (b := p1) rfl rfl) rfl ?_
  refine wl_val (g_move (v := .bool (decide (p0 ≥ p1))) rfl) rfl ?_
  refine wl_guard (c := (decide (p0 ≥ p1)) = true) (val := .int .i64 p0) (b := ((decide (p0 ≥ p1)) == true)) (gv_some rfl rfl rfl) beq_iff_eq (fun hc3 => ?_) ?_
  · have hq0 : p0 ≥ p1 := (decide_eq_true_iff.mp hc3)
    exact g_move (v := .int .i64 p0) rfl
  refine wl_guard (c := (decide (p0 ≥ p1)) = true) (val := .int .i64 p2) (b := ((decide (p0 ≥ p1)) == true)) (gv_some rfl rfl rfl) beq_iff_eq (fun hc4 => ?_) ?_
  · have hq0 : p0 ≥ p1 := (decide_eq_true_iff.mp hc4)
    exact g_move (v := .int .i64 p2) rfl
  refine wl_guard (c := (decide (p0 ≥ p1)) = true) (val := .bool (decide (p0 ≤ p2))) (b := ((decide (p0 ≥ p1)) == true)) (gv_some rfl rfl rfl) beq_iff_eq (fun hc5 => ?_) ?_
  · have hq0 : p0 ≥ p1 := (decide_eq_true_iff.mp hc5)
    exact g_leq (a := p0) (b := p2) (if_pos hc5) (if_pos hc5)
  refine wl_val (g_pick_and (b := (decide (p0 ≥ p1))) (q := (decide (p0 ≤ p2))) rfl rfl) rfl ?_
  refine wl_val (g_assign (v := .bool ((decide (p0 ≥ p1)) && (decide (p0 ≤ p2)))) rfl) rfl ?_
  refine wl_nil ?_
  refine hK2 _ _ ?_
  refine w_ret ?_
  repeat first | with_reducible refine q_then ?_ | with_reducible refine q_block ?_
  exact ret1 rfl (by decide) ⟨_, hm, rfl, toExt hB0⟩

theorem m_spec_CrossesOk_fn {w : World} {a1 : Option Addr} {n1 c1 : Nat} {p1 : List Cross} {Q : Bool → Prop} (p0 : Int) (hp1 : Vw w.heap.size w a1 n1 c1 p1) (hm : m_spec_CrossesOk p0 p1 Q) :
    Fn Try.prog 59 #[.int .i64 p0, .slice a1 n1 c1] w (fun v w' => ∃ (r0 : Bool), Q r0 ∧ v = .bool r0 ∧ Ext w w') := by
  unfold m_spec_CrossesOk at hm
  have hB0 := Below.refl w.heap.size w
  have hS0 : Sep w w.heap.size [] := Sep.nil (Nat.le_refl _)
  refine fn_of_wp Try.func59 rfl (by kernel_rfl) (Nat.le_of_ble_eq_true rfl) ?_
  refine w_seq fun K1 hK1 => ?_
  refine w_region ?_
  refine wl_val (g_assign (v := .bool false) rfl) rfl ?_
  refine wl_nil ?_
  refine hK1 _ _ ?_
  refine w_seq fun K2 hK2 => ?_
  refine w_seq fun K3 hK3 => ?_
  refine w_region ?_
  refine wl_val (g_move (v := .int .i64 p0) rfl) rfl ?_
  refine wl_step rfl (g_call (vs := #[.int .i64 p0, .int .i64 1, .int .i64 7]) CF53 (args3 rfl rfl rfl) (m_spec_l01In_fn p0 1 7 hm)) ?_
  rintro _ w4 ⟨r7, hm, rfl, hE5⟩
  have hB8 := hB0.trans (Ext.stp hE5 hS0.base)
  have hS9 := hS0.ext hE5
  refine wl_val (g_not (a := r7) rfl) rfl ?_
  refine wl_val (g_move (v := .bool (!r7)) rfl) rfl ?_
  refine wl_guard (c := (!r7) = false) (val := .slice a1 n1 c1) (b := ((!r7) == false)) (gv_some rfl rfl rfl) beq_iff_eq (fun hc10 => ?_) ?_
  · have hq0 : ¬ (¬ (r7 = true)) := (i_neg (i_not Iff.rfl) hc10)
    exact g_move (v := .slice a1 n1 c1) rfl
  refine wl_guard (c := (!r7) = false) (val := .int .i64 (p1.length : Int)) (b := ((!r7) == false)) (gv_some rfl rfl rfl) beq_iff_eq (fun hc11 => ?_) ?_
  · have hq0 : ¬ (¬ (r7 = true)) := (i_neg (i_not Iff.rfl) hc11)
    exact q_len SL24 (if_pos hc11) (Vw.len (hp1.bel hB8))
  refine wl_guard (c := (!r7) = false) (val := .bool (decide ((p1.length : Int) > 40))) (b := ((!r7) == false)) (gv_some rfl rfl rfl) beq_iff_eq (fun hc12 => ?_) ?_
  · have hq0 : ¬ (¬ (r7 = true)) := (i_neg (i_not Iff.rfl) hc12)
    exact g_gtr (a := (p1.length : Int)) (b := 40) (if_pos hc12) rfl
  refine wl_val (g_pick_or (b := (!r7)) (q := (decide ((p1.length : Int) > 40))) rfl rfl) rfl ?_
  refine wl_nil ?_
  refine hK3 _ _ ?_
  refine w_condI (p := ((¬ (r7 = true)) ∨ ((p1.length : Int) > 40))) (b := ((!r7) || (decide ((p1.length : Int) > 40)))) rfl (i_or (i_not Iff.rfl) decide_eq_true_iff) (fun h13 => ?_) (fun h13 => ?_)
  · replace hm := hm.1 h13
    refine w_seq fun K14 hK14 => ?_
    refine w_region ?_
    refine wl_val (g_assign (v := .bool false) rfl) rfl ?_
    refine wl_nil ?_
    refine hK14 _ _ ?_
    refine w_ret ?_
    repeat first | with_reducible refine q_then ?_ | with_reducible refine q_block ?_
    exact ret1 rfl (by decide) ⟨_, hm, rfl, toExt hB8⟩
  · replace hm := hm.2 h13
    refine w_skip ?_
    refine hK2 _ _ ?_
    refine w_cut (σ := Unit) (fun _ => []) (fun _ w' => m_spec_CrossesOk_K0 Q ∧ Below w.heap.size w w' ∧ Sep w' w.heap.size []) ?_ ?_
    · refine w_seq fun K16 hK16 => ?_
      refine w_region ?_
      refine wl_val (g_assign (v := .int .i64 0) rfl) rfl ?_
      refine wl_nil ?_
      refine hK16 _ _ ?_
      refine w_block ?_
      obtain ⟨I42, μ43, h044, hr45⟩ := hm
      refine w_for (σ := Int) (fun v41 => [(0, .int .i64 p0), (1, .slice a1 n1 c1), (5, .int .i64 v41)]) (fun v41 w' => I42 v41 ∧ Below w.heap.size w w' ∧ Sep w' w.heap.size []) (fun v41 => μ43 v41) (0) ⟨rfl, rfl, rfl, trivial⟩ ⟨h044, hB8, hS9⟩ ?_
      rintro v41 b_ w46 ⟨hi_, hB47, hS48⟩
      show Wp _ _ _ _ (upds b_ [(0, .int .i64 p0), (1, .slice a1 n1 c1), (5, .int .i64 v41)]) w46
      have hm := hr45 v41 hi_
      refine w_seq fun K50 hK50 => ?_
      refine w_seq fun K51 hK51 => ?_
      refine w_region ?_
      refine wl_val (g_move (v := .int .i64 v41) rfl) rfl ?_
      refine wl_val (g_move (v := .slice a1 n1 c1) rfl) rfl ?_
      refine wl_val (q_len SL24 rfl (Vw.len (hp1.bel hB47))) rfl ?_
      refine wl_val (g_lss (a := v41) (b := (p1.length : Int)) rfl rfl) rfl ?_
      refine wl_nil ?_
      refine hK51 _ _ ?_
      refine w_condI (p := v41 < (p1.length : Int)) (b := (decide (v41 < (p1.length : Int)))) rfl decide_eq_true_iff (fun h52 => ?_) (fun h52 => ?_)
      · replace hm := hm.1 h52
        refine w_skip ?_
        refine hK50 _ _ ?_
        refine w_seq fun K53 hK53 => ?_
        refine w_block ?_
        refine w_seq fun K54 hK54 => ?_
        refine w_region ?_
        refine wl_val (g_move (v := .slice a1 n1 c1) rfl) rfl ?_
        refine wl_val (g_move (v := .int .i64 v41) rfl) rfl ?_
        obtain ⟨hg55, hm⟩ := hm
        refine wl_val (q_index (i := v41) SL24 rfl rfl (hp1.bel hB47) hg55) rfl ?_
        refine wl_val (g_fieldAddr (q := (adr a1).add ((Int.toNat v41) * El.m Cross)) FL56_0 ON3 rfl) rfl ?_
        refine wl_val (q_loadF (i := v41) (j := 0) (v := .int .i64 (p1[(Int.toNat v41)]!.1)) ON3 (hp1.bel hB47) hg55 rfl rfl) rfl ?_
        refine wl_val (g_move (v := .int .i64 p0) rfl) rfl ?_
        obtain ⟨hg56, hm⟩ := hm
        refine wl_val (g_sub (a := p0) (b := 2) rfl rfl hg56) rfl ?_
        refine wl_step rfl (g_call (vs := #[.int .i64 (p1[(Int.toNat v41)]!.1), .int .i64 0, .int .i64 (p0 - 2)]) CF53 (args3 rfl rfl rfl) (m_spec_l01In_fn (p1[(Int.toNat v41)]!.1) 0 (p0 - 2) hm)) ?_
        rintro _ w57 ⟨r60, hm, rfl, hE58⟩
        have hB61 := hB47.trans (Ext.stp hE58 hS48.base)
        have hS62 := hS48.ext hE58
        refine wl_val (g_not (a := r60) rfl) rfl ?_
        refine wl_nil ?_
        refine hK54 _ _ ?_
        refine w_condI (p := ¬ (r60 = true)) (b := (!r60)) rfl (i_not Iff.rfl) (fun h63 => ?_) (fun h63 => ?_)
        · replace hm := hm.1 h63
          refine w_seq fun K64 hK64 => ?_
          refine w_region ?_
          refine wl_val (g_assign (v := .bool false) rfl) rfl ?_
          refine wl_nil ?_
          refine hK64 _ _ ?_
          refine w_ret ?_
          repeat first | with_reducible refine q_then ?_ | with_reducible refine q_block ?_
          exact ret1 rfl (by decide) ⟨_, hm, rfl, toExt hB61⟩
        · replace hm := hm.2 h63
          refine w_skip ?_
          refine hK53 _ _ ?_
          refine w_region ?_
          refine wl_val (g_move (v := .int .i64 v41) rfl) rfl ?_
          obtain ⟨hg65, hm⟩ := hm
          refine wl_val (g_add (a := v41) (b := 1) rfl rfl hg65) rfl ?_
          refine wl_val (g_assign (v := .int .i64 (v41 + 1)) rfl) rfl ?_
          refine wl_nil ?_
          exact ⟨((v41 + 1)), hm.2, ⟨rfl, rfl, rfl, trivial⟩, ⟨hm.1, hB61, hS62⟩⟩
      · replace hm := hm.2 h52
        refine w_exit ?_
        exact ⟨(), trivial, ⟨hm, hB47, hS48⟩⟩
    · rintro _ b_ w66 ⟨hm, hB67, hS68⟩
      show Wp _ _ _ _ (upds b_ []) w66
      refine w_seq fun K69 hK69 => ?_
      refine w_region ?_
      refine wl_val (g_assign (v := .bool true) rfl) rfl ?_
      refine wl_nil ?_
      refine hK69 _ _ ?_
      refine w_ret ?_
      repeat first | with_reducible refine q_then ?_ | with_reducible refine q_block ?_
      exact ret1 rfl (by decide) ⟨_, hm, rfl, toExt hB67⟩

theorem m_spec_l08Start_fn {w : World}  {Q : (List Int) → Prop} (p0 : Int) (hm : m_spec_l08Start p0 Q) :
    Fn Try.prog 60 #[.int .i64 p0] w (fun v w' => ∃ (r0 : List Int) (a0 : Option Addr) (n0 c0 : Nat), Q r0 ∧ v = .slice a0 n0 c0 ∧ Ext w w' ∧ Sep w' w.heap.size [oS 3 a0 n0 c0 r0]) := by
  unfold m_spec_l08Start at hm
  have hB0 := Below.refl w.heap.size w
  have hS0 : Sep w w.heap.size [] := Sep.nil (Nat.le_refl _)
  refine fn_of_wp Try.func60 rfl (by kernel_rfl) (Nat.le_of_ble_eq_true rfl) ?_
  refine w_seq fun K1 hK1 => ?_
  refine w_region ?_
  refine wl_val (g_assign (v := .slice none 0 0) rfl) rfl ?_
  refine wl_nil ?_
  refine hK1 _ _ ?_
  refine w_seq fun K2 hK2 => ?_
  refine w_region ?_
  refine wl_step rfl (q_lit0 (α := Int) rfl SL39 hS0) ?_
  rintro _ w3 ⟨a4, rfl, hS6, hE5⟩
  have hB8 := hB0.trans (Ext.stp hE5 hS0.base)
  refine wl_val (g_assign (v := .slice a4 0 0) rfl) rfl ?_
  refine wl_nil ?_
  refine hK2 _ _ ?_
  refine w_cut (σ := List Int × Option Addr × Nat × Nat) (fun ⟨x72, a73, n74, c75⟩ => [(3, .slice a73 n74 c75)]) (fun ⟨x72, a73, n74, c75⟩ w' => m_spec_l08Start_K0 Q x72 ∧ Below w.heap.size w w' ∧ Sep w' w.heap.size [oS 3 a73 n74 c75 (x72 : List Int)]) ?_ ?_
  · refine w_seq fun K77 hK77 => ?_
    refine w_region ?_
    refine wl_val (g_assign (v := .int .i64 0) rfl) rfl ?_
    refine wl_nil ?_
    refine hK77 _ _ ?_
    refine w_block ?_
    obtain ⟨I83, μ84, h085, hr86⟩ := hm
    refine w_for (σ := List Int × Option Addr × Nat × Nat × Int) (fun ⟨x78, a79, n80, c81, v82⟩ => [(0, .int .i64 p0), (3, .slice a79 n80 c81), (4, .int .i64 v82)]) (fun ⟨x78, a79, n80, c81, v82⟩ w' => I83 x78 v82 ∧ Below w.heap.size w w' ∧ Sep w' w.heap.size [oS 3 a79 n80 c81 (x78 : List Int)]) (fun ⟨x78, a79, n80, c81, v82⟩ => μ84 x78 v82) ([], a4, 0, 0, 0) ⟨rfl, rfl, rfl, trivial⟩ ⟨h085, hB8, hS6⟩ ?_
    rintro ⟨x78, a79, n80, c81, v82⟩ b_ w87 ⟨hi_, hB88, hS89⟩
    show Wp _ _ _ _ (upds b_ [(0, .int .i64 p0), (3, .slice a79 n80 c81), (4, .int .i64 v82)]) w87
    have hm := hr86 x78 v82 hi_
    refine w_seq fun K91 hK91 => ?_
    refine w_seq fun K92 hK92 => ?_
    refine w_region ?_
    refine wl_val (g_move (v := .int .i64 v82) rfl) rfl ?_
    refine wl_val (g_move (v := .int .i64 p0) rfl) rfl ?_
    refine wl_val (g_lss (a := v82) (b := p0) rfl rfl) rfl ?_
    refine wl_nil ?_
    refine hK92 _ _ ?_
    refine w_condI (p := v82 < p0) (b := (decide (v82 < p0))) rfl decide_eq_true_iff (fun h93 => ?_) (fun h93 => ?_)
    · replace hm := hm.1 h93
      refine w_skip ?_
      refine hK91 _ _ ?_
      refine w_seq fun K94 hK94 => ?_
      refine w_block ?_
      refine w_region ?_
      refine wl_val (g_move (v := .slice a79 n80 c81) rfl) rfl ?_
      refine wl_val (g_move (v := .int .i64 v82) rfl) rfl ?_
      refine wl_step rfl (q_lit1 (y := (v82 : Int)) SL39 rfl rfl (by decide) hS89) ?_
      rintro _ w95 ⟨a96, rfl, hS98, hE97⟩
      have hB100 := hB88.trans (Ext.stp hE97 hS89.base)
      have hS106 := hS98.f1
      obtain ⟨hg107, hm⟩ := hm
      refine wl_step rfl (q_append SL39 rfl rfl hS106 (oS.vw hS106.g1) hg107 (by decide)) ?_
      rintro _ w101 ⟨a102, c103, rfl, hS105, hb104⟩
      have hB108 := hB100.trans hb104
      refine wl_val (g_assign (v := .slice a102 (n80 + 1) c103) rfl) rfl ?_
      refine wl_nil ?_
      refine hK94 _ _ ?_
      refine w_region ?_
      refine wl_val (g_move (v := .int .i64 v82) rfl) rfl ?_
      obtain ⟨hg109, hm⟩ := hm
      refine wl_val (g_add (a := v82) (b := 1) rfl rfl hg109) rfl ?_
      refine wl_val (g_assign (v := .int .i64 (v82 + 1)) rfl) rfl ?_
      refine wl_nil ?_
      have hS110 := hS105.f1
      have hS111 := hS110.tail
      exact ⟨((x78 ++ ([v82])), a102, (n80 + 1), c103, (v82 + 1)), hm.2, ⟨rfl, rfl, rfl, trivial⟩, ⟨hm.1, hB108, hS111⟩⟩
    · replace hm := hm.2 h93
      refine w_exit ?_
      exact ⟨(x78, a79, n80, c81), ⟨rfl, trivial⟩, ⟨hm, hB88, hS89⟩⟩
  · rintro ⟨x72, a73, n74, c75⟩ b_ w112 ⟨hm, hB113, hS114⟩
    show Wp _ _ _ _ (upds b_ [(3, .slice a73 n74 c75)]) w112
    refine w_seq fun K115 hK115 => ?_
    refine w_region ?_
    refine wl_val (g_move (v := .slice a73 n74 c75) rfl) rfl ?_
    refine wl_val (g_assign (v := .slice a73 n74 c75) rfl) rfl ?_
    refine wl_nil ?_
    refine hK115 _ _ ?_
    refine w_ret ?_
    repeat first | with_reducible refine q_then ?_ | with_reducible refine q_block ?_
    exact ret1 rfl (by decide) ⟨_, _, _, _, hm, rfl, toExt hB113, hS114⟩

theorem m_spec_OrderOk_fn {w : World} {a0 : Option Addr} {n0 c0 : Nat} {p0 : List Int} {Q : Bool → Prop} (hp0 : Vw w.heap.size w a0 n0 c0 p0) (hm : m_spec_OrderOk p0 Q) :
    Fn Try.prog 62 #[.slice a0 n0 c0] w (fun v w' => ∃ (r0 : Bool), Q r0 ∧ v = .bool r0 ∧ Ext w w') := by
  unfold m_spec_OrderOk at hm
  have hB0 := Below.refl w.heap.size w
  have hS0 : Sep w w.heap.size [] := Sep.nil (Nat.le_refl _)
  refine fn_of_wp Try.func62 rfl (by kernel_rfl) (Nat.le_of_ble_eq_true rfl) ?_
  refine w_seq fun K1 hK1 => ?_
  refine w_region ?_
  refine wl_val (g_assign (v := .bool false) rfl) rfl ?_
  refine wl_nil ?_
  refine hK1 _ _ ?_
  refine w_cut (σ := Unit) (fun _ => [(0, .slice a0 n0 c0)]) (fun _ w' => m_spec_OrderOk_K1 p0 Q ∧ Below w.heap.size w w' ∧ Sep w' w.heap.size []) ?_ ?_
  · refine w_seq fun K3 hK3 => ?_
    refine w_region ?_
    refine wl_val (g_assign (v := .int .i64 0) rfl) rfl ?_
    refine wl_nil ?_
    refine hK3 _ _ ?_
    refine w_block ?_
    obtain ⟨I159, μ160, h0161, hr162⟩ := hm
    refine w_for (σ := Int) (fun v158 => [(0, .slice a0 n0 c0), (3, .int .i64 v158)]) (fun v158 w' => I159 v158 ∧ Below w.heap.size w w' ∧ Sep w' w.heap.size []) (fun v158 => μ160 v158) (0) ⟨rfl, rfl, trivial⟩ ⟨h0161, hB0, hS0⟩ ?_
    rintro v158 b_ w163 ⟨hi_, hB164, hS165⟩
    show Wp _ _ _ _ (upds b_ [(0, .slice a0 n0 c0), (3, .int .i64 v158)]) w163
    have hm := hr162 v158 hi_
    refine w_seq fun K167 hK167 => ?_
    refine w_seq fun K168 hK168 => ?_
    refine w_region ?_
    refine wl_val (g_move (v := .int .i64 v158) rfl) rfl ?_
    refine wl_val (g_move (v := .slice a0 n0 c0) rfl) rfl ?_
    refine wl_val (q_len SL39 rfl (Vw.len (hp0.bel hB164))) rfl ?_
    refine wl_val (g_lss (a := v158) (b := (p0.length : Int)) rfl rfl) rfl ?_
    refine wl_nil ?_
    refine hK168 _ _ ?_
    refine w_condI (p := v158 < (p0.length : Int)) (b := (decide (v158 < (p0.length : Int)))) rfl decide_eq_true_iff (fun h169 => ?_) (fun h169 => ?_)
    · replace hm := hm.1 h169
      refine w_skip ?_
      refine hK167 _ _ ?_
      refine w_cut (σ := Unit) (fun _ => [(0, .slice a0 n0 c0), (3, .int .i64 v158)]) (fun _ w' => m_spec_OrderOk_K0 v158 (fun v158' => I159 v158' ∧ μ160 v158' < μ160 v158) ∧ Below w.heap.size w w' ∧ Sep w' w.heap.size []) ?_ ?_
      · refine w_block ?_
        refine w_seq fun K171 hK171 => ?_
        refine w_seq fun K172 hK172 => ?_
        refine w_region ?_
        refine wl_val (g_move (v := .slice a0 n0 c0) rfl) rfl ?_
        refine wl_val (g_move (v := .int .i64 v158) rfl) rfl ?_
        obtain ⟨hg173, hm⟩ := hm
        refine wl_val (q_index (i := v158) SL39 rfl rfl (hp0.bel hB164) hg173) rfl ?_
        refine wl_val (q_load (i := v158) (v := .int .i64 (p0[(Int.toNat v158)]!)) ON3 (hp0.bel hB164) hg173 rfl rfl) rfl ?_
        refine wl_val (g_move (v := .slice a0 n0 c0) rfl) rfl ?_
        refine wl_val (q_len SL39 rfl (Vw.len (hp0.bel hB164))) rfl ?_
        obtain ⟨hg174, hm⟩ := hm
        refine wl_val (g_sub (a := (p0.length : Int)) (b := 1) rfl rfl hg174) rfl ?_
        refine wl_step rfl (g_call (vs := #[.int .i64 (p0[(Int.toNat v158)]!), .int .i64 0, .int .i64 ((p0.length : Int) - 1)]) CF53 (args3 rfl rfl rfl) (m_spec_l01In_fn (p0[(Int.toNat v158)]!) 0 ((p0.length : Int) - 1) hm)) ?_
        rintro _ w175 ⟨r178, hm, rfl, hE176⟩
        have hB179 := hB164.trans (Ext.stp hE176 hS165.base)
        have hS180 := hS165.ext hE176
        refine wl_val (g_not (a := r178) rfl) rfl ?_
        refine wl_nil ?_
        refine hK172 _ _ ?_
        refine w_condI (p := ¬ (r178 = true)) (b := (!r178)) rfl (i_not Iff.rfl) (fun h181 => ?_) (fun h181 => ?_)
        · replace hm := hm.1 h181
          refine w_seq fun K182 hK182 => ?_
          refine w_region ?_
          refine wl_val (g_assign (v := .bool false) rfl) rfl ?_
          refine wl_nil ?_
          refine hK182 _ _ ?_
          refine w_ret ?_
          repeat first | with_reducible refine q_then ?_ | with_reducible refine q_block ?_
          exact ret1 rfl (by decide) ⟨_, hm, rfl, toExt hB179⟩
        · replace hm := hm.2 h181
          refine w_skip ?_
          refine hK171 _ _ ?_
          refine w_seq fun K183 hK183 => ?_
          refine w_region ?_
          refine wl_val (g_assign (v := .int .i64 0) rfl) rfl ?_
          refine wl_nil ?_
          refine hK183 _ _ ?_
          refine w_block ?_
          obtain ⟨I185, μ186, h0187, hr188⟩ := hm
          refine w_for (σ := Int) (fun v184 => [(0, .slice a0 n0 c0), (3, .int .i64 v158), (4, .int .i64 v184)]) (fun v184 w' => I185 v184 ∧ Below w.heap.size w w' ∧ Sep w' w.heap.size []) (fun v184 => μ186 v184) (0) ⟨rfl, rfl, rfl, trivial⟩ ⟨h0187, hB179, hS180⟩ ?_
          rintro v184 b_ w189 ⟨hi_, hB190, hS191⟩
          show Wp _ _ _ _ (upds b_ [(0, .slice a0 n0 c0), (3, .int .i64 v158), (4, .int .i64 v184)]) w189
          have hm := hr188 v184 hi_
          refine w_seq fun K193 hK193 => ?_
          refine w_seq fun K194 hK194 => ?_
          refine w_region ?_
          refine wl_val (g_move (v := .int .i64 v184) rfl) rfl ?_
          refine wl_val (g_move (v := .int .i64 v158) rfl) rfl ?_
          refine wl_val (g_lss (a := v184) (b := v158) rfl rfl) rfl ?_
          refine wl_nil ?_
          refine hK194 _ _ ?_
          refine w_condI (p := v184 < v158) (b := (decide (v184 < v158))) rfl decide_eq_true_iff (fun h195 => ?_) (fun h195 => ?_)
          · replace hm := hm.1 h195
            refine w_skip ?_
            refine hK193 _ _ ?_
            refine w_seq fun K196 hK196 => ?_
            refine w_block ?_
            refine w_seq fun K197 hK197 => ?_
            refine w_draw (X := Ext) (Y := Ext) [] MIX (by decide +kernel) rfl Ext.refl (fun _ _ _ => Ext.trans) (fun _ _ _ => Chg.trans) (fun _ _ h => Ext.chg h _) (fun w198 hE199 => ?_)
            have hB200 := hB190.trans (Ext.stp hE199 hS191.base)
            have hS201 := hS191.ext hE199
            refine ⟨.slice a0 n0 c0, fun w202 hX203 => od_plain rfl (by have hS204 := hS201.ext hX203; have hB205 := hB200.trans (Ext.stp hX203 hS201.base); exact is_ext (g_move (v := .slice a0 n0 c0) rfl)), ?_⟩
            refine ⟨.int .i64 v184, fun w206 hX207 => od_plain rfl (by have hS208 := hS201.ext hX207; have hB209 := hB200.trans (Ext.stp hX207 hS201.base); exact is_ext (g_move (v := .int .i64 v184) rfl)), ?_⟩
            obtain ⟨hg214, hm⟩ := hm
            refine ⟨.pointer (some ((adr a0).add ((Int.toNat v184) * El.m Int))), fun w210 hX211 => od_plain rfl (by have hS212 := hS201.ext hX211; have hB213 := hB200.trans (Ext.stp hX211 hS201.base); exact is_ext (q_index (i := v184) SL39 rfl rfl (hp0.bel hB213) hg214)), ?_⟩
            refine ⟨.int .i64 (p0[(Int.toNat v184)]!), fun w215 hX216 => od_plain rfl (by have hS217 := hS201.ext hX216; have hB218 := hB200.trans (Ext.stp hX216 hS201.base); exact is_ext (q_load (i := v184) (v := .int .i64 (p0[(Int.toNat v184)]!)) ON3 (hp0.bel hB218) hg214 rfl rfl)), ?_⟩
            refine ⟨.slice a0 n0 c0, fun w219 hX220 => od_plain rfl (by have hS221 := hS201.ext hX220; have hB222 := hB200.trans (Ext.stp hX220 hS201.base); exact is_ext (g_move (v := .slice a0 n0 c0) rfl)), ?_⟩
            refine ⟨.int .i64 v158, fun w223 hX224 => od_plain rfl (by have hS225 := hS201.ext hX224; have hB226 := hB200.trans (Ext.stp hX224 hS201.base); exact is_ext (g_move (v := .int .i64 v158) rfl)), ?_⟩
            obtain ⟨hg231, hm⟩ := hm
            refine ⟨.pointer (some ((adr a0).add ((Int.toNat v158) * El.m Int))), fun w227 hX228 => od_plain rfl (by have hS229 := hS201.ext hX228; have hB230 := hB200.trans (Ext.stp hX228 hS201.base); exact is_ext (q_index (i := v158) SL39 rfl rfl (hp0.bel hB230) hg231)), ?_⟩
            refine ⟨.int .i64 (p0[(Int.toNat v158)]!), fun w232 hX233 => od_plain rfl (by have hS234 := hS201.ext hX233; have hB235 := hB200.trans (Ext.stp hX233 hS201.base); exact is_ext (q_load (i := v158) (v := .int .i64 (p0[(Int.toNat v158)]!)) ON3 (hp0.bel hB235) hg231 rfl rfl)), ?_⟩
            refine ⟨.bool (decide (p0[(Int.toNat v184)]! = p0[(Int.toNat v158)]!)), fun w236 hX237 => od_plain rfl (by have hS238 := hS201.ext hX237; have hB239 := hB200.trans (Ext.stp hX237 hS201.base); exact is_ext (g_eql (a := p0[(Int.toNat v184)]!) (b := p0[(Int.toNat v158)]!) rfl rfl)), ?_⟩
            intro w240 hX241
            have hB242 := hB200.trans (Ext.stp hX241 hS201.base)
            have hS243 := hS201.ext hX241
            refine hK197 _ _ ?_
            refine w_condI (p := p0[(Int.toNat v184)]! = p0[(Int.toNat v158)]!) (b := (decide (p0[(Int.toNat v184)]! = p0[(Int.toNat v158)]!))) rfl decide_eq_true_iff (fun h244 => ?_) (fun h244 => ?_)
            · replace hm := hm.1 h244
              refine w_seq fun K245 hK245 => ?_
              refine w_region ?_
              refine wl_val (g_assign (v := .bool false) rfl) rfl ?_
              refine wl_nil ?_
              refine hK245 _ _ ?_
              refine w_ret ?_
              repeat first | with_reducible refine q_then ?_ | with_reducible refine q_block ?_
              exact ret1 rfl (by decide) ⟨_, hm, rfl, toExt hB242⟩
            · replace hm := hm.2 h244
              refine w_skip ?_
              refine hK196 _ _ ?_
              refine w_region ?_
              refine wl_val (g_move (v := .int .i64 v184) rfl) rfl ?_
              obtain ⟨hg246, hm⟩ := hm
              refine wl_val (g_add (a := v184) (b := 1) rfl rfl hg246) rfl ?_
              refine wl_val (g_assign (v := .int .i64 (v184 + 1)) rfl) rfl ?_
              refine wl_nil ?_
              exact ⟨((v184 + 1)), hm.2, ⟨rfl, rfl, rfl, trivial⟩, ⟨hm.1, hB242, hS243⟩⟩
          · replace hm := hm.2 h195
            refine w_exit ?_
            exact ⟨(), ⟨rfl, rfl, trivial⟩, ⟨hm, hB190, hS191⟩⟩
      · rintro _ b_ w247 ⟨hm, hB248, hS249⟩
        show Wp _ _ _ _ (upds b_ [(0, .slice a0 n0 c0), (3, .int .i64 v158)]) w247
        refine w_region ?_
        refine wl_val (g_move (v := .int .i64 v158) rfl) rfl ?_
        obtain ⟨hg250, hm⟩ := hm
        refine wl_val (g_add (a := v158) (b := 1) rfl rfl hg250) rfl ?_
        refine wl_val (g_assign (v := .int .i64 (v158 + 1)) rfl) rfl ?_
        refine wl_nil ?_
        exact ⟨((v158 + 1)), hm.2, ⟨rfl, rfl, trivial⟩, ⟨hm.1, hB248, hS249⟩⟩
    · replace hm := hm.2 h169
      refine w_exit ?_
      exact ⟨(), ⟨rfl, trivial⟩, ⟨hm, hB164, hS165⟩⟩
  · rintro _ b_ w251 ⟨hm, hB252, hS253⟩
    show Wp _ _ _ _ (upds b_ [(0, .slice a0 n0 c0)]) w251
    refine w_seq fun K254 hK254 => ?_
    refine w_region ?_
    refine wl_val (g_move (v := .slice a0 n0 c0) rfl) rfl ?_
    refine wl_val (q_len SL39 rfl (Vw.len (hp0.bel hB252))) rfl ?_
    refine wl_step rfl (g_call (vs := #[.int .i64 (p0.length : Int), .int .i64 1, .int .i64 7]) CF53 (args3 rfl rfl rfl) (m_spec_l01In_fn (p0.length : Int) 1 7 hm)) ?_
    rintro _ w255 ⟨r258, hm, rfl, hE256⟩
    have hB259 := hB252.trans (Ext.stp hE256 hS253.base)
    have hS260 := hS253.ext hE256
    refine wl_val (g_assign (v := .bool r258) rfl) rfl ?_
    refine wl_nil ?_
    refine hK254 _ _ ?_
    refine w_ret ?_
    repeat first | with_reducible refine q_then ?_ | with_reducible refine q_block ?_
    exact ret1 rfl (by decide) ⟨_, hm, rfl, toExt hB259⟩

theorem m_spec_SwapAt_fn {w : World} {a0 : Option Addr} {n0 c0 : Nat} {p0 : List Int} {Q : (List Int) → Bool → Prop} (hp0 : Vw w.heap.size w a0 n0 c0 p0) (p1 : Int) (hm : m_spec_SwapAt p0 p1 Q) :
    Fn Try.prog 61 #[.slice a0 n0 c0, .int .i64 p1] w (fun v w' => ∃ (r0 : List Int) (a0 : Option Addr) (n0 c0 : Nat) (r1 : Bool), Q r0 r1 ∧ v = .tuple #[.slice a0 n0 c0, .bool r1] ∧ Ext w w' ∧ Sep w' w.heap.size [oS 3 a0 n0 c0 r0]) := by
  unfold m_spec_SwapAt at hm
  have hB0 := Below.refl w.heap.size w
  have hS0 : Sep w w.heap.size [] := Sep.nil (Nat.le_refl _)
  refine fn_of_wp Try.func61 rfl (by kernel_rfl) (Nat.le_of_ble_eq_true rfl) ?_
  refine w_seq fun K1 hK1 => ?_
  refine w_region ?_
  refine wl_val (g_assign (v := .slice none 0 0) rfl) rfl ?_
  refine wl_val (g_assign (v := .bool false) rfl) rfl ?_
  refine wl_nil ?_
  refine hK1 _ _ ?_
  refine w_seq fun K2 hK2 => ?_
  refine w_region ?_
  refine wl_step rfl (q_lit0 (α := Int) rfl SL39 hS0) ?_
  rintro _ w3 ⟨a4, rfl, hS6, hE5⟩
  have hB8 := hB0.trans (Ext.stp hE5 hS0.base)
  refine wl_val (g_move (v := .slice a0 n0 c0) rfl) rfl ?_
  obtain ⟨hg14, hm⟩ := hm
  refine wl_step rfl (q_append SL39 rfl rfl hS6 (hp0.bel hB8) hg14 (by decide)) ?_
  rintro _ w9 ⟨a10, c11, rfl, hS13, hb12⟩
  have hB15 := hB8.trans hb12
  refine wl_val (g_assign (v := .slice a10 (0 + n0) c11) rfl) rfl ?_
  refine wl_nil ?_
  refine hK2 _ _ ?_
  refine w_seq fun K16 hK16 => ?_
  refine w_seq fun K17 hK17 => ?_
  refine w_region ?_
  refine wl_val (g_move (v := .slice a0 n0 c0) rfl) rfl ?_
  refine wl_step rfl (g_call (vs := #[.slice a0 n0 c0]) CF62 (args1 rfl) (m_spec_OrderOk_fn ((hp0.bel hB15).up hS13) hm)) ?_
  rintro _ w18 ⟨r21, hm, rfl, hE19⟩
  have hB22 := hB15.trans (Ext.stp hE19 hS13.base)
  have hS23 := hS13.ext hE19
  refine wl_val (g_not (a := r21) rfl) rfl ?_
  refine wl_val (g_move (v := .bool (!r21)) rfl) rfl ?_
  refine wl_guard (c := (!r21) = false) (val := .int .i64 p1) (b := ((!r21) == false)) (gv_some rfl rfl rfl) beq_iff_eq (fun hc24 => ?_) ?_
  · have hq0 : ¬ (¬ (r21 = true)) := (i_neg (i_not Iff.rfl) hc24)
    exact g_move (v := .int .i64 p1) rfl
  refine wl_guard (c := (!r21) = false) (val := .slice a0 n0 c0) (b := ((!r21) == false)) (gv_some rfl rfl rfl) beq_iff_eq (fun hc25 => ?_) ?_
  · have hq0 : ¬ (¬ (r21 = true)) := (i_neg (i_not Iff.rfl) hc25)
    exact g_move (v := .slice a0 n0 c0) rfl
  refine wl_guard (c := (!r21) = false) (val := .int .i64 (p0.length : Int)) (b := ((!r21) == false)) (gv_some rfl rfl rfl) beq_iff_eq (fun hc26 => ?_) ?_
  · have hq0 : ¬ (¬ (r21 = true)) := (i_neg (i_not Iff.rfl) hc26)
    exact q_len SL39 (if_pos hc26) (Vw.len (hp0.bel hB22))
  obtain ⟨hg28, hm⟩ := hm
  refine wl_guard (c := (!r21) = false) (val := .int .i64 ((p0.length : Int) - 2)) (b := ((!r21) == false)) (gv_some rfl rfl rfl) beq_iff_eq (fun hc27 => ?_) ?_
  · have hq0 : ¬ (¬ (r21 = true)) := (i_neg (i_not Iff.rfl) hc27)
    exact g_sub (a := (p0.length : Int)) (b := 2) (if_pos hc27) rfl (hg28 hq0)
  obtain ⟨r30, hk31, hm⟩ := hm
  refine wl_guardE (X := Ext) (c := (!r21) = false) (val := .bool r30) (Ext.refl _) (b := ((!r21) == false)) (gv_some rfl rfl rfl) beq_iff_eq (fun hc29 => ?_) (fun w32 hE33 => ?_)
  · have hq0 : ¬ (¬ (r21 = true)) := (i_neg (i_not Iff.rfl) hc29)
    exact (g_call (vs := #[.int .i64 p1, .int .i64 0, .int .i64 ((p0.length : Int) - 2)]) CF53 (args3 (if_pos hc29) rfl (if_pos hc29)) ((m_spec_l01In_fn p1 0 ((p0.length : Int) - 2) (hk31 hq0)).mono fun _ _ ⟨_, h1, h2, h3⟩ => ⟨by rw [h2, h1], h3⟩))
  have hB34 := hB22.trans (Ext.stp hE33 hS23.base)
  have hS35 := hS23.ext hE33
  refine wl_guard (c := (!r21) = false) (val := .bool (!r30)) (b := ((!r21) == false)) (gv_some rfl rfl rfl) beq_iff_eq (fun hc36 => ?_) ?_
  · have hq0 : ¬ (¬ (r21 = true)) := (i_neg (i_not Iff.rfl) hc36)
    exact g_not (a := r30) (if_pos hc36)
  refine wl_val (g_pick_or (b := (!r21)) (q := (!r30)) rfl rfl) rfl ?_
  refine wl_nil ?_
  refine hK17 _ _ ?_
  refine w_condI (p := ((¬ (r21 = true)) ∨ (¬ (r30 = true)))) (b := ((!r21) || (!r30))) rfl (i_or (i_not Iff.rfl) (i_not Iff.rfl)) (fun h37 => ?_) (fun h37 => ?_)
  · replace hm := hm.1 h37
    refine w_seq fun K38 hK38 => ?_
    refine w_region ?_
    refine wl_val (g_move (v := .slice a10 (0 + n0) c11) rfl) rfl ?_
    refine wl_val (g_assign (v := .slice a10 (0 + n0) c11) rfl) rfl ?_
    refine wl_val (g_assign (v := .bool false) rfl) rfl ?_
    refine wl_nil ?_
    refine hK38 _ _ ?_
    refine w_ret ?_
    repeat first | with_reducible refine q_then ?_ | with_reducible refine q_block ?_
    exact ret2 rfl (by decide) (by decide) ⟨_, _, _, _, _, hm, rfl, toExt hB34, hS35⟩
  · replace hm := hm.2 h37
    refine w_skip ?_
    refine hK16 _ _ ?_
    refine w_seq fun K39 hK39 => ?_
    refine w_region ?_
    refine wl_val (g_move (v := .slice a10 (0 + n0) c11) rfl) rfl ?_
    refine wl_val (g_move (v := .int .i64 p1) rfl) rfl ?_
    refine wl_val (g_move (v := .slice a0 n0 c0) rfl) rfl ?_
    refine wl_val (g_move (v := .int .i64 p1) rfl) rfl ?_
    obtain ⟨hg40, hm⟩ := hm
    refine wl_val (g_add (a := p1) (b := 1) rfl rfl hg40) rfl ?_
    obtain ⟨hg41, hm⟩ := hm
    refine wl_val (q_index (i := (p1 + 1)) SL39 rfl rfl (hp0.bel hB34) hg41) rfl ?_
    refine wl_val (q_load (i := (p1 + 1)) (v := .int .i64 (p0[(Int.toNat (p1 + 1))]!)) ON3 (hp0.bel hB34) hg41 rfl rfl) rfl ?_
    obtain ⟨hg42, hm⟩ := hm
    refine wl_val (q_index (i := p1) SL39 rfl rfl (oS.vw hS35.g0) hg42) rfl ?_
    refine wl_step rfl (q_store (i := p1) (v := (p0[(Int.toNat (p1 + 1))]! : Int)) hS35 ON3.sz hg42 rfl rfl rfl) ?_
    rintro _ w43 ⟨rfl, hS44, hb45⟩
    have hB46 := hB34.trans hb45
    refine wl_nil ?_
    refine hK39 _ _ ?_
    refine w_seq fun K47 hK47 => ?_
    refine w_region ?_
    refine wl_val (g_move (v := .slice a10 (0 + n0) c11) rfl) rfl ?_
    refine wl_val (g_move (v := .int .i64 p1) rfl) rfl ?_
    obtain ⟨hg48, hm⟩ := hm
    refine wl_val (g_add (a := p1) (b := 1) rfl rfl hg48) rfl ?_
    refine wl_val (g_move (v := .slice a0 n0 c0) rfl) rfl ?_
    refine wl_val (g_move (v := .int .i64 p1) rfl) rfl ?_
    obtain ⟨hg49, hm⟩ := hm
    refine wl_val (q_index (i := p1) SL39 rfl rfl (hp0.bel hB46) hg49) rfl ?_
    refine wl_val (q_load (i := p1) (v := .int .i64 (p0[(Int.toNat p1)]!)) ON3 (hp0.bel hB46) hg49 rfl rfl) rfl ?_
    obtain ⟨hg50, hm⟩ := hm
    refine wl_val (q_index (i := (p1 + 1)) SL39 rfl rfl (oS.vw hS44.g0) hg50) rfl ?_
    refine wl_step rfl (q_store (i := (p1 + 1)) (v := (p0[(Int.toNat p1)]! : Int)) hS44 ON3.sz hg50 rfl rfl rfl) ?_
    rintro _ w51 ⟨rfl, hS52, hb53⟩
    have hB54 := hB46.trans hb53
    refine wl_nil ?_
    refine hK47 _ _ ?_
    refine w_seq fun K55 hK55 => ?_
    refine w_region ?_
    refine wl_val (g_move (v := .slice a10 (0 + n0) c11) rfl) rfl ?_
    refine wl_val (g_assign (v := .slice a10 (0 + n0) c11) rfl) rfl ?_
    refine wl_val (g_assign (v := .bool true) rfl) rfl ?_
    refine wl_nil ?_
    refine hK55 _ _ ?_
    refine w_ret ?_
    repeat first | with_reducible refine q_then ?_ | with_reducible refine q_block ?_
    exact ret2 rfl (by decide) (by decide) ⟨_, _, _, _, _, hm, rfl, toExt hB54, hS52⟩

theorem m_impl_within_fn {w : World}  {Q : Bool → Prop} (p0 : Int) (p1 : Int) (p2 : Int) (hm : m_impl_within p0 p1 p2 Q) :
    Fn Try.prog 54 #[.int .i64 p0, .int .i64 p1, .int .i64 p2] w (fun v w' => ∃ (r0 : Bool), Q r0 ∧ v = .bool r0 ∧ Ext w w') := by
  unfold m_impl_within at hm
  have hB0 := Below.refl w.heap.size w
  have hS0 : Sep w w.heap.size [] := Sep.nil (Nat.le_refl _)
  refine fn_of_wp Try.func54 rfl (by kernel_rfl) (Nat.le_of_ble_eq_true rfl) ?_
  refine w_seq fun K1 hK1 => ?_
  refine w_region ?_
  refine wl_val (g_assign (v := .bool false) rfl) rfl ?_
  refine wl_nil ?_
  refine hK1 _ _ ?_
  refine w_seq fun K2 hK2 => ?_
  refine w_region ?_
  refine wl_val (g_move (v := .int .i64 p0) rfl) rfl ?_
  refine wl_val (g_move (v := .int .i64 p1) rfl) rfl ?_
  refine wl_val (g_geq (a := p0) (b := p1) rfl rfl) rfl ?_
  refine wl_val (g_move (v := .bool (decide (p0 ≥ p1))) rfl) rfl ?_
  refine wl_guard (c := (decide (p0 ≥ p1)) = true) (val := .int .i64 p0) (b := ((decide (p0 ≥ p1)) == true)) (gv_some rfl rfl rfl) beq_iff_eq (fun hc3 => ?_) ?_
  · have hq0 : p0 ≥ p1 := (decide_eq_true_iff.mp hc3)
    exact g_move (v := .int .i64 p0) rfl
  refine wl_guard (c := (decide (p0 ≥ p1)) = true) (val := .int .i64 p2) (b := ((decide (p0 ≥ p1)) == true)) (gv_some rfl rfl rfl) beq_iff_eq (fun hc4 => ?_) ?_
  · have hq0 : p0 ≥ p1 := (decide_eq_true_iff.mp hc4)
    exact g_move (v := .int .i64 p2) rfl
  refine wl_guard (c := (decide (p0 ≥ p1)) = true) (val := .bool (decide (p0 ≤ p2))) (b := ((decide (p0 ≥ p1)) == true)) (gv_some rfl rfl rfl) beq_iff_eq (fun hc5 => ?_) ?_
  · have hq0 : p0 ≥ p1 := (decide_eq_true_iff.mp hc5)
    exact g_leq (a := p0) (b := p2) (if_pos hc5) (if_pos hc5)
  refine wl_val (g_pick_and (b := (decide (p0 ≥ p1))) (q := (decide (p0 ≤ p2))) rfl rfl) rfl ?_
  refine wl_val (g_assign (v := .bool ((decide (p0 ≥ p1)) && (decide (p0 ≤ p2)))) rfl) rfl ?_
  refine wl_nil ?_
  refine hK2 _ _ ?_
  refine w_ret ?_
  repeat first | with_reducible refine q_then ?_ | with_reducible refine q_block ?_
  exact ret1 rfl (by decide) ⟨_, hm, rfl, toExt hB0⟩

theorem m_impl_CrossesOk_fn {w : World} {a1 : Option Addr} {n1 c1 : Nat} {p1 : List Cross} {Q : Bool → Prop} (p0 : Int) (hp1 : Vw w.heap.size w a1 n1 c1 p1) (hm : m_impl_CrossesOk p0 p1 Q) :
    Fn Try.prog 57 #[.int .i64 p0, .slice a1 n1 c1] w (fun v w' => ∃ (r0 : Bool), Q r0 ∧ v = .bool r0 ∧ Ext w w') := by
  unfold m_impl_CrossesOk at hm
  have hB0 := Below.refl w.heap.size w
  have hS0 : Sep w w.heap.size [] := Sep.nil (Nat.le_refl _)
  refine fn_of_wp Try.func57 rfl (by kernel_rfl) (Nat.le_of_ble_eq_true rfl) ?_
  refine w_seq fun K1 hK1 => ?_
  refine w_region ?_
  refine wl_val (g_assign (v := .bool false) rfl) rfl ?_
  refine wl_nil ?_
  refine hK1 _ _ ?_
  refine w_seq fun K2 hK2 => ?_
  refine w_seq fun K3 hK3 => ?_
  refine w_region ?_
  refine wl_val (g_move (v := .int .i64 p0) rfl) rfl ?_
  refine wl_step rfl (g_call (vs := #[.int .i64 p0, .int .i64 1, .int .i64 7]) CF54 (args3 rfl rfl rfl) (m_impl_within_fn p0 1 7 hm)) ?_
  rintro _ w4 ⟨r7, hm, rfl, hE5⟩
  have hB8 := hB0.trans (Ext.stp hE5 hS0.base)
  have hS9 := hS0.ext hE5
  refine wl_val (g_not (a := r7) rfl) rfl ?_
  refine wl_val (g_move (v := .bool (!r7)) rfl) rfl ?_
  refine wl_guard (c := (!r7) = false) (val := .slice a1 n1 c1) (b := ((!r7) == false)) (gv_some rfl rfl rfl) beq_iff_eq (fun hc10 => ?_) ?_
  · have hq0 : ¬ (¬ (r7 = true)) := (i_neg (i_not Iff.rfl) hc10)
    exact g_move (v := .slice a1 n1 c1) rfl
  refine wl_guard (c := (!r7) = false) (val := .int .i64 (p1.length : Int)) (b := ((!r7) == false)) (gv_some rfl rfl rfl) beq_iff_eq (fun hc11 => ?_) ?_
  · have hq0 : ¬ (¬ (r7 = true)) := (i_neg (i_not Iff.rfl) hc11)
    exact q_len SL24 (if_pos hc11) (Vw.len (hp1.bel hB8))
  refine wl_guard (c := (!r7) = false) (val := .bool (decide ((p1.length : Int) > 40))) (b := ((!r7) == false)) (gv_some rfl rfl rfl) beq_iff_eq (fun hc12 => ?_) ?_
  · have hq0 : ¬ (¬ (r7 = true)) := (i_neg (i_not Iff.rfl) hc12)
    exact g_gtr (a := (p1.length : Int)) (b := 40) (if_pos hc12) rfl
  refine wl_val (g_pick_or (b := (!r7)) (q := (decide ((p1.length : Int) > 40))) rfl rfl) rfl ?_
  refine wl_nil ?_
  refine hK3 _ _ ?_
  refine w_condI (p := ((¬ (r7 = true)) ∨ ((p1.length : Int) > 40))) (b := ((!r7) || (decide ((p1.length : Int) > 40)))) rfl (i_or (i_not Iff.rfl) decide_eq_true_iff) (fun h13 => ?_) (fun h13 => ?_)
  · replace hm := hm.1 h13
    refine w_seq fun K14 hK14 => ?_
    refine w_region ?_
    refine wl_val (g_assign (v := .bool false) rfl) rfl ?_
    refine wl_nil ?_
    refine hK14 _ _ ?_
    refine w_ret ?_
    repeat first | with_reducible refine q_then ?_ | with_reducible refine q_block ?_
    exact ret1 rfl (by decide) ⟨_, hm, rfl, toExt hB8⟩
  · replace hm := hm.2 h13
    refine w_skip ?_
    refine hK2 _ _ ?_
    refine w_cut (σ := Unit) (fun _ => []) (fun _ w' => m_impl_CrossesOk_K0 Q ∧ Below w.heap.size w w' ∧ Sep w' w.heap.size []) ?_ ?_
    · refine w_seq fun K16 hK16 => ?_
      refine w_region ?_
      refine wl_val (g_move (v := .slice a1 n1 c1) rfl) rfl ?_
      refine wl_val (q_len SL24 rfl (Vw.len (hp1.bel hB8))) rfl ?_
      refine wl_val (g_move (v := .int .i64 0) rfl) rfl ?_
      refine wl_nil ?_
      refine hK16 _ _ ?_
      refine w_block ?_
      obtain ⟨I53, μ54, h055, hr56⟩ := hm
      refine w_for (σ := Int) (fun v52 => [(0, .int .i64 p0), (15, .slice a1 n1 c1), (16, .int .i64 (p1.length : Int)), (17, .int .i64 v52)]) (fun v52 w' => I53 v52 ∧ Below w.heap.size w w' ∧ Sep w' w.heap.size []) (fun v52 => μ54 v52) (0) ⟨rfl, rfl, rfl, rfl, trivial⟩ ⟨h055, hB8, hS9⟩ ?_
      rintro v52 b_ w57 ⟨hi_, hB58, hS59⟩
      show Wp _ _ _ _ (upds b_ [(0, .int .i64 p0), (15, .slice a1 n1 c1), (16, .int .i64 (p1.length : Int)), (17, .int .i64 v52)]) w57
      have hm := hr56 v52 hi_
      refine w_seq fun K61 hK61 => ?_
      refine w_region ?_
      refine wl_val (g_lss (a := v52) (b := (p1.length : Int)) rfl rfl) rfl ?_
      refine wl_nil ?_
      refine hK61 _ _ ?_
      refine w_seq fun K62 hK62 => ?_
      refine w_condI (p := v52 < (p1.length : Int)) (b := (decide (v52 < (p1.length : Int)))) rfl decide_eq_true_iff (fun h63 => ?_) (fun h63 => ?_)
      · replace hm := hm.1 h63
        refine w_skip ?_
        refine hK62 _ _ ?_
        refine w_seq fun K64 hK64 => ?_
        refine w_block ?_
        refine w_seq fun K65 hK65 => ?_
        refine w_region ?_
        obtain ⟨hg66, hm⟩ := hm
        refine wl_val (q_index (i := v52) SL24 rfl rfl (hp1.bel hB58) hg66) rfl ?_
        refine wl_val (q_loadS (i := v52) (cs := [.int .i64 (p1[(Int.toNat v52)]!.1), .bool (p1[(Int.toNat v52)]!.2)]) AG56 (hp1.bel hB58) hg66 rfl rfl) rfl ?_
        refine wl_step rfl (q_alloc (cs := #[.int .i64 0, .bool false]) ZR56 rfl hS59) ?_
        rintro _ w67 ⟨g68, rfl, hS70, hE69⟩
        have hB72 := hB58.trans (Ext.stp hE69 hS59.base)
        refine wl_step rfl (q_storeB (i := 0) (bs' := #[.int .i64 (p1[(Int.toNat v52)]!.1), .bool (p1[(Int.toNat v52)]!.2)]) (vs := [.int .i64 (p1[(Int.toNat v52)]!.1), .bool (p1[(Int.toNat v52)]!.2)]) hS70 AG56.sz rfl rfl rfl (by simp [Value.oneCell']) (Nat.le_of_ble_eq_true rfl) rfl) ?_
        rintro _ w73 ⟨rfl, hS74, hb75⟩
        have hB76 := hB72.trans hb75
        refine wl_nil ?_
        refine hK65 _ _ ?_
        refine w_seq fun K77 hK77 => ?_
        refine w_region ?_
        refine wl_val (g_fieldAddr (q := (⟨g68, 0, none⟩ : Addr)) FL56_0 ON3 rfl) rfl ?_
        refine wl_val (q_loadB (i := 0) (bs := #[.int .i64 (p1[(Int.toNat v52)]!.1), .bool (p1[(Int.toNat v52)]!.2)]) hS74.g0 ON3 rfl rfl) rfl ?_
        refine wl_val (g_move (v := .int .i64 p0) rfl) rfl ?_
        obtain ⟨hg78, hm⟩ := hm
        refine wl_val (g_sub (a := p0) (b := 2) rfl rfl hg78) rfl ?_
        refine wl_step rfl (g_call (vs := #[.int .i64 (p1[(Int.toNat v52)]!.1), .int .i64 0, .int .i64 (p0 - 2)]) CF54 (args3 rfl rfl rfl) (m_impl_within_fn (p1[(Int.toNat v52)]!.1) 0 (p0 - 2) hm)) ?_
        rintro _ w79 ⟨r82, hm, rfl, hE80⟩
        have hB83 := hB76.trans (Ext.stp hE80 hS74.base)
        have hS84 := hS74.ext hE80
        refine wl_val (g_not (a := r82) rfl) rfl ?_
        refine wl_nil ?_
        refine hK77 _ _ ?_
        refine w_condI (p := ¬ (r82 = true)) (b := (!r82)) rfl (i_not Iff.rfl) (fun h85 => ?_) (fun h85 => ?_)
        · replace hm := hm.1 h85
          refine w_seq fun K86 hK86 => ?_
          refine w_region ?_
          refine wl_val (g_assign (v := .bool false) rfl) rfl ?_
          refine wl_nil ?_
          refine hK86 _ _ ?_
          refine w_ret ?_
          repeat first | with_reducible refine q_then ?_ | with_reducible refine q_block ?_
          exact ret1 rfl (by decide) ⟨_, hm, rfl, toExt hB83⟩
        · replace hm := hm.2 h85
          refine w_skip ?_
          refine hK64 _ _ ?_
          refine w_region ?_
          obtain ⟨hg87, hm⟩ := hm
          refine wl_val (g_add (a := v52) (b := 1) rfl rfl hg87) rfl ?_
          refine wl_val (g_move (v := .int .i64 (v52 + 1)) rfl) rfl ?_
          refine wl_nil ?_
          have hS88 := hS84.tail
          exact ⟨((v52 + 1)), hm.2, ⟨rfl, rfl, rfl, rfl, trivial⟩, ⟨hm.1, hB83, hS88⟩⟩
      · replace hm := hm.2 h63
        refine w_exit ?_
        exact ⟨(), trivial, ⟨hm, hB58, hS59⟩⟩
    · rintro _ b_ w89 ⟨hm, hB90, hS91⟩
      show Wp _ _ _ _ (upds b_ []) w89
      refine w_seq fun K92 hK92 => ?_
      refine w_region ?_
      refine wl_val (g_assign (v := .bool true) rfl) rfl ?_
      refine wl_nil ?_
      refine hK92 _ _ ?_
      refine w_ret ?_
      repeat first | with_reducible refine q_then ?_ | with_reducible refine q_block ?_
      exact ret1 rfl (by decide) ⟨_, hm, rfl, toExt hB90⟩

theorem m_impl_upTo_fn {w : World}  {Q : (List Int) → Prop} (p0 : Int) (hm : m_impl_upTo p0 Q) :
    Fn Try.prog 77 #[.int .i64 p0] w (fun v w' => ∃ (r0 : List Int) (a0 : Option Addr) (n0 c0 : Nat), Q r0 ∧ v = .slice a0 n0 c0 ∧ Ext w w' ∧ Sep w' w.heap.size [oS 3 a0 n0 c0 r0]) := by
  unfold m_impl_upTo at hm
  have hB0 := Below.refl w.heap.size w
  have hS0 : Sep w w.heap.size [] := Sep.nil (Nat.le_refl _)
  refine fn_of_wp Try.func77 rfl (by kernel_rfl) (Nat.le_of_ble_eq_true rfl) ?_
  refine w_seq fun K1 hK1 => ?_
  refine w_region ?_
  refine wl_val (g_assign (v := .slice none 0 0) rfl) rfl ?_
  refine wl_nil ?_
  refine hK1 _ _ ?_
  refine w_seq fun K2 hK2 => ?_
  refine w_region ?_
  refine wl_step rfl (q_lit0 (α := Int) rfl SL39 hS0) ?_
  rintro _ w3 ⟨a4, rfl, hS6, hE5⟩
  have hB8 := hB0.trans (Ext.stp hE5 hS0.base)
  refine wl_val (g_assign (v := .slice a4 0 0) rfl) rfl ?_
  refine wl_nil ?_
  refine hK2 _ _ ?_
  refine w_cut (σ := List Int × Option Addr × Nat × Nat) (fun ⟨x74, a75, n76, c77⟩ => [(3, .slice a75 n76 c77)]) (fun ⟨x74, a75, n76, c77⟩ w' => m_impl_upTo_K0 Q x74 ∧ Below w.heap.size w w' ∧ Sep w' w.heap.size [oS 3 a75 n76 c77 (x74 : List Int)]) ?_ ?_
  · refine w_seq fun K79 hK79 => ?_
    refine w_region ?_
    refine wl_val (g_move (v := .int .i64 p0) rfl) rfl ?_
    refine wl_val (g_move (v := .int .i64 0) rfl) rfl ?_
    refine wl_nil ?_
    refine hK79 _ _ ?_
    refine w_block ?_
    obtain ⟨I85, μ86, h087, hr88⟩ := hm
    refine w_for (σ := List Int × Option Addr × Nat × Nat × Int) (fun ⟨x80, a81, n82, c83, v84⟩ => [(3, .slice a81 n82 c83), (6, .int .i64 p0), (7, .int .i64 v84)]) (fun ⟨x80, a81, n82, c83, v84⟩ w' => I85 x80 v84 ∧ Below w.heap.size w w' ∧ Sep w' w.heap.size [oS 3 a81 n82 c83 (x80 : List Int)]) (fun ⟨x80, a81, n82, c83, v84⟩ => μ86 x80 v84) ([], a4, 0, 0, 0) ⟨rfl, rfl, rfl, trivial⟩ ⟨h087, hB8, hS6⟩ ?_
    rintro ⟨x80, a81, n82, c83, v84⟩ b_ w89 ⟨hi_, hB90, hS91⟩
    show Wp _ _ _ _ (upds b_ [(3, .slice a81 n82 c83), (6, .int .i64 p0), (7, .int .i64 v84)]) w89
    have hm := hr88 x80 v84 hi_
    refine w_seq fun K93 hK93 => ?_
    refine w_region ?_
    refine wl_val (g_lss (a := v84) (b := p0) rfl rfl) rfl ?_
    refine wl_nil ?_
    refine hK93 _ _ ?_
    refine w_seq fun K94 hK94 => ?_
    refine w_condI (p := v84 < p0) (b := (decide (v84 < p0))) rfl decide_eq_true_iff (fun h95 => ?_) (fun h95 => ?_)
    · replace hm := hm.1 h95
      refine w_skip ?_
      refine hK94 _ _ ?_
      refine w_seq fun K96 hK96 => ?_
      refine w_block ?_
      refine w_seq fun K97 hK97 => ?_
      refine w_region ?_
      refine wl_val (g_move (v := .int .i64 v84) rfl) rfl ?_
      refine wl_val (g_assign (v := .int .i64 v84) rfl) rfl ?_
      refine wl_nil ?_
      refine hK97 _ _ ?_
      refine w_region ?_
      refine wl_val (g_move (v := .slice a81 n82 c83) rfl) rfl ?_
      refine wl_val (g_move (v := .int .i64 v84) rfl) rfl ?_
      refine wl_step rfl (q_lit1 (y := (v84 : Int)) SL39 rfl rfl (by decide) hS91) ?_
      rintro _ w98 ⟨a99, rfl, hS101, hE100⟩
      have hB103 := hB90.trans (Ext.stp hE100 hS91.base)
      have hS109 := hS101.f1
      obtain ⟨hg110, hm⟩ := hm
      refine wl_step rfl (q_append SL39 rfl rfl hS109 (oS.vw hS109.g1) hg110 (by decide)) ?_
      rintro _ w104 ⟨a105, c106, rfl, hS108, hb107⟩
      have hB111 := hB103.trans hb107
      refine wl_val (g_assign (v := .slice a105 (n82 + 1) c106) rfl) rfl ?_
      refine wl_nil ?_
      refine hK96 _ _ ?_
      refine w_region ?_
      obtain ⟨hg112, hm⟩ := hm
      refine wl_val (g_add (a := v84) (b := 1) rfl rfl hg112) rfl ?_
      refine wl_val (g_move (v := .int .i64 (v84 + 1)) rfl) rfl ?_
      refine wl_nil ?_
      have hS113 := hS108.f1
      have hS114 := hS113.tail
      exact ⟨((x80 ++ ([v84])), a105, (n82 + 1), c106, (v84 + 1)), hm.2, ⟨rfl, rfl, rfl, trivial⟩, ⟨hm.1, hB111, hS114⟩⟩
    · replace hm := hm.2 h95
      refine w_exit ?_
      exact ⟨(x80, a81, n82, c83), ⟨rfl, trivial⟩, ⟨hm, hB90, hS91⟩⟩
  · rintro ⟨x74, a75, n76, c77⟩ b_ w115 ⟨hm, hB116, hS117⟩
    show Wp _ _ _ _ (upds b_ [(3, .slice a75 n76 c77)]) w115
    refine w_seq fun K118 hK118 => ?_
    refine w_region ?_
    refine wl_val (g_move (v := .slice a75 n76 c77) rfl) rfl ?_
    refine wl_val (g_assign (v := .slice a75 n76 c77) rfl) rfl ?_
    refine wl_nil ?_
    refine hK118 _ _ ?_
    refine w_ret ?_
    repeat first | with_reducible refine q_then ?_ | with_reducible refine q_block ?_
    exact ret1 rfl (by decide) ⟨_, _, _, _, hm, rfl, toExt hB116, hS117⟩

theorem m_laws_eqCross_fn {w : World}  {Q : Bool → Prop} (p0 : Cross) (p1 : Cross) (hm : m_laws_eqCross p0 p1 Q) :
    Fn Try.prog 52 #[.agg #[.int .i64 p0.1, .bool p0.2], .agg #[.int .i64 p1.1, .bool p1.2]] w (fun v w' => ∃ (r0 : Bool), Q r0 ∧ v = .bool r0 ∧ Ext w w') := by
  unfold m_laws_eqCross at hm
  have hB0 := Below.refl w.heap.size w
  have hS0 : Sep w w.heap.size [] := Sep.nil (Nat.le_refl _)
  refine fn_of_wp Try.func52 rfl (by kernel_rfl) (Nat.le_of_ble_eq_true rfl) ?_
  refine w_seq fun K1 hK1 => ?_
  refine w_region ?_
  refine wl_step rfl (q_box (cs := #[.int .i64 p0.1, .bool p0.2]) rfl rfl hS0) ?_
  rintro _ w2 ⟨g3, rfl, hS5, hE4⟩
  have hB7 := hB0.trans (Ext.stp hE4 hS0.base)
  refine wl_step rfl (q_box (cs := #[.int .i64 p1.1, .bool p1.2]) rfl rfl hS5) ?_
  rintro _ w8 ⟨g9, rfl, hS11, hE10⟩
  have hB13 := hB7.trans (Ext.stp hE10 hS5.base)
  refine wl_val (g_assign (v := .bool false) rfl) rfl ?_
  refine wl_nil ?_
  refine hK1 _ _ ?_
  refine w_seq fun K14 hK14 => ?_
  refine w_seq fun K15 hK15 => ?_
  refine w_region ?_
  refine wl_val (g_fieldAddr (q := (⟨g3, 0, none⟩ : Addr)) FL56_0 ON3 rfl) rfl ?_
  refine wl_val (q_loadB (i := 0) (bs := #[.int .i64 p0.1, .bool p0.2]) hS11.g1 ON3 rfl rfl) rfl ?_
  refine wl_val (g_fieldAddr (q := (⟨g9, 0, none⟩ : Addr)) FL56_0 ON3 rfl) rfl ?_
  refine wl_val (q_loadB (i := 0) (bs := #[.int .i64 p1.1, .bool p1.2]) hS11.g0 ON3 rfl rfl) rfl ?_
  refine wl_val (g_neq (a := p0.1) (b := p1.1) rfl rfl) rfl ?_
  refine wl_nil ?_
  refine hK15 _ _ ?_
  refine w_condI (p := p0.1 ≠ p1.1) (b := (decide (p0.1 ≠ p1.1))) rfl decide_eq_true_iff (fun h16 => ?_) (fun h16 => ?_)
  · replace hm := hm.1 h16
    refine w_seq fun K17 hK17 => ?_
    refine w_region ?_
    refine wl_val (g_assign (v := .bool false) rfl) rfl ?_
    refine wl_nil ?_
    refine hK17 _ _ ?_
    refine w_ret ?_
    repeat first | with_reducible refine q_then ?_ | with_reducible refine q_block ?_
    exact ret1 rfl (by decide) ⟨_, hm, rfl, toExt hB13⟩
  · replace hm := hm.2 h16
    refine w_skip ?_
    refine hK14 _ _ ?_
    refine w_seq fun K18 hK18 => ?_
    refine w_seq fun K19 hK19 => ?_
    refine w_region ?_
    refine wl_val (g_fieldAddr (q := (⟨g3, 0, none⟩ : Addr)) FL56_1 ON4 rfl) rfl ?_
    refine wl_val (q_loadB (i := 1) (bs := #[.int .i64 p0.1, .bool p0.2]) hS11.g1 ON4 rfl rfl) rfl ?_
    refine wl_val (g_fieldAddr (q := (⟨g9, 0, none⟩ : Addr)) FL56_1 ON4 rfl) rfl ?_
    refine wl_val (q_loadB (i := 1) (bs := #[.int .i64 p1.1, .bool p1.2]) hS11.g0 ON4 rfl rfl) rfl ?_
    refine wl_val (g_neq_b (a := p0.2) (b := p1.2) UB rfl rfl) rfl ?_
    refine wl_nil ?_
    refine hK19 _ _ ?_
    refine w_condI (p := (p0.2) ≠ (p1.2)) (b := (decide ((p0.2) ≠ (p1.2)))) rfl decide_eq_true_iff (fun h20 => ?_) (fun h20 => ?_)
    · replace hm := hm.1 h20
      refine w_seq fun K21 hK21 => ?_
      refine w_region ?_
      refine wl_val (g_assign (v := .bool false) rfl) rfl ?_
      refine wl_nil ?_
      refine hK21 _ _ ?_
      refine w_ret ?_
      repeat first | with_reducible refine q_then ?_ | with_reducible refine q_block ?_
      exact ret1 rfl (by decide) ⟨_, hm, rfl, toExt hB13⟩
    · replace hm := hm.2 h20
      refine w_skip ?_
      refine hK18 _ _ ?_
      refine w_seq fun K22 hK22 => ?_
      refine w_region ?_
      refine wl_val (g_assign (v := .bool true) rfl) rfl ?_
      refine wl_nil ?_
      refine hK22 _ _ ?_
      refine w_ret ?_
      repeat first | with_reducible refine q_then ?_ | with_reducible refine q_block ?_
      exact ret1 rfl (by decide) ⟨_, hm, rfl, toExt hB13⟩

theorem m_laws_eqCrossS_fn {w : World} {a0 : Option Addr} {n0 c0 : Nat} {p0 : List Cross} {a1 : Option Addr} {n1 c1 : Nat} {p1 : List Cross} {Q : Bool → Prop} (hp0 : Vw w.heap.size w a0 n0 c0 p0) (hp1 : Vw w.heap.size w a1 n1 c1 p1) (hm : m_laws_eqCrossS p0 p1 Q) :
    Fn Try.prog 18 #[.slice a0 n0 c0, .slice a1 n1 c1] w (fun v w' => ∃ (r0 : Bool), Q r0 ∧ v = .bool r0 ∧ Ext w w') := by
  unfold m_laws_eqCrossS at hm
  have hB0 := Below.refl w.heap.size w
  have hS0 : Sep w w.heap.size [] := Sep.nil (Nat.le_refl _)
  refine fn_of_wp Try.func18 rfl (by kernel_rfl) (Nat.le_of_ble_eq_true rfl) ?_
  refine w_seq fun K1 hK1 => ?_
  refine w_region ?_
  refine wl_val (g_assign (v := .bool false) rfl) rfl ?_
  refine wl_nil ?_
  refine hK1 _ _ ?_
  refine w_seq fun K2 hK2 => ?_
  refine w_seq fun K3 hK3 => ?_
  refine w_region ?_
  refine wl_val (g_move (v := .slice a0 n0 c0) rfl) rfl ?_
  refine wl_val (q_len SL24 rfl (Vw.len (hp0.bel hB0))) rfl ?_
  refine wl_val (g_move (v := .slice a1 n1 c1) rfl) rfl ?_
  refine wl_val (q_len SL24 rfl (Vw.len (hp1.bel hB0))) rfl ?_
  refine wl_val (g_neq (a := (p0.length : Int)) (b := (p1.length : Int)) rfl rfl) rfl ?_
  refine wl_nil ?_
  refine hK3 _ _ ?_
  refine w_condI (p := (p0.length : Int) ≠ (p1.length : Int)) (b := (decide ((p0.length : Int) ≠ (p1.length : Int)))) rfl decide_eq_true_iff (fun h4 => ?_) (fun h4 => ?_)
  · replace hm := hm.1 h4
    refine w_seq fun K5 hK5 => ?_
    refine w_region ?_
    refine wl_val (g_assign (v := .bool false) rfl) rfl ?_
    refine wl_nil ?_
    refine hK5 _ _ ?_
    refine w_ret ?_
    repeat first | with_reducible refine q_then ?_ | with_reducible refine q_block ?_
    exact ret1 rfl (by decide) ⟨_, hm, rfl, toExt hB0⟩
  · replace hm := hm.2 h4
    refine w_skip ?_
    refine hK2 _ _ ?_
    refine w_cut (σ := Unit) (fun _ => []) (fun _ w' => m_laws_eqCrossS_K0 Q ∧ Below w.heap.size w w' ∧ Sep w' w.heap.size []) ?_ ?_
    · refine w_seq fun K7 hK7 => ?_
      refine w_region ?_
      refine wl_val (g_assign (v := .int .i64 0) rfl) rfl ?_
      refine wl_nil ?_
      refine hK7 _ _ ?_
      refine w_block ?_
      obtain ⟨I77, μ78, h079, hr80⟩ := hm
      refine w_for (σ := Int) (fun v76 => [(0, .slice a0 n0 c0), (1, .slice a1 n1 c1), (5, .int .i64 v76)]) (fun v76 w' => I77 v76 ∧ Below w.heap.size w w' ∧ Sep w' w.heap.size []) (fun v76 => μ78 v76) (0) ⟨rfl, rfl, rfl, trivial⟩ ⟨h079, hB0, hS0⟩ ?_
      rintro v76 b_ w81 ⟨hi_, hB82, hS83⟩
      show Wp _ _ _ _ (upds b_ [(0, .slice a0 n0 c0), (1, .slice a1 n1 c1), (5, .int .i64 v76)]) w81
      have hm := hr80 v76 hi_
      refine w_seq fun K85 hK85 => ?_
      refine w_seq fun K86 hK86 => ?_
      refine w_region ?_
      refine wl_val (g_move (v := .int .i64 v76) rfl) rfl ?_
      refine wl_val (g_move (v := .slice a0 n0 c0) rfl) rfl ?_
      refine wl_val (q_len SL24 rfl (Vw.len (hp0.bel hB82))) rfl ?_
      refine wl_val (g_lss (a := v76) (b := (p0.length : Int)) rfl rfl) rfl ?_
      refine wl_nil ?_
      refine hK86 _ _ ?_
      refine w_condI (p := v76 < (p0.length : Int)) (b := (decide (v76 < (p0.length : Int)))) rfl decide_eq_true_iff (fun h87 => ?_) (fun h87 => ?_)
      · replace hm := hm.1 h87
        refine w_skip ?_
        refine hK85 _ _ ?_
        refine w_seq fun K88 hK88 => ?_
        refine w_block ?_
        refine w_seq fun K89 hK89 => ?_
        refine w_draw (X := Ext) (Y := Ext) [] MIX (by decide +kernel) rfl Ext.refl (fun _ _ _ => Ext.trans) (fun _ _ _ => Chg.trans) (fun _ _ h => Ext.chg h _) (fun w90 hE91 => ?_)
        have hB92 := hB82.trans (Ext.stp hE91 hS83.base)
        have hS93 := hS83.ext hE91
        refine ⟨.slice a0 n0 c0, fun w94 hX95 => od_plain rfl (by have hS96 := hS93.ext hX95; have hB97 := hB92.trans (Ext.stp hX95 hS93.base); exact is_ext (g_move (v := .slice a0 n0 c0) rfl)), ?_⟩
        refine ⟨.int .i64 v76, fun w98 hX99 => od_plain rfl (by have hS100 := hS93.ext hX99; have hB101 := hB92.trans (Ext.stp hX99 hS93.base); exact is_ext (g_move (v := .int .i64 v76) rfl)), ?_⟩
        obtain ⟨hg106, hm⟩ := hm
        refine ⟨.pointer (some ((adr a0).add ((Int.toNat v76) * El.m Cross))), fun w102 hX103 => od_plain rfl (by have hS104 := hS93.ext hX103; have hB105 := hB92.trans (Ext.stp hX103 hS93.base); exact is_ext (q_index (i := v76) SL24 rfl rfl (hp0.bel hB105) hg106)), ?_⟩
        refine ⟨.agg #[.int .i64 (p0[(Int.toNat v76)]!.1), .bool (p0[(Int.toNat v76)]!.2)], fun w107 hX108 => od_plain rfl (by have hS109 := hS93.ext hX108; have hB110 := hB92.trans (Ext.stp hX108 hS93.base); exact is_ext (q_loadS (i := v76) (cs := [.int .i64 (p0[(Int.toNat v76)]!.1), .bool (p0[(Int.toNat v76)]!.2)]) AG56 (hp0.bel hB110) hg106 rfl rfl)), ?_⟩
        refine ⟨.slice a1 n1 c1, fun w111 hX112 => od_plain rfl (by have hS113 := hS93.ext hX112; have hB114 := hB92.trans (Ext.stp hX112 hS93.base); exact is_ext (g_move (v := .slice a1 n1 c1) rfl)), ?_⟩
        refine ⟨.int .i64 v76, fun w115 hX116 => od_plain rfl (by have hS117 := hS93.ext hX116; have hB118 := hB92.trans (Ext.stp hX116 hS93.base); exact is_ext (g_move (v := .int .i64 v76) rfl)), ?_⟩
        obtain ⟨hg123, hm⟩ := hm
        refine ⟨.pointer (some ((adr a1).add ((Int.toNat v76) * El.m Cross))), fun w119 hX120 => od_plain rfl (by have hS121 := hS93.ext hX120; have hB122 := hB92.trans (Ext.stp hX120 hS93.base); exact is_ext (q_index (i := v76) SL24 rfl rfl (hp1.bel hB122) hg123)), ?_⟩
        refine ⟨.agg #[.int .i64 (p1[(Int.toNat v76)]!.1), .bool (p1[(Int.toNat v76)]!.2)], fun w124 hX125 => od_plain rfl (by have hS126 := hS93.ext hX125; have hB127 := hB92.trans (Ext.stp hX125 hS93.base); exact is_ext (q_loadS (i := v76) (cs := [.int .i64 (p1[(Int.toNat v76)]!.1), .bool (p1[(Int.toNat v76)]!.2)]) AG56 (hp1.bel hB127) hg123 rfl rfl)), ?_⟩
        obtain ⟨r132, hk133, hm⟩ := hm
        refine ⟨.bool r132, fun w128 hX129 => od_plain rfl (by have hS130 := hS93.ext hX129; have hB131 := hB92.trans (Ext.stp hX129 hS93.base); exact (g_call (vs := #[.agg #[.int .i64 (p0[(Int.toNat v76)]!.1), .bool (p0[(Int.toNat v76)]!.2)], .agg #[.int .i64 (p1[(Int.toNat v76)]!.1), .bool (p1[(Int.toNat v76)]!.2)]]) CF52 (args2 rfl rfl) ((m_laws_eqCross_fn (p0[(Int.toNat v76)]!) (p1[(Int.toNat v76)]!) hk133).mono fun _ _ ⟨_, h1, h2, h3⟩ => ⟨by rw [h2, h1], h3⟩))), ?_⟩
        refine ⟨.bool (!r132), fun w134 hX135 => od_plain rfl (by have hS136 := hS93.ext hX135; have hB137 := hB92.trans (Ext.stp hX135 hS93.base); exact is_ext (g_not (a := r132) rfl)), ?_⟩
        intro w138 hX139
        have hB140 := hB92.trans (Ext.stp hX139 hS93.base)
        have hS141 := hS93.ext hX139
        refine hK89 _ _ ?_
        refine w_condI (p := ¬ (r132 = true)) (b := (!r132)) rfl (i_not Iff.rfl) (fun h142 => ?_) (fun h142 => ?_)
        · replace hm := hm.1 h142
          refine w_seq fun K143 hK143 => ?_
          refine w_region ?_
          refine wl_val (g_assign (v := .bool false) rfl) rfl ?_
          refine wl_nil ?_
          refine hK143 _ _ ?_
          refine w_ret ?_
          repeat first | with_reducible refine q_then ?_ | with_reducible refine q_block ?_
          exact ret1 rfl (by decide) ⟨_, hm, rfl, toExt hB140⟩
        · replace hm := hm.2 h142
          refine w_skip ?_
          refine hK88 _ _ ?_
          refine w_region ?_
          refine wl_val (g_move (v := .int .i64 v76) rfl) rfl ?_
          obtain ⟨hg144, hm⟩ := hm
          refine wl_val (g_add (a := v76) (b := 1) rfl rfl hg144) rfl ?_
          refine wl_val (g_assign (v := .int .i64 (v76 + 1)) rfl) rfl ?_
          refine wl_nil ?_
          exact ⟨((v76 + 1)), hm.2, ⟨rfl, rfl, rfl, trivial⟩, ⟨hm.1, hB140, hS141⟩⟩
      · replace hm := hm.2 h87
        refine w_exit ?_
        exact ⟨(), trivial, ⟨hm, hB82, hS83⟩⟩
    · rintro _ b_ w145 ⟨hm, hB146, hS147⟩
      show Wp _ _ _ _ (upds b_ []) w145
      refine w_seq fun K148 hK148 => ?_
      refine w_region ?_
      refine wl_val (g_assign (v := .bool true) rfl) rfl ?_
      refine wl_nil ?_
      refine hK148 _ _ ?_
      refine w_ret ?_
      repeat first | with_reducible refine q_then ?_ | with_reducible refine q_block ?_
      exact ret1 rfl (by decide) ⟨_, hm, rfl, toExt hB146⟩

theorem m_laws_markCrossS_fn {w : World} {B_ : Nat} {L_ : List Ob} {a0 : Option Addr} {n0 c0 : Nat} {p0 : List Cross} {Q : Int → (List Cross) → Prop} (hS0 : Sep w B_ (oS 56 a0 n0 c0 (p0 : List Cross) :: L_)) (p1 : Int) (hm : m_laws_markCrossS p0 p1 Q) :
    Fn Try.prog 19 #[.slice a0 n0 c0, .int .i64 p1] w (fun v w' => ∃ (r0 : Int) (x0 : List Cross), Q r0 x0 ∧ v = .int .i64 r0 ∧ Below B_ w w' ∧ Sep w' B_ (oS 56 a0 n0 c0 x0 :: L_)) := by
  unfold m_laws_markCrossS at hm
  have hB0 := Below.refl B_ w
  refine fn_of_wp Try.func19 rfl (by kernel_rfl) (Nat.le_of_ble_eq_true rfl) ?_
  refine w_seq fun K2 hK2 => ?_
  refine w_region ?_
  refine wl_val (g_assign (v := .int .i64 0) rfl) rfl ?_
  refine wl_nil ?_
  refine hK2 _ _ ?_
  refine w_cut (σ := List Cross × Int) (fun ⟨x64, v65⟩ => [(1, .int .i64 v65)]) (fun ⟨x64, v65⟩ w' => m_laws_markCrossS_K0 Q x64 v65 ∧ Below B_ w w' ∧ Sep w' B_ (oS 56 a0 n0 c0 (x64 : List Cross) :: L_)) ?_ ?_
  · refine w_seq fun K67 hK67 => ?_
    refine w_region ?_
    refine wl_val (g_assign (v := .int .i64 0) rfl) rfl ?_
    refine wl_nil ?_
    refine hK67 _ _ ?_
    refine w_block ?_
    obtain ⟨I71, μ72, h073, hr74⟩ := hm
    refine w_for (σ := List Cross × Int × Int) (fun ⟨x68, v69, v70⟩ => [(0, .slice a0 n0 c0), (1, .int .i64 v69), (5, .int .i64 v70)]) (fun ⟨x68, v69, v70⟩ w' => I71 x68 v69 v70 ∧ Below B_ w w' ∧ Sep w' B_ (oS 56 a0 n0 c0 (x68 : List Cross) :: L_)) (fun ⟨x68, v69, v70⟩ => μ72 x68 v69 v70) (p0, p1, 0) ⟨rfl, rfl, rfl, trivial⟩ ⟨h073, hB0, hS0⟩ ?_
    rintro ⟨x68, v69, v70⟩ b_ w75 ⟨hi_, hB76, hS77⟩
    show Wp _ _ _ _ (upds b_ [(0, .slice a0 n0 c0), (1, .int .i64 v69), (5, .int .i64 v70)]) w75
    have hm := hr74 x68 v69 v70 hi_
    refine w_seq fun K79 hK79 => ?_
    refine w_seq fun K80 hK80 => ?_
    refine w_region ?_
    refine wl_val (g_move (v := .int .i64 v70) rfl) rfl ?_
    refine wl_val (g_move (v := .slice a0 n0 c0) rfl) rfl ?_
    refine wl_val (q_len SL24 rfl (Vw.len (oS.vw hS77.g0))) rfl ?_
    refine wl_val (g_lss (a := v70) (b := (x68.length : Int)) rfl rfl) rfl ?_
    refine wl_nil ?_
    refine hK80 _ _ ?_
    refine w_condI (p := v70 < (x68.length : Int)) (b := (decide (v70 < (x68.length : Int)))) rfl decide_eq_true_iff (fun h81 => ?_) (fun h81 => ?_)
    · replace hm := hm.1 h81
      refine w_skip ?_
      refine hK79 _ _ ?_
      refine w_seq fun K82 hK82 => ?_
      refine w_block ?_
      refine w_seq fun K83 hK83 => ?_
      refine w_region ?_
      refine wl_val (g_move (v := .slice a0 n0 c0) rfl) rfl ?_
      refine wl_val (g_move (v := .int .i64 v70) rfl) rfl ?_
      refine wl_val (g_move (v := .int .i64 v69) rfl) rfl ?_
      obtain ⟨hg84, hm⟩ := hm
      refine wl_val (q_index (i := v70) SL24 rfl rfl (oS.vw hS77.g0) hg84) rfl ?_
      refine wl_val (g_fieldAddr (q := (adr a0).add ((Int.toNat v70) * El.m Cross)) FL56_0 ON3 rfl) rfl ?_
      refine wl_step rfl (q_storeF (i := v70) (j := 0) (v := ((v69, x68[(Int.toNat v70)]!.2) : Cross)) hS77 ON3 hg84 rfl rfl rfl rfl (by decide) rfl) ?_
      rintro _ w85 ⟨rfl, hS86, hb87⟩
      have hB88 := hB76.trans hb87
      refine wl_nil ?_
      refine hK83 _ _ ?_
      refine w_seq fun K89 hK89 => ?_
      refine w_region ?_
      refine wl_val (g_move (v := .int .i64 v69) rfl) rfl ?_
      obtain ⟨hg90, hm⟩ := hm
      refine wl_val (g_add (a := v69) (b := 1) rfl rfl hg90) rfl ?_
      refine wl_val (g_assign (v := .int .i64 (v69 + 1)) rfl) rfl ?_
      refine wl_nil ?_
      refine hK89 _ _ ?_
      refine w_seq fun K91 hK91 => ?_
      refine w_region ?_
      refine wl_val (g_move (v := .slice a0 n0 c0) rfl) rfl ?_
      refine wl_val (g_move (v := .int .i64 v70) rfl) rfl ?_
      refine wl_val (g_move (v := .int .i64 (v69 + 1)) rfl) rfl ?_
      refine wl_val (g_rem (a := (v69 + 1)) (b := 3) rfl rfl (by decide)) rfl ?_
      refine wl_val (g_eql (a := (Int.tmod (v69 + 1) 3)) (b := 0) rfl rfl) rfl ?_
      obtain ⟨hg92, hm⟩ := hm
      refine wl_val (q_index (i := v70) SL24 rfl rfl (oS.vw hS86.g0) hg92) rfl ?_
      refine wl_val (g_fieldAddr (q := (adr a0).add ((Int.toNat v70) * El.m Cross)) FL56_1 ON4 rfl) rfl ?_
      refine wl_step rfl (q_storeF (i := v70) (j := 1) (v := (((x68.set (Int.toNat v70) (v69, x68[(Int.toNat v70)]!.2))[(Int.toNat v70)]!.1, (decide ((Int.tmod (v69 + 1) 3) = 0))) : Cross)) hS86 ON4 hg92 rfl rfl rfl rfl (by decide) rfl) ?_
      rintro _ w93 ⟨rfl, hS94, hb95⟩
      have hB96 := hB88.trans hb95
      refine wl_nil ?_
      refine hK91 _ _ ?_
      refine w_region ?_
      refine wl_val (g_move (v := .int .i64 (v69 + 1)) rfl) rfl ?_
      obtain ⟨hg97, hm⟩ := hm
      refine wl_val (g_add (a := (v69 + 1)) (b := 1) rfl rfl hg97) rfl ?_
      refine wl_val (g_assign (v := .int .i64 ((v69 + 1) + 1)) rfl) rfl ?_
      refine wl_nil ?_
      refine hK82 _ _ ?_
      refine w_region ?_
      refine wl_val (g_move (v := .int .i64 v70) rfl) rfl ?_
      obtain ⟨hg98, hm⟩ := hm
      refine wl_val (g_add (a := v70) (b := 1) rfl rfl hg98) rfl ?_
      refine wl_val (g_assign (v := .int .i64 (v70 + 1)) rfl) rfl ?_
      refine wl_nil ?_
      exact ⟨(((x68.set (Int.toNat v70) (v69, x68[(Int.toNat v70)]!.2)).set (Int.toNat v70) ((x68.set (Int.toNat v70) (v69, x68[(Int.toNat v70)]!.2))[(Int.toNat v70)]!.1, (decide ((Int.tmod (v69 + 1) 3) = 0)))), ((v69 + 1) + 1), (v70 + 1)), hm.2, ⟨rfl, rfl, rfl, trivial⟩, ⟨hm.1, hB96, hS94⟩⟩
    · replace hm := hm.2 h81
      refine w_exit ?_
      exact ⟨(x68, v69), ⟨rfl, trivial⟩, ⟨hm, hB76, hS77⟩⟩
  · rintro ⟨x64, v65⟩ b_ w99 ⟨hm, hB100, hS101⟩
    show Wp _ _ _ _ (upds b_ [(1, .int .i64 v65)]) w99
    refine w_seq fun K102 hK102 => ?_
    refine w_region ?_
    refine wl_val (g_move (v := .int .i64 v65) rfl) rfl ?_
    refine wl_val (g_assign (v := .int .i64 v65) rfl) rfl ?_
    refine wl_nil ?_
    refine hK102 _ _ ?_
    refine w_ret ?_
    repeat first | with_reducible refine q_then ?_ | with_reducible refine q_block ?_
    exact ret1 rfl (by decide) ⟨_, _, hm, rfl, hB100, hS101⟩

theorem m_spec_OrderAfter_fn {w : World} {a1 : Option Addr} {n1 c1 : Nat} {p1 : List Cross} {Q : (List Int) → Prop} (p0 : Int) (hp1 : Vw w.heap.size w a1 n1 c1 p1) (hm : m_spec_OrderAfter p0 p1 Q) :
    Fn Try.prog 26 #[.int .i64 p0, .slice a1 n1 c1] w (fun v w' => ∃ (r0 : List Int) (a0 : Option Addr) (n0 c0 : Nat), Q r0 ∧ v = .slice a0 n0 c0 ∧ Ext w w' ∧ Sep w' w.heap.size [oS 3 a0 n0 c0 r0]) := by
  unfold m_spec_OrderAfter at hm
  have hB0 := Below.refl w.heap.size w
  have hS0 : Sep w w.heap.size [] := Sep.nil (Nat.le_refl _)
  refine fn_of_wp Try.func26 rfl (by kernel_rfl) (Nat.le_of_ble_eq_true rfl) ?_
  refine w_seq fun K1 hK1 => ?_
  refine w_region ?_
  refine wl_val (g_assign (v := .slice none 0 0) rfl) rfl ?_
  refine wl_nil ?_
  refine hK1 _ _ ?_
  refine w_seq fun K2 hK2 => ?_
  refine w_seq fun K3 hK3 => ?_
  refine w_region ?_
  refine wl_val (g_move (v := .int .i64 p0) rfl) rfl ?_
  refine wl_val (g_move (v := .slice a1 n1 c1) rfl) rfl ?_
  refine wl_step rfl (g_call (vs := #[.int .i64 p0, .slice a1 n1 c1]) CF59 (args2 rfl rfl) (m_spec_CrossesOk_fn p0 ((hp1.bel hB0).up hS0) hm)) ?_
  rintro _ w4 ⟨r7, hm, rfl, hE5⟩
  have hB8 := hB0.trans (Ext.stp hE5 hS0.base)
  have hS9 := hS0.ext hE5
  refine wl_val (g_not (a := r7) rfl) rfl ?_
  refine wl_nil ?_
  refine hK3 _ _ ?_
  refine w_condI (p := ¬ (r7 = true)) (b := (!r7)) rfl (i_not Iff.rfl) (fun h10 => ?_) (fun h10 => ?_)
  · replace hm := hm.1 h10
    refine w_seq fun K11 hK11 => ?_
    refine w_region ?_
    refine wl_step rfl (q_lit0 (α := Int) rfl SL39 hS9) ?_
    rintro _ w12 ⟨a13, rfl, hS15, hE14⟩
    have hB17 := hB8.trans (Ext.stp hE14 hS9.base)
    refine wl_val (g_assign (v := .slice a13 0 0) rfl) rfl ?_
    refine wl_nil ?_
    refine hK11 _ _ ?_
    refine w_ret ?_
    repeat first | with_reducible refine q_then ?_ | with_reducible refine q_block ?_
    exact ret1 rfl (by decide) ⟨_, _, _, _, hm, rfl, toExt hB17, hS15⟩
  · replace hm := hm.2 h10
    refine w_skip ?_
    refine hK2 _ _ ?_
    refine w_seq fun K18 hK18 => ?_
    refine w_region ?_
    refine wl_val (g_move (v := .int .i64 p0) rfl) rfl ?_
    refine wl_step rfl (g_call (vs := #[.int .i64 p0]) CF60 (args1 rfl) (m_spec_l08Start_fn p0 hm)) ?_
    rintro _ w19 ⟨r22, a23, n24, c25, hm, rfl, hE20, hN21⟩
    have hS27 := hS9.call1 hE20 hN21
    have hB28 := hB8.trans (Ext.stp hE20 hS9.base)
    refine wl_val (g_assign (v := .slice a23 n24 c25) rfl) rfl ?_
    refine wl_nil ?_
    refine hK18 _ _ ?_
    refine w_cut (σ := List Int × Option Addr × Nat × Nat) (fun ⟨x88, a89, n90, c91⟩ => [(5, .slice a89 n90 c91)]) (fun ⟨x88, a89, n90, c91⟩ w' => m_spec_OrderAfter_K0 Q x88 ∧ Below w.heap.size w w' ∧ Sep w' w.heap.size [oS 3 a89 n90 c91 (x88 : List Int)]) ?_ ?_
    · refine w_seq fun K93 hK93 => ?_
      refine w_region ?_
      refine wl_val (g_assign (v := .int .i64 0) rfl) rfl ?_
      refine wl_nil ?_
      refine hK93 _ _ ?_
      refine w_block ?_
      obtain ⟨I99, μ100, h0101, hr102⟩ := hm
      refine w_for (σ := List Int × Option Addr × Nat × Nat × Int) (fun ⟨x94, a95, n96, c97, v98⟩ => [(1, .slice a1 n1 c1), (5, .slice a95 n96 c97), (6, .int .i64 v98)]) (fun ⟨x94, a95, n96, c97, v98⟩ w' => I99 x94 v98 ∧ Below w.heap.size w w' ∧ Sep w' w.heap.size [oS 3 a95 n96 c97 (x94 : List Int)]) (fun ⟨x94, a95, n96, c97, v98⟩ => μ100 x94 v98) (r22, a23, n24, c25, 0) ⟨rfl, rfl, rfl, trivial⟩ ⟨h0101, hB28, hS27⟩ ?_
      rintro ⟨x94, a95, n96, c97, v98⟩ b_ w103 ⟨hi_, hB104, hS105⟩
      show Wp _ _ _ _ (upds b_ [(1, .slice a1 n1 c1), (5, .slice a95 n96 c97), (6, .int .i64 v98)]) w103
      have hm := hr102 x94 v98 hi_
      refine w_seq fun K107 hK107 => ?_
      refine w_seq fun K108 hK108 => ?_
      refine w_region ?_
      refine wl_val (g_move (v := .int .i64 v98) rfl) rfl ?_
      refine wl_val (g_move (v := .slice a1 n1 c1) rfl) rfl ?_
      refine wl_val (q_len SL24 rfl (Vw.len (hp1.bel hB104))) rfl ?_
      refine wl_val (g_lss (a := v98) (b := (p1.length : Int)) rfl rfl) rfl ?_
      refine wl_nil ?_
      refine hK108 _ _ ?_
      refine w_condI (p := v98 < (p1.length : Int)) (b := (decide (v98 < (p1.length : Int)))) rfl decide_eq_true_iff (fun h109 => ?_) (fun h109 => ?_)
      · replace hm := hm.1 h109
        refine w_skip ?_
        refine hK107 _ _ ?_
        refine w_seq fun K110 hK110 => ?_
        refine w_block ?_
        refine w_region ?_
        refine wl_val (g_move (v := .slice a95 n96 c97) rfl) rfl ?_
        refine wl_val (g_move (v := .slice a1 n1 c1) rfl) rfl ?_
        refine wl_val (g_move (v := .int .i64 v98) rfl) rfl ?_
        obtain ⟨hg111, hm⟩ := hm
        refine wl_val (q_index (i := v98) SL24 rfl rfl (hp1.bel hB104) hg111) rfl ?_
        refine wl_val (g_fieldAddr (q := (adr a1).add ((Int.toNat v98) * El.m Cross)) FL56_0 ON3 rfl) rfl ?_
        refine wl_val (q_loadF (i := v98) (j := 0) (v := .int .i64 (p1[(Int.toNat v98)]!.1)) ON3 (hp1.bel hB104) hg111 rfl rfl) rfl ?_
        refine wl_step rfl (g_call (vs := #[.slice a95 n96 c97, .int .i64 (p1[(Int.toNat v98)]!.1)]) CF61 (args2 rfl rfl) (m_spec_SwapAt_fn (oS.vw hS105.g0) (p1[(Int.toNat v98)]!.1) hm)) ?_
        rintro _ w112 ⟨r115, a116, n117, c118, r120, hm, rfl, hE113, hN114⟩
        have hS121 := hS105.call1 hE113 hN114
        have hB122 := hB104.trans (Ext.stp hE113 hS105.base)
        refine wl_val (g_move (v := .tuple #[.slice a116 n117 c118, .bool r120]) rfl) rfl ?_
        refine wl_val (g_extract (vs := #[.slice a116 n117 c118, .bool r120]) rfl rfl) rfl ?_
        refine wl_val (g_extract (vs := #[.slice a116 n117 c118, .bool r120]) rfl rfl) rfl ?_
        refine wl_val (g_assign (v := .slice a116 n117 c118) rfl) rfl ?_
        refine wl_nil ?_
        refine hK110 _ _ ?_
        refine w_region ?_
        refine wl_val (g_move (v := .int .i64 v98) rfl) rfl ?_
        obtain ⟨hg123, hm⟩ := hm
        refine wl_val (g_add (a := v98) (b := 1) rfl rfl hg123) rfl ?_
        refine wl_val (g_assign (v := .int .i64 (v98 + 1)) rfl) rfl ?_
        refine wl_nil ?_
        have hS124 := hS121.f1
        have hS125 := hS124.tail
        exact ⟨(r115, a116, n117, c118, (v98 + 1)), hm.2, ⟨rfl, rfl, rfl, trivial⟩, ⟨hm.1, hB122, hS125⟩⟩
      · replace hm := hm.2 h109
        refine w_exit ?_
        exact ⟨(x94, a95, n96, c97), ⟨rfl, trivial⟩, ⟨hm, hB104, hS105⟩⟩
    · rintro ⟨x88, a89, n90, c91⟩ b_ w126 ⟨hm, hB127, hS128⟩
      show Wp _ _ _ _ (upds b_ [(5, .slice a89 n90 c91)]) w126
      refine w_seq fun K129 hK129 => ?_
      refine w_region ?_
      refine wl_val (g_move (v := .slice a89 n90 c91) rfl) rfl ?_
      refine wl_val (g_assign (v := .slice a89 n90 c91) rfl) rfl ?_
      refine wl_nil ?_
      refine hK129 _ _ ?_
      refine w_ret ?_
      repeat first | with_reducible refine q_then ?_ | with_reducible refine q_block ?_
      exact ret1 rfl (by decide) ⟨_, _, _, _, hm, rfl, toExt hB127, hS128⟩

theorem m_spec_CountInversions_fn {w : World} {a0 : Option Addr} {n0 c0 : Nat} {p0 : List Int} {Q : Int → Prop} (hp0 : Vw w.heap.size w a0 n0 c0 p0) (hm : m_spec_CountInversions p0 Q) :
    Fn Try.prog 36 #[.slice a0 n0 c0] w (fun v w' => ∃ (r0 : Int), Q r0 ∧ v = .int .i64 r0 ∧ Ext w w') := by
  unfold m_spec_CountInversions at hm
  have hB0 := Below.refl w.heap.size w
  have hS0 : Sep w w.heap.size [] := Sep.nil (Nat.le_refl _)
  refine fn_of_wp Try.func36 rfl (by kernel_rfl) (Nat.le_of_ble_eq_true rfl) ?_
  refine w_seq fun K1 hK1 => ?_
  refine w_region ?_
  refine wl_val (g_assign (v := .int .i64 0) rfl) rfl ?_
  refine wl_nil ?_
  refine hK1 _ _ ?_
  refine w_seq fun K2 hK2 => ?_
  refine w_seq fun K3 hK3 => ?_
  refine w_region ?_
  refine wl_val (g_move (v := .slice a0 n0 c0) rfl) rfl ?_
  refine wl_step rfl (g_call (vs := #[.slice a0 n0 c0]) CF62 (args1 rfl) (m_spec_OrderOk_fn ((hp0.bel hB0).up hS0) hm)) ?_
  rintro _ w4 ⟨r7, hm, rfl, hE5⟩
  have hB8 := hB0.trans (Ext.stp hE5 hS0.base)
  have hS9 := hS0.ext hE5
  refine wl_val (g_not (a := r7) rfl) rfl ?_
  refine wl_nil ?_
  refine hK3 _ _ ?_
  refine w_condI (p := ¬ (r7 = true)) (b := (!r7)) rfl (i_not Iff.rfl) (fun h10 => ?_) (fun h10 => ?_)
  · replace hm := hm.1 h10
    refine w_seq fun K11 hK11 => ?_
    refine w_region ?_
    refine wl_val (g_assign (v := .int .i64 (-1)) rfl) rfl ?_
    refine wl_nil ?_
    refine hK11 _ _ ?_
    refine w_ret ?_
    repeat first | with_reducible refine q_then ?_ | with_reducible refine q_block ?_
    exact ret1 rfl (by decide) ⟨_, hm, rfl, toExt hB8⟩
  · replace hm := hm.2 h10
    refine w_skip ?_
    refine hK2 _ _ ?_
    refine w_seq fun K12 hK12 => ?_
    refine w_region ?_
    refine wl_val (g_assign (v := .int .i64 0) rfl) rfl ?_
    refine wl_nil ?_
    refine hK12 _ _ ?_
    refine w_cut (σ := Int) (fun v312 => [(3, .int .i64 v312)]) (fun v312 w' => m_spec_CountInversions_K1 Q v312 ∧ Below w.heap.size w w' ∧ Sep w' w.heap.size []) ?_ ?_
    · refine w_seq fun K314 hK314 => ?_
      refine w_region ?_
      refine wl_val (g_assign (v := .int .i64 0) rfl) rfl ?_
      refine wl_nil ?_
      refine hK314 _ _ ?_
      refine w_block ?_
      obtain ⟨I317, μ318, h0319, hr320⟩ := hm
      refine w_for (σ := Int × Int) (fun ⟨v315, v316⟩ => [(0, .slice a0 n0 c0), (3, .int .i64 v315), (4, .int .i64 v316)]) (fun ⟨v315, v316⟩ w' => I317 v315 v316 ∧ Below w.heap.size w w' ∧ Sep w' w.heap.size []) (fun ⟨v315, v316⟩ => μ318 v315 v316) (0, 0) ⟨rfl, rfl, rfl, trivial⟩ ⟨h0319, hB8, hS9⟩ ?_
      rintro ⟨v315, v316⟩ b_ w321 ⟨hi_, hB322, hS323⟩
      show Wp _ _ _ _ (upds b_ [(0, .slice a0 n0 c0), (3, .int .i64 v315), (4, .int .i64 v316)]) w321
      have hm := hr320 v315 v316 hi_
      refine w_seq fun K325 hK325 => ?_
      refine w_seq fun K326 hK326 => ?_
      refine w_region ?_
      refine wl_val (g_move (v := .int .i64 v316) rfl) rfl ?_
      refine wl_val (g_move (v := .slice a0 n0 c0) rfl) rfl ?_
      refine wl_val (q_len SL39 rfl (Vw.len (hp0.bel hB322))) rfl ?_
      refine wl_val (g_lss (a := v316) (b := (p0.length : Int)) rfl rfl) rfl ?_
      refine wl_nil ?_
      refine hK326 _ _ ?_
      refine w_condI (p := v316 < (p0.length : Int)) (b := (decide (v316 < (p0.length : Int)))) rfl decide_eq_true_iff (fun h327 => ?_) (fun h327 => ?_)
      · replace hm := hm.1 h327
        refine w_skip ?_
        refine hK325 _ _ ?_
        refine w_cut (σ := Int) (fun v328 => [(0, .slice a0 n0 c0), (3, .int .i64 v328), (4, .int .i64 v316)]) (fun v328 w' => m_spec_CountInversions_K0 v316 (fun v315' v316' => I317 v315' v316' ∧ μ318 v315' v316' < μ318 v315 v316) v328 ∧ Below w.heap.size w w' ∧ Sep w' w.heap.size []) ?_ ?_
        · refine w_block ?_
          refine w_seq fun K330 hK330 => ?_
          refine w_region ?_
          refine wl_val (g_assign (v := .int .i64 0) rfl) rfl ?_
          refine wl_nil ?_
          refine hK330 _ _ ?_
          refine w_block ?_
          obtain ⟨I333, μ334, h0335, hr336⟩ := hm
          refine w_for (σ := Int × Int) (fun ⟨v331, v332⟩ => [(0, .slice a0 n0 c0), (3, .int .i64 v331), (4, .int .i64 v316), (5, .int .i64 v332)]) (fun ⟨v331, v332⟩ w' => I333 v331 v332 ∧ Below w.heap.size w w' ∧ Sep w' w.heap.size []) (fun ⟨v331, v332⟩ => μ334 v331 v332) (v315, 0) ⟨rfl, rfl, rfl, rfl, trivial⟩ ⟨h0335, hB322, hS323⟩ ?_
          rintro ⟨v331, v332⟩ b_ w337 ⟨hi_, hB338, hS339⟩
          show Wp _ _ _ _ (upds b_ [(0, .slice a0 n0 c0), (3, .int .i64 v331), (4, .int .i64 v316), (5, .int .i64 v332)]) w337
          have hm := hr336 v331 v332 hi_
          refine w_seq fun K341 hK341 => ?_
          refine w_seq fun K342 hK342 => ?_
          refine w_region ?_
          refine wl_val (g_move (v := .int .i64 v332) rfl) rfl ?_
          refine wl_val (g_move (v := .int .i64 v316) rfl) rfl ?_
          refine wl_val (g_lss (a := v332) (b := v316) rfl rfl) rfl ?_
          refine wl_nil ?_
          refine hK342 _ _ ?_
          refine w_condI (p := v332 < v316) (b := (decide (v332 < v316))) rfl decide_eq_true_iff (fun h343 => ?_) (fun h343 => ?_)
          · replace hm := hm.1 h343
            refine w_skip ?_
            refine hK341 _ _ ?_
            refine w_seq fun K344 hK344 => ?_
            refine w_block ?_
            refine w_seq fun K345 hK345 => ?_
            refine w_draw (X := Ext) (Y := Ext) [] MIX (by decide +kernel) rfl Ext.refl (fun _ _ _ => Ext.trans) (fun _ _ _ => Chg.trans) (fun _ _ h => Ext.chg h _) (fun w346 hE347 => ?_)
            have hB348 := hB338.trans (Ext.stp hE347 hS339.base)
            have hS349 := hS339.ext hE347
            refine ⟨.slice a0 n0 c0, fun w350 hX351 => od_plain rfl (by have hS352 := hS349.ext hX351; have hB353 := hB348.trans (Ext.stp hX351 hS349.base); exact is_ext (g_move (v := .slice a0 n0 c0) rfl)), ?_⟩
            refine ⟨.int .i64 v332, fun w354 hX355 => od_plain rfl (by have hS356 := hS349.ext hX355; have hB357 := hB348.trans (Ext.stp hX355 hS349.base); exact is_ext (g_move (v := .int .i64 v332) rfl)), ?_⟩
            obtain ⟨hg362, hm⟩ := hm
            refine ⟨.pointer (some ((adr a0).add ((Int.toNat v332) * El.m Int))), fun w358 hX359 => od_plain rfl (by have hS360 := hS349.ext hX359; have hB361 := hB348.trans (Ext.stp hX359 hS349.base); exact is_ext (q_index (i := v332) SL39 rfl rfl (hp0.bel hB361) hg362)), ?_⟩
            refine ⟨.int .i64 (p0[(Int.toNat v332)]!), fun w363 hX364 => od_plain rfl (by have hS365 := hS349.ext hX364; have hB366 := hB348.trans (Ext.stp hX364 hS349.base); exact is_ext (q_load (i := v332) (v := .int .i64 (p0[(Int.toNat v332)]!)) ON3 (hp0.bel hB366) hg362 rfl rfl)), ?_⟩
            refine ⟨.slice a0 n0 c0, fun w367 hX368 => od_plain rfl (by have hS369 := hS349.ext hX368; have hB370 := hB348.trans (Ext.stp hX368 hS349.base); exact is_ext (g_move (v := .slice a0 n0 c0) rfl)), ?_⟩
            refine ⟨.int .i64 v316, fun w371 hX372 => od_plain rfl (by have hS373 := hS349.ext hX372; have hB374 := hB348.trans (Ext.stp hX372 hS349.base); exact is_ext (g_move (v := .int .i64 v316) rfl)), ?_⟩
            obtain ⟨hg379, hm⟩ := hm
            refine ⟨.pointer (some ((adr a0).add ((Int.toNat v316) * El.m Int))), fun w375 hX376 => od_plain rfl (by have hS377 := hS349.ext hX376; have hB378 := hB348.trans (Ext.stp hX376 hS349.base); exact is_ext (q_index (i := v316) SL39 rfl rfl (hp0.bel hB378) hg379)), ?_⟩
            refine ⟨.int .i64 (p0[(Int.toNat v316)]!), fun w380 hX381 => od_plain rfl (by have hS382 := hS349.ext hX381; have hB383 := hB348.trans (Ext.stp hX381 hS349.base); exact is_ext (q_load (i := v316) (v := .int .i64 (p0[(Int.toNat v316)]!)) ON3 (hp0.bel hB383) hg379 rfl rfl)), ?_⟩
            refine ⟨.bool (decide (p0[(Int.toNat v332)]! > p0[(Int.toNat v316)]!)), fun w384 hX385 => od_plain rfl (by have hS386 := hS349.ext hX385; have hB387 := hB348.trans (Ext.stp hX385 hS349.base); exact is_ext (g_gtr (a := p0[(Int.toNat v332)]!) (b := p0[(Int.toNat v316)]!) rfl rfl)), ?_⟩
            intro w388 hX389
            have hB390 := hB348.trans (Ext.stp hX389 hS349.base)
            have hS391 := hS349.ext hX389
            refine hK345 _ _ ?_
            refine w_condI (p := p0[(Int.toNat v332)]! > p0[(Int.toNat v316)]!) (b := (decide (p0[(Int.toNat v332)]! > p0[(Int.toNat v316)]!))) rfl decide_eq_true_iff (fun h392 => ?_) (fun h392 => ?_)
            · replace hm := hm.1 h392
              refine w_region ?_
              refine wl_val (g_move (v := .int .i64 v331) rfl) rfl ?_
              obtain ⟨hg393, hm⟩ := hm
              refine wl_val (g_add (a := v331) (b := 1) rfl rfl hg393) rfl ?_
              refine wl_val (g_assign (v := .int .i64 (v331 + 1)) rfl) rfl ?_
              refine wl_nil ?_
              refine hK344 _ _ ?_
              refine w_region ?_
              refine wl_val (g_move (v := .int .i64 v332) rfl) rfl ?_
              obtain ⟨hg394, hm⟩ := hm
              refine wl_val (g_add (a := v332) (b := 1) rfl rfl hg394) rfl ?_
              refine wl_val (g_assign (v := .int .i64 (v332 + 1)) rfl) rfl ?_
              refine wl_nil ?_
              exact ⟨((v331 + 1), (v332 + 1)), hm.2, ⟨rfl, rfl, rfl, rfl, trivial⟩, ⟨hm.1, hB390, hS391⟩⟩
            · replace hm := hm.2 h392
              refine w_skip ?_
              refine hK344 _ _ ?_
              refine w_region ?_
              refine wl_val (g_move (v := .int .i64 v332) rfl) rfl ?_
              obtain ⟨hg395, hm⟩ := hm
              refine wl_val (g_add (a := v332) (b := 1) rfl rfl hg395) rfl ?_
              refine wl_val (g_assign (v := .int .i64 (v332 + 1)) rfl) rfl ?_
              refine wl_nil ?_
              exact ⟨(v331, (v332 + 1)), hm.2, ⟨rfl, rfl, rfl, rfl, trivial⟩, ⟨hm.1, hB390, hS391⟩⟩
          · replace hm := hm.2 h343
            refine w_exit ?_
            exact ⟨(v331), ⟨rfl, rfl, rfl, trivial⟩, ⟨hm, hB338, hS339⟩⟩
        · rintro v328 b_ w396 ⟨hm, hB397, hS398⟩
          show Wp _ _ _ _ (upds b_ [(0, .slice a0 n0 c0), (3, .int .i64 v328), (4, .int .i64 v316)]) w396
          refine w_region ?_
          refine wl_val (g_move (v := .int .i64 v316) rfl) rfl ?_
          obtain ⟨hg399, hm⟩ := hm
          refine wl_val (g_add (a := v316) (b := 1) rfl rfl hg399) rfl ?_
          refine wl_val (g_assign (v := .int .i64 (v316 + 1)) rfl) rfl ?_
          refine wl_nil ?_
          exact ⟨(v328, (v316 + 1)), hm.2, ⟨rfl, rfl, rfl, trivial⟩, ⟨hm.1, hB397, hS398⟩⟩
      · replace hm := hm.2 h327
        refine w_exit ?_
        exact ⟨(v315), ⟨rfl, trivial⟩, ⟨hm, hB322, hS323⟩⟩
    · rintro v312 b_ w400 ⟨hm, hB401, hS402⟩
      show Wp _ _ _ _ (upds b_ [(3, .int .i64 v312)]) w400
      refine w_seq fun K403 hK403 => ?_
      refine w_region ?_
      refine wl_val (g_move (v := .int .i64 v312) rfl) rfl ?_
      refine wl_val (g_assign (v := .int .i64 v312) rfl) rfl ?_
      refine wl_nil ?_
      refine hK403 _ _ ?_
      refine w_ret ?_
      repeat first | with_reducible refine q_then ?_ | with_reducible refine q_block ?_
      exact ret1 rfl (by decide) ⟨_, hm, rfl, toExt hB401⟩

theorem m_impl_OrderAfter_1_fn {w : World}  {Q : Prop} (p0 : Cross) (p1 : Int) (p2 : Int) (hm : m_impl_OrderAfter_1 p0 p1 p2 Q) :
    Fn Try.prog 80 #[.agg #[.int .i64 p0.1, .bool p0.2], .int .i64 p1, .int .i64 p2] w (fun v w' => Q ∧ v = .tuple #[] ∧ Ext w w') := by
  unfold m_impl_OrderAfter_1 at hm
  have hB0 := Below.refl w.heap.size w
  have hS0 : Sep w w.heap.size [] := Sep.nil (Nat.le_refl _)
  refine fn_of_wp Try.func80 rfl (by kernel_rfl) (Nat.le_of_ble_eq_true rfl) ?_
  refine w_region ?_
  refine wl_step rfl (q_box (cs := #[.int .i64 p0.1, .bool p0.2]) rfl rfl hS0) ?_
  rintro _ w1 ⟨g2, rfl, hS4, hE3⟩
  have hB6 := hB0.trans (Ext.stp hE3 hS0.base)
  refine wl_nil ?_
  repeat first | with_reducible refine q_then ?_ | with_reducible refine q_block ?_
  exact ret0n rfl ⟨hm, rfl, toExt hB6⟩

theorem m_impl_follow_OrderAfter_1_fn {w : World} {a1 : Option Addr} {n1 c1 : Nat} {p1 : List Cross} {Q : (List Int) → Prop} (p0 : Int) (hp1 : Vw w.heap.size w a1 n1 c1 p1) (hm : m_impl_follow_OrderAfter_1 p0 p1 Q) :
    Fn Try.prog 74 #[.int .i64 p0, .slice a1 n1 c1, .func (.func 80) #[] #[]] w (fun v w' => ∃ (r0 : List Int) (a0 : Option Addr) (n0 c0 : Nat), Q r0 ∧ v = .slice a0 n0 c0 ∧ Ext w w' ∧ Sep w' w.heap.size [oS 3 a0 n0 c0 r0]) := by
  unfold m_impl_follow_OrderAfter_1 at hm
  have hB0 := Below.refl w.heap.size w
  have hS0 : Sep w w.heap.size [] := Sep.nil (Nat.le_refl _)
  refine fn_of_wp Try.func74 rfl (by kernel_rfl) (Nat.le_of_ble_eq_true rfl) ?_
  refine w_seq fun K1 hK1 => ?_
  refine w_region ?_
  refine wl_val (g_assign (v := .slice none 0 0) rfl) rfl ?_
  refine wl_nil ?_
  refine hK1 _ _ ?_
  refine w_seq fun K2 hK2 => ?_
  refine w_region ?_
  refine wl_val (g_move (v := .int .i64 p0) rfl) rfl ?_
  refine wl_step rfl (g_call (vs := #[.int .i64 p0]) CF77 (args1 rfl) (m_impl_upTo_fn p0 hm)) ?_
  rintro _ w3 ⟨r6, a7, n8, c9, hm, rfl, hE4, hN5⟩
  have hS11 := hS0.call1 hE4 hN5
  have hB12 := hB0.trans (Ext.stp hE4 hS0.base)
  refine wl_val (g_assign (v := .slice a7 n8 c9) rfl) rfl ?_
  refine wl_nil ?_
  refine hK2 _ _ ?_
  refine w_cut (σ := List Int) (fun x449 => [(7, .slice a7 n8 c9)]) (fun x449 w' => m_impl_follow_OrderAfter_1_K0 Q x449 ∧ Below w.heap.size w w' ∧ Sep w' w.heap.size [oS 3 a7 n8 c9 (x449 : List Int)]) ?_ ?_
  · refine w_seq fun K451 hK451 => ?_
    refine w_region ?_
    refine wl_val (g_move (v := .slice a1 n1 c1) rfl) rfl ?_
    refine wl_val (q_len SL24 rfl (Vw.len (hp1.bel hB12))) rfl ?_
    refine wl_val (g_move (v := .int .i64 0) rfl) rfl ?_
    refine wl_nil ?_
    refine hK451 _ _ ?_
    refine w_block ?_
    obtain ⟨I454, μ455, h0456, hr457⟩ := hm
    refine w_for (σ := List Int × Int) (fun ⟨x452, v453⟩ => [(2, .func (.func 80) #[] #[]), (7, .slice a7 n8 c9), (12, .slice a1 n1 c1), (13, .int .i64 (p1.length : Int)), (14, .int .i64 v453)]) (fun ⟨x452, v453⟩ w' => I454 x452 v453 ∧ Below w.heap.size w w' ∧ Sep w' w.heap.size [oS 3 a7 n8 c9 (x452 : List Int)]) (fun ⟨x452, v453⟩ => μ455 x452 v453) (r6, 0) ⟨rfl, rfl, rfl, rfl, rfl, trivial⟩ ⟨h0456, hB12, hS11⟩ ?_
    rintro ⟨x452, v453⟩ b_ w458 ⟨hi_, hB459, hS460⟩
    show Wp _ _ _ _ (upds b_ [(2, .func (.func 80) #[] #[]), (7, .slice a7 n8 c9), (12, .slice a1 n1 c1), (13, .int .i64 (p1.length : Int)), (14, .int .i64 v453)]) w458
    have hm := hr457 x452 v453 hi_
    refine w_seq fun K462 hK462 => ?_
    refine w_region ?_
    refine wl_val (g_lss (a := v453) (b := (p1.length : Int)) rfl rfl) rfl ?_
    refine wl_nil ?_
    refine hK462 _ _ ?_
    refine w_seq fun K463 hK463 => ?_
    refine w_condI (p := v453 < (p1.length : Int)) (b := (decide (v453 < (p1.length : Int)))) rfl decide_eq_true_iff (fun h464 => ?_) (fun h464 => ?_)
    · replace hm := hm.1 h464
      refine w_skip ?_
      refine hK463 _ _ ?_
      refine w_seq fun K465 hK465 => ?_
      refine w_block ?_
      refine w_seq fun K466 hK466 => ?_
      refine w_region ?_
      obtain ⟨hg467, hm⟩ := hm
      refine wl_val (q_index (i := v453) SL24 rfl rfl (hp1.bel hB459) hg467) rfl ?_
      refine wl_val (q_loadS (i := v453) (cs := [.int .i64 (p1[(Int.toNat v453)]!.1), .bool (p1[(Int.toNat v453)]!.2)]) AG56 (hp1.bel hB459) hg467 rfl rfl) rfl ?_
      refine wl_step rfl (q_alloc (cs := #[.int .i64 0, .bool false]) ZR56 rfl hS460) ?_
      rintro _ w468 ⟨g469, rfl, hS471, hE470⟩
      have hB473 := hB459.trans (Ext.stp hE470 hS460.base)
      refine wl_step rfl (q_storeB (i := 0) (bs' := #[.int .i64 (p1[(Int.toNat v453)]!.1), .bool (p1[(Int.toNat v453)]!.2)]) (vs := [.int .i64 (p1[(Int.toNat v453)]!.1), .bool (p1[(Int.toNat v453)]!.2)]) hS471 AG56.sz rfl rfl rfl (by simp [Value.oneCell']) (Nat.le_of_ble_eq_true rfl) rfl) ?_
      rintro _ w474 ⟨rfl, hS475, hb476⟩
      have hB477 := hB473.trans hb476
      refine wl_nil ?_
      refine hK466 _ _ ?_
      refine w_seq fun K478 hK478 => ?_
      refine w_draw (X := Ext) (Y := Ext) [0, 0, 0, 0, 0, 0, 0, 0, 0, 0, 0, 0, 0, 1] MIX (by decide +kernel) rfl Ext.refl (fun _ _ _ => Ext.trans) (fun _ _ _ => Chg.trans) (fun _ _ h => Ext.chg h _) (fun w479 hE480 => ?_)
      have hB481 := hB477.trans (Ext.stp hE480 hS475.base)
      have hS482 := hS475.ext hE480
      refine ⟨.func (.func 80) #[] #[], fun w483 hX484 => od_plain rfl (by have hS485 := hS482.ext hX484; have hB486 := hB481.trans (Ext.stp hX484 hS482.base); exact is_ext (g_move (v := .func (.func 80) #[] #[]) rfl)), ?_⟩
      refine ⟨.agg #[.int .i64 (p1[(Int.toNat v453)]!.1), .bool (p1[(Int.toNat v453)]!.2)], fun w487 hX488 => od_plain rfl (by have hS489 := hS482.ext hX488; have hB490 := hB481.trans (Ext.stp hX488 hS482.base); exact is_ext (q_loadBS (bs := #[.int .i64 (p1[(Int.toNat v453)]!.1), .bool (p1[(Int.toNat v453)]!.2)]) hS489.g0 AG56 rfl)), ?_⟩
      refine ⟨.slice a7 n8 c9, fun w491 hX492 => od_plain rfl (by have hS493 := hS482.ext hX492; have hB494 := hB481.trans (Ext.stp hX492 hS482.base); exact is_ext (g_move (v := .slice a7 n8 c9) rfl)), ?_⟩
      refine ⟨.pointer (some (((⟨g469, 0, none⟩ : Addr)).add 0)), fun w495 hX496 => od_plain rfl (by have hS497 := hS482.ext hX496; have hB498 := hB481.trans (Ext.stp hX496 hS482.base); exact is_ext (g_fieldAddr (q := (⟨g469, 0, none⟩ : Addr)) FL56_0 ON3 rfl)), ?_⟩
      refine ⟨.int .i64 (p1[(Int.toNat v453)]!.1), fun w499 hX500 => od_plain rfl (by have hS501 := hS482.ext hX500; have hB502 := hB481.trans (Ext.stp hX500 hS482.base); exact is_ext (q_loadB (i := 0) (bs := #[.int .i64 (p1[(Int.toNat v453)]!.1), .bool (p1[(Int.toNat v453)]!.2)]) hS501.g0 ON3 rfl rfl)), ?_⟩
      obtain ⟨hg507, hm⟩ := hm
      refine ⟨.pointer (some ((adr a7).add ((Int.toNat (p1[(Int.toNat v453)]!.1)) * El.m Int))), fun w503 hX504 => od_plain rfl (by have hS505 := hS482.ext hX504; have hB506 := hB481.trans (Ext.stp hX504 hS482.base); exact is_ext (q_index (i := p1[(Int.toNat v453)]!.1) SL39 rfl rfl (oS.vw hS505.g1) hg507)), ?_⟩
      refine ⟨.int .i64 (x452[(Int.toNat (p1[(Int.toNat v453)]!.1))]!), fun w508 hX509 => od_plain rfl (by have hS510 := hS482.ext hX509; have hB511 := hB481.trans (Ext.stp hX509 hS482.base); exact is_ext (q_load (i := p1[(Int.toNat v453)]!.1) (v := .int .i64 (x452[(Int.toNat (p1[(Int.toNat v453)]!.1))]!)) ON3 (oS.vw hS510.g1) hg507 rfl rfl)), ?_⟩
      refine ⟨.slice a7 n8 c9, fun w512 hX513 => od_plain rfl (by have hS514 := hS482.ext hX513; have hB515 := hB481.trans (Ext.stp hX513 hS482.base); exact is_ext (g_move (v := .slice a7 n8 c9) rfl)), ?_⟩
      refine ⟨.pointer (some (((⟨g469, 0, none⟩ : Addr)).add 0)), fun w516 hX517 => od_plain rfl (by have hS518 := hS482.ext hX517; have hB519 := hB481.trans (Ext.stp hX517 hS482.base); exact is_ext (g_fieldAddr (q := (⟨g469, 0, none⟩ : Addr)) FL56_0 ON3 rfl)), ?_⟩
      refine ⟨.int .i64 (p1[(Int.toNat v453)]!.1), fun w520 hX521 => od_plain rfl (by have hS522 := hS482.ext hX521; have hB523 := hB481.trans (Ext.stp hX521 hS482.base); exact is_ext (q_loadB (i := 0) (bs := #[.int .i64 (p1[(Int.toNat v453)]!.1), .bool (p1[(Int.toNat v453)]!.2)]) hS522.g0 ON3 rfl rfl)), ?_⟩
      obtain ⟨hg528, hm⟩ := hm
      refine ⟨.int .i64 (p1[(Int.toNat v453)]!.1 + 1), fun w524 hX525 => od_plain rfl (by have hS526 := hS482.ext hX525; have hB527 := hB481.trans (Ext.stp hX525 hS482.base); exact is_ext (g_add (a := p1[(Int.toNat v453)]!.1) (b := 1) rfl rfl hg528)), ?_⟩
      obtain ⟨hg533, hm⟩ := hm
      refine ⟨.pointer (some ((adr a7).add ((Int.toNat (p1[(Int.toNat v453)]!.1 + 1)) * El.m Int))), fun w529 hX530 => od_plain rfl (by have hS531 := hS482.ext hX530; have hB532 := hB481.trans (Ext.stp hX530 hS482.base); exact is_ext (q_index (i := (p1[(Int.toNat v453)]!.1 + 1)) SL39 rfl rfl (oS.vw hS531.g1) hg533)), ?_⟩
      refine ⟨.int .i64 (x452[(Int.toNat (p1[(Int.toNat v453)]!.1 + 1))]!), fun w534 hX535 => od_plain rfl (by have hS536 := hS482.ext hX535; have hB537 := hB481.trans (Ext.stp hX535 hS482.base); exact is_ext (q_load (i := (p1[(Int.toNat v453)]!.1 + 1)) (v := .int .i64 (x452[(Int.toNat (p1[(Int.toNat v453)]!.1 + 1))]!)) ON3 (oS.vw hS536.g1) hg533 rfl rfl)), ?_⟩
      intro w538 hX539
      have hB540 := hB481.trans (Ext.stp hX539 hS482.base)
      have hS541 := hS482.ext hX539
      refine ⟨_, od_plain rfl (g_callvc (f := 80) (va := #[.agg #[.int .i64 (p1[(Int.toNat v453)]!.1), .bool (p1[(Int.toNat v453)]!.2)], .int .i64 (x452[(Int.toNat (p1[(Int.toNat v453)]!.1))]!), .int .i64 (x452[(Int.toNat (p1[(Int.toNat v453)]!.1 + 1))]!)]) (cap := #[]) (vs := #[.agg #[.int .i64 (p1[(Int.toNat v453)]!.1), .bool (p1[(Int.toNat v453)]!.2)], .int .i64 (x452[(Int.toNat (p1[(Int.toNat v453)]!.1))]!), .int .i64 (x452[(Int.toNat (p1[(Int.toNat v453)]!.1 + 1))]!)]) CF80 rfl (args3 rfl rfl rfl) rfl (m_impl_OrderAfter_1_fn (p1[(Int.toNat v453)]!.1, p1[(Int.toNat v453)]!.2) (x452[(Int.toNat (p1[(Int.toNat v453)]!.1))]!) (x452[(Int.toNat (p1[(Int.toNat v453)]!.1 + 1))]!) hm)), ?_⟩
      rintro _ w542 ⟨hm, rfl, hE543⟩
      have hB545 := hB540.trans (Ext.stp hE543 hS541.base)
      have hS546 := hS541.ext hE543
      intro w547 hX548
      have hB549 := hB545.trans (Ext.stp hX548 hS546.base)
      have hS550 := hS546.ext hX548
      refine hK478 _ _ ?_
      have hS556 := hS550.f1
      refine w_draw (X := Ext) (Y := (fun w_ w_' => Chg w_ w_' (blk a7))) [0, 0, 0, 3, 3, 3, 3, 0, 0, 0, 0, 0, 0, 0, 0, 0, 0, 0, 0, 4, 0, 1] MIX (by decide +kernel) rfl Ext.refl (fun _ _ _ => Ext.trans) (fun _ _ _ => Chg.trans) (fun _ _ h => Ext.chg h _) (fun w557 hE558 => ?_)
      have hB559 := hB549.trans (Ext.stp hE558 hS556.base)
      have hS560 := hS556.ext hE558
      refine ⟨.slice a7 n8 c9, fun w561 hX562 => od_plain rfl (by have hS563 := hS560.ext hX562; have hB564 := hB559.trans (Ext.stp hX562 hS560.base); exact is_ext (g_move (v := .slice a7 n8 c9) rfl)), ?_⟩
      refine ⟨.pointer (some (((⟨g469, 0, none⟩ : Addr)).add 0)), fun w565 hX566 => od_plain rfl (by have hS567 := hS560.ext hX566; have hB568 := hB559.trans (Ext.stp hX566 hS560.base); exact is_ext (g_fieldAddr (q := (⟨g469, 0, none⟩ : Addr)) FL56_0 ON3 rfl)), ?_⟩
      refine ⟨.int .i64 (p1[(Int.toNat v453)]!.1), fun w569 hX570 => od_plain rfl (by have hS571 := hS560.ext hX570; have hB572 := hB559.trans (Ext.stp hX570 hS560.base); exact is_ext (q_loadB (i := 0) (bs := #[.int .i64 (p1[(Int.toNat v453)]!.1), .bool (p1[(Int.toNat v453)]!.2)]) hS571.g1 ON3 rfl rfl)), ?_⟩
      refine ⟨.slice a7 n8 c9, fun w573 hX574 => od_plain rfl (by have hS575 := Sep.chgT hS560 hX574 (fun k hk => hk); have hB576 := hB559.trans (Sep.stp hS560 hX574 (fun k hk => hk)); exact is_ext (g_move (v := .slice a7 n8 c9) rfl)), ?_⟩
      refine ⟨.pointer (some (((⟨g469, 0, none⟩ : Addr)).add 0)), fun w577 hX578 => od_plain rfl (by have hS579 := Sep.chgT hS560 hX578 (fun k hk => hk); have hB580 := hB559.trans (Sep.stp hS560 hX578 (fun k hk => hk)); exact is_ext (g_fieldAddr (q := (⟨g469, 0, none⟩ : Addr)) FL56_0 ON3 rfl)), ?_⟩
      refine ⟨.int .i64 (p1[(Int.toNat v453)]!.1), fun w581 hX582 => od_plain rfl (by have hS583 := Sep.chgT hS560 hX582 (fun k hk => hk); have hB584 := hB559.trans (Sep.stp hS560 hX582 (fun k hk => hk)); exact is_ext (q_loadB (i := 0) (bs := #[.int .i64 (p1[(Int.toNat v453)]!.1), .bool (p1[(Int.toNat v453)]!.2)]) hS583.g0 ON3 rfl rfl)), ?_⟩
      obtain ⟨hg589, hm⟩ := hm
      refine ⟨.int .i64 (p1[(Int.toNat v453)]!.1 + 1), fun w585 hX586 => od_plain rfl (by have hS587 := Sep.chgT hS560 hX586 (fun k hk => hk); have hB588 := hB559.trans (Sep.stp hS560 hX586 (fun k hk => hk)); exact is_ext (g_add (a := p1[(Int.toNat v453)]!.1) (b := 1) rfl rfl hg589)), ?_⟩
      refine ⟨.slice a7 n8 c9, fun w590 hX591 => od_plain rfl (by have hS592 := hS560.ext hX591; have hB593 := hB559.trans (Ext.stp hX591 hS560.base); exact is_ext (g_move (v := .slice a7 n8 c9) rfl)), ?_⟩
      refine ⟨.pointer (some (((⟨g469, 0, none⟩ : Addr)).add 0)), fun w594 hX595 => od_plain rfl (by have hS596 := hS560.ext hX595; have hB597 := hB559.trans (Ext.stp hX595 hS560.base); exact is_ext (g_fieldAddr (q := (⟨g469, 0, none⟩ : Addr)) FL56_0 ON3 rfl)), ?_⟩
      refine ⟨.int .i64 (p1[(Int.toNat v453)]!.1), fun w598 hX599 => od_plain rfl (by have hS600 := hS560.ext hX599; have hB601 := hB559.trans (Ext.stp hX599 hS560.base); exact is_ext (q_loadB (i := 0) (bs := #[.int .i64 (p1[(Int.toNat v453)]!.1), .bool (p1[(Int.toNat v453)]!.2)]) hS600.g1 ON3 rfl rfl)), ?_⟩
      obtain ⟨hg606, hm⟩ := hm
      refine ⟨.int .i64 (p1[(Int.toNat v453)]!.1 + 1), fun w602 hX603 => od_plain rfl (by have hS604 := hS560.ext hX603; have hB605 := hB559.trans (Ext.stp hX603 hS560.base); exact is_ext (g_add (a := p1[(Int.toNat v453)]!.1) (b := 1) rfl rfl hg606)), ?_⟩
      obtain ⟨hg611, hm⟩ := hm
      refine ⟨.pointer (some ((adr a7).add ((Int.toNat (p1[(Int.toNat v453)]!.1 + 1)) * El.m Int))), fun w607 hX608 => od_plain rfl (by have hS609 := hS560.ext hX608; have hB610 := hB559.trans (Ext.stp hX608 hS560.base); exact is_ext (q_index (i := (p1[(Int.toNat v453)]!.1 + 1)) SL39 rfl rfl (oS.vw hS609.g0) hg611)), ?_⟩
      refine ⟨.int .i64 (x452[(Int.toNat (p1[(Int.toNat v453)]!.1 + 1))]!), fun w612 hX613 => od_plain rfl (by have hS614 := hS560.ext hX613; have hB615 := hB559.trans (Ext.stp hX613 hS560.base); exact is_ext (q_load (i := (p1[(Int.toNat v453)]!.1 + 1)) (v := .int .i64 (x452[(Int.toNat (p1[(Int.toNat v453)]!.1 + 1))]!)) ON3 (oS.vw hS614.g0) hg611 rfl rfl)), ?_⟩
      refine ⟨.slice a7 n8 c9, fun w616 hX617 => od_plain rfl (by have hS618 := hS560.ext hX617; have hB619 := hB559.trans (Ext.stp hX617 hS560.base); exact is_ext (g_move (v := .slice a7 n8 c9) rfl)), ?_⟩
      refine ⟨.pointer (some (((⟨g469, 0, none⟩ : Addr)).add 0)), fun w620 hX621 => od_plain rfl (by have hS622 := hS560.ext hX621; have hB623 := hB559.trans (Ext.stp hX621 hS560.base); exact is_ext (g_fieldAddr (q := (⟨g469, 0, none⟩ : Addr)) FL56_0 ON3 rfl)), ?_⟩
      refine ⟨.int .i64 (p1[(Int.toNat v453)]!.1), fun w624 hX625 => od_plain rfl (by have hS626 := hS560.ext hX625; have hB627 := hB559.trans (Ext.stp hX625 hS560.base); exact is_ext (q_loadB (i := 0) (bs := #[.int .i64 (p1[(Int.toNat v453)]!.1), .bool (p1[(Int.toNat v453)]!.2)]) hS626.g1 ON3 rfl rfl)), ?_⟩
      obtain ⟨hg632, hm⟩ := hm
      refine ⟨.pointer (some ((adr a7).add ((Int.toNat (p1[(Int.toNat v453)]!.1)) * El.m Int))), fun w628 hX629 => od_plain rfl (by have hS630 := hS560.ext hX629; have hB631 := hB559.trans (Ext.stp hX629 hS560.base); exact is_ext (q_index (i := p1[(Int.toNat v453)]!.1) SL39 rfl rfl (oS.vw hS630.g0) hg632)), ?_⟩
      refine ⟨.int .i64 (x452[(Int.toNat (p1[(Int.toNat v453)]!.1))]!), fun w633 hX634 => od_plain rfl (by have hS635 := hS560.ext hX634; have hB636 := hB559.trans (Ext.stp hX634 hS560.base); exact is_ext (q_load (i := p1[(Int.toNat v453)]!.1) (v := .int .i64 (x452[(Int.toNat (p1[(Int.toNat v453)]!.1))]!)) ON3 (oS.vw hS635.g0) hg632 rfl rfl)), ?_⟩
      obtain ⟨hg641, hm⟩ := hm
      refine ⟨.pointer (some ((adr a7).add ((Int.toNat (p1[(Int.toNat v453)]!.1)) * El.m Int))), fun w637 hX638 => od_plain rfl (by have hS639 := hS560.ext hX638; have hB640 := hB559.trans (Ext.stp hX638 hS560.base); exact is_ext (q_index (i := p1[(Int.toNat v453)]!.1) SL39 rfl rfl (oS.vw hS639.g0) hg641)), ?_⟩
      intro w642 hX643
      have hB644 := hB559.trans (Ext.stp hX643 hS560.base)
      have hS645 := hS560.ext hX643
      refine ⟨_, od_plain rfl (q_storeC (i := p1[(Int.toNat v453)]!.1) (v := (x452[(Int.toNat (p1[(Int.toNat v453)]!.1 + 1))]! : Int)) hS645 ON3.sz hg641 rfl rfl rfl), ?_⟩
      rintro _ w646 ⟨rfl, hS647, hb648, hC649⟩
      refine ⟨hC649, ?_⟩
      have hB650 := hB644.trans hb648
      obtain ⟨hg655, hm⟩ := hm
      refine ⟨.pointer (some ((adr a7).add ((Int.toNat (p1[(Int.toNat v453)]!.1 + 1)) * El.m Int))), fun w651 hX652 => od_plain rfl (by have hS653 := hS647.ext hX652; have hB654 := hB650.trans (Ext.stp hX652 hS647.base); exact is_ext (q_index (i := (p1[(Int.toNat v453)]!.1 + 1)) SL39 rfl rfl (oS.vw hS653.g0) hg655)), ?_⟩
      intro w656 hX657
      have hB658 := hB650.trans (Ext.stp hX657 hS647.base)
      have hS659 := hS647.ext hX657
      refine ⟨_, od_plain rfl (q_store (i := (p1[(Int.toNat v453)]!.1 + 1)) (v := (x452[(Int.toNat (p1[(Int.toNat v453)]!.1))]! : Int)) hS659 ON3.sz hg655 rfl rfl rfl), ?_⟩
      rintro _ w660 ⟨rfl, hS661, hb662⟩
      have hB663 := hB658.trans hb662
      intro w664 hX665
      have hB666 := hB663.trans (Ext.stp hX665 hS661.base)
      have hS667 := hS661.ext hX665
      refine hK465 _ _ ?_
      refine w_region ?_
      obtain ⟨hg668, hm⟩ := hm
      refine wl_val (g_add (a := v453) (b := 1) rfl rfl hg668) rfl ?_
      refine wl_val (g_move (v := .int .i64 (v453 + 1)) rfl) rfl ?_
      refine wl_nil ?_
      have hS669 := hS667.f1
      have hS670 := hS669.tail
      exact ⟨(((x452.set (Int.toNat (p1[(Int.toNat v453)]!.1)) (x452[(Int.toNat (p1[(Int.toNat v453)]!.1 + 1))]!)).set (Int.toNat (p1[(Int.toNat v453)]!.1 + 1)) (x452[(Int.toNat (p1[(Int.toNat v453)]!.1))]!)), (v453 + 1)), hm.2, ⟨rfl, rfl, rfl, rfl, rfl, trivial⟩, ⟨hm.1, hB666, hS670⟩⟩
    · replace hm := hm.2 h464
      refine w_exit ?_
      exact ⟨(x452), ⟨rfl, trivial⟩, ⟨hm, hB459, hS460⟩⟩
  · rintro x449 b_ w671 ⟨hm, hB672, hS673⟩
    show Wp _ _ _ _ (upds b_ [(7, .slice a7 n8 c9)]) w671
    refine w_seq fun K674 hK674 => ?_
    refine w_region ?_
    refine wl_val (g_move (v := .slice a7 n8 c9) rfl) rfl ?_
    refine wl_val (g_assign (v := .slice a7 n8 c9) rfl) rfl ?_
    refine wl_nil ?_
    refine hK674 _ _ ?_
    refine w_ret ?_
    repeat first | with_reducible refine q_then ?_ | with_reducible refine q_block ?_
    exact ret1 rfl (by decide) ⟨_, _, _, _, hm, rfl, toExt hB672, hS673⟩

theorem m_impl_OrderAfter_fn {w : World} {a1 : Option Addr} {n1 c1 : Nat} {p1 : List Cross} {Q : (List Int) → Prop} (p0 : Int) (hp1 : Vw w.heap.size w a1 n1 c1 p1) (hm : m_impl_OrderAfter p0 p1 Q) :
    Fn Try.prog 71 #[.int .i64 p0, .slice a1 n1 c1] w (fun v w' => ∃ (r0 : List Int) (a0 : Option Addr) (n0 c0 : Nat), Q r0 ∧ v = .slice a0 n0 c0 ∧ Ext w w' ∧ Sep w' w.heap.size [oS 3 a0 n0 c0 r0]) := by
  unfold m_impl_OrderAfter at hm
  have hB0 := Below.refl w.heap.size w
  have hS0 : Sep w w.heap.size [] := Sep.nil (Nat.le_refl _)
  refine fn_of_wp Try.func71 rfl (by kernel_rfl) (Nat.le_of_ble_eq_true rfl) ?_
  refine w_seq fun K1 hK1 => ?_
  refine w_region ?_
  refine wl_val (g_assign (v := .slice none 0 0) rfl) rfl ?_
  refine wl_nil ?_
  refine hK1 _ _ ?_
  refine w_seq fun K2 hK2 => ?_
  refine w_seq fun K3 hK3 => ?_
  refine w_region ?_
  refine wl_val (g_move (v := .int .i64 p0) rfl) rfl ?_
  refine wl_val (g_move (v := .slice a1 n1 c1) rfl) rfl ?_
  refine wl_step rfl (g_call (vs := #[.int .i64 p0, .slice a1 n1 c1]) CF57 (args2 rfl rfl) (m_impl_CrossesOk_fn p0 ((hp1.bel hB0).up hS0) hm)) ?_
  rintro _ w4 ⟨r7, hm, rfl, hE5⟩
  have hB8 := hB0.trans (Ext.stp hE5 hS0.base)
  have hS9 := hS0.ext hE5
  refine wl_val (g_not (a := r7) rfl) rfl ?_
  refine wl_nil ?_
  refine hK3 _ _ ?_
  refine w_condI (p := ¬ (r7 = true)) (b := (!r7)) rfl (i_not Iff.rfl) (fun h10 => ?_) (fun h10 => ?_)
  · replace hm := hm.1 h10
    refine w_seq fun K11 hK11 => ?_
    refine w_region ?_
    refine wl_val (g_assign (v := .slice none 0 0) rfl) rfl ?_
    refine wl_nil ?_
    refine hK11 _ _ ?_
    refine w_ret ?_
    have hS12 := hS9.nilS (α := Int) (E := 3)
    repeat first | with_reducible refine q_then ?_ | with_reducible refine q_block ?_
    exact ret1 rfl (by decide) ⟨_, _, _, _, hm, rfl, toExt hB8, hS12⟩
  · replace hm := hm.2 h10
    refine w_skip ?_
    refine hK2 _ _ ?_
    refine w_seq fun K14 hK14 => ?_
    refine w_region ?_
    refine wl_val (g_move (v := .int .i64 p0) rfl) rfl ?_
    refine wl_val (g_move (v := .slice a1 n1 c1) rfl) rfl ?_
    refine wl_step rfl (g_call (vs := #[.int .i64 p0, .slice a1 n1 c1, .func (.func 80) #[] #[]]) CF74 (args3 rfl rfl rfl) (m_impl_follow_OrderAfter_1_fn p0 ((hp1.bel hB8).up hS9) hm)) ?_
    rintro _ w15 ⟨r18, a19, n20, c21, hm, rfl, hE16, hN17⟩
    have hS23 := hS9.call1 hE16 hN17
    have hB24 := hB8.trans (Ext.stp hE16 hS9.base)
    refine wl_val (g_assign (v := .slice a19 n20 c21) rfl) rfl ?_
    refine wl_nil ?_
    refine hK14 _ _ ?_
    refine w_ret ?_
    repeat first | with_reducible refine q_then ?_ | with_reducible refine q_block ?_
    exact ret1 rfl (by decide) ⟨_, _, _, _, hm, rfl, toExt hB24, hS23⟩

theorem m_spec_SortingSwaps_fn {w : World} {a0 : Option Addr} {n0 c0 : Nat} {p0 : List Int} {Q : (List Int) → Prop} (hp0 : Vw w.heap.size w a0 n0 c0 p0) (hm : m_spec_SortingSwaps p0 Q) :
    Fn Try.prog 69 #[.slice a0 n0 c0] w (fun v w' => ∃ (r0 : List Int) (a0 : Option Addr) (n0 c0 : Nat), Q r0 ∧ v = .slice a0 n0 c0 ∧ Ext w w' ∧ Sep w' w.heap.size [oS 3 a0 n0 c0 r0]) := by
  unfold m_spec_SortingSwaps at hm
  have hB0 := Below.refl w.heap.size w
  have hS0 : Sep w w.heap.size [] := Sep.nil (Nat.le_refl _)
  refine fn_of_wp Try.func69 rfl (by kernel_rfl) (Nat.le_of_ble_eq_true rfl) ?_
  refine w_seq fun K1 hK1 => ?_
  refine w_region ?_
  refine wl_val (g_assign (v := .slice none 0 0) rfl) rfl ?_
  refine wl_nil ?_
  refine hK1 _ _ ?_
  refine w_seq fun K2 hK2 => ?_
  refine w_region ?_
  refine wl_step rfl (q_lit0 (α := Int) rfl SL39 hS0) ?_
  rintro _ w3 ⟨a4, rfl, hS6, hE5⟩
  have hB8 := hB0.trans (Ext.stp hE5 hS0.base)
  refine wl_val (g_assign (v := .slice a4 0 0) rfl) rfl ?_
  refine wl_nil ?_
  refine hK2 _ _ ?_
  refine w_seq fun K9 hK9 => ?_
  refine w_region ?_
  refine wl_step rfl (q_lit0 (α := Int) rfl SL39 hS6) ?_
  rintro _ w10 ⟨a11, rfl, hS13, hE12⟩
  have hB15 := hB8.trans (Ext.stp hE12 hS6.base)
  refine wl_val (g_move (v := .slice a0 n0 c0) rfl) rfl ?_
  obtain ⟨hg21, hm⟩ := hm
  refine wl_step rfl (q_append SL39 rfl rfl hS13 (hp0.bel hB15) hg21 (by decide)) ?_
  rintro _ w16 ⟨a17, c18, rfl, hS20, hb19⟩
  have hB22 := hB15.trans hb19
  refine wl_val (g_assign (v := .slice a17 (0 + n0) c18) rfl) rfl ?_
  refine wl_nil ?_
  refine hK9 _ _ ?_
  refine w_cut (σ := List Int × Option Addr × Nat × Nat) (fun ⟨x392, a393, n394, c395⟩ => [(3, .slice a393 n394 c395)]) (fun ⟨x392, a393, n394, c395⟩ w' => m_spec_SortingSwaps_K1 Q x392 ∧ Below w.heap.size w w' ∧ Sep w' w.heap.size [oS 3 a393 n394 c395 (x392 : List Int)]) ?_ ?_
  · refine w_block ?_
    have hS405 := hS20.f1
    obtain ⟨I406, μ407, h0408, hr409⟩ := hm
    refine w_for (σ := List Int × Option Addr × Nat × Nat × List Int × Option Addr × Nat × Nat) (fun ⟨x397, a398, n399, c400, x401, a402, n403, c404⟩ => [(3, .slice a398 n399 c400), (4, .slice a402 n403 c404)]) (fun ⟨x397, a398, n399, c400, x401, a402, n403, c404⟩ w' => I406 x397 x401 ∧ Below w.heap.size w w' ∧ Sep w' w.heap.size [oS 3 a398 n399 c400 (x397 : List Int), oS 3 a402 n403 c404 (x401 : List Int)]) (fun ⟨x397, a398, n399, c400, x401, a402, n403, c404⟩ => μ407 x397 x401) ([], a4, 0, 0, p0, a17, (0 + n0), c18) ⟨rfl, rfl, trivial⟩ ⟨h0408, hB22, hS405⟩ ?_
    rintro ⟨x397, a398, n399, c400, x401, a402, n403, c404⟩ b_ w410 ⟨hi_, hB411, hS412⟩
    show Wp _ _ _ _ (upds b_ [(3, .slice a398 n399 c400), (4, .slice a402 n403 c404)]) w410
    have hm := hr409 x397 x401 hi_
    refine w_seq fun K414 hK414 => ?_
    refine w_seq fun K415 hK415 => ?_
    refine w_region ?_
    refine wl_val (g_move (v := .slice a402 n403 c404) rfl) rfl ?_
    refine wl_step rfl (g_call (vs := #[.slice a402 n403 c404]) CF36 (args1 rfl) (m_spec_CountInversions_fn (oS.vw hS412.g1) hm)) ?_
    rintro _ w416 ⟨r419, hm, rfl, hE417⟩
    have hB420 := hB411.trans (Ext.stp hE417 hS412.base)
    have hS421 := hS412.ext hE417
    refine wl_val (g_gtr (a := r419) (b := 0) rfl rfl) rfl ?_
    refine wl_nil ?_
    refine hK415 _ _ ?_
    refine w_condI (p := r419 > 0) (b := (decide (r419 > 0))) rfl decide_eq_true_iff (fun h422 => ?_) (fun h422 => ?_)
    · replace hm := hm.1 h422
      refine w_skip ?_
      refine hK414 _ _ ?_
      refine w_block ?_
      refine w_seq fun K423 hK423 => ?_
      refine w_region ?_
      refine wl_val (g_assign (v := .int .i64 0) rfl) rfl ?_
      refine wl_nil ?_
      refine hK423 _ _ ?_
      refine w_cut (σ := Int) (fun v424 => [(3, .slice a398 n399 c400), (4, .slice a402 n403 c404), (5, .int .i64 v424)]) (fun v424 w' => m_spec_SortingSwaps_K0 x397 x401 (fun x397' x401' => I406 x397' x401' ∧ μ407 x397' x401' < μ407 x397 x401) v424 ∧ Below w.heap.size w w' ∧ Sep w' w.heap.size [oS 3 a398 n399 c400 (x397 : List Int), oS 3 a402 n403 c404 (x401 : List Int)]) ?_ ?_
      · refine w_block ?_
        obtain ⟨I427, μ428, h0429, hr430⟩ := hm
        refine w_for (σ := Int) (fun v426 => [(3, .slice a398 n399 c400), (4, .slice a402 n403 c404), (5, .int .i64 v426)]) (fun v426 w' => I427 v426 ∧ Below w.heap.size w w' ∧ Sep w' w.heap.size [oS 3 a398 n399 c400 (x397 : List Int), oS 3 a402 n403 c404 (x401 : List Int)]) (fun v426 => μ428 v426) (0) ⟨rfl, rfl, rfl, trivial⟩ ⟨h0429, hB420, hS421⟩ ?_
        rintro v426 b_ w431 ⟨hi_, hB432, hS433⟩
        show Wp _ _ _ _ (upds b_ [(3, .slice a398 n399 c400), (4, .slice a402 n403 c404), (5, .int .i64 v426)]) w431
        have hm := hr430 v426 hi_
        refine w_seq fun K435 hK435 => ?_
        refine w_seq fun K436 hK436 => ?_
        refine w_draw (X := Ext) (Y := Ext) [] MIX (by decide +kernel) rfl Ext.refl (fun _ _ _ => Ext.trans) (fun _ _ _ => Chg.trans) (fun _ _ h => Ext.chg h _) (fun w437 hE438 => ?_)
        have hB439 := hB432.trans (Ext.stp hE438 hS433.base)
        have hS440 := hS433.ext hE438
        refine ⟨.slice a402 n403 c404, fun w441 hX442 => od_plain rfl (by have hS443 := hS440.ext hX442; have hB444 := hB439.trans (Ext.stp hX442 hS440.base); exact is_ext (g_move (v := .slice a402 n403 c404) rfl)), ?_⟩
        refine ⟨.int .i64 v426, fun w445 hX446 => od_plain rfl (by have hS447 := hS440.ext hX446; have hB448 := hB439.trans (Ext.stp hX446 hS440.base); exact is_ext (g_move (v := .int .i64 v426) rfl)), ?_⟩
        obtain ⟨hg453, hm⟩ := hm
        refine ⟨.pointer (some ((adr a402).add ((Int.toNat v426) * El.m Int))), fun w449 hX450 => od_plain rfl (by have hS451 := hS440.ext hX450; have hB452 := hB439.trans (Ext.stp hX450 hS440.base); exact is_ext (q_index (i := v426) SL39 rfl rfl (oS.vw hS451.g1) hg453)), ?_⟩
        refine ⟨.int .i64 (x401[(Int.toNat v426)]!), fun w454 hX455 => od_plain rfl (by have hS456 := hS440.ext hX455; have hB457 := hB439.trans (Ext.stp hX455 hS440.base); exact is_ext (q_load (i := v426) (v := .int .i64 (x401[(Int.toNat v426)]!)) ON3 (oS.vw hS456.g1) hg453 rfl rfl)), ?_⟩
        refine ⟨.slice a402 n403 c404, fun w458 hX459 => od_plain rfl (by have hS460 := hS440.ext hX459; have hB461 := hB439.trans (Ext.stp hX459 hS440.base); exact is_ext (g_move (v := .slice a402 n403 c404) rfl)), ?_⟩
        refine ⟨.int .i64 v426, fun w462 hX463 => od_plain rfl (by have hS464 := hS440.ext hX463; have hB465 := hB439.trans (Ext.stp hX463 hS440.base); exact is_ext (g_move (v := .int .i64 v426) rfl)), ?_⟩
        obtain ⟨hg470, hm⟩ := hm
        refine ⟨.int .i64 (v426 + 1), fun w466 hX467 => od_plain rfl (by have hS468 := hS440.ext hX467; have hB469 := hB439.trans (Ext.stp hX467 hS440.base); exact is_ext (g_add (a := v426) (b := 1) rfl rfl hg470)), ?_⟩
        obtain ⟨hg475, hm⟩ := hm
        refine ⟨.pointer (some ((adr a402).add ((Int.toNat (v426 + 1)) * El.m Int))), fun w471 hX472 => od_plain rfl (by have hS473 := hS440.ext hX472; have hB474 := hB439.trans (Ext.stp hX472 hS440.base); exact is_ext (q_index (i := (v426 + 1)) SL39 rfl rfl (oS.vw hS473.g1) hg475)), ?_⟩
        refine ⟨.int .i64 (x401[(Int.toNat (v426 + 1))]!), fun w476 hX477 => od_plain rfl (by have hS478 := hS440.ext hX477; have hB479 := hB439.trans (Ext.stp hX477 hS440.base); exact is_ext (q_load (i := (v426 + 1)) (v := .int .i64 (x401[(Int.toNat (v426 + 1))]!)) ON3 (oS.vw hS478.g1) hg475 rfl rfl)), ?_⟩
        refine ⟨.bool (decide (x401[(Int.toNat v426)]! < x401[(Int.toNat (v426 + 1))]!)), fun w480 hX481 => od_plain rfl (by have hS482 := hS440.ext hX481; have hB483 := hB439.trans (Ext.stp hX481 hS440.base); exact is_ext (g_lss (a := x401[(Int.toNat v426)]!) (b := x401[(Int.toNat (v426 + 1))]!) rfl rfl)), ?_⟩
        intro w484 hX485
        have hB486 := hB439.trans (Ext.stp hX485 hS440.base)
        have hS487 := hS440.ext hX485
        refine hK436 _ _ ?_
        refine w_condI (p := x401[(Int.toNat v426)]! < x401[(Int.toNat (v426 + 1))]!) (b := (decide (x401[(Int.toNat v426)]! < x401[(Int.toNat (v426 + 1))]!))) rfl decide_eq_true_iff (fun h488 => ?_) (fun h488 => ?_)
        · replace hm := hm.1 h488
          refine w_skip ?_
          refine hK435 _ _ ?_
          refine w_block ?_
          refine w_region ?_
          refine wl_val (g_move (v := .int .i64 v426) rfl) rfl ?_
          obtain ⟨hg489, hm⟩ := hm
          refine wl_val (g_add (a := v426) (b := 1) rfl rfl hg489) rfl ?_
          refine wl_val (g_assign (v := .int .i64 (v426 + 1)) rfl) rfl ?_
          refine wl_nil ?_
          exact ⟨((v426 + 1)), hm.2, ⟨rfl, rfl, rfl, trivial⟩, ⟨hm.1, hB486, hS487⟩⟩
        · replace hm := hm.2 h488
          refine w_exit ?_
          exact ⟨(v426), ⟨rfl, rfl, rfl, trivial⟩, ⟨hm, hB486, hS487⟩⟩
      · rintro v424 b_ w490 ⟨hm, hB491, hS492⟩
        show Wp _ _ _ _ (upds b_ [(3, .slice a398 n399 c400), (4, .slice a402 n403 c404), (5, .int .i64 v424)]) w490
        refine w_seq fun K493 hK493 => ?_
        refine w_region ?_
        refine wl_val (g_move (v := .slice a402 n403 c404) rfl) rfl ?_
        refine wl_val (g_move (v := .int .i64 v424) rfl) rfl ?_
        refine wl_step rfl (g_call (vs := #[.slice a402 n403 c404, .int .i64 v424]) CF61 (args2 rfl rfl) (m_spec_SwapAt_fn (oS.vw hS492.g1) v424 hm)) ?_
        rintro _ w494 ⟨r497, a498, n499, c500, r502, hm, rfl, hE495, hN496⟩
        have hS503 := hS492.call1 hE495 hN496
        have hB504 := hB491.trans (Ext.stp hE495 hS492.base)
        refine wl_val (g_move (v := .tuple #[.slice a498 n499 c500, .bool r502]) rfl) rfl ?_
        refine wl_val (g_extract (vs := #[.slice a498 n499 c500, .bool r502]) rfl rfl) rfl ?_
        refine wl_val (g_extract (vs := #[.slice a498 n499 c500, .bool r502]) rfl rfl) rfl ?_
        refine wl_val (g_assign (v := .slice a498 n499 c500) rfl) rfl ?_
        refine wl_nil ?_
        refine hK493 _ _ ?_
        refine w_region ?_
        refine wl_val (g_move (v := .slice a398 n399 c400) rfl) rfl ?_
        refine wl_val (g_move (v := .int .i64 v424) rfl) rfl ?_
        refine wl_step rfl (q_lit1 (y := (v424 : Int)) SL39 rfl rfl (by decide) hS503) ?_
        rintro _ w505 ⟨a506, rfl, hS508, hE507⟩
        have hB510 := hB504.trans (Ext.stp hE507 hS503.base)
        have hS516 := hS508.f2
        obtain ⟨hg517, hm⟩ := hm
        refine wl_step rfl (q_append SL39 rfl rfl hS516 (oS.vw hS516.g1) hg517 (by decide)) ?_
        rintro _ w511 ⟨a512, c513, rfl, hS515, hb514⟩
        have hB518 := hB510.trans hb514
        refine wl_val (g_assign (v := .slice a512 (n399 + 1) c513) rfl) rfl ?_
        refine wl_nil ?_
        have hS519 := hS515.f1
        have hS520 := hS519.tail
        have hS521 := hS520.f2
        have hS522 := hS521.tail
        exact ⟨((x397 ++ ([v424])), a512, (n399 + 1), c513, r497, a498, n499, c500), hm.2, ⟨rfl, rfl, trivial⟩, ⟨hm.1, hB518, hS522⟩⟩
    · replace hm := hm.2 h422
      refine w_exit ?_
      have hS523 := hS421.f1
      have hS524 := hS523.tail
      exact ⟨(x397, a398, n399, c400), ⟨rfl, trivial⟩, ⟨hm, hB420, hS524⟩⟩
  · rintro ⟨x392, a393, n394, c395⟩ b_ w525 ⟨hm, hB526, hS527⟩
    show Wp _ _ _ _ (upds b_ [(3, .slice a393 n394 c395)]) w525
    refine w_seq fun K528 hK528 => ?_
    refine w_region ?_
    refine wl_val (g_move (v := .slice a393 n394 c395) rfl) rfl ?_
    refine wl_val (g_assign (v := .slice a393 n394 c395) rfl) rfl ?_
    refine wl_nil ?_
    refine hK528 _ _ ?_
    refine w_ret ?_
    repeat first | with_reducible refine q_then ?_ | with_reducible refine q_block ?_
    exact ret1 rfl (by decide) ⟨_, _, _, _, hm, rfl, toExt hB526, hS527⟩

theorem m_spec_BringHome_fn {w : World} {a1 : Option Addr} {n1 c1 : Nat} {p1 : List Cross} {Q : (List Cross) → Bool → Prop} (p0 : Int) (hp1 : Vw w.heap.size w a1 n1 c1 p1) (hm : m_spec_BringHome p0 p1 Q) :
    Fn Try.prog 45 #[.int .i64 p0, .slice a1 n1 c1] w (fun v w' => ∃ (r0 : List Cross) (a0 : Option Addr) (n0 c0 : Nat) (r1 : Bool), Q r0 r1 ∧ v = .tuple #[.slice a0 n0 c0, .bool r1] ∧ Ext w w' ∧ Sep w' w.heap.size [oS 56 a0 n0 c0 r0]) := by
  unfold m_spec_BringHome at hm
  have hB0 := Below.refl w.heap.size w
  have hS0 : Sep w w.heap.size [] := Sep.nil (Nat.le_refl _)
  refine fn_of_wp Try.func45 rfl (by kernel_rfl) (Nat.le_of_ble_eq_true rfl) ?_
  refine w_seq fun K1 hK1 => ?_
  refine w_region ?_
  refine wl_val (g_assign (v := .slice none 0 0) rfl) rfl ?_
  refine wl_val (g_assign (v := .bool false) rfl) rfl ?_
  refine wl_nil ?_
  refine hK1 _ _ ?_
  refine w_seq fun K2 hK2 => ?_
  refine w_region ?_
  refine wl_step rfl (q_lit0 (α := Cross) rfl SL24 hS0) ?_
  rintro _ w3 ⟨a4, rfl, hS6, hE5⟩
  have hB8 := hB0.trans (Ext.stp hE5 hS0.base)
  refine wl_val (g_assign (v := .slice a4 0 0) rfl) rfl ?_
  refine wl_nil ?_
  refine hK2 _ _ ?_
  refine w_seq fun K9 hK9 => ?_
  refine w_seq fun K10 hK10 => ?_
  refine w_region ?_
  refine wl_val (g_move (v := .int .i64 p0) rfl) rfl ?_
  refine wl_val (g_move (v := .slice a1 n1 c1) rfl) rfl ?_
  refine wl_step rfl (g_call (vs := #[.int .i64 p0, .slice a1 n1 c1]) CF59 (args2 rfl rfl) (m_spec_CrossesOk_fn p0 ((hp1.bel hB8).up hS6) hm)) ?_
  rintro _ w11 ⟨r14, hm, rfl, hE12⟩
  have hB15 := hB8.trans (Ext.stp hE12 hS6.base)
  have hS16 := hS6.ext hE12
  refine wl_val (g_not (a := r14) rfl) rfl ?_
  refine wl_nil ?_
  refine hK10 _ _ ?_
  refine w_condI (p := ¬ (r14 = true)) (b := (!r14)) rfl (i_not Iff.rfl) (fun h17 => ?_) (fun h17 => ?_)
  · replace hm := hm.1 h17
    refine w_seq fun K18 hK18 => ?_
    refine w_region ?_
    refine wl_val (g_move (v := .slice a4 0 0) rfl) rfl ?_
    refine wl_val (g_assign (v := .slice a4 0 0) rfl) rfl ?_
    refine wl_val (g_assign (v := .bool false) rfl) rfl ?_
    refine wl_nil ?_
    refine hK18 _ _ ?_
    refine w_ret ?_
    repeat first | with_reducible refine q_then ?_ | with_reducible refine q_block ?_
    exact ret2 rfl (by decide) (by decide) ⟨_, _, _, _, _, hm, rfl, toExt hB15, hS16⟩
  · replace hm := hm.2 h17
    refine w_skip ?_
    refine hK9 _ _ ?_
    refine w_seq fun K19 hK19 => ?_
    refine w_region ?_
    refine wl_val (g_move (v := .int .i64 p0) rfl) rfl ?_
    refine wl_val (g_move (v := .slice a1 n1 c1) rfl) rfl ?_
    refine wl_step rfl (g_call (vs := #[.int .i64 p0, .slice a1 n1 c1]) CF26 (args2 rfl rfl) (m_spec_OrderAfter_fn p0 ((hp1.bel hB15).up hS16) hm)) ?_
    rintro _ w20 ⟨r23, a24, n25, c26, hm, rfl, hE21, hN22⟩
    have hS28 := hS16.call1 hE21 hN22
    have hB29 := hB15.trans (Ext.stp hE21 hS16.base)
    refine wl_step rfl (g_call (vs := #[.slice a24 n25 c26]) CF69 (args1 rfl) (m_spec_SortingSwaps_fn (oS.vw hS28.g0) hm)) ?_
    rintro _ w30 ⟨r33, a34, n35, c36, hm, rfl, hE31, hN32⟩
    have hS38 := hS28.call1 hE31 hN32
    have hB39 := hB29.trans (Ext.stp hE31 hS28.base)
    refine wl_val (g_assign (v := .slice a34 n35 c36) rfl) rfl ?_
    refine wl_nil ?_
    refine hK19 _ _ ?_
    refine w_cut (σ := List Cross × Option Addr × Nat × Nat) (fun ⟨x111, a112, n113, c114⟩ => [(6, .slice a112 n113 c114)]) (fun ⟨x111, a112, n113, c114⟩ w' => m_spec_BringHome_K0 Q x111 ∧ Below w.heap.size w w' ∧ Sep w' w.heap.size [oS 56 a112 n113 c114 (x111 : List Cross)]) ?_ ?_
    · refine w_seq fun K116 hK116 => ?_
      refine w_region ?_
      refine wl_val (g_assign (v := .int .i64 0) rfl) rfl ?_
      refine wl_nil ?_
      refine hK116 _ _ ?_
      refine w_block ?_
      have hS122 := hS38.f1
      have hS123 := hS122.tail
      have hS124 := hS123.f1
      obtain ⟨I125, μ126, h0127, hr128⟩ := hm
      refine w_for (σ := List Cross × Option Addr × Nat × Nat × Int) (fun ⟨x117, a118, n119, c120, v121⟩ => [(6, .slice a118 n119 c120), (7, .slice a34 n35 c36), (8, .int .i64 v121)]) (fun ⟨x117, a118, n119, c120, v121⟩ w' => I125 x117 v121 ∧ Below w.heap.size w w' ∧ Sep w' w.heap.size [oS 56 a118 n119 c120 (x117 : List Cross), oS 3 a34 n35 c36 (r33 : List Int)]) (fun ⟨x117, a118, n119, c120, v121⟩ => μ126 x117 v121) ([], a4, 0, 0, 0) ⟨rfl, rfl, rfl, trivial⟩ ⟨h0127, hB39, hS124⟩ ?_
      rintro ⟨x117, a118, n119, c120, v121⟩ b_ w129 ⟨hi_, hB130, hS131⟩
      show Wp _ _ _ _ (upds b_ [(6, .slice a118 n119 c120), (7, .slice a34 n35 c36), (8, .int .i64 v121)]) w129
      have hm := hr128 x117 v121 hi_
      refine w_seq fun K133 hK133 => ?_
      refine w_seq fun K134 hK134 => ?_
      refine w_region ?_
      refine wl_val (g_move (v := .int .i64 v121) rfl) rfl ?_
      refine wl_val (g_move (v := .slice a34 n35 c36) rfl) rfl ?_
      refine wl_val (q_len SL39 rfl (Vw.len (oS.vw hS131.g1))) rfl ?_
      refine wl_val (g_lss (a := v121) (b := (r33.length : Int)) rfl rfl) rfl ?_
      refine wl_nil ?_
      refine hK134 _ _ ?_
      refine w_condI (p := v121 < (r33.length : Int)) (b := (decide (v121 < (r33.length : Int)))) rfl decide_eq_true_iff (fun h135 => ?_) (fun h135 => ?_)
      · replace hm := hm.1 h135
        refine w_skip ?_
        refine hK133 _ _ ?_
        refine w_seq fun K136 hK136 => ?_
        refine w_block ?_
        refine w_region ?_
        refine wl_val (g_move (v := .slice a118 n119 c120) rfl) rfl ?_
        refine wl_val (g_move (v := .slice a34 n35 c36) rfl) rfl ?_
        refine wl_val (g_move (v := .int .i64 v121) rfl) rfl ?_
        obtain ⟨hg137, hm⟩ := hm
        refine wl_val (q_index (i := v121) SL39 rfl rfl (oS.vw hS131.g1) hg137) rfl ?_
        refine wl_val (q_load (i := v121) (v := .int .i64 (r33[(Int.toNat v121)]!)) ON3 (oS.vw hS131.g1) hg137 rfl rfl) rfl ?_
        refine wl_val (g_build (v := .agg #[.int .i64 (r33[(Int.toNat v121)]!), .bool true]) (parts2 rfl rfl) (BD56_01 (r33[(Int.toNat v121)]!) true)) rfl ?_
        refine wl_step rfl (q_lit1 (y := ((r33[(Int.toNat v121)]!, true) : Cross)) SL24 rfl rfl (by decide) hS131) ?_
        rintro _ w138 ⟨a139, rfl, hS141, hE140⟩
        have hB143 := hB130.trans (Ext.stp hE140 hS131.base)
        have hS149 := hS141.f1
        obtain ⟨hg150, hm⟩ := hm
        refine wl_step rfl (q_append SL24 rfl rfl hS149 (oS.vw hS149.g1) hg150 (by decide)) ?_
        rintro _ w144 ⟨a145, c146, rfl, hS148, hb147⟩
        have hB151 := hB143.trans hb147
        refine wl_val (g_assign (v := .slice a145 (n119 + 1) c146) rfl) rfl ?_
        refine wl_nil ?_
        refine hK136 _ _ ?_
        refine w_region ?_
        refine wl_val (g_move (v := .int .i64 v121) rfl) rfl ?_
        obtain ⟨hg152, hm⟩ := hm
        refine wl_val (g_add (a := v121) (b := 1) rfl rfl hg152) rfl ?_
        refine wl_val (g_assign (v := .int .i64 (v121 + 1)) rfl) rfl ?_
        refine wl_nil ?_
        have hS153 := hS148.f1
        have hS154 := hS153.tail
        exact ⟨((x117 ++ ([(r33[(Int.toNat v121)]!, true)])), a145, (n119 + 1), c146, (v121 + 1)), hm.2, ⟨rfl, rfl, rfl, trivial⟩, ⟨hm.1, hB151, hS154⟩⟩
      · replace hm := hm.2 h135
        refine w_exit ?_
        have hS155 := hS131.f1
        have hS156 := hS155.tail
        exact ⟨(x117, a118, n119, c120), ⟨rfl, trivial⟩, ⟨hm, hB130, hS156⟩⟩
    · rintro ⟨x111, a112, n113, c114⟩ b_ w157 ⟨hm, hB158, hS159⟩
      show Wp _ _ _ _ (upds b_ [(6, .slice a112 n113 c114)]) w157
      refine w_seq fun K160 hK160 => ?_
      refine w_region ?_
      refine wl_val (g_move (v := .slice a112 n113 c114) rfl) rfl ?_
      refine wl_val (g_assign (v := .slice a112 n113 c114) rfl) rfl ?_
      refine wl_val (g_assign (v := .bool true) rfl) rfl ?_
      refine wl_nil ?_
      refine hK160 _ _ ?_
      refine w_ret ?_
      repeat first | with_reducible refine q_then ?_ | with_reducible refine q_block ?_
      exact ret2 rfl (by decide) (by decide) ⟨_, _, _, _, _, hm, rfl, toExt hB158, hS159⟩

theorem m_impl_put_fn {w : World} {a0 : Option Addr} {n0 c0 : Nat} {p0 : List Int} {Q : (List Int) → Prop} (hp0 : Vw w.heap.size w a0 n0 c0 p0) (p1 : Int) (hm : m_impl_put p0 p1 Q) :
    Fn Try.prog 85 #[.slice a0 n0 c0, .int .i64 p1] w (fun v w' => ∃ (r0 : List Int) (a0 : Option Addr) (n0 c0 : Nat), Q r0 ∧ v = .slice a0 n0 c0 ∧ Ext w w' ∧ Sep w' w.heap.size [oS 3 a0 n0 c0 r0]) := by
  unfold m_impl_put at hm
  have hB0 := Below.refl w.heap.size w
  have hS0 : Sep w w.heap.size [] := Sep.nil (Nat.le_refl _)
  refine fn_of_wp Try.func85 rfl (by kernel_rfl) (Nat.le_of_ble_eq_true rfl) ?_
  refine w_seq fun K1 hK1 => ?_
  refine w_region ?_
  refine wl_val (g_assign (v := .slice none 0 0) rfl) rfl ?_
  refine wl_nil ?_
  refine hK1 _ _ ?_
  refine w_seq fun K2 hK2 => ?_
  refine w_region ?_
  refine wl_step rfl (q_lit0 (α := Int) rfl SL39 hS0) ?_
  rintro _ w3 ⟨a4, rfl, hS6, hE5⟩
  have hB8 := hB0.trans (Ext.stp hE5 hS0.base)
  refine wl_val (g_assign (v := .slice a4 0 0) rfl) rfl ?_
  refine wl_val (g_assign (v := .bool false) rfl) rfl ?_
  refine wl_nil ?_
  refine hK2 _ _ ?_
  refine w_cut (σ := List Int × Option Addr × Nat × Nat × Bool) (fun ⟨x160, a161, n162, c163, v164⟩ => [(1, .int .i64 p1), (5, .slice a161 n162 c163), (6, .bool v164)]) (fun ⟨x160, a161, n162, c163, v164⟩ w' => m_impl_put_K1 p1 Q x160 v164 ∧ Below w.heap.size w w' ∧ Sep w' w.heap.size [oS 3 a161 n162 c163 (x160 : List Int)]) ?_ ?_
  · refine w_seq fun K166 hK166 => ?_
    refine w_region ?_
    refine wl_val (g_move (v := .slice a0 n0 c0) rfl) rfl ?_
    refine wl_val (q_len SL39 rfl (Vw.len (hp0.bel hB8))) rfl ?_
    refine wl_val (g_move (v := .int .i64 0) rfl) rfl ?_
    refine wl_nil ?_
    refine hK166 _ _ ?_
    refine w_block ?_
    obtain ⟨I173, μ174, h0175, hr176⟩ := hm
    refine w_for (σ := List Int × Option Addr × Nat × Nat × Bool × Int) (fun ⟨x167, a168, n169, c170, v171, v172⟩ => [(1, .int .i64 p1), (5, .slice a168 n169 c170), (6, .bool v171), (10, .slice a0 n0 c0), (11, .int .i64 (p0.length : Int)), (12, .int .i64 v172)]) (fun ⟨x167, a168, n169, c170, v171, v172⟩ w' => I173 x167 v171 v172 ∧ Below w.heap.size w w' ∧ Sep w' w.heap.size [oS 3 a168 n169 c170 (x167 : List Int)]) (fun ⟨x167, a168, n169, c170, v171, v172⟩ => μ174 x167 v171 v172) ([], a4, 0, 0, false, 0) ⟨rfl, rfl, rfl, rfl, rfl, rfl, trivial⟩ ⟨h0175, hB8, hS6⟩ ?_
    rintro ⟨x167, a168, n169, c170, v171, v172⟩ b_ w177 ⟨hi_, hB178, hS179⟩
    show Wp _ _ _ _ (upds b_ [(1, .int .i64 p1), (5, .slice a168 n169 c170), (6, .bool v171), (10, .slice a0 n0 c0), (11, .int .i64 (p0.length : Int)), (12, .int .i64 v172)]) w177
    have hm := hr176 x167 v171 v172 hi_
    refine w_seq fun K181 hK181 => ?_
    refine w_region ?_
    refine wl_val (g_lss (a := v172) (b := (p0.length : Int)) rfl rfl) rfl ?_
    refine wl_nil ?_
    refine hK181 _ _ ?_
    refine w_seq fun K182 hK182 => ?_
    refine w_condI (p := v172 < (p0.length : Int)) (b := (decide (v172 < (p0.length : Int)))) rfl decide_eq_true_iff (fun h183 => ?_) (fun h183 => ?_)
    · replace hm := hm.1 h183
      refine w_skip ?_
      refine hK182 _ _ ?_
      refine w_seq fun K184 hK184 => ?_
      refine w_block ?_
      refine w_seq fun K185 hK185 => ?_
      refine w_region ?_
      obtain ⟨hg186, hm⟩ := hm
      refine wl_val (q_index (i := v172) SL39 rfl rfl (hp0.bel hB178) hg186) rfl ?_
      refine wl_val (q_load (i := v172) (v := .int .i64 (p0[(Int.toNat v172)]!)) ON3 (hp0.bel hB178) hg186 rfl rfl) rfl ?_
      refine wl_val (g_assign (v := .int .i64 (p0[(Int.toNat v172)]!)) rfl) rfl ?_
      refine wl_nil ?_
      refine hK185 _ _ ?_
      refine w_cut (σ := List Int × Option Addr × Nat × Nat × Bool) (fun ⟨x187, a188, n189, c190, v191⟩ => [(1, .int .i64 p1), (5, .slice a188 n189 c190), (6, .bool v191), (8, .int .i64 (p0[(Int.toNat v172)]!)), (10, .slice a0 n0 c0), (11, .int .i64 (p0.length : Int)), (12, .int .i64 v172)]) (fun ⟨x187, a188, n189, c190, v191⟩ w' => m_impl_put_K0 p0 v172 (fun x167' v171' v172' => I173 x167' v171' v172' ∧ μ174 x167' v171' v172' < μ174 x167 v171 v172) x187 v191 ∧ Below w.heap.size w w' ∧ Sep w' w.heap.size [oS 3 a188 n189 c190 (x187 : List Int)]) ?_ ?_
      · refine w_seq fun K193 hK193 => ?_
        refine w_region ?_
        refine wl_val (g_move (v := .bool v171) rfl) rfl ?_
        refine wl_val (g_not (a := v171) rfl) rfl ?_
        refine wl_val (g_move (v := .bool (!v171)) rfl) rfl ?_
        refine wl_guard (c := (!v171) = true) (val := .int .i64 p1) (b := ((!v171) == true)) (gv_some rfl rfl rfl) beq_iff_eq (fun hc194 => ?_) ?_
        · have hq2 : ¬ (v171 = true) := ((i_not Iff.rfl).mp hc194)
          exact g_move (v := .int .i64 p1) rfl
        refine wl_guard (c := (!v171) = true) (val := .int .i64 (p0[(Int.toNat v172)]!)) (b := ((!v171) == true)) (gv_some rfl rfl rfl) beq_iff_eq (fun hc195 => ?_) ?_
        · have hq2 : ¬ (v171 = true) := ((i_not Iff.rfl).mp hc195)
          exact g_move (v := .int .i64 (p0[(Int.toNat v172)]!)) rfl
        refine wl_guard (c := (!v171) = true) (val := .bool (decide (p1 ≤ p0[(Int.toNat v172)]!))) (b := ((!v171) == true)) (gv_some rfl rfl rfl) beq_iff_eq (fun hc196 => ?_) ?_
        · have hq2 : ¬ (v171 = true) := ((i_not Iff.rfl).mp hc196)
          exact g_leq (a := p1) (b := p0[(Int.toNat v172)]!) (if_pos hc196) (if_pos hc196)
        refine wl_val (g_pick_and (b := (!v171)) (q := (decide (p1 ≤ p0[(Int.toNat v172)]!))) rfl rfl) rfl ?_
        refine wl_nil ?_
        refine hK193 _ _ ?_
        refine w_condI (p := ((¬ (v171 = true)) ∧ (p1 ≤ p0[(Int.toNat v172)]!))) (b := ((!v171) && (decide (p1 ≤ p0[(Int.toNat v172)]!)))) rfl (i_and (i_not Iff.rfl) decide_eq_true_iff) (fun h197 => ?_) (fun h197 => ?_)
        · replace hm := hm.1 h197
          refine w_seq fun K198 hK198 => ?_
          refine w_region ?_
          refine wl_val (g_move (v := .slice a168 n169 c170) rfl) rfl ?_
          refine wl_val (g_move (v := .int .i64 p1) rfl) rfl ?_
          refine wl_step rfl (q_lit1 (y := (p1 : Int)) SL39 rfl rfl (by decide) hS179) ?_
          rintro _ w199 ⟨a200, rfl, hS202, hE201⟩
          have hB204 := hB178.trans (Ext.stp hE201 hS179.base)
          have hS210 := hS202.f1
          obtain ⟨hg211, hm⟩ := hm
          refine wl_step rfl (q_append SL39 rfl rfl hS210 (oS.vw hS210.g1) hg211 (by decide)) ?_
          rintro _ w205 ⟨a206, c207, rfl, hS209, hb208⟩
          have hB212 := hB204.trans hb208
          refine wl_val (g_assign (v := .slice a206 (n169 + 1) c207) rfl) rfl ?_
          refine wl_nil ?_
          refine hK198 _ _ ?_
          refine w_region ?_
          refine wl_val (g_assign (v := .bool true) rfl) rfl ?_
          refine wl_nil ?_
          have hS213 := hS209.f1
          have hS214 := hS213.tail
          exact ⟨((x167 ++ ([p1])), a206, (n169 + 1), c207, true), ⟨rfl, rfl, rfl, rfl, rfl, rfl, rfl, trivial⟩, ⟨hm, hB212, hS214⟩⟩
        · replace hm := hm.2 h197
          refine w_skip ?_
          exact ⟨(x167, a168, n169, c170, v171), ⟨rfl, rfl, rfl, rfl, rfl, rfl, rfl, trivial⟩, ⟨hm, hB178, hS179⟩⟩
      · rintro ⟨x187, a188, n189, c190, v191⟩ b_ w215 ⟨hm, hB216, hS217⟩
        show Wp _ _ _ _ (upds b_ [(1, .int .i64 p1), (5, .slice a188 n189 c190), (6, .bool v191), (8, .int .i64 (p0[(Int.toNat v172)]!)), (10, .slice a0 n0 c0), (11, .int .i64 (p0.length : Int)), (12, .int .i64 v172)]) w215
        refine w_region ?_
        refine wl_val (g_move (v := .slice a188 n189 c190) rfl) rfl ?_
        refine wl_val (g_move (v := .int .i64 (p0[(Int.toNat v172)]!)) rfl) rfl ?_
        refine wl_step rfl (q_lit1 (y := (p0[(Int.toNat v172)]! : Int)) SL39 rfl rfl (by decide) hS217) ?_
        rintro _ w218 ⟨a219, rfl, hS221, hE220⟩
        have hB223 := hB216.trans (Ext.stp hE220 hS217.base)
        have hS229 := hS221.f1
        obtain ⟨hg230, hm⟩ := hm
        refine wl_step rfl (q_append SL39 rfl rfl hS229 (oS.vw hS229.g1) hg230 (by decide)) ?_
        rintro _ w224 ⟨a225, c226, rfl, hS228, hb227⟩
        have hB231 := hB223.trans hb227
        refine wl_val (g_assign (v := .slice a225 (n189 + 1) c226) rfl) rfl ?_
        refine wl_nil ?_
        refine hK184 _ _ ?_
        refine w_region ?_
        obtain ⟨hg232, hm⟩ := hm
        refine wl_val (g_add (a := v172) (b := 1) rfl rfl hg232) rfl ?_
        refine wl_val (g_move (v := .int .i64 (v172 + 1)) rfl) rfl ?_
        refine wl_nil ?_
        have hS233 := hS228.f1
        have hS234 := hS233.tail
        exact ⟨((x187 ++ ([p0[(Int.toNat v172)]!])), a225, (n189 + 1), c226, v191, (v172 + 1)), hm.2, ⟨rfl, rfl, rfl, rfl, rfl, rfl, trivial⟩, ⟨hm.1, hB231, hS234⟩⟩
    · replace hm := hm.2 h183
      refine w_exit ?_
      exact ⟨(x167, a168, n169, c170, v171), ⟨rfl, rfl, rfl, trivial⟩, ⟨hm, hB178, hS179⟩⟩
  · rintro ⟨x160, a161, n162, c163, v164⟩ b_ w235 ⟨hm, hB236, hS237⟩
    show Wp _ _ _ _ (upds b_ [(1, .int .i64 p1), (5, .slice a161 n162 c163), (6, .bool v164)]) w235
    refine w_seq fun K238 hK238 => ?_
    refine w_seq fun K239 hK239 => ?_
    refine w_region ?_
    refine wl_val (g_move (v := .bool v164) rfl) rfl ?_
    refine wl_val (g_not (a := v164) rfl) rfl ?_
    refine wl_nil ?_
    refine hK239 _ _ ?_
    refine w_condI (p := ¬ (v164 = true)) (b := (!v164)) rfl (i_not Iff.rfl) (fun h240 => ?_) (fun h240 => ?_)
    · replace hm := hm.1 h240
      refine w_region ?_
      refine wl_val (g_move (v := .slice a161 n162 c163) rfl) rfl ?_
      refine wl_val (g_move (v := .int .i64 p1) rfl) rfl ?_
      refine wl_step rfl (q_lit1 (y := (p1 : Int)) SL39 rfl rfl (by decide) hS237) ?_
      rintro _ w241 ⟨a242, rfl, hS244, hE243⟩
      have hB246 := hB236.trans (Ext.stp hE243 hS237.base)
      have hS252 := hS244.f1
      obtain ⟨hg253, hm⟩ := hm
      refine wl_step rfl (q_append SL39 rfl rfl hS252 (oS.vw hS252.g1) hg253 (by decide)) ?_
      rintro _ w247 ⟨a248, c249, rfl, hS251, hb250⟩
      have hB254 := hB246.trans hb250
      refine wl_val (g_assign (v := .slice a248 (n162 + 1) c249) rfl) rfl ?_
      refine wl_nil ?_
      refine hK238 _ _ ?_
      refine w_seq fun K255 hK255 => ?_
      refine w_region ?_
      refine wl_val (g_move (v := .slice a248 (n162 + 1) c249) rfl) rfl ?_
      refine wl_val (g_assign (v := .slice a248 (n162 + 1) c249) rfl) rfl ?_
      refine wl_nil ?_
      refine hK255 _ _ ?_
      refine w_ret ?_
      have hS256 := hS251.f1
      have hS257 := hS256.tail
      repeat first | with_reducible refine q_then ?_ | with_reducible refine q_block ?_
      exact ret1 rfl (by decide) ⟨_, _, _, _, hm, rfl, toExt hB254, hS257⟩
    · replace hm := hm.2 h240
      refine w_skip ?_
      refine hK238 _ _ ?_
      refine w_seq fun K258 hK258 => ?_
      refine w_region ?_
      refine wl_val (g_move (v := .slice a161 n162 c163) rfl) rfl ?_
      refine wl_val (g_assign (v := .slice a161 n162 c163) rfl) rfl ?_
      refine wl_nil ?_
      refine hK258 _ _ ?_
      refine w_ret ?_
      repeat first | with_reducible refine q_then ?_ | with_reducible refine q_block ?_
      exact ret1 rfl (by decide) ⟨_, _, _, _, hm, rfl, toExt hB236, hS237⟩

theorem m_impl_sorted_fn {w : World} {a0 : Option Addr} {n0 c0 : Nat} {p0 : List Int} {Q : (List Int) → Prop} (hp0 : Vw w.heap.size w a0 n0 c0 p0) (hm : m_impl_sorted p0 Q) :
    Fn Try.prog 83 #[.slice a0 n0 c0] w (fun v w' => ∃ (r0 : List Int) (a0 : Option Addr) (n0 c0 : Nat), Q r0 ∧ v = .slice a0 n0 c0 ∧ Ext w w' ∧ Sep w' w.heap.size [oS 3 a0 n0 c0 r0]) := by
  unfold m_impl_sorted at hm
  have hB0 := Below.refl w.heap.size w
  have hS0 : Sep w w.heap.size [] := Sep.nil (Nat.le_refl _)
  refine fn_of_wp Try.func83 rfl (by kernel_rfl) (Nat.le_of_ble_eq_true rfl) ?_
  refine w_seq fun K1 hK1 => ?_
  refine w_region ?_
  refine wl_val (g_assign (v := .slice none 0 0) rfl) rfl ?_
  refine wl_nil ?_
  refine hK1 _ _ ?_
  refine w_seq fun K2 hK2 => ?_
  refine w_region ?_
  refine wl_step rfl (q_lit0 (α := Int) rfl SL39 hS0) ?_
  rintro _ w3 ⟨a4, rfl, hS6, hE5⟩
  have hB8 := hB0.trans (Ext.stp hE5 hS0.base)
  refine wl_val (g_assign (v := .slice a4 0 0) rfl) rfl ?_
  refine wl_nil ?_
  refine hK2 _ _ ?_
  refine w_cut (σ := List Int × Option Addr × Nat × Nat) (fun ⟨x68, a69, n70, c71⟩ => [(3, .slice a69 n70 c71)]) (fun ⟨x68, a69, n70, c71⟩ w' => m_impl_sorted_K0 Q x68 ∧ Below w.heap.size w w' ∧ Sep w' w.heap.size [oS 3 a69 n70 c71 (x68 : List Int)]) ?_ ?_
  · refine w_seq fun K73 hK73 => ?_
    refine w_region ?_
    refine wl_val (g_move (v := .slice a0 n0 c0) rfl) rfl ?_
    refine wl_val (q_len SL39 rfl (Vw.len (hp0.bel hB8))) rfl ?_
    refine wl_val (g_move (v := .int .i64 0) rfl) rfl ?_
    refine wl_nil ?_
    refine hK73 _ _ ?_
    refine w_block ?_
    obtain ⟨I79, μ80, h081, hr82⟩ := hm
    refine w_for (σ := List Int × Option Addr × Nat × Nat × Int) (fun ⟨x74, a75, n76, c77, v78⟩ => [(3, .slice a75 n76 c77), (7, .slice a0 n0 c0), (8, .int .i64 (p0.length : Int)), (9, .int .i64 v78)]) (fun ⟨x74, a75, n76, c77, v78⟩ w' => I79 x74 v78 ∧ Below w.heap.size w w' ∧ Sep w' w.heap.size [oS 3 a75 n76 c77 (x74 : List Int)]) (fun ⟨x74, a75, n76, c77, v78⟩ => μ80 x74 v78) ([], a4, 0, 0, 0) ⟨rfl, rfl, rfl, rfl, trivial⟩ ⟨h081, hB8, hS6⟩ ?_
    rintro ⟨x74, a75, n76, c77, v78⟩ b_ w83 ⟨hi_, hB84, hS85⟩
    show Wp _ _ _ _ (upds b_ [(3, .slice a75 n76 c77), (7, .slice a0 n0 c0), (8, .int .i64 (p0.length : Int)), (9, .int .i64 v78)]) w83
    have hm := hr82 x74 v78 hi_
    refine w_seq fun K87 hK87 => ?_
    refine w_region ?_
    refine wl_val (g_lss (a := v78) (b := (p0.length : Int)) rfl rfl) rfl ?_
    refine wl_nil ?_
    refine hK87 _ _ ?_
    refine w_seq fun K88 hK88 => ?_
    refine w_condI (p := v78 < (p0.length : Int)) (b := (decide (v78 < (p0.length : Int)))) rfl decide_eq_true_iff (fun h89 => ?_) (fun h89 => ?_)
    · replace hm := hm.1 h89
      refine w_skip ?_
      refine hK88 _ _ ?_
      refine w_seq fun K90 hK90 => ?_
      refine w_block ?_
      refine w_seq fun K91 hK91 => ?_
      refine w_region ?_
      obtain ⟨hg92, hm⟩ := hm
      refine wl_val (q_index (i := v78) SL39 rfl rfl (hp0.bel hB84) hg92) rfl ?_
      refine wl_val (q_load (i := v78) (v := .int .i64 (p0[(Int.toNat v78)]!)) ON3 (hp0.bel hB84) hg92 rfl rfl) rfl ?_
      refine wl_val (g_assign (v := .int .i64 (p0[(Int.toNat v78)]!)) rfl) rfl ?_
      refine wl_nil ?_
      refine hK91 _ _ ?_
      refine w_region ?_
      refine wl_val (g_move (v := .slice a75 n76 c77) rfl) rfl ?_
      refine wl_val (g_move (v := .int .i64 (p0[(Int.toNat v78)]!)) rfl) rfl ?_
      refine wl_step rfl (g_call (vs := #[.slice a75 n76 c77, .int .i64 (p0[(Int.toNat v78)]!)]) CF85 (args2 rfl rfl) (m_impl_put_fn (oS.vw hS85.g0) (p0[(Int.toNat v78)]!) hm)) ?_
      rintro _ w93 ⟨r96, a97, n98, c99, hm, rfl, hE94, hN95⟩
      have hS101 := hS85.call1 hE94 hN95
      have hB102 := hB84.trans (Ext.stp hE94 hS85.base)
      refine wl_val (g_assign (v := .slice a97 n98 c99) rfl) rfl ?_
      refine wl_nil ?_
      refine hK90 _ _ ?_
      refine w_region ?_
      obtain ⟨hg103, hm⟩ := hm
      refine wl_val (g_add (a := v78) (b := 1) rfl rfl hg103) rfl ?_
      refine wl_val (g_move (v := .int .i64 (v78 + 1)) rfl) rfl ?_
      refine wl_nil ?_
      have hS104 := hS101.f1
      have hS105 := hS104.tail
      exact ⟨(r96, a97, n98, c99, (v78 + 1)), hm.2, ⟨rfl, rfl, rfl, rfl, trivial⟩, ⟨hm.1, hB102, hS105⟩⟩
    · replace hm := hm.2 h89
      refine w_exit ?_
      exact ⟨(x74, a75, n76, c77), ⟨rfl, trivial⟩, ⟨hm, hB84, hS85⟩⟩
  · rintro ⟨x68, a69, n70, c71⟩ b_ w106 ⟨hm, hB107, hS108⟩
    show Wp _ _ _ _ (upds b_ [(3, .slice a69 n70 c71)]) w106
    refine w_seq fun K109 hK109 => ?_
    refine w_region ?_
    refine wl_val (g_move (v := .slice a69 n70 c71) rfl) rfl ?_
    refine wl_val (g_assign (v := .slice a69 n70 c71) rfl) rfl ?_
    refine wl_nil ?_
    refine hK109 _ _ ?_
    refine w_ret ?_
    repeat first | with_reducible refine q_then ?_ | with_reducible refine q_block ?_
    exact ret1 rfl (by decide) ⟨_, _, _, _, hm, rfl, toExt hB107, hS108⟩

theorem m_impl_allWithin_fn {w : World} {a0 : Option Addr} {n0 c0 : Nat} {p0 : List Int} {Q : Bool → Prop} (hp0 : Vw w.heap.size w a0 n0 c0 p0) (p1 : Int) (p2 : Int) (hm : m_impl_allWithin p0 p1 p2 Q) :
    Fn Try.prog 84 #[.slice a0 n0 c0, .int .i64 p1, .int .i64 p2] w (fun v w' => ∃ (r0 : Bool), Q r0 ∧ v = .bool r0 ∧ Ext w w') := by
  unfold m_impl_allWithin at hm
  have hB0 := Below.refl w.heap.size w
  have hS0 : Sep w w.heap.size [] := Sep.nil (Nat.le_refl _)
  refine fn_of_wp Try.func84 rfl (by kernel_rfl) (Nat.le_of_ble_eq_true rfl) ?_
  refine w_seq fun K1 hK1 => ?_
  refine w_region ?_
  refine wl_val (g_assign (v := .bool false) rfl) rfl ?_
  refine wl_nil ?_
  refine hK1 _ _ ?_
  refine w_cut (σ := Unit) (fun _ => []) (fun _ w' => m_impl_allWithin_K0 Q ∧ Below w.heap.size w w' ∧ Sep w' w.heap.size []) ?_ ?_
  · refine w_seq fun K3 hK3 => ?_
    refine w_region ?_
    refine wl_val (g_move (v := .slice a0 n0 c0) rfl) rfl ?_
    refine wl_val (q_len SL39 rfl (Vw.len (hp0.bel hB0))) rfl ?_
    refine wl_val (g_move (v := .int .i64 0) rfl) rfl ?_
    refine wl_nil ?_
    refine hK3 _ _ ?_
    refine w_block ?_
    obtain ⟨I29, μ30, h031, hr32⟩ := hm
    refine w_for (σ := Int) (fun v28 => [(1, .int .i64 p1), (2, .int .i64 p2), (9, .slice a0 n0 c0), (10, .int .i64 (p0.length : Int)), (11, .int .i64 v28)]) (fun v28 w' => I29 v28 ∧ Below w.heap.size w w' ∧ Sep w' w.heap.size []) (fun v28 => μ30 v28) (0) ⟨rfl, rfl, rfl, rfl, rfl, trivial⟩ ⟨h031, hB0, hS0⟩ ?_
    rintro v28 b_ w33 ⟨hi_, hB34, hS35⟩
    show Wp _ _ _ _ (upds b_ [(1, .int .i64 p1), (2, .int .i64 p2), (9, .slice a0 n0 c0), (10, .int .i64 (p0.length : Int)), (11, .int .i64 v28)]) w33
    have hm := hr32 v28 hi_
    refine w_seq fun K37 hK37 => ?_
    refine w_region ?_
    refine wl_val (g_lss (a := v28) (b := (p0.length : Int)) rfl rfl) rfl ?_
    refine wl_nil ?_
    refine hK37 _ _ ?_
    refine w_seq fun K38 hK38 => ?_
    refine w_condI (p := v28 < (p0.length : Int)) (b := (decide (v28 < (p0.length : Int)))) rfl decide_eq_true_iff (fun h39 => ?_) (fun h39 => ?_)
    · replace hm := hm.1 h39
      refine w_skip ?_
      refine hK38 _ _ ?_
      refine w_seq fun K40 hK40 => ?_
      refine w_block ?_
      refine w_seq fun K41 hK41 => ?_
      refine w_region ?_
      obtain ⟨hg42, hm⟩ := hm
      refine wl_val (q_index (i := v28) SL39 rfl rfl (hp0.bel hB34) hg42) rfl ?_
      refine wl_val (q_load (i := v28) (v := .int .i64 (p0[(Int.toNat v28)]!)) ON3 (hp0.bel hB34) hg42 rfl rfl) rfl ?_
      refine wl_val (g_assign (v := .int .i64 (p0[(Int.toNat v28)]!)) rfl) rfl ?_
      refine wl_nil ?_
      refine hK41 _ _ ?_
      refine w_seq fun K43 hK43 => ?_
      refine w_region ?_
      refine wl_val (g_move (v := .int .i64 (p0[(Int.toNat v28)]!)) rfl) rfl ?_
      refine wl_val (g_move (v := .int .i64 p1) rfl) rfl ?_
      refine wl_val (g_move (v := .int .i64 p2) rfl) rfl ?_
      refine wl_step rfl (g_call (vs := #[.int .i64 (p0[(Int.toNat v28)]!), .int .i64 p1, .int .i64 p2]) CF54 (args3 rfl rfl rfl) (m_impl_within_fn (p0[(Int.toNat v28)]!) p1 p2 hm)) ?_
      rintro _ w44 ⟨r47, hm, rfl, hE45⟩
      have hB48 := hB34.trans (Ext.stp hE45 hS35.base)
      have hS49 := hS35.ext hE45
      refine wl_val (g_not (a := r47) rfl) rfl ?_
      refine wl_nil ?_
      refine hK43 _ _ ?_
      refine w_condI (p := ¬ (r47 = true)) (b := (!r47)) rfl (i_not Iff.rfl) (fun h50 => ?_) (fun h50 => ?_)
      · replace hm := hm.1 h50
        refine w_seq fun K51 hK51 => ?_
        refine w_region ?_
        refine wl_val (g_assign (v := .bool false) rfl) rfl ?_
        refine wl_nil ?_
        refine hK51 _ _ ?_
        refine w_ret ?_
        repeat first | with_reducible refine q_then ?_ | with_reducible refine q_block ?_
        exact ret1 rfl (by decide) ⟨_, hm, rfl, toExt hB48⟩
      · replace hm := hm.2 h50
        refine w_skip ?_
        refine hK40 _ _ ?_
        refine w_region ?_
        obtain ⟨hg52, hm⟩ := hm
        refine wl_val (g_add (a := v28) (b := 1) rfl rfl hg52) rfl ?_
        refine wl_val (g_move (v := .int .i64 (v28 + 1)) rfl) rfl ?_
        refine wl_nil ?_
        exact ⟨((v28 + 1)), hm.2, ⟨rfl, rfl, rfl, rfl, rfl, trivial⟩, ⟨hm.1, hB48, hS49⟩⟩
    · replace hm := hm.2 h39
      refine w_exit ?_
      exact ⟨(), trivial, ⟨hm, hB34, hS35⟩⟩
  · rintro _ b_ w53 ⟨hm, hB54, hS55⟩
    show Wp _ _ _ _ (upds b_ []) w53
    refine w_seq fun K56 hK56 => ?_
    refine w_region ?_
    refine wl_val (g_assign (v := .bool true) rfl) rfl ?_
    refine wl_nil ?_
    refine hK56 _ _ ?_
    refine w_ret ?_
    repeat first | with_reducible refine q_then ?_ | with_reducible refine q_block ?_
    exact ret1 rfl (by decide) ⟨_, hm, rfl, toExt hB54⟩

theorem m_impl_isStrict_fn {w : World} {a0 : Option Addr} {n0 c0 : Nat} {p0 : List Int} {Q : Bool → Prop} (hp0 : Vw w.heap.size w a0 n0 c0 p0) (p1 : Int) (p2 : Int) (hm : m_impl_isStrict p0 p1 p2 Q) :
    Fn Try.prog 82 #[.slice a0 n0 c0, .int .i64 p1, .int .i64 p2] w (fun v w' => ∃ (r0 : Bool), Q r0 ∧ v = .bool r0 ∧ Ext w w') := by
  unfold m_impl_isStrict at hm
  have hB0 := Below.refl w.heap.size w
  have hS0 : Sep w w.heap.size [] := Sep.nil (Nat.le_refl _)
  refine fn_of_wp Try.func82 rfl (by kernel_rfl) (Nat.le_of_ble_eq_true rfl) ?_
  refine w_seq fun K1 hK1 => ?_
  refine w_region ?_
  refine wl_val (g_assign (v := .bool false) rfl) rfl ?_
  refine wl_nil ?_
  refine hK1 _ _ ?_
  refine w_cut (σ := Unit) (fun _ => [(0, .slice a0 n0 c0), (1, .int .i64 p1), (2, .int .i64 p2)]) (fun _ w' => m_impl_isStrict_K0 p0 p1 p2 Q ∧ Below w.heap.size w w' ∧ Sep w' w.heap.size []) ?_ ?_
  · refine w_seq fun K3 hK3 => ?_
    refine w_region ?_
    refine wl_val (g_move (v := .slice a0 n0 c0) rfl) rfl ?_
    refine wl_val (q_len SL39 rfl (Vw.len (hp0.bel hB0))) rfl ?_
    refine wl_val (g_move (v := .int .i64 0) rfl) rfl ?_
    refine wl_nil ?_
    refine hK3 _ _ ?_
    refine w_block ?_
    obtain ⟨I99, μ100, h0101, hr102⟩ := hm
    refine w_for (σ := Int) (fun v98 => [(0, .slice a0 n0 c0), (1, .int .i64 p1), (2, .int .i64 p2), (9, .int .i64 (p0.length : Int)), (10, .int .i64 v98)]) (fun v98 w' => I99 v98 ∧ Below w.heap.size w w' ∧ Sep w' w.heap.size []) (fun v98 => μ100 v98) (0) ⟨rfl, rfl, rfl, rfl, rfl, trivial⟩ ⟨h0101, hB0, hS0⟩ ?_
    rintro v98 b_ w103 ⟨hi_, hB104, hS105⟩
    show Wp _ _ _ _ (upds b_ [(0, .slice a0 n0 c0), (1, .int .i64 p1), (2, .int .i64 p2), (9, .int .i64 (p0.length : Int)), (10, .int .i64 v98)]) w103
    have hm := hr102 v98 hi_
    refine w_seq fun K107 hK107 => ?_
    refine w_region ?_
    refine wl_val (g_lss (a := v98) (b := (p0.length : Int)) rfl rfl) rfl ?_
    refine wl_nil ?_
    refine hK107 _ _ ?_
    refine w_seq fun K108 hK108 => ?_
    refine w_condI (p := v98 < (p0.length : Int)) (b := (decide (v98 < (p0.length : Int)))) rfl decide_eq_true_iff (fun h109 => ?_) (fun h109 => ?_)
    · replace hm := hm.1 h109
      refine w_skip ?_
      refine hK108 _ _ ?_
      refine w_seq fun K110 hK110 => ?_
      refine w_block ?_
      refine w_seq fun K111 hK111 => ?_
      refine w_region ?_
      refine wl_val (g_move (v := .int .i64 v98) rfl) rfl ?_
      refine wl_val (g_assign (v := .int .i64 v98) rfl) rfl ?_
      refine wl_nil ?_
      refine hK111 _ _ ?_
      refine w_seq fun K112 hK112 => ?_
      refine w_draw (X := Ext) (Y := Ext) [] MIX (by decide +kernel) rfl Ext.refl (fun _ _ _ => Ext.trans) (fun _ _ _ => Chg.trans) (fun _ _ h => Ext.chg h _) (fun w113 hE114 => ?_)
      have hB115 := hB104.trans (Ext.stp hE114 hS105.base)
      have hS116 := hS105.ext hE114
      refine ⟨.int .i64 v98, fun w117 hX118 => od_plain rfl (by have hS119 := hS116.ext hX118; have hB120 := hB115.trans (Ext.stp hX118 hS116.base); exact is_ext (g_move (v := .int .i64 v98) rfl)), ?_⟩
      refine ⟨.bool (decide (v98 > 0)), fun w121 hX122 => od_plain rfl (by have hS123 := hS116.ext hX122; have hB124 := hB115.trans (Ext.stp hX122 hS116.base); exact is_ext (g_gtr (a := v98) (b := 0) rfl rfl)), ?_⟩
      refine ⟨.bool (decide (v98 > 0)), fun w125 hX126 => od_plain rfl (by have hS127 := hS116.ext hX126; have hB128 := hB115.trans (Ext.stp hX126 hS116.base); exact is_ext (g_move (v := .bool (decide (v98 > 0))) rfl)), ?_⟩
      refine ⟨if (decide (v98 > 0)) = true then .slice a0 n0 c0 else undef, fun w129 hX130 => od_guard (c := (decide (v98 > 0)) = true) (val := .slice a0 n0 c0) (b := ((decide (v98 > 0)) == true)) (gv_some rfl rfl rfl) beq_iff_eq (fun hc133 => ?_), ?_⟩
      · have hS131 := hS116.ext hX130
        have hB132 := hB115.trans (Ext.stp hX130 hS116.base)
        have hq1 : v98 > 0 := (decide_eq_true_iff.mp hc133)
        exact is_ext (g_move (v := .slice a0 n0 c0) rfl)
      refine ⟨if (decide (v98 > 0)) = true then .int .i64 v98 else undef, fun w134 hX135 => od_guard (c := (decide (v98 > 0)) = true) (val := .int .i64 v98) (b := ((decide (v98 > 0)) == true)) (gv_some rfl rfl rfl) beq_iff_eq (fun hc138 => ?_), ?_⟩
      · have hS136 := hS116.ext hX135
        have hB137 := hB115.trans (Ext.stp hX135 hS116.base)
        have hq1 : v98 > 0 := (decide_eq_true_iff.mp hc138)
        exact is_ext (g_move (v := .int .i64 v98) rfl)
      obtain ⟨hg144, hm⟩ := hm
      refine ⟨if (decide (v98 > 0)) = true then .pointer (some ((adr a0).add ((Int.toNat v98) * El.m Int))) else undef, fun w139 hX140 => od_guard (c := (decide (v98 > 0)) = true) (val := .pointer (some ((adr a0).add ((Int.toNat v98) * El.m Int)))) (b := ((decide (v98 > 0)) == true)) (gv_some rfl rfl rfl) beq_iff_eq (fun hc143 => ?_), ?_⟩
      · have hS141 := hS116.ext hX140
        have hB142 := hB115.trans (Ext.stp hX140 hS116.base)
        have hq1 : v98 > 0 := (decide_eq_true_iff.mp hc143)
        exact is_ext (q_index (i := v98) SL39 (if_pos hc143) (if_pos hc143) (hp0.bel hB142) (hg144 hq1))
      refine ⟨if (decide (v98 > 0)) = true then .int .i64 (p0[(Int.toNat v98)]!) else undef, fun w145 hX146 => od_guard (c := (decide (v98 > 0)) = true) (val := .int .i64 (p0[(Int.toNat v98)]!)) (b := ((decide (v98 > 0)) == true)) (gv_some rfl rfl rfl) beq_iff_eq (fun hc149 => ?_), ?_⟩
      · have hS147 := hS116.ext hX146
        have hB148 := hB115.trans (Ext.stp hX146 hS116.base)
        have hq1 : v98 > 0 := (decide_eq_true_iff.mp hc149)
        exact is_ext (q_load (i := v98) (v := .int .i64 (p0[(Int.toNat v98)]!)) ON3 (hp0.bel hB148) (hg144 hq1) rfl (if_pos hc149))
      refine ⟨if (decide (v98 > 0)) = true then .slice a0 n0 c0 else undef, fun w150 hX151 => od_guard (c := (decide (v98 > 0)) = true) (val := .slice a0 n0 c0) (b := ((decide (v98 > 0)) == true)) (gv_some rfl rfl rfl) beq_iff_eq (fun hc154 => ?_), ?_⟩
      · have hS152 := hS116.ext hX151
        have hB153 := hB115.trans (Ext.stp hX151 hS116.base)
        have hq1 : v98 > 0 := (decide_eq_true_iff.mp hc154)
        exact is_ext (g_move (v := .slice a0 n0 c0) rfl)
      refine ⟨if (decide (v98 > 0)) = true then .int .i64 v98 else undef, fun w155 hX156 => od_guard (c := (decide (v98 > 0)) = true) (val := .int .i64 v98) (b := ((decide (v98 > 0)) == true)) (gv_some rfl rfl rfl) beq_iff_eq (fun hc159 => ?_), ?_⟩
      · have hS157 := hS116.ext hX156
        have hB158 := hB115.trans (Ext.stp hX156 hS116.base)
        have hq1 : v98 > 0 := (decide_eq_true_iff.mp hc159)
        exact is_ext (g_move (v := .int .i64 v98) rfl)
      obtain ⟨hg165, hm⟩ := hm
      refine ⟨if (decide (v98 > 0)) = true then .int .i64 (v98 - 1) else undef, fun w160 hX161 => od_guard (c := (decide (v98 > 0)) = true) (val := .int .i64 (v98 - 1)) (b := ((decide (v98 > 0)) == true)) (gv_some rfl rfl rfl) beq_iff_eq (fun hc164 => ?_), ?_⟩
      · have hS162 := hS116.ext hX161
        have hB163 := hB115.trans (Ext.stp hX161 hS116.base)
        have hq1 : v98 > 0 := (decide_eq_true_iff.mp hc164)
        exact is_ext (g_sub (a := v98) (b := 1) (if_pos hc164) rfl (hg165 hq1))
      obtain ⟨hg171, hm⟩ := hm
      refine ⟨if (decide (v98 > 0)) = true then .pointer (some ((adr a0).add ((Int.toNat (v98 - 1)) * El.m Int))) else undef, fun w166 hX167 => od_guard (c := (decide (v98 > 0)) = true) (val := .pointer (some ((adr a0).add ((Int.toNat (v98 - 1)) * El.m Int)))) (b := ((decide (v98 > 0)) == true)) (gv_some rfl rfl rfl) beq_iff_eq (fun hc170 => ?_), ?_⟩
      · have hS168 := hS116.ext hX167
        have hB169 := hB115.trans (Ext.stp hX167 hS116.base)
        have hq1 : v98 > 0 := (decide_eq_true_iff.mp hc170)
        exact is_ext (q_index (i := (v98 - 1)) SL39 (if_pos hc170) (if_pos hc170) (hp0.bel hB169) (hg171 hq1))
      refine ⟨if (decide (v98 > 0)) = true then .int .i64 (p0[(Int.toNat (v98 - 1))]!) else undef, fun w172 hX173 => od_guard (c := (decide (v98 > 0)) = true) (val := .int .i64 (p0[(Int.toNat (v98 - 1))]!)) (b := ((decide (v98 > 0)) == true)) (gv_some rfl rfl rfl) beq_iff_eq (fun hc176 => ?_), ?_⟩
      · have hS174 := hS116.ext hX173
        have hB175 := hB115.trans (Ext.stp hX173 hS116.base)
        have hq1 : v98 > 0 := (decide_eq_true_iff.mp hc176)
        exact is_ext (q_load (i := (v98 - 1)) (v := .int .i64 (p0[(Int.toNat (v98 - 1))]!)) ON3 (hp0.bel hB175) (hg171 hq1) rfl (if_pos hc176))
      refine ⟨if (decide (v98 > 0)) = true then .bool (decide (p0[(Int.toNat v98)]! ≤ p0[(Int.toNat (v98 - 1))]!)) else undef, fun w177 hX178 => od_guard (c := (decide (v98 > 0)) = true) (val := .bool (decide (p0[(Int.toNat v98)]! ≤ p0[(Int.toNat (v98 - 1))]!))) (b := ((decide (v98 > 0)) == true)) (gv_some rfl rfl rfl) beq_iff_eq (fun hc181 => ?_), ?_⟩
      · have hS179 := hS116.ext hX178
        have hB180 := hB115.trans (Ext.stp hX178 hS116.base)
        have hq1 : v98 > 0 := (decide_eq_true_iff.mp hc181)
        exact is_ext (g_leq (a := p0[(Int.toNat v98)]!) (b := p0[(Int.toNat (v98 - 1))]!) (if_pos hc181) (if_pos hc181))
      refine ⟨.bool ((decide (v98 > 0)) && (decide (p0[(Int.toNat v98)]! ≤ p0[(Int.toNat (v98 - 1))]!))), fun w182 hX183 => od_plain rfl (by have hS184 := hS116.ext hX183; have hB185 := hB115.trans (Ext.stp hX183 hS116.base); exact is_ext (g_pick_and (b := (decide (v98 > 0))) (q := (decide (p0[(Int.toNat v98)]! ≤ p0[(Int.toNat (v98 - 1))]!))) rfl rfl)), ?_⟩
      intro w186 hX187
      have hB188 := hB115.trans (Ext.stp hX187 hS116.base)
      have hS189 := hS116.ext hX187
      refine hK112 _ _ ?_
      refine w_condI (p := ((v98 > 0) ∧ (p0[(Int.toNat v98)]! ≤ p0[(Int.toNat (v98 - 1))]!))) (b := ((decide (v98 > 0)) && (decide (p0[(Int.toNat v98)]! ≤ p0[(Int.toNat (v98 - 1))]!)))) rfl (i_and decide_eq_true_iff decide_eq_true_iff) (fun h190 => ?_) (fun h190 => ?_)
      · replace hm := hm.1 h190
        refine w_seq fun K191 hK191 => ?_
        refine w_region ?_
        refine wl_val (g_assign (v := .bool false) rfl) rfl ?_
        refine wl_nil ?_
        refine hK191 _ _ ?_
        refine w_ret ?_
        repeat first | with_reducible refine q_then ?_ | with_reducible refine q_block ?_
        exact ret1 rfl (by decide) ⟨_, hm, rfl, toExt hB188⟩
      · replace hm := hm.2 h190
        refine w_skip ?_
        refine hK110 _ _ ?_
        refine w_region ?_
        obtain ⟨hg192, hm⟩ := hm
        refine wl_val (g_add (a := v98) (b := 1) rfl rfl hg192) rfl ?_
        refine wl_val (g_move (v := .int .i64 (v98 + 1)) rfl) rfl ?_
        refine wl_nil ?_
        exact ⟨((v98 + 1)), hm.2, ⟨rfl, rfl, rfl, rfl, rfl, trivial⟩, ⟨hm.1, hB188, hS189⟩⟩
    · replace hm := hm.2 h109
      refine w_exit ?_
      exact ⟨(), ⟨rfl, rfl, rfl, trivial⟩, ⟨hm, hB104, hS105⟩⟩
  · rintro _ b_ w193 ⟨hm, hB194, hS195⟩
    show Wp _ _ _ _ (upds b_ [(0, .slice a0 n0 c0), (1, .int .i64 p1), (2, .int .i64 p2)]) w193
    refine w_seq fun K196 hK196 => ?_
    refine w_region ?_
    refine wl_val (g_move (v := .slice a0 n0 c0) rfl) rfl ?_
    refine wl_val (g_move (v := .int .i64 p1) rfl) rfl ?_
    refine wl_val (g_move (v := .int .i64 p2) rfl) rfl ?_
    refine wl_step rfl (g_call (vs := #[.slice a0 n0 c0, .int .i64 p1, .int .i64 p2]) CF84 (args3 rfl rfl rfl) (m_impl_allWithin_fn ((hp0.bel hB194).up hS195) p1 p2 hm)) ?_
    rintro _ w197 ⟨r200, hm, rfl, hE198⟩
    have hB201 := hB194.trans (Ext.stp hE198 hS195.base)
    have hS202 := hS195.ext hE198
    refine wl_val (g_assign (v := .bool r200) rfl) rfl ?_
    refine wl_nil ?_
    refine hK196 _ _ ?_
    refine w_ret ?_
    repeat first | with_reducible refine q_then ?_ | with_reducible refine q_block ?_
    exact ret1 rfl (by decide) ⟨_, hm, rfl, toExt hB201⟩

theorem m_impl_OrderOk_fn {w : World} {a0 : Option Addr} {n0 c0 : Nat} {p0 : List Int} {Q : Bool → Prop} (hp0 : Vw w.heap.size w a0 n0 c0 p0) (hm : m_impl_OrderOk p0 Q) :
    Fn Try.prog 78 #[.slice a0 n0 c0] w (fun v w' => ∃ (r0 : Bool), Q r0 ∧ v = .bool r0 ∧ Ext w w') := by
  unfold m_impl_OrderOk at hm
  have hB0 := Below.refl w.heap.size w
  have hS0 : Sep w w.heap.size [] := Sep.nil (Nat.le_refl _)
  refine fn_of_wp Try.func78 rfl (by kernel_rfl) (Nat.le_of_ble_eq_true rfl) ?_
  refine w_seq fun K1 hK1 => ?_
  refine w_region ?_
  refine wl_val (g_assign (v := .bool false) rfl) rfl ?_
  refine wl_nil ?_
  refine hK1 _ _ ?_
  refine w_seq fun K2 hK2 => ?_
  refine w_region ?_
  refine wl_val (g_move (v := .slice a0 n0 c0) rfl) rfl ?_
  refine wl_val (q_len SL39 rfl (Vw.len (hp0.bel hB0))) rfl ?_
  refine wl_step rfl (g_call (vs := #[.int .i64 (p0.length : Int), .int .i64 1, .int .i64 7]) CF54 (args3 rfl rfl rfl) (m_impl_within_fn (p0.length : Int) 1 7 hm)) ?_
  rintro _ w3 ⟨r6, hm, rfl, hE4⟩
  have hB7 := hB0.trans (Ext.stp hE4 hS0.base)
  have hS8 := hS0.ext hE4
  refine wl_val (g_move (v := .bool r6) rfl) rfl ?_
  by_cases hc9 : r6 = true
  · replace hm := hm.1 (Iff.rfl.mp hc9)
    refine wl_valT (g_move (v := .slice a0 n0 c0) rfl) (gv_T (gv_some rfl rfl rfl) hc9) ?_
    refine wl_stepT (gv_T (gv_some rfl rfl rfl) hc9) (g_call (vs := #[.slice a0 n0 c0]) CF83 (args1 rfl) (m_impl_sorted_fn ((hp0.bel hB7).up hS8) hm)) ?_
    rintro _ w10 ⟨r13, a14, n15, c16, hm, rfl, hE11, hN12⟩
    have hS18 := hS8.call1 hE11 hN12
    have hB19 := hB7.trans (Ext.stp hE11 hS8.base)
    refine wl_valT (g_move (v := .slice a0 n0 c0) rfl) (gv_T (gv_some rfl rfl rfl) hc9) ?_
    refine wl_valT (q_len SL39 rfl (Vw.len (hp0.bel hB19))) (gv_T (gv_some rfl rfl rfl) hc9) ?_
    obtain ⟨hg20, hm⟩ := hm
    refine wl_valT (g_sub (a := (p0.length : Int)) (b := 1) rfl rfl hg20) (gv_T (gv_some rfl rfl rfl) hc9) ?_
    refine wl_stepT (gv_T (gv_some rfl rfl rfl) hc9) (g_call (vs := #[.slice a14 n15 c16, .int .i64 0, .int .i64 ((p0.length : Int) - 1)]) CF82 (args3 rfl rfl rfl) (m_impl_isStrict_fn (oS.vw hS18.g0) 0 ((p0.length : Int) - 1) hm)) ?_
    rintro _ w21 ⟨r24, hm, rfl, hE22⟩
    have hB25 := hB19.trans (Ext.stp hE22 hS18.base)
    have hS26 := hS18.ext hE22
    refine wl_val (g_pickT (b := r6) rfl hc9 rfl) rfl ?_
    refine wl_val (g_assign (v := .bool r24) rfl) rfl ?_
    refine wl_nil ?_
    refine hK2 _ _ ?_
    refine w_ret ?_
    repeat first | with_reducible refine q_then ?_ | with_reducible refine q_block ?_
    exact ret1 rfl (by decide) ⟨_, hm, rfl, toExt hB25⟩
  · have hc9n := b_F hc9
    replace hm := hm.2 (i_neg Iff.rfl hc9n)
    refine wl_skipF (gv_F (gv_some rfl rfl rfl) hc9n) ?_
    refine wl_skipF (gv_F (gv_some rfl rfl rfl) hc9n) ?_
    refine wl_skipF (gv_F (gv_some rfl rfl rfl) hc9n) ?_
    refine wl_skipF (gv_F (gv_some rfl rfl rfl) hc9n) ?_
    refine wl_skipF (gv_F (gv_some rfl rfl rfl) hc9n) ?_
    refine wl_skipF (gv_F (gv_some rfl rfl rfl) hc9n) ?_
    refine wl_val (g_pickF (b := r6) rfl hc9n rfl) rfl ?_
    refine wl_val (g_assign (v := .bool false) rfl) rfl ?_
    refine wl_nil ?_
    refine hK2 _ _ ?_
    refine w_ret ?_
    repeat first | with_reducible refine q_then ?_ | with_reducible refine q_block ?_
    exact ret1 rfl (by decide) ⟨_, hm, rfl, toExt hB7⟩

theorem m_impl_copyOf_fn {w : World} {a0 : Option Addr} {n0 c0 : Nat} {p0 : List Int} {Q : (List Int) → Prop} (hp0 : Vw w.heap.size w a0 n0 c0 p0) (hm : m_impl_copyOf p0 Q) :
    Fn Try.prog 79 #[.slice a0 n0 c0] w (fun v w' => ∃ (r0 : List Int) (a0 : Option Addr) (n0 c0 : Nat), Q r0 ∧ v = .slice a0 n0 c0 ∧ Ext w w' ∧ Sep w' w.heap.size [oS 3 a0 n0 c0 r0]) := by
  unfold m_impl_copyOf at hm
  have hB0 := Below.refl w.heap.size w
  have hS0 : Sep w w.heap.size [] := Sep.nil (Nat.le_refl _)
  refine fn_of_wp Try.func79 rfl (by kernel_rfl) (Nat.le_of_ble_eq_true rfl) ?_
  refine w_seq fun K1 hK1 => ?_
  refine w_region ?_
  refine wl_val (g_assign (v := .slice none 0 0) rfl) rfl ?_
  refine wl_nil ?_
  refine hK1 _ _ ?_
  refine w_seq fun K2 hK2 => ?_
  refine w_region ?_
  refine wl_step rfl (q_lit0 (α := Int) rfl SL39 hS0) ?_
  rintro _ w3 ⟨a4, rfl, hS6, hE5⟩
  have hB8 := hB0.trans (Ext.stp hE5 hS0.base)
  refine wl_val (g_move (v := .slice a0 n0 c0) rfl) rfl ?_
  obtain ⟨hg14, hm⟩ := hm
  refine wl_step rfl (q_append SL39 rfl rfl hS6 (hp0.bel hB8) hg14 (by decide)) ?_
  rintro _ w9 ⟨a10, c11, rfl, hS13, hb12⟩
  have hB15 := hB8.trans hb12
  refine wl_val (g_assign (v := .slice a10 (0 + n0) c11) rfl) rfl ?_
  refine wl_nil ?_
  refine hK2 _ _ ?_
  refine w_ret ?_
  repeat first | with_reducible refine q_then ?_ | with_reducible refine q_block ?_
  exact ret1 rfl (by decide) ⟨_, _, _, _, hm, rfl, toExt hB15, hS13⟩

theorem m_impl_SortingSwaps_fn {w : World} {a0 : Option Addr} {n0 c0 : Nat} {p0 : List Int} {Q : (List Int) → Prop} (hp0 : Vw w.heap.size w a0 n0 c0 p0) (hm : m_impl_SortingSwaps p0 Q) :
    Fn Try.prog 70 #[.slice a0 n0 c0] w (fun v w' => ∃ (r0 : List Int) (a0 : Option Addr) (n0 c0 : Nat), Q r0 ∧ v = .slice a0 n0 c0 ∧ Ext w w' ∧ Sep w' w.heap.size [oS 3 a0 n0 c0 r0]) := by
  unfold m_impl_SortingSwaps at hm
  have hB0 := Below.refl w.heap.size w
  have hS0 : Sep w w.heap.size [] := Sep.nil (Nat.le_refl _)
  refine fn_of_wp Try.func70 rfl (by kernel_rfl) (Nat.le_of_ble_eq_true rfl) ?_
  refine w_seq fun K1 hK1 => ?_
  refine w_region ?_
  refine wl_val (g_assign (v := .slice none 0 0) rfl) rfl ?_
  refine wl_nil ?_
  refine hK1 _ _ ?_
  refine w_seq fun K2 hK2 => ?_
  refine w_seq fun K3 hK3 => ?_
  refine w_region ?_
  refine wl_val (g_move (v := .slice a0 n0 c0) rfl) rfl ?_
  refine wl_step rfl (g_call (vs := #[.slice a0 n0 c0]) CF78 (args1 rfl) (m_impl_OrderOk_fn ((hp0.bel hB0).up hS0) hm)) ?_
  rintro _ w4 ⟨r7, hm, rfl, hE5⟩
  have hB8 := hB0.trans (Ext.stp hE5 hS0.base)
  have hS9 := hS0.ext hE5
  refine wl_val (g_not (a := r7) rfl) rfl ?_
  refine wl_nil ?_
  refine hK3 _ _ ?_
  refine w_condI (p := ¬ (r7 = true)) (b := (!r7)) rfl (i_not Iff.rfl) (fun h10 => ?_) (fun h10 => ?_)
  · replace hm := hm.1 h10
    refine w_seq fun K11 hK11 => ?_
    refine w_region ?_
    refine wl_val (g_assign (v := .slice none 0 0) rfl) rfl ?_
    refine wl_nil ?_
    refine hK11 _ _ ?_
    refine w_ret ?_
    have hS12 := hS9.nilS (α := Int) (E := 3)
    repeat first | with_reducible refine q_then ?_ | with_reducible refine q_block ?_
    exact ret1 rfl (by decide) ⟨_, _, _, _, hm, rfl, toExt hB8, hS12⟩
  · replace hm := hm.2 h10
    refine w_skip ?_
    refine hK2 _ _ ?_
    refine w_seq fun K14 hK14 => ?_
    refine w_region ?_
    refine wl_val (g_move (v := .slice a0 n0 c0) rfl) rfl ?_
    refine wl_step rfl (g_call (vs := #[.slice a0 n0 c0]) CF79 (args1 rfl) (m_impl_copyOf_fn ((hp0.bel hB8).up hS9) hm)) ?_
    rintro _ w15 ⟨r18, a19, n20, c21, hm, rfl, hE16, hN17⟩
    have hS23 := hS9.call1 hE16 hN17
    have hB24 := hB8.trans (Ext.stp hE16 hS9.base)
    refine wl_step rfl (q_lit0 (α := Int) rfl SL39 hS23) ?_
    rintro _ w25 ⟨a26, rfl, hS28, hE27⟩
    have hB30 := hB24.trans (Ext.stp hE27 hS23.base)
    refine wl_val (g_assign (v := .slice a19 n20 c21) rfl) rfl ?_
    refine wl_val (g_assign (v := .slice a26 0 0) rfl) rfl ?_
    refine wl_nil ?_
    refine hK14 _ _ ?_
    refine w_cut (σ := List Int × Option Addr × Nat × Nat) (fun ⟨x644, a645, n646, c647⟩ => [(4, .slice a645 n646 c647)]) (fun ⟨x644, a645, n646, c647⟩ w' => m_impl_SortingSwaps_K0 Q x644 ∧ Below w.heap.size w w' ∧ Sep w' w.heap.size [oS 3 a645 n646 c647 (x644 : List Int)]) ?_ ?_
    · refine w_seq fun K649 hK649 => ?_
      refine w_region ?_
      refine wl_val (g_assign (v := .bool true) rfl) rfl ?_
      refine wl_nil ?_
      refine hK649 _ _ ?_
      refine w_block ?_
      have hS656 := hS28.f1
      obtain ⟨I657, μ658, h0659, hr660⟩ := hm
      refine w_for (σ := List Int × List Int × Option Addr × Nat × Nat × Bool) (fun ⟨x650, x651, a652, n653, c654, v655⟩ => [(3, .slice a19 n20 c21), (4, .slice a652 n653 c654), (5, .bool v655)]) (fun ⟨x650, x651, a652, n653, c654, v655⟩ w' => I657 x650 x651 v655 ∧ Below w.heap.size w w' ∧ Sep w' w.heap.size [oS 3 a19 n20 c21 (x650 : List Int), oS 3 a652 n653 c654 (x651 : List Int)]) (fun ⟨x650, x651, a652, n653, c654, v655⟩ => μ658 x650 x651 v655) (r18, [], a26, 0, 0, true) ⟨rfl, rfl, rfl, trivial⟩ ⟨h0659, hB30, hS656⟩ ?_
      rintro ⟨x650, x651, a652, n653, c654, v655⟩ b_ w661 ⟨hi_, hB662, hS663⟩
      show Wp _ _ _ _ (upds b_ [(3, .slice a19 n20 c21), (4, .slice a652 n653 c654), (5, .bool v655)]) w661
      have hm := hr660 x650 x651 v655 hi_
      refine w_seq fun K665 hK665 => ?_
      refine w_seq fun K666 hK666 => ?_
      refine w_region ?_
      refine wl_val (g_move (v := .bool v655) rfl) rfl ?_
      refine wl_nil ?_
      refine hK666 _ _ ?_
      refine w_condI (p := v655 = true) (b := v655) rfl Iff.rfl (fun h667 => ?_) (fun h667 => ?_)
      · replace hm := hm.1 h667
        refine w_skip ?_
        refine hK665 _ _ ?_
        refine w_block ?_
        refine w_seq fun K668 hK668 => ?_
        refine w_region ?_
        refine wl_val (g_assign (v := .bool false) rfl) rfl ?_
        refine wl_nil ?_
        refine hK668 _ _ ?_
        refine w_seq fun K669 hK669 => ?_
        refine w_region ?_
        refine wl_val (g_assign (v := .int .i64 0) rfl) rfl ?_
        refine wl_nil ?_
        refine hK669 _ _ ?_
        refine w_block ?_
        obtain ⟨I677, μ678, h0679, hr680⟩ := hm
        refine w_for (σ := List Int × List Int × Option Addr × Nat × Nat × Bool × Int) (fun ⟨x670, x671, a672, n673, c674, v675, v676⟩ => [(3, .slice a19 n20 c21), (4, .slice a672 n673 c674), (5, .bool v675), (6, .int .i64 v676)]) (fun ⟨x670, x671, a672, n673, c674, v675, v676⟩ w' => I677 x670 x671 v675 v676 ∧ Below w.heap.size w w' ∧ Sep w' w.heap.size [oS 3 a19 n20 c21 (x670 : List Int), oS 3 a672 n673 c674 (x671 : List Int)]) (fun ⟨x670, x671, a672, n673, c674, v675, v676⟩ => μ678 x670 x671 v675 v676) (x650, x651, a652, n653, c654, false, 0) ⟨rfl, rfl, rfl, rfl, trivial⟩ ⟨h0679, hB662, hS663⟩ ?_
        rintro ⟨x670, x671, a672, n673, c674, v675, v676⟩ b_ w681 ⟨hi_, hB682, hS683⟩
        show Wp _ _ _ _ (upds b_ [(3, .slice a19 n20 c21), (4, .slice a672 n673 c674), (5, .bool v675), (6, .int .i64 v676)]) w681
        have hm := hr680 x670 x671 v675 v676 hi_
        refine w_seq fun K685 hK685 => ?_
        refine w_seq fun K686 hK686 => ?_
        refine w_region ?_
        refine wl_val (g_move (v := .int .i64 v676) rfl) rfl ?_
        obtain ⟨hg687, hm⟩ := hm
        refine wl_val (g_add (a := v676) (b := 1) rfl rfl hg687) rfl ?_
        refine wl_val (g_move (v := .slice a19 n20 c21) rfl) rfl ?_
        refine wl_val (q_len SL39 rfl (Vw.len (oS.vw hS683.g0))) rfl ?_
        refine wl_val (g_lss (a := (v676 + 1)) (b := (x670.length : Int)) rfl rfl) rfl ?_
        refine wl_val (g_move (v := .bool (decide ((v676 + 1) < (x670.length : Int)))) rfl) rfl ?_
        refine wl_guard (c := (decide ((v676 + 1) < (x670.length : Int))) = true) (val := .bool v675) (b := ((decide ((v676 + 1) < (x670.length : Int))) == true)) (gv_some rfl rfl rfl) beq_iff_eq (fun hc688 => ?_) ?_
        · have hq3 : (v676 + 1) < (x670.length : Int) := (decide_eq_true_iff.mp hc688)
          exact g_move (v := .bool v675) rfl
        refine wl_guard (c := (decide ((v676 + 1) < (x670.length : Int))) = true) (val := .bool (!v675)) (b := ((decide ((v676 + 1) < (x670.length : Int))) == true)) (gv_some rfl rfl rfl) beq_iff_eq (fun hc689 => ?_) ?_
        · have hq3 : (v676 + 1) < (x670.length : Int) := (decide_eq_true_iff.mp hc689)
          exact g_not (a := v675) (if_pos hc689)
        refine wl_val (g_pick_and (b := (decide ((v676 + 1) < (x670.length : Int)))) (q := (!v675)) rfl rfl) rfl ?_
        refine wl_nil ?_
        refine hK686 _ _ ?_
        refine w_condI (p := (((v676 + 1) < (x670.length : Int)) ∧ (¬ (v675 = true)))) (b := ((decide ((v676 + 1) < (x670.length : Int))) && (!v675))) rfl (i_and decide_eq_true_iff (i_not Iff.rfl)) (fun h690 => ?_) (fun h690 => ?_)
        · replace hm := hm.1 h690
          refine w_skip ?_
          refine hK685 _ _ ?_
          refine w_seq fun K691 hK691 => ?_
          refine w_block ?_
          refine w_seq fun K692 hK692 => ?_
          refine w_draw (X := Ext) (Y := Ext) [] MIX (by decide +kernel) rfl Ext.refl (fun _ _ _ => Ext.trans) (fun _ _ _ => Chg.trans) (fun _ _ h => Ext.chg h _) (fun w693 hE694 => ?_)
          have hB695 := hB682.trans (Ext.stp hE694 hS683.base)
          have hS696 := hS683.ext hE694
          refine ⟨.slice a19 n20 c21, fun w697 hX698 => od_plain rfl (by have hS699 := hS696.ext hX698; have hB700 := hB695.trans (Ext.stp hX698 hS696.base); exact is_ext (g_move (v := .slice a19 n20 c21) rfl)), ?_⟩
          refine ⟨.int .i64 v676, fun w701 hX702 => od_plain rfl (by have hS703 := hS696.ext hX702; have hB704 := hB695.trans (Ext.stp hX702 hS696.base); exact is_ext (g_move (v := .int .i64 v676) rfl)), ?_⟩
          obtain ⟨hg709, hm⟩ := hm
          refine ⟨.pointer (some ((adr a19).add ((Int.toNat v676) * El.m Int))), fun w705 hX706 => od_plain rfl (by have hS707 := hS696.ext hX706; have hB708 := hB695.trans (Ext.stp hX706 hS696.base); exact is_ext (q_index (i := v676) SL39 rfl rfl (oS.vw hS707.g0) hg709)), ?_⟩
          refine ⟨.int .i64 (x670[(Int.toNat v676)]!), fun w710 hX711 => od_plain rfl (by have hS712 := hS696.ext hX711; have hB713 := hB695.trans (Ext.stp hX711 hS696.base); exact is_ext (q_load (i := v676) (v := .int .i64 (x670[(Int.toNat v676)]!)) ON3 (oS.vw hS712.g0) hg709 rfl rfl)), ?_⟩
          refine ⟨.slice a19 n20 c21, fun w714 hX715 => od_plain rfl (by have hS716 := hS696.ext hX715; have hB717 := hB695.trans (Ext.stp hX715 hS696.base); exact is_ext (g_move (v := .slice a19 n20 c21) rfl)), ?_⟩
          refine ⟨.int .i64 v676, fun w718 hX719 => od_plain rfl (by have hS720 := hS696.ext hX719; have hB721 := hB695.trans (Ext.stp hX719 hS696.base); exact is_ext (g_move (v := .int .i64 v676) rfl)), ?_⟩
          obtain ⟨hg726, hm⟩ := hm
          refine ⟨.int .i64 (v676 + 1), fun w722 hX723 => od_plain rfl (by have hS724 := hS696.ext hX723; have hB725 := hB695.trans (Ext.stp hX723 hS696.base); exact is_ext (g_add (a := v676) (b := 1) rfl rfl hg726)), ?_⟩
          obtain ⟨hg731, hm⟩ := hm
          refine ⟨.pointer (some ((adr a19).add ((Int.toNat (v676 + 1)) * El.m Int))), fun w727 hX728 => od_plain rfl (by have hS729 := hS696.ext hX728; have hB730 := hB695.trans (Ext.stp hX728 hS696.base); exact is_ext (q_index (i := (v676 + 1)) SL39 rfl rfl (oS.vw hS729.g0) hg731)), ?_⟩
          refine ⟨.int .i64 (x670[(Int.toNat (v676 + 1))]!), fun w732 hX733 => od_plain rfl (by have hS734 := hS696.ext hX733; have hB735 := hB695.trans (Ext.stp hX733 hS696.base); exact is_ext (q_load (i := (v676 + 1)) (v := .int .i64 (x670[(Int.toNat (v676 + 1))]!)) ON3 (oS.vw hS734.g0) hg731 rfl rfl)), ?_⟩
          refine ⟨.bool (decide (x670[(Int.toNat v676)]! > x670[(Int.toNat (v676 + 1))]!)), fun w736 hX737 => od_plain rfl (by have hS738 := hS696.ext hX737; have hB739 := hB695.trans (Ext.stp hX737 hS696.base); exact is_ext (g_gtr (a := x670[(Int.toNat v676)]!) (b := x670[(Int.toNat (v676 + 1))]!) rfl rfl)), ?_⟩
          intro w740 hX741
          have hB742 := hB695.trans (Ext.stp hX741 hS696.base)
          have hS743 := hS696.ext hX741
          refine hK692 _ _ ?_
          refine w_condI (p := x670[(Int.toNat v676)]! > x670[(Int.toNat (v676 + 1))]!) (b := (decide (x670[(Int.toNat v676)]! > x670[(Int.toNat (v676 + 1))]!))) rfl decide_eq_true_iff (fun h744 => ?_) (fun h744 => ?_)
          · replace hm := hm.1 h744
            refine w_seq fun K745 hK745 => ?_
            refine w_draw (X := Ext) (Y := (fun w_ w_' => Chg w_ w_' (blk a19))) [0, 0, 3, 3, 3, 0, 0, 0, 0, 0, 0, 0, 0, 0, 0, 4, 0, 1] MIX (by decide +kernel) rfl Ext.refl (fun _ _ _ => Ext.trans) (fun _ _ _ => Chg.trans) (fun _ _ h => Ext.chg h _) (fun w751 hE752 => ?_)
            have hB753 := hB742.trans (Ext.stp hE752 hS743.base)
            have hS754 := hS743.ext hE752
            refine ⟨.slice a19 n20 c21, fun w755 hX756 => od_plain rfl (by have hS757 := hS754.ext hX756; have hB758 := hB753.trans (Ext.stp hX756 hS754.base); exact is_ext (g_move (v := .slice a19 n20 c21) rfl)), ?_⟩
            refine ⟨.int .i64 v676, fun w759 hX760 => od_plain rfl (by have hS761 := hS754.ext hX760; have hB762 := hB753.trans (Ext.stp hX760 hS754.base); exact is_ext (g_move (v := .int .i64 v676) rfl)), ?_⟩
            refine ⟨.slice a19 n20 c21, fun w763 hX764 => od_plain rfl (by have hS765 := Sep.chgT hS754 hX764 (fun k hk => hk); have hB766 := hB753.trans (Sep.stp hS754 hX764 (fun k hk => hk)); exact is_ext (g_move (v := .slice a19 n20 c21) rfl)), ?_⟩
            refine ⟨.int .i64 v676, fun w767 hX768 => od_plain rfl (by have hS769 := Sep.chgT hS754 hX768 (fun k hk => hk); have hB770 := hB753.trans (Sep.stp hS754 hX768 (fun k hk => hk)); exact is_ext (g_move (v := .int .i64 v676) rfl)), ?_⟩
            obtain ⟨hg775, hm⟩ := hm
            refine ⟨.int .i64 (v676 + 1), fun w771 hX772 => od_plain rfl (by have hS773 := Sep.chgT hS754 hX772 (fun k hk => hk); have hB774 := hB753.trans (Sep.stp hS754 hX772 (fun k hk => hk)); exact is_ext (g_add (a := v676) (b := 1) rfl rfl hg775)), ?_⟩
            refine ⟨.slice a19 n20 c21, fun w776 hX777 => od_plain rfl (by have hS778 := hS754.ext hX777; have hB779 := hB753.trans (Ext.stp hX777 hS754.base); exact is_ext (g_move (v := .slice a19 n20 c21) rfl)), ?_⟩
            refine ⟨.int .i64 v676, fun w780 hX781 => od_plain rfl (by have hS782 := hS754.ext hX781; have hB783 := hB753.trans (Ext.stp hX781 hS754.base); exact is_ext (g_move (v := .int .i64 v676) rfl)), ?_⟩
            obtain ⟨hg788, hm⟩ := hm
            refine ⟨.int .i64 (v676 + 1), fun w784 hX785 => od_plain rfl (by have hS786 := hS754.ext hX785; have hB787 := hB753.trans (Ext.stp hX785 hS754.base); exact is_ext (g_add (a := v676) (b := 1) rfl rfl hg788)), ?_⟩
            obtain ⟨hg793, hm⟩ := hm
            refine ⟨.pointer (some ((adr a19).add ((Int.toNat (v676 + 1)) * El.m Int))), fun w789 hX790 => od_plain rfl (by have hS791 := hS754.ext hX790; have hB792 := hB753.trans (Ext.stp hX790 hS754.base); exact is_ext (q_index (i := (v676 + 1)) SL39 rfl rfl (oS.vw hS791.g0) hg793)), ?_⟩
            refine ⟨.int .i64 (x670[(Int.toNat (v676 + 1))]!), fun w794 hX795 => od_plain rfl (by have hS796 := hS754.ext hX795; have hB797 := hB753.trans (Ext.stp hX795 hS754.base); exact is_ext (q_load (i := (v676 + 1)) (v := .int .i64 (x670[(Int.toNat (v676 + 1))]!)) ON3 (oS.vw hS796.g0) hg793 rfl rfl)), ?_⟩
            refine ⟨.slice a19 n20 c21, fun w798 hX799 => od_plain rfl (by have hS800 := hS754.ext hX799; have hB801 := hB753.trans (Ext.stp hX799 hS754.base); exact is_ext (g_move (v := .slice a19 n20 c21) rfl)), ?_⟩
            refine ⟨.int .i64 v676, fun w802 hX803 => od_plain rfl (by have hS804 := hS754.ext hX803; have hB805 := hB753.trans (Ext.stp hX803 hS754.base); exact is_ext (g_move (v := .int .i64 v676) rfl)), ?_⟩
            obtain ⟨hg810, hm⟩ := hm
            refine ⟨.pointer (some ((adr a19).add ((Int.toNat v676) * El.m Int))), fun w806 hX807 => od_plain rfl (by have hS808 := hS754.ext hX807; have hB809 := hB753.trans (Ext.stp hX807 hS754.base); exact is_ext (q_index (i := v676) SL39 rfl rfl (oS.vw hS808.g0) hg810)), ?_⟩
            refine ⟨.int .i64 (x670[(Int.toNat v676)]!), fun w811 hX812 => od_plain rfl (by have hS813 := hS754.ext hX812; have hB814 := hB753.trans (Ext.stp hX812 hS754.base); exact is_ext (q_load (i := v676) (v := .int .i64 (x670[(Int.toNat v676)]!)) ON3 (oS.vw hS813.g0) hg810 rfl rfl)), ?_⟩
            obtain ⟨hg819, hm⟩ := hm
            refine ⟨.pointer (some ((adr a19).add ((Int.toNat v676) * El.m Int))), fun w815 hX816 => od_plain rfl (by have hS817 := hS754.ext hX816; have hB818 := hB753.trans (Ext.stp hX816 hS754.base); exact is_ext (q_index (i := v676) SL39 rfl rfl (oS.vw hS817.g0) hg819)), ?_⟩
            intro w820 hX821
            have hB822 := hB753.trans (Ext.stp hX821 hS754.base)
            have hS823 := hS754.ext hX821
            refine ⟨_, od_plain rfl (q_storeC (i := v676) (v := (x670[(Int.toNat (v676 + 1))]! : Int)) hS823 ON3.sz hg819 rfl rfl rfl), ?_⟩
            rintro _ w824 ⟨rfl, hS825, hb826, hC827⟩
            refine ⟨hC827, ?_⟩
            have hB828 := hB822.trans hb826
            obtain ⟨hg833, hm⟩ := hm
            refine ⟨.pointer (some ((adr a19).add ((Int.toNat (v676 + 1)) * El.m Int))), fun w829 hX830 => od_plain rfl (by have hS831 := hS825.ext hX830; have hB832 := hB828.trans (Ext.stp hX830 hS825.base); exact is_ext (q_index (i := (v676 + 1)) SL39 rfl rfl (oS.vw hS831.g0) hg833)), ?_⟩
            intro w834 hX835
            have hB836 := hB828.trans (Ext.stp hX835 hS825.base)
            have hS837 := hS825.ext hX835
            refine ⟨_, od_plain rfl (q_store (i := (v676 + 1)) (v := (x670[(Int.toNat v676)]! : Int)) hS837 ON3.sz hg833 rfl rfl rfl), ?_⟩
            rintro _ w838 ⟨rfl, hS839, hb840⟩
            have hB841 := hB836.trans hb840
            intro w842 hX843
            have hB844 := hB841.trans (Ext.stp hX843 hS839.base)
            have hS845 := hS839.ext hX843
            refine hK745 _ _ ?_
            refine w_seq fun K846 hK846 => ?_
            refine w_region ?_
            refine wl_val (g_move (v := .slice a672 n673 c674) rfl) rfl ?_
            refine wl_val (g_move (v := .int .i64 v676) rfl) rfl ?_
            refine wl_step rfl (q_lit1 (y := (v676 : Int)) SL39 rfl rfl (by decide) hS845) ?_
            rintro _ w847 ⟨a848, rfl, hS850, hE849⟩
            have hB852 := hB844.trans (Ext.stp hE849 hS845.base)
            have hS858 := hS850.f2
            obtain ⟨hg859, hm⟩ := hm
            refine wl_step rfl (q_append SL39 rfl rfl hS858 (oS.vw hS858.g1) hg859 (by decide)) ?_
            rintro _ w853 ⟨a854, c855, rfl, hS857, hb856⟩
            have hB860 := hB852.trans hb856
            refine wl_val (g_assign (v := .slice a854 (n673 + 1) c855) rfl) rfl ?_
            refine wl_nil ?_
            refine hK846 _ _ ?_
            refine w_region ?_
            refine wl_val (g_assign (v := .bool true) rfl) rfl ?_
            refine wl_nil ?_
            refine hK691 _ _ ?_
            refine w_region ?_
            refine wl_val (g_move (v := .int .i64 v676) rfl) rfl ?_
            obtain ⟨hg861, hm⟩ := hm
            refine wl_val (g_add (a := v676) (b := 1) rfl rfl hg861) rfl ?_
            refine wl_val (g_assign (v := .int .i64 (v676 + 1)) rfl) rfl ?_
            refine wl_nil ?_
            have hS862 := hS857.f1
            have hS863 := hS862.tail
            have hS864 := hS863.f1
            exact ⟨(((x670.set (Int.toNat v676) (x670[(Int.toNat (v676 + 1))]!)).set (Int.toNat (v676 + 1)) (x670[(Int.toNat v676)]!)), (x671 ++ ([v676])), a854, (n673 + 1), c855, true, (v676 + 1)), hm.2, ⟨rfl, rfl, rfl, rfl, trivial⟩, ⟨hm.1, hB860, hS864⟩⟩
          · replace hm := hm.2 h744
            refine w_skip ?_
            refine hK691 _ _ ?_
            refine w_region ?_
            refine wl_val (g_move (v := .int .i64 v676) rfl) rfl ?_
            obtain ⟨hg865, hm⟩ := hm
            refine wl_val (g_add (a := v676) (b := 1) rfl rfl hg865) rfl ?_
            refine wl_val (g_assign (v := .int .i64 (v676 + 1)) rfl) rfl ?_
            refine wl_nil ?_
            exact ⟨(x670, x671, a672, n673, c674, v675, (v676 + 1)), hm.2, ⟨rfl, rfl, rfl, rfl, trivial⟩, ⟨hm.1, hB742, hS743⟩⟩
        · replace hm := hm.2 h690
          refine w_exit ?_
          exact ⟨(x670, x671, a672, n673, c674, v675), hm.2, ⟨rfl, rfl, rfl, trivial⟩, ⟨hm.1, hB682, hS683⟩⟩
      · replace hm := hm.2 h667
        refine w_exit ?_
        have hS866 := hS663.tail
        exact ⟨(x651, a652, n653, c654), ⟨rfl, trivial⟩, ⟨hm, hB662, hS866⟩⟩
    · rintro ⟨x644, a645, n646, c647⟩ b_ w867 ⟨hm, hB868, hS869⟩
      show Wp _ _ _ _ (upds b_ [(4, .slice a645 n646 c647)]) w867
      refine w_seq fun K870 hK870 => ?_
      refine w_region ?_
      refine wl_val (g_move (v := .slice a645 n646 c647) rfl) rfl ?_
      refine wl_val (g_assign (v := .slice a645 n646 c647) rfl) rfl ?_
      refine wl_nil ?_
      refine hK870 _ _ ?_
      refine w_ret ?_
      repeat first | with_reducible refine q_then ?_ | with_reducible refine q_block ?_
      exact ret1 rfl (by decide) ⟨_, _, _, _, hm, rfl, toExt hB868, hS869⟩

theorem m_impl_BringHome_fn {w : World} {a1 : Option Addr} {n1 c1 : Nat} {p1 : List Cross} {Q : (List Cross) → Bool → Prop} (p0 : Int) (hp1 : Vw w.heap.size w a1 n1 c1 p1) (hm : m_impl_BringHome p0 p1 Q) :
    Fn Try.prog 46 #[.int .i64 p0, .slice a1 n1 c1] w (fun v w' => ∃ (r0 : List Cross) (a0 : Option Addr) (n0 c0 : Nat) (r1 : Bool), Q r0 r1 ∧ v = .tuple #[.slice a0 n0 c0, .bool r1] ∧ Ext w w' ∧ Sep w' w.heap.size [oS 56 a0 n0 c0 r0]) := by
  unfold m_impl_BringHome at hm
  have hB0 := Below.refl w.heap.size w
  have hS0 : Sep w w.heap.size [] := Sep.nil (Nat.le_refl _)
  refine fn_of_wp Try.func46 rfl (by kernel_rfl) (Nat.le_of_ble_eq_true rfl) ?_
  refine w_seq fun K1 hK1 => ?_
  refine w_region ?_
  refine wl_val (g_assign (v := .slice none 0 0) rfl) rfl ?_
  refine wl_val (g_assign (v := .bool false) rfl) rfl ?_
  refine wl_nil ?_
  refine hK1 _ _ ?_
  refine w_seq fun K2 hK2 => ?_
  refine w_seq fun K3 hK3 => ?_
  refine w_region ?_
  refine wl_val (g_move (v := .int .i64 p0) rfl) rfl ?_
  refine wl_val (g_move (v := .slice a1 n1 c1) rfl) rfl ?_
  refine wl_step rfl (g_call (vs := #[.int .i64 p0, .slice a1 n1 c1]) CF57 (args2 rfl rfl) (m_impl_CrossesOk_fn p0 ((hp1.bel hB0).up hS0) hm)) ?_
  rintro _ w4 ⟨r7, hm, rfl, hE5⟩
  have hB8 := hB0.trans (Ext.stp hE5 hS0.base)
  have hS9 := hS0.ext hE5
  refine wl_val (g_not (a := r7) rfl) rfl ?_
  refine wl_nil ?_
  refine hK3 _ _ ?_
  refine w_condI (p := ¬ (r7 = true)) (b := (!r7)) rfl (i_not Iff.rfl) (fun h10 => ?_) (fun h10 => ?_)
  · replace hm := hm.1 h10
    refine w_seq fun K11 hK11 => ?_
    refine w_region ?_
    refine wl_val (g_assign (v := .slice none 0 0) rfl) rfl ?_
    refine wl_val (g_assign (v := .bool false) rfl) rfl ?_
    refine wl_nil ?_
    refine hK11 _ _ ?_
    refine w_ret ?_
    have hS12 := hS9.nilS (α := Cross) (E := 56)
    repeat first | with_reducible refine q_then ?_ | with_reducible refine q_block ?_
    exact ret2 rfl (by decide) (by decide) ⟨_, _, _, _, _, hm, rfl, toExt hB8, hS12⟩
  · replace hm := hm.2 h10
    refine w_skip ?_
    refine hK2 _ _ ?_
    refine w_seq fun K14 hK14 => ?_
    refine w_region ?_
    refine wl_step rfl (q_lit0 (α := Cross) rfl SL24 hS9) ?_
    rintro _ w15 ⟨a16, rfl, hS18, hE17⟩
    have hB20 := hB8.trans (Ext.stp hE17 hS9.base)
    refine wl_val (g_assign (v := .slice a16 0 0) rfl) rfl ?_
    refine wl_nil ?_
    refine hK14 _ _ ?_
    refine w_cut (σ := List Cross × Option Addr × Nat × Nat) (fun ⟨x114, a115, n116, c117⟩ => [(6, .slice a115 n116 c117)]) (fun ⟨x114, a115, n116, c117⟩ w' => m_impl_BringHome_K0 Q x114 ∧ Below w.heap.size w w' ∧ Sep w' w.heap.size [oS 56 a115 n116 c117 (x114 : List Cross)]) ?_ ?_
    · refine w_seq fun K119 hK119 => ?_
      refine w_region ?_
      refine wl_val (g_move (v := .int .i64 p0) rfl) rfl ?_
      refine wl_val (g_move (v := .slice a1 n1 c1) rfl) rfl ?_
      refine wl_step rfl (g_call (vs := #[.int .i64 p0, .slice a1 n1 c1]) CF71 (args2 rfl rfl) (m_impl_OrderAfter_fn p0 ((hp1.bel hB20).up hS18) hm)) ?_
      rintro _ w120 ⟨r123, a124, n125, c126, hm, rfl, hE121, hN122⟩
      have hS128 := hS18.call1 hE121 hN122
      have hB129 := hB20.trans (Ext.stp hE121 hS18.base)
      refine wl_step rfl (g_call (vs := #[.slice a124 n125 c126]) CF70 (args1 rfl) (m_impl_SortingSwaps_fn (oS.vw hS128.g0) hm)) ?_
      rintro _ w130 ⟨r133, a134, n135, c136, hm, rfl, hE131, hN132⟩
      have hS138 := hS128.call1 hE131 hN132
      have hB139 := hB129.trans (Ext.stp hE131 hS128.base)
      refine wl_val (q_len SL39 rfl (Vw.len (oS.vw hS138.g0))) rfl ?_
      refine wl_val (g_move (v := .int .i64 0) rfl) rfl ?_
      refine wl_nil ?_
      refine hK119 _ _ ?_
      refine w_block ?_
      have hS145 := hS138.f1
      have hS146 := hS145.tail
      have hS147 := hS146.f1
      obtain ⟨I148, μ149, h0150, hr151⟩ := hm
      refine w_for (σ := List Cross × Option Addr × Nat × Nat × Int) (fun ⟨x140, a141, n142, c143, v144⟩ => [(6, .slice a141 n142 c143), (17, .slice a134 n135 c136), (18, .int .i64 (r133.length : Int)), (19, .int .i64 v144)]) (fun ⟨x140, a141, n142, c143, v144⟩ w' => I148 x140 v144 ∧ Below w.heap.size w w' ∧ Sep w' w.heap.size [oS 56 a141 n142 c143 (x140 : List Cross), oS 3 a134 n135 c136 (r133 : List Int)]) (fun ⟨x140, a141, n142, c143, v144⟩ => μ149 x140 v144) ([], a16, 0, 0, 0) ⟨rfl, rfl, rfl, rfl, trivial⟩ ⟨h0150, hB139, hS147⟩ ?_
      rintro ⟨x140, a141, n142, c143, v144⟩ b_ w152 ⟨hi_, hB153, hS154⟩
      show Wp _ _ _ _ (upds b_ [(6, .slice a141 n142 c143), (17, .slice a134 n135 c136), (18, .int .i64 (r133.length : Int)), (19, .int .i64 v144)]) w152
      have hm := hr151 x140 v144 hi_
      refine w_seq fun K156 hK156 => ?_
      refine w_region ?_
      refine wl_val (g_lss (a := v144) (b := (r133.length : Int)) rfl rfl) rfl ?_
      refine wl_nil ?_
      refine hK156 _ _ ?_
      refine w_seq fun K157 hK157 => ?_
      refine w_condI (p := v144 < (r133.length : Int)) (b := (decide (v144 < (r133.length : Int)))) rfl decide_eq_true_iff (fun h158 => ?_) (fun h158 => ?_)
      · replace hm := hm.1 h158
        refine w_skip ?_
        refine hK157 _ _ ?_
        refine w_seq fun K159 hK159 => ?_
        refine w_block ?_
        refine w_seq fun K160 hK160 => ?_
        refine w_region ?_
        obtain ⟨hg161, hm⟩ := hm
        refine wl_val (q_index (i := v144) SL39 rfl rfl (oS.vw hS154.g1) hg161) rfl ?_
        refine wl_val (q_load (i := v144) (v := .int .i64 (r133[(Int.toNat v144)]!)) ON3 (oS.vw hS154.g1) hg161 rfl rfl) rfl ?_
        refine wl_val (g_assign (v := .int .i64 (r133[(Int.toNat v144)]!)) rfl) rfl ?_
        refine wl_nil ?_
        refine hK160 _ _ ?_
        refine w_region ?_
        refine wl_val (g_move (v := .slice a141 n142 c143) rfl) rfl ?_
        refine wl_val (g_move (v := .int .i64 (r133[(Int.toNat v144)]!)) rfl) rfl ?_
        refine wl_val (g_build (v := .agg #[.int .i64 (r133[(Int.toNat v144)]!), .bool true]) (parts2 rfl rfl) (BD56_01 (r133[(Int.toNat v144)]!) true)) rfl ?_
        refine wl_step rfl (q_lit1 (y := ((r133[(Int.toNat v144)]!, true) : Cross)) SL24 rfl rfl (by decide) hS154) ?_
        rintro _ w162 ⟨a163, rfl, hS165, hE164⟩
        have hB167 := hB153.trans (Ext.stp hE164 hS154.base)
        have hS173 := hS165.f1
        obtain ⟨hg174, hm⟩ := hm
        refine wl_step rfl (q_append SL24 rfl rfl hS173 (oS.vw hS173.g1) hg174 (by decide)) ?_
        rintro _ w168 ⟨a169, c170, rfl, hS172, hb171⟩
        have hB175 := hB167.trans hb171
        refine wl_val (g_assign (v := .slice a169 (n142 + 1) c170) rfl) rfl ?_
        refine wl_nil ?_
        refine hK159 _ _ ?_
        refine w_region ?_
        obtain ⟨hg176, hm⟩ := hm
        refine wl_val (g_add (a := v144) (b := 1) rfl rfl hg176) rfl ?_
        refine wl_val (g_move (v := .int .i64 (v144 + 1)) rfl) rfl ?_
        refine wl_nil ?_
        have hS177 := hS172.f1
        have hS178 := hS177.tail
        exact ⟨((x140 ++ ([(r133[(Int.toNat v144)]!, true)])), a169, (n142 + 1), c170, (v144 + 1)), hm.2, ⟨rfl, rfl, rfl, rfl, trivial⟩, ⟨hm.1, hB175, hS178⟩⟩
      · replace hm := hm.2 h158
        refine w_exit ?_
        have hS179 := hS154.f1
        have hS180 := hS179.tail
        exact ⟨(x140, a141, n142, c143), ⟨rfl, trivial⟩, ⟨hm, hB153, hS180⟩⟩
    · rintro ⟨x114, a115, n116, c117⟩ b_ w181 ⟨hm, hB182, hS183⟩
      show Wp _ _ _ _ (upds b_ [(6, .slice a115 n116 c117)]) w181
      refine w_seq fun K184 hK184 => ?_
      refine w_region ?_
      refine wl_val (g_move (v := .slice a115 n116 c117) rfl) rfl ?_
      refine wl_val (g_assign (v := .slice a115 n116 c117) rfl) rfl ?_
      refine wl_val (g_assign (v := .bool true) rfl) rfl ?_
      refine wl_nil ?_
      refine hK184 _ _ ?_
      refine w_ret ?_
      repeat first | with_reducible refine q_then ?_ | with_reducible refine q_block ?_
      exact ret2 rfl (by decide) (by decide) ⟨_, _, _, _, _, hm, rfl, toExt hB182, hS183⟩

theorem m_laws_heldCrossS_fn {w : World} {a0 : Option Addr} {n0 c0 : Nat} {p0 : List Cross} {Q : Int → Prop} (hp0 : Vw w.heap.size w a0 n0 c0 p0) (p1 : Int) (hm : m_laws_heldCrossS p0 p1 Q) :
    Fn Try.prog 20 #[.slice a0 n0 c0, .int .i64 p1] w (fun v w' => ∃ (r0 : Int), Q r0 ∧ v = .int .i64 r0 ∧ Ext w w') := by
  unfold m_laws_heldCrossS at hm
  have hB0 := Below.refl w.heap.size w
  have hS0 : Sep w w.heap.size [] := Sep.nil (Nat.le_refl _)
  refine fn_of_wp Try.func20 rfl (by kernel_rfl) (Nat.le_of_ble_eq_true rfl) ?_
  refine w_seq fun K1 hK1 => ?_
  refine w_region ?_
  refine wl_val (g_assign (v := .int .i64 0) rfl) rfl ?_
  refine wl_nil ?_
  refine hK1 _ _ ?_
  refine w_cut (σ := Int) (fun v58 => [(1, .int .i64 v58)]) (fun v58 w' => m_laws_heldCrossS_K0 Q v58 ∧ Below w.heap.size w w' ∧ Sep w' w.heap.size []) ?_ ?_
  · refine w_seq fun K60 hK60 => ?_
    refine w_region ?_
    refine wl_val (g_assign (v := .int .i64 0) rfl) rfl ?_
    refine wl_nil ?_
    refine hK60 _ _ ?_
    refine w_block ?_
    obtain ⟨I63, μ64, h065, hr66⟩ := hm
    refine w_for (σ := Int × Int) (fun ⟨v61, v62⟩ => [(0, .slice a0 n0 c0), (1, .int .i64 v61), (5, .int .i64 v62)]) (fun ⟨v61, v62⟩ w' => I63 v61 v62 ∧ Below w.heap.size w w' ∧ Sep w' w.heap.size []) (fun ⟨v61, v62⟩ => μ64 v61 v62) (p1, 0) ⟨rfl, rfl, rfl, trivial⟩ ⟨h065, hB0, hS0⟩ ?_
    rintro ⟨v61, v62⟩ b_ w67 ⟨hi_, hB68, hS69⟩
    show Wp _ _ _ _ (upds b_ [(0, .slice a0 n0 c0), (1, .int .i64 v61), (5, .int .i64 v62)]) w67
    have hm := hr66 v61 v62 hi_
    refine w_seq fun K71 hK71 => ?_
    refine w_seq fun K72 hK72 => ?_
    refine w_region ?_
    refine wl_val (g_move (v := .int .i64 v62) rfl) rfl ?_
    refine wl_val (g_move (v := .slice a0 n0 c0) rfl) rfl ?_
    refine wl_val (q_len SL24 rfl (Vw.len (hp0.bel hB68))) rfl ?_
    refine wl_val (g_lss (a := v62) (b := (p0.length : Int)) rfl rfl) rfl ?_
    refine wl_nil ?_
    refine hK72 _ _ ?_
    refine w_condI (p := v62 < (p0.length : Int)) (b := (decide (v62 < (p0.length : Int)))) rfl decide_eq_true_iff (fun h73 => ?_) (fun h73 => ?_)
    · replace hm := hm.1 h73
      refine w_skip ?_
      refine hK71 _ _ ?_
      refine w_seq fun K74 hK74 => ?_
      refine w_block ?_
      refine w_seq fun K75 hK75 => ?_
      refine w_seq fun K76 hK76 => ?_
      refine w_region ?_
      refine wl_val (g_move (v := .slice a0 n0 c0) rfl) rfl ?_
      refine wl_val (g_move (v := .int .i64 v62) rfl) rfl ?_
      obtain ⟨hg77, hm⟩ := hm
      refine wl_val (q_index (i := v62) SL24 rfl rfl (hp0.bel hB68) hg77) rfl ?_
      refine wl_val (g_fieldAddr (q := (adr a0).add ((Int.toNat v62) * El.m Cross)) FL56_0 ON3 rfl) rfl ?_
      refine wl_val (q_loadF (i := v62) (j := 0) (v := .int .i64 (p0[(Int.toNat v62)]!.1)) ON3 (hp0.bel hB68) hg77 rfl rfl) rfl ?_
      refine wl_val (g_move (v := .int .i64 v61) rfl) rfl ?_
      refine wl_val (g_neq (a := p0[(Int.toNat v62)]!.1) (b := v61) rfl rfl) rfl ?_
      refine wl_nil ?_
      refine hK76 _ _ ?_
      refine w_condI (p := p0[(Int.toNat v62)]!.1 ≠ v61) (b := (decide (p0[(Int.toNat v62)]!.1 ≠ v61))) rfl decide_eq_true_iff (fun h78 => ?_) (fun h78 => ?_)
      · replace hm := hm.1 h78
        refine w_seq fun K79 hK79 => ?_
        refine w_region ?_
        refine wl_val (g_assign (v := .int .i64 (-1)) rfl) rfl ?_
        refine wl_nil ?_
        refine hK79 _ _ ?_
        refine w_ret ?_
        repeat first | with_reducible refine q_then ?_ | with_reducible refine q_block ?_
        exact ret1 rfl (by decide) ⟨_, hm, rfl, toExt hB68⟩
      · replace hm := hm.2 h78
        refine w_skip ?_
        refine hK75 _ _ ?_
        refine w_seq fun K80 hK80 => ?_
        refine w_region ?_
        refine wl_val (g_move (v := .int .i64 v61) rfl) rfl ?_
        obtain ⟨hg81, hm⟩ := hm
        refine wl_val (g_add (a := v61) (b := 1) rfl rfl hg81) rfl ?_
        refine wl_val (g_assign (v := .int .i64 (v61 + 1)) rfl) rfl ?_
        refine wl_nil ?_
        refine hK80 _ _ ?_
        refine w_seq fun K82 hK82 => ?_
        refine w_seq fun K83 hK83 => ?_
        refine w_region ?_
        refine wl_val (g_move (v := .slice a0 n0 c0) rfl) rfl ?_
        refine wl_val (g_move (v := .int .i64 v62) rfl) rfl ?_
        obtain ⟨hg84, hm⟩ := hm
        refine wl_val (q_index (i := v62) SL24 rfl rfl (hp0.bel hB68) hg84) rfl ?_
        refine wl_val (g_fieldAddr (q := (adr a0).add ((Int.toNat v62) * El.m Cross)) FL56_1 ON4 rfl) rfl ?_
        refine wl_val (q_loadF (i := v62) (j := 1) (v := .bool (p0[(Int.toNat v62)]!.2)) ON4 (hp0.bel hB68) hg84 rfl rfl) rfl ?_
        refine wl_val (g_move (v := .int .i64 (v61 + 1)) rfl) rfl ?_
        refine wl_val (g_rem (a := (v61 + 1)) (b := 3) rfl rfl (by decide)) rfl ?_
        refine wl_val (g_eql (a := (Int.tmod (v61 + 1) 3)) (b := 0) rfl rfl) rfl ?_
        refine wl_val (g_neq_b (a := (p0[(Int.toNat v62)]!.2)) (b := (decide ((Int.tmod (v61 + 1) 3) = 0))) UB rfl rfl) rfl ?_
        refine wl_nil ?_
        refine hK83 _ _ ?_
        refine w_condI (p := (p0[(Int.toNat v62)]!.2) ≠ (decide ((Int.tmod (v61 + 1) 3) = 0))) (b := (decide ((p0[(Int.toNat v62)]!.2) ≠ (decide ((Int.tmod (v61 + 1) 3) = 0))))) rfl decide_eq_true_iff (fun h85 => ?_) (fun h85 => ?_)
        · replace hm := hm.1 h85
          refine w_seq fun K86 hK86 => ?_
          refine w_region ?_
          refine wl_val (g_assign (v := .int .i64 (-1)) rfl) rfl ?_
          refine wl_nil ?_
          refine hK86 _ _ ?_
          refine w_ret ?_
          repeat first | with_reducible refine q_then ?_ | with_reducible refine q_block ?_
          exact ret1 rfl (by decide) ⟨_, hm, rfl, toExt hB68⟩
        · replace hm := hm.2 h85
          refine w_skip ?_
          refine hK82 _ _ ?_
          refine w_region ?_
          refine wl_val (g_move (v := .int .i64 (v61 + 1)) rfl) rfl ?_
          obtain ⟨hg87, hm⟩ := hm
          refine wl_val (g_add (a := (v61 + 1)) (b := 1) rfl rfl hg87) rfl ?_
          refine wl_val (g_assign (v := .int .i64 ((v61 + 1) + 1)) rfl) rfl ?_
          refine wl_nil ?_
          refine hK74 _ _ ?_
          refine w_region ?_
          refine wl_val (g_move (v := .int .i64 v62) rfl) rfl ?_
          obtain ⟨hg88, hm⟩ := hm
          refine wl_val (g_add (a := v62) (b := 1) rfl rfl hg88) rfl ?_
          refine wl_val (g_assign (v := .int .i64 (v62 + 1)) rfl) rfl ?_
          refine wl_nil ?_
          exact ⟨(((v61 + 1) + 1), (v62 + 1)), hm.2, ⟨rfl, rfl, rfl, trivial⟩, ⟨hm.1, hB68, hS69⟩⟩
    · replace hm := hm.2 h73
      refine w_exit ?_
      exact ⟨(v61), ⟨rfl, trivial⟩, ⟨hm, hB68, hS69⟩⟩
  · rintro v58 b_ w89 ⟨hm, hB90, hS91⟩
    show Wp _ _ _ _ (upds b_ [(1, .int .i64 v58)]) w89
    refine w_seq fun K92 hK92 => ?_
    refine w_region ?_
    refine wl_val (g_move (v := .int .i64 v58) rfl) rfl ?_
    refine wl_val (g_assign (v := .int .i64 v58) rfl) rfl ?_
    refine wl_nil ?_
    refine hK92 _ _ ?_
    refine w_ret ?_
    repeat first | with_reducible refine q_then ?_ | with_reducible refine q_block ?_
    exact ret1 rfl (by decide) ⟨_, hm, rfl, toExt hB90⟩

theorem m_laws_FnExactBringHome_fn {w : World} {a1 : Option Addr} {n1 c1 : Nat} {p1 : List Cross} {Q : Bool → Prop} (p0 : Int) (hp1 : Vw w.heap.size w a1 n1 c1 p1) (hm : m_laws_FnExactBringHome p0 p1 Q) :
    Fn Try.prog 11 #[.int .i64 p0, .slice a1 n1 c1] w (fun v w' => ∃ (r0 : Bool), Q r0 ∧ v = .bool r0 ∧ Ext w w') := by
  unfold m_laws_FnExactBringHome at hm
  have hB0 := Below.refl w.heap.size w
  have hS0 : Sep w w.heap.size [] := Sep.nil (Nat.le_refl _)
  refine fn_of_wp Try.func11 rfl (by kernel_rfl) (Nat.le_of_ble_eq_true rfl) ?_
  refine w_seq fun K1 hK1 => ?_
  refine w_region ?_
  refine wl_val (g_assign (v := .bool false) rfl) rfl ?_
  refine wl_nil ?_
  refine hK1 _ _ ?_
  refine w_seq fun K2 hK2 => ?_
  refine w_region ?_
  refine wl_val (g_assign (v := .int .i64 1048576) rfl) rfl ?_
  refine wl_nil ?_
  refine hK2 _ _ ?_
  refine w_seq fun K3 hK3 => ?_
  refine w_region ?_
  refine wl_val (g_move (v := .slice a1 n1 c1) rfl) rfl ?_
  refine wl_val (g_move (v := .int .i64 1048576) rfl) rfl ?_
  refine wl_step rfl (g_call (vs := #[.slice a1 n1 c1, .int .i64 1048576]) CF14 (args2 rfl rfl) (m_laws_szCrossS_fn ((hp1.bel hB0).up hS0) 1048576 hm)) ?_
  rintro _ w4 ⟨r7, hm, rfl, hE5⟩
  have hB8 := hB0.trans (Ext.stp hE5 hS0.base)
  have hS9 := hS0.ext hE5
  refine wl_val (g_assign (v := .int .i64 r7) rfl) rfl ?_
  refine wl_nil ?_
  refine hK3 _ _ ?_
  refine w_seq fun K10 hK10 => ?_
  refine w_seq fun K11 hK11 => ?_
  refine w_region ?_
  refine wl_val (g_move (v := .int .i64 r7) rfl) rfl ?_
  refine wl_val (g_lss (a := r7) (b := 0) rfl rfl) rfl ?_
  refine wl_nil ?_
  refine hK11 _ _ ?_
  refine w_condI (p := r7 < 0) (b := (decide (r7 < 0))) rfl decide_eq_true_iff (fun h12 => ?_) (fun h12 => ?_)
  · replace hm := hm.1 h12
    refine w_seq fun K13 hK13 => ?_
    refine w_region ?_
    refine wl_val (g_assign (v := .bool true) rfl) rfl ?_
    refine wl_nil ?_
    refine hK13 _ _ ?_
    refine w_ret ?_
    repeat first | with_reducible refine q_then ?_ | with_reducible refine q_block ?_
    exact ret1 rfl (by decide) ⟨_, hm, rfl, toExt hB8⟩
  · replace hm := hm.2 h12
    refine w_skip ?_
    refine hK10 _ _ ?_
    refine w_seq fun K14 hK14 => ?_
    refine w_region ?_
    refine wl_val (g_move (v := .int .i64 p0) rfl) rfl ?_
    refine wl_val (g_move (v := .slice a1 n1 c1) rfl) rfl ?_
    refine wl_step rfl (g_call (vs := #[.slice a1 n1 c1]) CF16 (args1 rfl) (m_laws_toCrossS_fn ((hp1.bel hB8).up hS9) hm)) ?_
    rintro _ w15 ⟨r18, a19, n20, c21, hm, rfl, hE16, hN17⟩
    have hS23 := hS9.call1 hE16 hN17
    have hB24 := hB8.trans (Ext.stp hE16 hS9.base)
    refine wl_step rfl (g_call (vs := #[.int .i64 p0, .slice a19 n20 c21]) CF45 (args2 rfl rfl) (m_spec_BringHome_fn p0 (oS.vw hS23.g0) hm)) ?_
    rintro _ w25 ⟨r28, a29, n30, c31, r33, hm, rfl, hE26, hN27⟩
    have hS34 := hS23.call1 hE26 hN27
    have hB35 := hB24.trans (Ext.stp hE26 hS23.base)
    refine wl_val (g_move (v := .tuple #[.slice a29 n30 c31, .bool r33]) rfl) rfl ?_
    refine wl_val (g_extract (vs := #[.slice a29 n30 c31, .bool r33]) rfl rfl) rfl ?_
    refine wl_val (g_extract (vs := #[.slice a29 n30 c31, .bool r33]) rfl rfl) rfl ?_
    refine wl_val (g_assign (v := .slice a29 n30 c31) rfl) rfl ?_
    refine wl_val (g_assign (v := .bool r33) rfl) rfl ?_
    refine wl_nil ?_
    refine hK14 _ _ ?_
    refine w_seq fun K36 hK36 => ?_
    refine w_region ?_
    refine wl_val (g_move (v := .slice a1 n1 c1) rfl) rfl ?_
    refine wl_step rfl (g_call (vs := #[.slice a1 n1 c1]) CF16 (args1 rfl) (m_laws_toCrossS_fn ((hp1.bel hB35).up hS34) hm)) ?_
    rintro _ w37 ⟨r40, a41, n42, c43, hm, rfl, hE38, hN39⟩
    have hS45 := hS34.call1 hE38 hN39
    have hB46 := hB35.trans (Ext.stp hE38 hS34.base)
    refine wl_val (g_assign (v := .slice a41 n42 c43) rfl) rfl ?_
    refine wl_nil ?_
    refine hK36 _ _ ?_
    refine w_seq fun K47 hK47 => ?_
    refine w_region ?_
    refine wl_val (g_move (v := .int .i64 p0) rfl) rfl ?_
    refine wl_val (g_move (v := .slice a41 n42 c43) rfl) rfl ?_
    refine wl_step rfl (g_call (vs := #[.int .i64 p0, .slice a41 n42 c43]) CF46 (args2 rfl rfl) (m_impl_BringHome_fn p0 (oS.vw hS45.g0) hm)) ?_
    rintro _ w48 ⟨r51, a52, n53, c54, r56, hm, rfl, hE49, hN50⟩
    have hS57 := hS45.call1 hE49 hN50
    have hB58 := hB46.trans (Ext.stp hE49 hS45.base)
    refine wl_val (g_move (v := .tuple #[.slice a52 n53 c54, .bool r56]) rfl) rfl ?_
    refine wl_val (g_extract (vs := #[.slice a52 n53 c54, .bool r56]) rfl rfl) rfl ?_
    refine wl_val (g_extract (vs := #[.slice a52 n53 c54, .bool r56]) rfl rfl) rfl ?_
    refine wl_val (g_assign (v := .slice a52 n53 c54) rfl) rfl ?_
    refine wl_val (g_assign (v := .bool r56) rfl) rfl ?_
    refine wl_nil ?_
    refine hK47 _ _ ?_
    refine w_seq fun K59 hK59 => ?_
    refine w_seq fun K60 hK60 => ?_
    refine w_region ?_
    refine wl_val (g_move (v := .slice a52 n53 c54) rfl) rfl ?_
    refine wl_val (g_move (v := .slice a29 n30 c31) rfl) rfl ?_
    refine wl_step rfl (g_call (vs := #[.slice a52 n53 c54, .slice a29 n30 c31]) CF18 (args2 rfl rfl) (m_laws_eqCrossS_fn (oS.vw hS57.g0) (oS.vw hS57.g2) hm)) ?_
    rintro _ w61 ⟨r64, hm, rfl, hE62⟩
    have hB65 := hB58.trans (Ext.stp hE62 hS57.base)
    have hS66 := hS57.ext hE62
    refine wl_val (g_not (a := r64) rfl) rfl ?_
    refine wl_val (g_move (v := .bool (!r64)) rfl) rfl ?_
    refine wl_guard (c := (!r64) = false) (val := .bool r56) (b := ((!r64) == false)) (gv_some rfl rfl rfl) beq_iff_eq (fun hc67 => ?_) ?_
    · have hq0 : ¬ (¬ (r64 = true)) := (i_neg (i_not Iff.rfl) hc67)
      exact g_move (v := .bool r56) rfl
    refine wl_guard (c := (!r64) = false) (val := .bool r33) (b := ((!r64) == false)) (gv_some rfl rfl rfl) beq_iff_eq (fun hc68 => ?_) ?_
    · have hq0 : ¬ (¬ (r64 = true)) := (i_neg (i_not Iff.rfl) hc68)
      exact g_move (v := .bool r33) rfl
    refine wl_guard (c := (!r64) = false) (val := .bool (decide ((r56) ≠ (r33)))) (b := ((!r64) == false)) (gv_some rfl rfl rfl) beq_iff_eq (fun hc69 => ?_) ?_
    · have hq0 : ¬ (¬ (r64 = true)) := (i_neg (i_not Iff.rfl) hc69)
      exact g_neq_b (a := r56) (b := r33) UB (if_pos hc69) (if_pos hc69)
    refine wl_val (g_pick_or (b := (!r64)) (q := (decide ((r56) ≠ (r33)))) rfl rfl) rfl ?_
    refine wl_nil ?_
    refine hK60 _ _ ?_
    refine w_condI (p := ((¬ (r64 = true)) ∨ ((r56) ≠ (r33)))) (b := ((!r64) || (decide ((r56) ≠ (r33))))) rfl (i_or (i_not Iff.rfl) decide_eq_true_iff) (fun h70 => ?_) (fun h70 => ?_)
    · replace hm := hm.1 h70
      refine w_seq fun K71 hK71 => ?_
      refine w_region ?_
      refine wl_val (g_assign (v := .bool false) rfl) rfl ?_
      refine wl_nil ?_
      refine hK71 _ _ ?_
      refine w_ret ?_
      repeat first | with_reducible refine q_then ?_ | with_reducible refine q_block ?_
      exact ret1 rfl (by decide) ⟨_, hm, rfl, toExt hB65⟩
    · replace hm := hm.2 h70
      refine w_skip ?_
      refine hK59 _ _ ?_
      refine w_seq fun K72 hK72 => ?_
      refine w_seq fun K73 hK73 => ?_
      refine w_region ?_
      refine wl_val (g_move (v := .slice a41 n42 c43) rfl) rfl ?_
      refine wl_val (g_move (v := .slice a1 n1 c1) rfl) rfl ?_
      refine wl_step rfl (g_call (vs := #[.slice a1 n1 c1]) CF16 (args1 rfl) (m_laws_toCrossS_fn ((hp1.bel hB65).up hS66) hm)) ?_
      rintro _ w74 ⟨r77, a78, n79, c80, hm, rfl, hE75, hN76⟩
      have hS82 := hS66.call1 hE75 hN76
      have hB83 := hB65.trans (Ext.stp hE75 hS66.base)
      refine wl_step rfl (g_call (vs := #[.slice a41 n42 c43, .slice a78 n79 c80]) CF18 (args2 rfl rfl) (m_laws_eqCrossS_fn (oS.vw hS82.g2) (oS.vw hS82.g0) hm)) ?_
      rintro _ w84 ⟨r87, hm, rfl, hE85⟩
      have hB88 := hB83.trans (Ext.stp hE85 hS82.base)
      have hS89 := hS82.ext hE85
      refine wl_val (g_not (a := r87) rfl) rfl ?_
      refine wl_nil ?_
      refine hK73 _ _ ?_
      refine w_condI (p := ¬ (r87 = true)) (b := (!r87)) rfl (i_not Iff.rfl) (fun h90 => ?_) (fun h90 => ?_)
      · replace hm := hm.1 h90
        refine w_seq fun K91 hK91 => ?_
        refine w_region ?_
        refine wl_val (g_assign (v := .bool false) rfl) rfl ?_
        refine wl_nil ?_
        refine hK91 _ _ ?_
        refine w_ret ?_
        repeat first | with_reducible refine q_then ?_ | with_reducible refine q_block ?_
        exact ret1 rfl (by decide) ⟨_, hm, rfl, toExt hB88⟩
      · replace hm := hm.2 h90
        refine w_skip ?_
        refine hK72 _ _ ?_
        refine w_seq fun K92 hK92 => ?_
        refine w_region ?_
        refine wl_val (g_assign (v := .int .i64 1) rfl) rfl ?_
        refine wl_nil ?_
        refine hK92 _ _ ?_
        refine w_seq fun K93 hK93 => ?_
        refine w_region ?_
        refine wl_val (g_move (v := .slice a41 n42 c43) rfl) rfl ?_
        refine wl_val (g_move (v := .int .i64 1) rfl) rfl ?_
        have hS94 := hS89.f2
        refine wl_step rfl (g_call (vs := #[.slice a41 n42 c43, .int .i64 1]) CF19 (args2 rfl rfl) (m_laws_markCrossS_fn hS94 1 hm)) ?_
        rintro _ w95 ⟨r98, x99, hm, rfl, hb96, hS97⟩
        have hB100 := hB88.trans hb96
        refine wl_val (g_assign (v := .int .i64 r98) rfl) rfl ?_
        refine wl_nil ?_
        refine hK93 _ _ ?_
        refine w_seq fun K101 hK101 => ?_
        refine w_seq fun K102 hK102 => ?_
        refine w_region ?_
        refine wl_val (g_move (v := .int .i64 r98) rfl) rfl ?_
        refine wl_val (g_lss (a := r98) (b := 0) rfl rfl) rfl ?_
        refine wl_val (g_move (v := .bool (decide (r98 < 0))) rfl) rfl ?_
        refine wl_guard (c := (decide (r98 < 0)) = false) (val := .slice a52 n53 c54) (b := ((decide (r98 < 0)) == false)) (gv_some rfl rfl rfl) beq_iff_eq (fun hc103 => ?_) ?_
        · have hq1 : ¬ (r98 < 0) := (i_neg decide_eq_true_iff hc103)
          exact g_move (v := .slice a52 n53 c54) rfl
        refine wl_guard (c := (decide (r98 < 0)) = false) (val := .slice a29 n30 c31) (b := ((decide (r98 < 0)) == false)) (gv_some rfl rfl rfl) beq_iff_eq (fun hc104 => ?_) ?_
        · have hq1 : ¬ (r98 < 0) := (i_neg decide_eq_true_iff hc104)
          exact g_move (v := .slice a29 n30 c31) rfl
        obtain ⟨r106, hk107, hm⟩ := hm
        refine wl_guardE (X := Ext) (c := (decide (r98 < 0)) = false) (val := .bool r106) (Ext.refl _) (b := ((decide (r98 < 0)) == false)) (gv_some rfl rfl rfl) beq_iff_eq (fun hc105 => ?_) (fun w108 hE109 => ?_)
        · have hq1 : ¬ (r98 < 0) := (i_neg decide_eq_true_iff hc105)
          exact (g_call (vs := #[.slice a52 n53 c54, .slice a29 n30 c31]) CF18 (args2 (if_pos hc105) (if_pos hc105)) ((m_laws_eqCrossS_fn (oS.vw hS97.g2) (oS.vw hS97.g3) (hk107 hq1)).mono fun _ _ ⟨_, h1, h2, h3⟩ => ⟨by rw [h2, h1], h3⟩))
        have hB110 := hB100.trans (Ext.stp hE109 hS97.base)
        have hS111 := hS97.ext hE109
        refine wl_guard (c := (decide (r98 < 0)) = false) (val := .bool (!r106)) (b := ((decide (r98 < 0)) == false)) (gv_some rfl rfl rfl) beq_iff_eq (fun hc112 => ?_) ?_
        · have hq1 : ¬ (r98 < 0) := (i_neg decide_eq_true_iff hc112)
          exact g_not (a := r106) (if_pos hc112)
        refine wl_val (g_pick_or (b := (decide (r98 < 0))) (q := (!r106)) rfl rfl) rfl ?_
        refine wl_val (g_move (v := .bool ((decide (r98 < 0)) || (!r106))) rfl) rfl ?_
        refine wl_guard (c := ((decide (r98 < 0)) || (!r106)) = false) (val := .bool r56) (b := (((decide (r98 < 0)) || (!r106)) == false)) (gv_some rfl rfl rfl) beq_iff_eq (fun hc113 => ?_) ?_
        · have hq2 : ¬ (((r98 < 0) ∨ (¬ (r106 = true)))) := (i_neg (i_or decide_eq_true_iff (i_not Iff.rfl)) hc113)
          exact g_move (v := .bool r56) rfl
        refine wl_guard (c := ((decide (r98 < 0)) || (!r106)) = false) (val := .bool r33) (b := (((decide (r98 < 0)) || (!r106)) == false)) (gv_some rfl rfl rfl) beq_iff_eq (fun hc114 => ?_) ?_
        · have hq2 : ¬ (((r98 < 0) ∨ (¬ (r106 = true)))) := (i_neg (i_or decide_eq_true_iff (i_not Iff.rfl)) hc114)
          exact g_move (v := .bool r33) rfl
        refine wl_guard (c := ((decide (r98 < 0)) || (!r106)) = false) (val := .bool (decide ((r56) ≠ (r33)))) (b := (((decide (r98 < 0)) || (!r106)) == false)) (gv_some rfl rfl rfl) beq_iff_eq (fun hc115 => ?_) ?_
        · have hq2 : ¬ (((r98 < 0) ∨ (¬ (r106 = true)))) := (i_neg (i_or decide_eq_true_iff (i_not Iff.rfl)) hc115)
          exact g_neq_b (a := r56) (b := r33) UB (if_pos hc115) (if_pos hc115)
        refine wl_val (g_pick_or (b := ((decide (r98 < 0)) || (!r106))) (q := (decide ((r56) ≠ (r33)))) rfl rfl) rfl ?_
        refine wl_nil ?_
        refine hK102 _ _ ?_
        refine w_condI (p := ((((r98 < 0) ∨ (¬ (r106 = true)))) ∨ ((r56) ≠ (r33)))) (b := (((decide (r98 < 0)) || (!r106)) || (decide ((r56) ≠ (r33))))) rfl (i_or (i_or decide_eq_true_iff (i_not Iff.rfl)) decide_eq_true_iff) (fun h116 => ?_) (fun h116 => ?_)
        · replace hm := hm.1 h116
          refine w_seq fun K117 hK117 => ?_
          refine w_region ?_
          refine wl_val (g_assign (v := .bool false) rfl) rfl ?_
          refine wl_nil ?_
          refine hK117 _ _ ?_
          refine w_ret ?_
          repeat first | with_reducible refine q_then ?_ | with_reducible refine q_block ?_
          exact ret1 rfl (by decide) ⟨_, hm, rfl, toExt hB110⟩
        · replace hm := hm.2 h116
          refine w_skip ?_
          refine hK101 _ _ ?_
          refine w_seq fun K118 hK118 => ?_
          refine w_region ?_
          refine wl_val (g_assign (v := .int .i64 1) rfl) rfl ?_
          refine wl_nil ?_
          refine hK118 _ _ ?_
          refine w_seq fun K119 hK119 => ?_
          refine w_region ?_
          refine wl_val (g_move (v := .slice a52 n53 c54) rfl) rfl ?_
          refine wl_val (g_move (v := .int .i64 1) rfl) rfl ?_
          have hS120 := hS111.f2
          refine wl_step rfl (g_call (vs := #[.slice a52 n53 c54, .int .i64 1]) CF19 (args2 rfl rfl) (m_laws_markCrossS_fn hS120 1 hm)) ?_
          rintro _ w121 ⟨r124, x125, hm, rfl, hb122, hS123⟩
          have hB126 := hB110.trans hb122
          refine wl_val (g_assign (v := .int .i64 r124) rfl) rfl ?_
          refine wl_nil ?_
          refine hK119 _ _ ?_
          refine w_seq fun K127 hK127 => ?_
          refine w_region ?_
          refine wl_val (g_assign (v := .int .i64 1) rfl) rfl ?_
          refine wl_nil ?_
          refine hK127 _ _ ?_
          refine w_seq fun K128 hK128 => ?_
          refine w_region ?_
          refine wl_val (g_move (v := .slice a52 n53 c54) rfl) rfl ?_
          refine wl_val (g_move (v := .int .i64 1) rfl) rfl ?_
          refine wl_step rfl (g_call (vs := #[.slice a52 n53 c54, .int .i64 1]) CF20 (args2 rfl rfl) (m_laws_heldCrossS_fn (oS.vw hS123.g0) 1 hm)) ?_
          rintro _ w129 ⟨r132, hm, rfl, hE130⟩
          have hB133 := hB126.trans (Ext.stp hE130 hS123.base)
          have hS134 := hS123.ext hE130
          refine wl_val (g_assign (v := .int .i64 r132) rfl) rfl ?_
          refine wl_nil ?_
          refine hK128 _ _ ?_
          refine w_seq fun K135 hK135 => ?_
          refine w_seq fun K136 hK136 => ?_
          refine w_region ?_
          refine wl_val (g_move (v := .int .i64 r132) rfl) rfl ?_
          refine wl_val (g_lss (a := r132) (b := 0) rfl rfl) rfl ?_
          refine wl_nil ?_
          refine hK136 _ _ ?_
          refine w_condI (p := r132 < 0) (b := (decide (r132 < 0))) rfl decide_eq_true_iff (fun h137 => ?_) (fun h137 => ?_)
          · replace hm := hm.1 h137
            refine w_seq fun K138 hK138 => ?_
            refine w_region ?_
            refine wl_val (g_assign (v := .bool false) rfl) rfl ?_
            refine wl_nil ?_
            refine hK138 _ _ ?_
            refine w_ret ?_
            repeat first | with_reducible refine q_then ?_ | with_reducible refine q_block ?_
            exact ret1 rfl (by decide) ⟨_, hm, rfl, toExt hB133⟩
          · replace hm := hm.2 h137
            refine w_skip ?_
            refine hK135 _ _ ?_
            refine w_seq fun K139 hK139 => ?_
            refine w_seq fun K140 hK140 => ?_
            refine w_region ?_
            refine wl_val (g_move (v := .int .i64 r132) rfl) rfl ?_
            refine wl_val (g_move (v := .int .i64 r124) rfl) rfl ?_
            refine wl_val (g_neq (a := r132) (b := r124) rfl rfl) rfl ?_
            refine wl_nil ?_
            refine hK140 _ _ ?_
            refine w_condI (p := r132 ≠ r124) (b := (decide (r132 ≠ r124))) rfl decide_eq_true_iff (fun h141 => ?_) (fun h141 => ?_)
            · replace hm := hm.1 h141
              refine w_seq fun K142 hK142 => ?_
              refine w_region ?_
              refine wl_val (g_assign (v := .bool false) rfl) rfl ?_
              refine wl_nil ?_
              refine hK142 _ _ ?_
              refine w_ret ?_
              repeat first | with_reducible refine q_then ?_ | with_reducible refine q_block ?_
              exact ret1 rfl (by decide) ⟨_, hm, rfl, toExt hB133⟩
            · replace hm := hm.2 h141
              refine w_skip ?_
              refine hK139 _ _ ?_
              refine w_seq fun K143 hK143 => ?_
              refine w_region ?_
              refine wl_val (g_move (v := .int .i64 p0) rfl) rfl ?_
              refine wl_val (g_move (v := .slice a1 n1 c1) rfl) rfl ?_
              refine wl_step rfl (g_call (vs := #[.slice a1 n1 c1]) CF16 (args1 rfl) (m_laws_toCrossS_fn ((hp1.bel hB133).up hS134) hm)) ?_
              rintro _ w144 ⟨r147, a148, n149, c150, hm, rfl, hE145, hN146⟩
              have hS152 := hS134.call1 hE145 hN146
              have hB153 := hB133.trans (Ext.stp hE145 hS134.base)
              refine wl_step rfl (g_call (vs := #[.int .i64 p0, .slice a148 n149 c150]) CF46 (args2 rfl rfl) (m_impl_BringHome_fn p0 (oS.vw hS152.g0) hm)) ?_
              rintro _ w154 ⟨r157, a158, n159, c160, r162, hm, rfl, hE155, hN156⟩
              have hS163 := hS152.call1 hE155 hN156
              have hB164 := hB153.trans (Ext.stp hE155 hS152.base)
              refine wl_val (g_move (v := .tuple #[.slice a158 n159 c160, .bool r162]) rfl) rfl ?_
              refine wl_val (g_extract (vs := #[.slice a158 n159 c160, .bool r162]) rfl rfl) rfl ?_
              refine wl_val (g_extract (vs := #[.slice a158 n159 c160, .bool r162]) rfl rfl) rfl ?_
              refine wl_val (g_assign (v := .slice a158 n159 c160) rfl) rfl ?_
              refine wl_val (g_assign (v := .bool r162) rfl) rfl ?_
              refine wl_nil ?_
              refine hK143 _ _ ?_
              refine w_seq fun K165 hK165 => ?_
              refine w_seq fun K166 hK166 => ?_
              refine w_region ?_
              refine wl_val (g_move (v := .slice a158 n159 c160) rfl) rfl ?_
              refine wl_val (g_move (v := .slice a29 n30 c31) rfl) rfl ?_
              refine wl_step rfl (g_call (vs := #[.slice a158 n159 c160, .slice a29 n30 c31]) CF18 (args2 rfl rfl) (m_laws_eqCrossS_fn (oS.vw hS163.g0) (oS.vw hS163.g5) hm)) ?_
              rintro _ w167 ⟨r170, hm, rfl, hE168⟩
              have hB171 := hB164.trans (Ext.stp hE168 hS163.base)
              have hS172 := hS163.ext hE168
              refine wl_val (g_not (a := r170) rfl) rfl ?_
              refine wl_val (g_move (v := .bool (!r170)) rfl) rfl ?_
              refine wl_guard (c := (!r170) = false) (val := .bool r162) (b := ((!r170) == false)) (gv_some rfl rfl rfl) beq_iff_eq (fun hc173 => ?_) ?_
              · have hq3 : ¬ (¬ (r170 = true)) := (i_neg (i_not Iff.rfl) hc173)
                exact g_move (v := .bool r162) rfl
              refine wl_guard (c := (!r170) = false) (val := .bool r33) (b := ((!r170) == false)) (gv_some rfl rfl rfl) beq_iff_eq (fun hc174 => ?_) ?_
              · have hq3 : ¬ (¬ (r170 = true)) := (i_neg (i_not Iff.rfl) hc174)
                exact g_move (v := .bool r33) rfl
              refine wl_guard (c := (!r170) = false) (val := .bool (decide ((r162) ≠ (r33)))) (b := ((!r170) == false)) (gv_some rfl rfl rfl) beq_iff_eq (fun hc175 => ?_) ?_
              · have hq3 : ¬ (¬ (r170 = true)) := (i_neg (i_not Iff.rfl) hc175)
                exact g_neq_b (a := r162) (b := r33) UB (if_pos hc175) (if_pos hc175)
              refine wl_val (g_pick_or (b := (!r170)) (q := (decide ((r162) ≠ (r33)))) rfl rfl) rfl ?_
              refine wl_nil ?_
              refine hK166 _ _ ?_
              refine w_condI (p := ((¬ (r170 = true)) ∨ ((r162) ≠ (r33)))) (b := ((!r170) || (decide ((r162) ≠ (r33))))) rfl (i_or (i_not Iff.rfl) decide_eq_true_iff) (fun h176 => ?_) (fun h176 => ?_)
              · replace hm := hm.1 h176
                refine w_seq fun K177 hK177 => ?_
                refine w_region ?_
                refine wl_val (g_assign (v := .bool false) rfl) rfl ?_
                refine wl_nil ?_
                refine hK177 _ _ ?_
                refine w_ret ?_
                repeat first | with_reducible refine q_then ?_ | with_reducible refine q_block ?_
                exact ret1 rfl (by decide) ⟨_, hm, rfl, toExt hB171⟩
              · replace hm := hm.2 h176
                refine w_skip ?_
                refine hK165 _ _ ?_
                refine w_seq fun K178 hK178 => ?_
                refine w_region ?_
                refine wl_val (g_assign (v := .int .i64 1) rfl) rfl ?_
                refine wl_nil ?_
                refine hK178 _ _ ?_
                refine w_seq fun K179 hK179 => ?_
                refine w_region ?_
                refine wl_val (g_move (v := .slice a52 n53 c54) rfl) rfl ?_
                refine wl_val (g_move (v := .int .i64 1) rfl) rfl ?_
                refine wl_step rfl (g_call (vs := #[.slice a52 n53 c54, .int .i64 1]) CF20 (args2 rfl rfl) (m_laws_heldCrossS_fn (oS.vw hS172.g2) 1 hm)) ?_
                rintro _ w180 ⟨r183, hm, rfl, hE181⟩
                have hB184 := hB171.trans (Ext.stp hE181 hS172.base)
                have hS185 := hS172.ext hE181
                refine wl_val (g_assign (v := .int .i64 r183) rfl) rfl ?_
                refine wl_nil ?_
                refine hK179 _ _ ?_
                refine w_seq fun K186 hK186 => ?_
                refine w_seq fun K187 hK187 => ?_
                refine w_region ?_
                refine wl_val (g_move (v := .int .i64 r183) rfl) rfl ?_
                refine wl_val (g_lss (a := r183) (b := 0) rfl rfl) rfl ?_
                refine wl_nil ?_
                refine hK187 _ _ ?_
                refine w_condI (p := r183 < 0) (b := (decide (r183 < 0))) rfl decide_eq_true_iff (fun h188 => ?_) (fun h188 => ?_)
                · replace hm := hm.1 h188
                  refine w_seq fun K189 hK189 => ?_
                  refine w_region ?_
                  refine wl_val (g_assign (v := .bool false) rfl) rfl ?_
                  refine wl_nil ?_
                  refine hK189 _ _ ?_
                  refine w_ret ?_
                  repeat first | with_reducible refine q_then ?_ | with_reducible refine q_block ?_
                  exact ret1 rfl (by decide) ⟨_, hm, rfl, toExt hB184⟩
                · replace hm := hm.2 h188
                  refine w_skip ?_
                  refine hK186 _ _ ?_
                  refine w_seq fun K190 hK190 => ?_
                  refine w_seq fun K191 hK191 => ?_
                  refine w_region ?_
                  refine wl_val (g_move (v := .int .i64 r183) rfl) rfl ?_
                  refine wl_val (g_move (v := .int .i64 r124) rfl) rfl ?_
                  refine wl_val (g_neq (a := r183) (b := r124) rfl rfl) rfl ?_
                  refine wl_nil ?_
                  refine hK191 _ _ ?_
                  refine w_condI (p := r183 ≠ r124) (b := (decide (r183 ≠ r124))) rfl decide_eq_true_iff (fun h192 => ?_) (fun h192 => ?_)
                  · replace hm := hm.1 h192
                    refine w_seq fun K193 hK193 => ?_
                    refine w_region ?_
                    refine wl_val (g_assign (v := .bool false) rfl) rfl ?_
                    refine wl_nil ?_
                    refine hK193 _ _ ?_
                    refine w_ret ?_
                    repeat first | with_reducible refine q_then ?_ | with_reducible refine q_block ?_
                    exact ret1 rfl (by decide) ⟨_, hm, rfl, toExt hB184⟩
                  · replace hm := hm.2 h192
                    refine w_skip ?_
                    refine hK190 _ _ ?_
                    refine w_seq fun K194 hK194 => ?_
                    refine w_region ?_
                    refine wl_val (g_assign (v := .bool true) rfl) rfl ?_
                    refine wl_nil ?_
                    refine hK194 _ _ ?_
                    refine w_ret ?_
                    repeat first | with_reducible refine q_then ?_ | with_reducible refine q_block ?_
                    exact ret1 rfl (by decide) ⟨_, hm, rfl, toExt hB184⟩

end Go.Proofs.Ytcgkcoogaieolaa
