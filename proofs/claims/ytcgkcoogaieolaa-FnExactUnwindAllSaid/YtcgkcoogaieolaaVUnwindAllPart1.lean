/- The walks: the code does what its model says. Printed by a program (gen2.py). No statement of the claim stands here. -/
import Derived.Test.YtcgkcoogaieolaaSop
import Derived.Test.YtcgkcoogaieolaaFacts
import Derived.Test.YtcgkcoogaieolaaMB
namespace Go.Proofs.Ytcgkcoogaieolaa
open Go Go.RowKit
set_option maxRecDepth 100000
theorem m_laws_szCrossS_fn {w : World} {a0 : Option Addr} {n0 c0 : Nat} {p0 : List Cross} {Q : Int → Prop} (hp0 : Vw w.heap.size w a0 n0 c0 p0) (p1 : Int) (hm : m_laws_szCrossS p0 p1 Q) :
    Fn Try.prog 14 #[.slice a0 n0 c0, .int .i64 p1] w (fun v w' => ∃ (r0 : Int), Q r0 ∧ v = .int .i64 r0 ∧ Ext w w') := by
  unfold m_laws_szCrossS at hm
  have hB0 := Below.refl w.heap.size w
  have hS0 : Sep w w.heap.size [] := Sep.nil (Nat.le_refl _)
  refine fn_of_wp Try.func14 rfl (by kernel_rfl) (Nat.le_of_ble_eq_true rfl) ?_
  refine w_seq fun K1 hK1 => ?_
  refine w_region ?_
  refine wl_val (g_assign (v := .int .i64 0) rfl) rfl ?_
  refine wl_nil ?_
  refine hK1 _ _ ?_
  refine w_seq fun K2 hK2 => ?_
  refine w_region ?_
  refine wl_val (g_move (v := .int .i64 p1) rfl) rfl ?_
  refine wl_val (g_move (v := .slice a0 n0 c0) rfl) rfl ?_
  refine wl_val (q_len SL22 rfl (Vw.len (hp0.bel hB0))) rfl ?_
  obtain ⟨hg3, hm⟩ := hm
  refine wl_val (g_sub (a := p1) (b := (p0.length : Int)) rfl rfl hg3) rfl ?_
  refine wl_val (g_assign (v := .int .i64 (p1 - (p0.length : Int))) rfl) rfl ?_
  refine wl_nil ?_
  refine hK2 _ _ ?_
  refine w_seq fun K4 hK4 => ?_
  refine w_seq fun K5 hK5 => ?_
  refine w_region ?_
  refine wl_val (g_move (v := .int .i64 (p1 - (p0.length : Int))) rfl) rfl ?_
  refine wl_val (g_lss (a := (p1 - (p0.length : Int))) (b := 0) rfl rfl) rfl ?_
  refine wl_nil ?_
  refine hK5 _ _ ?_
  refine w_condI (p := (p1 - (p0.length : Int)) < 0) (b := (decide ((p1 - (p0.length : Int)) < 0))) rfl decide_eq_true_iff (fun h6 => ?_) (fun h6 => ?_)
  · replace hm := hm.1 h6
    refine w_seq fun K7 hK7 => ?_
    refine w_region ?_
    refine wl_val (g_assign (v := .int .i64 (-1)) rfl) rfl ?_
    refine wl_nil ?_
    refine hK7 _ _ ?_
    refine w_ret ?_
    repeat first | with_reducible refine q_then ?_ | with_reducible refine q_block ?_
    exact ret1 rfl (by decide) ⟨_, hm, rfl, toExt hB0⟩
  · replace hm := hm.2 h6
    refine w_skip ?_
    refine hK4 _ _ ?_
    refine w_seq fun K8 hK8 => ?_
    refine w_region ?_
    refine wl_val (g_move (v := .int .i64 (p1 - (p0.length : Int))) rfl) rfl ?_
    refine wl_val (g_assign (v := .int .i64 (p1 - (p0.length : Int))) rfl) rfl ?_
    refine wl_nil ?_
    refine hK8 _ _ ?_
    refine w_ret ?_
    repeat first | with_reducible refine q_then ?_ | with_reducible refine q_block ?_
    exact ret1 rfl (by decide) ⟨_, hm, rfl, toExt hB0⟩

theorem m_laws_toCross_fn {w : World}  {Q : Cross → Prop} (p0 : Cross) (hm : m_laws_toCross p0 Q) :
    Fn Try.prog 51 #[.agg #[.int .i64 p0.1, .bool p0.2]] w (fun v w' => ∃ (r0 : Cross), Q r0 ∧ v = .agg #[.int .i64 r0.1, .bool r0.2] ∧ Ext w w') := by
  unfold m_laws_toCross at hm
  have hB0 := Below.refl w.heap.size w
  have hS0 : Sep w w.heap.size [] := Sep.nil (Nat.le_refl _)
  refine fn_of_wp Try.func51 rfl (by kernel_rfl) (Nat.le_of_ble_eq_true rfl) ?_
  refine w_seq fun K1 hK1 => ?_
  refine w_region ?_
  refine wl_step rfl (q_box (cs := #[.int .i64 p0.1, .bool p0.2]) rfl rfl hS0) ?_
  rintro _ w2 ⟨g3, rfl, hS5, hE4⟩
  have hB7 := hB0.trans (Ext.stp hE4 hS0.base)
  refine wl_step rfl (q_alloc (cs := #[.int .i64 0, .bool false]) ZR56 rfl hS5) ?_
  rintro _ w8 ⟨g9, rfl, hS11, hE10⟩
  have hB13 := hB7.trans (Ext.stp hE10 hS5.base)
  refine wl_nil ?_
  refine hK1 _ _ ?_
  refine w_seq fun K14 hK14 => ?_
  refine w_region ?_
  refine wl_step rfl (q_alloc (cs := #[.int .i64 0, .bool false]) ZR56 rfl hS11) ?_
  rintro _ w15 ⟨g16, rfl, hS18, hE17⟩
  have hB20 := hB13.trans (Ext.stp hE17 hS11.base)
  refine wl_nil ?_
  refine hK14 _ _ ?_
  refine w_seq fun K21 hK21 => ?_
  refine w_region ?_
  refine wl_val (g_fieldAddr (q := (⟨g3, 0, none⟩ : Addr)) FL58_0 ON3 rfl) rfl ?_
  refine wl_val (q_loadB (i := 0) (bs := #[.int .i64 p0.1, .bool p0.2]) hS18.g2 ON3 rfl rfl) rfl ?_
  refine wl_val (g_fieldAddr (q := (⟨g16, 0, none⟩ : Addr)) FL56_0 ON3 rfl) rfl ?_
  refine wl_step rfl (q_storeB (i := 0) (bs' := #[.int .i64 p0.1, .bool false]) (vs := [.int .i64 p0.1]) hS18 ON3.sz rfl rfl rfl (by simp [Value.oneCell']) (Nat.le_of_ble_eq_true rfl) rfl) ?_
  rintro _ w22 ⟨rfl, hS23, hb24⟩
  have hB25 := hB20.trans hb24
  refine wl_nil ?_
  refine hK21 _ _ ?_
  refine w_seq fun K26 hK26 => ?_
  refine w_region ?_
  refine wl_val (g_fieldAddr (q := (⟨g3, 0, none⟩ : Addr)) FL58_1 ON4 rfl) rfl ?_
  refine wl_val (q_loadB (i := 1) (bs := #[.int .i64 p0.1, .bool p0.2]) hS23.g2 ON4 rfl rfl) rfl ?_
  refine wl_val (g_fieldAddr (q := (⟨g16, 0, none⟩ : Addr)) FL56_1 ON4 rfl) rfl ?_
  refine wl_step rfl (q_storeB (i := 1) (bs' := #[.int .i64 p0.1, .bool p0.2]) (vs := [.bool p0.2]) hS23 ON4.sz rfl rfl rfl (by simp [Value.oneCell']) (Nat.le_of_ble_eq_true rfl) rfl) ?_
  rintro _ w27 ⟨rfl, hS28, hb29⟩
  have hB30 := hB25.trans hb29
  refine wl_nil ?_
  refine hK26 _ _ ?_
  refine w_seq fun K31 hK31 => ?_
  refine w_region ?_
  refine wl_val (q_loadBS (bs := #[.int .i64 p0.1, .bool p0.2]) hS28.g0 AG56 rfl) rfl ?_
  have hS35 := hS28.f1
  refine wl_step rfl (q_storeB (i := 0) (bs' := #[.int .i64 p0.1, .bool p0.2]) (vs := [.int .i64 p0.1, .bool p0.2]) hS35 AG56.sz rfl rfl rfl (by simp [Value.oneCell']) (Nat.le_of_ble_eq_true rfl) rfl) ?_
  rintro _ w32 ⟨rfl, hS33, hb34⟩
  have hB36 := hB30.trans hb34
  refine wl_nil ?_
  refine hK31 _ _ ?_
  refine w_ret ?_
  repeat first | with_reducible refine q_then ?_ | with_reducible refine q_block ?_
  exact ret_cell (q := ⟨g9, 0, none⟩) (cs := [.int .i64 p0.1, .bool p0.2]) rfl (by decide) rfl AG56 (Blk.all hS33.g0 rfl) ⟨_, hm, rfl, toExt hB36⟩

theorem m_laws_toCrossS_fn {w : World} {a0 : Option Addr} {n0 c0 : Nat} {p0 : List Cross} {Q : (List Cross) → Prop} (hp0 : Vw w.heap.size w a0 n0 c0 p0) (hm : m_laws_toCrossS p0 Q) :
    Fn Try.prog 16 #[.slice a0 n0 c0] w (fun v w' => ∃ (r0 : List Cross) (a0 : Option Addr) (n0 c0 : Nat), Q r0 ∧ v = .slice a0 n0 c0 ∧ Ext w w' ∧ Sep w' w.heap.size [oS 56 a0 n0 c0 r0]) := by
  unfold m_laws_toCrossS at hm
  have hB0 := Below.refl w.heap.size w
  have hS0 : Sep w w.heap.size [] := Sep.nil (Nat.le_refl _)
  refine fn_of_wp Try.func16 rfl (by kernel_rfl) (Nat.le_of_ble_eq_true rfl) ?_
  refine w_seq fun K1 hK1 => ?_
  refine w_region ?_
  refine wl_val (g_assign (v := .slice none 0 0) rfl) rfl ?_
  refine wl_nil ?_
  refine hK1 _ _ ?_
  refine w_seq fun K2 hK2 => ?_
  refine w_region ?_
  refine wl_val (g_move (v := .slice a0 n0 c0) rfl) rfl ?_
  refine wl_val (q_len SL22 rfl (Vw.len (hp0.bel hB0))) rfl ?_
  obtain ⟨hg3, hm⟩ := hm
  refine wl_step rfl (q_make (y := ((0, false) : Cross)) SL24 rfl rfl hg3.1 hg3.2 (by decide) hS0) ?_
  rintro _ w4 ⟨a5, rfl, hS7, hE6⟩
  have hB9 := hB0.trans (Ext.stp hE6 hS0.base)
  refine wl_val (g_assign (v := .slice a5 (Int.toNat (p0.length : Int)) (Int.toNat (p0.length : Int))) rfl) rfl ?_
  refine wl_nil ?_
  refine hK2 _ _ ?_
  refine w_cut (σ := List Cross) (fun x64 => [(3, .slice a5 (Int.toNat (p0.length : Int)) (Int.toNat (p0.length : Int)))]) (fun x64 w' => m_laws_toCrossS_K0 Q x64 ∧ Below w.heap.size w w' ∧ Sep w' w.heap.size [oS 56 a5 (Int.toNat (p0.length : Int)) (Int.toNat (p0.length : Int)) (x64 : List Cross)]) ?_ ?_
  · refine w_seq fun K66 hK66 => ?_
    refine w_region ?_
    refine wl_val (g_assign (v := .int .i64 0) rfl) rfl ?_
    refine wl_nil ?_
    refine hK66 _ _ ?_
    refine w_block ?_
    obtain ⟨I69, μ70, h071, hr72⟩ := hm
    refine w_for (σ := List Cross × Int) (fun ⟨x67, v68⟩ => [(0, .slice a0 n0 c0), (3, .slice a5 (Int.toNat (p0.length : Int)) (Int.toNat (p0.length : Int))), (4, .int .i64 v68)]) (fun ⟨x67, v68⟩ w' => I69 x67 v68 ∧ Below w.heap.size w w' ∧ Sep w' w.heap.size [oS 56 a5 (Int.toNat (p0.length : Int)) (Int.toNat (p0.length : Int)) (x67 : List Cross)]) (fun ⟨x67, v68⟩ => μ70 x67 v68) (List.replicate (Int.toNat (p0.length : Int)) ((0, false) : Cross), 0) ⟨rfl, rfl, rfl, trivial⟩ ⟨h071, hB9, hS7⟩ ?_
    rintro ⟨x67, v68⟩ b_ w73 ⟨hi_, hB74, hS75⟩
    show Wp _ _ _ _ (upds b_ [(0, .slice a0 n0 c0), (3, .slice a5 (Int.toNat (p0.length : Int)) (Int.toNat (p0.length : Int))), (4, .int .i64 v68)]) w73
    have hm := hr72 x67 v68 hi_
    refine w_seq fun K77 hK77 => ?_
    refine w_seq fun K78 hK78 => ?_
    refine w_region ?_
    refine wl_val (g_move (v := .int .i64 v68) rfl) rfl ?_
    refine wl_val (g_move (v := .slice a0 n0 c0) rfl) rfl ?_
    refine wl_val (q_len SL22 rfl (Vw.len (hp0.bel hB74))) rfl ?_
    refine wl_val (g_lss (a := v68) (b := (p0.length : Int)) rfl rfl) rfl ?_
    refine wl_nil ?_
    refine hK78 _ _ ?_
    refine w_condI (p := v68 < (p0.length : Int)) (b := (decide (v68 < (p0.length : Int)))) rfl decide_eq_true_iff (fun h79 => ?_) (fun h79 => ?_)
    · replace hm := hm.1 h79
      refine w_skip ?_
      refine hK77 _ _ ?_
      refine w_seq fun K80 hK80 => ?_
      refine w_block ?_
      refine w_region ?_
      refine wl_val (g_move (v := .slice a5 (Int.toNat (p0.length : Int)) (Int.toNat (p0.length : Int))) rfl) rfl ?_
      refine wl_val (g_move (v := .int .i64 v68) rfl) rfl ?_
      refine wl_val (g_move (v := .slice a0 n0 c0) rfl) rfl ?_
      refine wl_val (g_move (v := .int .i64 v68) rfl) rfl ?_
      obtain ⟨hg81, hm⟩ := hm
      refine wl_val (q_index (i := v68) SL22 rfl rfl (hp0.bel hB74) hg81) rfl ?_
      refine wl_val (q_loadS (i := v68) (cs := [.int .i64 (p0[(Int.toNat v68)]!.1), .bool (p0[(Int.toNat v68)]!.2)]) AG58 (hp0.bel hB74) hg81 rfl rfl) rfl ?_
      refine wl_step rfl (g_call (vs := #[.agg #[.int .i64 (p0[(Int.toNat v68)]!.1), .bool (p0[(Int.toNat v68)]!.2)]]) CF51 (args1 rfl) (m_laws_toCross_fn (p0[(Int.toNat v68)]!) hm)) ?_
      rintro _ w82 ⟨r85, hm, rfl, hE83⟩
      have hB86 := hB74.trans (Ext.stp hE83 hS75.base)
      have hS87 := hS75.ext hE83
      obtain ⟨hg88, hm⟩ := hm
      refine wl_val (q_index (i := v68) SL24 rfl rfl (oS.vw hS87.g0) hg88) rfl ?_
      refine wl_step rfl (q_store (i := v68) (v := (r85 : Cross)) hS87 AG56.sz hg88 rfl rfl rfl) ?_
      rintro _ w89 ⟨rfl, hS90, hb91⟩
      have hB92 := hB86.trans hb91
      refine wl_nil ?_
      refine hK80 _ _ ?_
      refine w_region ?_
      refine wl_val (g_move (v := .int .i64 v68) rfl) rfl ?_
      obtain ⟨hg93, hm⟩ := hm
      refine wl_val (g_add (a := v68) (b := 1) rfl rfl hg93) rfl ?_
      refine wl_val (g_assign (v := .int .i64 (v68 + 1)) rfl) rfl ?_
      refine wl_nil ?_
      exact ⟨((x67.set (Int.toNat v68) r85), (v68 + 1)), hm.2, ⟨rfl, rfl, rfl, trivial⟩, ⟨hm.1, hB92, hS90⟩⟩
    · replace hm := hm.2 h79
      refine w_exit ?_
      exact ⟨(x67), ⟨rfl, trivial⟩, ⟨hm, hB74, hS75⟩⟩
  · rintro x64 b_ w94 ⟨hm, hB95, hS96⟩
    show Wp _ _ _ _ (upds b_ [(3, .slice a5 (Int.toNat (p0.length : Int)) (Int.toNat (p0.length : Int)))]) w94
    refine w_seq fun K97 hK97 => ?_
    refine w_region ?_
    refine wl_val (g_move (v := .slice a5 (Int.toNat (p0.length : Int)) (Int.toNat (p0.length : Int))) rfl) rfl ?_
    refine wl_val (g_assign (v := .slice a5 (Int.toNat (p0.length : Int)) (Int.toNat (p0.length : Int))) rfl) rfl ?_
    refine wl_nil ?_
    refine hK97 _ _ ?_
    refine w_ret ?_
    repeat first | with_reducible refine q_then ?_ | with_reducible refine q_block ?_
    exact ret1 rfl (by decide) ⟨_, _, _, _, hm, rfl, toExt hB95, hS96⟩

theorem m_spec_l01In_fn {w : World}  {Q : Bool → Prop} (p0 : Int) (p1 : Int) (p2 : Int) (hm : m_spec_l01In p0 p1 p2 Q) :
    Fn Try.prog 53 #[.int .i64 p0, .int .i64 p1, .int .i64 p2] w (fun v w' => ∃ (r0 : Bool), Q r0 ∧ v = .bool r0 ∧ Ext w w') := by
  unfold m_spec_l01In at hm
  have hB0 := Below.refl w.heap.size w
  have hS0 : Sep w w.heap.size [] := Sep.nil (Nat.le_refl _)
  refine fn_of_wp Try.func53 rfl (by kernel_rfl) (Nat.le_of_ble_eq_true rfl) ?_
  refine w_seq fun K1 hK1 => ?_
  refine w_region ?_
  refine wl_val (g_assign (v := .bool false) rfl) rfl ?_
  refine wl_nil ?_
  refine hK1 _ _ ?_
  refine w_seq fun K2 hK2 => ?_
  refine w_region ?_
  refine wl_val (g_move (v := .int .i64 p0) rfl) rfl ?_
  refine wl_val (g_move (v := .int .i64 p1) rfl) rfl ?_
  refine wl_val (g_geq (a := p0) (b := p1) rfl rfl) rfl ?_
  refine wl_val (g_move (v := .bool (decide (p0 ≥ p1))) rfl) rfl ?_
  refine wl_guard (c := (decide (p0 ≥ p1)) = true) (val := .int .i64 p0) (b := ((decide (p0 ≥ p1)) == true)) (gv_some rfl rfl rfl) beq_iff_eq (fun hc3 => ?_) ?_
  · have hq0 : p0 ≥ p1 := (decide_eq_true_iff.mp hc3)
    exact g_move (v := .int .i64 p0) rfl
  refine wl_guard (c := (decide (p0 ≥ p1)) = true) (val := .int .i64 p2) (b := ((decide (p0 ≥ p1)) == true)) (gv_some rfl rfl rfl) beq_iff_eq (fun hc4 => ?_) ?_
  · have hq0 : p0 ≥ p1 := (decide_eq_true_iff.mp hc4)
    exact g_move (v := .int .i64 p2) rfl
  refine wl_guard (c := (decide (p0 ≥ p1)) = true) (val := .bool (decide (p0 ≤ p2))) (b := ((decide (p0 ≥ p1)) == true)) (gv_some rfl rfl rfl) beq_iff_eq (fun hc5 => ?_) ?_
  · have hq0 : p0 ≥ p1 := (decide_eq_true_iff.mp hc5)
    exact g_leq (a := p0) (b := p2) (if_pos hc5) (if_pos hc5)
  refine wl_val (g_pick_and (b := (decide (p0 ≥ p1))) (q := (decide (p0 ≤ p2))) rfl rfl) rfl ?_
  refine wl_val (g_assign (v := .bool ((decide (p0 ≥ p1)) && (decide (p0 ≤ p2)))) rfl) rfl ?_
  refine wl_nil ?_
  refine hK2 _ _ ?_
  refine w_ret ?_
  repeat first | with_reducible refine q_then ?_ | with_reducible refine q_block ?_
  exact ret1 rfl (by decide) ⟨_, hm, rfl, toExt hB0⟩

theorem m_spec_CrossesOk_fn {w : World} {a1 : Option Addr} {n1 c1 : Nat} {p1 : List Cross} {Q : Bool → Prop} (p0 : Int) (hp1 : Vw w.heap.size w a1 n1 c1 p1) (hm : m_spec_CrossesOk p0 p1 Q) :
    Fn Try.prog 59 #[.int .i64 p0, .slice a1 n1 c1] w (fun v w' => ∃ (r0 : Bool), Q r0 ∧ v = .bool r0 ∧ Ext w w') := by
  unfold m_spec_CrossesOk at hm
  have hB0 := Below.refl w.heap.size w
  have hS0 : Sep w w.heap.size [] := Sep.nil (Nat.le_refl _)
  refine fn_of_wp Try.func59 rfl (by kernel_rfl) (Nat.le_of_ble_eq_true rfl) ?_
  refine w_seq fun K1 hK1 => ?_
  refine w_region ?_
  refine wl_val (g_assign (v := .bool false) rfl) rfl ?_
  refine wl_nil ?_
  refine hK1 _ _ ?_
  refine w_seq fun K2 hK2 => ?_
  refine w_seq fun K3 hK3 => ?_
  refine w_region ?_
  refine wl_val (g_move (v := .int .i64 p0) rfl) rfl ?_
  refine wl_step rfl (g_call (vs := #[.int .i64 p0, .int .i64 1, .int .i64 7]) CF53 (args3 rfl rfl rfl) (m_spec_l01In_fn p0 1 7 hm)) ?_
  rintro _ w4 ⟨r7, hm, rfl, hE5⟩
  have hB8 := hB0.trans (Ext.stp hE5 hS0.base)
  have hS9 := hS0.ext hE5
  refine wl_val (g_not (a := r7) rfl) rfl ?_
  refine wl_val (g_move (v := .bool (!r7)) rfl) rfl ?_
  refine wl_guard (c := (!r7) = false) (val := .slice a1 n1 c1) (b := ((!r7) == false)) (gv_some rfl rfl rfl) beq_iff_eq (fun hc10 => ?_) ?_
  · have hq0 : ¬ (¬ (r7 = true)) := (i_neg (i_not Iff.rfl) hc10)
    exact g_move (v := .slice a1 n1 c1) rfl
  refine wl_guard (c := (!r7) = false) (val := .int .i64 (p1.length : Int)) (b := ((!r7) == false)) (gv_some rfl rfl rfl) beq_iff_eq (fun hc11 => ?_) ?_
  · have hq0 : ¬ (¬ (r7 = true)) := (i_neg (i_not Iff.rfl) hc11)
    exact q_len SL24 (if_pos hc11) (Vw.len (hp1.bel hB8))
  refine wl_guard (c := (!r7) = false) (val := .bool (decide ((p1.length : Int) > 40))) (b := ((!r7) == false)) (gv_some rfl rfl rfl) beq_iff_eq (fun hc12 => ?_) ?_
  · have hq0 : ¬ (¬ (r7 = true)) := (i_neg (i_not Iff.rfl) hc12)
    exact g_gtr (a := (p1.length : Int)) (b := 40) (if_pos hc12) rfl
  refine wl_val (g_pick_or (b := (!r7)) (q := (decide ((p1.length : Int) > 40))) rfl rfl) rfl ?_
  refine wl_nil ?_
  refine hK3 _ _ ?_
  refine w_condI (p := ((¬ (r7 = true)) ∨ ((p1.length : Int) > 40))) (b := ((!r7) || (decide ((p1.length : Int) > 40)))) rfl (i_or (i_not Iff.rfl) decide_eq_true_iff) (fun h13 => ?_) (fun h13 => ?_)
  · replace hm := hm.1 h13
    refine w_seq fun K14 hK14 => ?_
    refine w_region ?_
    refine wl_val (g_assign (v := .bool false) rfl) rfl ?_
    refine wl_nil ?_
    refine hK14 _ _ ?_
    refine w_ret ?_
    repeat first | with_reducible refine q_then ?_ | with_reducible refine q_block ?_
    exact ret1 rfl (by decide) ⟨_, hm, rfl, toExt hB8⟩
  · replace hm := hm.2 h13
    refine w_skip ?_
    refine hK2 _ _ ?_
    refine w_cut (σ := Unit) (fun _ => []) (fun _ w' => m_spec_CrossesOk_K0 Q ∧ Below w.heap.size w w' ∧ Sep w' w.heap.size []) ?_ ?_
    · refine w_seq fun K16 hK16 => ?_
      refine w_region ?_
      refine wl_val (g_assign (v := .int .i64 0) rfl) rfl ?_
      refine wl_nil ?_
      refine hK16 _ _ ?_
      refine w_block ?_
      obtain ⟨I42, μ43, h044, hr45⟩ := hm
      refine w_for (σ := Int) (fun v41 => [(0, .int .i64 p0), (1, .slice a1 n1 c1), (5, .int .i64 v41)]) (fun v41 w' => I42 v41 ∧ Below w.heap.size w w' ∧ Sep w' w.heap.size []) (fun v41 => μ43 v41) (0) ⟨rfl, rfl, rfl, trivial⟩ ⟨h044, hB8, hS9⟩ ?_
      rintro v41 b_ w46 ⟨hi_, hB47, hS48⟩
      show Wp _ _ _ _ (upds b_ [(0, .int .i64 p0), (1, .slice a1 n1 c1), (5, .int .i64 v41)]) w46
      have hm := hr45 v41 hi_
      refine w_seq fun K50 hK50 => ?_
      refine w_seq fun K51 hK51 => ?_
      refine w_region ?_
      refine wl_val (g_move (v := .int .i64 v41) rfl) rfl ?_
      refine wl_val (g_move (v := .slice a1 n1 c1) rfl) rfl ?_
      refine wl_val (q_len SL24 rfl (Vw.len (hp1.bel hB47))) rfl ?_
      refine wl_val (g_lss (a := v41) (b := (p1.length : Int)) rfl rfl) rfl ?_
      refine wl_nil ?_
      refine hK51 _ _ ?_
      refine w_condI (p := v41 < (p1.length : Int)) (b := (decide (v41 < (p1.length : Int)))) rfl decide_eq_true_iff (fun h52 => ?_) (fun h52 => ?_)
      · replace hm := hm.1 h52
        refine w_skip ?_
        refine hK50 _ _ ?_
        refine w_seq fun K53 hK53 => ?_
        refine w_block ?_
        refine w_seq fun K54 hK54 => ?_
        refine w_region ?_
        refine wl_val (g_move (v := .slice a1 n1 c1) rfl) rfl ?_
        refine wl_val (g_move (v := .int .i64 v41) rfl) rfl ?_
        obtain ⟨hg55, hm⟩ := hm
        refine wl_val (q_index (i := v41) SL24 rfl rfl (hp1.bel hB47) hg55) rfl ?_
        refine wl_val (g_fieldAddr (q := (adr a1).add ((Int.toNat v41) * El.m Cross)) FL56_0 ON3 rfl) rfl ?_
        refine wl_val (q_loadF (i := v41) (j := 0) (v := .int .i64 (p1[(Int.toNat v41)]!.1)) ON3 (hp1.bel hB47) hg55 rfl rfl) rfl ?_
        refine wl_val (g_move (v := .int .i64 p0) rfl) rfl ?_
        obtain ⟨hg56, hm⟩ := hm
        refine wl_val (g_sub (a := p0) (b := 2) rfl rfl hg56) rfl ?_
        refine wl_step rfl (g_call (vs := #[.int .i64 (p1[(Int.toNat v41)]!.1), .int .i64 0, .int .i64 (p0 - 2)]) CF53 (args3 rfl rfl rfl) (m_spec_l01In_fn (p1[(Int.toNat v41)]!.1) 0 (p0 - 2) hm)) ?_
        rintro _ w57 ⟨r60, hm, rfl, hE58⟩
        have hB61 := hB47.trans (Ext.stp hE58 hS48.base)
        have hS62 := hS48.ext hE58
        refine wl_val (g_not (a := r60) rfl) rfl ?_
        refine wl_nil ?_
        refine hK54 _ _ ?_
        refine w_condI (p := ¬ (r60 = true)) (b := (!r60)) rfl (i_not Iff.rfl) (fun h63 => ?_) (fun h63 => ?_)
        · replace hm := hm.1 h63
          refine w_seq fun K64 hK64 => ?_
          refine w_region ?_
          refine wl_val (g_assign (v := .bool false) rfl) rfl ?_
          refine wl_nil ?_
          refine hK64 _ _ ?_
          refine w_ret ?_
          repeat first | with_reducible refine q_then ?_ | with_reducible refine q_block ?_
          exact ret1 rfl (by decide) ⟨_, hm, rfl, toExt hB61⟩
        · replace hm := hm.2 h63
          refine w_skip ?_
          refine hK53 _ _ ?_
          refine w_region ?_
          refine wl_val (g_move (v := .int .i64 v41) rfl) rfl ?_
          obtain ⟨hg65, hm⟩ := hm
          refine wl_val (g_add (a := v41) (b := 1) rfl rfl hg65) rfl ?_
          refine wl_val (g_assign (v := .int .i64 (v41 + 1)) rfl) rfl ?_
          refine wl_nil ?_
          exact ⟨((v41 + 1)), hm.2, ⟨rfl, rfl, rfl, trivial⟩, ⟨hm.1, hB61, hS62⟩⟩
      · replace hm := hm.2 h52
        refine w_exit ?_
        exact ⟨(), trivial, ⟨hm, hB47, hS48⟩⟩
    · rintro _ b_ w66 ⟨hm, hB67, hS68⟩
      show Wp _ _ _ _ (upds b_ []) w66
      refine w_seq fun K69 hK69 => ?_
      refine w_region ?_
      refine wl_val (g_assign (v := .bool true) rfl) rfl ?_
      refine wl_nil ?_
      refine hK69 _ _ ?_
      refine w_ret ?_
      repeat first | with_reducible refine q_then ?_ | with_reducible refine q_block ?_
      exact ret1 rfl (by decide) ⟨_, hm, rfl, toExt hB67⟩

theorem m_spec_l08Start_fn {w : World}  {Q : (List Int) → Prop} (p0 : Int) (hm : m_spec_l08Start p0 Q) :
    Fn Try.prog 60 #[.int .i64 p0] w (fun v w' => ∃ (r0 : List Int) (a0 : Option Addr) (n0 c0 : Nat), Q r0 ∧ v = .slice a0 n0 c0 ∧ Ext w w' ∧ Sep w' w.heap.size [oS 3 a0 n0 c0 r0]) := by
  unfold m_spec_l08Start at hm
  have hB0 := Below.refl w.heap.size w
  have hS0 : Sep w w.heap.size [] := Sep.nil (Nat.le_refl _)
  refine fn_of_wp Try.func60 rfl (by kernel_rfl) (Nat.le_of_ble_eq_true rfl) ?_
  refine w_seq fun K1 hK1 => ?_
  refine w_region ?_
  refine wl_val (g_assign (v := .slice none 0 0) rfl) rfl ?_
  refine wl_nil ?_
  refine hK1 _ _ ?_
  refine w_seq fun K2 hK2 => ?_
  refine w_region ?_
  refine wl_step rfl (q_lit0 (α := Int) rfl SL39 hS0) ?_
  rintro _ w3 ⟨a4, rfl, hS6, hE5⟩
  have hB8 := hB0.trans (Ext.stp hE5 hS0.base)
  refine wl_val (g_assign (v := .slice a4 0 0) rfl) rfl ?_
  refine wl_nil ?_
  refine hK2 _ _ ?_
  refine w_cut (σ := List Int × Option Addr × Nat × Nat) (fun ⟨x72, a73, n74, c75⟩ => [(3, .slice a73 n74 c75)]) (fun ⟨x72, a73, n74, c75⟩ w' => m_spec_l08Start_K0 Q x72 ∧ Below w.heap.size w w' ∧ Sep w' w.heap.size [oS 3 a73 n74 c75 (x72 : List Int)]) ?_ ?_
  · refine w_seq fun K77 hK77 => ?_
    refine w_region ?_
    refine wl_val (g_assign (v := .int .i64 0) rfl) rfl ?_
    refine wl_nil ?_
    refine hK77 _ _ ?_
    refine w_block ?_
    obtain ⟨I83, μ84, h085, hr86⟩ := hm
    refine w_for (σ := List Int × Option Addr × Nat × Nat × Int) (fun ⟨x78, a79, n80, c81, v82⟩ => [(0, .int .i64 p0), (3, .slice a79 n80 c81), (4, .int .i64 v82)]) (fun ⟨x78, a79, n80, c81, v82⟩ w' => I83 x78 v82 ∧ Below w.heap.size w w' ∧ Sep w' w.heap.size [oS 3 a79 n80 c81 (x78 : List Int)]) (fun ⟨x78, a79, n80, c81, v82⟩ => μ84 x78 v82) ([], a4, 0, 0, 0) ⟨rfl, rfl, rfl, trivial⟩ ⟨h085, hB8, hS6⟩ ?_
    rintro ⟨x78, a79, n80, c81, v82⟩ b_ w87 ⟨hi_, hB88, hS89⟩
    show Wp _ _ _ _ (upds b_ [(0, .int .i64 p0), (3, .slice a79 n80 c81), (4, .int .i64 v82)]) w87
    have hm := hr86 x78 v82 hi_
    refine w_seq fun K91 hK91 => ?_
    refine w_seq fun K92 hK92 => ?_
    refine w_region ?_
    refine wl_val (g_move (v := .int .i64 v82) rfl) rfl ?_
    refine wl_val (g_move (v := .int .i64 p0) rfl) rfl ?_
    refine wl_val (g_lss (a := v82) (b := p0) rfl rfl) rfl ?_
    refine wl_nil ?_
    refine hK92 _ _ ?_
    refine w_condI (p := v82 < p0) (b := (decide (v82 < p0))) rfl decide_eq_true_iff (fun h93 => ?_) (fun h93 => ?_)
    · replace hm := hm.1 h93
      refine w_skip ?_
      refine hK91 _ _ ?_
      refine w_seq fun K94 hK94 => ?_
      refine w_block ?_
      refine w_region ?_
      refine wl_val (g_move (v := .slice a79 n80 c81) rfl) rfl ?_
      refine wl_val (g_move (v := .int .i64 v82) rfl) rfl ?_
      refine wl_step rfl (q_lit1 (y := (v82 : Int)) SL39 rfl rfl (by decide) hS89) ?_
      rintro _ w95 ⟨a96, rfl, hS98, hE97⟩
      have hB100 := hB88.trans (Ext.stp hE97 hS89.base)
      have hS106 := hS98.f1
      obtain ⟨hg107, hm⟩ := hm
      refine wl_step rfl (q_append SL39 rfl rfl hS106 (oS.vw hS106.g1) hg107 (by decide)) ?_
      rintro _ w101 ⟨a102, c103, rfl, hS105, hb104⟩
      have hB108 := hB100.trans hb104
      refine wl_val (g_assign (v := .slice a102 (n80 + 1) c103) rfl) rfl ?_
      refine wl_nil ?_
      refine hK94 _ _ ?_
      refine w_region ?_
      refine wl_val (g_move (v := .int .i64 v82) rfl) rfl ?_
      obtain ⟨hg109, hm⟩ := hm
      refine wl_val (g_add (a := v82) (b := 1) rfl rfl hg109) rfl ?_
      refine wl_val (g_assign (v := .int .i64 (v82 + 1)) rfl) rfl ?_
      refine wl_nil ?_
      have hS110 := hS105.f1
      have hS111 := hS110.tail
      exact ⟨((x78 ++ ([v82])), a102, (n80 + 1), c103, (v82 + 1)), hm.2, ⟨rfl, rfl, rfl, trivial⟩, ⟨hm.1, hB108, hS111⟩⟩
    · replace hm := hm.2 h93
      refine w_exit ?_
      exact ⟨(x78, a79, n80, c81), ⟨rfl, trivial⟩, ⟨hm, hB88, hS89⟩⟩
  · rintro ⟨x72, a73, n74, c75⟩ b_ w112 ⟨hm, hB113, hS114⟩
    show Wp _ _ _ _ (upds b_ [(3, .slice a73 n74 c75)]) w112
    refine w_seq fun K115 hK115 => ?_
    refine w_region ?_
    refine wl_val (g_move (v := .slice a73 n74 c75) rfl) rfl ?_
    refine wl_val (g_assign (v := .slice a73 n74 c75) rfl) rfl ?_
    refine wl_nil ?_
    refine hK115 _ _ ?_
    refine w_ret ?_
    repeat first | with_reducible refine q_then ?_ | with_reducible refine q_block ?_
    exact ret1 rfl (by decide) ⟨_, _, _, _, hm, rfl, toExt hB113, hS114⟩

theorem m_spec_OrderOk_fn {w : World} {a0 : Option Addr} {n0 c0 : Nat} {p0 : List Int} {Q : Bool → Prop} (hp0 : Vw w.heap.size w a0 n0 c0 p0) (hm : m_spec_OrderOk p0 Q) :
    Fn Try.prog 62 #[.slice a0 n0 c0] w (fun v w' => ∃ (r0 : Bool), Q r0 ∧ v = .bool r0 ∧ Ext w w') := by
  unfold m_spec_OrderOk at hm
  have hB0 := Below.refl w.heap.size w
  have hS0 : Sep w w.heap.size [] := Sep.nil (Nat.le_refl _)
  refine fn_of_wp Try.func62 rfl (by kernel_rfl) (Nat.le_of_ble_eq_true rfl) ?_
  refine w_seq fun K1 hK1 => ?_
  refine w_region ?_
  refine wl_val (g_assign (v := .bool false) rfl) rfl ?_
  refine wl_nil ?_
  refine hK1 _ _ ?_
  refine w_cut (σ := Unit) (fun _ => [(0, .slice a0 n0 c0)]) (fun _ w' => m_spec_OrderOk_K1 p0 Q ∧ Below w.heap.size w w' ∧ Sep w' w.heap.size []) ?_ ?_
  · refine w_seq fun K3 hK3 => ?_
    refine w_region ?_
    refine wl_val (g_assign (v := .int .i64 0) rfl) rfl ?_
    refine wl_nil ?_
    refine hK3 _ _ ?_
    refine w_block ?_
    obtain ⟨I159, μ160, h0161, hr162⟩ := hm
    refine w_for (σ := Int) (fun v158 => [(0, .slice a0 n0 c0), (3, .int .i64 v158)]) (fun v158 w' => I159 v158 ∧ Below w.heap.size w w' ∧ Sep w' w.heap.size []) (fun v158 => μ160 v158) (0) ⟨rfl, rfl, trivial⟩ ⟨h0161, hB0, hS0⟩ ?_
    rintro v158 b_ w163 ⟨hi_, hB164, hS165⟩
    show Wp _ _ _ _ (upds b_ [(0, .slice a0 n0 c0), (3, .int .i64 v158)]) w163
    have hm := hr162 v158 hi_
    refine w_seq fun K167 hK167 => ?_
    refine w_seq fun K168 hK168 => ?_
    refine w_region ?_
    refine wl_val (g_move (v := .int .i64 v158) rfl) rfl ?_
    refine wl_val (g_move (v := .slice a0 n0 c0) rfl) rfl ?_
    refine wl_val (q_len SL39 rfl (Vw.len (hp0.bel hB164))) rfl ?_
    refine wl_val (g_lss (a := v158) (b := (p0.length : Int)) rfl rfl) rfl ?_
    refine wl_nil ?_
    refine hK168 _ _ ?_
    refine w_condI (p := v158 < (p0.length : Int)) (b := (decide (v158 < (p0.length : Int)))) rfl decide_eq_true_iff (fun h169 => ?_) (fun h169 => ?_)
    · replace hm := hm.1 h169
      refine w_skip ?_
      refine hK167 _ _ ?_
      refine w_cut (σ := Unit) (fun _ => [(0, .slice a0 n0 c0), (3, .int .i64 v158)]) (fun _ w' => m_spec_OrderOk_K0 v158 (fun v158' => I159 v158' ∧ μ160 v158' < μ160 v158) ∧ Below w.heap.size w w' ∧ Sep w' w.heap.size []) ?_ ?_
      · refine w_block ?_
        refine w_seq fun K171 hK171 => ?_
        refine w_seq fun K172 hK172 => ?_
        refine w_region ?_
        refine wl_val (g_move (v := .slice a0 n0 c0) rfl) rfl ?_
        refine wl_val (g_move (v := .int .i64 v158) rfl) rfl ?_
        obtain ⟨hg173, hm⟩ := hm
        refine wl_val (q_index (i := v158) SL39 rfl rfl (hp0.bel hB164) hg173) rfl ?_
        refine wl_val (q_load (i := v158) (v := .int .i64 (p0[(Int.toNat v158)]!)) ON3 (hp0.bel hB164) hg173 rfl rfl) rfl ?_
        refine wl_val (g_move (v := .slice a0 n0 c0) rfl) rfl ?_
        refine wl_val (q_len SL39 rfl (Vw.len (hp0.bel hB164))) rfl ?_
        obtain ⟨hg174, hm⟩ := hm
        refine wl_val (g_sub (a := (p0.length : Int)) (b := 1) rfl rfl hg174) rfl ?_
        refine wl_step rfl (g_call (vs := #[.int .i64 (p0[(Int.toNat v158)]!), .int .i64 0, .int .i64 ((p0.length : Int) - 1)]) CF53 (args3 rfl rfl rfl) (m_spec_l01In_fn (p0[(Int.toNat v158)]!) 0 ((p0.length : Int) - 1) hm)) ?_
        rintro _ w175 ⟨r178, hm, rfl, hE176⟩
        have hB179 := hB164.trans (Ext.stp hE176 hS165.base)
        have hS180 := hS165.ext hE176
        refine wl_val (g_not (a := r178) rfl) rfl ?_
        refine wl_nil ?_
        refine hK172 _ _ ?_
        refine w_condI (p := ¬ (r178 = true)) (b := (!r178)) rfl (i_not Iff.rfl) (fun h181 => ?_) (fun h181 => ?_)
        · replace hm := hm.1 h181
          refine w_seq fun K182 hK182 => ?_
          refine w_region ?_
          refine wl_val (g_assign (v := .bool false) rfl) rfl ?_
          refine wl_nil ?_
          refine hK182 _ _ ?_
          refine w_ret ?_
          repeat first | with_reducible refine q_then ?_ | with_reducible refine q_block ?_
          exact ret1 rfl (by decide) ⟨_, hm, rfl, toExt hB179⟩
        · replace hm := hm.2 h181
          refine w_skip ?_
          refine hK171 _ _ ?_
          refine w_seq fun K183 hK183 => ?_
          refine w_region ?_
          refine wl_val (g_assign (v := .int .i64 0) rfl) rfl ?_
          refine wl_nil ?_
          refine hK183 _ _ ?_
          refine w_block ?_
          obtain ⟨I185, μ186, h0187, hr188⟩ := hm
          refine w_for (σ := Int) (fun v184 => [(0, .slice a0 n0 c0), (3, .int .i64 v158), (4, .int .i64 v184)]) (fun v184 w' => I185 v184 ∧ Below w.heap.size w w' ∧ Sep w' w.heap.size []) (fun v184 => μ186 v184) (0) ⟨rfl, rfl, rfl, trivial⟩ ⟨h0187, hB179, hS180⟩ ?_
          rintro v184 b_ w189 ⟨hi_, hB190, hS191⟩
          show Wp _ _ _ _ (upds b_ [(0, .slice a0 n0 c0), (3, .int .i64 v158), (4, .int .i64 v184)]) w189
          have hm := hr188 v184 hi_
          refine w_seq fun K193 hK193 => ?_
          refine w_seq fun K194 hK194 => ?_
          refine w_region ?_
          refine wl_val (g_move (v := .int .i64 v184) rfl) rfl ?_
          refine wl_val (g_move (v := .int .i64 v158) rfl) rfl ?_
          refine wl_val (g_lss (a := v184) (b := v158) rfl rfl) rfl ?_
          refine wl_nil ?_
          refine hK194 _ _ ?_
          refine w_condI (p := v184 < v158) (b := (decide (v184 < v158))) rfl decide_eq_true_iff (fun h195 => ?_) (fun h195 => ?_)
          · replace hm := hm.1 h195
            refine w_skip ?_
            refine hK193 _ _ ?_
            refine w_seq fun K196 hK196 => ?_
            refine w_block ?_
            refine w_seq fun K197 hK197 => ?_
            refine w_draw (X := Ext) (Y := Ext) [] MIX (by decide +kernel) rfl Ext.refl (fun _ _ _ => Ext.trans) (fun _ _ _ => Chg.trans) (fun _ _ h => Ext.chg h _) (fun w198 hE199 => ?_)
            have hB200 := hB190.trans (Ext.stp hE199 hS191.base)
            have hS201 := hS191.ext hE199
            refine ⟨.slice a0 n0 c0, fun w202 hX203 => od_plain rfl (by have hS204 := hS201.ext hX203; have hB205 := hB200.trans (Ext.stp hX203 hS201.base); exact is_ext (g_move (v := .slice a0 n0 c0) rfl)), ?_⟩
            refine ⟨.int .i64 v184, fun w206 hX207 => od_plain rfl (by have hS208 := hS201.ext hX207; have hB209 := hB200.trans (Ext.stp hX207 hS201.base); exact is_ext (g_move (v := .int .i64 v184) rfl)), ?_⟩
            obtain ⟨hg214, hm⟩ := hm
            refine ⟨.pointer (some ((adr a0).add ((Int.toNat v184) * El.m Int))), fun w210 hX211 => od_plain rfl (by have hS212 := hS201.ext hX211; have hB213 := hB200.trans (Ext.stp hX211 hS201.base); exact is_ext (q_index (i := v184) SL39 rfl rfl (hp0.bel hB213) hg214)), ?_⟩
            refine ⟨.int .i64 (p0[(Int.toNat v184)]!), fun w215 hX216 => od_plain rfl (by have hS217 := hS201.ext hX216; have hB218 := hB200.trans (Ext.stp hX216 hS201.base); exact is_ext (q_load (i := v184) (v := .int .i64 (p0[(Int.toNat v184)]!)) ON3 (hp0.bel hB218) hg214 rfl rfl)), ?_⟩
            refine ⟨.slice a0 n0 c0, fun w219 hX220 => od_plain rfl (by have hS221 := hS201.ext hX220; have hB222 := hB200.trans (Ext.stp hX220 hS201.base); exact is_ext (g_move (v := .slice a0 n0 c0) rfl)), ?_⟩
            refine ⟨.int .i64 v158, fun w223 hX224 => od_plain rfl (by have hS225 := hS201.ext hX224; have hB226 := hB200.trans (Ext.stp hX224 hS201.base); exact is_ext (g_move (v := .int .i64 v158) rfl)), ?_⟩
            obtain ⟨hg231, hm⟩ := hm
            refine ⟨.pointer (some ((adr a0).add ((Int.toNat v158) * El.m Int))), fun w227 hX228 => od_plain rfl (by have hS229 := hS201.ext hX228; have hB230 := hB200.trans (Ext.stp hX228 hS201.base); exact is_ext (q_index (i := v158) SL39 rfl rfl (hp0.bel hB230) hg231)), ?_⟩
            refine ⟨.int .i64 (p0[(Int.toNat v158)]!), fun w232 hX233 => od_plain rfl (by have hS234 := hS201.ext hX233; have hB235 := hB200.trans (Ext.stp hX233 hS201.base); exact is_ext (q_load (i := v158) (v := .int .i64 (p0[(Int.toNat v158)]!)) ON3 (hp0.bel hB235) hg231 rfl rfl)), ?_⟩
            refine ⟨.bool (decide (p0[(Int.toNat v184)]! = p0[(Int.toNat v158)]!)), fun w236 hX237 => od_plain rfl (by have hS238 := hS201.ext hX237; have hB239 := hB200.trans (Ext.stp hX237 hS201.base); exact is_ext (g_eql (a := p0[(Int.toNat v184)]!) (b := p0[(Int.toNat v158)]!) rfl rfl)), ?_⟩
            intro w240 hX241
            have hB242 := hB200.trans (Ext.stp hX241 hS201.base)
            have hS243 := hS201.ext hX241
            refine hK197 _ _ ?_
            refine w_condI (p := p0[(Int.toNat v184)]! = p0[(Int.toNat v158)]!) (b := (decide (p0[(Int.toNat v184)]! = p0[(Int.toNat v158)]!))) rfl decide_eq_true_iff (fun h244 => ?_) (fun h244 => ?_)
            · replace hm := hm.1 h244
              refine w_seq fun K245 hK245 => ?_
              refine w_region ?_
              refine wl_val (g_assign (v := .bool false) rfl) rfl ?_
              refine wl_nil ?_
              refine hK245 _ _ ?_
              refine w_ret ?_
              repeat first | with_reducible refine q_then ?_ | with_reducible refine q_block ?_
              exact ret1 rfl (by decide) ⟨_, hm, rfl, toExt hB242⟩
            · replace hm := hm.2 h244
              refine w_skip ?_
              refine hK196 _ _ ?_
              refine w_region ?_
              refine wl_val (g_move (v := .int .i64 v184) rfl) rfl ?_
              obtain ⟨hg246, hm⟩ := hm
              refine wl_val (g_add (a := v184) (b := 1) rfl rfl hg246) rfl ?_
              refine wl_val (g_assign (v := .int .i64 (v184 + 1)) rfl) rfl ?_
              refine wl_nil ?_
              exact ⟨((v184 + 1)), hm.2, ⟨rfl, rfl, rfl, trivial⟩, ⟨hm.1, hB242, hS243⟩⟩
          · replace hm := hm.2 h195
            refine w_exit ?_
            exact ⟨(), ⟨rfl, rfl, trivial⟩, ⟨hm, hB190, hS191⟩⟩
      · rintro _ b_ w247 ⟨hm, hB248, hS249⟩
        show Wp _ _ _ _ (upds b_ [(0, .slice a0 n0 c0), (3, .int .i64 v158)]) w247
        refine w_region ?_
        refine wl_val (g_move (v := .int .i64 v158) rfl) rfl ?_
        obtain ⟨hg250, hm⟩ := hm
        refine wl_val (g_add (a := v158) (b := 1) rfl rfl hg250) rfl ?_
        refine wl_val (g_assign (v := .int .i64 (v158 + 1)) rfl) rfl ?_
        refine wl_nil ?_
        exact ⟨((v158 + 1)), hm.2, ⟨rfl, rfl, trivial⟩, ⟨hm.1, hB248, hS249⟩⟩
    · replace hm := hm.2 h169
      refine w_exit ?_
      exact ⟨(), ⟨rfl, trivial⟩, ⟨hm, hB164, hS165⟩⟩
  · rintro _ b_ w251 ⟨hm, hB252, hS253⟩
    show Wp _ _ _ _ (upds b_ [(0, .slice a0 n0 c0)]) w251
    refine w_seq fun K254 hK254 => ?_
    refine w_region ?_
    refine wl_val (g_move (v := .slice a0 n0 c0) rfl) rfl ?_
    refine wl_val (q_len SL39 rfl (Vw.len (hp0.bel hB252))) rfl ?_
    refine wl_step rfl (g_call (vs := #[.int .i64 (p0.length : Int), .int .i64 1, .int .i64 7]) CF53 (args3 rfl rfl rfl) (m_spec_l01In_fn (p0.length : Int) 1 7 hm)) ?_
    rintro _ w255 ⟨r258, hm, rfl, hE256⟩
    have hB259 := hB252.trans (Ext.stp hE256 hS253.base)
    have hS260 := hS253.ext hE256
    refine wl_val (g_assign (v := .bool r258) rfl) rfl ?_
    refine wl_nil ?_
    refine hK254 _ _ ?_
    refine w_ret ?_
    repeat first | with_reducible refine q_then ?_ | with_reducible refine q_block ?_
    exact ret1 rfl (by decide) ⟨_, hm, rfl, toExt hB259⟩

theorem m_spec_SwapAt_fn {w : World} {a0 : Option Addr} {n0 c0 : Nat} {p0 : List Int} {Q : (List Int) → Bool → Prop} (hp0 : Vw w.heap.size w a0 n0 c0 p0) (p1 : Int) (hm : m_spec_SwapAt p0 p1 Q) :
    Fn Try.prog 61 #[.slice a0 n0 c0, .int .i64 p1] w (fun v w' => ∃ (r0 : List Int) (a0 : Option Addr) (n0 c0 : Nat) (r1 : Bool), Q r0 r1 ∧ v = .tuple #[.slice a0 n0 c0, .bool r1] ∧ Ext w w' ∧ Sep w' w.heap.size [oS 3 a0 n0 c0 r0]) := by
  unfold m_spec_SwapAt at hm
  have hB0 := Below.refl w.heap.size w
  have hS0 : Sep w w.heap.size [] := Sep.nil (Nat.le_refl _)
  refine fn_of_wp Try.func61 rfl (by kernel_rfl) (Nat.le_of_ble_eq_true rfl) ?_
  refine w_seq fun K1 hK1 => ?_
  refine w_region ?_
  refine wl_val (g_assign (v := .slice none 0 0) rfl) rfl ?_
  refine wl_val (g_assign (v := .bool false) rfl) rfl ?_
  refine wl_nil ?_
  refine hK1 _ _ ?_
  refine w_seq fun K2 hK2 => ?_
  refine w_region ?_
  refine wl_step rfl (q_lit0 (α := Int) rfl SL39 hS0) ?_
  rintro _ w3 ⟨a4, rfl, hS6, hE5⟩
  have hB8 := hB0.trans (Ext.stp hE5 hS0.base)
  refine wl_val (g_move (v := .slice a0 n0 c0) rfl) rfl ?_
  obtain ⟨hg14, hm⟩ := hm
  refine wl_step rfl (q_append SL39 rfl rfl hS6 (hp0.bel hB8) hg14 (by decide)) ?_
  rintro _ w9 ⟨a10, c11, rfl, hS13, hb12⟩
  have hB15 := hB8.trans hb12
  refine wl_val (g_assign (v := .slice a10 (0 + n0) c11) rfl) rfl ?_
  refine wl_nil ?_
  refine hK2 _ _ ?_
  refine w_seq fun K16 hK16 => ?_
  refine w_seq fun K17 hK17 => ?_
  refine w_region ?_
  refine wl_val (g_move (v := .slice a0 n0 c0) rfl) rfl ?_
  refine wl_step rfl (g_call (vs := #[.slice a0 n0 c0]) CF62 (args1 rfl) (m_spec_OrderOk_fn ((hp0.bel hB15).up hS13) hm)) ?_
  rintro _ w18 ⟨r21, hm, rfl, hE19⟩
  have hB22 := hB15.trans (Ext.stp hE19 hS13.base)
  have hS23 := hS13.ext hE19
  refine wl_val (g_not (a := r21) rfl) rfl ?_
  refine wl_val (g_move (v := .bool (!r21)) rfl) rfl ?_
  refine wl_guard (c := (!r21) = false) (val := .int .i64 p1) (b := ((!r21) == false)) (gv_some rfl rfl rfl) beq_iff_eq (fun hc24 => ?_) ?_
  · have hq0 : ¬ (¬ (r21 = true)) := (i_neg (i_not Iff.rfl) hc24)
    exact g_move (v := .int .i64 p1) rfl
  refine wl_guard (c := (!r21) = false) (val := .slice a0 n0 c0) (b := ((!r21) == false)) (gv_some rfl rfl rfl) beq_iff_eq (fun hc25 => ?_) ?_
  · have hq0 : ¬ (¬ (r21 = true)) := (i_neg (i_not Iff.rfl) hc25)
    exact g_move (v := .slice a0 n0 c0) rfl
  refine wl_guard (c := (!r21) = false) (val := .int .i64 (p0.length : Int)) (b := ((!r21) == false)) (gv_some rfl rfl rfl) beq_iff_eq (fun hc26 => ?_) ?_
  · have hq0 : ¬ (¬ (r21 = true)) := (i_neg (i_not Iff.rfl) hc26)
    exact q_len SL39 (if_pos hc26) (Vw.len (hp0.bel hB22))
  obtain ⟨hg28, hm⟩ := hm
  refine wl_guard (c := (!r21) = false) (val := .int .i64 ((p0.length : Int) - 2)) (b := ((!r21) == false)) (gv_some rfl rfl rfl) beq_iff_eq (fun hc27 => ?_) ?_
  · have hq0 : ¬ (¬ (r21 = true)) := (i_neg (i_not Iff.rfl) hc27)
    exact g_sub (a := (p0.length : Int)) (b := 2) (if_pos hc27) rfl (hg28 hq0)
  obtain ⟨r30, hk31, hm⟩ := hm
  refine wl_guardE (X := Ext) (c := (!r21) = false) (val := .bool r30) (Ext.refl _) (b := ((!r21) == false)) (gv_some rfl rfl rfl) beq_iff_eq (fun hc29 => ?_) (fun w32 hE33 => ?_)
  · have hq0 : ¬ (¬ (r21 = true)) := (i_neg (i_not Iff.rfl) hc29)
    exact (g_call (vs := #[.int .i64 p1, .int .i64 0, .int .i64 ((p0.length : Int) - 2)]) CF53 (args3 (if_pos hc29) rfl (if_pos hc29)) ((m_spec_l01In_fn p1 0 ((p0.length : Int) - 2) (hk31 hq0)).mono fun _ _ ⟨_, h1, h2, h3⟩ => ⟨by rw [h2, h1], h3⟩))
  have hB34 := hB22.trans (Ext.stp hE33 hS23.base)
  have hS35 := hS23.ext hE33
  refine wl_guard (c := (!r21) = false) (val := .bool (!r30)) (b := ((!r21) == false)) (gv_some rfl rfl rfl) beq_iff_eq (fun hc36 => ?_) ?_
  · have hq0 : ¬ (¬ (r21 = true)) := (i_neg (i_not Iff.rfl) hc36)
    exact g_not (a := r30) (if_pos hc36)
  refine wl_val (g_pick_or (b := (!r21)) (q := (!r30)) rfl rfl) rfl ?_
  refine wl_nil ?_
  refine hK17 _ _ ?_
  refine w_condI (p := ((¬ (r21 = true)) ∨ (¬ (r30 = true)))) (b := ((!r21) || (!r30))) rfl (i_or (i_not Iff.rfl) (i_not Iff.rfl)) (fun h37 => ?_) (fun h37 => ?_)
  · replace hm := hm.1 h37
    refine w_seq fun K38 hK38 => ?_
    refine w_region ?_
    refine wl_val (g_move (v := .slice a10 (0 + n0) c11) rfl) rfl ?_
    refine wl_val (g_assign (v := .slice a10 (0 + n0) c11) rfl) rfl ?_
    refine wl_val (g_assign (v := .bool false) rfl) rfl ?_
    refine wl_nil ?_
    refine hK38 _ _ ?_
    refine w_ret ?_
    repeat first | with_reducible refine q_then ?_ | with_reducible refine q_block ?_
    exact ret2 rfl (by decide) (by decide) ⟨_, _, _, _, _, hm, rfl, toExt hB34, hS35⟩
  · replace hm := hm.2 h37
    refine w_skip ?_
    refine hK16 _ _ ?_
    refine w_seq fun K39 hK39 => ?_
    refine w_region ?_
    refine wl_val (g_move (v := .slice a10 (0 + n0) c11) rfl) rfl ?_
    refine wl_val (g_move (v := .int .i64 p1) rfl) rfl ?_
    refine wl_val (g_move (v := .slice a0 n0 c0) rfl) rfl ?_
    refine wl_val (g_move (v := .int .i64 p1) rfl) rfl ?_
    obtain ⟨hg40, hm⟩ := hm
    refine wl_val (g_add (a := p1) (b := 1) rfl rfl hg40) rfl ?_
    obtain ⟨hg41, hm⟩ := hm
    refine wl_val (q_index (i := (p1 + 1)) SL39 rfl rfl (hp0.bel hB34) hg41) rfl ?_
    refine wl_val (q_load (i := (p1 + 1)) (v := .int .i64 (p0[(Int.toNat (p1 + 1))]!)) ON3 (hp0.bel hB34) hg41 rfl rfl) rfl ?_
    obtain ⟨hg42, hm⟩ := hm
    refine wl_val (q_index (i := p1) SL39 rfl rfl (oS.vw hS35.g0) hg42) rfl ?_
    refine wl_step rfl (q_store (i := p1) (v := (p0[(Int.toNat (p1 + 1))]! : Int)) hS35 ON3.sz hg42 rfl rfl rfl) ?_
    rintro _ w43 ⟨rfl, hS44, hb45⟩
    have hB46 := hB34.trans hb45
    refine wl_nil ?_
    refine hK39 _ _ ?_
    refine w_seq fun K47 hK47 => ?_
    refine w_region ?_
    refine wl_val (g_move (v := .slice a10 (0 + n0) c11) rfl) rfl ?_
    refine wl_val (g_move (v := .int .i64 p1) rfl) rfl ?_
    obtain ⟨hg48, hm⟩ := hm
    refine wl_val (g_add (a := p1) (b := 1) rfl rfl hg48) rfl ?_
    refine wl_val (g_move (v := .slice a0 n0 c0) rfl) rfl ?_
    refine wl_val (g_move (v := .int .i64 p1) rfl) rfl ?_
    obtain ⟨hg49, hm⟩ := hm
    refine wl_val (q_index (i := p1) SL39 rfl rfl (hp0.bel hB46) hg49) rfl ?_
    refine wl_val (q_load (i := p1) (v := .int .i64 (p0[(Int.toNat p1)]!)) ON3 (hp0.bel hB46) hg49 rfl rfl) rfl ?_
    obtain ⟨hg50, hm⟩ := hm
    refine wl_val (q_index (i := (p1 + 1)) SL39 rfl rfl (oS.vw hS44.g0) hg50) rfl ?_
    refine wl_step rfl (q_store (i := (p1 + 1)) (v := (p0[(Int.toNat p1)]! : Int)) hS44 ON3.sz hg50 rfl rfl rfl) ?_
    rintro _ w51 ⟨rfl, hS52, hb53⟩
    have hB54 := hB46.trans hb53
    refine wl_nil ?_
    refine hK47 _ _ ?_
    refine w_seq fun K55 hK55 => ?_
    refine w_region ?_
    refine wl_val (g_move (v := .slice a10 (0 + n0) c11) rfl) rfl ?_
    refine wl_val (g_assign (v := .slice a10 (0 + n0) c11) rfl) rfl ?_
    refine wl_val (g_assign (v := .bool true) rfl) rfl ?_
    refine wl_nil ?_
    refine hK55 _ _ ?_
    refine w_ret ?_
    repeat first | with_reducible refine q_then ?_ | with_reducible refine q_block ?_
    exact ret2 rfl (by decide) (by decide) ⟨_, _, _, _, _, hm, rfl, toExt hB54, hS52⟩

theorem m_spec_PairsOf_fn {w : World} {a1 : Option Addr} {n1 c1 : Nat} {p1 : List Cross} {Q : (List (List Int)) → Prop} (p0 : Int) (hp1 : Vw w.heap.size w a1 n1 c1 p1) (hm : m_spec_PairsOf p0 p1 Q) :
    Fn Try.prog 65 #[.int .i64 p0, .slice a1 n1 c1] w (fun v w' => ∃ (r0 : List (List Int)) (a0 : Option Addr) (n0 c0 : Nat) (y0 : List (Hd Int)), Q r0 ∧ ers y0 = r0 ∧ v = .slice a0 n0 c0 ∧ Ext w w' ∧ Sep w' w.heap.size [oS 39 a0 n0 c0 y0, oT 3 y0]) := by
  unfold m_spec_PairsOf at hm
  have hB0 := Below.refl w.heap.size w
  have hS0 : Sep w w.heap.size [] := Sep.nil (Nat.le_refl _)
  refine fn_of_wp Try.func65 rfl (by kernel_rfl) (Nat.le_of_ble_eq_true rfl) ?_
  refine w_seq fun K1 hK1 => ?_
  refine w_region ?_
  refine wl_val (g_assign (v := .slice none 0 0) rfl) rfl ?_
  refine wl_nil ?_
  refine hK1 _ _ ?_
  refine w_seq fun K2 hK2 => ?_
  refine w_region ?_
  refine wl_step rfl (q_lit0 (α := (Hd Int)) rfl SL37 hS0) ?_
  rintro _ w3 ⟨a4, rfl, hS6, hE5⟩
  have hB8 := hB0.trans (Ext.stp hE5 hS0.base)
  have hS9 := hS6.noRows (δ := Hd Int) (E := 3)
  have he11 : ers ([] : List (Hd Int)) = ([] : List (List Int)) := rfl
  refine wl_val (g_assign (v := .slice a4 0 0) rfl) rfl ?_
  refine wl_nil ?_
  refine hK2 _ _ ?_
  refine w_seq fun K13 hK13 => ?_
  refine w_seq fun K14 hK14 => ?_
  refine w_region ?_
  refine wl_val (g_move (v := .int .i64 p0) rfl) rfl ?_
  refine wl_val (g_move (v := .slice a1 n1 c1) rfl) rfl ?_
  refine wl_step rfl (g_call (vs := #[.int .i64 p0, .slice a1 n1 c1]) CF59 (args2 rfl rfl) (m_spec_CrossesOk_fn p0 ((hp1.bel hB8).up hS9) hm)) ?_
  rintro _ w15 ⟨r18, hm, rfl, hE16⟩
  have hB19 := hB8.trans (Ext.stp hE16 hS9.base)
  have hS20 := hS9.ext hE16
  refine wl_val (g_not (a := r18) rfl) rfl ?_
  refine wl_nil ?_
  refine hK14 _ _ ?_
  refine w_condI (p := ¬ (r18 = true)) (b := (!r18)) rfl (i_not Iff.rfl) (fun h21 => ?_) (fun h21 => ?_)
  · replace hm := hm.1 h21
    refine w_seq fun K22 hK22 => ?_
    refine w_region ?_
    refine wl_val (g_move (v := .slice a4 0 0) rfl) rfl ?_
    refine wl_val (g_assign (v := .slice a4 0 0) rfl) rfl ?_
    refine wl_nil ?_
    refine hK22 _ _ ?_
    refine w_ret ?_
    have hS23 := hS20.f1
    repeat first | with_reducible refine q_then ?_ | with_reducible refine q_block ?_
    exact ret1 rfl (by decide) ⟨_, _, _, _, _, hm, he11, rfl, toExt hB19, hS23⟩
  · replace hm := hm.2 h21
    refine w_skip ?_
    refine hK13 _ _ ?_
    refine w_seq fun K24 hK24 => ?_
    refine w_region ?_
    refine wl_val (g_move (v := .int .i64 p0) rfl) rfl ?_
    refine wl_step rfl (g_call (vs := #[.int .i64 p0]) CF60 (args1 rfl) (m_spec_l08Start_fn p0 hm)) ?_
    rintro _ w25 ⟨r28, a29, n30, c31, hm, rfl, hE26, hN27⟩
    have hS33 := hS20.call1 hE26 hN27
    have hB34 := hB19.trans (Ext.stp hE26 hS20.base)
    refine wl_val (g_assign (v := .slice a29 n30 c31) rfl) rfl ?_
    refine wl_nil ?_
    refine hK24 _ _ ?_
    refine w_cut (σ := List (List Int) × Option Addr × Nat × Nat × List (Hd Int)) (fun ⟨x208, a209, n210, c211, y212⟩ => [(5, .slice a209 n210 c211)]) (fun ⟨x208, a209, n210, c211, y212⟩ w' => m_spec_PairsOf_K1 Q x208 ∧ ers y212 = x208 ∧ Below w.heap.size w w' ∧ Sep w' w.heap.size [oS 39 a209 n210 c211 (y212 : List (Hd Int)), oT 3 (y212 : List (Hd Int))]) ?_ ?_
    · refine w_seq fun K215 hK215 => ?_
      refine w_region ?_
      refine wl_val (g_assign (v := .int .i64 0) rfl) rfl ?_
      refine wl_nil ?_
      refine hK215 _ _ ?_
      refine w_block ?_
      have hS227 := hS33.f1
      have hS228 := hS227.f2
      obtain ⟨I229, μ230, h0231, hr232⟩ := hm
      refine w_for (σ := List (List Int) × Option Addr × Nat × Nat × List (Hd Int) × List Int × Option Addr × Nat × Nat × Int) (fun ⟨x216, a217, n218, c219, y220, x222, a223, n224, c225, v226⟩ => [(1, .slice a1 n1 c1), (5, .slice a217 n218 c219), (6, .slice a223 n224 c225), (7, .int .i64 v226)]) (fun ⟨x216, a217, n218, c219, y220, x222, a223, n224, c225, v226⟩ w' => I229 x216 x222 v226 ∧ ers y220 = x216 ∧ Below w.heap.size w w' ∧ Sep w' w.heap.size [oS 39 a217 n218 c219 (y220 : List (Hd Int)), oT 3 (y220 : List (Hd Int)), oS 3 a223 n224 c225 (x222 : List Int)]) (fun ⟨x216, a217, n218, c219, y220, x222, a223, n224, c225, v226⟩ => μ230 x216 x222 v226) ([], a4, 0, 0, [], r28, a29, n30, c31, 0) ⟨rfl, rfl, rfl, rfl, trivial⟩ ⟨h0231, he11, hB34, hS228⟩ ?_
      rintro ⟨x216, a217, n218, c219, y220, x222, a223, n224, c225, v226⟩ b_ w233 ⟨hi_, he221, hB234, hS235⟩
      show Wp _ _ _ _ (upds b_ [(1, .slice a1 n1 c1), (5, .slice a217 n218 c219), (6, .slice a223 n224 c225), (7, .int .i64 v226)]) w233
      have hm := hr232 x216 x222 v226 hi_
      refine w_seq fun K237 hK237 => ?_
      refine w_seq fun K238 hK238 => ?_
      refine w_region ?_
      refine wl_val (g_move (v := .int .i64 v226) rfl) rfl ?_
      refine wl_val (g_move (v := .slice a1 n1 c1) rfl) rfl ?_
      refine wl_val (q_len SL24 rfl (Vw.len (hp1.bel hB234))) rfl ?_
      refine wl_val (g_lss (a := v226) (b := (p1.length : Int)) rfl rfl) rfl ?_
      refine wl_nil ?_
      refine hK238 _ _ ?_
      refine w_condI (p := v226 < (p1.length : Int)) (b := (decide (v226 < (p1.length : Int)))) rfl decide_eq_true_iff (fun h239 => ?_) (fun h239 => ?_)
      · replace hm := hm.1 h239
        refine w_skip ?_
        refine hK237 _ _ ?_
        refine w_seq fun K240 hK240 => ?_
        refine w_block ?_
        refine w_seq fun K241 hK241 => ?_
        refine w_region ?_
        refine wl_val (g_move (v := .slice a223 n224 c225) rfl) rfl ?_
        refine wl_val (g_move (v := .slice a1 n1 c1) rfl) rfl ?_
        refine wl_val (g_move (v := .int .i64 v226) rfl) rfl ?_
        obtain ⟨hg242, hm⟩ := hm
        refine wl_val (q_index (i := v226) SL24 rfl rfl (hp1.bel hB234) hg242) rfl ?_
        refine wl_val (g_fieldAddr (q := (adr a1).add ((Int.toNat v226) * El.m Cross)) FL56_0 ON3 rfl) rfl ?_
        refine wl_val (q_loadF (i := v226) (j := 0) (v := .int .i64 (p1[(Int.toNat v226)]!.1)) ON3 (hp1.bel hB234) hg242 rfl rfl) rfl ?_
        obtain ⟨hg243, hm⟩ := hm
        refine wl_val (q_index (i := p1[(Int.toNat v226)]!.1) SL39 rfl rfl (oS.vw hS235.g2) hg243) rfl ?_
        refine wl_val (q_load (i := p1[(Int.toNat v226)]!.1) (v := .int .i64 (x222[(Int.toNat (p1[(Int.toNat v226)]!.1))]!)) ON3 (oS.vw hS235.g2) hg243 rfl rfl) rfl ?_
        refine wl_val (g_assign (v := .int .i64 (x222[(Int.toNat (p1[(Int.toNat v226)]!.1))]!)) rfl) rfl ?_
        refine wl_nil ?_
        refine hK241 _ _ ?_
        refine w_seq fun K244 hK244 => ?_
        refine w_region ?_
        refine wl_val (g_move (v := .slice a223 n224 c225) rfl) rfl ?_
        refine wl_val (g_move (v := .slice a1 n1 c1) rfl) rfl ?_
        refine wl_val (g_move (v := .int .i64 v226) rfl) rfl ?_
        obtain ⟨hg245, hm⟩ := hm
        refine wl_val (q_index (i := v226) SL24 rfl rfl (hp1.bel hB234) hg245) rfl ?_
        refine wl_val (g_fieldAddr (q := (adr a1).add ((Int.toNat v226) * El.m Cross)) FL56_0 ON3 rfl) rfl ?_
        refine wl_val (q_loadF (i := v226) (j := 0) (v := .int .i64 (p1[(Int.toNat v226)]!.1)) ON3 (hp1.bel hB234) hg245 rfl rfl) rfl ?_
        obtain ⟨hg246, hm⟩ := hm
        refine wl_val (g_add (a := p1[(Int.toNat v226)]!.1) (b := 1) rfl rfl hg246) rfl ?_
        obtain ⟨hg247, hm⟩ := hm
        refine wl_val (q_index (i := (p1[(Int.toNat v226)]!.1 + 1)) SL39 rfl rfl (oS.vw hS235.g2) hg247) rfl ?_
        refine wl_val (q_load (i := (p1[(Int.toNat v226)]!.1 + 1)) (v := .int .i64 (x222[(Int.toNat (p1[(Int.toNat v226)]!.1 + 1))]!)) ON3 (oS.vw hS235.g2) hg247 rfl rfl) rfl ?_
        refine wl_val (g_assign (v := .int .i64 (x222[(Int.toNat (p1[(Int.toNat v226)]!.1 + 1))]!)) rfl) rfl ?_
        refine wl_nil ?_
        refine hK244 _ _ ?_
        refine w_cut (σ := Int × Int) (fun ⟨v248, v249⟩ => [(1, .slice a1 n1 c1), (5, .slice a217 n218 c219), (6, .slice a223 n224 c225), (7, .int .i64 v226), (8, .int .i64 v248), (9, .int .i64 v249)]) (fun ⟨v248, v249⟩ w' => m_spec_PairsOf_K0 p1 x216 x222 v226 (fun x216' x222' v226' => I229 x216' x222' v226' ∧ μ230 x216' x222' v226' < μ230 x216 x222 v226) v248 v249 ∧ Below w.heap.size w w' ∧ Sep w' w.heap.size [oS 39 a217 n218 c219 (y220 : List (Hd Int)), oT 3 (y220 : List (Hd Int)), oS 3 a223 n224 c225 (x222 : List Int)]) ?_ ?_
        · refine w_seq fun K251 hK251 => ?_
          refine w_region ?_
          refine wl_val (g_move (v := .slice a1 n1 c1) rfl) rfl ?_
          refine wl_val (g_move (v := .int .i64 v226) rfl) rfl ?_
          obtain ⟨hg252, hm⟩ := hm
          refine wl_val (q_index (i := v226) SL24 rfl rfl (hp1.bel hB234) hg252) rfl ?_
          refine wl_val (g_fieldAddr (q := (adr a1).add ((Int.toNat v226) * El.m Cross)) FL56_1 ON4 rfl) rfl ?_
          refine wl_val (q_loadF (i := v226) (j := 1) (v := .bool (p1[(Int.toNat v226)]!.2)) ON4 (hp1.bel hB234) hg252 rfl rfl) rfl ?_
          refine wl_val (g_not (a := (p1[(Int.toNat v226)]!.2)) rfl) rfl ?_
          refine wl_nil ?_
          refine hK251 _ _ ?_
          refine w_condI (p := ¬ ((p1[(Int.toNat v226)]!.2) = true)) (b := (!(p1[(Int.toNat v226)]!.2))) rfl (i_not Iff.rfl) (fun h253 => ?_) (fun h253 => ?_)
          · replace hm := hm.1 h253
            refine w_region ?_
            refine wl_val (g_move (v := .int .i64 (x222[(Int.toNat (p1[(Int.toNat v226)]!.1 + 1))]!)) rfl) rfl ?_
            refine wl_val (g_move (v := .int .i64 (x222[(Int.toNat (p1[(Int.toNat v226)]!.1))]!)) rfl) rfl ?_
            refine wl_val (g_assign (v := .int .i64 (x222[(Int.toNat (p1[(Int.toNat v226)]!.1 + 1))]!)) rfl) rfl ?_
            refine wl_val (g_assign (v := .int .i64 (x222[(Int.toNat (p1[(Int.toNat v226)]!.1))]!)) rfl) rfl ?_
            refine wl_nil ?_
            exact ⟨(x222[(Int.toNat (p1[(Int.toNat v226)]!.1 + 1))]!, x222[(Int.toNat (p1[(Int.toNat v226)]!.1))]!), ⟨rfl, rfl, rfl, rfl, rfl, rfl, trivial⟩, ⟨hm, hB234, hS235⟩⟩
          · replace hm := hm.2 h253
            refine w_skip ?_
            exact ⟨(x222[(Int.toNat (p1[(Int.toNat v226)]!.1))]!, x222[(Int.toNat (p1[(Int.toNat v226)]!.1 + 1))]!), ⟨rfl, rfl, rfl, rfl, rfl, rfl, trivial⟩, ⟨hm, hB234, hS235⟩⟩
        · rintro ⟨v248, v249⟩ b_ w254 ⟨hm, hB255, hS256⟩
          show Wp _ _ _ _ (upds b_ [(1, .slice a1 n1 c1), (5, .slice a217 n218 c219), (6, .slice a223 n224 c225), (7, .int .i64 v226), (8, .int .i64 v248), (9, .int .i64 v249)]) w254
          refine w_seq fun K257 hK257 => ?_
          refine w_region ?_
          refine wl_val (g_move (v := .slice a217 n218 c219) rfl) rfl ?_
          refine wl_val (g_move (v := .int .i64 v248) rfl) rfl ?_
          refine wl_val (g_move (v := .int .i64 v249) rfl) rfl ?_
          refine wl_step rfl (q_lit2 (y := (v248 : Int)) (y' := (v249 : Int)) SL39 rfl rfl rfl rfl (by decide) hS256) ?_
          rintro _ w258 ⟨a259, rfl, hS261, hE260⟩
          have hB263 := hB255.trans (Ext.stp hE260 hS256.base)
          have hn269 := oS.len hS261.g0
          have hS270 := hS261.oneRow
          have he268 : ers [((a259, 2, [v248, v249]) : Hd Int)] = [[v248, v249]] := rfl
          refine wl_step rfl (q_lit1 (y := ((a259, 2, [v248, v249]) : Hd Int)) SL37 rfl (hd_cells hn269) (by decide) hS270) ?_
          rintro _ w264 ⟨a265, rfl, hS267, hE266⟩
          have hB273 := hB263.trans (Ext.stp hE266 hS270.base)
          have hS280 := hS267.f2
          obtain ⟨hg281, hm⟩ := hm
          have hl282 : (y220).length + ([(a259, 2, [v248, v249])]).length ≤ 1099511627776 := by have h1 := congrArg List.length he221; have h2 := congrArg List.length he268; have h3 := hg281; simp only [ers, List.length_map, List.length_append, List.length_cons, List.length_nil, List.length_replicate, List.length_set] at h1 h2 h3 ⊢; omega
          refine wl_step rfl (q_append SL37 rfl rfl hS280 (oS.vw hS280.g1) hl282 (by decide)) ?_
          rintro _ w275 ⟨a276, c277, rfl, hS279, hb278⟩
          have hB283 := hB273.trans hb278
          have hS284 := hS279.f1
          have hS285 := hS284.tail
          have hS286 := hS285.f2
          have hS287 := hS286.f2
          have hS288 := hS287.catRows
          have he289 : ers (y220 ++ ([(a259, 2, [v248, v249])])) = (x216 ++ ([[v248, v249]])) := by rw [← he221, ← he268]; exact List.map_append
          refine wl_val (g_assign (v := .slice a276 (n218 + 1) c277) rfl) rfl ?_
          refine wl_nil ?_
          refine hK257 _ _ ?_
          refine w_region ?_
          refine wl_val (g_move (v := .slice a223 n224 c225) rfl) rfl ?_
          refine wl_val (g_move (v := .slice a1 n1 c1) rfl) rfl ?_
          refine wl_val (g_move (v := .int .i64 v226) rfl) rfl ?_
          obtain ⟨hg290, hm⟩ := hm
          refine wl_val (q_index (i := v226) SL24 rfl rfl (hp1.bel hB283) hg290) rfl ?_
          refine wl_val (g_fieldAddr (q := (adr a1).add ((Int.toNat v226) * El.m Cross)) FL56_0 ON3 rfl) rfl ?_
          refine wl_val (q_loadF (i := v226) (j := 0) (v := .int .i64 (p1[(Int.toNat v226)]!.1)) ON3 (hp1.bel hB283) hg290 rfl rfl) rfl ?_
          refine wl_step rfl (g_call (vs := #[.slice a223 n224 c225, .int .i64 (p1[(Int.toNat v226)]!.1)]) CF61 (args2 rfl rfl) (m_spec_SwapAt_fn (oS.vw hS288.g2) (p1[(Int.toNat v226)]!.1) hm)) ?_
          rintro _ w291 ⟨r294, a295, n296, c297, r299, hm, rfl, hE292, hN293⟩
          have hS300 := hS288.call1 hE292 hN293
          have hB301 := hB283.trans (Ext.stp hE292 hS288.base)
          refine wl_val (g_move (v := .tuple #[.slice a295 n296 c297, .bool r299]) rfl) rfl ?_
          refine wl_val (g_extract (vs := #[.slice a295 n296 c297, .bool r299]) rfl rfl) rfl ?_
          refine wl_val (g_extract (vs := #[.slice a295 n296 c297, .bool r299]) rfl rfl) rfl ?_
          refine wl_val (g_assign (v := .slice a295 n296 c297) rfl) rfl ?_
          refine wl_nil ?_
          refine hK240 _ _ ?_
          refine w_region ?_
          refine wl_val (g_move (v := .int .i64 v226) rfl) rfl ?_
          obtain ⟨hg302, hm⟩ := hm
          refine wl_val (g_add (a := v226) (b := 1) rfl rfl hg302) rfl ?_
          refine wl_val (g_assign (v := .int .i64 (v226 + 1)) rfl) rfl ?_
          refine wl_nil ?_
          have hS303 := hS300.f3
          have hS304 := hS303.tail
          have hS305 := hS304.f1
          have hS306 := hS305.f2
          exact ⟨((x216 ++ ([[v248, v249]])), a276, (n218 + 1), c277, (y220 ++ ([(a259, 2, [v248, v249])])), r294, a295, n296, c297, (v226 + 1)), hm.2, ⟨rfl, rfl, rfl, rfl, trivial⟩, ⟨hm.1, he289, hB301, hS306⟩⟩
      · replace hm := hm.2 h239
        refine w_exit ?_
        have hS307 := hS235.f2
        have hS308 := hS307.tail
        exact ⟨(x216, a217, n218, c219, y220), ⟨rfl, trivial⟩, ⟨hm, he221, hB234, hS308⟩⟩
    · rintro ⟨x208, a209, n210, c211, y212⟩ b_ w309 ⟨hm, he213, hB310, hS311⟩
      show Wp _ _ _ _ (upds b_ [(5, .slice a209 n210 c211)]) w309
      refine w_seq fun K312 hK312 => ?_
      refine w_region ?_
      refine wl_val (g_move (v := .slice a209 n210 c211) rfl) rfl ?_
      refine wl_val (g_assign (v := .slice a209 n210 c211) rfl) rfl ?_
      refine wl_nil ?_
      refine hK312 _ _ ?_
      refine w_ret ?_
      repeat first | with_reducible refine q_then ?_ | with_reducible refine q_block ?_
      exact ret1 rfl (by decide) ⟨_, _, _, _, _, hm, he213, rfl, toExt hB310, hS311⟩

theorem m_spec_TwistTable_fn {w : World} {a1 : Option Addr} {n1 c1 : Nat} {p1 : List Cross} {Q : (List (List Int)) → Prop} (p0 : Int) (hp1 : Vw w.heap.size w a1 n1 c1 p1) (hm : m_spec_TwistTable p0 p1 Q) :
    Fn Try.prog 39 #[.int .i64 p0, .slice a1 n1 c1] w (fun v w' => ∃ (r0 : List (List Int)) (a0 : Option Addr) (n0 c0 : Nat) (y0 : List (Hd Int)), Q r0 ∧ ers y0 = r0 ∧ v = .slice a0 n0 c0 ∧ Ext w w' ∧ Sep w' w.heap.size [oS 39 a0 n0 c0 y0, oT 3 y0]) := by
  unfold m_spec_TwistTable at hm
  have hB0 := Below.refl w.heap.size w
  have hS0 : Sep w w.heap.size [] := Sep.nil (Nat.le_refl _)
  refine fn_of_wp Try.func39 rfl (by kernel_rfl) (Nat.le_of_ble_eq_true rfl) ?_
  refine w_seq fun K1 hK1 => ?_
  refine w_region ?_
  refine wl_val (g_assign (v := .slice none 0 0) rfl) rfl ?_
  refine wl_nil ?_
  refine hK1 _ _ ?_
  refine w_seq fun K2 hK2 => ?_
  refine w_region ?_
  refine wl_step rfl (q_lit0 (α := (Hd Int)) rfl SL37 hS0) ?_
  rintro _ w3 ⟨a4, rfl, hS6, hE5⟩
  have hB8 := hB0.trans (Ext.stp hE5 hS0.base)
  have hS9 := hS6.noRows (δ := Hd Int) (E := 3)
  have he11 : ers ([] : List (Hd Int)) = ([] : List (List Int)) := rfl
  refine wl_val (g_assign (v := .slice a4 0 0) rfl) rfl ?_
  refine wl_nil ?_
  refine hK2 _ _ ?_
  refine w_seq fun K13 hK13 => ?_
  refine w_seq fun K14 hK14 => ?_
  refine w_region ?_
  refine wl_val (g_move (v := .int .i64 p0) rfl) rfl ?_
  refine wl_val (g_move (v := .slice a1 n1 c1) rfl) rfl ?_
  refine wl_step rfl (g_call (vs := #[.int .i64 p0, .slice a1 n1 c1]) CF59 (args2 rfl rfl) (m_spec_CrossesOk_fn p0 ((hp1.bel hB8).up hS9) hm)) ?_
  rintro _ w15 ⟨r18, hm, rfl, hE16⟩
  have hB19 := hB8.trans (Ext.stp hE16 hS9.base)
  have hS20 := hS9.ext hE16
  refine wl_val (g_not (a := r18) rfl) rfl ?_
  refine wl_nil ?_
  refine hK14 _ _ ?_
  refine w_condI (p := ¬ (r18 = true)) (b := (!r18)) rfl (i_not Iff.rfl) (fun h21 => ?_) (fun h21 => ?_)
  · replace hm := hm.1 h21
    refine w_seq fun K22 hK22 => ?_
    refine w_region ?_
    refine wl_val (g_move (v := .slice a4 0 0) rfl) rfl ?_
    refine wl_val (g_assign (v := .slice a4 0 0) rfl) rfl ?_
    refine wl_nil ?_
    refine hK22 _ _ ?_
    refine w_ret ?_
    have hS23 := hS20.f1
    repeat first | with_reducible refine q_then ?_ | with_reducible refine q_block ?_
    exact ret1 rfl (by decide) ⟨_, _, _, _, _, hm, he11, rfl, toExt hB19, hS23⟩
  · replace hm := hm.2 h21
    refine w_skip ?_
    refine hK13 _ _ ?_
    refine w_cut (σ := List (List Int) × Option Addr × Nat × Nat × List (Hd Int)) (fun ⟨x128, a129, n130, c131, y132⟩ => [(0, .int .i64 p0), (1, .slice a1 n1 c1), (5, .slice a129 n130 c131)]) (fun ⟨x128, a129, n130, c131, y132⟩ w' => m_spec_TwistTable_K2 p0 p1 Q x128 ∧ ers y132 = x128 ∧ Below w.heap.size w w' ∧ Sep w' w.heap.size [oS 39 a129 n130 c131 (y132 : List (Hd Int)), oT 3 (y132 : List (Hd Int))]) ?_ ?_
    · refine w_seq fun K135 hK135 => ?_
      refine w_region ?_
      refine wl_val (g_assign (v := .int .i64 0) rfl) rfl ?_
      refine wl_nil ?_
      refine hK135 _ _ ?_
      refine w_block ?_
      have hS143 := hS20.f1
      obtain ⟨I144, μ145, h0146, hr147⟩ := hm
      refine w_for (σ := List (List Int) × Option Addr × Nat × Nat × List (Hd Int) × Int) (fun ⟨x136, a137, n138, c139, y140, v142⟩ => [(0, .int .i64 p0), (1, .slice a1 n1 c1), (5, .slice a137 n138 c139), (6, .int .i64 v142)]) (fun ⟨x136, a137, n138, c139, y140, v142⟩ w' => I144 x136 v142 ∧ ers y140 = x136 ∧ Below w.heap.size w w' ∧ Sep w' w.heap.size [oS 39 a137 n138 c139 (y140 : List (Hd Int)), oT 3 (y140 : List (Hd Int))]) (fun ⟨x136, a137, n138, c139, y140, v142⟩ => μ145 x136 v142) ([], a4, 0, 0, [], 0) ⟨rfl, rfl, rfl, rfl, trivial⟩ ⟨h0146, he11, hB19, hS143⟩ ?_
      rintro ⟨x136, a137, n138, c139, y140, v142⟩ b_ w148 ⟨hi_, he141, hB149, hS150⟩
      show Wp _ _ _ _ (upds b_ [(0, .int .i64 p0), (1, .slice a1 n1 c1), (5, .slice a137 n138 c139), (6, .int .i64 v142)]) w148
      have hm := hr147 x136 v142 hi_
      refine w_seq fun K152 hK152 => ?_
      refine w_seq fun K153 hK153 => ?_
      refine w_region ?_
      refine wl_val (g_move (v := .int .i64 v142) rfl) rfl ?_
      refine wl_val (g_move (v := .int .i64 p0) rfl) rfl ?_
      refine wl_val (g_lss (a := v142) (b := p0) rfl rfl) rfl ?_
      refine wl_nil ?_
      refine hK153 _ _ ?_
      refine w_condI (p := v142 < p0) (b := (decide (v142 < p0))) rfl decide_eq_true_iff (fun h154 => ?_) (fun h154 => ?_)
      · replace hm := hm.1 h154
        refine w_skip ?_
        refine hK152 _ _ ?_
        refine w_seq fun K155 hK155 => ?_
        refine w_block ?_
        refine w_region ?_
        refine wl_val (g_move (v := .slice a137 n138 c139) rfl) rfl ?_
        refine wl_val (g_move (v := .int .i64 p0) rfl) rfl ?_
        obtain ⟨hg156, hm⟩ := hm
        refine wl_step rfl (q_make (y := (0 : Int)) SL39 rfl rfl hg156.1 hg156.2 (by decide) hS150) ?_
        rintro _ w157 ⟨a158, rfl, hS160, hE159⟩
        have hB162 := hB149.trans (Ext.stp hE159 hS150.base)
        have hn168 := oS.len hS160.g0
        have hS169 := hS160.oneRow
        have he167 : ers [((a158, (Int.toNat p0), List.replicate (Int.toNat p0) (0 : Int)) : Hd Int)] = [List.replicate (Int.toNat p0) (0 : Int)] := rfl
        refine wl_step rfl (q_lit1 (y := ((a158, (Int.toNat p0), List.replicate (Int.toNat p0) (0 : Int)) : Hd Int)) SL37 rfl (hd_cells hn168) (by decide) hS169) ?_
        rintro _ w163 ⟨a164, rfl, hS166, hE165⟩
        have hB172 := hB162.trans (Ext.stp hE165 hS169.base)
        have hS179 := hS166.f2
        obtain ⟨hg180, hm⟩ := hm
        have hl181 : (y140).length + ([(a158, (Int.toNat p0), List.replicate (Int.toNat p0) (0 : Int))]).length ≤ 1099511627776 := by have h1 := congrArg List.length he141; have h2 := congrArg List.length he167; have h3 := hg180; simp only [ers, List.length_map, List.length_append, List.length_cons, List.length_nil, List.length_replicate, List.length_set] at h1 h2 h3 ⊢; omega
        refine wl_step rfl (q_append SL37 rfl rfl hS179 (oS.vw hS179.g1) hl181 (by decide)) ?_
        rintro _ w174 ⟨a175, c176, rfl, hS178, hb177⟩
        have hB182 := hB172.trans hb177
        have hS183 := hS178.f1
        have hS184 := hS183.tail
        have hS185 := hS184.f2
        have hS186 := hS185.f2
        have hS187 := hS186.catRows
        have he188 : ers (y140 ++ ([(a158, (Int.toNat p0), List.replicate (Int.toNat p0) (0 : Int))])) = (x136 ++ ([List.replicate (Int.toNat p0) (0 : Int)])) := by rw [← he141, ← he167]; exact List.map_append
        refine wl_val (g_assign (v := .slice a175 (n138 + 1) c176) rfl) rfl ?_
        refine wl_nil ?_
        refine hK155 _ _ ?_
        refine w_region ?_
        refine wl_val (g_move (v := .int .i64 v142) rfl) rfl ?_
        obtain ⟨hg189, hm⟩ := hm
        refine wl_val (g_add (a := v142) (b := 1) rfl rfl hg189) rfl ?_
        refine wl_val (g_assign (v := .int .i64 (v142 + 1)) rfl) rfl ?_
        refine wl_nil ?_
        have hS190 := hS187.f1
        exact ⟨((x136 ++ ([List.replicate (Int.toNat p0) (0 : Int)])), a175, (n138 + 1), c176, (y140 ++ ([(a158, (Int.toNat p0), List.replicate (Int.toNat p0) (0 : Int))])), (v142 + 1)), hm.2, ⟨rfl, rfl, rfl, rfl, trivial⟩, ⟨hm.1, he188, hB182, hS190⟩⟩
      · replace hm := hm.2 h154
        refine w_exit ?_
        exact ⟨(x136, a137, n138, c139, y140), ⟨rfl, rfl, rfl, trivial⟩, ⟨hm, he141, hB149, hS150⟩⟩
    · rintro ⟨x128, a129, n130, c131, y132⟩ b_ w191 ⟨hm, he133, hB192, hS193⟩
      show Wp _ _ _ _ (upds b_ [(0, .int .i64 p0), (1, .slice a1 n1 c1), (5, .slice a129 n130 c131)]) w191
      refine w_seq fun K194 hK194 => ?_
      refine w_region ?_
      refine wl_val (g_move (v := .int .i64 p0) rfl) rfl ?_
      refine wl_val (g_move (v := .slice a1 n1 c1) rfl) rfl ?_
      refine wl_step rfl (g_call (vs := #[.int .i64 p0, .slice a1 n1 c1]) CF65 (args2 rfl rfl) (m_spec_PairsOf_fn p0 ((hp1.bel hB192).up hS193) hm)) ?_
      rintro _ w195 ⟨r198, a199, n200, c201, y202, hm, he203, rfl, hE196, hN197⟩
      have hS207 := hS193.call2 hE196 hN197
      have hB208 := hB192.trans (Ext.stp hE196 hS193.base)
      refine wl_val (g_assign (v := .slice a199 n200 c201) rfl) rfl ?_
      refine wl_nil ?_
      refine hK194 _ _ ?_
      refine w_cut (σ := List (List Int) × List (Hd Int)) (fun ⟨x965, y966⟩ => [(5, .slice a129 n130 c131)]) (fun ⟨x965, y966⟩ w' => m_spec_TwistTable_K1 Q x965 ∧ ers y966 = x965 ∧ Below w.heap.size w w' ∧ Sep w' w.heap.size [oS 39 a129 n130 c131 (y966 : List (Hd Int)), oT 3 (y966 : List (Hd Int))]) ?_ ?_
      · refine w_seq fun K969 hK969 => ?_
        refine w_region ?_
        refine wl_val (g_assign (v := .int .i64 0) rfl) rfl ?_
        refine wl_nil ?_
        refine hK969 _ _ ?_
        refine w_block ?_
        have hS974 := hS207.f1
        have hS975 := hS974.f1
        have hS976 := hS975.f3
        have hS977 := hS976.f3
        obtain ⟨I978, μ979, h0980, hr981⟩ := hm
        refine w_for (σ := List (List Int) × List (Hd Int) × Int) (fun ⟨x970, y971, v973⟩ => [(1, .slice a1 n1 c1), (5, .slice a129 n130 c131), (7, .slice a199 n200 c201), (8, .int .i64 v973)]) (fun ⟨x970, y971, v973⟩ w' => I978 x970 v973 ∧ ers y971 = x970 ∧ Below w.heap.size w w' ∧ Sep w' w.heap.size [oS 39 a129 n130 c131 (y971 : List (Hd Int)), oT 3 (y971 : List (Hd Int)), oS 39 a199 n200 c201 (y202 : List (Hd Int)), oT 3 (y202 : List (Hd Int))]) (fun ⟨x970, y971, v973⟩ => μ979 x970 v973) (x128, y132, 0) ⟨rfl, rfl, rfl, rfl, trivial⟩ ⟨h0980, he133, hB208, hS977⟩ ?_
        rintro ⟨x970, y971, v973⟩ b_ w982 ⟨hi_, he972, hB983, hS984⟩
        show Wp _ _ _ _ (upds b_ [(1, .slice a1 n1 c1), (5, .slice a129 n130 c131), (7, .slice a199 n200 c201), (8, .int .i64 v973)]) w982
        have hm := hr981 x970 v973 hi_
        refine w_seq fun K986 hK986 => ?_
        refine w_seq fun K987 hK987 => ?_
        refine w_region ?_
        refine wl_val (g_move (v := .int .i64 v973) rfl) rfl ?_
        refine wl_val (g_move (v := .slice a199 n200 c201) rfl) rfl ?_
        refine wl_val (q_len SL37 rfl (Tv.len (oT.vw hS984.g2 hS984.g3 he203))) rfl ?_
        refine wl_val (g_lss (a := v973) (b := (r198.length : Int)) rfl rfl) rfl ?_
        refine wl_nil ?_
        refine hK987 _ _ ?_
        refine w_condI (p := v973 < (r198.length : Int)) (b := (decide (v973 < (r198.length : Int)))) rfl decide_eq_true_iff (fun h988 => ?_) (fun h988 => ?_)
        · replace hm := hm.1 h988
          refine w_skip ?_
          refine hK986 _ _ ?_
          refine w_seq fun K989 hK989 => ?_
          refine w_block ?_
          refine w_seq fun K990 hK990 => ?_
          refine w_region ?_
          refine wl_val (g_assign (v := .int .i64 (-1)) rfl) rfl ?_
          refine wl_nil ?_
          refine hK990 _ _ ?_
          refine w_cut (σ := Int) (fun v991 => [(1, .slice a1 n1 c1), (5, .slice a129 n130 c131), (7, .slice a199 n200 c201), (8, .int .i64 v973), (9, .int .i64 v991)]) (fun v991 w' => m_spec_TwistTable_K0 r198 x970 v973 (fun x970' v973' => I978 x970' v973' ∧ μ979 x970' v973' < μ979 x970 v973) v991 ∧ Below w.heap.size w w' ∧ Sep w' w.heap.size [oS 39 a129 n130 c131 (y971 : List (Hd Int)), oT 3 (y971 : List (Hd Int)), oS 39 a199 n200 c201 (y202 : List (Hd Int)), oT 3 (y202 : List (Hd Int))]) ?_ ?_
          · refine w_seq fun K993 hK993 => ?_
            refine w_region ?_
            refine wl_val (g_move (v := .slice a1 n1 c1) rfl) rfl ?_
            refine wl_val (g_move (v := .int .i64 v973) rfl) rfl ?_
            obtain ⟨hg994, hm⟩ := hm
            refine wl_val (q_index (i := v973) SL24 rfl rfl (hp1.bel hB983) hg994) rfl ?_
            refine wl_val (g_fieldAddr (q := (adr a1).add ((Int.toNat v973) * El.m Cross)) FL56_1 ON4 rfl) rfl ?_
            refine wl_val (q_loadF (i := v973) (j := 1) (v := .bool (p1[(Int.toNat v973)]!.2)) ON4 (hp1.bel hB983) hg994 rfl rfl) rfl ?_
            refine wl_nil ?_
            refine hK993 _ _ ?_
            refine w_condI (p := (p1[(Int.toNat v973)]!.2) = true) (b := (p1[(Int.toNat v973)]!.2)) rfl Iff.rfl (fun h995 => ?_) (fun h995 => ?_)
            · replace hm := hm.1 h995
              refine w_region ?_
              refine wl_val (g_assign (v := .int .i64 1) rfl) rfl ?_
              refine wl_nil ?_
              exact ⟨(1), ⟨rfl, rfl, rfl, rfl, rfl, trivial⟩, ⟨hm, hB983, hS984⟩⟩
            · replace hm := hm.2 h995
              refine w_skip ?_
              exact ⟨((-1)), ⟨rfl, rfl, rfl, rfl, rfl, trivial⟩, ⟨hm, hB983, hS984⟩⟩
          · rintro v991 b_ w996 ⟨hm, hB997, hS998⟩
            show Wp _ _ _ _ (upds b_ [(1, .slice a1 n1 c1), (5, .slice a129 n130 c131), (7, .slice a199 n200 c201), (8, .int .i64 v973), (9, .int .i64 v991)]) w996
            refine w_seq fun K999 hK999 => ?_
            refine w_draw (X := Ext) (Y := Ext) [0, 0, 0, 0, 0, 0, 0, 0, 0, 0, 0, 0, 0, 0, 0, 0, 0, 0, 0, 0, 0, 0, 0, 0, 0, 0, 0, 0, 0, 0, 0, 0, 0, 0, 0, 1] MIX (by decide +kernel) rfl Ext.refl (fun _ _ _ => Ext.trans) (fun _ _ _ => Chg.trans) (fun _ _ h => Ext.chg h _) (fun w1000 hE1001 => ?_)
            have hB1002 := hB997.trans (Ext.stp hE1001 hS998.base)
            have hS1003 := hS998.ext hE1001
            refine ⟨.slice a129 n130 c131, fun w1004 hX1005 => od_plain rfl (by have hS1006 := hS1003.ext hX1005; have hB1007 := hB1002.trans (Ext.stp hX1005 hS1003.base); exact is_ext (g_move (v := .slice a129 n130 c131) rfl)), ?_⟩
            refine ⟨.slice a199 n200 c201, fun w1008 hX1009 => od_plain rfl (by have hS1010 := hS1003.ext hX1009; have hB1011 := hB1002.trans (Ext.stp hX1009 hS1003.base); exact is_ext (g_move (v := .slice a199 n200 c201) rfl)), ?_⟩
            refine ⟨.int .i64 v973, fun w1012 hX1013 => od_plain rfl (by have hS1014 := hS1003.ext hX1013; have hB1015 := hB1002.trans (Ext.stp hX1013 hS1003.base); exact is_ext (g_move (v := .int .i64 v973) rfl)), ?_⟩
            obtain ⟨hg1020, hm⟩ := hm
            refine ⟨.pointer (some ((adr a199).add ((Int.toNat v973) * El.m (Hd Int)))), fun w1016 hX1017 => od_plain rfl (by have hS1018 := hS1003.ext hX1017; have hB1019 := hB1002.trans (Ext.stp hX1017 hS1003.base); exact is_ext (q_index (i := v973) SL37 rfl rfl (Tv.o (oT.vw hS1018.g2 hS1018.g3 he203)) (Tv.g (oT.vw hS1018.g2 hS1018.g3 he203) hg1020))), ?_⟩
            refine ⟨.slice ((y202[(Int.toNat v973)]!).1) ((y202[(Int.toNat v973)]!).2.2.length) ((y202[(Int.toNat v973)]!).2.1), fun w1021 hX1022 => od_plain rfl (by have hS1023 := hS1003.ext hX1022; have hB1024 := hB1002.trans (Ext.stp hX1022 hS1003.base); exact is_ext (q_load (i := v973) (v := .slice ((y202[(Int.toNat v973)]!).1) ((y202[(Int.toNat v973)]!).2.2.length) ((y202[(Int.toNat v973)]!).2.1)) ON39 (Tv.o (oT.vw hS1023.g2 hS1023.g3 he203)) (Tv.g (oT.vw hS1023.g2 hS1023.g3 he203) hg1020) rfl rfl)), ?_⟩
            obtain ⟨hg1029, hm⟩ := hm
            refine ⟨.pointer (some ((adr ((y202[(Int.toNat v973)]!).1)).add (0 * El.m Int))), fun w1025 hX1026 => od_plain rfl (by have hS1027 := hS1003.ext hX1026; have hB1028 := hB1002.trans (Ext.stp hX1026 hS1003.base); exact is_ext (q_index (i := 0) SL39 rfl rfl (Tv.row (oT.vw hS1027.g2 hS1027.g3 he203) hg1020) hg1029)), ?_⟩
            refine ⟨.int .i64 ((r198[(Int.toNat v973)]!)[0]!), fun w1030 hX1031 => od_plain rfl (by have hS1032 := hS1003.ext hX1031; have hB1033 := hB1002.trans (Ext.stp hX1031 hS1003.base); exact is_ext (q_load (i := 0) (v := .int .i64 ((r198[(Int.toNat v973)]!)[0]!)) ON3 (Tv.row (oT.vw hS1032.g2 hS1032.g3 he203) hg1020) hg1029 rfl rfl)), ?_⟩
            obtain ⟨hg1038, hm⟩ := hm
            refine ⟨.pointer (some ((adr a129).add ((Int.toNat ((r198[(Int.toNat v973)]!)[0]!)) * El.m (Hd Int)))), fun w1034 hX1035 => od_plain rfl (by have hS1036 := hS1003.ext hX1035; have hB1037 := hB1002.trans (Ext.stp hX1035 hS1003.base); exact is_ext (q_index (i := (r198[(Int.toNat v973)]!)[0]!) SL37 rfl rfl (Tv.o (oT.vw hS1036.g0 hS1036.g1 he972)) (Tv.g (oT.vw hS1036.g0 hS1036.g1 he972) hg1038))), ?_⟩
            refine ⟨.slice ((y971[(Int.toNat ((r198[(Int.toNat v973)]!)[0]!))]!).1) ((y971[(Int.toNat ((r198[(Int.toNat v973)]!)[0]!))]!).2.2.length) ((y971[(Int.toNat ((r198[(Int.toNat v973)]!)[0]!))]!).2.1), fun w1039 hX1040 => od_plain rfl (by have hS1041 := hS1003.ext hX1040; have hB1042 := hB1002.trans (Ext.stp hX1040 hS1003.base); exact is_ext (q_load (i := (r198[(Int.toNat v973)]!)[0]!) (v := .slice ((y971[(Int.toNat ((r198[(Int.toNat v973)]!)[0]!))]!).1) ((y971[(Int.toNat ((r198[(Int.toNat v973)]!)[0]!))]!).2.2.length) ((y971[(Int.toNat ((r198[(Int.toNat v973)]!)[0]!))]!).2.1)) ON39 (Tv.o (oT.vw hS1041.g0 hS1041.g1 he972)) (Tv.g (oT.vw hS1041.g0 hS1041.g1 he972) hg1038) rfl rfl)), ?_⟩
            refine ⟨.slice a199 n200 c201, fun w1043 hX1044 => od_plain rfl (by have hS1045 := hS1003.ext hX1044; have hB1046 := hB1002.trans (Ext.stp hX1044 hS1003.base); exact is_ext (g_move (v := .slice a199 n200 c201) rfl)), ?_⟩
            refine ⟨.int .i64 v973, fun w1047 hX1048 => od_plain rfl (by have hS1049 := hS1003.ext hX1048; have hB1050 := hB1002.trans (Ext.stp hX1048 hS1003.base); exact is_ext (g_move (v := .int .i64 v973) rfl)), ?_⟩
            obtain ⟨hg1055, hm⟩ := hm
            refine ⟨.pointer (some ((adr a199).add ((Int.toNat v973) * El.m (Hd Int)))), fun w1051 hX1052 => od_plain rfl (by have hS1053 := hS1003.ext hX1052; have hB1054 := hB1002.trans (Ext.stp hX1052 hS1003.base); exact is_ext (q_index (i := v973) SL37 rfl rfl (Tv.o (oT.vw hS1053.g2 hS1053.g3 he203)) (Tv.g (oT.vw hS1053.g2 hS1053.g3 he203) hg1055))), ?_⟩
            refine ⟨.slice ((y202[(Int.toNat v973)]!).1) ((y202[(Int.toNat v973)]!).2.2.length) ((y202[(Int.toNat v973)]!).2.1), fun w1056 hX1057 => od_plain rfl (by have hS1058 := hS1003.ext hX1057; have hB1059 := hB1002.trans (Ext.stp hX1057 hS1003.base); exact is_ext (q_load (i := v973) (v := .slice ((y202[(Int.toNat v973)]!).1) ((y202[(Int.toNat v973)]!).2.2.length) ((y202[(Int.toNat v973)]!).2.1)) ON39 (Tv.o (oT.vw hS1058.g2 hS1058.g3 he203)) (Tv.g (oT.vw hS1058.g2 hS1058.g3 he203) hg1055) rfl rfl)), ?_⟩
            obtain ⟨hg1064, hm⟩ := hm
            refine ⟨.pointer (some ((adr ((y202[(Int.toNat v973)]!).1)).add (1 * El.m Int))), fun w1060 hX1061 => od_plain rfl (by have hS1062 := hS1003.ext hX1061; have hB1063 := hB1002.trans (Ext.stp hX1061 hS1003.base); exact is_ext (q_index (i := 1) SL39 rfl rfl (Tv.row (oT.vw hS1062.g2 hS1062.g3 he203) hg1055) hg1064)), ?_⟩
            refine ⟨.int .i64 ((r198[(Int.toNat v973)]!)[1]!), fun w1065 hX1066 => od_plain rfl (by have hS1067 := hS1003.ext hX1066; have hB1068 := hB1002.trans (Ext.stp hX1066 hS1003.base); exact is_ext (q_load (i := 1) (v := .int .i64 ((r198[(Int.toNat v973)]!)[1]!)) ON3 (Tv.row (oT.vw hS1067.g2 hS1067.g3 he203) hg1055) hg1064 rfl rfl)), ?_⟩
            refine ⟨.slice a129 n130 c131, fun w1069 hX1070 => od_plain rfl (by have hS1071 := hS1003.ext hX1070; have hB1072 := hB1002.trans (Ext.stp hX1070 hS1003.base); exact is_ext (g_move (v := .slice a129 n130 c131) rfl)), ?_⟩
            refine ⟨.slice a199 n200 c201, fun w1073 hX1074 => od_plain rfl (by have hS1075 := hS1003.ext hX1074; have hB1076 := hB1002.trans (Ext.stp hX1074 hS1003.base); exact is_ext (g_move (v := .slice a199 n200 c201) rfl)), ?_⟩
            refine ⟨.int .i64 v973, fun w1077 hX1078 => od_plain rfl (by have hS1079 := hS1003.ext hX1078; have hB1080 := hB1002.trans (Ext.stp hX1078 hS1003.base); exact is_ext (g_move (v := .int .i64 v973) rfl)), ?_⟩
            obtain ⟨hg1085, hm⟩ := hm
            refine ⟨.pointer (some ((adr a199).add ((Int.toNat v973) * El.m (Hd Int)))), fun w1081 hX1082 => od_plain rfl (by have hS1083 := hS1003.ext hX1082; have hB1084 := hB1002.trans (Ext.stp hX1082 hS1003.base); exact is_ext (q_index (i := v973) SL37 rfl rfl (Tv.o (oT.vw hS1083.g2 hS1083.g3 he203)) (Tv.g (oT.vw hS1083.g2 hS1083.g3 he203) hg1085))), ?_⟩
            refine ⟨.slice ((y202[(Int.toNat v973)]!).1) ((y202[(Int.toNat v973)]!).2.2.length) ((y202[(Int.toNat v973)]!).2.1), fun w1086 hX1087 => od_plain rfl (by have hS1088 := hS1003.ext hX1087; have hB1089 := hB1002.trans (Ext.stp hX1087 hS1003.base); exact is_ext (q_load (i := v973) (v := .slice ((y202[(Int.toNat v973)]!).1) ((y202[(Int.toNat v973)]!).2.2.length) ((y202[(Int.toNat v973)]!).2.1)) ON39 (Tv.o (oT.vw hS1088.g2 hS1088.g3 he203)) (Tv.g (oT.vw hS1088.g2 hS1088.g3 he203) hg1085) rfl rfl)), ?_⟩
            obtain ⟨hg1094, hm⟩ := hm
            refine ⟨.pointer (some ((adr ((y202[(Int.toNat v973)]!).1)).add (0 * El.m Int))), fun w1090 hX1091 => od_plain rfl (by have hS1092 := hS1003.ext hX1091; have hB1093 := hB1002.trans (Ext.stp hX1091 hS1003.base); exact is_ext (q_index (i := 0) SL39 rfl rfl (Tv.row (oT.vw hS1092.g2 hS1092.g3 he203) hg1085) hg1094)), ?_⟩
            refine ⟨.int .i64 ((r198[(Int.toNat v973)]!)[0]!), fun w1095 hX1096 => od_plain rfl (by have hS1097 := hS1003.ext hX1096; have hB1098 := hB1002.trans (Ext.stp hX1096 hS1003.base); exact is_ext (q_load (i := 0) (v := .int .i64 ((r198[(Int.toNat v973)]!)[0]!)) ON3 (Tv.row (oT.vw hS1097.g2 hS1097.g3 he203) hg1085) hg1094 rfl rfl)), ?_⟩
            obtain ⟨hg1103, hm⟩ := hm
            refine ⟨.pointer (some ((adr a129).add ((Int.toNat ((r198[(Int.toNat v973)]!)[0]!)) * El.m (Hd Int)))), fun w1099 hX1100 => od_plain rfl (by have hS1101 := hS1003.ext hX1100; have hB1102 := hB1002.trans (Ext.stp hX1100 hS1003.base); exact is_ext (q_index (i := (r198[(Int.toNat v973)]!)[0]!) SL37 rfl rfl (Tv.o (oT.vw hS1101.g0 hS1101.g1 he972)) (Tv.g (oT.vw hS1101.g0 hS1101.g1 he972) hg1103))), ?_⟩
            refine ⟨.slice ((y971[(Int.toNat ((r198[(Int.toNat v973)]!)[0]!))]!).1) ((y971[(Int.toNat ((r198[(Int.toNat v973)]!)[0]!))]!).2.2.length) ((y971[(Int.toNat ((r198[(Int.toNat v973)]!)[0]!))]!).2.1), fun w1104 hX1105 => od_plain rfl (by have hS1106 := hS1003.ext hX1105; have hB1107 := hB1002.trans (Ext.stp hX1105 hS1003.base); exact is_ext (q_load (i := (r198[(Int.toNat v973)]!)[0]!) (v := .slice ((y971[(Int.toNat ((r198[(Int.toNat v973)]!)[0]!))]!).1) ((y971[(Int.toNat ((r198[(Int.toNat v973)]!)[0]!))]!).2.2.length) ((y971[(Int.toNat ((r198[(Int.toNat v973)]!)[0]!))]!).2.1)) ON39 (Tv.o (oT.vw hS1106.g0 hS1106.g1 he972)) (Tv.g (oT.vw hS1106.g0 hS1106.g1 he972) hg1103) rfl rfl)), ?_⟩
            refine ⟨.slice a199 n200 c201, fun w1108 hX1109 => od_plain rfl (by have hS1110 := hS1003.ext hX1109; have hB1111 := hB1002.trans (Ext.stp hX1109 hS1003.base); exact is_ext (g_move (v := .slice a199 n200 c201) rfl)), ?_⟩
            refine ⟨.int .i64 v973, fun w1112 hX1113 => od_plain rfl (by have hS1114 := hS1003.ext hX1113; have hB1115 := hB1002.trans (Ext.stp hX1113 hS1003.base); exact is_ext (g_move (v := .int .i64 v973) rfl)), ?_⟩
            obtain ⟨hg1120, hm⟩ := hm
            refine ⟨.pointer (some ((adr a199).add ((Int.toNat v973) * El.m (Hd Int)))), fun w1116 hX1117 => od_plain rfl (by have hS1118 := hS1003.ext hX1117; have hB1119 := hB1002.trans (Ext.stp hX1117 hS1003.base); exact is_ext (q_index (i := v973) SL37 rfl rfl (Tv.o (oT.vw hS1118.g2 hS1118.g3 he203)) (Tv.g (oT.vw hS1118.g2 hS1118.g3 he203) hg1120))), ?_⟩
            refine ⟨.slice ((y202[(Int.toNat v973)]!).1) ((y202[(Int.toNat v973)]!).2.2.length) ((y202[(Int.toNat v973)]!).2.1), fun w1121 hX1122 => od_plain rfl (by have hS1123 := hS1003.ext hX1122; have hB1124 := hB1002.trans (Ext.stp hX1122 hS1003.base); exact is_ext (q_load (i := v973) (v := .slice ((y202[(Int.toNat v973)]!).1) ((y202[(Int.toNat v973)]!).2.2.length) ((y202[(Int.toNat v973)]!).2.1)) ON39 (Tv.o (oT.vw hS1123.g2 hS1123.g3 he203)) (Tv.g (oT.vw hS1123.g2 hS1123.g3 he203) hg1120) rfl rfl)), ?_⟩
            obtain ⟨hg1129, hm⟩ := hm
            refine ⟨.pointer (some ((adr ((y202[(Int.toNat v973)]!).1)).add (1 * El.m Int))), fun w1125 hX1126 => od_plain rfl (by have hS1127 := hS1003.ext hX1126; have hB1128 := hB1002.trans (Ext.stp hX1126 hS1003.base); exact is_ext (q_index (i := 1) SL39 rfl rfl (Tv.row (oT.vw hS1127.g2 hS1127.g3 he203) hg1120) hg1129)), ?_⟩
            refine ⟨.int .i64 ((r198[(Int.toNat v973)]!)[1]!), fun w1130 hX1131 => od_plain rfl (by have hS1132 := hS1003.ext hX1131; have hB1133 := hB1002.trans (Ext.stp hX1131 hS1003.base); exact is_ext (q_load (i := 1) (v := .int .i64 ((r198[(Int.toNat v973)]!)[1]!)) ON3 (Tv.row (oT.vw hS1132.g2 hS1132.g3 he203) hg1120) hg1129 rfl rfl)), ?_⟩
            obtain ⟨hg1138, hm⟩ := hm
            refine ⟨.pointer (some ((adr ((y971[(Int.toNat ((r198[(Int.toNat v973)]!)[0]!))]!).1)).add ((Int.toNat ((r198[(Int.toNat v973)]!)[1]!)) * El.m Int))), fun w1134 hX1135 => od_plain rfl (by have hS1136 := hS1003.ext hX1135; have hB1137 := hB1002.trans (Ext.stp hX1135 hS1003.base); exact is_ext (q_index (i := (r198[(Int.toNat v973)]!)[1]!) SL39 rfl rfl (Tv.row (oT.vw hS1136.g0 hS1136.g1 he972) hg1103) hg1138)), ?_⟩
            refine ⟨.int .i64 ((x970[(Int.toNat ((r198[(Int.toNat v973)]!)[0]!))]!)[(Int.toNat ((r198[(Int.toNat v973)]!)[1]!))]!), fun w1139 hX1140 => od_plain rfl (by have hS1141 := hS1003.ext hX1140; have hB1142 := hB1002.trans (Ext.stp hX1140 hS1003.base); exact is_ext (q_load (i := (r198[(Int.toNat v973)]!)[1]!) (v := .int .i64 ((x970[(Int.toNat ((r198[(Int.toNat v973)]!)[0]!))]!)[(Int.toNat ((r198[(Int.toNat v973)]!)[1]!))]!)) ON3 (Tv.row (oT.vw hS1141.g0 hS1141.g1 he972) hg1103) hg1138 rfl rfl)), ?_⟩
            refine ⟨.int .i64 v991, fun w1143 hX1144 => od_plain rfl (by have hS1145 := hS1003.ext hX1144; have hB1146 := hB1002.trans (Ext.stp hX1144 hS1003.base); exact is_ext (g_move (v := .int .i64 v991) rfl)), ?_⟩
            obtain ⟨hg1151, hm⟩ := hm
            refine ⟨.int .i64 ((x970[(Int.toNat ((r198[(Int.toNat v973)]!)[0]!))]!)[(Int.toNat ((r198[(Int.toNat v973)]!)[1]!))]! + v991), fun w1147 hX1148 => od_plain rfl (by have hS1149 := hS1003.ext hX1148; have hB1150 := hB1002.trans (Ext.stp hX1148 hS1003.base); exact is_ext (g_add (a := (x970[(Int.toNat ((r198[(Int.toNat v973)]!)[0]!))]!)[(Int.toNat ((r198[(Int.toNat v973)]!)[1]!))]!) (b := v991) rfl rfl hg1151)), ?_⟩
            obtain ⟨hg1156, hm⟩ := hm
            refine ⟨.pointer (some ((adr ((y971[(Int.toNat ((r198[(Int.toNat v973)]!)[0]!))]!).1)).add ((Int.toNat ((r198[(Int.toNat v973)]!)[1]!)) * El.m Int))), fun w1152 hX1153 => od_plain rfl (by have hS1154 := hS1003.ext hX1153; have hB1155 := hB1002.trans (Ext.stp hX1153 hS1003.base); exact is_ext (q_index (i := (r198[(Int.toNat v973)]!)[1]!) SL39 rfl rfl (Tv.row (oT.vw hS1154.g0 hS1154.g1 he972) hg1038) hg1156)), ?_⟩
            intro w1157 hX1158
            have hB1159 := hB1002.trans (Ext.stp hX1158 hS1003.base)
            have hS1160 := hS1003.ext hX1158
            have hS1164 := hS1160.f1
            have hS1165 := hS1164.f1
            refine ⟨_, od_plain rfl (q_row (i := (r198[(Int.toNat v973)]!)[0]!) (k := (r198[(Int.toNat v973)]!)[1]!) (v := (((x970[(Int.toNat ((r198[(Int.toNat v973)]!)[0]!))]!)[(Int.toNat ((r198[(Int.toNat v973)]!)[1]!))]! + v991) : Int)) hS1165 he972 hg1038 hg1156 ON3.sz rfl rfl rfl), ?_⟩
            rintro _ w1161 ⟨rfl, y1166, he1167, hS1162, hb1163⟩
            have hB1168 := hB1159.trans hb1163
            intro w1169 hX1170
            have hB1171 := hB1168.trans (Ext.stp hX1170 hS1162.base)
            have hS1172 := hS1162.ext hX1170
            refine hK999 _ _ ?_
            refine w_draw (X := Ext) (Y := Ext) [0, 0, 0, 0, 0, 0, 0, 0, 0, 0, 0, 0, 0, 0, 0, 0, 0, 0, 0, 0, 0, 0, 0, 0, 0, 0, 0, 0, 0, 0, 0, 0, 0, 0, 0, 1] MIX (by decide +kernel) rfl Ext.refl (fun _ _ _ => Ext.trans) (fun _ _ _ => Chg.trans) (fun _ _ h => Ext.chg h _) (fun w1173 hE1174 => ?_)
            have hB1175 := hB1171.trans (Ext.stp hE1174 hS1172.base)
            have hS1176 := hS1172.ext hE1174
            refine ⟨.slice a129 n130 c131, fun w1177 hX1178 => od_plain rfl (by have hS1179 := hS1176.ext hX1178; have hB1180 := hB1175.trans (Ext.stp hX1178 hS1176.base); exact is_ext (g_move (v := .slice a129 n130 c131) rfl)), ?_⟩
            refine ⟨.slice a199 n200 c201, fun w1181 hX1182 => od_plain rfl (by have hS1183 := hS1176.ext hX1182; have hB1184 := hB1175.trans (Ext.stp hX1182 hS1176.base); exact is_ext (g_move (v := .slice a199 n200 c201) rfl)), ?_⟩
            refine ⟨.int .i64 v973, fun w1185 hX1186 => od_plain rfl (by have hS1187 := hS1176.ext hX1186; have hB1188 := hB1175.trans (Ext.stp hX1186 hS1176.base); exact is_ext (g_move (v := .int .i64 v973) rfl)), ?_⟩
            obtain ⟨hg1193, hm⟩ := hm
            refine ⟨.pointer (some ((adr a199).add ((Int.toNat v973) * El.m (Hd Int)))), fun w1189 hX1190 => od_plain rfl (by have hS1191 := hS1176.ext hX1190; have hB1192 := hB1175.trans (Ext.stp hX1190 hS1176.base); exact is_ext (q_index (i := v973) SL37 rfl rfl (Tv.o (oT.vw hS1191.g2 hS1191.g3 he203)) (Tv.g (oT.vw hS1191.g2 hS1191.g3 he203) hg1193))), ?_⟩
            refine ⟨.slice ((y202[(Int.toNat v973)]!).1) ((y202[(Int.toNat v973)]!).2.2.length) ((y202[(Int.toNat v973)]!).2.1), fun w1194 hX1195 => od_plain rfl (by have hS1196 := hS1176.ext hX1195; have hB1197 := hB1175.trans (Ext.stp hX1195 hS1176.base); exact is_ext (q_load (i := v973) (v := .slice ((y202[(Int.toNat v973)]!).1) ((y202[(Int.toNat v973)]!).2.2.length) ((y202[(Int.toNat v973)]!).2.1)) ON39 (Tv.o (oT.vw hS1196.g2 hS1196.g3 he203)) (Tv.g (oT.vw hS1196.g2 hS1196.g3 he203) hg1193) rfl rfl)), ?_⟩
            obtain ⟨hg1202, hm⟩ := hm
            refine ⟨.pointer (some ((adr ((y202[(Int.toNat v973)]!).1)).add (1 * El.m Int))), fun w1198 hX1199 => od_plain rfl (by have hS1200 := hS1176.ext hX1199; have hB1201 := hB1175.trans (Ext.stp hX1199 hS1176.base); exact is_ext (q_index (i := 1) SL39 rfl rfl (Tv.row (oT.vw hS1200.g2 hS1200.g3 he203) hg1193) hg1202)), ?_⟩
            refine ⟨.int .i64 ((r198[(Int.toNat v973)]!)[1]!), fun w1203 hX1204 => od_plain rfl (by have hS1205 := hS1176.ext hX1204; have hB1206 := hB1175.trans (Ext.stp hX1204 hS1176.base); exact is_ext (q_load (i := 1) (v := .int .i64 ((r198[(Int.toNat v973)]!)[1]!)) ON3 (Tv.row (oT.vw hS1205.g2 hS1205.g3 he203) hg1193) hg1202 rfl rfl)), ?_⟩
            obtain ⟨hg1211, hm⟩ := hm
            refine ⟨.pointer (some ((adr a129).add ((Int.toNat ((r198[(Int.toNat v973)]!)[1]!)) * El.m (Hd Int)))), fun w1207 hX1208 => od_plain rfl (by have hS1209 := hS1176.ext hX1208; have hB1210 := hB1175.trans (Ext.stp hX1208 hS1176.base); exact is_ext (q_index (i := (r198[(Int.toNat v973)]!)[1]!) SL37 rfl rfl (Tv.o (oT.vw hS1209.g0 hS1209.g1 he1167)) (Tv.g (oT.vw hS1209.g0 hS1209.g1 he1167) hg1211))), ?_⟩
            refine ⟨.slice ((y1166[(Int.toNat ((r198[(Int.toNat v973)]!)[1]!))]!).1) ((y1166[(Int.toNat ((r198[(Int.toNat v973)]!)[1]!))]!).2.2.length) ((y1166[(Int.toNat ((r198[(Int.toNat v973)]!)[1]!))]!).2.1), fun w1212 hX1213 => od_plain rfl (by have hS1214 := hS1176.ext hX1213; have hB1215 := hB1175.trans (Ext.stp hX1213 hS1176.base); exact is_ext (q_load (i := (r198[(Int.toNat v973)]!)[1]!) (v := .slice ((y1166[(Int.toNat ((r198[(Int.toNat v973)]!)[1]!))]!).1) ((y1166[(Int.toNat ((r198[(Int.toNat v973)]!)[1]!))]!).2.2.length) ((y1166[(Int.toNat ((r198[(Int.toNat v973)]!)[1]!))]!).2.1)) ON39 (Tv.o (oT.vw hS1214.g0 hS1214.g1 he1167)) (Tv.g (oT.vw hS1214.g0 hS1214.g1 he1167) hg1211) rfl rfl)), ?_⟩
            refine ⟨.slice a199 n200 c201, fun w1216 hX1217 => od_plain rfl (by have hS1218 := hS1176.ext hX1217; have hB1219 := hB1175.trans (Ext.stp hX1217 hS1176.base); exact is_ext (g_move (v := .slice a199 n200 c201) rfl)), ?_⟩
            refine ⟨.int .i64 v973, fun w1220 hX1221 => od_plain rfl (by have hS1222 := hS1176.ext hX1221; have hB1223 := hB1175.trans (Ext.stp hX1221 hS1176.base); exact is_ext (g_move (v := .int .i64 v973) rfl)), ?_⟩
            obtain ⟨hg1228, hm⟩ := hm
            refine ⟨.pointer (some ((adr a199).add ((Int.toNat v973) * El.m (Hd Int)))), fun w1224 hX1225 => od_plain rfl (by have hS1226 := hS1176.ext hX1225; have hB1227 := hB1175.trans (Ext.stp hX1225 hS1176.base); exact is_ext (q_index (i := v973) SL37 rfl rfl (Tv.o (oT.vw hS1226.g2 hS1226.g3 he203)) (Tv.g (oT.vw hS1226.g2 hS1226.g3 he203) hg1228))), ?_⟩
            refine ⟨.slice ((y202[(Int.toNat v973)]!).1) ((y202[(Int.toNat v973)]!).2.2.length) ((y202[(Int.toNat v973)]!).2.1), fun w1229 hX1230 => od_plain rfl (by have hS1231 := hS1176.ext hX1230; have hB1232 := hB1175.trans (Ext.stp hX1230 hS1176.base); exact is_ext (q_load (i := v973) (v := .slice ((y202[(Int.toNat v973)]!).1) ((y202[(Int.toNat v973)]!).2.2.length) ((y202[(Int.toNat v973)]!).2.1)) ON39 (Tv.o (oT.vw hS1231.g2 hS1231.g3 he203)) (Tv.g (oT.vw hS1231.g2 hS1231.g3 he203) hg1228) rfl rfl)), ?_⟩
            obtain ⟨hg1237, hm⟩ := hm
            refine ⟨.pointer (some ((adr ((y202[(Int.toNat v973)]!).1)).add (0 * El.m Int))), fun w1233 hX1234 => od_plain rfl (by have hS1235 := hS1176.ext hX1234; have hB1236 := hB1175.trans (Ext.stp hX1234 hS1176.base); exact is_ext (q_index (i := 0) SL39 rfl rfl (Tv.row (oT.vw hS1235.g2 hS1235.g3 he203) hg1228) hg1237)), ?_⟩
            refine ⟨.int .i64 ((r198[(Int.toNat v973)]!)[0]!), fun w1238 hX1239 => od_plain rfl (by have hS1240 := hS1176.ext hX1239; have hB1241 := hB1175.trans (Ext.stp hX1239 hS1176.base); exact is_ext (q_load (i := 0) (v := .int .i64 ((r198[(Int.toNat v973)]!)[0]!)) ON3 (Tv.row (oT.vw hS1240.g2 hS1240.g3 he203) hg1228) hg1237 rfl rfl)), ?_⟩
            refine ⟨.slice a129 n130 c131, fun w1242 hX1243 => od_plain rfl (by have hS1244 := hS1176.ext hX1243; have hB1245 := hB1175.trans (Ext.stp hX1243 hS1176.base); exact is_ext (g_move (v := .slice a129 n130 c131) rfl)), ?_⟩
            refine ⟨.slice a199 n200 c201, fun w1246 hX1247 => od_plain rfl (by have hS1248 := hS1176.ext hX1247; have hB1249 := hB1175.trans (Ext.stp hX1247 hS1176.base); exact is_ext (g_move (v := .slice a199 n200 c201) rfl)), ?_⟩
            refine ⟨.int .i64 v973, fun w1250 hX1251 => od_plain rfl (by have hS1252 := hS1176.ext hX1251; have hB1253 := hB1175.trans (Ext.stp hX1251 hS1176.base); exact is_ext (g_move (v := .int .i64 v973) rfl)), ?_⟩
            obtain ⟨hg1258, hm⟩ := hm
            refine ⟨.pointer (some ((adr a199).add ((Int.toNat v973) * El.m (Hd Int)))), fun w1254 hX1255 => od_plain rfl (by have hS1256 := hS1176.ext hX1255; have hB1257 := hB1175.trans (Ext.stp hX1255 hS1176.base); exact is_ext (q_index (i := v973) SL37 rfl rfl (Tv.o (oT.vw hS1256.g2 hS1256.g3 he203)) (Tv.g (oT.vw hS1256.g2 hS1256.g3 he203) hg1258))), ?_⟩
            refine ⟨.slice ((y202[(Int.toNat v973)]!).1) ((y202[(Int.toNat v973)]!).2.2.length) ((y202[(Int.toNat v973)]!).2.1), fun w1259 hX1260 => od_plain rfl (by have hS1261 := hS1176.ext hX1260; have hB1262 := hB1175.trans (Ext.stp hX1260 hS1176.base); exact is_ext (q_load (i := v973) (v := .slice ((y202[(Int.toNat v973)]!).1) ((y202[(Int.toNat v973)]!).2.2.length) ((y202[(Int.toNat v973)]!).2.1)) ON39 (Tv.o (oT.vw hS1261.g2 hS1261.g3 he203)) (Tv.g (oT.vw hS1261.g2 hS1261.g3 he203) hg1258) rfl rfl)), ?_⟩
            obtain ⟨hg1267, hm⟩ := hm
            refine ⟨.pointer (some ((adr ((y202[(Int.toNat v973)]!).1)).add (1 * El.m Int))), fun w1263 hX1264 => od_plain rfl (by have hS1265 := hS1176.ext hX1264; have hB1266 := hB1175.trans (Ext.stp hX1264 hS1176.base); exact is_ext (q_index (i := 1) SL39 rfl rfl (Tv.row (oT.vw hS1265.g2 hS1265.g3 he203) hg1258) hg1267)), ?_⟩
            refine ⟨.int .i64 ((r198[(Int.toNat v973)]!)[1]!), fun w1268 hX1269 => od_plain rfl (by have hS1270 := hS1176.ext hX1269; have hB1271 := hB1175.trans (Ext.stp hX1269 hS1176.base); exact is_ext (q_load (i := 1) (v := .int .i64 ((r198[(Int.toNat v973)]!)[1]!)) ON3 (Tv.row (oT.vw hS1270.g2 hS1270.g3 he203) hg1258) hg1267 rfl rfl)), ?_⟩
            obtain ⟨hg1276, hm⟩ := hm
            refine ⟨.pointer (some ((adr a129).add ((Int.toNat ((r198[(Int.toNat v973)]!)[1]!)) * El.m (Hd Int)))), fun w1272 hX1273 => od_plain rfl (by have hS1274 := hS1176.ext hX1273; have hB1275 := hB1175.trans (Ext.stp hX1273 hS1176.base); exact is_ext (q_index (i := (r198[(Int.toNat v973)]!)[1]!) SL37 rfl rfl (Tv.o (oT.vw hS1274.g0 hS1274.g1 he1167)) (Tv.g (oT.vw hS1274.g0 hS1274.g1 he1167) hg1276))), ?_⟩
            refine ⟨.slice ((y1166[(Int.toNat ((r198[(Int.toNat v973)]!)[1]!))]!).1) ((y1166[(Int.toNat ((r198[(Int.toNat v973)]!)[1]!))]!).2.2.length) ((y1166[(Int.toNat ((r198[(Int.toNat v973)]!)[1]!))]!).2.1), fun w1277 hX1278 => od_plain rfl (by have hS1279 := hS1176.ext hX1278; have hB1280 := hB1175.trans (Ext.stp hX1278 hS1176.base); exact is_ext (q_load (i := (r198[(Int.toNat v973)]!)[1]!) (v := .slice ((y1166[(Int.toNat ((r198[(Int.toNat v973)]!)[1]!))]!).1) ((y1166[(Int.toNat ((r198[(Int.toNat v973)]!)[1]!))]!).2.2.length) ((y1166[(Int.toNat ((r198[(Int.toNat v973)]!)[1]!))]!).2.1)) ON39 (Tv.o (oT.vw hS1279.g0 hS1279.g1 he1167)) (Tv.g (oT.vw hS1279.g0 hS1279.g1 he1167) hg1276) rfl rfl)), ?_⟩
            refine ⟨.slice a199 n200 c201, fun w1281 hX1282 => od_plain rfl (by have hS1283 := hS1176.ext hX1282; have hB1284 := hB1175.trans (Ext.stp hX1282 hS1176.base); exact is_ext (g_move (v := .slice a199 n200 c201) rfl)), ?_⟩
            refine ⟨.int .i64 v973, fun w1285 hX1286 => od_plain rfl (by have hS1287 := hS1176.ext hX1286; have hB1288 := hB1175.trans (Ext.stp hX1286 hS1176.base); exact is_ext (g_move (v := .int .i64 v973) rfl)), ?_⟩
            obtain ⟨hg1293, hm⟩ := hm
            refine ⟨.pointer (some ((adr a199).add ((Int.toNat v973) * El.m (Hd Int)))), fun w1289 hX1290 => od_plain rfl (by have hS1291 := hS1176.ext hX1290; have hB1292 := hB1175.trans (Ext.stp hX1290 hS1176.base); exact is_ext (q_index (i := v973) SL37 rfl rfl (Tv.o (oT.vw hS1291.g2 hS1291.g3 he203)) (Tv.g (oT.vw hS1291.g2 hS1291.g3 he203) hg1293))), ?_⟩
            refine ⟨.slice ((y202[(Int.toNat v973)]!).1) ((y202[(Int.toNat v973)]!).2.2.length) ((y202[(Int.toNat v973)]!).2.1), fun w1294 hX1295 => od_plain rfl (by have hS1296 := hS1176.ext hX1295; have hB1297 := hB1175.trans (Ext.stp hX1295 hS1176.base); exact is_ext (q_load (i := v973) (v := .slice ((y202[(Int.toNat v973)]!).1) ((y202[(Int.toNat v973)]!).2.2.length) ((y202[(Int.toNat v973)]!).2.1)) ON39 (Tv.o (oT.vw hS1296.g2 hS1296.g3 he203)) (Tv.g (oT.vw hS1296.g2 hS1296.g3 he203) hg1293) rfl rfl)), ?_⟩
            obtain ⟨hg1302, hm⟩ := hm
            refine ⟨.pointer (some ((adr ((y202[(Int.toNat v973)]!).1)).add (0 * El.m Int))), fun w1298 hX1299 => od_plain rfl (by have hS1300 := hS1176.ext hX1299; have hB1301 := hB1175.trans (Ext.stp hX1299 hS1176.base); exact is_ext (q_index (i := 0) SL39 rfl rfl (Tv.row (oT.vw hS1300.g2 hS1300.g3 he203) hg1293) hg1302)), ?_⟩
            refine ⟨.int .i64 ((r198[(Int.toNat v973)]!)[0]!), fun w1303 hX1304 => od_plain rfl (by have hS1305 := hS1176.ext hX1304; have hB1306 := hB1175.trans (Ext.stp hX1304 hS1176.base); exact is_ext (q_load (i := 0) (v := .int .i64 ((r198[(Int.toNat v973)]!)[0]!)) ON3 (Tv.row (oT.vw hS1305.g2 hS1305.g3 he203) hg1293) hg1302 rfl rfl)), ?_⟩
            obtain ⟨hg1311, hm⟩ := hm
            refine ⟨.pointer (some ((adr ((y1166[(Int.toNat ((r198[(Int.toNat v973)]!)[1]!))]!).1)).add ((Int.toNat ((r198[(Int.toNat v973)]!)[0]!)) * El.m Int))), fun w1307 hX1308 => od_plain rfl (by have hS1309 := hS1176.ext hX1308; have hB1310 := hB1175.trans (Ext.stp hX1308 hS1176.base); exact is_ext (q_index (i := (r198[(Int.toNat v973)]!)[0]!) SL39 rfl rfl (Tv.row (oT.vw hS1309.g0 hS1309.g1 he1167) hg1276) hg1311)), ?_⟩
            refine ⟨.int .i64 (((x970.set (Int.toNat ((r198[(Int.toNat v973)]!)[0]!)) (x970[(Int.toNat ((r198[(Int.toNat v973)]!)[0]!))]!.set (Int.toNat ((r198[(Int.toNat v973)]!)[1]!)) ((x970[(Int.toNat ((r198[(Int.toNat v973)]!)[0]!))]!)[(Int.toNat ((r198[(Int.toNat v973)]!)[1]!))]! + v991)))[(Int.toNat ((r198[(Int.toNat v973)]!)[1]!))]!)[(Int.toNat ((r198[(Int.toNat v973)]!)[0]!))]!), fun w1312 hX1313 => od_plain rfl (by have hS1314 := hS1176.ext hX1313; have hB1315 := hB1175.trans (Ext.stp hX1313 hS1176.base); exact is_ext (q_load (i := (r198[(Int.toNat v973)]!)[0]!) (v := .int .i64 (((x970.set (Int.toNat ((r198[(Int.toNat v973)]!)[0]!)) (x970[(Int.toNat ((r198[(Int.toNat v973)]!)[0]!))]!.set (Int.toNat ((r198[(Int.toNat v973)]!)[1]!)) ((x970[(Int.toNat ((r198[(Int.toNat v973)]!)[0]!))]!)[(Int.toNat ((r198[(Int.toNat v973)]!)[1]!))]! + v991)))[(Int.toNat ((r198[(Int.toNat v973)]!)[1]!))]!)[(Int.toNat ((r198[(Int.toNat v973)]!)[0]!))]!)) ON3 (Tv.row (oT.vw hS1314.g0 hS1314.g1 he1167) hg1276) hg1311 rfl rfl)), ?_⟩
            refine ⟨.int .i64 v991, fun w1316 hX1317 => od_plain rfl (by have hS1318 := hS1176.ext hX1317; have hB1319 := hB1175.trans (Ext.stp hX1317 hS1176.base); exact is_ext (g_move (v := .int .i64 v991) rfl)), ?_⟩
            obtain ⟨hg1324, hm⟩ := hm
            refine ⟨.int .i64 (((x970.set (Int.toNat ((r198[(Int.toNat v973)]!)[0]!)) (x970[(Int.toNat ((r198[(Int.toNat v973)]!)[0]!))]!.set (Int.toNat ((r198[(Int.toNat v973)]!)[1]!)) ((x970[(Int.toNat ((r198[(Int.toNat v973)]!)[0]!))]!)[(Int.toNat ((r198[(Int.toNat v973)]!)[1]!))]! + v991)))[(Int.toNat ((r198[(Int.toNat v973)]!)[1]!))]!)[(Int.toNat ((r198[(Int.toNat v973)]!)[0]!))]! + v991), fun w1320 hX1321 => od_plain rfl (by have hS1322 := hS1176.ext hX1321; have hB1323 := hB1175.trans (Ext.stp hX1321 hS1176.base); exact is_ext (g_add (a := ((x970.set (Int.toNat ((r198[(Int.toNat v973)]!)[0]!)) (x970[(Int.toNat ((r198[(Int.toNat v973)]!)[0]!))]!.set (Int.toNat ((r198[(Int.toNat v973)]!)[1]!)) ((x970[(Int.toNat ((r198[(Int.toNat v973)]!)[0]!))]!)[(Int.toNat ((r198[(Int.toNat v973)]!)[1]!))]! + v991)))[(Int.toNat ((r198[(Int.toNat v973)]!)[1]!))]!)[(Int.toNat ((r198[(Int.toNat v973)]!)[0]!))]!) (b := v991) rfl rfl hg1324)), ?_⟩
            obtain ⟨hg1329, hm⟩ := hm
            refine ⟨.pointer (some ((adr ((y1166[(Int.toNat ((r198[(Int.toNat v973)]!)[1]!))]!).1)).add ((Int.toNat ((r198[(Int.toNat v973)]!)[0]!)) * El.m Int))), fun w1325 hX1326 => od_plain rfl (by have hS1327 := hS1176.ext hX1326; have hB1328 := hB1175.trans (Ext.stp hX1326 hS1176.base); exact is_ext (q_index (i := (r198[(Int.toNat v973)]!)[0]!) SL39 rfl rfl (Tv.row (oT.vw hS1327.g0 hS1327.g1 he1167) hg1211) hg1329)), ?_⟩
            intro w1330 hX1331
            have hB1332 := hB1175.trans (Ext.stp hX1331 hS1176.base)
            have hS1333 := hS1176.ext hX1331
            have hS1337 := hS1333.f1
            have hS1338 := hS1337.f1
            refine ⟨_, od_plain rfl (q_row (i := (r198[(Int.toNat v973)]!)[1]!) (k := (r198[(Int.toNat v973)]!)[0]!) (v := ((((x970.set (Int.toNat ((r198[(Int.toNat v973)]!)[0]!)) (x970[(Int.toNat ((r198[(Int.toNat v973)]!)[0]!))]!.set (Int.toNat ((r198[(Int.toNat v973)]!)[1]!)) ((x970[(Int.toNat ((r198[(Int.toNat v973)]!)[0]!))]!)[(Int.toNat ((r198[(Int.toNat v973)]!)[1]!))]! + v991)))[(Int.toNat ((r198[(Int.toNat v973)]!)[1]!))]!)[(Int.toNat ((r198[(Int.toNat v973)]!)[0]!))]! + v991) : Int)) hS1338 he1167 hg1211 hg1329 ON3.sz rfl rfl rfl), ?_⟩
            rintro _ w1334 ⟨rfl, y1339, he1340, hS1335, hb1336⟩
            have hB1341 := hB1332.trans hb1336
            intro w1342 hX1343
            have hB1344 := hB1341.trans (Ext.stp hX1343 hS1335.base)
            have hS1345 := hS1335.ext hX1343
            refine hK989 _ _ ?_
            refine w_region ?_
            refine wl_val (g_move (v := .int .i64 v973) rfl) rfl ?_
            obtain ⟨hg1346, hm⟩ := hm
            refine wl_val (g_add (a := v973) (b := 1) rfl rfl hg1346) rfl ?_
            refine wl_val (g_assign (v := .int .i64 (v973 + 1)) rfl) rfl ?_
            refine wl_nil ?_
            exact ⟨(((x970.set (Int.toNat ((r198[(Int.toNat v973)]!)[0]!)) (x970[(Int.toNat ((r198[(Int.toNat v973)]!)[0]!))]!.set (Int.toNat ((r198[(Int.toNat v973)]!)[1]!)) ((x970[(Int.toNat ((r198[(Int.toNat v973)]!)[0]!))]!)[(Int.toNat ((r198[(Int.toNat v973)]!)[1]!))]! + v991))).set (Int.toNat ((r198[(Int.toNat v973)]!)[1]!)) ((x970.set (Int.toNat ((r198[(Int.toNat v973)]!)[0]!)) (x970[(Int.toNat ((r198[(Int.toNat v973)]!)[0]!))]!.set (Int.toNat ((r198[(Int.toNat v973)]!)[1]!)) ((x970[(Int.toNat ((r198[(Int.toNat v973)]!)[0]!))]!)[(Int.toNat ((r198[(Int.toNat v973)]!)[1]!))]! + v991)))[(Int.toNat ((r198[(Int.toNat v973)]!)[1]!))]!.set (Int.toNat ((r198[(Int.toNat v973)]!)[0]!)) (((x970.set (Int.toNat ((r198[(Int.toNat v973)]!)[0]!)) (x970[(Int.toNat ((r198[(Int.toNat v973)]!)[0]!))]!.set (Int.toNat ((r198[(Int.toNat v973)]!)[1]!)) ((x970[(Int.toNat ((r198[(Int.toNat v973)]!)[0]!))]!)[(Int.toNat ((r198[(Int.toNat v973)]!)[1]!))]! + v991)))[(Int.toNat ((r198[(Int.toNat v973)]!)[1]!))]!)[(Int.toNat ((r198[(Int.toNat v973)]!)[0]!))]! + v991))), y1339, (v973 + 1)), hm.2, ⟨rfl, rfl, rfl, rfl, trivial⟩, ⟨hm.1, he1340, hB1344, hS1345⟩⟩
        · replace hm := hm.2 h988
          refine w_exit ?_
          have hS1347 := hS984.f2
          have hS1348 := hS1347.tail
          have hS1349 := hS1348.f2
          have hS1350 := hS1349.tail
          exact ⟨(x970, y971), ⟨rfl, trivial⟩, ⟨hm, he972, hB983, hS1350⟩⟩
      · rintro ⟨x965, y966⟩ b_ w1351 ⟨hm, he967, hB1352, hS1353⟩
        show Wp _ _ _ _ (upds b_ [(5, .slice a129 n130 c131)]) w1351
        refine w_seq fun K1354 hK1354 => ?_
        refine w_region ?_
        refine wl_val (g_move (v := .slice a129 n130 c131) rfl) rfl ?_
        refine wl_val (g_assign (v := .slice a129 n130 c131) rfl) rfl ?_
        refine wl_nil ?_
        refine hK1354 _ _ ?_
        refine w_ret ?_
        repeat first | with_reducible refine q_then ?_ | with_reducible refine q_block ?_
        exact ret1 rfl (by decide) ⟨_, _, _, _, _, hm, he967, rfl, toExt hB1352, hS1353⟩

theorem m_spec_TwistOf_fn {w : World} {a1 : Option Addr} {n1 c1 : Nat} {p1 : List Cross} {Q : Int → Prop} (p0 : Int) (hp1 : Vw w.heap.size w a1 n1 c1 p1) (p2 : Int) (p3 : Int) (hm : m_spec_TwistOf p0 p1 p2 p3 Q) :
    Fn Try.prog 37 #[.int .i64 p0, .slice a1 n1 c1, .int .i64 p2, .int .i64 p3] w (fun v w' => ∃ (r0 : Int), Q r0 ∧ v = .int .i64 r0 ∧ Ext w w') := by
  unfold m_spec_TwistOf at hm
  have hB0 := Below.refl w.heap.size w
  have hS0 : Sep w w.heap.size [] := Sep.nil (Nat.le_refl _)
  refine fn_of_wp Try.func37 rfl (by kernel_rfl) (Nat.le_of_ble_eq_true rfl) ?_
  refine w_seq fun K1 hK1 => ?_
  refine w_region ?_
  refine wl_val (g_assign (v := .int .i64 0) rfl) rfl ?_
  refine wl_nil ?_
  refine hK1 _ _ ?_
  refine w_seq fun K2 hK2 => ?_
  refine w_region ?_
  refine wl_val (g_move (v := .int .i64 p0) rfl) rfl ?_
  refine wl_val (g_move (v := .slice a1 n1 c1) rfl) rfl ?_
  refine wl_step rfl (g_call (vs := #[.int .i64 p0, .slice a1 n1 c1]) CF39 (args2 rfl rfl) (m_spec_TwistTable_fn p0 ((hp1.bel hB0).up hS0) hm)) ?_
  rintro _ w3 ⟨r6, a7, n8, c9, y10, hm, he11, rfl, hE4, hN5⟩
  have hS15 := hS0.call2 hE4 hN5
  have hB16 := hB0.trans (Ext.stp hE4 hS0.base)
  refine wl_val (g_assign (v := .slice a7 n8 c9) rfl) rfl ?_
  refine wl_nil ?_
  refine hK2 _ _ ?_
  refine w_seq fun K17 hK17 => ?_
  refine w_seq fun K18 hK18 => ?_
  refine w_region ?_
  refine wl_val (g_move (v := .int .i64 p2) rfl) rfl ?_
  refine wl_val (g_move (v := .slice a7 n8 c9) rfl) rfl ?_
  refine wl_val (q_len SL37 rfl (Tv.len (oT.vw hS15.g0 hS15.g1 he11))) rfl ?_
  obtain ⟨hg19, hm⟩ := hm
  refine wl_val (g_sub (a := (r6.length : Int)) (b := 1) rfl rfl hg19) rfl ?_
  refine wl_step rfl (g_call (vs := #[.int .i64 p2, .int .i64 0, .int .i64 ((r6.length : Int) - 1)]) CF53 (args3 rfl rfl rfl) (m_spec_l01In_fn p2 0 ((r6.length : Int) - 1) hm)) ?_
  rintro _ w20 ⟨r23, hm, rfl, hE21⟩
  have hB24 := hB16.trans (Ext.stp hE21 hS15.base)
  have hS25 := hS15.ext hE21
  refine wl_val (g_not (a := r23) rfl) rfl ?_
  refine wl_val (g_move (v := .bool (!r23)) rfl) rfl ?_
  refine wl_guard (c := (!r23) = false) (val := .int .i64 p3) (b := ((!r23) == false)) (gv_some rfl rfl rfl) beq_iff_eq (fun hc26 => ?_) ?_
  · have hq0 : ¬ (¬ (r23 = true)) := (i_neg (i_not Iff.rfl) hc26)
    exact g_move (v := .int .i64 p3) rfl
  refine wl_guard (c := (!r23) = false) (val := .slice a7 n8 c9) (b := ((!r23) == false)) (gv_some rfl rfl rfl) beq_iff_eq (fun hc27 => ?_) ?_
  · have hq0 : ¬ (¬ (r23 = true)) := (i_neg (i_not Iff.rfl) hc27)
    exact g_move (v := .slice a7 n8 c9) rfl
  refine wl_guard (c := (!r23) = false) (val := .int .i64 (r6.length : Int)) (b := ((!r23) == false)) (gv_some rfl rfl rfl) beq_iff_eq (fun hc28 => ?_) ?_
  · have hq0 : ¬ (¬ (r23 = true)) := (i_neg (i_not Iff.rfl) hc28)
    exact q_len SL37 (if_pos hc28) (Tv.len (oT.vw hS25.g0 hS25.g1 he11))
  obtain ⟨hg30, hm⟩ := hm
  refine wl_guard (c := (!r23) = false) (val := .int .i64 ((r6.length : Int) - 1)) (b := ((!r23) == false)) (gv_some rfl rfl rfl) beq_iff_eq (fun hc29 => ?_) ?_
  · have hq0 : ¬ (¬ (r23 = true)) := (i_neg (i_not Iff.rfl) hc29)
    exact g_sub (a := (r6.length : Int)) (b := 1) (if_pos hc29) rfl (hg30 hq0)
  obtain ⟨r32, hk33, hm⟩ := hm
  refine wl_guardE (X := Ext) (c := (!r23) = false) (val := .bool r32) (Ext.refl _) (b := ((!r23) == false)) (gv_some rfl rfl rfl) beq_iff_eq (fun hc31 => ?_) (fun w34 hE35 => ?_)
  · have hq0 : ¬ (¬ (r23 = true)) := (i_neg (i_not Iff.rfl) hc31)
    exact (g_call (vs := #[.int .i64 p3, .int .i64 0, .int .i64 ((r6.length : Int) - 1)]) CF53 (args3 (if_pos hc31) rfl (if_pos hc31)) ((m_spec_l01In_fn p3 0 ((r6.length : Int) - 1) (hk33 hq0)).mono fun _ _ ⟨_, h1, h2, h3⟩ => ⟨by rw [h2, h1], h3⟩))
  have hB36 := hB24.trans (Ext.stp hE35 hS25.base)
  have hS37 := hS25.ext hE35
  refine wl_guard (c := (!r23) = false) (val := .bool (!r32)) (b := ((!r23) == false)) (gv_some rfl rfl rfl) beq_iff_eq (fun hc38 => ?_) ?_
  · have hq0 : ¬ (¬ (r23 = true)) := (i_neg (i_not Iff.rfl) hc38)
    exact g_not (a := r32) (if_pos hc38)
  refine wl_val (g_pick_or (b := (!r23)) (q := (!r32)) rfl rfl) rfl ?_
  refine wl_nil ?_
  refine hK18 _ _ ?_
  refine w_condI (p := ((¬ (r23 = true)) ∨ (¬ (r32 = true)))) (b := ((!r23) || (!r32))) rfl (i_or (i_not Iff.rfl) (i_not Iff.rfl)) (fun h39 => ?_) (fun h39 => ?_)
  · replace hm := hm.1 h39
    refine w_seq fun K40 hK40 => ?_
    refine w_region ?_
    refine wl_val (g_assign (v := .int .i64 0) rfl) rfl ?_
    refine wl_nil ?_
    refine hK40 _ _ ?_
    refine w_ret ?_
    repeat first | with_reducible refine q_then ?_ | with_reducible refine q_block ?_
    exact ret1 rfl (by decide) ⟨_, hm, rfl, toExt hB36⟩
  · replace hm := hm.2 h39
    refine w_skip ?_
    refine hK17 _ _ ?_
    refine w_seq fun K41 hK41 => ?_
    refine w_region ?_
    refine wl_val (g_move (v := .slice a7 n8 c9) rfl) rfl ?_
    refine wl_val (g_move (v := .int .i64 p2) rfl) rfl ?_
    obtain ⟨hg42, hm⟩ := hm
    refine wl_val (q_index (i := p2) SL37 rfl rfl (Tv.o (oT.vw hS37.g0 hS37.g1 he11)) (Tv.g (oT.vw hS37.g0 hS37.g1 he11) hg42)) rfl ?_
    refine wl_val (q_load (i := p2) (v := .slice ((y10[(Int.toNat p2)]!).1) ((y10[(Int.toNat p2)]!).2.2.length) ((y10[(Int.toNat p2)]!).2.1)) ON39 (Tv.o (oT.vw hS37.g0 hS37.g1 he11)) (Tv.g (oT.vw hS37.g0 hS37.g1 he11) hg42) rfl rfl) rfl ?_
    refine wl_val (g_move (v := .int .i64 p3) rfl) rfl ?_
    obtain ⟨hg43, hm⟩ := hm
    refine wl_val (q_index (i := p3) SL39 rfl rfl (Tv.row (oT.vw hS37.g0 hS37.g1 he11) hg42) hg43) rfl ?_
    refine wl_val (q_load (i := p3) (v := .int .i64 ((r6[(Int.toNat p2)]!)[(Int.toNat p3)]!)) ON3 (Tv.row (oT.vw hS37.g0 hS37.g1 he11) hg42) hg43 rfl rfl) rfl ?_
    refine wl_val (g_assign (v := .int .i64 ((r6[(Int.toNat p2)]!)[(Int.toNat p3)]!)) rfl) rfl ?_
    refine wl_nil ?_
    refine hK41 _ _ ?_
    refine w_ret ?_
    repeat first | with_reducible refine q_then ?_ | with_reducible refine q_block ?_
    exact ret1 rfl (by decide) ⟨_, hm, rfl, toExt hB36⟩

theorem m_impl_within_fn {w : World}  {Q : Bool → Prop} (p0 : Int) (p1 : Int) (p2 : Int) (hm : m_impl_within p0 p1 p2 Q) :
    Fn Try.prog 54 #[.int .i64 p0, .int .i64 p1, .int .i64 p2] w (fun v w' => ∃ (r0 : Bool), Q r0 ∧ v = .bool r0 ∧ Ext w w') := by
  unfold m_impl_within at hm
  have hB0 := Below.refl w.heap.size w
  have hS0 : Sep w w.heap.size [] := Sep.nil (Nat.le_refl _)
  refine fn_of_wp Try.func54 rfl (by kernel_rfl) (Nat.le_of_ble_eq_true rfl) ?_
  refine w_seq fun K1 hK1 => ?_
  refine w_region ?_
  refine wl_val (g_assign (v := .bool false) rfl) rfl ?_
  refine wl_nil ?_
  refine hK1 _ _ ?_
  refine w_seq fun K2 hK2 => ?_
  refine w_region ?_
  refine wl_val (g_move (v := .int .i64 p0) rfl) rfl ?_
  refine wl_val (g_move (v := .int .i64 p1) rfl) rfl ?_
  refine wl_val (g_geq (a := p0) (b := p1) rfl rfl) rfl ?_
  refine wl_val (g_move (v := .bool (decide (p0 ≥ p1))) rfl) rfl ?_
  refine wl_guard (c := (decide (p0 ≥ p1)) = true) (val := .int .i64 p0) (b := ((decide (p0 ≥ p1)) == true)) (gv_some rfl rfl rfl) beq_iff_eq (fun hc3 => ?_) ?_
  · have hq0 : p0 ≥ p1 := (decide_eq_true_iff.mp hc3)
    exact g_move (v := .int .i64 p0) rfl
  refine wl_guard (c := (decide (p0 ≥ p1)) = true) (val := .int .i64 p2) (b := ((decide (p0 ≥ p1)) == true)) (gv_some rfl rfl rfl) beq_iff_eq (fun hc4 => ?_) ?_
  · have hq0 : p0 ≥ p1 := (decide_eq_true_iff.mp hc4)
    exact g_move (v := .int .i64 p2) rfl
  refine wl_guard (c := (decide (p0 ≥ p1)) = true) (val := .bool (decide (p0 ≤ p2))) (b := ((decide (p0 ≥ p1)) == true)) (gv_some rfl rfl rfl) beq_iff_eq (fun hc5 => ?_) ?_
  · have hq0 : p0 ≥ p1 := (decide_eq_true_iff.mp hc5)
    exact g_leq (a := p0) (b := p2) (if_pos hc5) (if_pos hc5)
  refine wl_val (g_pick_and (b := (decide (p0 ≥ p1))) (q := (decide (p0 ≤ p2))) rfl rfl) rfl ?_
  refine wl_val (g_assign (v := .bool ((decide (p0 ≥ p1)) && (decide (p0 ≤ p2)))) rfl) rfl ?_
  refine wl_nil ?_
  refine hK2 _ _ ?_
  refine w_ret ?_
  repeat first | with_reducible refine q_then ?_ | with_reducible refine q_block ?_
  exact ret1 rfl (by decide) ⟨_, hm, rfl, toExt hB0⟩

theorem m_impl_CrossesOk_fn {w : World} {a1 : Option Addr} {n1 c1 : Nat} {p1 : List Cross} {Q : Bool → Prop} (p0 : Int) (hp1 : Vw w.heap.size w a1 n1 c1 p1) (hm : m_impl_CrossesOk p0 p1 Q) :
    Fn Try.prog 57 #[.int .i64 p0, .slice a1 n1 c1] w (fun v w' => ∃ (r0 : Bool), Q r0 ∧ v = .bool r0 ∧ Ext w w') := by
  unfold m_impl_CrossesOk at hm
  have hB0 := Below.refl w.heap.size w
  have hS0 : Sep w w.heap.size [] := Sep.nil (Nat.le_refl _)
  refine fn_of_wp Try.func57 rfl (by kernel_rfl) (Nat.le_of_ble_eq_true rfl) ?_
  refine w_seq fun K1 hK1 => ?_
  refine w_region ?_
  refine wl_val (g_assign (v := .bool false) rfl) rfl ?_
  refine wl_nil ?_
  refine hK1 _ _ ?_
  refine w_seq fun K2 hK2 => ?_
  refine w_seq fun K3 hK3 => ?_
  refine w_region ?_
  refine wl_val (g_move (v := .int .i64 p0) rfl) rfl ?_
  refine wl_step rfl (g_call (vs := #[.int .i64 p0, .int .i64 1, .int .i64 7]) CF54 (args3 rfl rfl rfl) (m_impl_within_fn p0 1 7 hm)) ?_
  rintro _ w4 ⟨r7, hm, rfl, hE5⟩
  have hB8 := hB0.trans (Ext.stp hE5 hS0.base)
  have hS9 := hS0.ext hE5
  refine wl_val (g_not (a := r7) rfl) rfl ?_
  refine wl_val (g_move (v := .bool (!r7)) rfl) rfl ?_
  refine wl_guard (c := (!r7) = false) (val := .slice a1 n1 c1) (b := ((!r7) == false)) (gv_some rfl rfl rfl) beq_iff_eq (fun hc10 => ?_) ?_
  · have hq0 : ¬ (¬ (r7 = true)) := (i_neg (i_not Iff.rfl) hc10)
    exact g_move (v := .slice a1 n1 c1) rfl
  refine wl_guard (c := (!r7) = false) (val := .int .i64 (p1.length : Int)) (b := ((!r7) == false)) (gv_some rfl rfl rfl) beq_iff_eq (fun hc11 => ?_) ?_
  · have hq0 : ¬ (¬ (r7 = true)) := (i_neg (i_not Iff.rfl) hc11)
    exact q_len SL24 (if_pos hc11) (Vw.len (hp1.bel hB8))
  refine wl_guard (c := (!r7) = false) (val := .bool (decide ((p1.length : Int) > 40))) (b := ((!r7) == false)) (gv_some rfl rfl rfl) beq_iff_eq (fun hc12 => ?_) ?_
  · have hq0 : ¬ (¬ (r7 = true)) := (i_neg (i_not Iff.rfl) hc12)
    exact g_gtr (a := (p1.length : Int)) (b := 40) (if_pos hc12) rfl
  refine wl_val (g_pick_or (b := (!r7)) (q := (decide ((p1.length : Int) > 40))) rfl rfl) rfl ?_
  refine wl_nil ?_
  refine hK3 _ _ ?_
  refine w_condI (p := ((¬ (r7 = true)) ∨ ((p1.length : Int) > 40))) (b := ((!r7) || (decide ((p1.length : Int) > 40)))) rfl (i_or (i_not Iff.rfl) decide_eq_true_iff) (fun h13 => ?_) (fun h13 => ?_)
  · replace hm := hm.1 h13
    refine w_seq fun K14 hK14 => ?_
    refine w_region ?_
    refine wl_val (g_assign (v := .bool false) rfl) rfl ?_
    refine wl_nil ?_
    refine hK14 _ _ ?_
    refine w_ret ?_
    repeat first | with_reducible refine q_then ?_ | with_reducible refine q_block ?_
    exact ret1 rfl (by decide) ⟨_, hm, rfl, toExt hB8⟩
  · replace hm := hm.2 h13
    refine w_skip ?_
    refine hK2 _ _ ?_
    refine w_cut (σ := Unit) (fun _ => []) (fun _ w' => m_impl_CrossesOk_K0 Q ∧ Below w.heap.size w w' ∧ Sep w' w.heap.size []) ?_ ?_
    · refine w_seq fun K16 hK16 => ?_
      refine w_region ?_
      refine wl_val (g_move (v := .slice a1 n1 c1) rfl) rfl ?_
      refine wl_val (q_len SL24 rfl (Vw.len (hp1.bel hB8))) rfl ?_
      refine wl_val (g_move (v := .int .i64 0) rfl) rfl ?_
      refine wl_nil ?_
      refine hK16 _ _ ?_
      refine w_block ?_
      obtain ⟨I53, μ54, h055, hr56⟩ := hm
      refine w_for (σ := Int) (fun v52 => [(0, .int .i64 p0), (15, .slice a1 n1 c1), (16, .int .i64 (p1.length : Int)), (17, .int .i64 v52)]) (fun v52 w' => I53 v52 ∧ Below w.heap.size w w' ∧ Sep w' w.heap.size []) (fun v52 => μ54 v52) (0) ⟨rfl, rfl, rfl, rfl, trivial⟩ ⟨h055, hB8, hS9⟩ ?_
      rintro v52 b_ w57 ⟨hi_, hB58, hS59⟩
      show Wp _ _ _ _ (upds b_ [(0, .int .i64 p0), (15, .slice a1 n1 c1), (16, .int .i64 (p1.length : Int)), (17, .int .i64 v52)]) w57
      have hm := hr56 v52 hi_
      refine w_seq fun K61 hK61 => ?_
      refine w_region ?_
      refine wl_val (g_lss (a := v52) (b := (p1.length : Int)) rfl rfl) rfl ?_
      refine wl_nil ?_
      refine hK61 _ _ ?_
      refine w_seq fun K62 hK62 => ?_
      refine w_condI (p := v52 < (p1.length : Int)) (b := (decide (v52 < (p1.length : Int)))) rfl decide_eq_true_iff (fun h63 => ?_) (fun h63 => ?_)
      · replace hm := hm.1 h63
        refine w_skip ?_
        refine hK62 _ _ ?_
        refine w_seq fun K64 hK64 => ?_
        refine w_block ?_
        refine w_seq fun K65 hK65 => ?_
        refine w_region ?_
        obtain ⟨hg66, hm⟩ := hm
        refine wl_val (q_index (i := v52) SL24 rfl rfl (hp1.bel hB58) hg66) rfl ?_
        refine wl_val (q_loadS (i := v52) (cs := [.int .i64 (p1[(Int.toNat v52)]!.1), .bool (p1[(Int.toNat v52)]!.2)]) AG56 (hp1.bel hB58) hg66 rfl rfl) rfl ?_
        refine wl_step rfl (q_alloc (cs := #[.int .i64 0, .bool false]) ZR56 rfl hS59) ?_
        rintro _ w67 ⟨g68, rfl, hS70, hE69⟩
        have hB72 := hB58.trans (Ext.stp hE69 hS59.base)
        refine wl_step rfl (q_storeB (i := 0) (bs' := #[.int .i64 (p1[(Int.toNat v52)]!.1), .bool (p1[(Int.toNat v52)]!.2)]) (vs := [.int .i64 (p1[(Int.toNat v52)]!.1), .bool (p1[(Int.toNat v52)]!.2)]) hS70 AG56.sz rfl rfl rfl (by simp [Value.oneCell']) (Nat.le_of_ble_eq_true rfl) rfl) ?_
        rintro _ w73 ⟨rfl, hS74, hb75⟩
        have hB76 := hB72.trans hb75
        refine wl_nil ?_
        refine hK65 _ _ ?_
        refine w_seq fun K77 hK77 => ?_
        refine w_region ?_
        refine wl_val (g_fieldAddr (q := (⟨g68, 0, none⟩ : Addr)) FL56_0 ON3 rfl) rfl ?_
        refine wl_val (q_loadB (i := 0) (bs := #[.int .i64 (p1[(Int.toNat v52)]!.1), .bool (p1[(Int.toNat v52)]!.2)]) hS74.g0 ON3 rfl rfl) rfl ?_
        refine wl_val (g_move (v := .int .i64 p0) rfl) rfl ?_
        obtain ⟨hg78, hm⟩ := hm
        refine wl_val (g_sub (a := p0) (b := 2) rfl rfl hg78) rfl ?_
        refine wl_step rfl (g_call (vs := #[.int .i64 (p1[(Int.toNat v52)]!.1), .int .i64 0, .int .i64 (p0 - 2)]) CF54 (args3 rfl rfl rfl) (m_impl_within_fn (p1[(Int.toNat v52)]!.1) 0 (p0 - 2) hm)) ?_
        rintro _ w79 ⟨r82, hm, rfl, hE80⟩
        have hB83 := hB76.trans (Ext.stp hE80 hS74.base)
        have hS84 := hS74.ext hE80
        refine wl_val (g_not (a := r82) rfl) rfl ?_
        refine wl_nil ?_
        refine hK77 _ _ ?_
        refine w_condI (p := ¬ (r82 = true)) (b := (!r82)) rfl (i_not Iff.rfl) (fun h85 => ?_) (fun h85 => ?_)
        · replace hm := hm.1 h85
          refine w_seq fun K86 hK86 => ?_
          refine w_region ?_
          refine wl_val (g_assign (v := .bool false) rfl) rfl ?_
          refine wl_nil ?_
          refine hK86 _ _ ?_
          refine w_ret ?_
          repeat first | with_reducible refine q_then ?_ | with_reducible refine q_block ?_
          exact ret1 rfl (by decide) ⟨_, hm, rfl, toExt hB83⟩
        · replace hm := hm.2 h85
          refine w_skip ?_
          refine hK64 _ _ ?_
          refine w_region ?_
          obtain ⟨hg87, hm⟩ := hm
          refine wl_val (g_add (a := v52) (b := 1) rfl rfl hg87) rfl ?_
          refine wl_val (g_move (v := .int .i64 (v52 + 1)) rfl) rfl ?_
          refine wl_nil ?_
          have hS88 := hS84.tail
          exact ⟨((v52 + 1)), hm.2, ⟨rfl, rfl, rfl, rfl, trivial⟩, ⟨hm.1, hB83, hS88⟩⟩
      · replace hm := hm.2 h63
        refine w_exit ?_
        exact ⟨(), trivial, ⟨hm, hB58, hS59⟩⟩
    · rintro _ b_ w89 ⟨hm, hB90, hS91⟩
      show Wp _ _ _ _ (upds b_ []) w89
      refine w_seq fun K92 hK92 => ?_
      refine w_region ?_
      refine wl_val (g_assign (v := .bool true) rfl) rfl ?_
      refine wl_nil ?_
      refine hK92 _ _ ?_
      refine w_ret ?_
      repeat first | with_reducible refine q_then ?_ | with_reducible refine q_block ?_
      exact ret1 rfl (by decide) ⟨_, hm, rfl, toExt hB90⟩

theorem m_impl_twists_1_fn {w : World} {B_ : Nat} {L_ : List Ob} {gq0 : Nat} {aq0 : Option Addr} {nq0 cq0 : Nat} {q0 : List (List Int)} {yq0 : List (Hd Int)} {Q : (List (List Int)) → Prop} (hS0 : Sep w B_ (oB gq0 37 #[.slice aq0 nq0 cq0] :: oS 39 aq0 nq0 cq0 (yq0 : List (Hd Int)) :: oT 3 (yq0 : List (Hd Int)) :: L_)) (p0 : Cross) (p1 : Int) (p2 : Int) (heq0 : ers yq0 = q0) (hm : m_impl_twists_1 p0 p1 p2 q0 Q) :
    Fn Try.prog 75 #[.agg #[.int .i64 p0.1, .bool p0.2], .int .i64 p1, .int .i64 p2, .pointer (some (⟨gq0, 0, none⟩ : Addr))] w (fun v w' => ∃ (x0 : List (List Int)) (aa0 : Option Addr) (nn0 cc0 : Nat) (yy0 : List (Hd Int)), Q x0 ∧ ers yy0 = x0 ∧ v = .tuple #[] ∧ Below B_ w w' ∧ Sep w' B_ (oB gq0 37 #[.slice aa0 nn0 cc0] :: oS 39 aa0 nn0 cc0 yy0 :: oT 3 yy0 :: L_)) := by
  unfold m_impl_twists_1 at hm
  have hB0 := Below.refl B_ w
  refine fn_of_wp Try.func75 rfl (by kernel_rfl) (Nat.le_of_ble_eq_true rfl) ?_
  refine w_seq fun K5 hK5 => ?_
  refine w_region ?_
  refine wl_step rfl (q_box (cs := #[.int .i64 p0.1, .bool p0.2]) rfl rfl hS0) ?_
  rintro _ w6 ⟨g7, rfl, hS9, hE8⟩
  have hB11 := hB0.trans (Ext.stp hE8 hS0.base)
  refine wl_nil ?_
  refine hK5 _ _ ?_
  refine w_seq fun K12 hK12 => ?_
  refine w_region ?_
  refine wl_val (g_assign (v := .int .i64 (-1)) rfl) rfl ?_
  refine wl_nil ?_
  refine hK12 _ _ ?_
  refine w_cut (σ := Int) (fun v16 => [(1, .int .i64 p1), (2, .int .i64 p2), (3, .pointer (some (⟨gq0, 0, none⟩ : Addr))), (7, .int .i64 v16)]) (fun v16 w' => m_impl_twists_1_K0 p1 p2 q0 Q v16 ∧ Below B_ w w' ∧ Sep w' B_ (oB gq0 37 #[.slice aq0 nq0 cq0] :: oS 39 aq0 nq0 cq0 (yq0 : List (Hd Int)) :: oT 3 (yq0 : List (Hd Int)) :: L_)) ?_ ?_
  · refine w_seq fun K18 hK18 => ?_
    refine w_region ?_
    refine wl_val (g_fieldAddr (q := (⟨g7, 0, none⟩ : Addr)) FL56_1 ON4 rfl) rfl ?_
    refine wl_val (q_loadB (i := 1) (bs := #[.int .i64 p0.1, .bool p0.2]) hS9.g0 ON4 rfl rfl) rfl ?_
    refine wl_nil ?_
    refine hK18 _ _ ?_
    refine w_condI (p := p0.2 = true) (b := p0.2) rfl Iff.rfl (fun h19 => ?_) (fun h19 => ?_)
    · replace hm := hm.1 h19
      refine w_region ?_
      refine wl_val (g_assign (v := .int .i64 1) rfl) rfl ?_
      refine wl_nil ?_
      have hS20 := hS9.tail
      exact ⟨(1), ⟨rfl, rfl, rfl, rfl, trivial⟩, ⟨hm, hB11, hS20⟩⟩
    · replace hm := hm.2 h19
      refine w_skip ?_
      have hS21 := hS9.tail
      exact ⟨((-1)), ⟨rfl, rfl, rfl, rfl, trivial⟩, ⟨hm, hB11, hS21⟩⟩
  · rintro v16 b_ w22 ⟨hm, hB23, hS24⟩
    show Wp _ _ _ _ (upds b_ [(1, .int .i64 p1), (2, .int .i64 p2), (3, .pointer (some (⟨gq0, 0, none⟩ : Addr))), (7, .int .i64 v16)]) w22
    refine w_seq fun K25 hK25 => ?_
    refine w_region ?_
    refine wl_val (q_loadB (i := 0) (bs := #[.slice aq0 nq0 cq0]) hS24.g0 ON37 rfl rfl) rfl ?_
    refine wl_val (g_move (v := .int .i64 p1) rfl) rfl ?_
    obtain ⟨hg26, hm⟩ := hm
    refine wl_val (q_index (i := p1) SL37 rfl rfl (Tv.o (oT.vw hS24.g1 hS24.g2 heq0)) (Tv.g (oT.vw hS24.g1 hS24.g2 heq0) hg26)) rfl ?_
    refine wl_val (q_load (i := p1) (v := .slice ((yq0[(Int.toNat p1)]!).1) ((yq0[(Int.toNat p1)]!).2.2.length) ((yq0[(Int.toNat p1)]!).2.1)) ON39 (Tv.o (oT.vw hS24.g1 hS24.g2 heq0)) (Tv.g (oT.vw hS24.g1 hS24.g2 heq0) hg26) rfl rfl) rfl ?_
    refine wl_val (g_move (v := .int .i64 p2) rfl) rfl ?_
    obtain ⟨hg27, hm⟩ := hm
    refine wl_val (q_index (i := p2) SL39 rfl rfl (Tv.row (oT.vw hS24.g1 hS24.g2 heq0) hg26) hg27) rfl ?_
    refine wl_val (q_load (i := p2) (v := .int .i64 ((q0[(Int.toNat p1)]!)[(Int.toNat p2)]!)) ON3 (Tv.row (oT.vw hS24.g1 hS24.g2 heq0) hg26) hg27 rfl rfl) rfl ?_
    refine wl_val (g_move (v := .int .i64 v16) rfl) rfl ?_
    obtain ⟨hg28, hm⟩ := hm
    refine wl_val (g_add (a := (q0[(Int.toNat p1)]!)[(Int.toNat p2)]!) (b := v16) rfl rfl hg28) rfl ?_
    obtain ⟨hg29, hm⟩ := hm
    refine wl_val (q_index (i := p2) SL39 rfl rfl (Tv.row (oT.vw hS24.g1 hS24.g2 heq0) hg26) hg29) rfl ?_
    have hS33 := hS24.f2
    have hS34 := hS33.f2
    refine wl_step rfl (q_row (i := p1) (k := p2) (v := (((q0[(Int.toNat p1)]!)[(Int.toNat p2)]! + v16) : Int)) hS34 heq0 hg26 hg29 ON3.sz rfl rfl rfl) ?_
    rintro _ w30 ⟨rfl, y35, he36, hS31, hb32⟩
    have hB37 := hB23.trans hb32
    refine wl_nil ?_
    refine hK25 _ _ ?_
    refine w_region ?_
    refine wl_val (q_loadB (i := 0) (bs := #[.slice aq0 nq0 cq0]) hS31.g2 ON37 rfl rfl) rfl ?_
    refine wl_val (g_move (v := .int .i64 p2) rfl) rfl ?_
    obtain ⟨hg38, hm⟩ := hm
    refine wl_val (q_index (i := p2) SL37 rfl rfl (Tv.o (oT.vw hS31.g0 hS31.g1 he36)) (Tv.g (oT.vw hS31.g0 hS31.g1 he36) hg38)) rfl ?_
    refine wl_val (q_load (i := p2) (v := .slice ((y35[(Int.toNat p2)]!).1) ((y35[(Int.toNat p2)]!).2.2.length) ((y35[(Int.toNat p2)]!).2.1)) ON39 (Tv.o (oT.vw hS31.g0 hS31.g1 he36)) (Tv.g (oT.vw hS31.g0 hS31.g1 he36) hg38) rfl rfl) rfl ?_
    refine wl_val (g_move (v := .int .i64 p1) rfl) rfl ?_
    obtain ⟨hg39, hm⟩ := hm
    refine wl_val (q_index (i := p1) SL39 rfl rfl (Tv.row (oT.vw hS31.g0 hS31.g1 he36) hg38) hg39) rfl ?_
    refine wl_val (q_load (i := p1) (v := .int .i64 (((q0.set (Int.toNat p1) (q0[(Int.toNat p1)]!.set (Int.toNat p2) ((q0[(Int.toNat p1)]!)[(Int.toNat p2)]! + v16)))[(Int.toNat p2)]!)[(Int.toNat p1)]!)) ON3 (Tv.row (oT.vw hS31.g0 hS31.g1 he36) hg38) hg39 rfl rfl) rfl ?_
    refine wl_val (g_move (v := .int .i64 v16) rfl) rfl ?_
    obtain ⟨hg40, hm⟩ := hm
    refine wl_val (g_add (a := ((q0.set (Int.toNat p1) (q0[(Int.toNat p1)]!.set (Int.toNat p2) ((q0[(Int.toNat p1)]!)[(Int.toNat p2)]! + v16)))[(Int.toNat p2)]!)[(Int.toNat p1)]!) (b := v16) rfl rfl hg40) rfl ?_
    obtain ⟨hg41, hm⟩ := hm
    refine wl_val (q_index (i := p1) SL39 rfl rfl (Tv.row (oT.vw hS31.g0 hS31.g1 he36) hg38) hg41) rfl ?_
    have hS45 := hS31.f1
    have hS46 := hS45.f1
    refine wl_step rfl (q_row (i := p2) (k := p1) (v := ((((q0.set (Int.toNat p1) (q0[(Int.toNat p1)]!.set (Int.toNat p2) ((q0[(Int.toNat p1)]!)[(Int.toNat p2)]! + v16)))[(Int.toNat p2)]!)[(Int.toNat p1)]! + v16) : Int)) hS46 he36 hg38 hg41 ON3.sz rfl rfl rfl) ?_
    rintro _ w42 ⟨rfl, y47, he48, hS43, hb44⟩
    have hB49 := hB37.trans hb44
    refine wl_nil ?_
    have hS50 := hS43.f1
    have hS51 := hS50.f1
    have hS52 := hS51.f2
    repeat first | with_reducible refine q_then ?_ | with_reducible refine q_block ?_
    exact ret0n rfl ⟨_, _, _, _, _, hm, he48, rfl, hB49, hS52⟩

theorem m_impl_upTo_fn {w : World}  {Q : (List Int) → Prop} (p0 : Int) (hm : m_impl_upTo p0 Q) :
    Fn Try.prog 77 #[.int .i64 p0] w (fun v w' => ∃ (r0 : List Int) (a0 : Option Addr) (n0 c0 : Nat), Q r0 ∧ v = .slice a0 n0 c0 ∧ Ext w w' ∧ Sep w' w.heap.size [oS 3 a0 n0 c0 r0]) := by
  unfold m_impl_upTo at hm
  have hB0 := Below.refl w.heap.size w
  have hS0 : Sep w w.heap.size [] := Sep.nil (Nat.le_refl _)
  refine fn_of_wp Try.func77 rfl (by kernel_rfl) (Nat.le_of_ble_eq_true rfl) ?_
  refine w_seq fun K1 hK1 => ?_
  refine w_region ?_
  refine wl_val (g_assign (v := .slice none 0 0) rfl) rfl ?_
  refine wl_nil ?_
  refine hK1 _ _ ?_
  refine w_seq fun K2 hK2 => ?_
  refine w_region ?_
  refine wl_step rfl (q_lit0 (α := Int) rfl SL39 hS0) ?_
  rintro _ w3 ⟨a4, rfl, hS6, hE5⟩
  have hB8 := hB0.trans (Ext.stp hE5 hS0.base)
  refine wl_val (g_assign (v := .slice a4 0 0) rfl) rfl ?_
  refine wl_nil ?_
  refine hK2 _ _ ?_
  refine w_cut (σ := List Int × Option Addr × Nat × Nat) (fun ⟨x74, a75, n76, c77⟩ => [(3, .slice a75 n76 c77)]) (fun ⟨x74, a75, n76, c77⟩ w' => m_impl_upTo_K0 Q x74 ∧ Below w.heap.size w w' ∧ Sep w' w.heap.size [oS 3 a75 n76 c77 (x74 : List Int)]) ?_ ?_
  · refine w_seq fun K79 hK79 => ?_
    refine w_region ?_
    refine wl_val (g_move (v := .int .i64 p0) rfl) rfl ?_
    refine wl_val (g_move (v := .int .i64 0) rfl) rfl ?_
    refine wl_nil ?_
    refine hK79 _ _ ?_
    refine w_block ?_
    obtain ⟨I85, μ86, h087, hr88⟩ := hm
    refine w_for (σ := List Int × Option Addr × Nat × Nat × Int) (fun ⟨x80, a81, n82, c83, v84⟩ => [(3, .slice a81 n82 c83), (6, .int .i64 p0), (7, .int .i64 v84)]) (fun ⟨x80, a81, n82, c83, v84⟩ w' => I85 x80 v84 ∧ Below w.heap.size w w' ∧ Sep w' w.heap.size [oS 3 a81 n82 c83 (x80 : List Int)]) (fun ⟨x80, a81, n82, c83, v84⟩ => μ86 x80 v84) ([], a4, 0, 0, 0) ⟨rfl, rfl, rfl, trivial⟩ ⟨h087, hB8, hS6⟩ ?_
    rintro ⟨x80, a81, n82, c83, v84⟩ b_ w89 ⟨hi_, hB90, hS91⟩
    show Wp _ _ _ _ (upds b_ [(3, .slice a81 n82 c83), (6, .int .i64 p0), (7, .int .i64 v84)]) w89
    have hm := hr88 x80 v84 hi_
    refine w_seq fun K93 hK93 => ?_
    refine w_region ?_
    refine wl_val (g_lss (a := v84) (b := p0) rfl rfl) rfl ?_
    refine wl_nil ?_
    refine hK93 _ _ ?_
    refine w_seq fun K94 hK94 => ?_
    refine w_condI (p := v84 < p0) (b := (decide (v84 < p0))) rfl decide_eq_true_iff (fun h95 => ?_) (fun h95 => ?_)
    · replace hm := hm.1 h95
      refine w_skip ?_
      refine hK94 _ _ ?_
      refine w_seq fun K96 hK96 => ?_
      refine w_block ?_
      refine w_seq fun K97 hK97 => ?_
      refine w_region ?_
      refine wl_val (g_move (v := .int .i64 v84) rfl) rfl ?_
      refine wl_val (g_assign (v := .int .i64 v84) rfl) rfl ?_
      refine wl_nil ?_
      refine hK97 _ _ ?_
      refine w_region ?_
      refine wl_val (g_move (v := .slice a81 n82 c83) rfl) rfl ?_
      refine wl_val (g_move (v := .int .i64 v84) rfl) rfl ?_
      refine wl_step rfl (q_lit1 (y := (v84 : Int)) SL39 rfl rfl (by decide) hS91) ?_
      rintro _ w98 ⟨a99, rfl, hS101, hE100⟩
      have hB103 := hB90.trans (Ext.stp hE100 hS91.base)
      have hS109 := hS101.f1
      obtain ⟨hg110, hm⟩ := hm
      refine wl_step rfl (q_append SL39 rfl rfl hS109 (oS.vw hS109.g1) hg110 (by decide)) ?_
      rintro _ w104 ⟨a105, c106, rfl, hS108, hb107⟩
      have hB111 := hB103.trans hb107
      refine wl_val (g_assign (v := .slice a105 (n82 + 1) c106) rfl) rfl ?_
      refine wl_nil ?_
      refine hK96 _ _ ?_
      refine w_region ?_
      obtain ⟨hg112, hm⟩ := hm
      refine wl_val (g_add (a := v84) (b := 1) rfl rfl hg112) rfl ?_
      refine wl_val (g_move (v := .int .i64 (v84 + 1)) rfl) rfl ?_
      refine wl_nil ?_
      have hS113 := hS108.f1
      have hS114 := hS113.tail
      exact ⟨((x80 ++ ([v84])), a105, (n82 + 1), c106, (v84 + 1)), hm.2, ⟨rfl, rfl, rfl, trivial⟩, ⟨hm.1, hB111, hS114⟩⟩
    · replace hm := hm.2 h95
      refine w_exit ?_
      exact ⟨(x80, a81, n82, c83), ⟨rfl, trivial⟩, ⟨hm, hB90, hS91⟩⟩
  · rintro ⟨x74, a75, n76, c77⟩ b_ w115 ⟨hm, hB116, hS117⟩
    show Wp _ _ _ _ (upds b_ [(3, .slice a75 n76 c77)]) w115
    refine w_seq fun K118 hK118 => ?_
    refine w_region ?_
    refine wl_val (g_move (v := .slice a75 n76 c77) rfl) rfl ?_
    refine wl_val (g_assign (v := .slice a75 n76 c77) rfl) rfl ?_
    refine wl_nil ?_
    refine hK118 _ _ ?_
    refine w_ret ?_
    repeat first | with_reducible refine q_then ?_ | with_reducible refine q_block ?_
    exact ret1 rfl (by decide) ⟨_, _, _, _, hm, rfl, toExt hB116, hS117⟩

theorem m_impl_follow_twists_1_fn {w : World} {B_ : Nat} {L_ : List Ob} {a1 : Option Addr} {n1 c1 : Nat} {p1 : List Cross} {gp2_0 : Nat} {ap2_0 : Option Addr} {np2_0 cp2_0 : Nat} {p2_0 : List (List Int)} {yp2_0 : List (Hd Int)} {Q : (List Int) → (List (List Int)) → Prop} (hS0 : Sep w B_ (oB gp2_0 37 #[.slice ap2_0 np2_0 cp2_0] :: oS 39 ap2_0 np2_0 cp2_0 (yp2_0 : List (Hd Int)) :: oT 3 (yp2_0 : List (Hd Int)) :: L_)) (p0 : Int) (hp1 : Vw B_ w a1 n1 c1 p1) (hep2_0 : ers yp2_0 = p2_0) (hm : m_impl_follow_twists_1 p0 p1 p2_0 Q) :
    Fn Try.prog 74 #[.int .i64 p0, .slice a1 n1 c1, .func (.func 75) #[] #[.pointer (some (⟨gp2_0, 0, none⟩ : Addr))]] w (fun v w' => ∃ (r0 : List Int) (a0 : Option Addr) (n0 c0 : Nat) (x0 : List (List Int)) (aa0 : Option Addr) (nn0 cc0 : Nat) (yy0 : List (Hd Int)), Q r0 x0 ∧ ers yy0 = x0 ∧ v = .slice a0 n0 c0 ∧ Below B_ w w' ∧ Sep w' B_ (oS 3 a0 n0 c0 r0 :: oB gp2_0 37 #[.slice aa0 nn0 cc0] :: oS 39 aa0 nn0 cc0 yy0 :: oT 3 yy0 :: L_)) := by
  unfold m_impl_follow_twists_1 at hm
  have hB0 := Below.refl B_ w
  refine fn_of_wp Try.func74 rfl (by kernel_rfl) (Nat.le_of_ble_eq_true rfl) ?_
  refine w_seq fun K5 hK5 => ?_
  refine w_region ?_
  refine wl_val (g_assign (v := .slice none 0 0) rfl) rfl ?_
  refine wl_nil ?_
  refine hK5 _ _ ?_
  refine w_seq fun K6 hK6 => ?_
  refine w_region ?_
  refine wl_val (g_move (v := .int .i64 p0) rfl) rfl ?_
  refine wl_step rfl (g_call (vs := #[.int .i64 p0]) CF77 (args1 rfl) (m_impl_upTo_fn p0 hm)) ?_
  rintro _ w7 ⟨r10, a11, n12, c13, hm, rfl, hE8, hN9⟩
  have hS15 := hS0.call1 hE8 hN9
  have hB16 := hB0.trans (Ext.stp hE8 hS0.base)
  refine wl_val (g_assign (v := .slice a11 n12 c13) rfl) rfl ?_
  refine wl_nil ?_
  refine hK6 _ _ ?_
  refine w_cut (σ := List Int × List (List Int) × Option Addr × Nat × Nat × List (Hd Int)) (fun ⟨x487, x488, a489, n490, c491, y492⟩ => [(7, .slice a11 n12 c13)]) (fun ⟨x487, x488, a489, n490, c491, y492⟩ w' => m_impl_follow_twists_1_K0 Q x487 x488 ∧ ers y492 = x488 ∧ Below B_ w w' ∧ Sep w' B_ (oB gp2_0 37 #[.slice a489 n490 c491] :: oS 3 a11 n12 c13 (x487 : List Int) :: oS 39 a489 n490 c491 (y492 : List (Hd Int)) :: oT 3 (y492 : List (Hd Int)) :: L_)) ?_ ?_
  · refine w_seq fun K495 hK495 => ?_
    refine w_region ?_
    refine wl_val (g_move (v := .slice a1 n1 c1) rfl) rfl ?_
    refine wl_val (q_len SL24 rfl (Vw.len (hp1.bel hB16))) rfl ?_
    refine wl_val (g_move (v := .int .i64 0) rfl) rfl ?_
    refine wl_nil ?_
    refine hK495 _ _ ?_
    refine w_block ?_
    have hS504 := hS15.f3
    have hS505 := hS504.f3
    have hS506 := hS505.f2
    have hS507 := hS506.f3
    obtain ⟨I508, μ509, h0510, hr511⟩ := hm
    refine w_for (σ := List Int × Int × List (List Int) × Option Addr × Nat × Nat × List (Hd Int)) (fun ⟨x496, v497, x498, a499, n500, c501, y502⟩ => [(2, .func (.func 75) #[] #[.pointer (some (⟨gp2_0, 0, none⟩ : Addr))]), (7, .slice a11 n12 c13), (12, .slice a1 n1 c1), (13, .int .i64 (p1.length : Int)), (14, .int .i64 v497)]) (fun ⟨x496, v497, x498, a499, n500, c501, y502⟩ w' => I508 x496 v497 x498 ∧ ers y502 = x498 ∧ Below B_ w w' ∧ Sep w' B_ (oB gp2_0 37 #[.slice a499 n500 c501] :: oS 3 a11 n12 c13 (x496 : List Int) :: oS 39 a499 n500 c501 (y502 : List (Hd Int)) :: oT 3 (y502 : List (Hd Int)) :: L_)) (fun ⟨x496, v497, x498, a499, n500, c501, y502⟩ => μ509 x496 v497 x498) (r10, 0, p2_0, ap2_0, np2_0, cp2_0, yp2_0) ⟨rfl, rfl, rfl, rfl, rfl, trivial⟩ ⟨h0510, hep2_0, hB16, hS507⟩ ?_
    rintro ⟨x496, v497, x498, a499, n500, c501, y502⟩ b_ w512 ⟨hi_, he503, hB513, hS514⟩
    show Wp _ _ _ _ (upds b_ [(2, .func (.func 75) #[] #[.pointer (some (⟨gp2_0, 0, none⟩ : Addr))]), (7, .slice a11 n12 c13), (12, .slice a1 n1 c1), (13, .int .i64 (p1.length : Int)), (14, .int .i64 v497)]) w512
    have hm := hr511 x496 v497 x498 hi_
    refine w_seq fun K516 hK516 => ?_
    refine w_region ?_
    refine wl_val (g_lss (a := v497) (b := (p1.length : Int)) rfl rfl) rfl ?_
    refine wl_nil ?_
    refine hK516 _ _ ?_
    refine w_seq fun K517 hK517 => ?_
    refine w_condI (p := v497 < (p1.length : Int)) (b := (decide (v497 < (p1.length : Int)))) rfl decide_eq_true_iff (fun h518 => ?_) (fun h518 => ?_)
    · replace hm := hm.1 h518
      refine w_skip ?_
      refine hK517 _ _ ?_
      refine w_seq fun K519 hK519 => ?_
      refine w_block ?_
      refine w_seq fun K520 hK520 => ?_
      refine w_region ?_
      obtain ⟨hg521, hm⟩ := hm
      refine wl_val (q_index (i := v497) SL24 rfl rfl (hp1.bel hB513) hg521) rfl ?_
      refine wl_val (q_loadS (i := v497) (cs := [.int .i64 (p1[(Int.toNat v497)]!.1), .bool (p1[(Int.toNat v497)]!.2)]) AG56 (hp1.bel hB513) hg521 rfl rfl) rfl ?_
      refine wl_step rfl (q_alloc (cs := #[.int .i64 0, .bool false]) ZR56 rfl hS514) ?_
      rintro _ w522 ⟨g523, rfl, hS525, hE524⟩
      have hB527 := hB513.trans (Ext.stp hE524 hS514.base)
      refine wl_step rfl (q_storeB (i := 0) (bs' := #[.int .i64 (p1[(Int.toNat v497)]!.1), .bool (p1[(Int.toNat v497)]!.2)]) (vs := [.int .i64 (p1[(Int.toNat v497)]!.1), .bool (p1[(Int.toNat v497)]!.2)]) hS525 AG56.sz rfl rfl rfl (by simp [Value.oneCell']) (Nat.le_of_ble_eq_true rfl) rfl) ?_
      rintro _ w528 ⟨rfl, hS529, hb530⟩
      have hB531 := hB527.trans hb530
      refine wl_nil ?_
      refine hK520 _ _ ?_
      refine w_seq fun K532 hK532 => ?_
      refine w_draw (X := Ext) (Y := Ext) [0, 0, 0, 0, 0, 0, 0, 0, 0, 0, 0, 0, 0, 1] MIX (by decide +kernel) rfl Ext.refl (fun _ _ _ => Ext.trans) (fun _ _ _ => Chg.trans) (fun _ _ h => Ext.chg h _) (fun w533 hE534 => ?_)
      have hB535 := hB531.trans (Ext.stp hE534 hS529.base)
      have hS536 := hS529.ext hE534
      refine ⟨.func (.func 75) #[] #[.pointer (some (⟨gp2_0, 0, none⟩ : Addr))], fun w537 hX538 => od_plain rfl (by have hS539 := hS536.ext hX538; have hB540 := hB535.trans (Ext.stp hX538 hS536.base); exact is_ext (g_move (v := .func (.func 75) #[] #[.pointer (some (⟨gp2_0, 0, none⟩ : Addr))]) rfl)), ?_⟩
      refine ⟨.agg #[.int .i64 (p1[(Int.toNat v497)]!.1), .bool (p1[(Int.toNat v497)]!.2)], fun w541 hX542 => od_plain rfl (by have hS543 := hS536.ext hX542; have hB544 := hB535.trans (Ext.stp hX542 hS536.base); exact is_ext (q_loadBS (bs := #[.int .i64 (p1[(Int.toNat v497)]!.1), .bool (p1[(Int.toNat v497)]!.2)]) hS543.g0 AG56 rfl)), ?_⟩
      refine ⟨.slice a11 n12 c13, fun w545 hX546 => od_plain rfl (by have hS547 := hS536.ext hX546; have hB548 := hB535.trans (Ext.stp hX546 hS536.base); exact is_ext (g_move (v := .slice a11 n12 c13) rfl)), ?_⟩
      refine ⟨.pointer (some (((⟨g523, 0, none⟩ : Addr)).add 0)), fun w549 hX550 => od_plain rfl (by have hS551 := hS536.ext hX550; have hB552 := hB535.trans (Ext.stp hX550 hS536.base); exact is_ext (g_fieldAddr (q := (⟨g523, 0, none⟩ : Addr)) FL56_0 ON3 rfl)), ?_⟩
      refine ⟨.int .i64 (p1[(Int.toNat v497)]!.1), fun w553 hX554 => od_plain rfl (by have hS555 := hS536.ext hX554; have hB556 := hB535.trans (Ext.stp hX554 hS536.base); exact is_ext (q_loadB (i := 0) (bs := #[.int .i64 (p1[(Int.toNat v497)]!.1), .bool (p1[(Int.toNat v497)]!.2)]) hS555.g0 ON3 rfl rfl)), ?_⟩
      obtain ⟨hg561, hm⟩ := hm
      refine ⟨.pointer (some ((adr a11).add ((Int.toNat (p1[(Int.toNat v497)]!.1)) * El.m Int))), fun w557 hX558 => od_plain rfl (by have hS559 := hS536.ext hX558; have hB560 := hB535.trans (Ext.stp hX558 hS536.base); exact is_ext (q_index (i := p1[(Int.toNat v497)]!.1) SL39 rfl rfl (oS.vw hS559.g2) hg561)), ?_⟩
      refine ⟨.int .i64 (x496[(Int.toNat (p1[(Int.toNat v497)]!.1))]!), fun w562 hX563 => od_plain rfl (by have hS564 := hS536.ext hX563; have hB565 := hB535.trans (Ext.stp hX563 hS536.base); exact is_ext (q_load (i := p1[(Int.toNat v497)]!.1) (v := .int .i64 (x496[(Int.toNat (p1[(Int.toNat v497)]!.1))]!)) ON3 (oS.vw hS564.g2) hg561 rfl rfl)), ?_⟩
      refine ⟨.slice a11 n12 c13, fun w566 hX567 => od_plain rfl (by have hS568 := hS536.ext hX567; have hB569 := hB535.trans (Ext.stp hX567 hS536.base); exact is_ext (g_move (v := .slice a11 n12 c13) rfl)), ?_⟩
      refine ⟨.pointer (some (((⟨g523, 0, none⟩ : Addr)).add 0)), fun w570 hX571 => od_plain rfl (by have hS572 := hS536.ext hX571; have hB573 := hB535.trans (Ext.stp hX571 hS536.base); exact is_ext (g_fieldAddr (q := (⟨g523, 0, none⟩ : Addr)) FL56_0 ON3 rfl)), ?_⟩
      refine ⟨.int .i64 (p1[(Int.toNat v497)]!.1), fun w574 hX575 => od_plain rfl (by have hS576 := hS536.ext hX575; have hB577 := hB535.trans (Ext.stp hX575 hS536.base); exact is_ext (q_loadB (i := 0) (bs := #[.int .i64 (p1[(Int.toNat v497)]!.1), .bool (p1[(Int.toNat v497)]!.2)]) hS576.g0 ON3 rfl rfl)), ?_⟩
      obtain ⟨hg582, hm⟩ := hm
      refine ⟨.int .i64 (p1[(Int.toNat v497)]!.1 + 1), fun w578 hX579 => od_plain rfl (by have hS580 := hS536.ext hX579; have hB581 := hB535.trans (Ext.stp hX579 hS536.base); exact is_ext (g_add (a := p1[(Int.toNat v497)]!.1) (b := 1) rfl rfl hg582)), ?_⟩
      obtain ⟨hg587, hm⟩ := hm
      refine ⟨.pointer (some ((adr a11).add ((Int.toNat (p1[(Int.toNat v497)]!.1 + 1)) * El.m Int))), fun w583 hX584 => od_plain rfl (by have hS585 := hS536.ext hX584; have hB586 := hB535.trans (Ext.stp hX584 hS536.base); exact is_ext (q_index (i := (p1[(Int.toNat v497)]!.1 + 1)) SL39 rfl rfl (oS.vw hS585.g2) hg587)), ?_⟩
      refine ⟨.int .i64 (x496[(Int.toNat (p1[(Int.toNat v497)]!.1 + 1))]!), fun w588 hX589 => od_plain rfl (by have hS590 := hS536.ext hX589; have hB591 := hB535.trans (Ext.stp hX589 hS536.base); exact is_ext (q_load (i := (p1[(Int.toNat v497)]!.1 + 1)) (v := .int .i64 (x496[(Int.toNat (p1[(Int.toNat v497)]!.1 + 1))]!)) ON3 (oS.vw hS590.g2) hg587 rfl rfl)), ?_⟩
      intro w592 hX593
      have hB594 := hB535.trans (Ext.stp hX593 hS536.base)
      have hS595 := hS536.ext hX593
      have hS596 := hS595.f4
      have hS597 := hS596.f4
      have hS598 := hS597.f3
      refine ⟨_, od_plain rfl (g_callvc (f := 75) (va := #[.agg #[.int .i64 (p1[(Int.toNat v497)]!.1), .bool (p1[(Int.toNat v497)]!.2)], .int .i64 (x496[(Int.toNat (p1[(Int.toNat v497)]!.1))]!), .int .i64 (x496[(Int.toNat (p1[(Int.toNat v497)]!.1 + 1))]!)]) (cap := #[.pointer (some (⟨gp2_0, 0, none⟩ : Addr))]) (vs := #[.agg #[.int .i64 (p1[(Int.toNat v497)]!.1), .bool (p1[(Int.toNat v497)]!.2)], .int .i64 (x496[(Int.toNat (p1[(Int.toNat v497)]!.1))]!), .int .i64 (x496[(Int.toNat (p1[(Int.toNat v497)]!.1 + 1))]!), .pointer (some (⟨gp2_0, 0, none⟩ : Addr))]) CF75 rfl (args3 rfl rfl rfl) rfl (m_impl_twists_1_fn hS598 (p1[(Int.toNat v497)]!.1, p1[(Int.toNat v497)]!.2) (x496[(Int.toNat (p1[(Int.toNat v497)]!.1))]!) (x496[(Int.toNat (p1[(Int.toNat v497)]!.1 + 1))]!) he503 hm)), ?_⟩
      rintro _ w599 ⟨x602, a603, n604, c605, y606, hm, he607, rfl, hb600, hS601⟩
      have hB608 := hB594.trans hb600
      intro w609 hX610
      have hB611 := hB608.trans (Ext.stp hX610 hS601.base)
      have hS612 := hS601.ext hX610
      refine hK532 _ _ ?_
      have hS618 := hS612.f4
      refine w_draw (X := Ext) (Y := (fun w_ w_' => Chg w_ w_' (blk a11))) [0, 0, 0, 3, 3, 3, 3, 0, 0, 0, 0, 0, 0, 0, 0, 0, 0, 0, 0, 4, 0, 1] MIX (by decide +kernel) rfl Ext.refl (fun _ _ _ => Ext.trans) (fun _ _ _ => Chg.trans) (fun _ _ h => Ext.chg h _) (fun w619 hE620 => ?_)
      have hB621 := hB611.trans (Ext.stp hE620 hS618.base)
      have hS622 := hS618.ext hE620
      refine ⟨.slice a11 n12 c13, fun w623 hX624 => od_plain rfl (by have hS625 := hS622.ext hX624; have hB626 := hB621.trans (Ext.stp hX624 hS622.base); exact is_ext (g_move (v := .slice a11 n12 c13) rfl)), ?_⟩
      refine ⟨.pointer (some (((⟨g523, 0, none⟩ : Addr)).add 0)), fun w627 hX628 => od_plain rfl (by have hS629 := hS622.ext hX628; have hB630 := hB621.trans (Ext.stp hX628 hS622.base); exact is_ext (g_fieldAddr (q := (⟨g523, 0, none⟩ : Addr)) FL56_0 ON3 rfl)), ?_⟩
      refine ⟨.int .i64 (p1[(Int.toNat v497)]!.1), fun w631 hX632 => od_plain rfl (by have hS633 := hS622.ext hX632; have hB634 := hB621.trans (Ext.stp hX632 hS622.base); exact is_ext (q_loadB (i := 0) (bs := #[.int .i64 (p1[(Int.toNat v497)]!.1), .bool (p1[(Int.toNat v497)]!.2)]) hS633.g4 ON3 rfl rfl)), ?_⟩
      refine ⟨.slice a11 n12 c13, fun w635 hX636 => od_plain rfl (by have hS637 := Sep.chgT hS622 hX636 (fun k hk => hk); have hB638 := hB621.trans (Sep.stp hS622 hX636 (fun k hk => hk)); exact is_ext (g_move (v := .slice a11 n12 c13) rfl)), ?_⟩
      refine ⟨.pointer (some (((⟨g523, 0, none⟩ : Addr)).add 0)), fun w639 hX640 => od_plain rfl (by have hS641 := Sep.chgT hS622 hX640 (fun k hk => hk); have hB642 := hB621.trans (Sep.stp hS622 hX640 (fun k hk => hk)); exact is_ext (g_fieldAddr (q := (⟨g523, 0, none⟩ : Addr)) FL56_0 ON3 rfl)), ?_⟩
      refine ⟨.int .i64 (p1[(Int.toNat v497)]!.1), fun w643 hX644 => od_plain rfl (by have hS645 := Sep.chgT hS622 hX644 (fun k hk => hk); have hB646 := hB621.trans (Sep.stp hS622 hX644 (fun k hk => hk)); exact is_ext (q_loadB (i := 0) (bs := #[.int .i64 (p1[(Int.toNat v497)]!.1), .bool (p1[(Int.toNat v497)]!.2)]) hS645.g3 ON3 rfl rfl)), ?_⟩
      obtain ⟨hg651, hm⟩ := hm
      refine ⟨.int .i64 (p1[(Int.toNat v497)]!.1 + 1), fun w647 hX648 => od_plain rfl (by have hS649 := Sep.chgT hS622 hX648 (fun k hk => hk); have hB650 := hB621.trans (Sep.stp hS622 hX648 (fun k hk => hk)); exact is_ext (g_add (a := p1[(Int.toNat v497)]!.1) (b := 1) rfl rfl hg651)), ?_⟩
      refine ⟨.slice a11 n12 c13, fun w652 hX653 => od_plain rfl (by have hS654 := hS622.ext hX653; have hB655 := hB621.trans (Ext.stp hX653 hS622.base); exact is_ext (g_move (v := .slice a11 n12 c13) rfl)), ?_⟩
      refine ⟨.pointer (some (((⟨g523, 0, none⟩ : Addr)).add 0)), fun w656 hX657 => od_plain rfl (by have hS658 := hS622.ext hX657; have hB659 := hB621.trans (Ext.stp hX657 hS622.base); exact is_ext (g_fieldAddr (q := (⟨g523, 0, none⟩ : Addr)) FL56_0 ON3 rfl)), ?_⟩
      refine ⟨.int .i64 (p1[(Int.toNat v497)]!.1), fun w660 hX661 => od_plain rfl (by have hS662 := hS622.ext hX661; have hB663 := hB621.trans (Ext.stp hX661 hS622.base); exact is_ext (q_loadB (i := 0) (bs := #[.int .i64 (p1[(Int.toNat v497)]!.1), .bool (p1[(Int.toNat v497)]!.2)]) hS662.g4 ON3 rfl rfl)), ?_⟩
      obtain ⟨hg668, hm⟩ := hm
      refine ⟨.int .i64 (p1[(Int.toNat v497)]!.1 + 1), fun w664 hX665 => od_plain rfl (by have hS666 := hS622.ext hX665; have hB667 := hB621.trans (Ext.stp hX665 hS622.base); exact is_ext (g_add (a := p1[(Int.toNat v497)]!.1) (b := 1) rfl rfl hg668)), ?_⟩
      obtain ⟨hg673, hm⟩ := hm
      refine ⟨.pointer (some ((adr a11).add ((Int.toNat (p1[(Int.toNat v497)]!.1 + 1)) * El.m Int))), fun w669 hX670 => od_plain rfl (by have hS671 := hS622.ext hX670; have hB672 := hB621.trans (Ext.stp hX670 hS622.base); exact is_ext (q_index (i := (p1[(Int.toNat v497)]!.1 + 1)) SL39 rfl rfl (oS.vw hS671.g0) hg673)), ?_⟩
      refine ⟨.int .i64 (x496[(Int.toNat (p1[(Int.toNat v497)]!.1 + 1))]!), fun w674 hX675 => od_plain rfl (by have hS676 := hS622.ext hX675; have hB677 := hB621.trans (Ext.stp hX675 hS622.base); exact is_ext (q_load (i := (p1[(Int.toNat v497)]!.1 + 1)) (v := .int .i64 (x496[(Int.toNat (p1[(Int.toNat v497)]!.1 + 1))]!)) ON3 (oS.vw hS676.g0) hg673 rfl rfl)), ?_⟩
      refine ⟨.slice a11 n12 c13, fun w678 hX679 => od_plain rfl (by have hS680 := hS622.ext hX679; have hB681 := hB621.trans (Ext.stp hX679 hS622.base); exact is_ext (g_move (v := .slice a11 n12 c13) rfl)), ?_⟩
      refine ⟨.pointer (some (((⟨g523, 0, none⟩ : Addr)).add 0)), fun w682 hX683 => od_plain rfl (by have hS684 := hS622.ext hX683; have hB685 := hB621.trans (Ext.stp hX683 hS622.base); exact is_ext (g_fieldAddr (q := (⟨g523, 0, none⟩ : Addr)) FL56_0 ON3 rfl)), ?_⟩
      refine ⟨.int .i64 (p1[(Int.toNat v497)]!.1), fun w686 hX687 => od_plain rfl (by have hS688 := hS622.ext hX687; have hB689 := hB621.trans (Ext.stp hX687 hS622.base); exact is_ext (q_loadB (i := 0) (bs := #[.int .i64 (p1[(Int.toNat v497)]!.1), .bool (p1[(Int.toNat v497)]!.2)]) hS688.g4 ON3 rfl rfl)), ?_⟩
      obtain ⟨hg694, hm⟩ := hm
      refine ⟨.pointer (some ((adr a11).add ((Int.toNat (p1[(Int.toNat v497)]!.1)) * El.m Int))), fun w690 hX691 => od_plain rfl (by have hS692 := hS622.ext hX691; have hB693 := hB621.trans (Ext.stp hX691 hS622.base); exact is_ext (q_index (i := p1[(Int.toNat v497)]!.1) SL39 rfl rfl (oS.vw hS692.g0) hg694)), ?_⟩
      refine ⟨.int .i64 (x496[(Int.toNat (p1[(Int.toNat v497)]!.1))]!), fun w695 hX696 => od_plain rfl (by have hS697 := hS622.ext hX696; have hB698 := hB621.trans (Ext.stp hX696 hS622.base); exact is_ext (q_load (i := p1[(Int.toNat v497)]!.1) (v := .int .i64 (x496[(Int.toNat (p1[(Int.toNat v497)]!.1))]!)) ON3 (oS.vw hS697.g0) hg694 rfl rfl)), ?_⟩
      obtain ⟨hg703, hm⟩ := hm
      refine ⟨.pointer (some ((adr a11).add ((Int.toNat (p1[(Int.toNat v497)]!.1)) * El.m Int))), fun w699 hX700 => od_plain rfl (by have hS701 := hS622.ext hX700; have hB702 := hB621.trans (Ext.stp hX700 hS622.base); exact is_ext (q_index (i := p1[(Int.toNat v497)]!.1) SL39 rfl rfl (oS.vw hS701.g0) hg703)), ?_⟩
      intro w704 hX705
      have hB706 := hB621.trans (Ext.stp hX705 hS622.base)
      have hS707 := hS622.ext hX705
      refine ⟨_, od_plain rfl (q_storeC (i := p1[(Int.toNat v497)]!.1) (v := (x496[(Int.toNat (p1[(Int.toNat v497)]!.1 + 1))]! : Int)) hS707 ON3.sz hg703 rfl rfl rfl), ?_⟩
      rintro _ w708 ⟨rfl, hS709, hb710, hC711⟩
      refine ⟨hC711, ?_⟩
      have hB712 := hB706.trans hb710
      obtain ⟨hg717, hm⟩ := hm
      refine ⟨.pointer (some ((adr a11).add ((Int.toNat (p1[(Int.toNat v497)]!.1 + 1)) * El.m Int))), fun w713 hX714 => od_plain rfl (by have hS715 := hS709.ext hX714; have hB716 := hB712.trans (Ext.stp hX714 hS709.base); exact is_ext (q_index (i := (p1[(Int.toNat v497)]!.1 + 1)) SL39 rfl rfl (oS.vw hS715.g0) hg717)), ?_⟩
      intro w718 hX719
      have hB720 := hB712.trans (Ext.stp hX719 hS709.base)
      have hS721 := hS709.ext hX719
      refine ⟨_, od_plain rfl (q_store (i := (p1[(Int.toNat v497)]!.1 + 1)) (v := (x496[(Int.toNat (p1[(Int.toNat v497)]!.1))]! : Int)) hS721 ON3.sz hg717 rfl rfl rfl), ?_⟩
      rintro _ w722 ⟨rfl, hS723, hb724⟩
      have hB725 := hB720.trans hb724
      intro w726 hX727
      have hB728 := hB725.trans (Ext.stp hX727 hS723.base)
      have hS729 := hS723.ext hX727
      refine hK519 _ _ ?_
      refine w_region ?_
      obtain ⟨hg730, hm⟩ := hm
      refine wl_val (g_add (a := v497) (b := 1) rfl rfl hg730) rfl ?_
      refine wl_val (g_move (v := .int .i64 (v497 + 1)) rfl) rfl ?_
      refine wl_nil ?_
      have hS731 := hS729.f4
      have hS732 := hS731.tail
      have hS733 := hS732.f3
      have hS734 := hS733.f3
      have hS735 := hS734.f2
      have hS736 := hS735.f3
      exact ⟨(((x496.set (Int.toNat (p1[(Int.toNat v497)]!.1)) (x496[(Int.toNat (p1[(Int.toNat v497)]!.1 + 1))]!)).set (Int.toNat (p1[(Int.toNat v497)]!.1 + 1)) (x496[(Int.toNat (p1[(Int.toNat v497)]!.1))]!)), (v497 + 1), x602, a603, n604, c605, y606), hm.2, ⟨rfl, rfl, rfl, rfl, rfl, trivial⟩, ⟨hm.1, he607, hB728, hS736⟩⟩
    · replace hm := hm.2 h518
      refine w_exit ?_
      exact ⟨(x496, x498, a499, n500, c501, y502), ⟨rfl, trivial⟩, ⟨hm, he503, hB513, hS514⟩⟩
  · rintro ⟨x487, x488, a489, n490, c491, y492⟩ b_ w737 ⟨hm, he493, hB738, hS739⟩
    show Wp _ _ _ _ (upds b_ [(7, .slice a11 n12 c13)]) w737
    refine w_seq fun K740 hK740 => ?_
    refine w_region ?_
    refine wl_val (g_move (v := .slice a11 n12 c13) rfl) rfl ?_
    refine wl_val (g_assign (v := .slice a11 n12 c13) rfl) rfl ?_
    refine wl_nil ?_
    refine hK740 _ _ ?_
    refine w_ret ?_
    have hS741 := hS739.f3
    have hS742 := hS741.f3
    have hS743 := hS742.f2
    have hS744 := hS743.f3
    repeat first | with_reducible refine q_then ?_ | with_reducible refine q_block ?_
    exact ret1 rfl (by decide) ⟨_, _, _, _, _, _, _, _, _, hm, he493, rfl, hB738, hS744⟩

theorem m_impl_twists_fn {w : World} {a1 : Option Addr} {n1 c1 : Nat} {p1 : List Cross} {Q : (List (List Int)) → Prop} (p0 : Int) (hp1 : Vw w.heap.size w a1 n1 c1 p1) (hm : m_impl_twists p0 p1 Q) :
    Fn Try.prog 58 #[.int .i64 p0, .slice a1 n1 c1] w (fun v w' => ∃ (r0 : List (List Int)) (a0 : Option Addr) (n0 c0 : Nat) (y0 : List (Hd Int)), Q r0 ∧ ers y0 = r0 ∧ v = .slice a0 n0 c0 ∧ Ext w w' ∧ Sep w' w.heap.size [oS 39 a0 n0 c0 y0, oT 3 y0]) := by
  unfold m_impl_twists at hm
  have hB0 := Below.refl w.heap.size w
  have hS0 : Sep w w.heap.size [] := Sep.nil (Nat.le_refl _)
  refine fn_of_wp Try.func58 rfl (by kernel_rfl) (Nat.le_of_ble_eq_true rfl) ?_
  refine w_seq fun K1 hK1 => ?_
  refine w_region ?_
  refine wl_val (g_assign (v := .slice none 0 0) rfl) rfl ?_
  refine wl_nil ?_
  refine hK1 _ _ ?_
  refine w_seq fun K2 hK2 => ?_
  refine w_region ?_
  refine wl_val (g_move (v := .int .i64 p0) rfl) rfl ?_
  obtain ⟨hg3, hm⟩ := hm
  refine wl_step rfl (q_make (y := ((none, 0, []) : Hd Int)) SL37 rfl rfl hg3.1 hg3.2 (by decide) hS0) ?_
  rintro _ w4 ⟨a5, rfl, hS7, hE6⟩
  have hB9 := hB0.trans (Ext.stp hE6 hS0.base)
  have hS10 := hS7.nilRows (y := ((none, 0, []) : Hd Int)) (E := 3) (fun j hj => by first | rfl | (show (if j = 0 then _ else _) = _; split <;> rfl)) (Int.toNat p0)
  have he12 : ers (List.replicate (Int.toNat p0) ((none, 0, []) : Hd Int)) = List.replicate (Int.toNat p0) ([] : List Int) := by simp only [ers, List.map_replicate]; rfl
  refine wl_step rfl (q_alloc (cs := #[.slice none 0 0]) ZR37 rfl hS10) ?_
  rintro _ w14 ⟨g15, rfl, hS17, hE16⟩
  have hB19 := hB9.trans (Ext.stp hE16 hS10.base)
  refine wl_step rfl (q_storeB (i := 0) (bs' := #[.slice a5 (Int.toNat p0) (Int.toNat p0)]) (vs := [.slice a5 (Int.toNat p0) (Int.toNat p0)]) hS17 ON37.sz rfl rfl rfl (by simp [Value.oneCell']) (Nat.le_of_ble_eq_true rfl) rfl) ?_
  rintro _ w20 ⟨rfl, hS21, hb22⟩
  have hB23 := hB19.trans hb22
  refine wl_nil ?_
  refine hK2 _ _ ?_
  refine w_cut (σ := List (List Int) × List (Hd Int)) (fun ⟨x175, y176⟩ => [(0, .int .i64 p0), (1, .slice a1 n1 c1), (5, .pointer (some (⟨g15, 0, none⟩ : Addr)))]) (fun ⟨x175, y176⟩ w' => m_impl_twists_K0 p0 p1 Q x175 ∧ ers y176 = x175 ∧ Below w.heap.size w w' ∧ Sep w' w.heap.size [oB g15 37 #[.slice a5 (Int.toNat p0) (Int.toNat p0)], oS 39 a5 (Int.toNat p0) (Int.toNat p0) (y176 : List (Hd Int)), oT 3 (y176 : List (Hd Int))]) ?_ ?_
  · refine w_seq fun K179 hK179 => ?_
    refine w_region ?_
    refine wl_val (q_loadB (i := 0) (bs := #[.slice a5 (Int.toNat p0) (Int.toNat p0)]) hS21.g0 ON37 rfl rfl) rfl ?_
    refine wl_val (q_len SL37 rfl (Tv.len (oT.vw hS21.g2 hS21.g1 he12))) rfl ?_
    refine wl_val (g_move (v := .int .i64 0) rfl) rfl ?_
    refine wl_nil ?_
    refine hK179 _ _ ?_
    refine w_block ?_
    have hS184 := hS21.f1
    have hS185 := hS184.f2
    have hS186 := hS185.f2
    obtain ⟨I187, μ188, h0189, hr190⟩ := hm
    refine w_for (σ := Int × List (List Int) × List (Hd Int)) (fun ⟨v180, x181, y182⟩ => [(0, .int .i64 p0), (1, .slice a1 n1 c1), (5, .pointer (some (⟨g15, 0, none⟩ : Addr))), (10, .int .i64 ((List.replicate (Int.toNat p0) ([] : List Int)).length : Int)), (11, .int .i64 v180)]) (fun ⟨v180, x181, y182⟩ w' => I187 v180 x181 ∧ ers y182 = x181 ∧ Below w.heap.size w w' ∧ Sep w' w.heap.size [oB g15 37 #[.slice a5 (Int.toNat p0) (Int.toNat p0)], oS 39 a5 (Int.toNat p0) (Int.toNat p0) (y182 : List (Hd Int)), oT 3 (y182 : List (Hd Int))]) (fun ⟨v180, x181, y182⟩ => μ188 v180 x181) (0, List.replicate (Int.toNat p0) ([] : List Int), List.replicate (Int.toNat p0) ((none, 0, []) : Hd Int)) ⟨rfl, rfl, rfl, rfl, rfl, trivial⟩ ⟨h0189, he12, hB23, hS186⟩ ?_
    rintro ⟨v180, x181, y182⟩ b_ w191 ⟨hi_, he183, hB192, hS193⟩
    show Wp _ _ _ _ (upds b_ [(0, .int .i64 p0), (1, .slice a1 n1 c1), (5, .pointer (some (⟨g15, 0, none⟩ : Addr))), (10, .int .i64 ((List.replicate (Int.toNat p0) ([] : List Int)).length : Int)), (11, .int .i64 v180)]) w191
    have hm := hr190 v180 x181 hi_
    refine w_seq fun K195 hK195 => ?_
    refine w_region ?_
    refine wl_val (g_lss (a := v180) (b := ((List.replicate (Int.toNat p0) ([] : List Int)).length : Int)) rfl rfl) rfl ?_
    refine wl_nil ?_
    refine hK195 _ _ ?_
    refine w_seq fun K196 hK196 => ?_
    refine w_condI (p := v180 < ((List.replicate (Int.toNat p0) ([] : List Int)).length : Int)) (b := (decide (v180 < ((List.replicate (Int.toNat p0) ([] : List Int)).length : Int)))) rfl decide_eq_true_iff (fun h197 => ?_) (fun h197 => ?_)
    · replace hm := hm.1 h197
      refine w_skip ?_
      refine hK196 _ _ ?_
      refine w_seq fun K198 hK198 => ?_
      refine w_block ?_
      refine w_seq fun K199 hK199 => ?_
      refine w_region ?_
      refine wl_val (g_move (v := .int .i64 v180) rfl) rfl ?_
      refine wl_val (g_assign (v := .int .i64 v180) rfl) rfl ?_
      refine wl_nil ?_
      refine hK199 _ _ ?_
      refine w_draw (X := Ext) (Y := Ext) [0, 0, 0, 2, 0, 1] MIX (by decide +kernel) rfl Ext.refl (fun _ _ _ => Ext.trans) (fun _ _ _ => Chg.trans) (fun _ _ h => Ext.chg h _) (fun w200 hE201 => ?_)
      have hB202 := hB192.trans (Ext.stp hE201 hS193.base)
      have hS203 := hS193.ext hE201
      refine ⟨.slice a5 (Int.toNat p0) (Int.toNat p0), fun w204 hX205 => od_plain rfl (by have hS206 := hS203.ext hX205; have hB207 := hB202.trans (Ext.stp hX205 hS203.base); exact is_ext (q_loadB (i := 0) (bs := #[.slice a5 (Int.toNat p0) (Int.toNat p0)]) hS206.g0 ON37 rfl rfl)), ?_⟩
      refine ⟨.int .i64 v180, fun w208 hX209 => od_plain rfl (by have hS210 := hS203.ext hX209; have hB211 := hB202.trans (Ext.stp hX209 hS203.base); exact is_ext (g_move (v := .int .i64 v180) rfl)), ?_⟩
      refine ⟨.int .i64 p0, fun w212 hX213 => od_plain rfl (by have hS214 := hS203.ext hX213; have hB215 := hB202.trans (Ext.stp hX213 hS203.base); exact is_ext (g_move (v := .int .i64 p0) rfl)), ?_⟩
      intro w216 hX217
      have hB218 := hB202.trans (Ext.stp hX217 hS203.base)
      have hS219 := hS203.ext hX217
      obtain ⟨hg220, hm⟩ := hm
      refine ⟨_, od_plain rfl (q_make (y := (0 : Int)) SL39 rfl rfl hg220.1 hg220.2 (by decide) hS219), ?_⟩
      rintro _ w221 ⟨a222, rfl, hS224, hE223⟩
      refine ⟨hE223, ?_⟩
      have hB226 := hB218.trans (Ext.stp hE223 hS219.base)
      obtain ⟨hg231, hm⟩ := hm
      refine ⟨.pointer (some ((adr a5).add ((Int.toNat v180) * El.m (Hd Int)))), fun w227 hX228 => od_plain rfl (by have hS229 := hS224.ext hX228; have hB230 := hB226.trans (Ext.stp hX228 hS224.base); exact is_ext (q_index (i := v180) SL37 rfl rfl (Tv.o (oT.vw hS229.g2 hS229.g3 he183)) (Tv.g (oT.vw hS229.g2 hS229.g3 he183) hg231))), ?_⟩
      intro w232 hX233
      have hB234 := hB226.trans (Ext.stp hX233 hS224.base)
      have hS235 := hS224.ext hX233
      have hn240 := oS.len hS235.g0
      have hS241 := hS235.oneRow
      have he239 : ers [((a222, (Int.toNat p0), List.replicate (Int.toNat p0) (0 : Int)) : Hd Int)] = [List.replicate (Int.toNat p0) (0 : Int)] := rfl
      have hS243 := hS241.f3
      have hS244 := hS243.f3
      have hS245 := hS244.f2
      refine ⟨_, od_plain rfl (q_setT (i := v180) hS245 he183 hg231 ON39.sz rfl rfl (hd_cells hn240)), ?_⟩
      rintro _ w236 ⟨rfl, y246, he247, hS237, hb238⟩
      have he248 := he247.trans (congrArg (List.set _ _) (ers_one he239))
      have hB249 := hB234.trans hb238
      intro w250 hX251
      have hB252 := hB249.trans (Ext.stp hX251 hS237.base)
      have hS253 := hS237.ext hX251
      refine hK198 _ _ ?_
      refine w_region ?_
      obtain ⟨hg254, hm⟩ := hm
      refine wl_val (g_add (a := v180) (b := 1) rfl rfl hg254) rfl ?_
      refine wl_val (g_move (v := .int .i64 (v180 + 1)) rfl) rfl ?_
      refine wl_nil ?_
      have hS255 := hS253.f1
      have hS256 := hS255.f1
      have hS257 := hS256.f2
      exact ⟨((v180 + 1), (x181.set (Int.toNat v180) (List.replicate (Int.toNat p0) (0 : Int))), y246), hm.2, ⟨rfl, rfl, rfl, rfl, rfl, trivial⟩, ⟨hm.1, he248, hB252, hS257⟩⟩
    · replace hm := hm.2 h197
      refine w_exit ?_
      exact ⟨(x181, y182), ⟨rfl, rfl, rfl, trivial⟩, ⟨hm, he183, hB192, hS193⟩⟩
  · rintro ⟨x175, y176⟩ b_ w258 ⟨hm, he177, hB259, hS260⟩
    show Wp _ _ _ _ (upds b_ [(0, .int .i64 p0), (1, .slice a1 n1 c1), (5, .pointer (some (⟨g15, 0, none⟩ : Addr)))]) w258
    refine w_seq fun K261 hK261 => ?_
    refine w_region ?_
    refine wl_val (g_move (v := .int .i64 p0) rfl) rfl ?_
    refine wl_val (g_move (v := .slice a1 n1 c1) rfl) rfl ?_
    refine wl_val (g_makeFunc (vs := #[.pointer (some (⟨g15, 0, none⟩ : Addr))]) (args1 rfl)) rfl ?_
    have hS262 := hS260.f2
    have hS263 := hS262.f2
    have hS264 := hS263.f2
    refine wl_step rfl (g_call (vs := #[.int .i64 p0, .slice a1 n1 c1, .func (.func 75) #[] #[.pointer (some (⟨g15, 0, none⟩ : Addr))]]) CF74 (args3 rfl rfl rfl) (m_impl_follow_twists_1_fn hS264 p0 (hp1.bel hB259) he177 hm)) ?_
    rintro _ w265 ⟨r268, a269, n270, c271, x273, a274, n275, c276, y277, hm, he278, rfl, hb266, hS267⟩
    have hB279 := hB259.trans hb266
    refine wl_nil ?_
    refine hK261 _ _ ?_
    refine w_seq fun K280 hK280 => ?_
    refine w_region ?_
    refine wl_val (q_loadB (i := 0) (bs := #[.slice a274 n275 c276]) hS267.g1 ON37 rfl rfl) rfl ?_
    refine wl_val (g_assign (v := .slice a274 n275 c276) rfl) rfl ?_
    refine wl_nil ?_
    refine hK280 _ _ ?_
    refine w_ret ?_
    have hS281 := hS267.tail
    have hS282 := hS281.tail
    repeat first | with_reducible refine q_then ?_ | with_reducible refine q_block ?_
    exact ret1 rfl (by decide) ⟨_, _, _, _, _, hm, he278, rfl, toExt hB279, hS282⟩

theorem m_laws_eqCross_fn {w : World}  {Q : Bool → Prop} (p0 : Cross) (p1 : Cross) (hm : m_laws_eqCross p0 p1 Q) :
    Fn Try.prog 52 #[.agg #[.int .i64 p0.1, .bool p0.2], .agg #[.int .i64 p1.1, .bool p1.2]] w (fun v w' => ∃ (r0 : Bool), Q r0 ∧ v = .bool r0 ∧ Ext w w') := by
  unfold m_laws_eqCross at hm
  have hB0 := Below.refl w.heap.size w
  have hS0 : Sep w w.heap.size [] := Sep.nil (Nat.le_refl _)
  refine fn_of_wp Try.func52 rfl (by kernel_rfl) (Nat.le_of_ble_eq_true rfl) ?_
  refine w_seq fun K1 hK1 => ?_
  refine w_region ?_
  refine wl_step rfl (q_box (cs := #[.int .i64 p0.1, .bool p0.2]) rfl rfl hS0) ?_
  rintro _ w2 ⟨g3, rfl, hS5, hE4⟩
  have hB7 := hB0.trans (Ext.stp hE4 hS0.base)
  refine wl_step rfl (q_box (cs := #[.int .i64 p1.1, .bool p1.2]) rfl rfl hS5) ?_
  rintro _ w8 ⟨g9, rfl, hS11, hE10⟩
  have hB13 := hB7.trans (Ext.stp hE10 hS5.base)
  refine wl_val (g_assign (v := .bool false) rfl) rfl ?_
  refine wl_nil ?_
  refine hK1 _ _ ?_
  refine w_seq fun K14 hK14 => ?_
  refine w_seq fun K15 hK15 => ?_
  refine w_region ?_
  refine wl_val (g_fieldAddr (q := (⟨g3, 0, none⟩ : Addr)) FL56_0 ON3 rfl) rfl ?_
  refine wl_val (q_loadB (i := 0) (bs := #[.int .i64 p0.1, .bool p0.2]) hS11.g1 ON3 rfl rfl) rfl ?_
  refine wl_val (g_fieldAddr (q := (⟨g9, 0, none⟩ : Addr)) FL56_0 ON3 rfl) rfl ?_
  refine wl_val (q_loadB (i := 0) (bs := #[.int .i64 p1.1, .bool p1.2]) hS11.g0 ON3 rfl rfl) rfl ?_
  refine wl_val (g_neq (a := p0.1) (b := p1.1) rfl rfl) rfl ?_
  refine wl_nil ?_
  refine hK15 _ _ ?_
  refine w_condI (p := p0.1 ≠ p1.1) (b := (decide (p0.1 ≠ p1.1))) rfl decide_eq_true_iff (fun h16 => ?_) (fun h16 => ?_)
  · replace hm := hm.1 h16
    refine w_seq fun K17 hK17 => ?_
    refine w_region ?_
    refine wl_val (g_assign (v := .bool false) rfl) rfl ?_
    refine wl_nil ?_
    refine hK17 _ _ ?_
    refine w_ret ?_
    repeat first | with_reducible refine q_then ?_ | with_reducible refine q_block ?_
    exact ret1 rfl (by decide) ⟨_, hm, rfl, toExt hB13⟩
  · replace hm := hm.2 h16
    refine w_skip ?_
    refine hK14 _ _ ?_
    refine w_seq fun K18 hK18 => ?_
    refine w_seq fun K19 hK19 => ?_
    refine w_region ?_
    refine wl_val (g_fieldAddr (q := (⟨g3, 0, none⟩ : Addr)) FL56_1 ON4 rfl) rfl ?_
    refine wl_val (q_loadB (i := 1) (bs := #[.int .i64 p0.1, .bool p0.2]) hS11.g1 ON4 rfl rfl) rfl ?_
    refine wl_val (g_fieldAddr (q := (⟨g9, 0, none⟩ : Addr)) FL56_1 ON4 rfl) rfl ?_
    refine wl_val (q_loadB (i := 1) (bs := #[.int .i64 p1.1, .bool p1.2]) hS11.g0 ON4 rfl rfl) rfl ?_
    refine wl_val (g_neq_b (a := p0.2) (b := p1.2) UB rfl rfl) rfl ?_
    refine wl_nil ?_
    refine hK19 _ _ ?_
    refine w_condI (p := (p0.2) ≠ (p1.2)) (b := (decide ((p0.2) ≠ (p1.2)))) rfl decide_eq_true_iff (fun h20 => ?_) (fun h20 => ?_)
    · replace hm := hm.1 h20
      refine w_seq fun K21 hK21 => ?_
      refine w_region ?_
      refine wl_val (g_assign (v := .bool false) rfl) rfl ?_
      refine wl_nil ?_
      refine hK21 _ _ ?_
      refine w_ret ?_
      repeat first | with_reducible refine q_then ?_ | with_reducible refine q_block ?_
      exact ret1 rfl (by decide) ⟨_, hm, rfl, toExt hB13⟩
    · replace hm := hm.2 h20
      refine w_skip ?_
      refine hK18 _ _ ?_
      refine w_seq fun K22 hK22 => ?_
      refine w_region ?_
      refine wl_val (g_assign (v := .bool true) rfl) rfl ?_
      refine wl_nil ?_
      refine hK22 _ _ ?_
      refine w_ret ?_
      repeat first | with_reducible refine q_then ?_ | with_reducible refine q_block ?_
      exact ret1 rfl (by decide) ⟨_, hm, rfl, toExt hB13⟩

theorem m_laws_eqCrossS_fn {w : World} {a0 : Option Addr} {n0 c0 : Nat} {p0 : List Cross} {a1 : Option Addr} {n1 c1 : Nat} {p1 : List Cross} {Q : Bool → Prop} (hp0 : Vw w.heap.size w a0 n0 c0 p0) (hp1 : Vw w.heap.size w a1 n1 c1 p1) (hm : m_laws_eqCrossS p0 p1 Q) :
    Fn Try.prog 18 #[.slice a0 n0 c0, .slice a1 n1 c1] w (fun v w' => ∃ (r0 : Bool), Q r0 ∧ v = .bool r0 ∧ Ext w w') := by
  unfold m_laws_eqCrossS at hm
  have hB0 := Below.refl w.heap.size w
  have hS0 : Sep w w.heap.size [] := Sep.nil (Nat.le_refl _)
  refine fn_of_wp Try.func18 rfl (by kernel_rfl) (Nat.le_of_ble_eq_true rfl) ?_
  refine w_seq fun K1 hK1 => ?_
  refine w_region ?_
  refine wl_val (g_assign (v := .bool false) rfl) rfl ?_
  refine wl_nil ?_
  refine hK1 _ _ ?_
  refine w_seq fun K2 hK2 => ?_
  refine w_seq fun K3 hK3 => ?_
  refine w_region ?_
  refine wl_val (g_move (v := .slice a0 n0 c0) rfl) rfl ?_
  refine wl_val (q_len SL24 rfl (Vw.len (hp0.bel hB0))) rfl ?_
  refine wl_val (g_move (v := .slice a1 n1 c1) rfl) rfl ?_
  refine wl_val (q_len SL24 rfl (Vw.len (hp1.bel hB0))) rfl ?_
  refine wl_val (g_neq (a := (p0.length : Int)) (b := (p1.length : Int)) rfl rfl) rfl ?_
  refine wl_nil ?_
  refine hK3 _ _ ?_
  refine w_condI (p := (p0.length : Int) ≠ (p1.length : Int)) (b := (decide ((p0.length : Int) ≠ (p1.length : Int)))) rfl decide_eq_true_iff (fun h4 => ?_) (fun h4 => ?_)
  · replace hm := hm.1 h4
    refine w_seq fun K5 hK5 => ?_
    refine w_region ?_
    refine wl_val (g_assign (v := .bool false) rfl) rfl ?_
    refine wl_nil ?_
    refine hK5 _ _ ?_
    refine w_ret ?_
    repeat first | with_reducible refine q_then ?_ | with_reducible refine q_block ?_
    exact ret1 rfl (by decide) ⟨_, hm, rfl, toExt hB0⟩
  · replace hm := hm.2 h4
    refine w_skip ?_
    refine hK2 _ _ ?_
    refine w_cut (σ := Unit) (fun _ => []) (fun _ w' => m_laws_eqCrossS_K0 Q ∧ Below w.heap.size w w' ∧ Sep w' w.heap.size []) ?_ ?_
    · refine w_seq fun K7 hK7 => ?_
      refine w_region ?_
      refine wl_val (g_assign (v := .int .i64 0) rfl) rfl ?_
      refine wl_nil ?_
      refine hK7 _ _ ?_
      refine w_block ?_
      obtain ⟨I77, μ78, h079, hr80⟩ := hm
      refine w_for (σ := Int) (fun v76 => [(0, .slice a0 n0 c0), (1, .slice a1 n1 c1), (5, .int .i64 v76)]) (fun v76 w' => I77 v76 ∧ Below w.heap.size w w' ∧ Sep w' w.heap.size []) (fun v76 => μ78 v76) (0) ⟨rfl, rfl, rfl, trivial⟩ ⟨h079, hB0, hS0⟩ ?_
      rintro v76 b_ w81 ⟨hi_, hB82, hS83⟩
      show Wp _ _ _ _ (upds b_ [(0, .slice a0 n0 c0), (1, .slice a1 n1 c1), (5, .int .i64 v76)]) w81
      have hm := hr80 v76 hi_
      refine w_seq fun K85 hK85 => ?_
      refine w_seq fun K86 hK86 => ?_
      refine w_region ?_
      refine wl_val (g_move (v := .int .i64 v76) rfl) rfl ?_
      refine wl_val (g_move (v := .slice a0 n0 c0) rfl) rfl ?_
      refine wl_val (q_len SL24 rfl (Vw.len (hp0.bel hB82))) rfl ?_
      refine wl_val (g_lss (a := v76) (b := (p0.length : Int)) rfl rfl) rfl ?_
      refine wl_nil ?_
      refine hK86 _ _ ?_
      refine w_condI (p := v76 < (p0.length : Int)) (b := (decide (v76 < (p0.length : Int)))) rfl decide_eq_true_iff (fun h87 => ?_) (fun h87 => ?_)
      · replace hm := hm.1 h87
        refine w_skip ?_
        refine hK85 _ _ ?_
        refine w_seq fun K88 hK88 => ?_
        refine w_block ?_
        refine w_seq fun K89 hK89 => ?_
        refine w_draw (X := Ext) (Y := Ext) [] MIX (by decide +kernel) rfl Ext.refl (fun _ _ _ => Ext.trans) (fun _ _ _ => Chg.trans) (fun _ _ h => Ext.chg h _) (fun w90 hE91 => ?_)
        have hB92 := hB82.trans (Ext.stp hE91 hS83.base)
        have hS93 := hS83.ext hE91
        refine ⟨.slice a0 n0 c0, fun w94 hX95 => od_plain rfl (by have hS96 := hS93.ext hX95; have hB97 := hB92.trans (Ext.stp hX95 hS93.base); exact is_ext (g_move (v := .slice a0 n0 c0) rfl)), ?_⟩
        refine ⟨.int .i64 v76, fun w98 hX99 => od_plain rfl (by have hS100 := hS93.ext hX99; have hB101 := hB92.trans (Ext.stp hX99 hS93.base); exact is_ext (g_move (v := .int .i64 v76) rfl)), ?_⟩
        obtain ⟨hg106, hm⟩ := hm
        refine ⟨.pointer (some ((adr a0).add ((Int.toNat v76) * El.m Cross))), fun w102 hX103 => od_plain rfl (by have hS104 := hS93.ext hX103; have hB105 := hB92.trans (Ext.stp hX103 hS93.base); exact is_ext (q_index (i := v76) SL24 rfl rfl (hp0.bel hB105) hg106)), ?_⟩
        refine ⟨.agg #[.int .i64 (p0[(Int.toNat v76)]!.1), .bool (p0[(Int.toNat v76)]!.2)], fun w107 hX108 => od_plain rfl (by have hS109 := hS93.ext hX108; have hB110 := hB92.trans (Ext.stp hX108 hS93.base); exact is_ext (q_loadS (i := v76) (cs := [.int .i64 (p0[(Int.toNat v76)]!.1), .bool (p0[(Int.toNat v76)]!.2)]) AG56 (hp0.bel hB110) hg106 rfl rfl)), ?_⟩
        refine ⟨.slice a1 n1 c1, fun w111 hX112 => od_plain rfl (by have hS113 := hS93.ext hX112; have hB114 := hB92.trans (Ext.stp hX112 hS93.base); exact is_ext (g_move (v := .slice a1 n1 c1) rfl)), ?_⟩
        refine ⟨.int .i64 v76, fun w115 hX116 => od_plain rfl (by have hS117 := hS93.ext hX116; have hB118 := hB92.trans (Ext.stp hX116 hS93.base); exact is_ext (g_move (v := .int .i64 v76) rfl)), ?_⟩
        obtain ⟨hg123, hm⟩ := hm
        refine ⟨.pointer (some ((adr a1).add ((Int.toNat v76) * El.m Cross))), fun w119 hX120 => od_plain rfl (by have hS121 := hS93.ext hX120; have hB122 := hB92.trans (Ext.stp hX120 hS93.base); exact is_ext (q_index (i := v76) SL24 rfl rfl (hp1.bel hB122) hg123)), ?_⟩
        refine ⟨.agg #[.int .i64 (p1[(Int.toNat v76)]!.1), .bool (p1[(Int.toNat v76)]!.2)], fun w124 hX125 => od_plain rfl (by have hS126 := hS93.ext hX125; have hB127 := hB92.trans (Ext.stp hX125 hS93.base); exact is_ext (q_loadS (i := v76) (cs := [.int .i64 (p1[(Int.toNat v76)]!.1), .bool (p1[(Int.toNat v76)]!.2)]) AG56 (hp1.bel hB127) hg123 rfl rfl)), ?_⟩
        obtain ⟨r132, hk133, hm⟩ := hm
        refine ⟨.bool r132, fun w128 hX129 => od_plain rfl (by have hS130 := hS93.ext hX129; have hB131 := hB92.trans (Ext.stp hX129 hS93.base); exact (g_call (vs := #[.agg #[.int .i64 (p0[(Int.toNat v76)]!.1), .bool (p0[(Int.toNat v76)]!.2)], .agg #[.int .i64 (p1[(Int.toNat v76)]!.1), .bool (p1[(Int.toNat v76)]!.2)]]) CF52 (args2 rfl rfl) ((m_laws_eqCross_fn (p0[(Int.toNat v76)]!) (p1[(Int.toNat v76)]!) hk133).mono fun _ _ ⟨_, h1, h2, h3⟩ => ⟨by rw [h2, h1], h3⟩))), ?_⟩
        refine ⟨.bool (!r132), fun w134 hX135 => od_plain rfl (by have hS136 := hS93.ext hX135; have hB137 := hB92.trans (Ext.stp hX135 hS93.base); exact is_ext (g_not (a := r132) rfl)), ?_⟩
        intro w138 hX139
        have hB140 := hB92.trans (Ext.stp hX139 hS93.base)
        have hS141 := hS93.ext hX139
        refine hK89 _ _ ?_
        refine w_condI (p := ¬ (r132 = true)) (b := (!r132)) rfl (i_not Iff.rfl) (fun h142 => ?_) (fun h142 => ?_)
        · replace hm := hm.1 h142
          refine w_seq fun K143 hK143 => ?_
          refine w_region ?_
          refine wl_val (g_assign (v := .bool false) rfl) rfl ?_
          refine wl_nil ?_
          refine hK143 _ _ ?_
          refine w_ret ?_
          repeat first | with_reducible refine q_then ?_ | with_reducible refine q_block ?_
          exact ret1 rfl (by decide) ⟨_, hm, rfl, toExt hB140⟩
        · replace hm := hm.2 h142
          refine w_skip ?_
          refine hK88 _ _ ?_
          refine w_region ?_
          refine wl_val (g_move (v := .int .i64 v76) rfl) rfl ?_
          obtain ⟨hg144, hm⟩ := hm
          refine wl_val (g_add (a := v76) (b := 1) rfl rfl hg144) rfl ?_
          refine wl_val (g_assign (v := .int .i64 (v76 + 1)) rfl) rfl ?_
          refine wl_nil ?_
          exact ⟨((v76 + 1)), hm.2, ⟨rfl, rfl, rfl, trivial⟩, ⟨hm.1, hB140, hS141⟩⟩
      · replace hm := hm.2 h87
        refine w_exit ?_
        exact ⟨(), trivial, ⟨hm, hB82, hS83⟩⟩
    · rintro _ b_ w145 ⟨hm, hB146, hS147⟩
      show Wp _ _ _ _ (upds b_ []) w145
      refine w_seq fun K148 hK148 => ?_
      refine w_region ?_
      refine wl_val (g_assign (v := .bool true) rfl) rfl ?_
      refine wl_nil ?_
      refine hK148 _ _ ?_
      refine w_ret ?_
      repeat first | with_reducible refine q_then ?_ | with_reducible refine q_block ?_
      exact ret1 rfl (by decide) ⟨_, hm, rfl, toExt hB146⟩

theorem m_impl_size_fn {w : World}  {Q : Int → Prop} (p0 : Int) (hm : m_impl_size p0 Q) :
    Fn Try.prog 63 #[.int .i64 p0] w (fun v w' => ∃ (r0 : Int), Q r0 ∧ v = .int .i64 r0 ∧ Ext w w') := by
  unfold m_impl_size at hm
  have hB0 := Below.refl w.heap.size w
  have hS0 : Sep w w.heap.size [] := Sep.nil (Nat.le_refl _)
  refine fn_of_wp Try.func63 rfl (by kernel_rfl) (Nat.le_of_ble_eq_true rfl) ?_
  refine w_seq fun K1 hK1 => ?_
  refine w_region ?_
  refine wl_val (g_assign (v := .int .i64 0) rfl) rfl ?_
  refine wl_nil ?_
  refine hK1 _ _ ?_
  refine w_seq fun K2 hK2 => ?_
  refine w_region ?_
  refine wl_val (g_move (v := .int .i64 p0) rfl) rfl ?_
  refine wl_val (g_move (v := .int .i64 p0) rfl) rfl ?_
  obtain ⟨hg3, hm⟩ := hm
  refine wl_val (g_neg (a := p0) rfl hg3) rfl ?_
  refine wl_val (g_max (a := p0) (b := (-p0)) rfl rfl) rfl ?_
  refine wl_val (g_assign (v := .int .i64 (max p0 (-p0))) rfl) rfl ?_
  refine wl_nil ?_
  refine hK2 _ _ ?_
  refine w_ret ?_
  repeat first | with_reducible refine q_then ?_ | with_reducible refine q_block ?_
  exact ret1 rfl (by decide) ⟨_, hm, rfl, toExt hB0⟩

theorem m_laws_markCrossS_fn {w : World} {B_ : Nat} {L_ : List Ob} {a0 : Option Addr} {n0 c0 : Nat} {p0 : List Cross} {Q : Int → (List Cross) → Prop} (hS0 : Sep w B_ (oS 56 a0 n0 c0 (p0 : List Cross) :: L_)) (p1 : Int) (hm : m_laws_markCrossS p0 p1 Q) :
    Fn Try.prog 19 #[.slice a0 n0 c0, .int .i64 p1] w (fun v w' => ∃ (r0 : Int) (x0 : List Cross), Q r0 x0 ∧ v = .int .i64 r0 ∧ Below B_ w w' ∧ Sep w' B_ (oS 56 a0 n0 c0 x0 :: L_)) := by
  unfold m_laws_markCrossS at hm
  have hB0 := Below.refl B_ w
  refine fn_of_wp Try.func19 rfl (by kernel_rfl) (Nat.le_of_ble_eq_true rfl) ?_
  refine w_seq fun K2 hK2 => ?_
  refine w_region ?_
  refine wl_val (g_assign (v := .int .i64 0) rfl) rfl ?_
  refine wl_nil ?_
  refine hK2 _ _ ?_
  refine w_cut (σ := List Cross × Int) (fun ⟨x64, v65⟩ => [(1, .int .i64 v65)]) (fun ⟨x64, v65⟩ w' => m_laws_markCrossS_K0 Q x64 v65 ∧ Below B_ w w' ∧ Sep w' B_ (oS 56 a0 n0 c0 (x64 : List Cross) :: L_)) ?_ ?_
  · refine w_seq fun K67 hK67 => ?_
    refine w_region ?_
    refine wl_val (g_assign (v := .int .i64 0) rfl) rfl ?_
    refine wl_nil ?_
    refine hK67 _ _ ?_
    refine w_block ?_
    obtain ⟨I71, μ72, h073, hr74⟩ := hm
    refine w_for (σ := List Cross × Int × Int) (fun ⟨x68, v69, v70⟩ => [(0, .slice a0 n0 c0), (1, .int .i64 v69), (5, .int .i64 v70)]) (fun ⟨x68, v69, v70⟩ w' => I71 x68 v69 v70 ∧ Below B_ w w' ∧ Sep w' B_ (oS 56 a0 n0 c0 (x68 : List Cross) :: L_)) (fun ⟨x68, v69, v70⟩ => μ72 x68 v69 v70) (p0, p1, 0) ⟨rfl, rfl, rfl, trivial⟩ ⟨h073, hB0, hS0⟩ ?_
    rintro ⟨x68, v69, v70⟩ b_ w75 ⟨hi_, hB76, hS77⟩
    show Wp _ _ _ _ (upds b_ [(0, .slice a0 n0 c0), (1, .int .i64 v69), (5, .int .i64 v70)]) w75
    have hm := hr74 x68 v69 v70 hi_
    refine w_seq fun K79 hK79 => ?_
    refine w_seq fun K80 hK80 => ?_
    refine w_region ?_
    refine wl_val (g_move (v := .int .i64 v70) rfl) rfl ?_
    refine wl_val (g_move (v := .slice a0 n0 c0) rfl) rfl ?_
    refine wl_val (q_len SL24 rfl (Vw.len (oS.vw hS77.g0))) rfl ?_
    refine wl_val (g_lss (a := v70) (b := (x68.length : Int)) rfl rfl) rfl ?_
    refine wl_nil ?_
    refine hK80 _ _ ?_
    refine w_condI (p := v70 < (x68.length : Int)) (b := (decide (v70 < (x68.length : Int)))) rfl decide_eq_true_iff (fun h81 => ?_) (fun h81 => ?_)
    · replace hm := hm.1 h81
      refine w_skip ?_
      refine hK79 _ _ ?_
      refine w_seq fun K82 hK82 => ?_
      refine w_block ?_
      refine w_seq fun K83 hK83 => ?_
      refine w_region ?_
      refine wl_val (g_move (v := .slice a0 n0 c0) rfl) rfl ?_
      refine wl_val (g_move (v := .int .i64 v70) rfl) rfl ?_
      refine wl_val (g_move (v := .int .i64 v69) rfl) rfl ?_
      obtain ⟨hg84, hm⟩ := hm
      refine wl_val (q_index (i := v70) SL24 rfl rfl (oS.vw hS77.g0) hg84) rfl ?_
      refine wl_val (g_fieldAddr (q := (adr a0).add ((Int.toNat v70) * El.m Cross)) FL56_0 ON3 rfl) rfl ?_
      refine wl_step rfl (q_storeF (i := v70) (j := 0) (v := ((v69, x68[(Int.toNat v70)]!.2) : Cross)) hS77 ON3 hg84 rfl rfl rfl rfl (by decide) rfl) ?_
      rintro _ w85 ⟨rfl, hS86, hb87⟩
      have hB88 := hB76.trans hb87
      refine wl_nil ?_
      refine hK83 _ _ ?_
      refine w_seq fun K89 hK89 => ?_
      refine w_region ?_
      refine wl_val (g_move (v := .int .i64 v69) rfl) rfl ?_
      obtain ⟨hg90, hm⟩ := hm
      refine wl_val (g_add (a := v69) (b := 1) rfl rfl hg90) rfl ?_
      refine wl_val (g_assign (v := .int .i64 (v69 + 1)) rfl) rfl ?_
      refine wl_nil ?_
      refine hK89 _ _ ?_
      refine w_seq fun K91 hK91 => ?_
      refine w_region ?_
      refine wl_val (g_move (v := .slice a0 n0 c0) rfl) rfl ?_
      refine wl_val (g_move (v := .int .i64 v70) rfl) rfl ?_
      refine wl_val (g_move (v := .int .i64 (v69 + 1)) rfl) rfl ?_
      refine wl_val (g_rem (a := (v69 + 1)) (b := 3) rfl rfl (by decide)) rfl ?_
      refine wl_val (g_eql (a := (Int.tmod (v69 + 1) 3)) (b := 0) rfl rfl) rfl ?_
      obtain ⟨hg92, hm⟩ := hm
      refine wl_val (q_index (i := v70) SL24 rfl rfl (oS.vw hS86.g0) hg92) rfl ?_
      refine wl_val (g_fieldAddr (q := (adr a0).add ((Int.toNat v70) * El.m Cross)) FL56_1 ON4 rfl) rfl ?_
      refine wl_step rfl (q_storeF (i := v70) (j := 1) (v := (((x68.set (Int.toNat v70) (v69, x68[(Int.toNat v70)]!.2))[(Int.toNat v70)]!.1, (decide ((Int.tmod (v69 + 1) 3) = 0))) : Cross)) hS86 ON4 hg92 rfl rfl rfl rfl (by decide) rfl) ?_
      rintro _ w93 ⟨rfl, hS94, hb95⟩
      have hB96 := hB88.trans hb95
      refine wl_nil ?_
      refine hK91 _ _ ?_
      refine w_region ?_
      refine wl_val (g_move (v := .int .i64 (v69 + 1)) rfl) rfl ?_
      obtain ⟨hg97, hm⟩ := hm
      refine wl_val (g_add (a := (v69 + 1)) (b := 1) rfl rfl hg97) rfl ?_
      refine wl_val (g_assign (v := .int .i64 ((v69 + 1) + 1)) rfl) rfl ?_
      refine wl_nil ?_
      refine hK82 _ _ ?_
      refine w_region ?_
      refine wl_val (g_move (v := .int .i64 v70) rfl) rfl ?_
      obtain ⟨hg98, hm⟩ := hm
      refine wl_val (g_add (a := v70) (b := 1) rfl rfl hg98) rfl ?_
      refine wl_val (g_assign (v := .int .i64 (v70 + 1)) rfl) rfl ?_
      refine wl_nil ?_
      exact ⟨(((x68.set (Int.toNat v70) (v69, x68[(Int.toNat v70)]!.2)).set (Int.toNat v70) ((x68.set (Int.toNat v70) (v69, x68[(Int.toNat v70)]!.2))[(Int.toNat v70)]!.1, (decide ((Int.tmod (v69 + 1) 3) = 0)))), ((v69 + 1) + 1), (v70 + 1)), hm.2, ⟨rfl, rfl, rfl, trivial⟩, ⟨hm.1, hB96, hS94⟩⟩
    · replace hm := hm.2 h81
      refine w_exit ?_
      exact ⟨(x68, v69), ⟨rfl, trivial⟩, ⟨hm, hB76, hS77⟩⟩
  · rintro ⟨x64, v65⟩ b_ w99 ⟨hm, hB100, hS101⟩
    show Wp _ _ _ _ (upds b_ [(1, .int .i64 v65)]) w99
    refine w_seq fun K102 hK102 => ?_
    refine w_region ?_
    refine wl_val (g_move (v := .int .i64 v65) rfl) rfl ?_
    refine wl_val (g_assign (v := .int .i64 v65) rfl) rfl ?_
    refine wl_nil ?_
    refine hK102 _ _ ?_
    refine w_ret ?_
    repeat first | with_reducible refine q_then ?_ | with_reducible refine q_block ?_
    exact ret1 rfl (by decide) ⟨_, _, hm, rfl, hB100, hS101⟩

theorem m_spec_OrderAfter_fn {w : World} {a1 : Option Addr} {n1 c1 : Nat} {p1 : List Cross} {Q : (List Int) → Prop} (p0 : Int) (hp1 : Vw w.heap.size w a1 n1 c1 p1) (hm : m_spec_OrderAfter p0 p1 Q) :
    Fn Try.prog 26 #[.int .i64 p0, .slice a1 n1 c1] w (fun v w' => ∃ (r0 : List Int) (a0 : Option Addr) (n0 c0 : Nat), Q r0 ∧ v = .slice a0 n0 c0 ∧ Ext w w' ∧ Sep w' w.heap.size [oS 3 a0 n0 c0 r0]) := by
  unfold m_spec_OrderAfter at hm
  have hB0 := Below.refl w.heap.size w
  have hS0 : Sep w w.heap.size [] := Sep.nil (Nat.le_refl _)
  refine fn_of_wp Try.func26 rfl (by kernel_rfl) (Nat.le_of_ble_eq_true rfl) ?_
  refine w_seq fun K1 hK1 => ?_
  refine w_region ?_
  refine wl_val (g_assign (v := .slice none 0 0) rfl) rfl ?_
  refine wl_nil ?_
  refine hK1 _ _ ?_
  refine w_seq fun K2 hK2 => ?_
  refine w_seq fun K3 hK3 => ?_
  refine w_region ?_
  refine wl_val (g_move (v := .int .i64 p0) rfl) rfl ?_
  refine wl_val (g_move (v := .slice a1 n1 c1) rfl) rfl ?_
  refine wl_step rfl (g_call (vs := #[.int .i64 p0, .slice a1 n1 c1]) CF59 (args2 rfl rfl) (m_spec_CrossesOk_fn p0 ((hp1.bel hB0).up hS0) hm)) ?_
  rintro _ w4 ⟨r7, hm, rfl, hE5⟩
  have hB8 := hB0.trans (Ext.stp hE5 hS0.base)
  have hS9 := hS0.ext hE5
  refine wl_val (g_not (a := r7) rfl) rfl ?_
  refine wl_nil ?_
  refine hK3 _ _ ?_
  refine w_condI (p := ¬ (r7 = true)) (b := (!r7)) rfl (i_not Iff.rfl) (fun h10 => ?_) (fun h10 => ?_)
  · replace hm := hm.1 h10
    refine w_seq fun K11 hK11 => ?_
    refine w_region ?_
    refine wl_step rfl (q_lit0 (α := Int) rfl SL39 hS9) ?_
    rintro _ w12 ⟨a13, rfl, hS15, hE14⟩
    have hB17 := hB8.trans (Ext.stp hE14 hS9.base)
    refine wl_val (g_assign (v := .slice a13 0 0) rfl) rfl ?_
    refine wl_nil ?_
    refine hK11 _ _ ?_
    refine w_ret ?_
    repeat first | with_reducible refine q_then ?_ | with_reducible refine q_block ?_
    exact ret1 rfl (by decide) ⟨_, _, _, _, hm, rfl, toExt hB17, hS15⟩
  · replace hm := hm.2 h10
    refine w_skip ?_
    refine hK2 _ _ ?_
    refine w_seq fun K18 hK18 => ?_
    refine w_region ?_
    refine wl_val (g_move (v := .int .i64 p0) rfl) rfl ?_
    refine wl_step rfl (g_call (vs := #[.int .i64 p0]) CF60 (args1 rfl) (m_spec_l08Start_fn p0 hm)) ?_
    rintro _ w19 ⟨r22, a23, n24, c25, hm, rfl, hE20, hN21⟩
    have hS27 := hS9.call1 hE20 hN21
    have hB28 := hB8.trans (Ext.stp hE20 hS9.base)
    refine wl_val (g_assign (v := .slice a23 n24 c25) rfl) rfl ?_
    refine wl_nil ?_
    refine hK18 _ _ ?_
    refine w_cut (σ := List Int × Option Addr × Nat × Nat) (fun ⟨x88, a89, n90, c91⟩ => [(5, .slice a89 n90 c91)]) (fun ⟨x88, a89, n90, c91⟩ w' => m_spec_OrderAfter_K0 Q x88 ∧ Below w.heap.size w w' ∧ Sep w' w.heap.size [oS 3 a89 n90 c91 (x88 : List Int)]) ?_ ?_
    · refine w_seq fun K93 hK93 => ?_
      refine w_region ?_
      refine wl_val (g_assign (v := .int .i64 0) rfl) rfl ?_
      refine wl_nil ?_
      refine hK93 _ _ ?_
      refine w_block ?_
      obtain ⟨I99, μ100, h0101, hr102⟩ := hm
      refine w_for (σ := List Int × Option Addr × Nat × Nat × Int) (fun ⟨x94, a95, n96, c97, v98⟩ => [(1, .slice a1 n1 c1), (5, .slice a95 n96 c97), (6, .int .i64 v98)]) (fun ⟨x94, a95, n96, c97, v98⟩ w' => I99 x94 v98 ∧ Below w.heap.size w w' ∧ Sep w' w.heap.size [oS 3 a95 n96 c97 (x94 : List Int)]) (fun ⟨x94, a95, n96, c97, v98⟩ => μ100 x94 v98) (r22, a23, n24, c25, 0) ⟨rfl, rfl, rfl, trivial⟩ ⟨h0101, hB28, hS27⟩ ?_
      rintro ⟨x94, a95, n96, c97, v98⟩ b_ w103 ⟨hi_, hB104, hS105⟩
      show Wp _ _ _ _ (upds b_ [(1, .slice a1 n1 c1), (5, .slice a95 n96 c97), (6, .int .i64 v98)]) w103
      have hm := hr102 x94 v98 hi_
      refine w_seq fun K107 hK107 => ?_
      refine w_seq fun K108 hK108 => ?_
      refine w_region ?_
      refine wl_val (g_move (v := .int .i64 v98) rfl) rfl ?_
      refine wl_val (g_move (v := .slice a1 n1 c1) rfl) rfl ?_
      refine wl_val (q_len SL24 rfl (Vw.len (hp1.bel hB104))) rfl ?_
      refine wl_val (g_lss (a := v98) (b := (p1.length : Int)) rfl rfl) rfl ?_
      refine wl_nil ?_
      refine hK108 _ _ ?_
      refine w_condI (p := v98 < (p1.length : Int)) (b := (decide (v98 < (p1.length : Int)))) rfl decide_eq_true_iff (fun h109 => ?_) (fun h109 => ?_)
      · replace hm := hm.1 h109
        refine w_skip ?_
        refine hK107 _ _ ?_
        refine w_seq fun K110 hK110 => ?_
        refine w_block ?_
        refine w_region ?_
        refine wl_val (g_move (v := .slice a95 n96 c97) rfl) rfl ?_
        refine wl_val (g_move (v := .slice a1 n1 c1) rfl) rfl ?_
        refine wl_val (g_move (v := .int .i64 v98) rfl) rfl ?_
        obtain ⟨hg111, hm⟩ := hm
        refine wl_val (q_index (i := v98) SL24 rfl rfl (hp1.bel hB104) hg111) rfl ?_
        refine wl_val (g_fieldAddr (q := (adr a1).add ((Int.toNat v98) * El.m Cross)) FL56_0 ON3 rfl) rfl ?_
        refine wl_val (q_loadF (i := v98) (j := 0) (v := .int .i64 (p1[(Int.toNat v98)]!.1)) ON3 (hp1.bel hB104) hg111 rfl rfl) rfl ?_
        refine wl_step rfl (g_call (vs := #[.slice a95 n96 c97, .int .i64 (p1[(Int.toNat v98)]!.1)]) CF61 (args2 rfl rfl) (m_spec_SwapAt_fn (oS.vw hS105.g0) (p1[(Int.toNat v98)]!.1) hm)) ?_
        rintro _ w112 ⟨r115, a116, n117, c118, r120, hm, rfl, hE113, hN114⟩
        have hS121 := hS105.call1 hE113 hN114
        have hB122 := hB104.trans (Ext.stp hE113 hS105.base)
        refine wl_val (g_move (v := .tuple #[.slice a116 n117 c118, .bool r120]) rfl) rfl ?_
        refine wl_val (g_extract (vs := #[.slice a116 n117 c118, .bool r120]) rfl rfl) rfl ?_
        refine wl_val (g_extract (vs := #[.slice a116 n117 c118, .bool r120]) rfl rfl) rfl ?_
        refine wl_val (g_assign (v := .slice a116 n117 c118) rfl) rfl ?_
        refine wl_nil ?_
        refine hK110 _ _ ?_
        refine w_region ?_
        refine wl_val (g_move (v := .int .i64 v98) rfl) rfl ?_
        obtain ⟨hg123, hm⟩ := hm
        refine wl_val (g_add (a := v98) (b := 1) rfl rfl hg123) rfl ?_
        refine wl_val (g_assign (v := .int .i64 (v98 + 1)) rfl) rfl ?_
        refine wl_nil ?_
        have hS124 := hS121.f1
        have hS125 := hS124.tail
        exact ⟨(r115, a116, n117, c118, (v98 + 1)), hm.2, ⟨rfl, rfl, rfl, trivial⟩, ⟨hm.1, hB122, hS125⟩⟩
      · replace hm := hm.2 h109
        refine w_exit ?_
        exact ⟨(x94, a95, n96, c97), ⟨rfl, trivial⟩, ⟨hm, hB104, hS105⟩⟩
    · rintro ⟨x88, a89, n90, c91⟩ b_ w126 ⟨hm, hB127, hS128⟩
      show Wp _ _ _ _ (upds b_ [(5, .slice a89 n90 c91)]) w126
      refine w_seq fun K129 hK129 => ?_
      refine w_region ?_
      refine wl_val (g_move (v := .slice a89 n90 c91) rfl) rfl ?_
      refine wl_val (g_assign (v := .slice a89 n90 c91) rfl) rfl ?_
      refine wl_nil ?_
      refine hK129 _ _ ?_
      refine w_ret ?_
      repeat first | with_reducible refine q_then ?_ | with_reducible refine q_block ?_
      exact ret1 rfl (by decide) ⟨_, _, _, _, hm, rfl, toExt hB127, hS128⟩

theorem m_spec_CountInversions_fn {w : World} {a0 : Option Addr} {n0 c0 : Nat} {p0 : List Int} {Q : Int → Prop} (hp0 : Vw w.heap.size w a0 n0 c0 p0) (hm : m_spec_CountInversions p0 Q) :
    Fn Try.prog 36 #[.slice a0 n0 c0] w (fun v w' => ∃ (r0 : Int), Q r0 ∧ v = .int .i64 r0 ∧ Ext w w') := by
  unfold m_spec_CountInversions at hm
  have hB0 := Below.refl w.heap.size w
  have hS0 : Sep w w.heap.size [] := Sep.nil (Nat.le_refl _)
  refine fn_of_wp Try.func36 rfl (by kernel_rfl) (Nat.le_of_ble_eq_true rfl) ?_
  refine w_seq fun K1 hK1 => ?_
  refine w_region ?_
  refine wl_val (g_assign (v := .int .i64 0) rfl) rfl ?_
  refine wl_nil ?_
  refine hK1 _ _ ?_
  refine w_seq fun K2 hK2 => ?_
  refine w_seq fun K3 hK3 => ?_
  refine w_region ?_
  refine wl_val (g_move (v := .slice a0 n0 c0) rfl) rfl ?_
  refine wl_step rfl (g_call (vs := #[.slice a0 n0 c0]) CF62 (args1 rfl) (m_spec_OrderOk_fn ((hp0.bel hB0).up hS0) hm)) ?_
  rintro _ w4 ⟨r7, hm, rfl, hE5⟩
  have hB8 := hB0.trans (Ext.stp hE5 hS0.base)
  have hS9 := hS0.ext hE5
  refine wl_val (g_not (a := r7) rfl) rfl ?_
  refine wl_nil ?_
  refine hK3 _ _ ?_
  refine w_condI (p := ¬ (r7 = true)) (b := (!r7)) rfl (i_not Iff.rfl) (fun h10 => ?_) (fun h10 => ?_)
  · replace hm := hm.1 h10
    refine w_seq fun K11 hK11 => ?_
    refine w_region ?_
    refine wl_val (g_assign (v := .int .i64 (-1)) rfl) rfl ?_
    refine wl_nil ?_
    refine hK11 _ _ ?_
    refine w_ret ?_
    repeat first | with_reducible refine q_then ?_ | with_reducible refine q_block ?_
    exact ret1 rfl (by decide) ⟨_, hm, rfl, toExt hB8⟩
  · replace hm := hm.2 h10
    refine w_skip ?_
    refine hK2 _ _ ?_
    refine w_seq fun K12 hK12 => ?_
    refine w_region ?_
    refine wl_val (g_assign (v := .int .i64 0) rfl) rfl ?_
    refine wl_nil ?_
    refine hK12 _ _ ?_
    refine w_cut (σ := Int) (fun v312 => [(3, .int .i64 v312)]) (fun v312 w' => m_spec_CountInversions_K1 Q v312 ∧ Below w.heap.size w w' ∧ Sep w' w.heap.size []) ?_ ?_
    · refine w_seq fun K314 hK314 => ?_
      refine w_region ?_
      refine wl_val (g_assign (v := .int .i64 0) rfl) rfl ?_
      refine wl_nil ?_
      refine hK314 _ _ ?_
      refine w_block ?_
      obtain ⟨I317, μ318, h0319, hr320⟩ := hm
      refine w_for (σ := Int × Int) (fun ⟨v315, v316⟩ => [(0, .slice a0 n0 c0), (3, .int .i64 v315), (4, .int .i64 v316)]) (fun ⟨v315, v316⟩ w' => I317 v315 v316 ∧ Below w.heap.size w w' ∧ Sep w' w.heap.size []) (fun ⟨v315, v316⟩ => μ318 v315 v316) (0, 0) ⟨rfl, rfl, rfl, trivial⟩ ⟨h0319, hB8, hS9⟩ ?_
      rintro ⟨v315, v316⟩ b_ w321 ⟨hi_, hB322, hS323⟩
      show Wp _ _ _ _ (upds b_ [(0, .slice a0 n0 c0), (3, .int .i64 v315), (4, .int .i64 v316)]) w321
      have hm := hr320 v315 v316 hi_
      refine w_seq fun K325 hK325 => ?_
      refine w_seq fun K326 hK326 => ?_
      refine w_region ?_
      refine wl_val (g_move (v := .int .i64 v316) rfl) rfl ?_
      refine wl_val (g_move (v := .slice a0 n0 c0) rfl) rfl ?_
      refine wl_val (q_len SL39 rfl (Vw.len (hp0.bel hB322))) rfl ?_
      refine wl_val (g_lss (a := v316) (b := (p0.length : Int)) rfl rfl) rfl ?_
      refine wl_nil ?_
      refine hK326 _ _ ?_
      refine w_condI (p := v316 < (p0.length : Int)) (b := (decide (v316 < (p0.length : Int)))) rfl decide_eq_true_iff (fun h327 => ?_) (fun h327 => ?_)
      · replace hm := hm.1 h327
        refine w_skip ?_
        refine hK325 _ _ ?_
        refine w_cut (σ := Int) (fun v328 => [(0, .slice a0 n0 c0), (3, .int .i64 v328), (4, .int .i64 v316)]) (fun v328 w' => m_spec_CountInversions_K0 v316 (fun v315' v316' => I317 v315' v316' ∧ μ318 v315' v316' < μ318 v315 v316) v328 ∧ Below w.heap.size w w' ∧ Sep w' w.heap.size []) ?_ ?_
        · refine w_block ?_
          refine w_seq fun K330 hK330 => ?_
          refine w_region ?_
          refine wl_val (g_assign (v := .int .i64 0) rfl) rfl ?_
          refine wl_nil ?_
          refine hK330 _ _ ?_
          refine w_block ?_
          obtain ⟨I333, μ334, h0335, hr336⟩ := hm
          refine w_for (σ := Int × Int) (fun ⟨v331, v332⟩ => [(0, .slice a0 n0 c0), (3, .int .i64 v331), (4, .int .i64 v316), (5, .int .i64 v332)]) (fun ⟨v331, v332⟩ w' => I333 v331 v332 ∧ Below w.heap.size w w' ∧ Sep w' w.heap.size []) (fun ⟨v331, v332⟩ => μ334 v331 v332) (v315, 0) ⟨rfl, rfl, rfl, rfl, trivial⟩ ⟨h0335, hB322, hS323⟩ ?_
          rintro ⟨v331, v332⟩ b_ w337 ⟨hi_, hB338, hS339⟩
          show Wp _ _ _ _ (upds b_ [(0, .slice a0 n0 c0), (3, .int .i64 v331), (4, .int .i64 v316), (5, .int .i64 v332)]) w337
          have hm := hr336 v331 v332 hi_
          refine w_seq fun K341 hK341 => ?_
          refine w_seq fun K342 hK342 => ?_
          refine w_region ?_
          refine wl_val (g_move (v := .int .i64 v332) rfl) rfl ?_
          refine wl_val (g_move (v := .int .i64 v316) rfl) rfl ?_
          refine wl_val (g_lss (a := v332) (b := v316) rfl rfl) rfl ?_
          refine wl_nil ?_
          refine hK342 _ _ ?_
          refine w_condI (p := v332 < v316) (b := (decide (v332 < v316))) rfl decide_eq_true_iff (fun h343 => ?_) (fun h343 => ?_)
          · replace hm := hm.1 h343
            refine w_skip ?_
            refine hK341 _ _ ?_
            refine w_seq fun K344 hK344 => ?_
            refine w_block ?_
            refine w_seq fun K345 hK345 => ?_
            refine w_draw (X := Ext) (Y := Ext) [] MIX (by decide +kernel) rfl Ext.refl (fun _ _ _ => Ext.trans) (fun _ _ _ => Chg.trans) (fun _ _ h => Ext.chg h _) (fun w346 hE347 => ?_)
            have hB348 := hB338.trans (Ext.stp hE347 hS339.base)
            have hS349 := hS339.ext hE347
            refine ⟨.slice a0 n0 c0, fun w350 hX351 => od_plain rfl (by have hS352 := hS349.ext hX351; have hB353 := hB348.trans (Ext.stp hX351 hS349.base); exact is_ext (g_move (v := .slice a0 n0 c0) rfl)), ?_⟩
            refine ⟨.int .i64 v332, fun w354 hX355 => od_plain rfl (by have hS356 := hS349.ext hX355; have hB357 := hB348.trans (Ext.stp hX355 hS349.base); exact is_ext (g_move (v := .int .i64 v332) rfl)), ?_⟩
            obtain ⟨hg362, hm⟩ := hm
            refine ⟨.pointer (some ((adr a0).add ((Int.toNat v332) * El.m Int))), fun w358 hX359 => od_plain rfl (by have hS360 := hS349.ext hX359; have hB361 := hB348.trans (Ext.stp hX359 hS349.base); exact is_ext (q_index (i := v332) SL39 rfl rfl (hp0.bel hB361) hg362)), ?_⟩
            refine ⟨.int .i64 (p0[(Int.toNat v332)]!), fun w363 hX364 => od_plain rfl (by have hS365 := hS349.ext hX364; have hB366 := hB348.trans (Ext.stp hX364 hS349.base); exact is_ext (q_load (i := v332) (v := .int .i64 (p0[(Int.toNat v332)]!)) ON3 (hp0.bel hB366) hg362 rfl rfl)), ?_⟩
            refine ⟨.slice a0 n0 c0, fun w367 hX368 => od_plain rfl (by have hS369 := hS349.ext hX368; have hB370 := hB348.trans (Ext.stp hX368 hS349.base); exact is_ext (g_move (v := .slice a0 n0 c0) rfl)), ?_⟩
            refine ⟨.int .i64 v316, fun w371 hX372 => od_plain rfl (by have hS373 := hS349.ext hX372; have hB374 := hB348.trans (Ext.stp hX372 hS349.base); exact is_ext (g_move (v := .int .i64 v316) rfl)), ?_⟩
            obtain ⟨hg379, hm⟩ := hm
            refine ⟨.pointer (some ((adr a0).add ((Int.toNat v316) * El.m Int))), fun w375 hX376 => od_plain rfl (by have hS377 := hS349.ext hX376; have hB378 := hB348.trans (Ext.stp hX376 hS349.base); exact is_ext (q_index (i := v316) SL39 rfl rfl (hp0.bel hB378) hg379)), ?_⟩
            refine ⟨.int .i64 (p0[(Int.toNat v316)]!), fun w380 hX381 => od_plain rfl (by have hS382 := hS349.ext hX381; have hB383 := hB348.trans (Ext.stp hX381 hS349.base); exact is_ext (q_load (i := v316) (v := .int .i64 (p0[(Int.toNat v316)]!)) ON3 (hp0.bel hB383) hg379 rfl rfl)), ?_⟩
            refine ⟨.bool (decide (p0[(Int.toNat v332)]! > p0[(Int.toNat v316)]!)), fun w384 hX385 => od_plain rfl (by have hS386 := hS349.ext hX385; have hB387 := hB348.trans (Ext.stp hX385 hS349.base); exact is_ext (g_gtr (a := p0[(Int.toNat v332)]!) (b := p0[(Int.toNat v316)]!) rfl rfl)), ?_⟩
            intro w388 hX389
            have hB390 := hB348.trans (Ext.stp hX389 hS349.base)
            have hS391 := hS349.ext hX389
            refine hK345 _ _ ?_
            refine w_condI (p := p0[(Int.toNat v332)]! > p0[(Int.toNat v316)]!) (b := (decide (p0[(Int.toNat v332)]! > p0[(Int.toNat v316)]!))) rfl decide_eq_true_iff (fun h392 => ?_) (fun h392 => ?_)
            · replace hm := hm.1 h392
              refine w_region ?_
              refine wl_val (g_move (v := .int .i64 v331) rfl) rfl ?_
              obtain ⟨hg393, hm⟩ := hm
              refine wl_val (g_add (a := v331) (b := 1) rfl rfl hg393) rfl ?_
              refine wl_val (g_assign (v := .int .i64 (v331 + 1)) rfl) rfl ?_
              refine wl_nil ?_
              refine hK344 _ _ ?_
              refine w_region ?_
              refine wl_val (g_move (v := .int .i64 v332) rfl) rfl ?_
              obtain ⟨hg394, hm⟩ := hm
              refine wl_val (g_add (a := v332) (b := 1) rfl rfl hg394) rfl ?_
              refine wl_val (g_assign (v := .int .i64 (v332 + 1)) rfl) rfl ?_
              refine wl_nil ?_
              exact ⟨((v331 + 1), (v332 + 1)), hm.2, ⟨rfl, rfl, rfl, rfl, trivial⟩, ⟨hm.1, hB390, hS391⟩⟩
            · replace hm := hm.2 h392
              refine w_skip ?_
              refine hK344 _ _ ?_
              refine w_region ?_
              refine wl_val (g_move (v := .int .i64 v332) rfl) rfl ?_
              obtain ⟨hg395, hm⟩ := hm
              refine wl_val (g_add (a := v332) (b := 1) rfl rfl hg395) rfl ?_
              refine wl_val (g_assign (v := .int .i64 (v332 + 1)) rfl) rfl ?_
              refine wl_nil ?_
              exact ⟨(v331, (v332 + 1)), hm.2, ⟨rfl, rfl, rfl, rfl, trivial⟩, ⟨hm.1, hB390, hS391⟩⟩
          · replace hm := hm.2 h343
            refine w_exit ?_
            exact ⟨(v331), ⟨rfl, rfl, rfl, trivial⟩, ⟨hm, hB338, hS339⟩⟩
        · rintro v328 b_ w396 ⟨hm, hB397, hS398⟩
          show Wp _ _ _ _ (upds b_ [(0, .slice a0 n0 c0), (3, .int .i64 v328), (4, .int .i64 v316)]) w396
          refine w_region ?_
          refine wl_val (g_move (v := .int .i64 v316) rfl) rfl ?_
          obtain ⟨hg399, hm⟩ := hm
          refine wl_val (g_add (a := v316) (b := 1) rfl rfl hg399) rfl ?_
          refine wl_val (g_assign (v := .int .i64 (v316 + 1)) rfl) rfl ?_
          refine wl_nil ?_
          exact ⟨(v328, (v316 + 1)), hm.2, ⟨rfl, rfl, rfl, trivial⟩, ⟨hm.1, hB397, hS398⟩⟩
      · replace hm := hm.2 h327
        refine w_exit ?_
        exact ⟨(v315), ⟨rfl, trivial⟩, ⟨hm, hB322, hS323⟩⟩
    · rintro v312 b_ w400 ⟨hm, hB401, hS402⟩
      show Wp _ _ _ _ (upds b_ [(3, .int .i64 v312)]) w400
      refine w_seq fun K403 hK403 => ?_
      refine w_region ?_
      refine wl_val (g_move (v := .int .i64 v312) rfl) rfl ?_
      refine wl_val (g_assign (v := .int .i64 v312) rfl) rfl ?_
      refine wl_nil ?_
      refine hK403 _ _ ?_
      refine w_ret ?_
      repeat first | with_reducible refine q_then ?_ | with_reducible refine q_block ?_
      exact ret1 rfl (by decide) ⟨_, hm, rfl, toExt hB401⟩

theorem m_spec_WoundPairs_fn {w : World} {a1 : Option Addr} {n1 c1 : Nat} {p1 : List Cross} {Q : (List (List Int)) → Prop} (p0 : Int) (hp1 : Vw w.heap.size w a1 n1 c1 p1) (hm : m_spec_WoundPairs p0 p1 Q) :
    Fn Try.prog 44 #[.int .i64 p0, .slice a1 n1 c1] w (fun v w' => ∃ (r0 : List (List Int)) (a0 : Option Addr) (n0 c0 : Nat) (y0 : List (Hd Int)), Q r0 ∧ ers y0 = r0 ∧ v = .slice a0 n0 c0 ∧ Ext w w' ∧ Sep w' w.heap.size [oS 39 a0 n0 c0 y0, oT 3 y0]) := by
  unfold m_spec_WoundPairs at hm
  have hB0 := Below.refl w.heap.size w
  have hS0 : Sep w w.heap.size [] := Sep.nil (Nat.le_refl _)
  refine fn_of_wp Try.func44 rfl (by kernel_rfl) (Nat.le_of_ble_eq_true rfl) ?_
  refine w_seq fun K1 hK1 => ?_
  refine w_region ?_
  refine wl_val (g_assign (v := .slice none 0 0) rfl) rfl ?_
  refine wl_nil ?_
  refine hK1 _ _ ?_
  refine w_seq fun K2 hK2 => ?_
  refine w_region ?_
  refine wl_step rfl (q_lit0 (α := (Hd Int)) rfl SL37 hS0) ?_
  rintro _ w3 ⟨a4, rfl, hS6, hE5⟩
  have hB8 := hB0.trans (Ext.stp hE5 hS0.base)
  have hS9 := hS6.noRows (δ := Hd Int) (E := 3)
  have he11 : ers ([] : List (Hd Int)) = ([] : List (List Int)) := rfl
  refine wl_val (g_assign (v := .slice a4 0 0) rfl) rfl ?_
  refine wl_nil ?_
  refine hK2 _ _ ?_
  refine w_seq fun K13 hK13 => ?_
  refine w_region ?_
  refine wl_val (g_move (v := .int .i64 p0) rfl) rfl ?_
  refine wl_val (g_move (v := .slice a1 n1 c1) rfl) rfl ?_
  refine wl_step rfl (g_call (vs := #[.int .i64 p0, .slice a1 n1 c1]) CF39 (args2 rfl rfl) (m_spec_TwistTable_fn p0 ((hp1.bel hB8).up hS9) hm)) ?_
  rintro _ w14 ⟨r17, a18, n19, c20, y21, hm, he22, rfl, hE15, hN16⟩
  have hS26 := hS9.call2 hE15 hN16
  have hB27 := hB8.trans (Ext.stp hE15 hS9.base)
  refine wl_val (g_assign (v := .slice a18 n19 c20) rfl) rfl ?_
  refine wl_nil ?_
  refine hK13 _ _ ?_
  refine w_cut (σ := List (List Int) × Option Addr × Nat × Nat × List (Hd Int)) (fun ⟨x328, a329, n330, c331, y332⟩ => [(5, .slice a329 n330 c331)]) (fun ⟨x328, a329, n330, c331, y332⟩ w' => m_spec_WoundPairs_K1 Q x328 ∧ ers y332 = x328 ∧ Below w.heap.size w w' ∧ Sep w' w.heap.size [oS 39 a329 n330 c331 (y332 : List (Hd Int)), oT 3 (y332 : List (Hd Int))]) ?_ ?_
  · refine w_seq fun K335 hK335 => ?_
    refine w_region ?_
    refine wl_val (g_assign (v := .int .i64 0) rfl) rfl ?_
    refine wl_nil ?_
    refine hK335 _ _ ?_
    refine w_block ?_
    have hS343 := hS26.f1
    have hS344 := hS343.f1
    have hS345 := hS344.f2
    have hS346 := hS345.f3
    obtain ⟨I347, μ348, h0349, hr350⟩ := hm
    refine w_for (σ := List (List Int) × Option Addr × Nat × Nat × List (Hd Int) × Int) (fun ⟨x336, a337, n338, c339, y340, v342⟩ => [(5, .slice a337 n338 c339), (6, .slice a18 n19 c20), (7, .int .i64 v342)]) (fun ⟨x336, a337, n338, c339, y340, v342⟩ w' => I347 x336 v342 ∧ ers y340 = x336 ∧ Below w.heap.size w w' ∧ Sep w' w.heap.size [oS 39 a337 n338 c339 (y340 : List (Hd Int)), oT 3 (y340 : List (Hd Int)), oS 39 a18 n19 c20 (y21 : List (Hd Int)), oT 3 (y21 : List (Hd Int))]) (fun ⟨x336, a337, n338, c339, y340, v342⟩ => μ348 x336 v342) ([], a4, 0, 0, [], 0) ⟨rfl, rfl, rfl, trivial⟩ ⟨h0349, he11, hB27, hS346⟩ ?_
    rintro ⟨x336, a337, n338, c339, y340, v342⟩ b_ w351 ⟨hi_, he341, hB352, hS353⟩
    show Wp _ _ _ _ (upds b_ [(5, .slice a337 n338 c339), (6, .slice a18 n19 c20), (7, .int .i64 v342)]) w351
    have hm := hr350 x336 v342 hi_
    refine w_seq fun K355 hK355 => ?_
    refine w_seq fun K356 hK356 => ?_
    refine w_region ?_
    refine wl_val (g_move (v := .int .i64 v342) rfl) rfl ?_
    refine wl_val (g_move (v := .slice a18 n19 c20) rfl) rfl ?_
    refine wl_val (q_len SL37 rfl (Tv.len (oT.vw hS353.g2 hS353.g3 he22))) rfl ?_
    refine wl_val (g_lss (a := v342) (b := (r17.length : Int)) rfl rfl) rfl ?_
    refine wl_nil ?_
    refine hK356 _ _ ?_
    refine w_condI (p := v342 < (r17.length : Int)) (b := (decide (v342 < (r17.length : Int)))) rfl decide_eq_true_iff (fun h357 => ?_) (fun h357 => ?_)
    · replace hm := hm.1 h357
      refine w_skip ?_
      refine hK355 _ _ ?_
      refine w_cut (σ := List (List Int) × Option Addr × Nat × Nat × List (Hd Int)) (fun ⟨x358, a359, n360, c361, y362⟩ => [(5, .slice a359 n360 c361), (6, .slice a18 n19 c20), (7, .int .i64 v342)]) (fun ⟨x358, a359, n360, c361, y362⟩ w' => m_spec_WoundPairs_K0 v342 (fun x336' v342' => I347 x336' v342' ∧ μ348 x336' v342' < μ348 x336 v342) x358 ∧ ers y362 = x358 ∧ Below w.heap.size w w' ∧ Sep w' w.heap.size [oS 39 a359 n360 c361 (y362 : List (Hd Int)), oT 3 (y362 : List (Hd Int)), oS 39 a18 n19 c20 (y21 : List (Hd Int)), oT 3 (y21 : List (Hd Int))]) ?_ ?_
      · refine w_block ?_
        refine w_seq fun K365 hK365 => ?_
        refine w_region ?_
        refine wl_val (g_move (v := .int .i64 v342) rfl) rfl ?_
        obtain ⟨hg366, hm⟩ := hm
        refine wl_val (g_add (a := v342) (b := 1) rfl rfl hg366) rfl ?_
        refine wl_val (g_assign (v := .int .i64 (v342 + 1)) rfl) rfl ?_
        refine wl_nil ?_
        refine hK365 _ _ ?_
        refine w_block ?_
        obtain ⟨I374, μ375, h0376, hr377⟩ := hm
        refine w_for (σ := List (List Int) × Option Addr × Nat × Nat × List (Hd Int) × Int) (fun ⟨x367, a368, n369, c370, y371, v373⟩ => [(5, .slice a368 n369 c370), (6, .slice a18 n19 c20), (7, .int .i64 v342), (8, .int .i64 v373)]) (fun ⟨x367, a368, n369, c370, y371, v373⟩ w' => I374 x367 v373 ∧ ers y371 = x367 ∧ Below w.heap.size w w' ∧ Sep w' w.heap.size [oS 39 a368 n369 c370 (y371 : List (Hd Int)), oT 3 (y371 : List (Hd Int)), oS 39 a18 n19 c20 (y21 : List (Hd Int)), oT 3 (y21 : List (Hd Int))]) (fun ⟨x367, a368, n369, c370, y371, v373⟩ => μ375 x367 v373) (x336, a337, n338, c339, y340, (v342 + 1)) ⟨rfl, rfl, rfl, rfl, trivial⟩ ⟨h0376, he341, hB352, hS353⟩ ?_
        rintro ⟨x367, a368, n369, c370, y371, v373⟩ b_ w378 ⟨hi_, he372, hB379, hS380⟩
        show Wp _ _ _ _ (upds b_ [(5, .slice a368 n369 c370), (6, .slice a18 n19 c20), (7, .int .i64 v342), (8, .int .i64 v373)]) w378
        have hm := hr377 x367 v373 hi_
        refine w_seq fun K382 hK382 => ?_
        refine w_seq fun K383 hK383 => ?_
        refine w_region ?_
        refine wl_val (g_move (v := .int .i64 v373) rfl) rfl ?_
        refine wl_val (g_move (v := .slice a18 n19 c20) rfl) rfl ?_
        refine wl_val (q_len SL37 rfl (Tv.len (oT.vw hS380.g2 hS380.g3 he22))) rfl ?_
        refine wl_val (g_lss (a := v373) (b := (r17.length : Int)) rfl rfl) rfl ?_
        refine wl_nil ?_
        refine hK383 _ _ ?_
        refine w_condI (p := v373 < (r17.length : Int)) (b := (decide (v373 < (r17.length : Int)))) rfl decide_eq_true_iff (fun h384 => ?_) (fun h384 => ?_)
        · replace hm := hm.1 h384
          refine w_skip ?_
          refine hK382 _ _ ?_
          refine w_seq fun K385 hK385 => ?_
          refine w_block ?_
          refine w_seq fun K386 hK386 => ?_
          refine w_region ?_
          refine wl_val (g_move (v := .slice a18 n19 c20) rfl) rfl ?_
          refine wl_val (g_move (v := .int .i64 v342) rfl) rfl ?_
          obtain ⟨hg387, hm⟩ := hm
          refine wl_val (q_index (i := v342) SL37 rfl rfl (Tv.o (oT.vw hS380.g2 hS380.g3 he22)) (Tv.g (oT.vw hS380.g2 hS380.g3 he22) hg387)) rfl ?_
          refine wl_val (q_load (i := v342) (v := .slice ((y21[(Int.toNat v342)]!).1) ((y21[(Int.toNat v342)]!).2.2.length) ((y21[(Int.toNat v342)]!).2.1)) ON39 (Tv.o (oT.vw hS380.g2 hS380.g3 he22)) (Tv.g (oT.vw hS380.g2 hS380.g3 he22) hg387) rfl rfl) rfl ?_
          refine wl_val (g_move (v := .int .i64 v373) rfl) rfl ?_
          obtain ⟨hg388, hm⟩ := hm
          refine wl_val (q_index (i := v373) SL39 rfl rfl (Tv.row (oT.vw hS380.g2 hS380.g3 he22) hg387) hg388) rfl ?_
          refine wl_val (q_load (i := v373) (v := .int .i64 ((r17[(Int.toNat v342)]!)[(Int.toNat v373)]!)) ON3 (Tv.row (oT.vw hS380.g2 hS380.g3 he22) hg387) hg388 rfl rfl) rfl ?_
          refine wl_val (g_neq (a := (r17[(Int.toNat v342)]!)[(Int.toNat v373)]!) (b := 0) rfl rfl) rfl ?_
          refine wl_nil ?_
          refine hK386 _ _ ?_
          refine w_condI (p := (r17[(Int.toNat v342)]!)[(Int.toNat v373)]! ≠ 0) (b := (decide ((r17[(Int.toNat v342)]!)[(Int.toNat v373)]! ≠ 0))) rfl decide_eq_true_iff (fun h389 => ?_) (fun h389 => ?_)
          · replace hm := hm.1 h389
            refine w_region ?_
            refine wl_val (g_move (v := .slice a368 n369 c370) rfl) rfl ?_
            refine wl_val (g_move (v := .int .i64 v342) rfl) rfl ?_
            refine wl_val (g_move (v := .int .i64 v373) rfl) rfl ?_
            refine wl_step rfl (q_lit2 (y := (v342 : Int)) (y' := (v373 : Int)) SL39 rfl rfl rfl rfl (by decide) hS380) ?_
            rintro _ w390 ⟨a391, rfl, hS393, hE392⟩
            have hB395 := hB379.trans (Ext.stp hE392 hS380.base)
            have hn401 := oS.len hS393.g0
            have hS402 := hS393.oneRow
            have he400 : ers [((a391, 2, [v342, v373]) : Hd Int)] = [[v342, v373]] := rfl
            refine wl_step rfl (q_lit1 (y := ((a391, 2, [v342, v373]) : Hd Int)) SL37 rfl (hd_cells hn401) (by decide) hS402) ?_
            rintro _ w396 ⟨a397, rfl, hS399, hE398⟩
            have hB405 := hB395.trans (Ext.stp hE398 hS402.base)
            have hS412 := hS399.f2
            obtain ⟨hg413, hm⟩ := hm
            have hl414 : (y371).length + ([(a391, 2, [v342, v373])]).length ≤ 1099511627776 := by have h1 := congrArg List.length he372; have h2 := congrArg List.length he400; have h3 := hg413; simp only [ers, List.length_map, List.length_append, List.length_cons, List.length_nil, List.length_replicate, List.length_set] at h1 h2 h3 ⊢; omega
            refine wl_step rfl (q_append SL37 rfl rfl hS412 (oS.vw hS412.g1) hl414 (by decide)) ?_
            rintro _ w407 ⟨a408, c409, rfl, hS411, hb410⟩
            have hB415 := hB405.trans hb410
            have hS416 := hS411.f1
            have hS417 := hS416.tail
            have hS418 := hS417.f2
            have hS419 := hS418.f2
            have hS420 := hS419.catRows
            have he421 : ers (y371 ++ ([(a391, 2, [v342, v373])])) = (x367 ++ ([[v342, v373]])) := by rw [← he372, ← he400]; exact List.map_append
            refine wl_val (g_assign (v := .slice a408 (n369 + 1) c409) rfl) rfl ?_
            refine wl_nil ?_
            refine hK385 _ _ ?_
            refine w_region ?_
            refine wl_val (g_move (v := .int .i64 v373) rfl) rfl ?_
            obtain ⟨hg422, hm⟩ := hm
            refine wl_val (g_add (a := v373) (b := 1) rfl rfl hg422) rfl ?_
            refine wl_val (g_assign (v := .int .i64 (v373 + 1)) rfl) rfl ?_
            refine wl_nil ?_
            have hS423 := hS420.f3
            have hS424 := hS423.f3
            have hS425 := hS424.f2
            have hS426 := hS425.f3
            exact ⟨((x367 ++ ([[v342, v373]])), a408, (n369 + 1), c409, (y371 ++ ([(a391, 2, [v342, v373])])), (v373 + 1)), hm.2, ⟨rfl, rfl, rfl, rfl, trivial⟩, ⟨hm.1, he421, hB415, hS426⟩⟩
          · replace hm := hm.2 h389
            refine w_skip ?_
            refine hK385 _ _ ?_
            refine w_region ?_
            refine wl_val (g_move (v := .int .i64 v373) rfl) rfl ?_
            obtain ⟨hg427, hm⟩ := hm
            refine wl_val (g_add (a := v373) (b := 1) rfl rfl hg427) rfl ?_
            refine wl_val (g_assign (v := .int .i64 (v373 + 1)) rfl) rfl ?_
            refine wl_nil ?_
            exact ⟨(x367, a368, n369, c370, y371, (v373 + 1)), hm.2, ⟨rfl, rfl, rfl, rfl, trivial⟩, ⟨hm.1, he372, hB379, hS380⟩⟩
        · replace hm := hm.2 h384
          refine w_exit ?_
          exact ⟨(x367, a368, n369, c370, y371), ⟨rfl, rfl, rfl, trivial⟩, ⟨hm, he372, hB379, hS380⟩⟩
      · rintro ⟨x358, a359, n360, c361, y362⟩ b_ w428 ⟨hm, he363, hB429, hS430⟩
        show Wp _ _ _ _ (upds b_ [(5, .slice a359 n360 c361), (6, .slice a18 n19 c20), (7, .int .i64 v342)]) w428
        refine w_region ?_
        refine wl_val (g_move (v := .int .i64 v342) rfl) rfl ?_
        obtain ⟨hg431, hm⟩ := hm
        refine wl_val (g_add (a := v342) (b := 1) rfl rfl hg431) rfl ?_
        refine wl_val (g_assign (v := .int .i64 (v342 + 1)) rfl) rfl ?_
        refine wl_nil ?_
        exact ⟨(x358, a359, n360, c361, y362, (v342 + 1)), hm.2, ⟨rfl, rfl, rfl, trivial⟩, ⟨hm.1, he363, hB429, hS430⟩⟩
    · replace hm := hm.2 h357
      refine w_exit ?_
      have hS432 := hS353.f2
      have hS433 := hS432.tail
      have hS434 := hS433.f2
      have hS435 := hS434.tail
      exact ⟨(x336, a337, n338, c339, y340), ⟨rfl, trivial⟩, ⟨hm, he341, hB352, hS435⟩⟩
  · rintro ⟨x328, a329, n330, c331, y332⟩ b_ w436 ⟨hm, he333, hB437, hS438⟩
    show Wp _ _ _ _ (upds b_ [(5, .slice a329 n330 c331)]) w436
    refine w_seq fun K439 hK439 => ?_
    refine w_region ?_
    refine wl_val (g_move (v := .slice a329 n330 c331) rfl) rfl ?_
    refine wl_val (g_assign (v := .slice a329 n330 c331) rfl) rfl ?_
    refine wl_nil ?_
    refine hK439 _ _ ?_
    refine w_ret ?_
    repeat first | with_reducible refine q_then ?_ | with_reducible refine q_block ?_
    exact ret1 rfl (by decide) ⟨_, _, _, _, _, hm, he333, rfl, toExt hB437, hS438⟩

theorem m_impl_OrderAfter_1_fn {w : World}  {Q : Prop} (p0 : Cross) (p1 : Int) (p2 : Int) (hm : m_impl_OrderAfter_1 p0 p1 p2 Q) :
    Fn Try.prog 80 #[.agg #[.int .i64 p0.1, .bool p0.2], .int .i64 p1, .int .i64 p2] w (fun v w' => Q ∧ v = .tuple #[] ∧ Ext w w') := by
  unfold m_impl_OrderAfter_1 at hm
  have hB0 := Below.refl w.heap.size w
  have hS0 : Sep w w.heap.size [] := Sep.nil (Nat.le_refl _)
  refine fn_of_wp Try.func80 rfl (by kernel_rfl) (Nat.le_of_ble_eq_true rfl) ?_
  refine w_region ?_
  refine wl_step rfl (q_box (cs := #[.int .i64 p0.1, .bool p0.2]) rfl rfl hS0) ?_
  rintro _ w1 ⟨g2, rfl, hS4, hE3⟩
  have hB6 := hB0.trans (Ext.stp hE3 hS0.base)
  refine wl_nil ?_
  repeat first | with_reducible refine q_then ?_ | with_reducible refine q_block ?_
  exact ret0n rfl ⟨hm, rfl, toExt hB6⟩

theorem m_impl_follow_OrderAfter_1_fn {w : World} {a1 : Option Addr} {n1 c1 : Nat} {p1 : List Cross} {Q : (List Int) → Prop} (p0 : Int) (hp1 : Vw w.heap.size w a1 n1 c1 p1) (hm : m_impl_follow_OrderAfter_1 p0 p1 Q) :
    Fn Try.prog 74 #[.int .i64 p0, .slice a1 n1 c1, .func (.func 80) #[] #[]] w (fun v w' => ∃ (r0 : List Int) (a0 : Option Addr) (n0 c0 : Nat), Q r0 ∧ v = .slice a0 n0 c0 ∧ Ext w w' ∧ Sep w' w.heap.size [oS 3 a0 n0 c0 r0]) := by
  unfold m_impl_follow_OrderAfter_1 at hm
  have hB0 := Below.refl w.heap.size w
  have hS0 : Sep w w.heap.size [] := Sep.nil (Nat.le_refl _)
  refine fn_of_wp Try.func74 rfl (by kernel_rfl) (Nat.le_of_ble_eq_true rfl) ?_
  refine w_seq fun K1 hK1 => ?_
  refine w_region ?_
  refine wl_val (g_assign (v := .slice none 0 0) rfl) rfl ?_
  refine wl_nil ?_
  refine hK1 _ _ ?_
  refine w_seq fun K2 hK2 => ?_
  refine w_region ?_
  refine wl_val (g_move (v := .int .i64 p0) rfl) rfl ?_
  refine wl_step rfl (g_call (vs := #[.int .i64 p0]) CF77 (args1 rfl) (m_impl_upTo_fn p0 hm)) ?_
  rintro _ w3 ⟨r6, a7, n8, c9, hm, rfl, hE4, hN5⟩
  have hS11 := hS0.call1 hE4 hN5
  have hB12 := hB0.trans (Ext.stp hE4 hS0.base)
  refine wl_val (g_assign (v := .slice a7 n8 c9) rfl) rfl ?_
  refine wl_nil ?_
  refine hK2 _ _ ?_
  refine w_cut (σ := List Int) (fun x449 => [(7, .slice a7 n8 c9)]) (fun x449 w' => m_impl_follow_OrderAfter_1_K0 Q x449 ∧ Below w.heap.size w w' ∧ Sep w' w.heap.size [oS 3 a7 n8 c9 (x449 : List Int)]) ?_ ?_
  · refine w_seq fun K451 hK451 => ?_
    refine w_region ?_
    refine wl_val (g_move (v := .slice a1 n1 c1) rfl) rfl ?_
    refine wl_val (q_len SL24 rfl (Vw.len (hp1.bel hB12))) rfl ?_
    refine wl_val (g_move (v := .int .i64 0) rfl) rfl ?_
    refine wl_nil ?_
    refine hK451 _ _ ?_
    refine w_block ?_
    obtain ⟨I454, μ455, h0456, hr457⟩ := hm
    refine w_for (σ := List Int × Int) (fun ⟨x452, v453⟩ => [(2, .func (.func 80) #[] #[]), (7, .slice a7 n8 c9), (12, .slice a1 n1 c1), (13, .int .i64 (p1.length : Int)), (14, .int .i64 v453)]) (fun ⟨x452, v453⟩ w' => I454 x452 v453 ∧ Below w.heap.size w w' ∧ Sep w' w.heap.size [oS 3 a7 n8 c9 (x452 : List Int)]) (fun ⟨x452, v453⟩ => μ455 x452 v453) (r6, 0) ⟨rfl, rfl, rfl, rfl, rfl, trivial⟩ ⟨h0456, hB12, hS11⟩ ?_
    rintro ⟨x452, v453⟩ b_ w458 ⟨hi_, hB459, hS460⟩
    show Wp _ _ _ _ (upds b_ [(2, .func (.func 80) #[] #[]), (7, .slice a7 n8 c9), (12, .slice a1 n1 c1), (13, .int .i64 (p1.length : Int)), (14, .int .i64 v453)]) w458
    have hm := hr457 x452 v453 hi_
    refine w_seq fun K462 hK462 => ?_
    refine w_region ?_
    refine wl_val (g_lss (a := v453) (b := (p1.length : Int)) rfl rfl) rfl ?_
    refine wl_nil ?_
    refine hK462 _ _ ?_
    refine w_seq fun K463 hK463 => ?_
    refine w_condI (p := v453 < (p1.length : Int)) (b := (decide (v453 < (p1.length : Int)))) rfl decide_eq_true_iff (fun h464 => ?_) (fun h464 => ?_)
    · replace hm := hm.1 h464
      refine w_skip ?_
      refine hK463 _ _ ?_
      refine w_seq fun K465 hK465 => ?_
      refine w_block ?_
      refine w_seq fun K466 hK466 => ?_
      refine w_region ?_
      obtain ⟨hg467, hm⟩ := hm
      refine wl_val (q_index (i := v453) SL24 rfl rfl (hp1.bel hB459) hg467) rfl ?_
      refine wl_val (q_loadS (i := v453) (cs := [.int .i64 (p1[(Int.toNat v453)]!.1), .bool (p1[(Int.toNat v453)]!.2)]) AG56 (hp1.bel hB459) hg467 rfl rfl) rfl ?_
      refine wl_step rfl (q_alloc (cs := #[.int .i64 0, .bool false]) ZR56 rfl hS460) ?_
      rintro _ w468 ⟨g469, rfl, hS471, hE470⟩
      have hB473 := hB459.trans (Ext.stp hE470 hS460.base)
      refine wl_step rfl (q_storeB (i := 0) (bs' := #[.int .i64 (p1[(Int.toNat v453)]!.1), .bool (p1[(Int.toNat v453)]!.2)]) (vs := [.int .i64 (p1[(Int.toNat v453)]!.1), .bool (p1[(Int.toNat v453)]!.2)]) hS471 AG56.sz rfl rfl rfl (by simp [Value.oneCell']) (Nat.le_of_ble_eq_true rfl) rfl) ?_
      rintro _ w474 ⟨rfl, hS475, hb476⟩
      have hB477 := hB473.trans hb476
      refine wl_nil ?_
      refine hK466 _ _ ?_
      refine w_seq fun K478 hK478 => ?_
      refine w_draw (X := Ext) (Y := Ext) [0, 0, 0, 0, 0, 0, 0, 0, 0, 0, 0, 0, 0, 1] MIX (by decide +kernel) rfl Ext.refl (fun _ _ _ => Ext.trans) (fun _ _ _ => Chg.trans) (fun _ _ h => Ext.chg h _) (fun w479 hE480 => ?_)
      have hB481 := hB477.trans (Ext.stp hE480 hS475.base)
      have hS482 := hS475.ext hE480
      refine ⟨.func (.func 80) #[] #[], fun w483 hX484 => od_plain rfl (by have hS485 := hS482.ext hX484; have hB486 := hB481.trans (Ext.stp hX484 hS482.base); exact is_ext (g_move (v := .func (.func 80) #[] #[]) rfl)), ?_⟩
      refine ⟨.agg #[.int .i64 (p1[(Int.toNat v453)]!.1), .bool (p1[(Int.toNat v453)]!.2)], fun w487 hX488 => od_plain rfl (by have hS489 := hS482.ext hX488; have hB490 := hB481.trans (Ext.stp hX488 hS482.base); exact is_ext (q_loadBS (bs := #[.int .i64 (p1[(Int.toNat v453)]!.1), .bool (p1[(Int.toNat v453)]!.2)]) hS489.g0 AG56 rfl)), ?_⟩
      refine ⟨.slice a7 n8 c9, fun w491 hX492 => od_plain rfl (by have hS493 := hS482.ext hX492; have hB494 := hB481.trans (Ext.stp hX492 hS482.base); exact is_ext (g_move (v := .slice a7 n8 c9) rfl)), ?_⟩
      refine ⟨.pointer (some (((⟨g469, 0, none⟩ : Addr)).add 0)), fun w495 hX496 => od_plain rfl (by have hS497 := hS482.ext hX496; have hB498 := hB481.trans (Ext.stp hX496 hS482.base); exact is_ext (g_fieldAddr (q := (⟨g469, 0, none⟩ : Addr)) FL56_0 ON3 rfl)), ?_⟩
      refine ⟨.int .i64 (p1[(Int.toNat v453)]!.1), fun w499 hX500 => od_plain rfl (by have hS501 := hS482.ext hX500; have hB502 := hB481.trans (Ext.stp hX500 hS482.base); exact is_ext (q_loadB (i := 0) (bs := #[.int .i64 (p1[(Int.toNat v453)]!.1), .bool (p1[(Int.toNat v453)]!.2)]) hS501.g0 ON3 rfl rfl)), ?_⟩
      obtain ⟨hg507, hm⟩ := hm
      refine ⟨.pointer (some ((adr a7).add ((Int.toNat (p1[(Int.toNat v453)]!.1)) * El.m Int))), fun w503 hX504 => od_plain rfl (by have hS505 := hS482.ext hX504; have hB506 := hB481.trans (Ext.stp hX504 hS482.base); exact is_ext (q_index (i := p1[(Int.toNat v453)]!.1) SL39 rfl rfl (oS.vw hS505.g1) hg507)), ?_⟩
      refine ⟨.int .i64 (x452[(Int.toNat (p1[(Int.toNat v453)]!.1))]!), fun w508 hX509 => od_plain rfl (by have hS510 := hS482.ext hX509; have hB511 := hB481.trans (Ext.stp hX509 hS482.base); exact is_ext (q_load (i := p1[(Int.toNat v453)]!.1) (v := .int .i64 (x452[(Int.toNat (p1[(Int.toNat v453)]!.1))]!)) ON3 (oS.vw hS510.g1) hg507 rfl rfl)), ?_⟩
      refine ⟨.slice a7 n8 c9, fun w512 hX513 => od_plain rfl (by have hS514 := hS482.ext hX513; have hB515 := hB481.trans (Ext.stp hX513 hS482.base); exact is_ext (g_move (v := .slice a7 n8 c9) rfl)), ?_⟩
      refine ⟨.pointer (some (((⟨g469, 0, none⟩ : Addr)).add 0)), fun w516 hX517 => od_plain rfl (by have hS518 := hS482.ext hX517; have hB519 := hB481.trans (Ext.stp hX517 hS482.base); exact is_ext (g_fieldAddr (q := (⟨g469, 0, none⟩ : Addr)) FL56_0 ON3 rfl)), ?_⟩
      refine ⟨.int .i64 (p1[(Int.toNat v453)]!.1), fun w520 hX521 => od_plain rfl (by have hS522 := hS482.ext hX521; have hB523 := hB481.trans (Ext.stp hX521 hS482.base); exact is_ext (q_loadB (i := 0) (bs := #[.int .i64 (p1[(Int.toNat v453)]!.1), .bool (p1[(Int.toNat v453)]!.2)]) hS522.g0 ON3 rfl rfl)), ?_⟩
      obtain ⟨hg528, hm⟩ := hm
      refine ⟨.int .i64 (p1[(Int.toNat v453)]!.1 + 1), fun w524 hX525 => od_plain rfl (by have hS526 := hS482.ext hX525; have hB527 := hB481.trans (Ext.stp hX525 hS482.base); exact is_ext (g_add (a := p1[(Int.toNat v453)]!.1) (b := 1) rfl rfl hg528)), ?_⟩
      obtain ⟨hg533, hm⟩ := hm
      refine ⟨.pointer (some ((adr a7).add ((Int.toNat (p1[(Int.toNat v453)]!.1 + 1)) * El.m Int))), fun w529 hX530 => od_plain rfl (by have hS531 := hS482.ext hX530; have hB532 := hB481.trans (Ext.stp hX530 hS482.base); exact is_ext (q_index (i := (p1[(Int.toNat v453)]!.1 + 1)) SL39 rfl rfl (oS.vw hS531.g1) hg533)), ?_⟩
      refine ⟨.int .i64 (x452[(Int.toNat (p1[(Int.toNat v453)]!.1 + 1))]!), fun w534 hX535 => od_plain rfl (by have hS536 := hS482.ext hX535; have hB537 := hB481.trans (Ext.stp hX535 hS482.base); exact is_ext (q_load (i := (p1[(Int.toNat v453)]!.1 + 1)) (v := .int .i64 (x452[(Int.toNat (p1[(Int.toNat v453)]!.1 + 1))]!)) ON3 (oS.vw hS536.g1) hg533 rfl rfl)), ?_⟩
      intro w538 hX539
      have hB540 := hB481.trans (Ext.stp hX539 hS482.base)
      have hS541 := hS482.ext hX539
      refine ⟨_, od_plain rfl (g_callvc (f := 80) (va := #[.agg #[.int .i64 (p1[(Int.toNat v453)]!.1), .bool (p1[(Int.toNat v453)]!.2)], .int .i64 (x452[(Int.toNat (p1[(Int.toNat v453)]!.1))]!), .int .i64 (x452[(Int.toNat (p1[(Int.toNat v453)]!.1 + 1))]!)]) (cap := #[]) (vs := #[.agg #[.int .i64 (p1[(Int.toNat v453)]!.1), .bool (p1[(Int.toNat v453)]!.2)], .int .i64 (x452[(Int.toNat (p1[(Int.toNat v453)]!.1))]!), .int .i64 (x452[(Int.toNat (p1[(Int.toNat v453)]!.1 + 1))]!)]) CF80 rfl (args3 rfl rfl rfl) rfl (m_impl_OrderAfter_1_fn (p1[(Int.toNat v453)]!.1, p1[(Int.toNat v453)]!.2) (x452[(Int.toNat (p1[(Int.toNat v453)]!.1))]!) (x452[(Int.toNat (p1[(Int.toNat v453)]!.1 + 1))]!) hm)), ?_⟩
      rintro _ w542 ⟨hm, rfl, hE543⟩
      have hB545 := hB540.trans (Ext.stp hE543 hS541.base)
      have hS546 := hS541.ext hE543
      intro w547 hX548
      have hB549 := hB545.trans (Ext.stp hX548 hS546.base)
      have hS550 := hS546.ext hX548
      refine hK478 _ _ ?_
      have hS556 := hS550.f1
      refine w_draw (X := Ext) (Y := (fun w_ w_' => Chg w_ w_' (blk a7))) [0, 0, 0, 3, 3, 3, 3, 0, 0, 0, 0, 0, 0, 0, 0, 0, 0, 0, 0, 4, 0, 1] MIX (by decide +kernel) rfl Ext.refl (fun _ _ _ => Ext.trans) (fun _ _ _ => Chg.trans) (fun _ _ h => Ext.chg h _) (fun w557 hE558 => ?_)
      have hB559 := hB549.trans (Ext.stp hE558 hS556.base)
      have hS560 := hS556.ext hE558
      refine ⟨.slice a7 n8 c9, fun w561 hX562 => od_plain rfl (by have hS563 := hS560.ext hX562; have hB564 := hB559.trans (Ext.stp hX562 hS560.base); exact is_ext (g_move (v := .slice a7 n8 c9) rfl)), ?_⟩
      refine ⟨.pointer (some (((⟨g469, 0, none⟩ : Addr)).add 0)), fun w565 hX566 => od_plain rfl (by have hS567 := hS560.ext hX566; have hB568 := hB559.trans (Ext.stp hX566 hS560.base); exact is_ext (g_fieldAddr (q := (⟨g469, 0, none⟩ : Addr)) FL56_0 ON3 rfl)), ?_⟩
      refine ⟨.int .i64 (p1[(Int.toNat v453)]!.1), fun w569 hX570 => od_plain rfl (by have hS571 := hS560.ext hX570; have hB572 := hB559.trans (Ext.stp hX570 hS560.base); exact is_ext (q_loadB (i := 0) (bs := #[.int .i64 (p1[(Int.toNat v453)]!.1), .bool (p1[(Int.toNat v453)]!.2)]) hS571.g1 ON3 rfl rfl)), ?_⟩
      refine ⟨.slice a7 n8 c9, fun w573 hX574 => od_plain rfl (by have hS575 := Sep.chgT hS560 hX574 (fun k hk => hk); have hB576 := hB559.trans (Sep.stp hS560 hX574 (fun k hk => hk)); exact is_ext (g_move (v := .slice a7 n8 c9) rfl)), ?_⟩
      refine ⟨.pointer (some (((⟨g469, 0, none⟩ : Addr)).add 0)), fun w577 hX578 => od_plain rfl (by have hS579 := Sep.chgT hS560 hX578 (fun k hk => hk); have hB580 := hB559.trans (Sep.stp hS560 hX578 (fun k hk => hk)); exact is_ext (g_fieldAddr (q := (⟨g469, 0, none⟩ : Addr)) FL56_0 ON3 rfl)), ?_⟩
      refine ⟨.int .i64 (p1[(Int.toNat v453)]!.1), fun w581 hX582 => od_plain rfl (by have hS583 := Sep.chgT hS560 hX582 (fun k hk => hk); have hB584 := hB559.trans (Sep.stp hS560 hX582 (fun k hk => hk)); exact is_ext (q_loadB (i := 0) (bs := #[.int .i64 (p1[(Int.toNat v453)]!.1), .bool (p1[(Int.toNat v453)]!.2)]) hS583.g0 ON3 rfl rfl)), ?_⟩
      obtain ⟨hg589, hm⟩ := hm
      refine ⟨.int .i64 (p1[(Int.toNat v453)]!.1 + 1), fun w585 hX586 => od_plain rfl (by have hS587 := Sep.chgT hS560 hX586 (fun k hk => hk); have hB588 := hB559.trans (Sep.stp hS560 hX586 (fun k hk => hk)); exact is_ext (g_add (a := p1[(Int.toNat v453)]!.1) (b := 1) rfl rfl hg589)), ?_⟩
      refine ⟨.slice a7 n8 c9, fun w590 hX591 => od_plain rfl (by have hS592 := hS560.ext hX591; have hB593 := hB559.trans (Ext.stp hX591 hS560.base); exact is_ext (g_move (v := .slice a7 n8 c9) rfl)), ?_⟩
      refine ⟨.pointer (some (((⟨g469, 0, none⟩ : Addr)).add 0)), fun w594 hX595 => od_plain rfl (by have hS596 := hS560.ext hX595; have hB597 := hB559.trans (Ext.stp hX595 hS560.base); exact is_ext (g_fieldAddr (q := (⟨g469, 0, none⟩ : Addr)) FL56_0 ON3 rfl)), ?_⟩
      refine ⟨.int .i64 (p1[(Int.toNat v453)]!.1), fun w598 hX599 => od_plain rfl (by have hS600 := hS560.ext hX599; have hB601 := hB559.trans (Ext.stp hX599 hS560.base); exact is_ext (q_loadB (i := 0) (bs := #[.int .i64 (p1[(Int.toNat v453)]!.1), .bool (p1[(Int.toNat v453)]!.2)]) hS600.g1 ON3 rfl rfl)), ?_⟩
      obtain ⟨hg606, hm⟩ := hm
      refine ⟨.int .i64 (p1[(Int.toNat v453)]!.1 + 1), fun w602 hX603 => od_plain rfl (by have hS604 := hS560.ext hX603; have hB605 := hB559.trans (Ext.stp hX603 hS560.base); exact is_ext (g_add (a := p1[(Int.toNat v453)]!.1) (b := 1) rfl rfl hg606)), ?_⟩
      obtain ⟨hg611, hm⟩ := hm
      refine ⟨.pointer (some ((adr a7).add ((Int.toNat (p1[(Int.toNat v453)]!.1 + 1)) * El.m Int))), fun w607 hX608 => od_plain rfl (by have hS609 := hS560.ext hX608; have hB610 := hB559.trans (Ext.stp hX608 hS560.base); exact is_ext (q_index (i := (p1[(Int.toNat v453)]!.1 + 1)) SL39 rfl rfl (oS.vw hS609.g0) hg611)), ?_⟩
      refine ⟨.int .i64 (x452[(Int.toNat (p1[(Int.toNat v453)]!.1 + 1))]!), fun w612 hX613 => od_plain rfl (by have hS614 := hS560.ext hX613; have hB615 := hB559.trans (Ext.stp hX613 hS560.base); exact is_ext (q_load (i := (p1[(Int.toNat v453)]!.1 + 1)) (v := .int .i64 (x452[(Int.toNat (p1[(Int.toNat v453)]!.1 + 1))]!)) ON3 (oS.vw hS614.g0) hg611 rfl rfl)), ?_⟩
      refine ⟨.slice a7 n8 c9, fun w616 hX617 => od_plain rfl (by have hS618 := hS560.ext hX617; have hB619 := hB559.trans (Ext.stp hX617 hS560.base); exact is_ext (g_move (v := .slice a7 n8 c9) rfl)), ?_⟩
      refine ⟨.pointer (some (((⟨g469, 0, none⟩ : Addr)).add 0)), fun w620 hX621 => od_plain rfl (by have hS622 := hS560.ext hX621; have hB623 := hB559.trans (Ext.stp hX621 hS560.base); exact is_ext (g_fieldAddr (q := (⟨g469, 0, none⟩ : Addr)) FL56_0 ON3 rfl)), ?_⟩
      refine ⟨.int .i64 (p1[(Int.toNat v453)]!.1), fun w624 hX625 => od_plain rfl (by have hS626 := hS560.ext hX625; have hB627 := hB559.trans (Ext.stp hX625 hS560.base); exact is_ext (q_loadB (i := 0) (bs := #[.int .i64 (p1[(Int.toNat v453)]!.1), .bool (p1[(Int.toNat v453)]!.2)]) hS626.g1 ON3 rfl rfl)), ?_⟩
      obtain ⟨hg632, hm⟩ := hm
      refine ⟨.pointer (some ((adr a7).add ((Int.toNat (p1[(Int.toNat v453)]!.1)) * El.m Int))), fun w628 hX629 => od_plain rfl (by have hS630 := hS560.ext hX629; have hB631 := hB559.trans (Ext.stp hX629 hS560.base); exact is_ext (q_index (i := p1[(Int.toNat v453)]!.1) SL39 rfl rfl (oS.vw hS630.g0) hg632)), ?_⟩
      refine ⟨.int .i64 (x452[(Int.toNat (p1[(Int.toNat v453)]!.1))]!), fun w633 hX634 => od_plain rfl (by have hS635 := hS560.ext hX634; have hB636 := hB559.trans (Ext.stp hX634 hS560.base); exact is_ext (q_load (i := p1[(Int.toNat v453)]!.1) (v := .int .i64 (x452[(Int.toNat (p1[(Int.toNat v453)]!.1))]!)) ON3 (oS.vw hS635.g0) hg632 rfl rfl)), ?_⟩
      obtain ⟨hg641, hm⟩ := hm
      refine ⟨.pointer (some ((adr a7).add ((Int.toNat (p1[(Int.toNat v453)]!.1)) * El.m Int))), fun w637 hX638 => od_plain rfl (by have hS639 := hS560.ext hX638; have hB640 := hB559.trans (Ext.stp hX638 hS560.base); exact is_ext (q_index (i := p1[(Int.toNat v453)]!.1) SL39 rfl rfl (oS.vw hS639.g0) hg641)), ?_⟩
      intro w642 hX643
      have hB644 := hB559.trans (Ext.stp hX643 hS560.base)
      have hS645 := hS560.ext hX643
      refine ⟨_, od_plain rfl (q_storeC (i := p1[(Int.toNat v453)]!.1) (v := (x452[(Int.toNat (p1[(Int.toNat v453)]!.1 + 1))]! : Int)) hS645 ON3.sz hg641 rfl rfl rfl), ?_⟩
      rintro _ w646 ⟨rfl, hS647, hb648, hC649⟩
      refine ⟨hC649, ?_⟩
      have hB650 := hB644.trans hb648
      obtain ⟨hg655, hm⟩ := hm
      refine ⟨.pointer (some ((adr a7).add ((Int.toNat (p1[(Int.toNat v453)]!.1 + 1)) * El.m Int))), fun w651 hX652 => od_plain rfl (by have hS653 := hS647.ext hX652; have hB654 := hB650.trans (Ext.stp hX652 hS647.base); exact is_ext (q_index (i := (p1[(Int.toNat v453)]!.1 + 1)) SL39 rfl rfl (oS.vw hS653.g0) hg655)), ?_⟩
      intro w656 hX657
      have hB658 := hB650.trans (Ext.stp hX657 hS647.base)
      have hS659 := hS647.ext hX657
      refine ⟨_, od_plain rfl (q_store (i := (p1[(Int.toNat v453)]!.1 + 1)) (v := (x452[(Int.toNat (p1[(Int.toNat v453)]!.1))]! : Int)) hS659 ON3.sz hg655 rfl rfl rfl), ?_⟩
      rintro _ w660 ⟨rfl, hS661, hb662⟩
      have hB663 := hB658.trans hb662
      intro w664 hX665
      have hB666 := hB663.trans (Ext.stp hX665 hS661.base)
      have hS667 := hS661.ext hX665
      refine hK465 _ _ ?_
      refine w_region ?_
      obtain ⟨hg668, hm⟩ := hm
      refine wl_val (g_add (a := v453) (b := 1) rfl rfl hg668) rfl ?_
      refine wl_val (g_move (v := .int .i64 (v453 + 1)) rfl) rfl ?_
      refine wl_nil ?_
      have hS669 := hS667.f1
      have hS670 := hS669.tail
      exact ⟨(((x452.set (Int.toNat (p1[(Int.toNat v453)]!.1)) (x452[(Int.toNat (p1[(Int.toNat v453)]!.1 + 1))]!)).set (Int.toNat (p1[(Int.toNat v453)]!.1 + 1)) (x452[(Int.toNat (p1[(Int.toNat v453)]!.1))]!)), (v453 + 1)), hm.2, ⟨rfl, rfl, rfl, rfl, rfl, trivial⟩, ⟨hm.1, hB666, hS670⟩⟩
    · replace hm := hm.2 h464
      refine w_exit ?_
      exact ⟨(x452), ⟨rfl, trivial⟩, ⟨hm, hB459, hS460⟩⟩
  · rintro x449 b_ w671 ⟨hm, hB672, hS673⟩
    show Wp _ _ _ _ (upds b_ [(7, .slice a7 n8 c9)]) w671
    refine w_seq fun K674 hK674 => ?_
    refine w_region ?_
    refine wl_val (g_move (v := .slice a7 n8 c9) rfl) rfl ?_
    refine wl_val (g_assign (v := .slice a7 n8 c9) rfl) rfl ?_
    refine wl_nil ?_
    refine hK674 _ _ ?_
    refine w_ret ?_
    repeat first | with_reducible refine q_then ?_ | with_reducible refine q_block ?_
    exact ret1 rfl (by decide) ⟨_, _, _, _, hm, rfl, toExt hB672, hS673⟩

theorem m_impl_OrderAfter_fn {w : World} {a1 : Option Addr} {n1 c1 : Nat} {p1 : List Cross} {Q : (List Int) → Prop} (p0 : Int) (hp1 : Vw w.heap.size w a1 n1 c1 p1) (hm : m_impl_OrderAfter p0 p1 Q) :
    Fn Try.prog 71 #[.int .i64 p0, .slice a1 n1 c1] w (fun v w' => ∃ (r0 : List Int) (a0 : Option Addr) (n0 c0 : Nat), Q r0 ∧ v = .slice a0 n0 c0 ∧ Ext w w' ∧ Sep w' w.heap.size [oS 3 a0 n0 c0 r0]) := by
  unfold m_impl_OrderAfter at hm
  have hB0 := Below.refl w.heap.size w
  have hS0 : Sep w w.heap.size [] := Sep.nil (Nat.le_refl _)
  refine fn_of_wp Try.func71 rfl (by kernel_rfl) (Nat.le_of_ble_eq_true rfl) ?_
  refine w_seq fun K1 hK1 => ?_
  refine w_region ?_
  refine wl_val (g_assign (v := .slice none 0 0) rfl) rfl ?_
  refine wl_nil ?_
  refine hK1 _ _ ?_
  refine w_seq fun K2 hK2 => ?_
  refine w_seq fun K3 hK3 => ?_
  refine w_region ?_
  refine wl_val (g_move (v := .int .i64 p0) rfl) rfl ?_
  refine wl_val (g_move (v := .slice a1 n1 c1) rfl) rfl ?_
  refine wl_step rfl (g_call (vs := #[.int .i64 p0, .slice a1 n1 c1]) CF57 (args2 rfl rfl) (m_impl_CrossesOk_fn p0 ((hp1.bel hB0).up hS0) hm)) ?_
  rintro _ w4 ⟨r7, hm, rfl, hE5⟩
  have hB8 := hB0.trans (Ext.stp hE5 hS0.base)
  have hS9 := hS0.ext hE5
  refine wl_val (g_not (a := r7) rfl) rfl ?_
  refine wl_nil ?_
  refine hK3 _ _ ?_
  refine w_condI (p := ¬ (r7 = true)) (b := (!r7)) rfl (i_not Iff.rfl) (fun h10 => ?_) (fun h10 => ?_)
  · replace hm := hm.1 h10
    refine w_seq fun K11 hK11 => ?_
    refine w_region ?_
    refine wl_val (g_assign (v := .slice none 0 0) rfl) rfl ?_
    refine wl_nil ?_
    refine hK11 _ _ ?_
    refine w_ret ?_
    have hS12 := hS9.nilS (α := Int) (E := 3)
    repeat first | with_reducible refine q_then ?_ | with_reducible refine q_block ?_
    exact ret1 rfl (by decide) ⟨_, _, _, _, hm, rfl, toExt hB8, hS12⟩
  · replace hm := hm.2 h10
    refine w_skip ?_
    refine hK2 _ _ ?_
    refine w_seq fun K14 hK14 => ?_
    refine w_region ?_
    refine wl_val (g_move (v := .int .i64 p0) rfl) rfl ?_
    refine wl_val (g_move (v := .slice a1 n1 c1) rfl) rfl ?_
    refine wl_step rfl (g_call (vs := #[.int .i64 p0, .slice a1 n1 c1, .func (.func 80) #[] #[]]) CF74 (args3 rfl rfl rfl) (m_impl_follow_OrderAfter_1_fn p0 ((hp1.bel hB8).up hS9) hm)) ?_
    rintro _ w15 ⟨r18, a19, n20, c21, hm, rfl, hE16, hN17⟩
    have hS23 := hS9.call1 hE16 hN17
    have hB24 := hB8.trans (Ext.stp hE16 hS9.base)
    refine wl_val (g_assign (v := .slice a19 n20 c21) rfl) rfl ?_
    refine wl_nil ?_
    refine hK14 _ _ ?_
    refine w_ret ?_
    repeat first | with_reducible refine q_then ?_ | with_reducible refine q_block ?_
    exact ret1 rfl (by decide) ⟨_, _, _, _, hm, rfl, toExt hB24, hS23⟩

end Go.Proofs.Ytcgkcoogaieolaa
