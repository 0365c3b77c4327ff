/- The walks: the code does what its model says. Printed by a program (gen2.py). No statement of the claim stands here. -/
import Derived.Test.YthmlfpfebdnpcaaSop
import Derived.Test.YthmlfpfebdnpcaaFacts
import Derived.Test.YthmlfpfebdnpcaaME
import Derived.Test.YthmlfpfebdnpcaaWE1
namespace Go.Proofs.Ythmlfpfebdnpcaa
open Go Go.RowKit
set_option maxRecDepth 100000
theorem m_spec_HandsFree_fn {w : World} {a0 : Option Addr} {n0 c0 : Nat} {y0 : List PlayerD} {p0 : List PlayerC} {Q : Int → Prop} (hp0 : Tv w.heap.size w a0 n0 c0 y0 p0) (hm : m_spec_HandsFree p0 Q) :
    Fn Try.prog 26 #[.slice a0 n0 c0] w (fun v w' => ∃ (r0 : Int), Q r0 ∧ v = .int .i64 r0 ∧ Ext w w') := by
  unfold m_spec_HandsFree at hm
  have hB0 := Below.refl w.heap.size w
  have hS0 : Sep w w.heap.size [] := Sep.nil (Nat.le_refl _)
  refine fn_of_wp Try.func26 rfl (by kernel_rfl) (Nat.le_of_ble_eq_true rfl) ?_
  refine w_seq fun K1 hK1 => ?_
  refine w_region ?_
  refine wl_val (g_assign (v := .int .i64 0) rfl) rfl ?_
  refine wl_nil ?_
  refine hK1 _ _ ?_
  refine w_seq fun K2 hK2 => ?_
  refine w_seq fun K3 hK3 => ?_
  refine w_region ?_
  refine wl_val (g_move (v := .slice a0 n0 c0) rfl) rfl ?_
  refine wl_step rfl (g_call (vs := #[.slice a0 n0 c0]) CF22 (args1 rfl) (m_spec_PlayersOk_fn ((hp0.bel hB0).up hS0) hm)) ?_
  rintro _ w4 ⟨r7, hm, rfl, hE5⟩
  have hB8 := hB0.trans (Ext.stp hE5 hS0.base)
  have hS9 := hS0.ext hE5
  refine wl_val (g_not (a := r7) rfl) rfl ?_
  refine wl_nil ?_
  refine hK3 _ _ ?_
  refine w_condI (p := ¬ (r7 = true)) (b := (!r7)) rfl (i_not Iff.rfl) (fun h10 => ?_) (fun h10 => ?_)
  · replace hm := hm.1 h10
    refine w_seq fun K11 hK11 => ?_
    refine w_region ?_
    refine wl_val (g_assign (v := .int .i64 (-1)) rfl) rfl ?_
    refine wl_nil ?_
    refine hK11 _ _ ?_
    refine w_ret ?_
    repeat first | with_reducible refine q_then ?_ | with_reducible refine q_block ?_
    exact ret1 rfl (by decide) ⟨_, hm, rfl, toExt hB8⟩
  · replace hm := hm.2 h10
    refine w_skip ?_
    refine hK2 _ _ ?_
    refine w_seq fun K12 hK12 => ?_
    refine w_region ?_
    refine wl_val (g_assign (v := .int .i64 0) rfl) rfl ?_
    refine wl_nil ?_
    refine hK12 _ _ ?_
    refine w_cut (σ := Int) (fun v47 => [(3, .int .i64 v47)]) (fun v47 w' => m_spec_HandsFree_K0 Q v47 ∧ Below w.heap.size w w' ∧ Sep w' w.heap.size []) ?_ ?_
    · refine w_seq fun K49 hK49 => ?_
      refine w_region ?_
      refine wl_val (g_assign (v := .int .i64 0) rfl) rfl ?_
      refine wl_nil ?_
      refine hK49 _ _ ?_
      refine w_block ?_
      obtain ⟨I52, μ53, h054, hr55⟩ := hm
      refine w_for (σ := Int × Int) (fun ⟨v50, v51⟩ => [(0, .slice a0 n0 c0), (3, .int .i64 v50), (4, .int .i64 v51)]) (fun ⟨v50, v51⟩ w' => I52 v50 v51 ∧ Below w.heap.size w w' ∧ Sep w' w.heap.size []) (fun ⟨v50, v51⟩ => μ53 v50 v51) (0, 0) ⟨rfl, rfl, rfl, trivial⟩ ⟨h054, hB8, hS9⟩ ?_
      rintro ⟨v50, v51⟩ b_ w56 ⟨hi_, hB57, hS58⟩
      show Wp _ _ _ _ (upds b_ [(0, .slice a0 n0 c0), (3, .int .i64 v50), (4, .int .i64 v51)]) w56
      have hm := hr55 v50 v51 hi_
      refine w_seq fun K60 hK60 => ?_
      refine w_seq fun K61 hK61 => ?_
      refine w_region ?_
      refine wl_val (g_move (v := .int .i64 v51) rfl) rfl ?_
      refine wl_val (g_move (v := .slice a0 n0 c0) rfl) rfl ?_
      refine wl_val (q_len SL30 rfl (Tv.len (hp0.bel hB57))) rfl ?_
      refine wl_val (g_lss (a := v51) (b := (p0.length : Int)) rfl rfl) rfl ?_
      refine wl_nil ?_
      refine hK61 _ _ ?_
      refine w_condI (p := v51 < (p0.length : Int)) (b := (decide (v51 < (p0.length : Int)))) rfl decide_eq_true_iff (fun h62 => ?_) (fun h62 => ?_)
      · replace hm := hm.1 h62
        refine w_skip ?_
        refine hK60 _ _ ?_
        refine w_seq fun K63 hK63 => ?_
        refine w_block ?_
        refine w_region ?_
        refine wl_val (g_move (v := .int .i64 v50) rfl) rfl ?_
        refine wl_val (g_move (v := .slice a0 n0 c0) rfl) rfl ?_
        refine wl_val (g_move (v := .int .i64 v51) rfl) rfl ?_
        obtain ⟨hg64, hm⟩ := hm
        refine wl_val (q_index (i := v51) SL30 rfl rfl (Tv.o (hp0.bel hB57)) (Tv.g (hp0.bel hB57) hg64)) rfl ?_
        refine wl_val (g_fieldAddr (q := (adr a0).add ((Int.toNat v51) * El.m PlayerD)) FL61_1 ON3 rfl) rfl ?_
        refine wl_val (q_loadF (i := v51) (j := 1) (v := .int .i64 (p0[(Int.toNat v51)]!.2)) ON3 (Tv.o (hp0.bel hB57)) (Tv.g (hp0.bel hB57) hg64) (by rw [← Tv.free (hp0.bel hB57) hg64]; rfl) rfl) rfl ?_
        obtain ⟨hg65, hm⟩ := hm
        refine wl_val (g_add (a := v50) (b := p0[(Int.toNat v51)]!.2) rfl rfl hg65) rfl ?_
        refine wl_val (g_assign (v := .int .i64 (v50 + p0[(Int.toNat v51)]!.2)) rfl) rfl ?_
        refine wl_nil ?_
        refine hK63 _ _ ?_
        refine w_region ?_
        refine wl_val (g_move (v := .int .i64 v51) rfl) rfl ?_
        obtain ⟨hg66, hm⟩ := hm
        refine wl_val (g_add (a := v51) (b := 1) rfl rfl hg66) rfl ?_
        refine wl_val (g_assign (v := .int .i64 (v51 + 1)) rfl) rfl ?_
        refine wl_nil ?_
        exact ⟨((v50 + p0[(Int.toNat v51)]!.2), (v51 + 1)), hm.2, ⟨rfl, rfl, rfl, trivial⟩, ⟨hm.1, hB57, hS58⟩⟩
      · replace hm := hm.2 h62
        refine w_exit ?_
        exact ⟨(v50), ⟨rfl, trivial⟩, ⟨hm, hB57, hS58⟩⟩
    · rintro v47 b_ w67 ⟨hm, hB68, hS69⟩
      show Wp _ _ _ _ (upds b_ [(3, .int .i64 v47)]) w67
      refine w_seq fun K70 hK70 => ?_
      refine w_region ?_
      refine wl_val (g_move (v := .int .i64 v47) rfl) rfl ?_
      refine wl_val (g_assign (v := .int .i64 v47) rfl) rfl ?_
      refine wl_nil ?_
      refine hK70 _ _ ?_
      refine w_ret ?_
      repeat first | with_reducible refine q_then ?_ | with_reducible refine q_block ?_
      exact ret1 rfl (by decide) ⟨_, hm, rfl, toExt hB68⟩

theorem m_impl_HandsFree_fn {w : World} {a0 : Option Addr} {n0 c0 : Nat} {y0 : List PlayerD} {p0 : List PlayerC} {Q : Int → Prop} (hp0 : Tv w.heap.size w a0 n0 c0 y0 p0) (hm : m_impl_HandsFree p0 Q) :
    Fn Try.prog 27 #[.slice a0 n0 c0] w (fun v w' => ∃ (r0 : Int), Q r0 ∧ v = .int .i64 r0 ∧ Ext w w') := by
  unfold m_impl_HandsFree at hm
  have hB0 := Below.refl w.heap.size w
  have hS0 : Sep w w.heap.size [] := Sep.nil (Nat.le_refl _)
  refine fn_of_wp Try.func27 rfl (by kernel_rfl) (Nat.le_of_ble_eq_true rfl) ?_
  refine w_seq fun K1 hK1 => ?_
  refine w_region ?_
  refine wl_val (g_assign (v := .int .i64 0) rfl) rfl ?_
  refine wl_nil ?_
  refine hK1 _ _ ?_
  refine w_seq fun K2 hK2 => ?_
  refine w_seq fun K3 hK3 => ?_
  refine w_region ?_
  refine wl_val (g_move (v := .slice a0 n0 c0) rfl) rfl ?_
  refine wl_step rfl (g_call (vs := #[.slice a0 n0 c0]) CF24 (args1 rfl) (m_impl_PlayersOk_fn ((hp0.bel hB0).up hS0) hm)) ?_
  rintro _ w4 ⟨r7, hm, rfl, hE5⟩
  have hB8 := hB0.trans (Ext.stp hE5 hS0.base)
  have hS9 := hS0.ext hE5
  refine wl_val (g_not (a := r7) rfl) rfl ?_
  refine wl_nil ?_
  refine hK3 _ _ ?_
  refine w_condI (p := ¬ (r7 = true)) (b := (!r7)) rfl (i_not Iff.rfl) (fun h10 => ?_) (fun h10 => ?_)
  · replace hm := hm.1 h10
    refine w_seq fun K11 hK11 => ?_
    refine w_region ?_
    refine wl_val (g_assign (v := .int .i64 (-1)) rfl) rfl ?_
    refine wl_nil ?_
    refine hK11 _ _ ?_
    refine w_ret ?_
    repeat first | with_reducible refine q_then ?_ | with_reducible refine q_block ?_
    exact ret1 rfl (by decide) ⟨_, hm, rfl, toExt hB8⟩
  · replace hm := hm.2 h10
    refine w_skip ?_
    refine hK2 _ _ ?_
    refine w_seq fun K12 hK12 => ?_
    refine w_region ?_
    refine wl_val (g_assign (v := .int .i64 0) rfl) rfl ?_
    refine wl_nil ?_
    refine hK12 _ _ ?_
    refine w_cut (σ := Int) (fun v70 => [(3, .int .i64 v70)]) (fun v70 w' => m_impl_HandsFree_K0 Q v70 ∧ Below w.heap.size w w' ∧ Sep w' w.heap.size []) ?_ ?_
    · refine w_seq fun K72 hK72 => ?_
      refine w_region ?_
      refine wl_val (g_move (v := .slice a0 n0 c0) rfl) rfl ?_
      refine wl_val (q_len SL30 rfl (Tv.len (hp0.bel hB8))) rfl ?_
      refine wl_val (g_move (v := .int .i64 0) rfl) rfl ?_
      refine wl_nil ?_
      refine hK72 _ _ ?_
      refine w_block ?_
      obtain ⟨I75, μ76, h077, hr78⟩ := hm
      refine w_for (σ := Int × Int) (fun ⟨v73, v74⟩ => [(3, .int .i64 v73), (9, .slice a0 n0 c0), (10, .int .i64 (p0.length : Int)), (11, .int .i64 v74)]) (fun ⟨v73, v74⟩ w' => I75 v73 v74 ∧ Below w.heap.size w w' ∧ Sep w' w.heap.size []) (fun ⟨v73, v74⟩ => μ76 v73 v74) (0, 0) ⟨rfl, rfl, rfl, rfl, trivial⟩ ⟨h077, hB8, hS9⟩ ?_
      rintro ⟨v73, v74⟩ b_ w79 ⟨hi_, hB80, hS81⟩
      show Wp _ _ _ _ (upds b_ [(3, .int .i64 v73), (9, .slice a0 n0 c0), (10, .int .i64 (p0.length : Int)), (11, .int .i64 v74)]) w79
      have hm := hr78 v73 v74 hi_
      refine w_seq fun K83 hK83 => ?_
      refine w_region ?_
      refine wl_val (g_lss (a := v74) (b := (p0.length : Int)) rfl rfl) rfl ?_
      refine wl_nil ?_
      refine hK83 _ _ ?_
      refine w_seq fun K84 hK84 => ?_
      refine w_condI (p := v74 < (p0.length : Int)) (b := (decide (v74 < (p0.length : Int)))) rfl decide_eq_true_iff (fun h85 => ?_) (fun h85 => ?_)
      · replace hm := hm.1 h85
        refine w_skip ?_
        refine hK84 _ _ ?_
        refine w_seq fun K86 hK86 => ?_
        refine w_block ?_
        refine w_seq fun K87 hK87 => ?_
        refine w_region ?_
        obtain ⟨hg88, hm⟩ := hm
        refine wl_val (q_index (i := v74) SL30 rfl rfl (Tv.o (hp0.bel hB80)) (Tv.g (hp0.bel hB80) hg88)) rfl ?_
        refine wl_val (q_loadS (i := v74) (cs := [.slice ((y0[(Int.toNat v74)]!).1.1) ((y0[(Int.toNat v74)]!).1.2.2.length) ((y0[(Int.toNat v74)]!).1.2.1), .int .i64 (p0[(Int.toNat v74)]!.2)]) AG61 (Tv.o (hp0.bel hB80)) (Tv.g (hp0.bel hB80) hg88) (by rw [← Tv.free (hp0.bel hB80) hg88]; rfl) rfl) rfl ?_
        refine wl_step rfl (q_alloc (cs := #[.slice none 0 0, .int .i64 0]) ZR61 rfl hS81) ?_
        rintro _ w89 ⟨g90, rfl, hS92, hE91⟩
        have hB94 := hB80.trans (Ext.stp hE91 hS81.base)
        refine wl_step rfl (q_storeB (i := 0) (bs' := #[.slice ((y0[(Int.toNat v74)]!).1.1) ((y0[(Int.toNat v74)]!).1.2.2.length) ((y0[(Int.toNat v74)]!).1.2.1), .int .i64 (p0[(Int.toNat v74)]!.2)]) (vs := [.slice ((y0[(Int.toNat v74)]!).1.1) ((y0[(Int.toNat v74)]!).1.2.2.length) ((y0[(Int.toNat v74)]!).1.2.1), .int .i64 (p0[(Int.toNat v74)]!.2)]) hS92 AG61.sz rfl rfl rfl (by simp [Value.oneCell']) (Nat.le_of_ble_eq_true rfl) rfl) ?_
        rintro _ w95 ⟨rfl, hS96, hb97⟩
        have hB98 := hB94.trans hb97
        refine wl_nil ?_
        refine hK87 _ _ ?_
        refine w_region ?_
        refine wl_val (g_move (v := .int .i64 v73) rfl) rfl ?_
        refine wl_val (g_fieldAddr (q := (⟨g90, 0, none⟩ : Addr)) FL61_1 ON3 rfl) rfl ?_
        refine wl_val (q_loadB (i := 1) (bs := #[.slice ((y0[(Int.toNat v74)]!).1.1) ((y0[(Int.toNat v74)]!).1.2.2.length) ((y0[(Int.toNat v74)]!).1.2.1), .int .i64 (p0[(Int.toNat v74)]!.2)]) hS96.g0 ON3 rfl rfl) rfl ?_
        obtain ⟨hg99, hm⟩ := hm
        refine wl_val (g_add (a := v73) (b := p0[(Int.toNat v74)]!.2) rfl rfl hg99) rfl ?_
        refine wl_val (g_assign (v := .int .i64 (v73 + p0[(Int.toNat v74)]!.2)) rfl) rfl ?_
        refine wl_nil ?_
        refine hK86 _ _ ?_
        refine w_region ?_
        obtain ⟨hg100, hm⟩ := hm
        refine wl_val (g_add (a := v74) (b := 1) rfl rfl hg100) rfl ?_
        refine wl_val (g_move (v := .int .i64 (v74 + 1)) rfl) rfl ?_
        refine wl_nil ?_
        have hS101 := hS96.tail
        exact ⟨((v73 + p0[(Int.toNat v74)]!.2), (v74 + 1)), hm.2, ⟨rfl, rfl, rfl, rfl, trivial⟩, ⟨hm.1, hB98, hS101⟩⟩
      · replace hm := hm.2 h85
        refine w_exit ?_
        exact ⟨(v73), ⟨rfl, trivial⟩, ⟨hm, hB80, hS81⟩⟩
    · rintro v70 b_ w102 ⟨hm, hB103, hS104⟩
      show Wp _ _ _ _ (upds b_ [(3, .int .i64 v70)]) w102
      refine w_seq fun K105 hK105 => ?_
      refine w_region ?_
      refine wl_val (g_move (v := .int .i64 v70) rfl) rfl ?_
      refine wl_val (g_assign (v := .int .i64 v70) rfl) rfl ?_
      refine wl_nil ?_
      refine hK105 _ _ ?_
      refine w_ret ?_
      repeat first | with_reducible refine q_then ?_ | with_reducible refine q_block ?_
      exact ret1 rfl (by decide) ⟨_, hm, rfl, toExt hB103⟩

theorem m_spec_l14Ok_fn {w : World} {a0 : Option Addr} {n0 c0 : Nat} {y0 : List PlayerD} {p0 : List PlayerC} {a1 : Option Addr} {n1 c1 : Nat} {p1 : List Int} {Q : Bool → Prop} (hp0 : Tv w.heap.size w a0 n0 c0 y0 p0) (hp1 : Vw w.heap.size w a1 n1 c1 p1) (hm : m_spec_l14Ok p0 p1 Q) :
    Fn Try.prog 64 #[.slice a0 n0 c0, .slice a1 n1 c1] w (fun v w' => ∃ (r0 : Bool), Q r0 ∧ v = .bool r0 ∧ Ext w w') := by
  unfold m_spec_l14Ok at hm
  have hB0 := Below.refl w.heap.size w
  have hS0 : Sep w w.heap.size [] := Sep.nil (Nat.le_refl _)
  refine fn_of_wp Try.func64 rfl (by kernel_rfl) (Nat.le_of_ble_eq_true rfl) ?_
  refine w_seq fun K1 hK1 => ?_
  refine w_region ?_
  refine wl_val (g_assign (v := .bool false) rfl) rfl ?_
  refine wl_nil ?_
  refine hK1 _ _ ?_
  refine w_seq fun K2 hK2 => ?_
  refine w_region ?_
  refine wl_val (g_move (v := .slice a0 n0 c0) rfl) rfl ?_
  refine wl_step rfl (g_call (vs := #[.slice a0 n0 c0]) CF22 (args1 rfl) (m_spec_PlayersOk_fn ((hp0.bel hB0).up hS0) hm)) ?_
  rintro _ w3 ⟨r6, hm, rfl, hE4⟩
  have hB7 := hB0.trans (Ext.stp hE4 hS0.base)
  have hS8 := hS0.ext hE4
  refine wl_val (g_move (v := .bool r6) rfl) rfl ?_
  refine wl_guard (c := r6 = true) (val := .slice a1 n1 c1) (b := (r6 == true)) (gv_some rfl rfl rfl) beq_iff_eq (fun hc9 => ?_) ?_
  · have hq0 : r6 = true := (Iff.rfl.mp hc9)
    exact g_move (v := .slice a1 n1 c1) rfl
  obtain ⟨r11, hk12, hm⟩ := hm
  refine wl_guardE (X := Ext) (c := r6 = true) (val := .bool r11) (Ext.refl _) (b := (r6 == true)) (gv_some rfl rfl rfl) beq_iff_eq (fun hc10 => ?_) (fun w13 hE14 => ?_)
  · have hq0 : r6 = true := (Iff.rfl.mp hc10)
    exact (g_call (vs := #[.slice a1 n1 c1, .int .i64 6]) CF58 (args2 (if_pos hc10) rfl) ((m_spec_l11Rising_fn ((hp1.bel hB7).up hS8) 6 (hk12 hq0)).mono fun _ _ ⟨_, h1, h2, h3⟩ => ⟨by rw [h2, h1], h3⟩))
  have hB15 := hB7.trans (Ext.stp hE14 hS8.base)
  have hS16 := hS8.ext hE14
  refine wl_val (g_pick_and (b := r6) (q := r11) rfl rfl) rfl ?_
  refine wl_val (g_assign (v := .bool (r6 && r11)) rfl) rfl ?_
  refine wl_nil ?_
  refine hK2 _ _ ?_
  refine w_ret ?_
  repeat first | with_reducible refine q_then ?_ | with_reducible refine q_block ?_
  exact ret1 rfl (by decide) ⟨_, hm, rfl, toExt hB15⟩

theorem m_spec_l13Knows_fn {w : World} {a0_0 : Option Addr} {n0_0 c0_0 : Nat} {Q : Bool → Prop} (p0 : PlayerC) (hp0_0 : Vw w.heap.size w a0_0 n0_0 c0_0 p0.1) (p1 : Int) (hm : m_spec_l13Knows p0 p1 Q) :
    Fn Try.prog 65 #[.agg #[.slice a0_0 n0_0 c0_0, .int .i64 p0.2], .int .i64 p1] w (fun v w' => ∃ (r0 : Bool), Q r0 ∧ v = .bool r0 ∧ Ext w w') := by
  unfold m_spec_l13Knows at hm
  have hB0 := Below.refl w.heap.size w
  have hS0 : Sep w w.heap.size [] := Sep.nil (Nat.le_refl _)
  refine fn_of_wp Try.func65 rfl (by kernel_rfl) (Nat.le_of_ble_eq_true rfl) ?_
  refine w_seq fun K1 hK1 => ?_
  refine w_region ?_
  refine wl_step rfl (q_box (cs := #[.slice a0_0 n0_0 c0_0, .int .i64 p0.2]) rfl rfl hS0) ?_
  rintro _ w2 ⟨g3, rfl, hS5, hE4⟩
  have hB7 := hB0.trans (Ext.stp hE4 hS0.base)
  refine wl_val (g_assign (v := .bool false) rfl) rfl ?_
  refine wl_nil ?_
  refine hK1 _ _ ?_
  refine w_cut (σ := Unit) (fun _ => []) (fun _ w' => m_spec_l13Knows_K0 Q ∧ Below w.heap.size w w' ∧ Sep w' w.heap.size []) ?_ ?_
  · refine w_seq fun K9 hK9 => ?_
    refine w_region ?_
    refine wl_val (g_assign (v := .int .i64 0) rfl) rfl ?_
    refine wl_nil ?_
    refine hK9 _ _ ?_
    refine w_block ?_
    obtain ⟨I28, μ29, h030, hr31⟩ := hm
    refine w_for (σ := Int) (fun v27 => [(1, .int .i64 p1), (2, .pointer (some (⟨g3, 0, none⟩ : Addr))), (5, .int .i64 v27)]) (fun v27 w' => I28 v27 ∧ Below w.heap.size w w' ∧ Sep w' w.heap.size [oB g3 61 #[.slice a0_0 n0_0 c0_0, .int .i64 p0.2]]) (fun v27 => μ29 v27) (0) ⟨rfl, rfl, rfl, trivial⟩ ⟨h030, hB7, hS5⟩ ?_
    rintro v27 b_ w32 ⟨hi_, hB33, hS34⟩
    show Wp _ _ _ _ (upds b_ [(1, .int .i64 p1), (2, .pointer (some (⟨g3, 0, none⟩ : Addr))), (5, .int .i64 v27)]) w32
    have hm := hr31 v27 hi_
    refine w_seq fun K36 hK36 => ?_
    refine w_seq fun K37 hK37 => ?_
    refine w_region ?_
    refine wl_val (g_move (v := .int .i64 v27) rfl) rfl ?_
    refine wl_val (g_fieldAddr (q := (⟨g3, 0, none⟩ : Addr)) FL61_0 ON35 rfl) rfl ?_
    refine wl_val (q_loadB (i := 0) (bs := #[.slice a0_0 n0_0 c0_0, .int .i64 p0.2]) hS34.g0 ON35 rfl rfl) rfl ?_
    refine wl_val (q_len SL35 rfl (Vw.len (hp0_0.bel hB33))) rfl ?_
    refine wl_val (g_lss (a := v27) (b := (p0.1.length : Int)) rfl rfl) rfl ?_
    refine wl_nil ?_
    refine hK37 _ _ ?_
    refine w_condI (p := v27 < (p0.1.length : Int)) (b := (decide (v27 < (p0.1.length : Int)))) rfl decide_eq_true_iff (fun h38 => ?_) (fun h38 => ?_)
    · replace hm := hm.1 h38
      refine w_skip ?_
      refine hK36 _ _ ?_
      refine w_seq fun K39 hK39 => ?_
      refine w_block ?_
      refine w_seq fun K40 hK40 => ?_
      refine w_region ?_
      refine wl_val (g_fieldAddr (q := (⟨g3, 0, none⟩ : Addr)) FL61_0 ON35 rfl) rfl ?_
      refine wl_val (q_loadB (i := 0) (bs := #[.slice a0_0 n0_0 c0_0, .int .i64 p0.2]) hS34.g0 ON35 rfl rfl) rfl ?_
      refine wl_val (g_move (v := .int .i64 v27) rfl) rfl ?_
      obtain ⟨hg41, hm⟩ := hm
      refine wl_val (q_index (i := v27) SL35 rfl rfl (hp0_0.bel hB33) hg41) rfl ?_
      refine wl_val (q_load (i := v27) (v := .int .i64 (p0.1[(Int.toNat v27)]!)) ON3 (hp0_0.bel hB33) hg41 rfl rfl) rfl ?_
      refine wl_val (g_move (v := .int .i64 p1) rfl) rfl ?_
      refine wl_val (g_eql (a := p0.1[(Int.toNat v27)]!) (b := p1) rfl rfl) rfl ?_
      refine wl_nil ?_
      refine hK40 _ _ ?_
      refine w_condI (p := p0.1[(Int.toNat v27)]! = p1) (b := (decide (p0.1[(Int.toNat v27)]! = p1))) rfl decide_eq_true_iff (fun h42 => ?_) (fun h42 => ?_)
      · replace hm := hm.1 h42
        refine w_seq fun K43 hK43 => ?_
        refine w_region ?_
        refine wl_val (g_assign (v := .bool true) rfl) rfl ?_
        refine wl_nil ?_
        refine hK43 _ _ ?_
        refine w_ret ?_
        repeat first | with_reducible refine q_then ?_ | with_reducible refine q_block ?_
        exact ret1 rfl (by decide) ⟨_, hm, rfl, toExt hB33⟩
      · replace hm := hm.2 h42
        refine w_skip ?_
        refine hK39 _ _ ?_
        refine w_region ?_
        refine wl_val (g_move (v := .int .i64 v27) rfl) rfl ?_
        obtain ⟨hg44, hm⟩ := hm
        refine wl_val (g_add (a := v27) (b := 1) rfl rfl hg44) rfl ?_
        refine wl_val (g_assign (v := .int .i64 (v27 + 1)) rfl) rfl ?_
        refine wl_nil ?_
        exact ⟨((v27 + 1)), hm.2, ⟨rfl, rfl, rfl, trivial⟩, ⟨hm.1, hB33, hS34⟩⟩
    · replace hm := hm.2 h38
      refine w_exit ?_
      have hS45 := hS34.tail
      exact ⟨(), trivial, ⟨hm, hB33, hS45⟩⟩
  · rintro _ b_ w46 ⟨hm, hB47, hS48⟩
    show Wp _ _ _ _ (upds b_ []) w46
    refine w_seq fun K49 hK49 => ?_
    refine w_region ?_
    refine wl_val (g_assign (v := .bool false) rfl) rfl ?_
    refine wl_nil ?_
    refine hK49 _ _ ?_
    refine w_ret ?_
    repeat first | with_reducible refine q_then ?_ | with_reducible refine q_block ?_
    exact ret1 rfl (by decide) ⟨_, hm, rfl, toExt hB47⟩

theorem m_spec_HandsFor_fn {w : World} {a0 : Option Addr} {n0 c0 : Nat} {y0 : List PlayerD} {p0 : List PlayerC} {a1 : Option Addr} {n1 c1 : Nat} {p1 : List Int} {Q : Int → Prop} (hp0 : Tv w.heap.size w a0 n0 c0 y0 p0) (hp1 : Vw w.heap.size w a1 n1 c1 p1) (hm : m_spec_HandsFor p0 p1 Q) :
    Fn Try.prog 28 #[.slice a0 n0 c0, .slice a1 n1 c1] w (fun v w' => ∃ (r0 : Int), Q r0 ∧ v = .int .i64 r0 ∧ Ext w w') := by
  unfold m_spec_HandsFor at hm
  have hB0 := Below.refl w.heap.size w
  have hS0 : Sep w w.heap.size [] := Sep.nil (Nat.le_refl _)
  refine fn_of_wp Try.func28 rfl (by kernel_rfl) (Nat.le_of_ble_eq_true rfl) ?_
  refine w_seq fun K1 hK1 => ?_
  refine w_region ?_
  refine wl_val (g_assign (v := .int .i64 0) rfl) rfl ?_
  refine wl_nil ?_
  refine hK1 _ _ ?_
  refine w_seq fun K2 hK2 => ?_
  refine w_seq fun K3 hK3 => ?_
  refine w_region ?_
  refine wl_val (g_move (v := .slice a0 n0 c0) rfl) rfl ?_
  refine wl_val (g_move (v := .slice a1 n1 c1) rfl) rfl ?_
  refine wl_step rfl (g_call (vs := #[.slice a0 n0 c0, .slice a1 n1 c1]) CF64 (args2 rfl rfl) (m_spec_l14Ok_fn ((hp0.bel hB0).up hS0) ((hp1.bel hB0).up hS0) hm)) ?_
  rintro _ w4 ⟨r7, hm, rfl, hE5⟩
  have hB8 := hB0.trans (Ext.stp hE5 hS0.base)
  have hS9 := hS0.ext hE5
  refine wl_val (g_not (a := r7) rfl) rfl ?_
  refine wl_nil ?_
  refine hK3 _ _ ?_
  refine w_condI (p := ¬ (r7 = true)) (b := (!r7)) rfl (i_not Iff.rfl) (fun h10 => ?_) (fun h10 => ?_)
  · replace hm := hm.1 h10
    refine w_seq fun K11 hK11 => ?_
    refine w_region ?_
    refine wl_val (g_assign (v := .int .i64 (-1)) rfl) rfl ?_
    refine wl_nil ?_
    refine hK11 _ _ ?_
    refine w_ret ?_
    repeat first | with_reducible refine q_then ?_ | with_reducible refine q_block ?_
    exact ret1 rfl (by decide) ⟨_, hm, rfl, toExt hB8⟩
  · replace hm := hm.2 h10
    refine w_skip ?_
    refine hK2 _ _ ?_
    refine w_seq fun K12 hK12 => ?_
    refine w_region ?_
    refine wl_val (g_assign (v := .int .i64 0) rfl) rfl ?_
    refine wl_nil ?_
    refine hK12 _ _ ?_
    refine w_cut (σ := Int) (fun v525 => [(5, .int .i64 v525)]) (fun v525 w' => m_spec_HandsFor_K2 Q v525 ∧ Below w.heap.size w w' ∧ Sep w' w.heap.size []) ?_ ?_
    · refine w_seq fun K527 hK527 => ?_
      refine w_region ?_
      refine wl_val (g_assign (v := .int .i64 0) rfl) rfl ?_
      refine wl_nil ?_
      refine hK527 _ _ ?_
      refine w_block ?_
      obtain ⟨I530, μ531, h0532, hr533⟩ := hm
      refine w_for (σ := Int × Int) (fun ⟨v528, v529⟩ => [(0, .slice a0 n0 c0), (1, .slice a1 n1 c1), (5, .int .i64 v528), (6, .int .i64 v529)]) (fun ⟨v528, v529⟩ w' => I530 v528 v529 ∧ Below w.heap.size w w' ∧ Sep w' w.heap.size []) (fun ⟨v528, v529⟩ => μ531 v528 v529) (0, 0) ⟨rfl, rfl, rfl, rfl, trivial⟩ ⟨h0532, hB8, hS9⟩ ?_
      rintro ⟨v528, v529⟩ b_ w534 ⟨hi_, hB535, hS536⟩
      show Wp _ _ _ _ (upds b_ [(0, .slice a0 n0 c0), (1, .slice a1 n1 c1), (5, .int .i64 v528), (6, .int .i64 v529)]) w534
      have hm := hr533 v528 v529 hi_
      refine w_seq fun K538 hK538 => ?_
      refine w_seq fun K539 hK539 => ?_
      refine w_region ?_
      refine wl_val (g_move (v := .int .i64 v529) rfl) rfl ?_
      refine wl_val (g_move (v := .slice a0 n0 c0) rfl) rfl ?_
      refine wl_val (q_len SL30 rfl (Tv.len (hp0.bel hB535))) rfl ?_
      refine wl_val (g_lss (a := v529) (b := (p0.length : Int)) rfl rfl) rfl ?_
      refine wl_nil ?_
      refine hK539 _ _ ?_
      refine w_condI (p := v529 < (p0.length : Int)) (b := (decide (v529 < (p0.length : Int)))) rfl decide_eq_true_iff (fun h540 => ?_) (fun h540 => ?_)
      · replace hm := hm.1 h540
        refine w_skip ?_
        refine hK538 _ _ ?_
        refine w_cut (σ := Int) (fun v541 => [(0, .slice a0 n0 c0), (1, .slice a1 n1 c1), (5, .int .i64 v541), (6, .int .i64 v529)]) (fun v541 w' => m_spec_HandsFor_K1 v529 (fun v528' v529' => I530 v528' v529' ∧ μ531 v528' v529' < μ531 v528 v529) v541 ∧ Below w.heap.size w w' ∧ Sep w' w.heap.size []) ?_ ?_
        · refine w_block ?_
          refine w_seq fun K543 hK543 => ?_
          refine w_region ?_
          refine wl_val (g_assign (v := .bool false) rfl) rfl ?_
          refine wl_nil ?_
          refine hK543 _ _ ?_
          refine w_cut (σ := Bool) (fun v544 => [(0, .slice a0 n0 c0), (1, .slice a1 n1 c1), (5, .int .i64 v528), (6, .int .i64 v529), (7, .bool v544)]) (fun v544 w' => m_spec_HandsFor_K0 p0 v528 v529 (m_spec_HandsFor_K1 v529 (fun v528' v529' => I530 v528' v529' ∧ μ531 v528' v529' < μ531 v528 v529)) v544 ∧ Below w.heap.size w w' ∧ Sep w' w.heap.size []) ?_ ?_
          · refine w_seq fun K546 hK546 => ?_
            refine w_region ?_
            refine wl_val (g_assign (v := .int .i64 0) rfl) rfl ?_
            refine wl_nil ?_
            refine hK546 _ _ ?_
            refine w_block ?_
            obtain ⟨I549, μ550, h0551, hr552⟩ := hm
            refine w_for (σ := Bool × Int) (fun ⟨v547, v548⟩ => [(0, .slice a0 n0 c0), (1, .slice a1 n1 c1), (5, .int .i64 v528), (6, .int .i64 v529), (7, .bool v547), (8, .int .i64 v548)]) (fun ⟨v547, v548⟩ w' => I549 v547 v548 ∧ Below w.heap.size w w' ∧ Sep w' w.heap.size []) (fun ⟨v547, v548⟩ => μ550 v547 v548) (false, 0) ⟨rfl, rfl, rfl, rfl, rfl, rfl, trivial⟩ ⟨h0551, hB535, hS536⟩ ?_
            rintro ⟨v547, v548⟩ b_ w553 ⟨hi_, hB554, hS555⟩
            show Wp _ _ _ _ (upds b_ [(0, .slice a0 n0 c0), (1, .slice a1 n1 c1), (5, .int .i64 v528), (6, .int .i64 v529), (7, .bool v547), (8, .int .i64 v548)]) w553
            have hm := hr552 v547 v548 hi_
            refine w_seq fun K557 hK557 => ?_
            refine w_seq fun K558 hK558 => ?_
            refine w_region ?_
            refine wl_val (g_move (v := .int .i64 v548) rfl) rfl ?_
            refine wl_val (g_move (v := .slice a1 n1 c1) rfl) rfl ?_
            refine wl_val (q_len SL35 rfl (Vw.len (hp1.bel hB554))) rfl ?_
            refine wl_val (g_lss (a := v548) (b := (p1.length : Int)) rfl rfl) rfl ?_
            refine wl_nil ?_
            refine hK558 _ _ ?_
            refine w_condI (p := v548 < (p1.length : Int)) (b := (decide (v548 < (p1.length : Int)))) rfl decide_eq_true_iff (fun h559 => ?_) (fun h559 => ?_)
            · replace hm := hm.1 h559
              refine w_skip ?_
              refine hK557 _ _ ?_
              refine w_seq fun K560 hK560 => ?_
              refine w_block ?_
              refine w_draw (X := Ext) (Y := Ext) [] MIX (by decide +kernel) rfl Ext.refl (fun _ _ _ => Ext.trans) (fun _ _ _ => Chg.trans) (fun _ _ h => Ext.chg h _) (fun w561 hE562 => ?_)
              have hB563 := hB554.trans (Ext.stp hE562 hS555.base)
              have hS564 := hS555.ext hE562
              refine ⟨.bool v547, fun w565 hX566 => od_plain rfl (by have hS567 := hS564.ext hX566; have hB568 := hB563.trans (Ext.stp hX566 hS564.base); exact is_ext (g_move (v := .bool v547) rfl)), ?_⟩
              refine ⟨.bool v547, fun w569 hX570 => od_plain rfl (by have hS571 := hS564.ext hX570; have hB572 := hB563.trans (Ext.stp hX570 hS564.base); exact is_ext (g_move (v := .bool v547) rfl)), ?_⟩
              refine ⟨if v547 = false then .slice a0 n0 c0 else undef, fun w573 hX574 => od_guard (c := v547 = false) (val := .slice a0 n0 c0) (b := (v547 == false)) (gv_some rfl rfl rfl) beq_iff_eq (fun hc577 => ?_), ?_⟩
              · have hS575 := hS564.ext hX574
                have hB576 := hB563.trans (Ext.stp hX574 hS564.base)
                have hq5 : ¬ (v547 = true) := (i_neg Iff.rfl hc577)
                exact is_ext (g_move (v := .slice a0 n0 c0) rfl)
              refine ⟨if v547 = false then .int .i64 v529 else undef, fun w578 hX579 => od_guard (c := v547 = false) (val := .int .i64 v529) (b := (v547 == false)) (gv_some rfl rfl rfl) beq_iff_eq (fun hc582 => ?_), ?_⟩
              · have hS580 := hS564.ext hX579
                have hB581 := hB563.trans (Ext.stp hX579 hS564.base)
                have hq5 : ¬ (v547 = true) := (i_neg Iff.rfl hc582)
                exact is_ext (g_move (v := .int .i64 v529) rfl)
              obtain ⟨hg588, hm⟩ := hm
              refine ⟨if v547 = false then .pointer (some ((adr a0).add ((Int.toNat v529) * El.m PlayerD))) else undef, fun w583 hX584 => od_guard (c := v547 = false) (val := .pointer (some ((adr a0).add ((Int.toNat v529) * El.m PlayerD)))) (b := (v547 == false)) (gv_some rfl rfl rfl) beq_iff_eq (fun hc587 => ?_), ?_⟩
              · have hS585 := hS564.ext hX584
                have hB586 := hB563.trans (Ext.stp hX584 hS564.base)
                have hq5 : ¬ (v547 = true) := (i_neg Iff.rfl hc587)
                exact is_ext (q_index (i := v529) SL30 (if_pos hc587) (if_pos hc587) (Tv.o (hp0.bel hB586)) (Tv.g (hp0.bel hB586) (hg588 hq5)))
              refine ⟨if v547 = false then .agg #[.slice ((y0[(Int.toNat v529)]!).1.1) ((y0[(Int.toNat v529)]!).1.2.2.length) ((y0[(Int.toNat v529)]!).1.2.1), .int .i64 (p0[(Int.toNat v529)]!.2)] else undef, fun w589 hX590 => od_guard (c := v547 = false) (val := .agg #[.slice ((y0[(Int.toNat v529)]!).1.1) ((y0[(Int.toNat v529)]!).1.2.2.length) ((y0[(Int.toNat v529)]!).1.2.1), .int .i64 (p0[(Int.toNat v529)]!.2)]) (b := (v547 == false)) (gv_some rfl rfl rfl) beq_iff_eq (fun hc593 => ?_), ?_⟩
              · have hS591 := hS564.ext hX590
                have hB592 := hB563.trans (Ext.stp hX590 hS564.base)
                have hq5 : ¬ (v547 = true) := (i_neg Iff.rfl hc593)
                exact is_ext (q_loadS (i := v529) (cs := [.slice ((y0[(Int.toNat v529)]!).1.1) ((y0[(Int.toNat v529)]!).1.2.2.length) ((y0[(Int.toNat v529)]!).1.2.1), .int .i64 (p0[(Int.toNat v529)]!.2)]) AG61 (Tv.o (hp0.bel hB592)) (Tv.g (hp0.bel hB592) (hg588 hq5)) (by rw [← Tv.free (hp0.bel hB592) (hg588 hq5)]; rfl) (if_pos hc593))
              refine ⟨if v547 = false then .slice a1 n1 c1 else undef, fun w594 hX595 => od_guard (c := v547 = false) (val := .slice a1 n1 c1) (b := (v547 == false)) (gv_some rfl rfl rfl) beq_iff_eq (fun hc598 => ?_), ?_⟩
              · have hS596 := hS564.ext hX595
                have hB597 := hB563.trans (Ext.stp hX595 hS564.base)
                have hq5 : ¬ (v547 = true) := (i_neg Iff.rfl hc598)
                exact is_ext (g_move (v := .slice a1 n1 c1) rfl)
              refine ⟨if v547 = false then .int .i64 v548 else undef, fun w599 hX600 => od_guard (c := v547 = false) (val := .int .i64 v548) (b := (v547 == false)) (gv_some rfl rfl rfl) beq_iff_eq (fun hc603 => ?_), ?_⟩
              · have hS601 := hS564.ext hX600
                have hB602 := hB563.trans (Ext.stp hX600 hS564.base)
                have hq5 : ¬ (v547 = true) := (i_neg Iff.rfl hc603)
                exact is_ext (g_move (v := .int .i64 v548) rfl)
              obtain ⟨hg609, hm⟩ := hm
              refine ⟨if v547 = false then .pointer (some ((adr a1).add ((Int.toNat v548) * El.m Int))) else undef, fun w604 hX605 => od_guard (c := v547 = false) (val := .pointer (some ((adr a1).add ((Int.toNat v548) * El.m Int)))) (b := (v547 == false)) (gv_some rfl rfl rfl) beq_iff_eq (fun hc608 => ?_), ?_⟩
              · have hS606 := hS564.ext hX605
                have hB607 := hB563.trans (Ext.stp hX605 hS564.base)
                have hq5 : ¬ (v547 = true) := (i_neg Iff.rfl hc608)
                exact is_ext (q_index (i := v548) SL35 (if_pos hc608) (if_pos hc608) (hp1.bel hB607) (hg609 hq5))
              refine ⟨if v547 = false then .int .i64 (p1[(Int.toNat v548)]!) else undef, fun w610 hX611 => od_guard (c := v547 = false) (val := .int .i64 (p1[(Int.toNat v548)]!)) (b := (v547 == false)) (gv_some rfl rfl rfl) beq_iff_eq (fun hc614 => ?_), ?_⟩
              · have hS612 := hS564.ext hX611
                have hB613 := hB563.trans (Ext.stp hX611 hS564.base)
                have hq5 : ¬ (v547 = true) := (i_neg Iff.rfl hc614)
                exact is_ext (q_load (i := v548) (v := .int .i64 (p1[(Int.toNat v548)]!)) ON3 (hp1.bel hB613) (hg609 hq5) rfl (if_pos hc614))
              obtain ⟨r620, hk621, hm⟩ := hm
              refine ⟨if v547 = false then .bool r620 else undef, fun w615 hX616 => od_guard (c := v547 = false) (val := .bool r620) (b := (v547 == false)) (gv_some rfl rfl rfl) beq_iff_eq (fun hc619 => ?_), ?_⟩
              · have hS617 := hS564.ext hX616
                have hB618 := hB563.trans (Ext.stp hX616 hS564.base)
                have hq5 : ¬ (v547 = true) := (i_neg Iff.rfl hc619)
                exact (g_call (vs := #[.agg #[.slice ((y0[(Int.toNat v529)]!).1.1) ((y0[(Int.toNat v529)]!).1.2.2.length) ((y0[(Int.toNat v529)]!).1.2.1), .int .i64 (p0[(Int.toNat v529)]!.2)], .int .i64 (p1[(Int.toNat v548)]!)]) CF65 (args2 (if_pos hc619) (if_pos hc619)) ((m_spec_l13Knows_fn (p0[(Int.toNat v529)]!) ((Tv.rowP (hp0.bel hB618) (hg588 hq5)).up hS617) (p1[(Int.toNat v548)]!) (hk621 hq5)).mono fun _ _ ⟨_, h1, h2, h3⟩ => ⟨by rw [h2, h1], h3⟩))
              refine ⟨.bool (v547 || r620), fun w622 hX623 => od_plain rfl (by have hS624 := hS564.ext hX623; have hB625 := hB563.trans (Ext.stp hX623 hS564.base); exact is_ext (g_pick_or (b := v547) (q := r620) rfl rfl)), ?_⟩
              refine ⟨.bool (v547 || r620), fun w626 hX627 => od_plain rfl (by have hS628 := hS564.ext hX627; have hB629 := hB563.trans (Ext.stp hX627 hS564.base); exact is_ext (g_assign (v := .bool (v547 || r620)) rfl)), ?_⟩
              intro w630 hX631
              have hB632 := hB563.trans (Ext.stp hX631 hS564.base)
              have hS633 := hS564.ext hX631
              refine hK560 _ _ ?_
              refine w_region ?_
              refine wl_val (g_move (v := .int .i64 v548) rfl) rfl ?_
              obtain ⟨hg634, hm⟩ := hm
              refine wl_val (g_add (a := v548) (b := 1) rfl rfl hg634) rfl ?_
              refine wl_val (g_assign (v := .int .i64 (v548 + 1)) rfl) rfl ?_
              refine wl_nil ?_
              exact ⟨((v547 || r620), (v548 + 1)), hm.2, ⟨rfl, rfl, rfl, rfl, rfl, rfl, trivial⟩, ⟨hm.1, hB632, hS633⟩⟩
            · replace hm := hm.2 h559
              refine w_exit ?_
              exact ⟨(v547), ⟨rfl, rfl, rfl, rfl, rfl, trivial⟩, ⟨hm, hB554, hS555⟩⟩
          · rintro v544 b_ w635 ⟨hm, hB636, hS637⟩
            show Wp _ _ _ _ (upds b_ [(0, .slice a0 n0 c0), (1, .slice a1 n1 c1), (5, .int .i64 v528), (6, .int .i64 v529), (7, .bool v544)]) w635
            refine w_seq fun K638 hK638 => ?_
            refine w_region ?_
            refine wl_val (g_move (v := .bool v544) rfl) rfl ?_
            refine wl_nil ?_
            refine hK638 _ _ ?_
            refine w_condI (p := v544 = true) (b := v544) rfl Iff.rfl (fun h639 => ?_) (fun h639 => ?_)
            · replace hm := hm.1 h639
              refine w_region ?_
              refine wl_val (g_move (v := .int .i64 v528) rfl) rfl ?_
              refine wl_val (g_move (v := .slice a0 n0 c0) rfl) rfl ?_
              refine wl_val (g_move (v := .int .i64 v529) rfl) rfl ?_
              obtain ⟨hg640, hm⟩ := hm
              refine wl_val (q_index (i := v529) SL30 rfl rfl (Tv.o (hp0.bel hB636)) (Tv.g (hp0.bel hB636) hg640)) rfl ?_
              refine wl_val (g_fieldAddr (q := (adr a0).add ((Int.toNat v529) * El.m PlayerD)) FL61_1 ON3 rfl) rfl ?_
              refine wl_val (q_loadF (i := v529) (j := 1) (v := .int .i64 (p0[(Int.toNat v529)]!.2)) ON3 (Tv.o (hp0.bel hB636)) (Tv.g (hp0.bel hB636) hg640) (by rw [← Tv.free (hp0.bel hB636) hg640]; rfl) rfl) rfl ?_
              obtain ⟨hg641, hm⟩ := hm
              refine wl_val (g_add (a := v528) (b := p0[(Int.toNat v529)]!.2) rfl rfl hg641) rfl ?_
              refine wl_val (g_assign (v := .int .i64 (v528 + p0[(Int.toNat v529)]!.2)) rfl) rfl ?_
              refine wl_nil ?_
              exact ⟨((v528 + p0[(Int.toNat v529)]!.2)), ⟨rfl, rfl, rfl, rfl, trivial⟩, ⟨hm, hB636, hS637⟩⟩
            · replace hm := hm.2 h639
              refine w_skip ?_
              exact ⟨(v528), ⟨rfl, rfl, rfl, rfl, trivial⟩, ⟨hm, hB636, hS637⟩⟩
        · rintro v541 b_ w642 ⟨hm, hB643, hS644⟩
          show Wp _ _ _ _ (upds b_ [(0, .slice a0 n0 c0), (1, .slice a1 n1 c1), (5, .int .i64 v541), (6, .int .i64 v529)]) w642
          refine w_region ?_
          refine wl_val (g_move (v := .int .i64 v529) rfl) rfl ?_
          obtain ⟨hg645, hm⟩ := hm
          refine wl_val (g_add (a := v529) (b := 1) rfl rfl hg645) rfl ?_
          refine wl_val (g_assign (v := .int .i64 (v529 + 1)) rfl) rfl ?_
          refine wl_nil ?_
          exact ⟨(v541, (v529 + 1)), hm.2, ⟨rfl, rfl, rfl, rfl, trivial⟩, ⟨hm.1, hB643, hS644⟩⟩
      · replace hm := hm.2 h540
        refine w_exit ?_
        exact ⟨(v528), ⟨rfl, trivial⟩, ⟨hm, hB535, hS536⟩⟩
    · rintro v525 b_ w646 ⟨hm, hB647, hS648⟩
      show Wp _ _ _ _ (upds b_ [(5, .int .i64 v525)]) w646
      refine w_seq fun K649 hK649 => ?_
      refine w_region ?_
      refine wl_val (g_move (v := .int .i64 v525) rfl) rfl ?_
      refine wl_val (g_assign (v := .int .i64 v525) rfl) rfl ?_
      refine wl_nil ?_
      refine hK649 _ _ ?_
      refine w_ret ?_
      repeat first | with_reducible refine q_then ?_ | with_reducible refine q_block ?_
      exact ret1 rfl (by decide) ⟨_, hm, rfl, toExt hB647⟩

theorem m_impl_arePuppets_fn {w : World} {a0 : Option Addr} {n0 c0 : Nat} {p0 : List Int} {Q : Bool → Prop} (hp0 : Vw w.heap.size w a0 n0 c0 p0) (hm : m_impl_arePuppets p0 Q) :
    Fn Try.prog 66 #[.slice a0 n0 c0] w (fun v w' => ∃ (r0 : Bool), Q r0 ∧ v = .bool r0 ∧ Ext w w') := by
  unfold m_impl_arePuppets at hm
  have hB0 := Below.refl w.heap.size w
  have hS0 : Sep w w.heap.size [] := Sep.nil (Nat.le_refl _)
  refine fn_of_wp Try.func66 rfl (by kernel_rfl) (Nat.le_of_ble_eq_true rfl) ?_
  refine w_seq fun K1 hK1 => ?_
  refine w_region ?_
  refine wl_val (g_assign (v := .bool false) rfl) rfl ?_
  refine wl_nil ?_
  refine hK1 _ _ ?_
  refine w_seq fun K2 hK2 => ?_
  refine w_region ?_
  refine wl_val (g_move (v := .slice a0 n0 c0) rfl) rfl ?_
  refine wl_step rfl (g_call (vs := #[.slice a0 n0 c0, .int .i64 0, .int .i64 6]) CF61 (args3 rfl rfl rfl) (m_impl_isStrict_fn ((hp0.bel hB0).up hS0) 0 6 hm)) ?_
  rintro _ w3 ⟨r6, hm, rfl, hE4⟩
  have hB7 := hB0.trans (Ext.stp hE4 hS0.base)
  have hS8 := hS0.ext hE4
  refine wl_val (g_assign (v := .bool r6) rfl) rfl ?_
  refine wl_nil ?_
  refine hK2 _ _ ?_
  refine w_ret ?_
  repeat first | with_reducible refine q_then ?_ | with_reducible refine q_block ?_
  exact ret1 rfl (by decide) ⟨_, hm, rfl, toExt hB7⟩

theorem m_impl_indexOf_fn {w : World} {a0 : Option Addr} {n0 c0 : Nat} {p0 : List Int} {Q : Int → Prop} (hp0 : Vw w.heap.size w a0 n0 c0 p0) (p1 : Int) (hm : m_impl_indexOf p0 p1 Q) :
    Fn Try.prog 67 #[.slice a0 n0 c0, .int .i64 p1] w (fun v w' => ∃ (r0 : Int), Q r0 ∧ v = .int .i64 r0 ∧ Ext w w') := by
  unfold m_impl_indexOf at hm
  have hB0 := Below.refl w.heap.size w
  have hS0 : Sep w w.heap.size [] := Sep.nil (Nat.le_refl _)
  refine fn_of_wp Try.func67 rfl (by kernel_rfl) (Nat.le_of_ble_eq_true rfl) ?_
  refine w_seq fun K1 hK1 => ?_
  refine w_region ?_
  refine wl_val (g_assign (v := .int .i64 0) rfl) rfl ?_
  refine wl_nil ?_
  refine hK1 _ _ ?_
  refine w_cut (σ := Unit) (fun _ => []) (fun _ w' => m_impl_indexOf_K0 Q ∧ Below w.heap.size w w' ∧ Sep w' w.heap.size []) ?_ ?_
  · refine w_seq fun K3 hK3 => ?_
    refine w_region ?_
    refine wl_val (g_move (v := .slice a0 n0 c0) rfl) rfl ?_
    refine wl_val (q_len SL35 rfl (Vw.len (hp0.bel hB0))) rfl ?_
    refine wl_val (g_move (v := .int .i64 0) rfl) rfl ?_
    refine wl_nil ?_
    refine hK3 _ _ ?_
    refine w_block ?_
    obtain ⟨I23, μ24, h025, hr26⟩ := hm
    refine w_for (σ := Int) (fun v22 => [(1, .int .i64 p1), (7, .slice a0 n0 c0), (8, .int .i64 (p0.length : Int)), (9, .int .i64 v22)]) (fun v22 w' => I23 v22 ∧ Below w.heap.size w w' ∧ Sep w' w.heap.size []) (fun v22 => μ24 v22) (0) ⟨rfl, rfl, rfl, rfl, trivial⟩ ⟨h025, hB0, hS0⟩ ?_
    rintro v22 b_ w27 ⟨hi_, hB28, hS29⟩
    show Wp _ _ _ _ (upds b_ [(1, .int .i64 p1), (7, .slice a0 n0 c0), (8, .int .i64 (p0.length : Int)), (9, .int .i64 v22)]) w27
    have hm := hr26 v22 hi_
    refine w_seq fun K31 hK31 => ?_
    refine w_region ?_
    refine wl_val (g_lss (a := v22) (b := (p0.length : Int)) rfl rfl) rfl ?_
    refine wl_nil ?_
    refine hK31 _ _ ?_
    refine w_seq fun K32 hK32 => ?_
    refine w_condI (p := v22 < (p0.length : Int)) (b := (decide (v22 < (p0.length : Int)))) rfl decide_eq_true_iff (fun h33 => ?_) (fun h33 => ?_)
    · replace hm := hm.1 h33
      refine w_skip ?_
      refine hK32 _ _ ?_
      refine w_seq fun K34 hK34 => ?_
      refine w_block ?_
      refine w_seq fun K35 hK35 => ?_
      refine w_region ?_
      refine wl_val (g_move (v := .int .i64 v22) rfl) rfl ?_
      obtain ⟨hg36, hm⟩ := hm
      refine wl_val (q_index (i := v22) SL35 rfl rfl (hp0.bel hB28) hg36) rfl ?_
      refine wl_val (q_load (i := v22) (v := .int .i64 (p0[(Int.toNat v22)]!)) ON3 (hp0.bel hB28) hg36 rfl rfl) rfl ?_
      refine wl_val (g_assign (v := .int .i64 v22) rfl) rfl ?_
      refine wl_val (g_assign (v := .int .i64 (p0[(Int.toNat v22)]!)) rfl) rfl ?_
      refine wl_nil ?_
      refine hK35 _ _ ?_
      refine w_seq fun K37 hK37 => ?_
      refine w_region ?_
      refine wl_val (g_move (v := .int .i64 (p0[(Int.toNat v22)]!)) rfl) rfl ?_
      refine wl_val (g_move (v := .int .i64 p1) rfl) rfl ?_
      refine wl_val (g_eql (a := p0[(Int.toNat v22)]!) (b := p1) rfl rfl) rfl ?_
      refine wl_nil ?_
      refine hK37 _ _ ?_
      refine w_condI (p := p0[(Int.toNat v22)]! = p1) (b := (decide (p0[(Int.toNat v22)]! = p1))) rfl decide_eq_true_iff (fun h38 => ?_) (fun h38 => ?_)
      · replace hm := hm.1 h38
        refine w_seq fun K39 hK39 => ?_
        refine w_region ?_
        refine wl_val (g_move (v := .int .i64 v22) rfl) rfl ?_
        refine wl_val (g_assign (v := .int .i64 v22) rfl) rfl ?_
        refine wl_nil ?_
        refine hK39 _ _ ?_
        refine w_ret ?_
        repeat first | with_reducible refine q_then ?_ | with_reducible refine q_block ?_
        exact ret1 rfl (by decide) ⟨_, hm, rfl, toExt hB28⟩
      · replace hm := hm.2 h38
        refine w_skip ?_
        refine hK34 _ _ ?_
        refine w_region ?_
        obtain ⟨hg40, hm⟩ := hm
        refine wl_val (g_add (a := v22) (b := 1) rfl rfl hg40) rfl ?_
        refine wl_val (g_move (v := .int .i64 (v22 + 1)) rfl) rfl ?_
        refine wl_nil ?_
        exact ⟨((v22 + 1)), hm.2, ⟨rfl, rfl, rfl, rfl, trivial⟩, ⟨hm.1, hB28, hS29⟩⟩
    · replace hm := hm.2 h33
      refine w_exit ?_
      exact ⟨(), trivial, ⟨hm, hB28, hS29⟩⟩
  · rintro _ b_ w41 ⟨hm, hB42, hS43⟩
    show Wp _ _ _ _ (upds b_ []) w41
    refine w_seq fun K44 hK44 => ?_
    refine w_region ?_
    refine wl_val (g_assign (v := .int .i64 (-1)) rfl) rfl ?_
    refine wl_nil ?_
    refine hK44 _ _ ?_
    refine w_ret ?_
    repeat first | with_reducible refine q_then ?_ | with_reducible refine q_block ?_
    exact ret1 rfl (by decide) ⟨_, hm, rfl, toExt hB42⟩

theorem m_impl_HandsFor_fn {w : World} {a0 : Option Addr} {n0 c0 : Nat} {y0 : List PlayerD} {p0 : List PlayerC} {a1 : Option Addr} {n1 c1 : Nat} {p1 : List Int} {Q : Int → Prop} (hp0 : Tv w.heap.size w a0 n0 c0 y0 p0) (hp1 : Vw w.heap.size w a1 n1 c1 p1) (hm : m_impl_HandsFor p0 p1 Q) :
    Fn Try.prog 30 #[.slice a0 n0 c0, .slice a1 n1 c1] w (fun v w' => ∃ (r0 : Int), Q r0 ∧ v = .int .i64 r0 ∧ Ext w w') := by
  unfold m_impl_HandsFor at hm
  have hB0 := Below.refl w.heap.size w
  have hS0 : Sep w w.heap.size [] := Sep.nil (Nat.le_refl _)
  refine fn_of_wp Try.func30 rfl (by kernel_rfl) (Nat.le_of_ble_eq_true rfl) ?_
  refine w_seq fun K1 hK1 => ?_
  refine w_region ?_
  refine wl_val (g_assign (v := .int .i64 0) rfl) rfl ?_
  refine wl_nil ?_
  refine hK1 _ _ ?_
  refine w_seq fun K2 hK2 => ?_
  refine w_seq fun K3 hK3 => ?_
  refine w_region ?_
  refine wl_val (g_move (v := .slice a0 n0 c0) rfl) rfl ?_
  refine wl_step rfl (g_call (vs := #[.slice a0 n0 c0]) CF24 (args1 rfl) (m_impl_PlayersOk_fn ((hp0.bel hB0).up hS0) hm)) ?_
  rintro _ w4 ⟨r7, hm, rfl, hE5⟩
  have hB8 := hB0.trans (Ext.stp hE5 hS0.base)
  have hS9 := hS0.ext hE5
  refine wl_val (g_not (a := r7) rfl) rfl ?_
  refine wl_val (g_move (v := .bool (!r7)) rfl) rfl ?_
  refine wl_guard (c := (!r7) = false) (val := .slice a1 n1 c1) (b := ((!r7) == false)) (gv_some rfl rfl rfl) beq_iff_eq (fun hc10 => ?_) ?_
  · have hq0 : ¬ (¬ (r7 = true)) := (i_neg (i_not Iff.rfl) hc10)
    exact g_move (v := .slice a1 n1 c1) rfl
  obtain ⟨r12, hk13, hm⟩ := hm
  refine wl_guardE (X := Ext) (c := (!r7) = false) (val := .bool r12) (Ext.refl _) (b := ((!r7) == false)) (gv_some rfl rfl rfl) beq_iff_eq (fun hc11 => ?_) (fun w14 hE15 => ?_)
  · have hq0 : ¬ (¬ (r7 = true)) := (i_neg (i_not Iff.rfl) hc11)
    exact (g_call (vs := #[.slice a1 n1 c1]) CF66 (args1 (if_pos hc11)) ((m_impl_arePuppets_fn ((hp1.bel hB8).up hS9) (hk13 hq0)).mono fun _ _ ⟨_, h1, h2, h3⟩ => ⟨by rw [h2, h1], h3⟩))
  have hB16 := hB8.trans (Ext.stp hE15 hS9.base)
  have hS17 := hS9.ext hE15
  refine wl_guard (c := (!r7) = false) (val := .bool (!r12)) (b := ((!r7) == false)) (gv_some rfl rfl rfl) beq_iff_eq (fun hc18 => ?_) ?_
  · have hq0 : ¬ (¬ (r7 = true)) := (i_neg (i_not Iff.rfl) hc18)
    exact g_not (a := r12) (if_pos hc18)
  refine wl_val (g_pick_or (b := (!r7)) (q := (!r12)) rfl rfl) rfl ?_
  refine wl_nil ?_
  refine hK3 _ _ ?_
  refine w_condI (p := ((¬ (r7 = true)) ∨ (¬ (r12 = true)))) (b := ((!r7) || (!r12))) rfl (i_or (i_not Iff.rfl) (i_not Iff.rfl)) (fun h19 => ?_) (fun h19 => ?_)
  · replace hm := hm.1 h19
    refine w_seq fun K20 hK20 => ?_
    refine w_region ?_
    refine wl_val (g_assign (v := .int .i64 (-1)) rfl) rfl ?_
    refine wl_nil ?_
    refine hK20 _ _ ?_
    refine w_ret ?_
    repeat first | with_reducible refine q_then ?_ | with_reducible refine q_block ?_
    exact ret1 rfl (by decide) ⟨_, hm, rfl, toExt hB16⟩
  · replace hm := hm.2 h19
    refine w_skip ?_
    refine hK2 _ _ ?_
    refine w_seq fun K21 hK21 => ?_
    refine w_region ?_
    refine wl_val (g_assign (v := .int .i64 0) rfl) rfl ?_
    refine wl_nil ?_
    refine hK21 _ _ ?_
    refine w_cut (σ := Int) (fun v206 => [(5, .int .i64 v206)]) (fun v206 w' => m_impl_HandsFor_K1 Q v206 ∧ Below w.heap.size w w' ∧ Sep w' w.heap.size []) ?_ ?_
    · refine w_seq fun K208 hK208 => ?_
      refine w_region ?_
      refine wl_val (g_move (v := .slice a0 n0 c0) rfl) rfl ?_
      refine wl_val (q_len SL30 rfl (Tv.len (hp0.bel hB16))) rfl ?_
      refine wl_val (g_move (v := .int .i64 0) rfl) rfl ?_
      refine wl_nil ?_
      refine hK208 _ _ ?_
      refine w_block ?_
      obtain ⟨I211, μ212, h0213, hr214⟩ := hm
      refine w_for (σ := Int × Int) (fun ⟨v209, v210⟩ => [(1, .slice a1 n1 c1), (5, .int .i64 v209), (18, .slice a0 n0 c0), (19, .int .i64 (p0.length : Int)), (20, .int .i64 v210)]) (fun ⟨v209, v210⟩ w' => I211 v209 v210 ∧ Below w.heap.size w w' ∧ Sep w' w.heap.size []) (fun ⟨v209, v210⟩ => μ212 v209 v210) (0, 0) ⟨rfl, rfl, rfl, rfl, rfl, trivial⟩ ⟨h0213, hB16, hS17⟩ ?_
      rintro ⟨v209, v210⟩ b_ w215 ⟨hi_, hB216, hS217⟩
      show Wp _ _ _ _ (upds b_ [(1, .slice a1 n1 c1), (5, .int .i64 v209), (18, .slice a0 n0 c0), (19, .int .i64 (p0.length : Int)), (20, .int .i64 v210)]) w215
      have hm := hr214 v209 v210 hi_
      refine w_seq fun K219 hK219 => ?_
      refine w_region ?_
      refine wl_val (g_lss (a := v210) (b := (p0.length : Int)) rfl rfl) rfl ?_
      refine wl_nil ?_
      refine hK219 _ _ ?_
      refine w_seq fun K220 hK220 => ?_
      refine w_condI (p := v210 < (p0.length : Int)) (b := (decide (v210 < (p0.length : Int)))) rfl decide_eq_true_iff (fun h221 => ?_) (fun h221 => ?_)
      · replace hm := hm.1 h221
        refine w_skip ?_
        refine hK220 _ _ ?_
        refine w_cut (σ := Int) (fun v222 => [(1, .slice a1 n1 c1), (5, .int .i64 v222), (18, .slice a0 n0 c0), (19, .int .i64 (p0.length : Int)), (20, .int .i64 v210)]) (fun v222 w' => m_impl_HandsFor_K0 v210 (fun v209' v210' => I211 v209' v210' ∧ μ212 v209' v210' < μ212 v209 v210) v222 ∧ Below w.heap.size w w' ∧ Sep w' w.heap.size []) ?_ ?_
        · refine w_block ?_
          refine w_seq fun K224 hK224 => ?_
          refine w_region ?_
          obtain ⟨hg225, hm⟩ := hm
          refine wl_val (q_index (i := v210) SL30 rfl rfl (Tv.o (hp0.bel hB216)) (Tv.g (hp0.bel hB216) hg225)) rfl ?_
          refine wl_val (q_loadS (i := v210) (cs := [.slice ((y0[(Int.toNat v210)]!).1.1) ((y0[(Int.toNat v210)]!).1.2.2.length) ((y0[(Int.toNat v210)]!).1.2.1), .int .i64 (p0[(Int.toNat v210)]!.2)]) AG61 (Tv.o (hp0.bel hB216)) (Tv.g (hp0.bel hB216) hg225) (by rw [← Tv.free (hp0.bel hB216) hg225]; rfl) rfl) rfl ?_
          refine wl_step rfl (q_alloc (cs := #[.slice none 0 0, .int .i64 0]) ZR61 rfl hS217) ?_
          rintro _ w226 ⟨g227, rfl, hS229, hE228⟩
          have hB231 := hB216.trans (Ext.stp hE228 hS217.base)
          refine wl_step rfl (q_storeB (i := 0) (bs' := #[.slice ((y0[(Int.toNat v210)]!).1.1) ((y0[(Int.toNat v210)]!).1.2.2.length) ((y0[(Int.toNat v210)]!).1.2.1), .int .i64 (p0[(Int.toNat v210)]!.2)]) (vs := [.slice ((y0[(Int.toNat v210)]!).1.1) ((y0[(Int.toNat v210)]!).1.2.2.length) ((y0[(Int.toNat v210)]!).1.2.1), .int .i64 (p0[(Int.toNat v210)]!.2)]) hS229 AG61.sz rfl rfl rfl (by simp [Value.oneCell']) (Nat.le_of_ble_eq_true rfl) rfl) ?_
          rintro _ w232 ⟨rfl, hS233, hb234⟩
          have hB235 := hB231.trans hb234
          refine wl_nil ?_
          refine hK224 _ _ ?_
          refine w_seq fun K236 hK236 => ?_
          refine w_region ?_
          refine wl_val (g_move (v := .slice a1 n1 c1) rfl) rfl ?_
          refine wl_val (q_len SL35 rfl (Vw.len (hp1.bel hB235))) rfl ?_
          refine wl_val (g_move (v := .int .i64 0) rfl) rfl ?_
          refine wl_nil ?_
          refine hK236 _ _ ?_
          refine w_block ?_
          obtain ⟨I238, μ239, h0240, hr241⟩ := hm
          refine w_for (σ := Int) (fun v237 => [(1, .slice a1 n1 c1), (5, .int .i64 v209), (7, .pointer (some (⟨g227, 0, none⟩ : Addr))), (18, .slice a0 n0 c0), (19, .int .i64 (p0.length : Int)), (20, .int .i64 v210), (24, .slice a1 n1 c1), (25, .int .i64 (p1.length : Int)), (26, .int .i64 v237)]) (fun v237 w' => I238 v237 ∧ Below w.heap.size w w' ∧ Sep w' w.heap.size [oB g227 61 #[.slice ((y0[(Int.toNat v210)]!).1.1) ((y0[(Int.toNat v210)]!).1.2.2.length) ((y0[(Int.toNat v210)]!).1.2.1), .int .i64 (p0[(Int.toNat v210)]!.2)]]) (fun v237 => μ239 v237) (0) ⟨rfl, rfl, rfl, rfl, rfl, rfl, rfl, rfl, rfl, trivial⟩ ⟨h0240, hB235, hS233⟩ ?_
          rintro v237 b_ w242 ⟨hi_, hB243, hS244⟩
          show Wp _ _ _ _ (upds b_ [(1, .slice a1 n1 c1), (5, .int .i64 v209), (7, .pointer (some (⟨g227, 0, none⟩ : Addr))), (18, .slice a0 n0 c0), (19, .int .i64 (p0.length : Int)), (20, .int .i64 v210), (24, .slice a1 n1 c1), (25, .int .i64 (p1.length : Int)), (26, .int .i64 v237)]) w242
          have hm := hr241 v237 hi_
          refine w_seq fun K246 hK246 => ?_
          refine w_region ?_
          refine wl_val (g_lss (a := v237) (b := (p1.length : Int)) rfl rfl) rfl ?_
          refine wl_nil ?_
          refine hK246 _ _ ?_
          refine w_seq fun K247 hK247 => ?_
          refine w_condI (p := v237 < (p1.length : Int)) (b := (decide (v237 < (p1.length : Int)))) rfl decide_eq_true_iff (fun h248 => ?_) (fun h248 => ?_)
          · replace hm := hm.1 h248
            refine w_skip ?_
            refine hK247 _ _ ?_
            refine w_seq fun K249 hK249 => ?_
            refine w_block ?_
            refine w_seq fun K250 hK250 => ?_
            refine w_region ?_
            obtain ⟨hg251, hm⟩ := hm
            refine wl_val (q_index (i := v237) SL35 rfl rfl (hp1.bel hB243) hg251) rfl ?_
            refine wl_val (q_load (i := v237) (v := .int .i64 (p1[(Int.toNat v237)]!)) ON3 (hp1.bel hB243) hg251 rfl rfl) rfl ?_
            refine wl_val (g_assign (v := .int .i64 (p1[(Int.toNat v237)]!)) rfl) rfl ?_
            refine wl_nil ?_
            refine hK250 _ _ ?_
            refine w_seq fun K252 hK252 => ?_
            refine w_region ?_
            refine wl_val (g_fieldAddr (q := (⟨g227, 0, none⟩ : Addr)) FL61_0 ON35 rfl) rfl ?_
            refine wl_val (q_loadB (i := 0) (bs := #[.slice ((y0[(Int.toNat v210)]!).1.1) ((y0[(Int.toNat v210)]!).1.2.2.length) ((y0[(Int.toNat v210)]!).1.2.1), .int .i64 (p0[(Int.toNat v210)]!.2)]) hS244.g0 ON35 rfl rfl) rfl ?_
            refine wl_val (g_move (v := .int .i64 (p1[(Int.toNat v237)]!)) rfl) rfl ?_
            refine wl_step rfl (g_call (vs := #[.slice ((y0[(Int.toNat v210)]!).1.1) ((y0[(Int.toNat v210)]!).1.2.2.length) ((y0[(Int.toNat v210)]!).1.2.1), .int .i64 (p1[(Int.toNat v237)]!)]) CF67 (args2 rfl rfl) (m_impl_indexOf_fn ((Tv.rowP (hp0.bel hB243) hg225).up hS244) (p1[(Int.toNat v237)]!) hm)) ?_
            rintro _ w253 ⟨r256, hm, rfl, hE254⟩
            have hB257 := hB243.trans (Ext.stp hE254 hS244.base)
            have hS258 := hS244.ext hE254
            refine wl_val (g_geq (a := r256) (b := 0) rfl rfl) rfl ?_
            refine wl_nil ?_
            refine hK252 _ _ ?_
            refine w_condI (p := r256 ≥ 0) (b := (decide (r256 ≥ 0))) rfl decide_eq_true_iff (fun h259 => ?_) (fun h259 => ?_)
            · replace hm := hm.1 h259
              refine w_seq fun K260 hK260 => ?_
              refine w_region ?_
              refine wl_val (g_move (v := .int .i64 v209) rfl) rfl ?_
              refine wl_val (g_fieldAddr (q := (⟨g227, 0, none⟩ : Addr)) FL61_1 ON3 rfl) rfl ?_
              refine wl_val (q_loadB (i := 1) (bs := #[.slice ((y0[(Int.toNat v210)]!).1.1) ((y0[(Int.toNat v210)]!).1.2.2.length) ((y0[(Int.toNat v210)]!).1.2.1), .int .i64 (p0[(Int.toNat v210)]!.2)]) hS258.g0 ON3 rfl rfl) rfl ?_
              obtain ⟨hg261, hm⟩ := hm
              refine wl_val (g_add (a := v209) (b := p0[(Int.toNat v210)]!.2) rfl rfl hg261) rfl ?_
              refine wl_val (g_assign (v := .int .i64 (v209 + p0[(Int.toNat v210)]!.2)) rfl) rfl ?_
              refine wl_nil ?_
              refine hK260 _ _ ?_
              refine w_exit ?_
              have hS262 := hS258.tail
              exact ⟨((v209 + p0[(Int.toNat v210)]!.2)), ⟨rfl, rfl, rfl, rfl, rfl, trivial⟩, ⟨hm, hB257, hS262⟩⟩
            · replace hm := hm.2 h259
              refine w_skip ?_
              refine hK249 _ _ ?_
              refine w_region ?_
              obtain ⟨hg263, hm⟩ := hm
              refine wl_val (g_add (a := v237) (b := 1) rfl rfl hg263) rfl ?_
              refine wl_val (g_move (v := .int .i64 (v237 + 1)) rfl) rfl ?_
              refine wl_nil ?_
              exact ⟨((v237 + 1)), hm.2, ⟨rfl, rfl, rfl, rfl, rfl, rfl, rfl, rfl, rfl, trivial⟩, ⟨hm.1, hB257, hS258⟩⟩
          · replace hm := hm.2 h248
            refine w_exit ?_
            have hS264 := hS244.tail
            exact ⟨(v209), ⟨rfl, rfl, rfl, rfl, rfl, trivial⟩, ⟨hm, hB243, hS264⟩⟩
        · rintro v222 b_ w265 ⟨hm, hB266, hS267⟩
          show Wp _ _ _ _ (upds b_ [(1, .slice a1 n1 c1), (5, .int .i64 v222), (18, .slice a0 n0 c0), (19, .int .i64 (p0.length : Int)), (20, .int .i64 v210)]) w265
          refine w_region ?_
          obtain ⟨hg268, hm⟩ := hm
          refine wl_val (g_add (a := v210) (b := 1) rfl rfl hg268) rfl ?_
          refine wl_val (g_move (v := .int .i64 (v210 + 1)) rfl) rfl ?_
          refine wl_nil ?_
          exact ⟨(v222, (v210 + 1)), hm.2, ⟨rfl, rfl, rfl, rfl, rfl, trivial⟩, ⟨hm.1, hB266, hS267⟩⟩
      · replace hm := hm.2 h221
        refine w_exit ?_
        exact ⟨(v209), ⟨rfl, trivial⟩, ⟨hm, hB216, hS217⟩⟩
    · rintro v206 b_ w269 ⟨hm, hB270, hS271⟩
      show Wp _ _ _ _ (upds b_ [(5, .int .i64 v206)]) w269
      refine w_seq fun K272 hK272 => ?_
      refine w_region ?_
      refine wl_val (g_move (v := .int .i64 v206) rfl) rfl ?_
      refine wl_val (g_assign (v := .int .i64 v206) rfl) rfl ?_
      refine wl_nil ?_
      refine hK272 _ _ ?_
      refine w_ret ?_
      repeat first | with_reducible refine q_then ?_ | with_reducible refine q_block ?_
      exact ret1 rfl (by decide) ⟨_, hm, rfl, toExt hB270⟩

theorem m_spec_NightOk_fn {w : World} {a0 : Option Addr} {n0 c0 : Nat} {y0 : List PlayerD} {p0 : List PlayerC} {a1 : Option Addr} {n1 c1 : Nat} {y1 : List (Hd Int)} {p1 : List (List Int)} {Q : Bool → Prop} (hp0 : Tv w.heap.size w a0 n0 c0 y0 p0) (hp1 : Tv w.heap.size w a1 n1 c1 y1 p1) (hm : m_spec_NightOk p0 p1 Q) :
    Fn Try.prog 32 #[.slice a0 n0 c0, .slice a1 n1 c1] w (fun v w' => ∃ (r0 : Bool), Q r0 ∧ v = .bool r0 ∧ Ext w w') := by
  unfold m_spec_NightOk at hm
  have hB0 := Below.refl w.heap.size w
  have hS0 : Sep w w.heap.size [] := Sep.nil (Nat.le_refl _)
  refine fn_of_wp Try.func32 rfl (by kernel_rfl) (Nat.le_of_ble_eq_true rfl) ?_
  refine w_seq fun K1 hK1 => ?_
  refine w_region ?_
  refine wl_val (g_assign (v := .bool false) rfl) rfl ?_
  refine wl_nil ?_
  refine hK1 _ _ ?_
  refine w_cut (σ := Unit) (fun _ => [(0, .slice a0 n0 c0), (1, .slice a1 n1 c1)]) (fun _ w' => m_spec_NightOk_K0 p0 p1 Q ∧ Below w.heap.size w w' ∧ Sep w' w.heap.size []) ?_ ?_
  · refine w_seq fun K3 hK3 => ?_
    refine w_region ?_
    refine wl_val (g_assign (v := .int .i64 0) rfl) rfl ?_
    refine wl_nil ?_
    refine hK3 _ _ ?_
    refine w_block ?_
    obtain ⟨I35, μ36, h037, hr38⟩ := hm
    refine w_for (σ := Int) (fun v34 => [(0, .slice a0 n0 c0), (1, .slice a1 n1 c1), (5, .int .i64 v34)]) (fun v34 w' => I35 v34 ∧ Below w.heap.size w w' ∧ Sep w' w.heap.size []) (fun v34 => μ36 v34) (0) ⟨rfl, rfl, rfl, trivial⟩ ⟨h037, hB0, hS0⟩ ?_
    rintro v34 b_ w39 ⟨hi_, hB40, hS41⟩
    show Wp _ _ _ _ (upds b_ [(0, .slice a0 n0 c0), (1, .slice a1 n1 c1), (5, .int .i64 v34)]) w39
    have hm := hr38 v34 hi_
    refine w_seq fun K43 hK43 => ?_
    refine w_seq fun K44 hK44 => ?_
    refine w_region ?_
    refine wl_val (g_move (v := .int .i64 v34) rfl) rfl ?_
    refine wl_val (g_move (v := .slice a1 n1 c1) rfl) rfl ?_
    refine wl_val (q_len SL22 rfl (Tv.len (hp1.bel hB40))) rfl ?_
    refine wl_val (g_lss (a := v34) (b := (p1.length : Int)) rfl rfl) rfl ?_
    refine wl_nil ?_
    refine hK44 _ _ ?_
    refine w_condI (p := v34 < (p1.length : Int)) (b := (decide (v34 < (p1.length : Int)))) rfl decide_eq_true_iff (fun h45 => ?_) (fun h45 => ?_)
    · replace hm := hm.1 h45
      refine w_skip ?_
      refine hK43 _ _ ?_
      refine w_seq fun K46 hK46 => ?_
      refine w_block ?_
      refine w_seq fun K47 hK47 => ?_
      refine w_region ?_
      refine wl_val (g_move (v := .slice a1 n1 c1) rfl) rfl ?_
      refine wl_val (g_move (v := .int .i64 v34) rfl) rfl ?_
      obtain ⟨hg48, hm⟩ := hm
      refine wl_val (q_index (i := v34) SL22 rfl rfl (Tv.o (hp1.bel hB40)) (Tv.g (hp1.bel hB40) hg48)) rfl ?_
      refine wl_val (q_load (i := v34) (v := .slice ((y1[(Int.toNat v34)]!).1) ((y1[(Int.toNat v34)]!).2.2.length) ((y1[(Int.toNat v34)]!).2.1)) ON35 (Tv.o (hp1.bel hB40)) (Tv.g (hp1.bel hB40) hg48) rfl rfl) rfl ?_
      refine wl_val (q_len SL35 rfl (Vw.len (Tv.row (hp1.bel hB40) hg48))) rfl ?_
      refine wl_val (g_gtr (a := ((p1[(Int.toNat v34)]!).length : Int)) (b := 4) rfl rfl) rfl ?_
      refine wl_val (g_move (v := .bool (decide (((p1[(Int.toNat v34)]!).length : Int) > 4))) rfl) rfl ?_
      refine wl_guard (c := (decide (((p1[(Int.toNat v34)]!).length : Int) > 4)) = false) (val := .slice a1 n1 c1) (b := ((decide (((p1[(Int.toNat v34)]!).length : Int) > 4)) == false)) (gv_some rfl rfl rfl) beq_iff_eq (fun hc49 => ?_) ?_
      · have hq1 : ¬ (((p1[(Int.toNat v34)]!).length : Int) > 4) := (i_neg decide_eq_true_iff hc49)
        exact g_move (v := .slice a1 n1 c1) rfl
      refine wl_guard (c := (decide (((p1[(Int.toNat v34)]!).length : Int) > 4)) = false) (val := .int .i64 v34) (b := ((decide (((p1[(Int.toNat v34)]!).length : Int) > 4)) == false)) (gv_some rfl rfl rfl) beq_iff_eq (fun hc50 => ?_) ?_
      · have hq1 : ¬ (((p1[(Int.toNat v34)]!).length : Int) > 4) := (i_neg decide_eq_true_iff hc50)
        exact g_move (v := .int .i64 v34) rfl
      obtain ⟨hg52, hm⟩ := hm
      refine wl_guard (c := (decide (((p1[(Int.toNat v34)]!).length : Int) > 4)) = false) (val := .pointer (some ((adr a1).add ((Int.toNat v34) * El.m (Hd Int))))) (b := ((decide (((p1[(Int.toNat v34)]!).length : Int) > 4)) == false)) (gv_some rfl rfl rfl) beq_iff_eq (fun hc51 => ?_) ?_
      · have hq1 : ¬ (((p1[(Int.toNat v34)]!).length : Int) > 4) := (i_neg decide_eq_true_iff hc51)
        exact q_index (i := v34) SL22 (if_pos hc51) (if_pos hc51) (Tv.o (hp1.bel hB40)) (Tv.g (hp1.bel hB40) (hg52 hq1))
      refine wl_guard (c := (decide (((p1[(Int.toNat v34)]!).length : Int) > 4)) = false) (val := .slice ((y1[(Int.toNat v34)]!).1) ((y1[(Int.toNat v34)]!).2.2.length) ((y1[(Int.toNat v34)]!).2.1)) (b := ((decide (((p1[(Int.toNat v34)]!).length : Int) > 4)) == false)) (gv_some rfl rfl rfl) beq_iff_eq (fun hc53 => ?_) ?_
      · have hq1 : ¬ (((p1[(Int.toNat v34)]!).length : Int) > 4) := (i_neg decide_eq_true_iff hc53)
        exact q_load (i := v34) (v := .slice ((y1[(Int.toNat v34)]!).1) ((y1[(Int.toNat v34)]!).2.2.length) ((y1[(Int.toNat v34)]!).2.1)) ON35 (Tv.o (hp1.bel hB40)) (Tv.g (hp1.bel hB40) (hg52 hq1)) rfl (if_pos hc53)
      obtain ⟨r55, hk56, hm⟩ := hm
      refine wl_guardE (X := Ext) (c := (decide (((p1[(Int.toNat v34)]!).length : Int) > 4)) = false) (val := .bool r55) (Ext.refl _) (b := ((decide (((p1[(Int.toNat v34)]!).length : Int) > 4)) == false)) (gv_some rfl rfl rfl) beq_iff_eq (fun hc54 => ?_) (fun w57 hE58 => ?_)
      · have hq1 : ¬ (((p1[(Int.toNat v34)]!).length : Int) > 4) := (i_neg decide_eq_true_iff hc54)
        exact (g_call (vs := #[.slice ((y1[(Int.toNat v34)]!).1) ((y1[(Int.toNat v34)]!).2.2.length) ((y1[(Int.toNat v34)]!).2.1), .int .i64 6]) CF58 (args2 (if_pos hc54) rfl) ((m_spec_l11Rising_fn ((Tv.row (hp1.bel hB40) (hg52 hq1)).up hS41) 6 (hk56 hq1)).mono fun _ _ ⟨_, h1, h2, h3⟩ => ⟨by rw [h2, h1], h3⟩))
      have hB59 := hB40.trans (Ext.stp hE58 hS41.base)
      have hS60 := hS41.ext hE58
      refine wl_guard (c := (decide (((p1[(Int.toNat v34)]!).length : Int) > 4)) = false) (val := .bool (!r55)) (b := ((decide (((p1[(Int.toNat v34)]!).length : Int) > 4)) == false)) (gv_some rfl rfl rfl) beq_iff_eq (fun hc61 => ?_) ?_
      · have hq1 : ¬ (((p1[(Int.toNat v34)]!).length : Int) > 4) := (i_neg decide_eq_true_iff hc61)
        exact g_not (a := r55) (if_pos hc61)
      refine wl_val (g_pick_or (b := (decide (((p1[(Int.toNat v34)]!).length : Int) > 4))) (q := (!r55)) rfl rfl) rfl ?_
      refine wl_nil ?_
      refine hK47 _ _ ?_
      refine w_condI (p := ((((p1[(Int.toNat v34)]!).length : Int) > 4) ∨ (¬ (r55 = true)))) (b := ((decide (((p1[(Int.toNat v34)]!).length : Int) > 4)) || (!r55))) rfl (i_or decide_eq_true_iff (i_not Iff.rfl)) (fun h62 => ?_) (fun h62 => ?_)
      · replace hm := hm.1 h62
        refine w_seq fun K63 hK63 => ?_
        refine w_region ?_
        refine wl_val (g_assign (v := .bool false) rfl) rfl ?_
        refine wl_nil ?_
        refine hK63 _ _ ?_
        refine w_ret ?_
        repeat first | with_reducible refine q_then ?_ | with_reducible refine q_block ?_
        exact ret1 rfl (by decide) ⟨_, hm, rfl, toExt hB59⟩
      · replace hm := hm.2 h62
        refine w_skip ?_
        refine hK46 _ _ ?_
        refine w_region ?_
        refine wl_val (g_move (v := .int .i64 v34) rfl) rfl ?_
        obtain ⟨hg64, hm⟩ := hm
        refine wl_val (g_add (a := v34) (b := 1) rfl rfl hg64) rfl ?_
        refine wl_val (g_assign (v := .int .i64 (v34 + 1)) rfl) rfl ?_
        refine wl_nil ?_
        exact ⟨((v34 + 1)), hm.2, ⟨rfl, rfl, rfl, trivial⟩, ⟨hm.1, hB59, hS60⟩⟩
    · replace hm := hm.2 h45
      refine w_exit ?_
      exact ⟨(), ⟨rfl, rfl, trivial⟩, ⟨hm, hB40, hS41⟩⟩
  · rintro _ b_ w65 ⟨hm, hB66, hS67⟩
    show Wp _ _ _ _ (upds b_ [(0, .slice a0 n0 c0), (1, .slice a1 n1 c1)]) w65
    refine w_seq fun K68 hK68 => ?_
    refine w_region ?_
    refine wl_val (g_move (v := .slice a0 n0 c0) rfl) rfl ?_
    refine wl_step rfl (g_call (vs := #[.slice a0 n0 c0]) CF22 (args1 rfl) (m_spec_PlayersOk_fn ((hp0.bel hB66).up hS67) hm)) ?_
    rintro _ w69 ⟨r72, hm, rfl, hE70⟩
    have hB73 := hB66.trans (Ext.stp hE70 hS67.base)
    have hS74 := hS67.ext hE70
    refine wl_val (g_move (v := .bool r72) rfl) rfl ?_
    refine wl_guard (c := r72 = true) (val := .slice a1 n1 c1) (b := (r72 == true)) (gv_some rfl rfl rfl) beq_iff_eq (fun hc75 => ?_) ?_
    · have hq2 : r72 = true := (Iff.rfl.mp hc75)
      exact g_move (v := .slice a1 n1 c1) rfl
    refine wl_guard (c := r72 = true) (val := .int .i64 (p1.length : Int)) (b := (r72 == true)) (gv_some rfl rfl rfl) beq_iff_eq (fun hc76 => ?_) ?_
    · have hq2 : r72 = true := (Iff.rfl.mp hc76)
      exact q_len SL22 (if_pos hc76) (Tv.len (hp1.bel hB73))
    obtain ⟨r78, hk79, hm⟩ := hm
    refine wl_guardE (X := Ext) (c := r72 = true) (val := .bool r78) (Ext.refl _) (b := (r72 == true)) (gv_some rfl rfl rfl) beq_iff_eq (fun hc77 => ?_) (fun w80 hE81 => ?_)
    · have hq2 : r72 = true := (Iff.rfl.mp hc77)
      exact (g_call (vs := #[.int .i64 (p1.length : Int), .int .i64 1, .int .i64 6]) CF59 (args3 (if_pos hc77) rfl rfl) ((m_spec_l01In_fn (p1.length : Int) 1 6 (hk79 hq2)).mono fun _ _ ⟨_, h1, h2, h3⟩ => ⟨by rw [h2, h1], h3⟩))
    have hB82 := hB73.trans (Ext.stp hE81 hS74.base)
    have hS83 := hS74.ext hE81
    refine wl_val (g_pick_and (b := r72) (q := r78) rfl rfl) rfl ?_
    refine wl_val (g_assign (v := .bool (r72 && r78)) rfl) rfl ?_
    refine wl_nil ?_
    refine hK68 _ _ ?_
    refine w_ret ?_
    repeat first | with_reducible refine q_then ?_ | with_reducible refine q_block ?_
    exact ret1 rfl (by decide) ⟨_, hm, rfl, toExt hB82⟩

theorem m_impl_NightOk_fn {w : World} {a0 : Option Addr} {n0 c0 : Nat} {y0 : List PlayerD} {p0 : List PlayerC} {a1 : Option Addr} {n1 c1 : Nat} {y1 : List (Hd Int)} {p1 : List (List Int)} {Q : Bool → Prop} (hp0 : Tv w.heap.size w a0 n0 c0 y0 p0) (hp1 : Tv w.heap.size w a1 n1 c1 y1 p1) (hm : m_impl_NightOk p0 p1 Q) :
    Fn Try.prog 33 #[.slice a0 n0 c0, .slice a1 n1 c1] w (fun v w' => ∃ (r0 : Bool), Q r0 ∧ v = .bool r0 ∧ Ext w w') := by
  unfold m_impl_NightOk at hm
  have hB0 := Below.refl w.heap.size w
  have hS0 : Sep w w.heap.size [] := Sep.nil (Nat.le_refl _)
  refine fn_of_wp Try.func33 rfl (by kernel_rfl) (Nat.le_of_ble_eq_true rfl) ?_
  refine w_seq fun K1 hK1 => ?_
  refine w_region ?_
  refine wl_val (g_assign (v := .bool false) rfl) rfl ?_
  refine wl_nil ?_
  refine hK1 _ _ ?_
  refine w_seq fun K2 hK2 => ?_
  refine w_seq fun K3 hK3 => ?_
  refine w_region ?_
  refine wl_val (g_move (v := .slice a0 n0 c0) rfl) rfl ?_
  refine wl_step rfl (g_call (vs := #[.slice a0 n0 c0]) CF24 (args1 rfl) (m_impl_PlayersOk_fn ((hp0.bel hB0).up hS0) hm)) ?_
  rintro _ w4 ⟨r7, hm, rfl, hE5⟩
  have hB8 := hB0.trans (Ext.stp hE5 hS0.base)
  have hS9 := hS0.ext hE5
  refine wl_val (g_not (a := r7) rfl) rfl ?_
  refine wl_val (g_move (v := .bool (!r7)) rfl) rfl ?_
  refine wl_guard (c := (!r7) = false) (val := .slice a1 n1 c1) (b := ((!r7) == false)) (gv_some rfl rfl rfl) beq_iff_eq (fun hc10 => ?_) ?_
  · have hq0 : ¬ (¬ (r7 = true)) := (i_neg (i_not Iff.rfl) hc10)
    exact g_move (v := .slice a1 n1 c1) rfl
  refine wl_guard (c := (!r7) = false) (val := .int .i64 (p1.length : Int)) (b := ((!r7) == false)) (gv_some rfl rfl rfl) beq_iff_eq (fun hc11 => ?_) ?_
  · have hq0 : ¬ (¬ (r7 = true)) := (i_neg (i_not Iff.rfl) hc11)
    exact q_len SL22 (if_pos hc11) (Tv.len (hp1.bel hB8))
  obtain ⟨r13, hk14, hm⟩ := hm
  refine wl_guardE (X := Ext) (c := (!r7) = false) (val := .bool r13) (Ext.refl _) (b := ((!r7) == false)) (gv_some rfl rfl rfl) beq_iff_eq (fun hc12 => ?_) (fun w15 hE16 => ?_)
  · have hq0 : ¬ (¬ (r7 = true)) := (i_neg (i_not Iff.rfl) hc12)
    exact (g_call (vs := #[.int .i64 (p1.length : Int), .int .i64 1, .int .i64 6]) CF62 (args3 (if_pos hc12) rfl rfl) ((m_impl_within_fn (p1.length : Int) 1 6 (hk14 hq0)).mono fun _ _ ⟨_, h1, h2, h3⟩ => ⟨by rw [h2, h1], h3⟩))
  have hB17 := hB8.trans (Ext.stp hE16 hS9.base)
  have hS18 := hS9.ext hE16
  refine wl_guard (c := (!r7) = false) (val := .bool (!r13)) (b := ((!r7) == false)) (gv_some rfl rfl rfl) beq_iff_eq (fun hc19 => ?_) ?_
  · have hq0 : ¬ (¬ (r7 = true)) := (i_neg (i_not Iff.rfl) hc19)
    exact g_not (a := r13) (if_pos hc19)
  refine wl_val (g_pick_or (b := (!r7)) (q := (!r13)) rfl rfl) rfl ?_
  refine wl_nil ?_
  refine hK3 _ _ ?_
  refine w_condI (p := ((¬ (r7 = true)) ∨ (¬ (r13 = true)))) (b := ((!r7) || (!r13))) rfl (i_or (i_not Iff.rfl) (i_not Iff.rfl)) (fun h20 => ?_) (fun h20 => ?_)
  · replace hm := hm.1 h20
    refine w_seq fun K21 hK21 => ?_
    refine w_region ?_
    refine wl_val (g_assign (v := .bool false) rfl) rfl ?_
    refine wl_nil ?_
    refine hK21 _ _ ?_
    refine w_ret ?_
    repeat first | with_reducible refine q_then ?_ | with_reducible refine q_block ?_
    exact ret1 rfl (by decide) ⟨_, hm, rfl, toExt hB17⟩
  · replace hm := hm.2 h20
    refine w_skip ?_
    refine hK2 _ _ ?_
    refine w_cut (σ := Unit) (fun _ => []) (fun _ w' => m_impl_NightOk_K0 Q ∧ Below w.heap.size w w' ∧ Sep w' w.heap.size []) ?_ ?_
    · refine w_seq fun K23 hK23 => ?_
      refine w_region ?_
      refine wl_val (g_move (v := .slice a1 n1 c1) rfl) rfl ?_
      refine wl_val (q_len SL22 rfl (Tv.len (hp1.bel hB17))) rfl ?_
      refine wl_val (g_move (v := .int .i64 0) rfl) rfl ?_
      refine wl_nil ?_
      refine hK23 _ _ ?_
      refine w_block ?_
      obtain ⟨I52, μ53, h054, hr55⟩ := hm
      refine w_for (σ := Int) (fun v51 => [(16, .slice a1 n1 c1), (17, .int .i64 (p1.length : Int)), (18, .int .i64 v51)]) (fun v51 w' => I52 v51 ∧ Below w.heap.size w w' ∧ Sep w' w.heap.size []) (fun v51 => μ53 v51) (0) ⟨rfl, rfl, rfl, trivial⟩ ⟨h054, hB17, hS18⟩ ?_
      rintro v51 b_ w56 ⟨hi_, hB57, hS58⟩
      show Wp _ _ _ _ (upds b_ [(16, .slice a1 n1 c1), (17, .int .i64 (p1.length : Int)), (18, .int .i64 v51)]) w56
      have hm := hr55 v51 hi_
      refine w_seq fun K60 hK60 => ?_
      refine w_region ?_
      refine wl_val (g_lss (a := v51) (b := (p1.length : Int)) rfl rfl) rfl ?_
      refine wl_nil ?_
      refine hK60 _ _ ?_
      refine w_seq fun K61 hK61 => ?_
      refine w_condI (p := v51 < (p1.length : Int)) (b := (decide (v51 < (p1.length : Int)))) rfl decide_eq_true_iff (fun h62 => ?_) (fun h62 => ?_)
      · replace hm := hm.1 h62
        refine w_skip ?_
        refine hK61 _ _ ?_
        refine w_seq fun K63 hK63 => ?_
        refine w_block ?_
        refine w_seq fun K64 hK64 => ?_
        refine w_region ?_
        obtain ⟨hg65, hm⟩ := hm
        refine wl_val (q_index (i := v51) SL22 rfl rfl (Tv.o (hp1.bel hB57)) (Tv.g (hp1.bel hB57) hg65)) rfl ?_
        refine wl_val (q_load (i := v51) (v := .slice ((y1[(Int.toNat v51)]!).1) ((y1[(Int.toNat v51)]!).2.2.length) ((y1[(Int.toNat v51)]!).2.1)) ON35 (Tv.o (hp1.bel hB57)) (Tv.g (hp1.bel hB57) hg65) rfl rfl) rfl ?_
        refine wl_val (g_assign (v := .slice ((y1[(Int.toNat v51)]!).1) ((y1[(Int.toNat v51)]!).2.2.length) ((y1[(Int.toNat v51)]!).2.1)) rfl) rfl ?_
        refine wl_nil ?_
        refine hK64 _ _ ?_
        refine w_seq fun K66 hK66 => ?_
        refine w_region ?_
        refine wl_val (g_move (v := .slice ((y1[(Int.toNat v51)]!).1) ((y1[(Int.toNat v51)]!).2.2.length) ((y1[(Int.toNat v51)]!).2.1)) rfl) rfl ?_
        refine wl_val (q_len SL35 rfl (Vw.len (Tv.row (hp1.bel hB57) hg65))) rfl ?_
        refine wl_val (g_gtr (a := ((p1[(Int.toNat v51)]!).length : Int)) (b := 4) rfl rfl) rfl ?_
        refine wl_val (g_move (v := .bool (decide (((p1[(Int.toNat v51)]!).length : Int) > 4))) rfl) rfl ?_
        refine wl_guard (c := (decide (((p1[(Int.toNat v51)]!).length : Int) > 4)) = false) (val := .slice ((y1[(Int.toNat v51)]!).1) ((y1[(Int.toNat v51)]!).2.2.length) ((y1[(Int.toNat v51)]!).2.1)) (b := ((decide (((p1[(Int.toNat v51)]!).length : Int) > 4)) == false)) (gv_some rfl rfl rfl) beq_iff_eq (fun hc67 => ?_) ?_
        · have hq2 : ¬ (((p1[(Int.toNat v51)]!).length : Int) > 4) := (i_neg decide_eq_true_iff hc67)
          exact g_move (v := .slice ((y1[(Int.toNat v51)]!).1) ((y1[(Int.toNat v51)]!).2.2.length) ((y1[(Int.toNat v51)]!).2.1)) rfl
        obtain ⟨r69, hk70, hm⟩ := hm
        refine wl_guardE (X := Ext) (c := (decide (((p1[(Int.toNat v51)]!).length : Int) > 4)) = false) (val := .bool r69) (Ext.refl _) (b := ((decide (((p1[(Int.toNat v51)]!).length : Int) > 4)) == false)) (gv_some rfl rfl rfl) beq_iff_eq (fun hc68 => ?_) (fun w71 hE72 => ?_)
        · have hq2 : ¬ (((p1[(Int.toNat v51)]!).length : Int) > 4) := (i_neg decide_eq_true_iff hc68)
          exact (g_call (vs := #[.slice ((y1[(Int.toNat v51)]!).1) ((y1[(Int.toNat v51)]!).2.2.length) ((y1[(Int.toNat v51)]!).2.1)]) CF66 (args1 (if_pos hc68)) ((m_impl_arePuppets_fn ((Tv.row (hp1.bel hB57) hg65).up hS58) (hk70 hq2)).mono fun _ _ ⟨_, h1, h2, h3⟩ => ⟨by rw [h2, h1], h3⟩))
        have hB73 := hB57.trans (Ext.stp hE72 hS58.base)
        have hS74 := hS58.ext hE72
        refine wl_guard (c := (decide (((p1[(Int.toNat v51)]!).length : Int) > 4)) = false) (val := .bool (!r69)) (b := ((decide (((p1[(Int.toNat v51)]!).length : Int) > 4)) == false)) (gv_some rfl rfl rfl) beq_iff_eq (fun hc75 => ?_) ?_
        · have hq2 : ¬ (((p1[(Int.toNat v51)]!).length : Int) > 4) := (i_neg decide_eq_true_iff hc75)
          exact g_not (a := r69) (if_pos hc75)
        refine wl_val (g_pick_or (b := (decide (((p1[(Int.toNat v51)]!).length : Int) > 4))) (q := (!r69)) rfl rfl) rfl ?_
        refine wl_nil ?_
        refine hK66 _ _ ?_
        refine w_condI (p := ((((p1[(Int.toNat v51)]!).length : Int) > 4) ∨ (¬ (r69 = true)))) (b := ((decide (((p1[(Int.toNat v51)]!).length : Int) > 4)) || (!r69))) rfl (i_or decide_eq_true_iff (i_not Iff.rfl)) (fun h76 => ?_) (fun h76 => ?_)
        · replace hm := hm.1 h76
          refine w_seq fun K77 hK77 => ?_
          refine w_region ?_
          refine wl_val (g_assign (v := .bool false) rfl) rfl ?_
          refine wl_nil ?_
          refine hK77 _ _ ?_
          refine w_ret ?_
          repeat first | with_reducible refine q_then ?_ | with_reducible refine q_block ?_
          exact ret1 rfl (by decide) ⟨_, hm, rfl, toExt hB73⟩
        · replace hm := hm.2 h76
          refine w_skip ?_
          refine hK63 _ _ ?_
          refine w_region ?_
          obtain ⟨hg78, hm⟩ := hm
          refine wl_val (g_add (a := v51) (b := 1) rfl rfl hg78) rfl ?_
          refine wl_val (g_move (v := .int .i64 (v51 + 1)) rfl) rfl ?_
          refine wl_nil ?_
          exact ⟨((v51 + 1)), hm.2, ⟨rfl, rfl, rfl, trivial⟩, ⟨hm.1, hB73, hS74⟩⟩
      · replace hm := hm.2 h62
        refine w_exit ?_
        exact ⟨(), trivial, ⟨hm, hB57, hS58⟩⟩
    · rintro _ b_ w79 ⟨hm, hB80, hS81⟩
      show Wp _ _ _ _ (upds b_ []) w79
      refine w_seq fun K82 hK82 => ?_
      refine w_region ?_
      refine wl_val (g_assign (v := .bool true) rfl) rfl ?_
      refine wl_nil ?_
      refine hK82 _ _ ?_
      refine w_ret ?_
      repeat first | with_reducible refine q_then ?_ | with_reducible refine q_block ?_
      exact ret1 rfl (by decide) ⟨_, hm, rfl, toExt hB80⟩

theorem m_spec_LoadOf_fn {w : World} {a0 : Option Addr} {n0 c0 : Nat} {y0 : List PlayerD} {p0 : List PlayerC} {a1 : Option Addr} {n1 c1 : Nat} {p1 : List Int} {Q : (List Int) → Prop} (hp0 : Tv w.heap.size w a0 n0 c0 y0 p0) (hp1 : Vw w.heap.size w a1 n1 c1 p1) (hm : m_spec_LoadOf p0 p1 Q) :
    Fn Try.prog 34 #[.slice a0 n0 c0, .slice a1 n1 c1] w (fun v w' => ∃ (r0 : List Int) (a0 : Option Addr) (n0 c0 : Nat), Q r0 ∧ v = .slice a0 n0 c0 ∧ Ext w w' ∧ Sep w' w.heap.size [oS 3 a0 n0 c0 r0]) := by
  unfold m_spec_LoadOf at hm
  have hB0 := Below.refl w.heap.size w
  have hS0 : Sep w w.heap.size [] := Sep.nil (Nat.le_refl _)
  refine fn_of_wp Try.func34 rfl (by kernel_rfl) (Nat.le_of_ble_eq_true rfl) ?_
  refine w_seq fun K1 hK1 => ?_
  refine w_region ?_
  refine wl_val (g_assign (v := .slice none 0 0) rfl) rfl ?_
  refine wl_nil ?_
  refine hK1 _ _ ?_
  refine w_seq fun K2 hK2 => ?_
  refine w_region ?_
  refine wl_step rfl (q_lit0 (α := Int) rfl SL35 hS0) ?_
  rintro _ w3 ⟨a4, rfl, hS6, hE5⟩
  have hB8 := hB0.trans (Ext.stp hE5 hS0.base)
  refine wl_val (g_assign (v := .slice a4 0 0) rfl) rfl ?_
  refine wl_nil ?_
  refine hK2 _ _ ?_
  refine w_seq fun K9 hK9 => ?_
  refine w_seq fun K10 hK10 => ?_
  refine w_region ?_
  refine wl_val (g_move (v := .slice a0 n0 c0) rfl) rfl ?_
  refine wl_step rfl (g_call (vs := #[.slice a0 n0 c0]) CF22 (args1 rfl) (m_spec_PlayersOk_fn ((hp0.bel hB8).up hS6) hm)) ?_
  rintro _ w11 ⟨r14, hm, rfl, hE12⟩
  have hB15 := hB8.trans (Ext.stp hE12 hS6.base)
  have hS16 := hS6.ext hE12
  refine wl_val (g_not (a := r14) rfl) rfl ?_
  refine wl_nil ?_
  refine hK10 _ _ ?_
  refine w_condI (p := ¬ (r14 = true)) (b := (!r14)) rfl (i_not Iff.rfl) (fun h17 => ?_) (fun h17 => ?_)
  · replace hm := hm.1 h17
    refine w_seq fun K18 hK18 => ?_
    refine w_region ?_
    refine wl_val (g_move (v := .slice a4 0 0) rfl) rfl ?_
    refine wl_val (g_assign (v := .slice a4 0 0) rfl) rfl ?_
    refine wl_nil ?_
    refine hK18 _ _ ?_
    refine w_ret ?_
    repeat first | with_reducible refine q_then ?_ | with_reducible refine q_block ?_
    exact ret1 rfl (by decide) ⟨_, _, _, _, hm, rfl, toExt hB15, hS16⟩
  · replace hm := hm.2 h17
    refine w_skip ?_
    refine hK9 _ _ ?_
    refine w_cut (σ := List Int × Option Addr × Nat × Nat) (fun ⟨x233, a234, n235, c236⟩ => [(5, .slice a234 n235 c236)]) (fun ⟨x233, a234, n235, c236⟩ w' => m_spec_LoadOf_K2 Q x233 ∧ Below w.heap.size w w' ∧ Sep w' w.heap.size [oS 3 a234 n235 c236 (x233 : List Int)]) ?_ ?_
    · refine w_seq fun K238 hK238 => ?_
      refine w_region ?_
      refine wl_val (g_assign (v := .int .i64 0) rfl) rfl ?_
      refine wl_nil ?_
      refine hK238 _ _ ?_
      refine w_block ?_
      obtain ⟨I244, μ245, h0246, hr247⟩ := hm
      refine w_for (σ := List Int × Option Addr × Nat × Nat × Int) (fun ⟨x239, a240, n241, c242, v243⟩ => [(0, .slice a0 n0 c0), (1, .slice a1 n1 c1), (5, .slice a240 n241 c242), (6, .int .i64 v243)]) (fun ⟨x239, a240, n241, c242, v243⟩ w' => I244 x239 v243 ∧ Below w.heap.size w w' ∧ Sep w' w.heap.size [oS 3 a240 n241 c242 (x239 : List Int)]) (fun ⟨x239, a240, n241, c242, v243⟩ => μ245 x239 v243) ([], a4, 0, 0, 0) ⟨rfl, rfl, rfl, rfl, trivial⟩ ⟨h0246, hB15, hS16⟩ ?_
      rintro ⟨x239, a240, n241, c242, v243⟩ b_ w248 ⟨hi_, hB249, hS250⟩
      show Wp _ _ _ _ (upds b_ [(0, .slice a0 n0 c0), (1, .slice a1 n1 c1), (5, .slice a240 n241 c242), (6, .int .i64 v243)]) w248
      have hm := hr247 x239 v243 hi_
      refine w_seq fun K252 hK252 => ?_
      refine w_seq fun K253 hK253 => ?_
      refine w_region ?_
      refine wl_val (g_move (v := .int .i64 v243) rfl) rfl ?_
      refine wl_val (g_move (v := .slice a0 n0 c0) rfl) rfl ?_
      refine wl_val (q_len SL30 rfl (Tv.len (hp0.bel hB249))) rfl ?_
      refine wl_val (g_lss (a := v243) (b := (p0.length : Int)) rfl rfl) rfl ?_
      refine wl_nil ?_
      refine hK253 _ _ ?_
      refine w_condI (p := v243 < (p0.length : Int)) (b := (decide (v243 < (p0.length : Int)))) rfl decide_eq_true_iff (fun h254 => ?_) (fun h254 => ?_)
      · replace hm := hm.1 h254
        refine w_skip ?_
        refine hK252 _ _ ?_
        refine w_cut (σ := List Int × Option Addr × Nat × Nat) (fun ⟨x255, a256, n257, c258⟩ => [(0, .slice a0 n0 c0), (1, .slice a1 n1 c1), (5, .slice a256 n257 c258), (6, .int .i64 v243)]) (fun ⟨x255, a256, n257, c258⟩ w' => m_spec_LoadOf_K1 v243 (fun x239' v243' => I244 x239' v243' ∧ μ245 x239' v243' < μ245 x239 v243) x255 ∧ Below w.heap.size w w' ∧ Sep w' w.heap.size [oS 3 a256 n257 c258 (x255 : List Int)]) ?_ ?_
        · refine w_block ?_
          refine w_seq fun K260 hK260 => ?_
          refine w_region ?_
          refine wl_val (g_assign (v := .int .i64 0) rfl) rfl ?_
          refine wl_nil ?_
          refine hK260 _ _ ?_
          refine w_cut (σ := Int) (fun v261 => [(0, .slice a0 n0 c0), (1, .slice a1 n1 c1), (5, .slice a240 n241 c242), (6, .int .i64 v243), (7, .int .i64 v261)]) (fun v261 w' => m_spec_LoadOf_K0 x239 (m_spec_LoadOf_K1 v243 (fun x239' v243' => I244 x239' v243' ∧ μ245 x239' v243' < μ245 x239 v243)) v261 ∧ Below w.heap.size w w' ∧ Sep w' w.heap.size [oS 3 a240 n241 c242 (x239 : List Int)]) ?_ ?_
          · refine w_seq fun K263 hK263 => ?_
            refine w_region ?_
            refine wl_val (g_assign (v := .int .i64 0) rfl) rfl ?_
            refine wl_nil ?_
            refine hK263 _ _ ?_
            refine w_block ?_
            obtain ⟨I266, μ267, h0268, hr269⟩ := hm
            refine w_for (σ := Int × Int) (fun ⟨v264, v265⟩ => [(0, .slice a0 n0 c0), (1, .slice a1 n1 c1), (5, .slice a240 n241 c242), (6, .int .i64 v243), (7, .int .i64 v264), (8, .int .i64 v265)]) (fun ⟨v264, v265⟩ w' => I266 v264 v265 ∧ Below w.heap.size w w' ∧ Sep w' w.heap.size [oS 3 a240 n241 c242 (x239 : List Int)]) (fun ⟨v264, v265⟩ => μ267 v264 v265) (0, 0) ⟨rfl, rfl, rfl, rfl, rfl, rfl, trivial⟩ ⟨h0268, hB249, hS250⟩ ?_
            rintro ⟨v264, v265⟩ b_ w270 ⟨hi_, hB271, hS272⟩
            show Wp _ _ _ _ (upds b_ [(0, .slice a0 n0 c0), (1, .slice a1 n1 c1), (5, .slice a240 n241 c242), (6, .int .i64 v243), (7, .int .i64 v264), (8, .int .i64 v265)]) w270
            have hm := hr269 v264 v265 hi_
            refine w_seq fun K274 hK274 => ?_
            refine w_seq fun K275 hK275 => ?_
            refine w_region ?_
            refine wl_val (g_move (v := .int .i64 v265) rfl) rfl ?_
            refine wl_val (g_move (v := .slice a1 n1 c1) rfl) rfl ?_
            refine wl_val (q_len SL35 rfl (Vw.len (hp1.bel hB271))) rfl ?_
            refine wl_val (g_lss (a := v265) (b := (p1.length : Int)) rfl rfl) rfl ?_
            refine wl_nil ?_
            refine hK275 _ _ ?_
            refine w_condI (p := v265 < (p1.length : Int)) (b := (decide (v265 < (p1.length : Int)))) rfl decide_eq_true_iff (fun h276 => ?_) (fun h276 => ?_)
            · replace hm := hm.1 h276
              refine w_skip ?_
              refine hK274 _ _ ?_
              refine w_seq fun K277 hK277 => ?_
              refine w_block ?_
              refine w_seq fun K278 hK278 => ?_
              refine w_region ?_
              refine wl_val (g_move (v := .slice a1 n1 c1) rfl) rfl ?_
              refine wl_val (g_move (v := .int .i64 v265) rfl) rfl ?_
              obtain ⟨hg279, hm⟩ := hm
              refine wl_val (q_index (i := v265) SL35 rfl rfl (hp1.bel hB271) hg279) rfl ?_
              refine wl_val (q_load (i := v265) (v := .int .i64 (p1[(Int.toNat v265)]!)) ON3 (hp1.bel hB271) hg279 rfl rfl) rfl ?_
              refine wl_val (g_move (v := .int .i64 v243) rfl) rfl ?_
              refine wl_val (g_eql (a := p1[(Int.toNat v265)]!) (b := v243) rfl rfl) rfl ?_
              refine wl_nil ?_
              refine hK278 _ _ ?_
              refine w_condI (p := p1[(Int.toNat v265)]! = v243) (b := (decide (p1[(Int.toNat v265)]! = v243))) rfl decide_eq_true_iff (fun h280 => ?_) (fun h280 => ?_)
              · replace hm := hm.1 h280
                refine w_region ?_
                refine wl_val (g_move (v := .int .i64 v264) rfl) rfl ?_
                obtain ⟨hg281, hm⟩ := hm
                refine wl_val (g_add (a := v264) (b := 1) rfl rfl hg281) rfl ?_
                refine wl_val (g_assign (v := .int .i64 (v264 + 1)) rfl) rfl ?_
                refine wl_nil ?_
                refine hK277 _ _ ?_
                refine w_region ?_
                refine wl_val (g_move (v := .int .i64 v265) rfl) rfl ?_
                obtain ⟨hg282, hm⟩ := hm
                refine wl_val (g_add (a := v265) (b := 1) rfl rfl hg282) rfl ?_
                refine wl_val (g_assign (v := .int .i64 (v265 + 1)) rfl) rfl ?_
                refine wl_nil ?_
                exact ⟨((v264 + 1), (v265 + 1)), hm.2, ⟨rfl, rfl, rfl, rfl, rfl, rfl, trivial⟩, ⟨hm.1, hB271, hS272⟩⟩
              · replace hm := hm.2 h280
                refine w_skip ?_
                refine hK277 _ _ ?_
                refine w_region ?_
                refine wl_val (g_move (v := .int .i64 v265) rfl) rfl ?_
                obtain ⟨hg283, hm⟩ := hm
                refine wl_val (g_add (a := v265) (b := 1) rfl rfl hg283) rfl ?_
                refine wl_val (g_assign (v := .int .i64 (v265 + 1)) rfl) rfl ?_
                refine wl_nil ?_
                exact ⟨(v264, (v265 + 1)), hm.2, ⟨rfl, rfl, rfl, rfl, rfl, rfl, trivial⟩, ⟨hm.1, hB271, hS272⟩⟩
            · replace hm := hm.2 h276
              refine w_exit ?_
              exact ⟨(v264), ⟨rfl, rfl, rfl, rfl, rfl, trivial⟩, ⟨hm, hB271, hS272⟩⟩
          · rintro v261 b_ w284 ⟨hm, hB285, hS286⟩
            show Wp _ _ _ _ (upds b_ [(0, .slice a0 n0 c0), (1, .slice a1 n1 c1), (5, .slice a240 n241 c242), (6, .int .i64 v243), (7, .int .i64 v261)]) w284
            refine w_region ?_
            refine wl_val (g_move (v := .slice a240 n241 c242) rfl) rfl ?_
            refine wl_val (g_move (v := .int .i64 v261) rfl) rfl ?_
            refine wl_step rfl (q_lit1 (y := (v261 : Int)) SL35 rfl rfl (by decide) hS286) ?_
            rintro _ w287 ⟨a288, rfl, hS290, hE289⟩
            have hB292 := hB285.trans (Ext.stp hE289 hS286.base)
            have hS298 := hS290.f1
            obtain ⟨hg299, hm⟩ := hm
            refine wl_step rfl (q_append SL35 rfl rfl hS298 (oS.vw hS298.g1) hg299 (by decide)) ?_
            rintro _ w293 ⟨a294, c295, rfl, hS297, hb296⟩
            have hB300 := hB292.trans hb296
            refine wl_val (g_assign (v := .slice a294 (n241 + 1) c295) rfl) rfl ?_
            refine wl_nil ?_
            have hS301 := hS297.f1
            have hS302 := hS301.tail
            exact ⟨((x239 ++ ([v261])), a294, (n241 + 1), c295), ⟨rfl, rfl, rfl, rfl, trivial⟩, ⟨hm, hB300, hS302⟩⟩
        · rintro ⟨x255, a256, n257, c258⟩ b_ w303 ⟨hm, hB304, hS305⟩
          show Wp _ _ _ _ (upds b_ [(0, .slice a0 n0 c0), (1, .slice a1 n1 c1), (5, .slice a256 n257 c258), (6, .int .i64 v243)]) w303
          refine w_region ?_
          refine wl_val (g_move (v := .int .i64 v243) rfl) rfl ?_
          obtain ⟨hg306, hm⟩ := hm
          refine wl_val (g_add (a := v243) (b := 1) rfl rfl hg306) rfl ?_
          refine wl_val (g_assign (v := .int .i64 (v243 + 1)) rfl) rfl ?_
          refine wl_nil ?_
          exact ⟨(x255, a256, n257, c258, (v243 + 1)), hm.2, ⟨rfl, rfl, rfl, rfl, trivial⟩, ⟨hm.1, hB304, hS305⟩⟩
      · replace hm := hm.2 h254
        refine w_exit ?_
        exact ⟨(x239, a240, n241, c242), ⟨rfl, trivial⟩, ⟨hm, hB249, hS250⟩⟩
    · rintro ⟨x233, a234, n235, c236⟩ b_ w307 ⟨hm, hB308, hS309⟩
      show Wp _ _ _ _ (upds b_ [(5, .slice a234 n235 c236)]) w307
      refine w_seq fun K310 hK310 => ?_
      refine w_region ?_
      refine wl_val (g_move (v := .slice a234 n235 c236) rfl) rfl ?_
      refine wl_val (g_assign (v := .slice a234 n235 c236) rfl) rfl ?_
      refine wl_nil ?_
      refine hK310 _ _ ?_
      refine w_ret ?_
      repeat first | with_reducible refine q_then ?_ | with_reducible refine q_block ?_
      exact ret1 rfl (by decide) ⟨_, _, _, _, hm, rfl, toExt hB308, hS309⟩

theorem m_impl_LoadOf_fn {w : World} {a0 : Option Addr} {n0 c0 : Nat} {y0 : List PlayerD} {p0 : List PlayerC} {a1 : Option Addr} {n1 c1 : Nat} {p1 : List Int} {Q : (List Int) → Prop} (hp0 : Tv w.heap.size w a0 n0 c0 y0 p0) (hp1 : Vw w.heap.size w a1 n1 c1 p1) (hm : m_impl_LoadOf p0 p1 Q) :
    Fn Try.prog 35 #[.slice a0 n0 c0, .slice a1 n1 c1] w (fun v w' => ∃ (r0 : List Int) (a0 : Option Addr) (n0 c0 : Nat), Q r0 ∧ v = .slice a0 n0 c0 ∧ Ext w w' ∧ Sep w' w.heap.size [oS 3 a0 n0 c0 r0]) := by
  unfold m_impl_LoadOf at hm
  have hB0 := Below.refl w.heap.size w
  have hS0 : Sep w w.heap.size [] := Sep.nil (Nat.le_refl _)
  refine fn_of_wp Try.func35 rfl (by kernel_rfl) (Nat.le_of_ble_eq_true rfl) ?_
  refine w_seq fun K1 hK1 => ?_
  refine w_region ?_
  refine wl_val (g_assign (v := .slice none 0 0) rfl) rfl ?_
  refine wl_nil ?_
  refine hK1 _ _ ?_
  refine w_seq fun K2 hK2 => ?_
  refine w_seq fun K3 hK3 => ?_
  refine w_region ?_
  refine wl_val (g_move (v := .slice a0 n0 c0) rfl) rfl ?_
  refine wl_step rfl (g_call (vs := #[.slice a0 n0 c0]) CF24 (args1 rfl) (m_impl_PlayersOk_fn ((hp0.bel hB0).up hS0) hm)) ?_
  rintro _ w4 ⟨r7, hm, rfl, hE5⟩
  have hB8 := hB0.trans (Ext.stp hE5 hS0.base)
  have hS9 := hS0.ext hE5
  refine wl_val (g_not (a := r7) rfl) rfl ?_
  refine wl_nil ?_
  refine hK3 _ _ ?_
  refine w_condI (p := ¬ (r7 = true)) (b := (!r7)) rfl (i_not Iff.rfl) (fun h10 => ?_) (fun h10 => ?_)
  · replace hm := hm.1 h10
    refine w_seq fun K11 hK11 => ?_
    refine w_region ?_
    refine wl_val (g_assign (v := .slice none 0 0) rfl) rfl ?_
    refine wl_nil ?_
    refine hK11 _ _ ?_
    refine w_ret ?_
    have hS12 := hS9.nilS (α := Int) (E := 3)
    repeat first | with_reducible refine q_then ?_ | with_reducible refine q_block ?_
    exact ret1 rfl (by decide) ⟨_, _, _, _, hm, rfl, toExt hB8, hS12⟩
  · replace hm := hm.2 h10
    refine w_skip ?_
    refine hK2 _ _ ?_
    refine w_seq fun K14 hK14 => ?_
    refine w_region ?_
    refine wl_val (g_move (v := .slice a0 n0 c0) rfl) rfl ?_
    refine wl_val (q_len SL30 rfl (Tv.len (hp0.bel hB8))) rfl ?_
    obtain ⟨hg15, hm⟩ := hm
    refine wl_step rfl (q_make (y := (0 : Int)) SL35 rfl rfl hg15.1 hg15.2 (by decide) hS9) ?_
    rintro _ w16 ⟨a17, rfl, hS19, hE18⟩
    have hB21 := hB8.trans (Ext.stp hE18 hS9.base)
    refine wl_val (g_assign (v := .slice a17 (Int.toNat (p0.length : Int)) (Int.toNat (p0.length : Int))) rfl) rfl ?_
    refine wl_nil ?_
    refine hK14 _ _ ?_
    refine w_cut (σ := List Int) (fun x89 => [(5, .slice a17 (Int.toNat (p0.length : Int)) (Int.toNat (p0.length : Int)))]) (fun x89 w' => m_impl_LoadOf_K0 Q x89 ∧ Below w.heap.size w w' ∧ Sep w' w.heap.size [oS 3 a17 (Int.toNat (p0.length : Int)) (Int.toNat (p0.length : Int)) (x89 : List Int)]) ?_ ?_
    · refine w_seq fun K91 hK91 => ?_
      refine w_region ?_
      refine wl_val (g_move (v := .slice a1 n1 c1) rfl) rfl ?_
      refine wl_val (q_len SL35 rfl (Vw.len (hp1.bel hB21))) rfl ?_
      refine wl_val (g_move (v := .int .i64 0) rfl) rfl ?_
      refine wl_nil ?_
      refine hK91 _ _ ?_
      refine w_block ?_
      obtain ⟨I94, μ95, h096, hr97⟩ := hm
      refine w_for (σ := List Int × Int) (fun ⟨x92, v93⟩ => [(0, .slice a0 n0 c0), (5, .slice a17 (Int.toNat (p0.length : Int)) (Int.toNat (p0.length : Int))), (14, .slice a1 n1 c1), (15, .int .i64 (p1.length : Int)), (16, .int .i64 v93)]) (fun ⟨x92, v93⟩ w' => I94 x92 v93 ∧ Below w.heap.size w w' ∧ Sep w' w.heap.size [oS 3 a17 (Int.toNat (p0.length : Int)) (Int.toNat (p0.length : Int)) (x92 : List Int)]) (fun ⟨x92, v93⟩ => μ95 x92 v93) (List.replicate (Int.toNat (p0.length : Int)) (0 : Int), 0) ⟨rfl, rfl, rfl, rfl, rfl, trivial⟩ ⟨h096, hB21, hS19⟩ ?_
      rintro ⟨x92, v93⟩ b_ w98 ⟨hi_, hB99, hS100⟩
      show Wp _ _ _ _ (upds b_ [(0, .slice a0 n0 c0), (5, .slice a17 (Int.toNat (p0.length : Int)) (Int.toNat (p0.length : Int))), (14, .slice a1 n1 c1), (15, .int .i64 (p1.length : Int)), (16, .int .i64 v93)]) w98
      have hm := hr97 x92 v93 hi_
      refine w_seq fun K102 hK102 => ?_
      refine w_region ?_
      refine wl_val (g_lss (a := v93) (b := (p1.length : Int)) rfl rfl) rfl ?_
      refine wl_nil ?_
      refine hK102 _ _ ?_
      refine w_seq fun K103 hK103 => ?_
      refine w_condI (p := v93 < (p1.length : Int)) (b := (decide (v93 < (p1.length : Int)))) rfl decide_eq_true_iff (fun h104 => ?_) (fun h104 => ?_)
      · replace hm := hm.1 h104
        refine w_skip ?_
        refine hK103 _ _ ?_
        refine w_seq fun K105 hK105 => ?_
        refine w_block ?_
        refine w_seq fun K106 hK106 => ?_
        refine w_region ?_
        obtain ⟨hg107, hm⟩ := hm
        refine wl_val (q_index (i := v93) SL35 rfl rfl (hp1.bel hB99) hg107) rfl ?_
        refine wl_val (q_load (i := v93) (v := .int .i64 (p1[(Int.toNat v93)]!)) ON3 (hp1.bel hB99) hg107 rfl rfl) rfl ?_
        refine wl_val (g_assign (v := .int .i64 (p1[(Int.toNat v93)]!)) rfl) rfl ?_
        refine wl_nil ?_
        refine hK106 _ _ ?_
        refine w_seq fun K108 hK108 => ?_
        refine w_region ?_
        refine wl_val (g_move (v := .int .i64 (p1[(Int.toNat v93)]!)) rfl) rfl ?_
        refine wl_val (g_move (v := .slice a0 n0 c0) rfl) rfl ?_
        refine wl_val (q_len SL30 rfl (Tv.len (hp0.bel hB99))) rfl ?_
        obtain ⟨hg109, hm⟩ := hm
        refine wl_val (g_sub (a := (p0.length : Int)) (b := 1) rfl rfl hg109) rfl ?_
        refine wl_step rfl (g_call (vs := #[.int .i64 (p1[(Int.toNat v93)]!), .int .i64 0, .int .i64 ((p0.length : Int) - 1)]) CF62 (args3 rfl rfl rfl) (m_impl_within_fn (p1[(Int.toNat v93)]!) 0 ((p0.length : Int) - 1) hm)) ?_
        rintro _ w110 ⟨r113, hm, rfl, hE111⟩
        have hB114 := hB99.trans (Ext.stp hE111 hS100.base)
        have hS115 := hS100.ext hE111
        refine wl_nil ?_
        refine hK108 _ _ ?_
        refine w_condI (p := r113 = true) (b := r113) rfl Iff.rfl (fun h116 => ?_) (fun h116 => ?_)
        · replace hm := hm.1 h116
          refine w_region ?_
          refine wl_val (g_move (v := .slice a17 (Int.toNat (p0.length : Int)) (Int.toNat (p0.length : Int))) rfl) rfl ?_
          refine wl_val (g_move (v := .int .i64 (p1[(Int.toNat v93)]!)) rfl) rfl ?_
          obtain ⟨hg117, hm⟩ := hm
          refine wl_val (q_index (i := p1[(Int.toNat v93)]!) SL35 rfl rfl (oS.vw hS115.g0) hg117) rfl ?_
          refine wl_val (q_load (i := p1[(Int.toNat v93)]!) (v := .int .i64 (x92[(Int.toNat (p1[(Int.toNat v93)]!))]!)) ON3 (oS.vw hS115.g0) hg117 rfl rfl) rfl ?_
          obtain ⟨hg118, hm⟩ := hm
          refine wl_val (g_add (a := x92[(Int.toNat (p1[(Int.toNat v93)]!))]!) (b := 1) rfl rfl hg118) rfl ?_
          obtain ⟨hg119, hm⟩ := hm
          refine wl_val (q_index (i := p1[(Int.toNat v93)]!) SL35 rfl rfl (oS.vw hS115.g0) hg119) rfl ?_
          refine wl_step rfl (q_store (i := p1[(Int.toNat v93)]!) (v := ((x92[(Int.toNat (p1[(Int.toNat v93)]!))]! + 1) : Int)) hS115 ON3.sz hg119 rfl rfl rfl) ?_
          rintro _ w120 ⟨rfl, hS121, hb122⟩
          have hB123 := hB114.trans hb122
          refine wl_nil ?_
          refine hK105 _ _ ?_
          refine w_region ?_
          obtain ⟨hg124, hm⟩ := hm
          refine wl_val (g_add (a := v93) (b := 1) rfl rfl hg124) rfl ?_
          refine wl_val (g_move (v := .int .i64 (v93 + 1)) rfl) rfl ?_
          refine wl_nil ?_
          exact ⟨((x92.set (Int.toNat (p1[(Int.toNat v93)]!)) (x92[(Int.toNat (p1[(Int.toNat v93)]!))]! + 1)), (v93 + 1)), hm.2, ⟨rfl, rfl, rfl, rfl, rfl, trivial⟩, ⟨hm.1, hB123, hS121⟩⟩
        · replace hm := hm.2 h116
          refine w_skip ?_
          refine hK105 _ _ ?_
          refine w_region ?_
          obtain ⟨hg125, hm⟩ := hm
          refine wl_val (g_add (a := v93) (b := 1) rfl rfl hg125) rfl ?_
          refine wl_val (g_move (v := .int .i64 (v93 + 1)) rfl) rfl ?_
          refine wl_nil ?_
          exact ⟨(x92, (v93 + 1)), hm.2, ⟨rfl, rfl, rfl, rfl, rfl, trivial⟩, ⟨hm.1, hB114, hS115⟩⟩
      · replace hm := hm.2 h104
        refine w_exit ?_
        exact ⟨(x92), ⟨rfl, trivial⟩, ⟨hm, hB99, hS100⟩⟩
    · rintro x89 b_ w126 ⟨hm, hB127, hS128⟩
      show Wp _ _ _ _ (upds b_ [(5, .slice a17 (Int.toNat (p0.length : Int)) (Int.toNat (p0.length : Int)))]) w126
      refine w_seq fun K129 hK129 => ?_
      refine w_region ?_
      refine wl_val (g_move (v := .slice a17 (Int.toNat (p0.length : Int)) (Int.toNat (p0.length : Int))) rfl) rfl ?_
      refine wl_val (g_assign (v := .slice a17 (Int.toNat (p0.length : Int)) (Int.toNat (p0.length : Int))) rfl) rfl ?_
      refine wl_nil ?_
      refine hK129 _ _ ?_
      refine w_ret ?_
      repeat first | with_reducible refine q_then ?_ | with_reducible refine q_block ?_
      exact ret1 rfl (by decide) ⟨_, _, _, _, hm, rfl, toExt hB127, hS128⟩

theorem m_laws_markIntS_fn {w : World} {B_ : Nat} {L_ : List Ob} {a0 : Option Addr} {n0 c0 : Nat} {p0 : List Int} {Q : Int → (List Int) → Prop} (hS0 : Sep w B_ (oS 3 a0 n0 c0 (p0 : List Int) :: L_)) (p1 : Int) (hm : m_laws_markIntS p0 p1 Q) :
    Fn Try.prog 37 #[.slice a0 n0 c0, .int .i64 p1] w (fun v w' => ∃ (r0 : Int) (x0 : List Int), Q r0 x0 ∧ v = .int .i64 r0 ∧ Below B_ w w' ∧ Sep w' B_ (oS 3 a0 n0 c0 x0 :: L_)) := by
  unfold m_laws_markIntS at hm
  have hB0 := Below.refl B_ w
  refine fn_of_wp Try.func37 rfl (by kernel_rfl) (Nat.le_of_ble_eq_true rfl) ?_
  refine w_seq fun K2 hK2 => ?_
  refine w_region ?_
  refine wl_val (g_assign (v := .int .i64 0) rfl) rfl ?_
  refine wl_nil ?_
  refine hK2 _ _ ?_
  refine w_cut (σ := List Int × Int) (fun ⟨x48, v49⟩ => [(1, .int .i64 v49)]) (fun ⟨x48, v49⟩ w' => m_laws_markIntS_K0 Q x48 v49 ∧ Below B_ w w' ∧ Sep w' B_ (oS 3 a0 n0 c0 (x48 : List Int) :: L_)) ?_ ?_
  · refine w_seq fun K51 hK51 => ?_
    refine w_region ?_
    refine wl_val (g_assign (v := .int .i64 0) rfl) rfl ?_
    refine wl_nil ?_
    refine hK51 _ _ ?_
    refine w_block ?_
    obtain ⟨I55, μ56, h057, hr58⟩ := hm
    refine w_for (σ := List Int × Int × Int) (fun ⟨x52, v53, v54⟩ => [(0, .slice a0 n0 c0), (1, .int .i64 v53), (5, .int .i64 v54)]) (fun ⟨x52, v53, v54⟩ w' => I55 x52 v53 v54 ∧ Below B_ w w' ∧ Sep w' B_ (oS 3 a0 n0 c0 (x52 : List Int) :: L_)) (fun ⟨x52, v53, v54⟩ => μ56 x52 v53 v54) (p0, p1, 0) ⟨rfl, rfl, rfl, trivial⟩ ⟨h057, hB0, hS0⟩ ?_
    rintro ⟨x52, v53, v54⟩ b_ w59 ⟨hi_, hB60, hS61⟩
    show Wp _ _ _ _ (upds b_ [(0, .slice a0 n0 c0), (1, .int .i64 v53), (5, .int .i64 v54)]) w59
    have hm := hr58 x52 v53 v54 hi_
    refine w_seq fun K63 hK63 => ?_
    refine w_seq fun K64 hK64 => ?_
    refine w_region ?_
    refine wl_val (g_move (v := .int .i64 v54) rfl) rfl ?_
    refine wl_val (g_move (v := .slice a0 n0 c0) rfl) rfl ?_
    refine wl_val (q_len SL35 rfl (Vw.len (oS.vw hS61.g0))) rfl ?_
    refine wl_val (g_lss (a := v54) (b := (x52.length : Int)) rfl rfl) rfl ?_
    refine wl_nil ?_
    refine hK64 _ _ ?_
    refine w_condI (p := v54 < (x52.length : Int)) (b := (decide (v54 < (x52.length : Int)))) rfl decide_eq_true_iff (fun h65 => ?_) (fun h65 => ?_)
    · replace hm := hm.1 h65
      refine w_skip ?_
      refine hK63 _ _ ?_
      refine w_seq fun K66 hK66 => ?_
      refine w_block ?_
      refine w_seq fun K67 hK67 => ?_
      refine w_region ?_
      refine wl_val (g_move (v := .slice a0 n0 c0) rfl) rfl ?_
      refine wl_val (g_move (v := .int .i64 v54) rfl) rfl ?_
      refine wl_val (g_move (v := .int .i64 v53) rfl) rfl ?_
      obtain ⟨hg68, hm⟩ := hm
      refine wl_val (q_index (i := v54) SL35 rfl rfl (oS.vw hS61.g0) hg68) rfl ?_
      refine wl_step rfl (q_store (i := v54) (v := (v53 : Int)) hS61 ON3.sz hg68 rfl rfl rfl) ?_
      rintro _ w69 ⟨rfl, hS70, hb71⟩
      have hB72 := hB60.trans hb71
      refine wl_nil ?_
      refine hK67 _ _ ?_
      refine w_region ?_
      refine wl_val (g_move (v := .int .i64 v53) rfl) rfl ?_
      obtain ⟨hg73, hm⟩ := hm
      refine wl_val (g_add (a := v53) (b := 1) rfl rfl hg73) rfl ?_
      refine wl_val (g_assign (v := .int .i64 (v53 + 1)) rfl) rfl ?_
      refine wl_nil ?_
      refine hK66 _ _ ?_
      refine w_region ?_
      refine wl_val (g_move (v := .int .i64 v54) rfl) rfl ?_
      obtain ⟨hg74, hm⟩ := hm
      refine wl_val (g_add (a := v54) (b := 1) rfl rfl hg74) rfl ?_
      refine wl_val (g_assign (v := .int .i64 (v54 + 1)) rfl) rfl ?_
      refine wl_nil ?_
      exact ⟨((x52.set (Int.toNat v54) v53), (v53 + 1), (v54 + 1)), hm.2, ⟨rfl, rfl, rfl, trivial⟩, ⟨hm.1, hB72, hS70⟩⟩
    · replace hm := hm.2 h65
      refine w_exit ?_
      exact ⟨(x52, v53), ⟨rfl, trivial⟩, ⟨hm, hB60, hS61⟩⟩
  · rintro ⟨x48, v49⟩ b_ w75 ⟨hm, hB76, hS77⟩
    show Wp _ _ _ _ (upds b_ [(1, .int .i64 v49)]) w75
    refine w_seq fun K78 hK78 => ?_
    refine w_region ?_
    refine wl_val (g_move (v := .int .i64 v49) rfl) rfl ?_
    refine wl_val (g_assign (v := .int .i64 v49) rfl) rfl ?_
    refine wl_nil ?_
    refine hK78 _ _ ?_
    refine w_ret ?_
    repeat first | with_reducible refine q_then ?_ | with_reducible refine q_block ?_
    exact ret1 rfl (by decide) ⟨_, _, hm, rfl, hB76, hS77⟩

theorem m_laws_markPlayerS_fn {w : World} {B_ : Nat} {L_ : List Ob} {a0 : Option Addr} {n0 c0 : Nat} {p0 : List PlayerC} {y0 : List PlayerD} {Q : Int → (List PlayerC) → Prop} (hS0 : Sep w B_ (oS 61 a0 n0 c0 (y0 : List PlayerD) :: oT 3 (y0 : List PlayerD) :: L_)) (hep0 : ers y0 = p0) (p1 : Int) (hm : m_laws_markPlayerS p0 p1 Q) :
    Fn Try.prog 36 #[.slice a0 n0 c0, .int .i64 p1] w (fun v w' => ∃ (r0 : Int) (x0 : List PlayerC) (yy0 : List PlayerD), Q r0 x0 ∧ ers yy0 = x0 ∧ v = .int .i64 r0 ∧ Below B_ w w' ∧ Sep w' B_ (oS 61 a0 n0 c0 yy0 :: oT 3 yy0 :: L_)) := by
  unfold m_laws_markPlayerS at hm
  have hB0 := Below.refl B_ w
  refine fn_of_wp Try.func36 rfl (by kernel_rfl) (Nat.le_of_ble_eq_true rfl) ?_
  refine w_seq fun K4 hK4 => ?_
  refine w_region ?_
  refine wl_val (g_assign (v := .int .i64 0) rfl) rfl ?_
  refine wl_nil ?_
  refine hK4 _ _ ?_
  refine w_cut (σ := List PlayerC × List PlayerD × Int) (fun ⟨x103, y104, v106⟩ => [(1, .int .i64 v106)]) (fun ⟨x103, y104, v106⟩ w' => m_laws_markPlayerS_K0 Q x103 v106 ∧ ers y104 = x103 ∧ Below B_ w w' ∧ Sep w' B_ (oS 61 a0 n0 c0 (y104 : List PlayerD) :: oT 3 (y104 : List PlayerD) :: L_)) ?_ ?_
  · refine w_seq fun K108 hK108 => ?_
    refine w_region ?_
    refine wl_val (g_assign (v := .int .i64 0) rfl) rfl ?_
    refine wl_nil ?_
    refine hK108 _ _ ?_
    refine w_block ?_
    obtain ⟨I114, μ115, h0116, hr117⟩ := hm
    refine w_for (σ := List PlayerC × List PlayerD × Int × Int) (fun ⟨x109, y110, v112, v113⟩ => [(0, .slice a0 n0 c0), (1, .int .i64 v112), (5, .int .i64 v113)]) (fun ⟨x109, y110, v112, v113⟩ w' => I114 x109 v112 v113 ∧ ers y110 = x109 ∧ Below B_ w w' ∧ Sep w' B_ (oS 61 a0 n0 c0 (y110 : List PlayerD) :: oT 3 (y110 : List PlayerD) :: L_)) (fun ⟨x109, y110, v112, v113⟩ => μ115 x109 v112 v113) (p0, y0, p1, 0) ⟨rfl, rfl, rfl, trivial⟩ ⟨h0116, hep0, hB0, hS0⟩ ?_
    rintro ⟨x109, y110, v112, v113⟩ b_ w118 ⟨hi_, he111, hB119, hS120⟩
    show Wp _ _ _ _ (upds b_ [(0, .slice a0 n0 c0), (1, .int .i64 v112), (5, .int .i64 v113)]) w118
    have hm := hr117 x109 v112 v113 hi_
    refine w_seq fun K122 hK122 => ?_
    refine w_seq fun K123 hK123 => ?_
    refine w_region ?_
    refine wl_val (g_move (v := .int .i64 v113) rfl) rfl ?_
    refine wl_val (g_move (v := .slice a0 n0 c0) rfl) rfl ?_
    refine wl_val (q_len SL30 rfl (Tv.len (oT.vw hS120.g0 hS120.g1 he111))) rfl ?_
    refine wl_val (g_lss (a := v113) (b := (x109.length : Int)) rfl rfl) rfl ?_
    refine wl_nil ?_
    refine hK123 _ _ ?_
    refine w_condI (p := v113 < (x109.length : Int)) (b := (decide (v113 < (x109.length : Int)))) rfl decide_eq_true_iff (fun h124 => ?_) (fun h124 => ?_)
    · replace hm := hm.1 h124
      refine w_skip ?_
      refine hK122 _ _ ?_
      refine w_seq fun K125 hK125 => ?_
      refine w_block ?_
      refine w_seq fun K126 hK126 => ?_
      refine w_region ?_
      refine wl_val (g_move (v := .slice a0 n0 c0) rfl) rfl ?_
      refine wl_val (g_move (v := .int .i64 v113) rfl) rfl ?_
      obtain ⟨hg127, hm⟩ := hm
      refine wl_val (q_index (i := v113) SL30 rfl rfl (Tv.o (oT.vw hS120.g0 hS120.g1 he111)) (Tv.g (oT.vw hS120.g0 hS120.g1 he111) hg127)) rfl ?_
      refine wl_val (g_fieldAddr (q := (adr a0).add ((Int.toNat v113) * El.m PlayerD)) FL61_0 ON35 rfl) rfl ?_
      refine wl_val (q_loadF (i := v113) (j := 0) (v := .slice ((y110[(Int.toNat v113)]!).1.1) ((y110[(Int.toNat v113)]!).1.2.2.length) ((y110[(Int.toNat v113)]!).1.2.1)) ON35 (Tv.o (oT.vw hS120.g0 hS120.g1 he111)) (Tv.g (oT.vw hS120.g0 hS120.g1 he111) hg127) rfl rfl) rfl ?_
      refine wl_val (g_move (v := .int .i64 v112) rfl) rfl ?_
      have hS128 := hS120.f1
      have hS129 := hS128.f1
      have hd130 := Sep.dis hS129
      have hl131 : (Int.toNat v113) < (y110).length := by have h1 := (hg127).1; have h2 := (hg127).2; have h3 := congrArg List.length he111; simp only [ers, List.length_map] at h3; omega
      have he134 : (Rw.row (y110)[(Int.toNat v113)]! 0).2.2 = x109[(Int.toNat v113)]!.1 := by rw [← he111]; simp only [er_get hl131]; rfl
      have hS135 := Sep.foc (i := (Int.toNat v113)) (j := 0) hS129 hl131 (by decide) he134
      refine wl_step rfl (g_call (vs := #[.slice ((y110[(Int.toNat v113)]!).1.1) ((y110[(Int.toNat v113)]!).1.2.2.length) ((y110[(Int.toNat v113)]!).1.2.1), .int .i64 v112]) CF37 (args2 rfl rfl) (m_laws_markIntS_fn hS135 v112 hm)) ?_
      rintro _ w136 ⟨r139, x140, hm, rfl, hb137, hS138⟩
      have hB141 := hB119.trans hb137
      have hS142 := Sep.unfoc (i := (Int.toNat v113)) (j := 0) (ys := y110) hS138 hl131 (by decide) rfl hd130
      have he143 : ers (y110.set (Int.toNat v113) (Rs.rset (y110)[(Int.toNat v113)]! 0 x140)) = (x109.set (Int.toNat v113) (x140, x109[(Int.toNat v113)]!.2)) := ers_set he111 (by first | rfl | (rw [← he111, er_get hl131]; rfl)) _
      refine wl_val (g_assign (v := .int .i64 r139) rfl) rfl ?_
      refine wl_nil ?_
      refine hK126 _ _ ?_
      refine w_seq fun K144 hK144 => ?_
      refine w_region ?_
      refine wl_val (g_move (v := .slice a0 n0 c0) rfl) rfl ?_
      refine wl_val (g_move (v := .int .i64 v113) rfl) rfl ?_
      refine wl_val (g_move (v := .int .i64 r139) rfl) rfl ?_
      obtain ⟨hg145, hm⟩ := hm
      refine wl_val (q_index (i := v113) SL30 rfl rfl (Tv.o (oT.vw hS142.g0 hS142.g1 he143)) (Tv.g (oT.vw hS142.g0 hS142.g1 he143) hg145)) rfl ?_
      refine wl_val (g_fieldAddr (q := (adr a0).add ((Int.toNat v113) * El.m PlayerD)) FL61_1 ON3 rfl) rfl ?_
      have hS149 := hS142.f1
      have hS150 := hS149.f1
      have hl151 : ix v113 ((y110.set (Int.toNat v113) (Rs.rset (y110)[(Int.toNat v113)]! 0 x140))).length := by have h3 := congrArg List.length he143; simp only [ers, List.length_map] at h3; rw [h3]; exact hg145
      refine wl_step rfl (q_storeF (i := v113) (j := 1) (v := ((((y110.set (Int.toNat v113) (Rs.rset (y110)[(Int.toNat v113)]! 0 x140)))[(Int.toNat v113)]!.1, r139) : PlayerD)) hS150 ON3 hl151 rfl rfl rfl rfl (by decide) rfl) ?_
      rintro _ w146 ⟨rfl, hS147, hb148⟩
      have hB152 := hB141.trans hb148
      have hl153 : (Int.toNat v113) < ((y110.set (Int.toNat v113) (Rs.rset (y110)[(Int.toNat v113)]! 0 x140))).length := by have h1 := (hl151).1; have h2 := (hl151).2; omega
      have he154 : ers ((y110.set (Int.toNat v113) (Rs.rset (y110)[(Int.toNat v113)]! 0 x140)).set (Int.toNat v113) (((y110.set (Int.toNat v113) (Rs.rset (y110)[(Int.toNat v113)]! 0 x140)))[(Int.toNat v113)]!.1, r139)) = ((x109.set (Int.toNat v113) (x140, x109[(Int.toNat v113)]!.2)).set (Int.toNat v113) ((x109.set (Int.toNat v113) (x140, x109[(Int.toNat v113)]!.2))[(Int.toNat v113)]!.1, r139)) := ers_set he143 (by first | rfl | (rw [← he143, er_get hl153]; rfl)) _
      have hS155 := hS147.f1
      have hS156 := hS155.rowsSame (ys' := ((y110.set (Int.toNat v113) (Rs.rset (y110)[(Int.toNat v113)]! 0 x140)).set (Int.toNat v113) (((y110.set (Int.toNat v113) (Rs.rset (y110)[(Int.toNat v113)]! 0 x140)))[(Int.toNat v113)]!.1, r139))) (by simp) (fun i' j' h1 h2 => by rw [set_at _ _ _ hl153]; exact if hc : (Int.toNat v113) = i' then (by subst hc; rw [if_pos rfl]; rfl) else (by rw [if_neg hc]))
      refine wl_nil ?_
      refine hK144 _ _ ?_
      refine w_region ?_
      refine wl_val (g_move (v := .int .i64 r139) rfl) rfl ?_
      obtain ⟨hg157, hm⟩ := hm
      refine wl_val (g_add (a := r139) (b := 1) rfl rfl hg157) rfl ?_
      refine wl_val (g_assign (v := .int .i64 (r139 + 1)) rfl) rfl ?_
      refine wl_nil ?_
      refine hK125 _ _ ?_
      refine w_region ?_
      refine wl_val (g_move (v := .int .i64 v113) rfl) rfl ?_
      obtain ⟨hg158, hm⟩ := hm
      refine wl_val (g_add (a := v113) (b := 1) rfl rfl hg158) rfl ?_
      refine wl_val (g_assign (v := .int .i64 (v113 + 1)) rfl) rfl ?_
      refine wl_nil ?_
      have hS159 := hS156.f1
      exact ⟨(((x109.set (Int.toNat v113) (x140, x109[(Int.toNat v113)]!.2)).set (Int.toNat v113) ((x109.set (Int.toNat v113) (x140, x109[(Int.toNat v113)]!.2))[(Int.toNat v113)]!.1, r139)), ((y110.set (Int.toNat v113) (Rs.rset (y110)[(Int.toNat v113)]! 0 x140)).set (Int.toNat v113) (((y110.set (Int.toNat v113) (Rs.rset (y110)[(Int.toNat v113)]! 0 x140)))[(Int.toNat v113)]!.1, r139)), (r139 + 1), (v113 + 1)), hm.2, ⟨rfl, rfl, rfl, trivial⟩, ⟨hm.1, he154, hB152, hS159⟩⟩
    · replace hm := hm.2 h124
      refine w_exit ?_
      exact ⟨(x109, y110, v112), ⟨rfl, trivial⟩, ⟨hm, he111, hB119, hS120⟩⟩
  · rintro ⟨x103, y104, v106⟩ b_ w160 ⟨hm, he105, hB161, hS162⟩
    show Wp _ _ _ _ (upds b_ [(1, .int .i64 v106)]) w160
    refine w_seq fun K163 hK163 => ?_
    refine w_region ?_
    refine wl_val (g_move (v := .int .i64 v106) rfl) rfl ?_
    refine wl_val (g_assign (v := .int .i64 v106) rfl) rfl ?_
    refine wl_nil ?_
    refine hK163 _ _ ?_
    refine w_ret ?_
    repeat first | with_reducible refine q_then ?_ | with_reducible refine q_block ?_
    exact ret1 rfl (by decide) ⟨_, _, _, hm, he105, rfl, hB161, hS162⟩

theorem m_laws_heldIntS_fn {w : World} {a0 : Option Addr} {n0 c0 : Nat} {p0 : List Int} {Q : Int → Prop} (hp0 : Vw w.heap.size w a0 n0 c0 p0) (p1 : Int) (hm : m_laws_heldIntS p0 p1 Q) :
    Fn Try.prog 38 #[.slice a0 n0 c0, .int .i64 p1] w (fun v w' => ∃ (r0 : Int), Q r0 ∧ v = .int .i64 r0 ∧ Ext w w') := by
  unfold m_laws_heldIntS at hm
  have hB0 := Below.refl w.heap.size w
  have hS0 : Sep w w.heap.size [] := Sep.nil (Nat.le_refl _)
  refine fn_of_wp Try.func38 rfl (by kernel_rfl) (Nat.le_of_ble_eq_true rfl) ?_
  refine w_seq fun K1 hK1 => ?_
  refine w_region ?_
  refine wl_val (g_assign (v := .int .i64 0) rfl) rfl ?_
  refine wl_nil ?_
  refine hK1 _ _ ?_
  refine w_cut (σ := Int) (fun v44 => [(1, .int .i64 v44)]) (fun v44 w' => m_laws_heldIntS_K0 Q v44 ∧ Below w.heap.size w w' ∧ Sep w' w.heap.size []) ?_ ?_
  · refine w_seq fun K46 hK46 => ?_
    refine w_region ?_
    refine wl_val (g_assign (v := .int .i64 0) rfl) rfl ?_
    refine wl_nil ?_
    refine hK46 _ _ ?_
    refine w_block ?_
    obtain ⟨I49, μ50, h051, hr52⟩ := hm
    refine w_for (σ := Int × Int) (fun ⟨v47, v48⟩ => [(0, .slice a0 n0 c0), (1, .int .i64 v47), (5, .int .i64 v48)]) (fun ⟨v47, v48⟩ w' => I49 v47 v48 ∧ Below w.heap.size w w' ∧ Sep w' w.heap.size []) (fun ⟨v47, v48⟩ => μ50 v47 v48) (p1, 0) ⟨rfl, rfl, rfl, trivial⟩ ⟨h051, hB0, hS0⟩ ?_
    rintro ⟨v47, v48⟩ b_ w53 ⟨hi_, hB54, hS55⟩
    show Wp _ _ _ _ (upds b_ [(0, .slice a0 n0 c0), (1, .int .i64 v47), (5, .int .i64 v48)]) w53
    have hm := hr52 v47 v48 hi_
    refine w_seq fun K57 hK57 => ?_
    refine w_seq fun K58 hK58 => ?_
    refine w_region ?_
    refine wl_val (g_move (v := .int .i64 v48) rfl) rfl ?_
    refine wl_val (g_move (v := .slice a0 n0 c0) rfl) rfl ?_
    refine wl_val (q_len SL35 rfl (Vw.len (hp0.bel hB54))) rfl ?_
    refine wl_val (g_lss (a := v48) (b := (p0.length : Int)) rfl rfl) rfl ?_
    refine wl_nil ?_
    refine hK58 _ _ ?_
    refine w_condI (p := v48 < (p0.length : Int)) (b := (decide (v48 < (p0.length : Int)))) rfl decide_eq_true_iff (fun h59 => ?_) (fun h59 => ?_)
    · replace hm := hm.1 h59
      refine w_skip ?_
      refine hK57 _ _ ?_
      refine w_seq fun K60 hK60 => ?_
      refine w_block ?_
      refine w_seq fun K61 hK61 => ?_
      refine w_seq fun K62 hK62 => ?_
      refine w_region ?_
      refine wl_val (g_move (v := .slice a0 n0 c0) rfl) rfl ?_
      refine wl_val (g_move (v := .int .i64 v48) rfl) rfl ?_
      obtain ⟨hg63, hm⟩ := hm
      refine wl_val (q_index (i := v48) SL35 rfl rfl (hp0.bel hB54) hg63) rfl ?_
      refine wl_val (q_load (i := v48) (v := .int .i64 (p0[(Int.toNat v48)]!)) ON3 (hp0.bel hB54) hg63 rfl rfl) rfl ?_
      refine wl_val (g_move (v := .int .i64 v47) rfl) rfl ?_
      refine wl_val (g_neq (a := p0[(Int.toNat v48)]!) (b := v47) rfl rfl) rfl ?_
      refine wl_nil ?_
      refine hK62 _ _ ?_
      refine w_condI (p := p0[(Int.toNat v48)]! ≠ v47) (b := (decide (p0[(Int.toNat v48)]! ≠ v47))) rfl decide_eq_true_iff (fun h64 => ?_) (fun h64 => ?_)
      · replace hm := hm.1 h64
        refine w_seq fun K65 hK65 => ?_
        refine w_region ?_
        refine wl_val (g_assign (v := .int .i64 (-1)) rfl) rfl ?_
        refine wl_nil ?_
        refine hK65 _ _ ?_
        refine w_ret ?_
        repeat first | with_reducible refine q_then ?_ | with_reducible refine q_block ?_
        exact ret1 rfl (by decide) ⟨_, hm, rfl, toExt hB54⟩
      · replace hm := hm.2 h64
        refine w_skip ?_
        refine hK61 _ _ ?_
        refine w_region ?_
        refine wl_val (g_move (v := .int .i64 v47) rfl) rfl ?_
        obtain ⟨hg66, hm⟩ := hm
        refine wl_val (g_add (a := v47) (b := 1) rfl rfl hg66) rfl ?_
        refine wl_val (g_assign (v := .int .i64 (v47 + 1)) rfl) rfl ?_
        refine wl_nil ?_
        refine hK60 _ _ ?_
        refine w_region ?_
        refine wl_val (g_move (v := .int .i64 v48) rfl) rfl ?_
        obtain ⟨hg67, hm⟩ := hm
        refine wl_val (g_add (a := v48) (b := 1) rfl rfl hg67) rfl ?_
        refine wl_val (g_assign (v := .int .i64 (v48 + 1)) rfl) rfl ?_
        refine wl_nil ?_
        exact ⟨((v47 + 1), (v48 + 1)), hm.2, ⟨rfl, rfl, rfl, trivial⟩, ⟨hm.1, hB54, hS55⟩⟩
    · replace hm := hm.2 h59
      refine w_exit ?_
      exact ⟨(v47), ⟨rfl, trivial⟩, ⟨hm, hB54, hS55⟩⟩
  · rintro v44 b_ w68 ⟨hm, hB69, hS70⟩
    show Wp _ _ _ _ (upds b_ [(1, .int .i64 v44)]) w68
    refine w_seq fun K71 hK71 => ?_
    refine w_region ?_
    refine wl_val (g_move (v := .int .i64 v44) rfl) rfl ?_
    refine wl_val (g_assign (v := .int .i64 v44) rfl) rfl ?_
    refine wl_nil ?_
    refine hK71 _ _ ?_
    refine w_ret ?_
    repeat first | with_reducible refine q_then ?_ | with_reducible refine q_block ?_
    exact ret1 rfl (by decide) ⟨_, hm, rfl, toExt hB69⟩

theorem m_spec_IsShort_fn {w : World} {a0 : Option Addr} {n0 c0 : Nat} {y0 : List PlayerD} {p0 : List PlayerC} {a1 : Option Addr} {n1 c1 : Nat} {p1 : List Int} {Q : Bool → Prop} (hp0 : Tv w.heap.size w a0 n0 c0 y0 p0) (hp1 : Vw w.heap.size w a1 n1 c1 p1) (hm : m_spec_IsShort p0 p1 Q) :
    Fn Try.prog 39 #[.slice a0 n0 c0, .slice a1 n1 c1] w (fun v w' => ∃ (r0 : Bool), Q r0 ∧ v = .bool r0 ∧ Ext w w') := by
  unfold m_spec_IsShort at hm
  have hB0 := Below.refl w.heap.size w
  have hS0 : Sep w w.heap.size [] := Sep.nil (Nat.le_refl _)
  refine fn_of_wp Try.func39 rfl (by kernel_rfl) (Nat.le_of_ble_eq_true rfl) ?_
  refine w_seq fun K1 hK1 => ?_
  refine w_region ?_
  refine wl_val (g_assign (v := .bool false) rfl) rfl ?_
  refine wl_nil ?_
  refine hK1 _ _ ?_
  refine w_seq fun K2 hK2 => ?_
  refine w_region ?_
  refine wl_val (g_move (v := .slice a0 n0 c0) rfl) rfl ?_
  refine wl_val (g_move (v := .slice a1 n1 c1) rfl) rfl ?_
  refine wl_step rfl (g_call (vs := #[.slice a0 n0 c0, .slice a1 n1 c1]) CF28 (args2 rfl rfl) (m_spec_HandsFor_fn ((hp0.bel hB0).up hS0) ((hp1.bel hB0).up hS0) hm)) ?_
  rintro _ w3 ⟨r6, hm, rfl, hE4⟩
  have hB7 := hB0.trans (Ext.stp hE4 hS0.base)
  have hS8 := hS0.ext hE4
  refine wl_val (g_assign (v := .int .i64 r6) rfl) rfl ?_
  refine wl_nil ?_
  refine hK2 _ _ ?_
  refine w_seq fun K9 hK9 => ?_
  refine w_region ?_
  refine wl_val (g_move (v := .int .i64 r6) rfl) rfl ?_
  refine wl_val (g_geq (a := r6) (b := 0) rfl rfl) rfl ?_
  refine wl_val (g_move (v := .bool (decide (r6 ≥ 0))) rfl) rfl ?_
  refine wl_guard (c := (decide (r6 ≥ 0)) = true) (val := .int .i64 r6) (b := ((decide (r6 ≥ 0)) == true)) (gv_some rfl rfl rfl) beq_iff_eq (fun hc10 => ?_) ?_
  · have hq0 : r6 ≥ 0 := (decide_eq_true_iff.mp hc10)
    exact g_move (v := .int .i64 r6) rfl
  refine wl_guard (c := (decide (r6 ≥ 0)) = true) (val := .slice a1 n1 c1) (b := ((decide (r6 ≥ 0)) == true)) (gv_some rfl rfl rfl) beq_iff_eq (fun hc11 => ?_) ?_
  · have hq0 : r6 ≥ 0 := (decide_eq_true_iff.mp hc11)
    exact g_move (v := .slice a1 n1 c1) rfl
  refine wl_guard (c := (decide (r6 ≥ 0)) = true) (val := .int .i64 (p1.length : Int)) (b := ((decide (r6 ≥ 0)) == true)) (gv_some rfl rfl rfl) beq_iff_eq (fun hc12 => ?_) ?_
  · have hq0 : r6 ≥ 0 := (decide_eq_true_iff.mp hc12)
    exact q_len SL35 (if_pos hc12) (Vw.len (hp1.bel hB7))
  refine wl_guard (c := (decide (r6 ≥ 0)) = true) (val := .bool (decide (r6 < (p1.length : Int)))) (b := ((decide (r6 ≥ 0)) == true)) (gv_some rfl rfl rfl) beq_iff_eq (fun hc13 => ?_) ?_
  · have hq0 : r6 ≥ 0 := (decide_eq_true_iff.mp hc13)
    exact g_lss (a := r6) (b := (p1.length : Int)) (if_pos hc13) (if_pos hc13)
  refine wl_val (g_pick_and (b := (decide (r6 ≥ 0))) (q := (decide (r6 < (p1.length : Int)))) rfl rfl) rfl ?_
  refine wl_val (g_assign (v := .bool ((decide (r6 ≥ 0)) && (decide (r6 < (p1.length : Int))))) rfl) rfl ?_
  refine wl_nil ?_
  refine hK9 _ _ ?_
  refine w_ret ?_
  repeat first | with_reducible refine q_then ?_ | with_reducible refine q_block ?_
  exact ret1 rfl (by decide) ⟨_, hm, rfl, toExt hB7⟩

theorem m_impl_IsShort_fn {w : World} {a0 : Option Addr} {n0 c0 : Nat} {y0 : List PlayerD} {p0 : List PlayerC} {a1 : Option Addr} {n1 c1 : Nat} {p1 : List Int} {Q : Bool → Prop} (hp0 : Tv w.heap.size w a0 n0 c0 y0 p0) (hp1 : Vw w.heap.size w a1 n1 c1 p1) (hm : m_impl_IsShort p0 p1 Q) :
    Fn Try.prog 40 #[.slice a0 n0 c0, .slice a1 n1 c1] w (fun v w' => ∃ (r0 : Bool), Q r0 ∧ v = .bool r0 ∧ Ext w w') := by
  unfold m_impl_IsShort at hm
  have hB0 := Below.refl w.heap.size w
  have hS0 : Sep w w.heap.size [] := Sep.nil (Nat.le_refl _)
  refine fn_of_wp Try.func40 rfl (by kernel_rfl) (Nat.le_of_ble_eq_true rfl) ?_
  refine w_seq fun K1 hK1 => ?_
  refine w_region ?_
  refine wl_val (g_assign (v := .bool false) rfl) rfl ?_
  refine wl_nil ?_
  refine hK1 _ _ ?_
  refine w_seq fun K2 hK2 => ?_
  refine w_region ?_
  refine wl_val (g_move (v := .slice a0 n0 c0) rfl) rfl ?_
  refine wl_val (g_move (v := .slice a1 n1 c1) rfl) rfl ?_
  refine wl_step rfl (g_call (vs := #[.slice a0 n0 c0, .slice a1 n1 c1]) CF30 (args2 rfl rfl) (m_impl_HandsFor_fn ((hp0.bel hB0).up hS0) ((hp1.bel hB0).up hS0) hm)) ?_
  rintro _ w3 ⟨r6, hm, rfl, hE4⟩
  have hB7 := hB0.trans (Ext.stp hE4 hS0.base)
  have hS8 := hS0.ext hE4
  refine wl_val (g_assign (v := .int .i64 r6) rfl) rfl ?_
  refine wl_nil ?_
  refine hK2 _ _ ?_
  refine w_seq fun K9 hK9 => ?_
  refine w_region ?_
  refine wl_val (g_move (v := .int .i64 r6) rfl) rfl ?_
  refine wl_val (g_neq (a := r6) (b := (-1)) rfl rfl) rfl ?_
  refine wl_val (g_move (v := .bool (decide (r6 ≠ (-1)))) rfl) rfl ?_
  refine wl_guard (c := (decide (r6 ≠ (-1))) = true) (val := .int .i64 r6) (b := ((decide (r6 ≠ (-1))) == true)) (gv_some rfl rfl rfl) beq_iff_eq (fun hc10 => ?_) ?_
  · have hq0 : r6 ≠ (-1) := (decide_eq_true_iff.mp hc10)
    exact g_move (v := .int .i64 r6) rfl
  refine wl_guard (c := (decide (r6 ≠ (-1))) = true) (val := .slice a1 n1 c1) (b := ((decide (r6 ≠ (-1))) == true)) (gv_some rfl rfl rfl) beq_iff_eq (fun hc11 => ?_) ?_
  · have hq0 : r6 ≠ (-1) := (decide_eq_true_iff.mp hc11)
    exact g_move (v := .slice a1 n1 c1) rfl
  refine wl_guard (c := (decide (r6 ≠ (-1))) = true) (val := .int .i64 (p1.length : Int)) (b := ((decide (r6 ≠ (-1))) == true)) (gv_some rfl rfl rfl) beq_iff_eq (fun hc12 => ?_) ?_
  · have hq0 : r6 ≠ (-1) := (decide_eq_true_iff.mp hc12)
    exact q_len SL35 (if_pos hc12) (Vw.len (hp1.bel hB7))
  refine wl_guard (c := (decide (r6 ≠ (-1))) = true) (val := .bool (decide (r6 < (p1.length : Int)))) (b := ((decide (r6 ≠ (-1))) == true)) (gv_some rfl rfl rfl) beq_iff_eq (fun hc13 => ?_) ?_
  · have hq0 : r6 ≠ (-1) := (decide_eq_true_iff.mp hc13)
    exact g_lss (a := r6) (b := (p1.length : Int)) (if_pos hc13) (if_pos hc13)
  refine wl_val (g_pick_and (b := (decide (r6 ≠ (-1)))) (q := (decide (r6 < (p1.length : Int)))) rfl rfl) rfl ?_
  refine wl_val (g_assign (v := .bool ((decide (r6 ≠ (-1))) && (decide (r6 < (p1.length : Int))))) rfl) rfl ?_
  refine wl_nil ?_
  refine hK9 _ _ ?_
  refine w_ret ?_
  repeat first | with_reducible refine q_then ?_ | with_reducible refine q_block ?_
  exact ret1 rfl (by decide) ⟨_, hm, rfl, toExt hB7⟩

theorem m_spec_WhoKnows_fn {w : World} {a0 : Option Addr} {n0 c0 : Nat} {y0 : List PlayerD} {p0 : List PlayerC} {Q : (List Int) → Prop} (hp0 : Tv w.heap.size w a0 n0 c0 y0 p0) (p1 : Int) (hm : m_spec_WhoKnows p0 p1 Q) :
    Fn Try.prog 41 #[.slice a0 n0 c0, .int .i64 p1] w (fun v w' => ∃ (r0 : List Int) (a0 : Option Addr) (n0 c0 : Nat), Q r0 ∧ v = .slice a0 n0 c0 ∧ Ext w w' ∧ Sep w' w.heap.size [oS 3 a0 n0 c0 r0]) := by
  unfold m_spec_WhoKnows at hm
  have hB0 := Below.refl w.heap.size w
  have hS0 : Sep w w.heap.size [] := Sep.nil (Nat.le_refl _)
  refine fn_of_wp Try.func41 rfl (by kernel_rfl) (Nat.le_of_ble_eq_true rfl) ?_
  refine w_seq fun K1 hK1 => ?_
  refine w_region ?_
  refine wl_val (g_assign (v := .slice none 0 0) rfl) rfl ?_
  refine wl_nil ?_
  refine hK1 _ _ ?_
  refine w_seq fun K2 hK2 => ?_
  refine w_region ?_
  refine wl_step rfl (q_lit0 (α := Int) rfl SL35 hS0) ?_
  rintro _ w3 ⟨a4, rfl, hS6, hE5⟩
  have hB8 := hB0.trans (Ext.stp hE5 hS0.base)
  refine wl_val (g_assign (v := .slice a4 0 0) rfl) rfl ?_
  refine wl_nil ?_
  refine hK2 _ _ ?_
  refine w_cut (σ := List Int × Option Addr × Nat × Nat) (fun ⟨x107, a108, n109, c110⟩ => [(5, .slice a108 n109 c110)]) (fun ⟨x107, a108, n109, c110⟩ w' => m_spec_WhoKnows_K0 Q x107 ∧ Below w.heap.size w w' ∧ Sep w' w.heap.size [oS 3 a108 n109 c110 (x107 : List Int)]) ?_ ?_
  · refine w_seq fun K112 hK112 => ?_
    refine w_region ?_
    refine wl_val (g_assign (v := .int .i64 0) rfl) rfl ?_
    refine wl_nil ?_
    refine hK112 _ _ ?_
    refine w_block ?_
    obtain ⟨I118, μ119, h0120, hr121⟩ := hm
    refine w_for (σ := List Int × Option Addr × Nat × Nat × Int) (fun ⟨x113, a114, n115, c116, v117⟩ => [(0, .slice a0 n0 c0), (1, .int .i64 p1), (5, .slice a114 n115 c116), (6, .int .i64 v117)]) (fun ⟨x113, a114, n115, c116, v117⟩ w' => I118 x113 v117 ∧ Below w.heap.size w w' ∧ Sep w' w.heap.size [oS 3 a114 n115 c116 (x113 : List Int)]) (fun ⟨x113, a114, n115, c116, v117⟩ => μ119 x113 v117) ([], a4, 0, 0, 0) ⟨rfl, rfl, rfl, rfl, trivial⟩ ⟨h0120, hB8, hS6⟩ ?_
    rintro ⟨x113, a114, n115, c116, v117⟩ b_ w122 ⟨hi_, hB123, hS124⟩
    show Wp _ _ _ _ (upds b_ [(0, .slice a0 n0 c0), (1, .int .i64 p1), (5, .slice a114 n115 c116), (6, .int .i64 v117)]) w122
    have hm := hr121 x113 v117 hi_
    refine w_seq fun K126 hK126 => ?_
    refine w_seq fun K127 hK127 => ?_
    refine w_region ?_
    refine wl_val (g_move (v := .int .i64 v117) rfl) rfl ?_
    refine wl_val (g_move (v := .slice a0 n0 c0) rfl) rfl ?_
    refine wl_val (q_len SL30 rfl (Tv.len (hp0.bel hB123))) rfl ?_
    refine wl_val (g_lss (a := v117) (b := (p0.length : Int)) rfl rfl) rfl ?_
    refine wl_val (g_move (v := .bool (decide (v117 < (p0.length : Int)))) rfl) rfl ?_
    refine wl_guard (c := (decide (v117 < (p0.length : Int))) = true) (val := .slice a0 n0 c0) (b := ((decide (v117 < (p0.length : Int))) == true)) (gv_some rfl rfl rfl) beq_iff_eq (fun hc128 => ?_) ?_
    · have hq2 : v117 < (p0.length : Int) := (decide_eq_true_iff.mp hc128)
      exact g_move (v := .slice a0 n0 c0) rfl
    obtain ⟨r130, hk131, hm⟩ := hm
    refine wl_guardE (X := Ext) (c := (decide (v117 < (p0.length : Int))) = true) (val := .bool r130) (Ext.refl _) (b := ((decide (v117 < (p0.length : Int))) == true)) (gv_some rfl rfl rfl) beq_iff_eq (fun hc129 => ?_) (fun w132 hE133 => ?_)
    · have hq2 : v117 < (p0.length : Int) := (decide_eq_true_iff.mp hc129)
      exact (g_call (vs := #[.slice a0 n0 c0]) CF22 (args1 (if_pos hc129)) ((m_spec_PlayersOk_fn ((hp0.bel hB123).up hS124) (hk131 hq2)).mono fun _ _ ⟨_, h1, h2, h3⟩ => ⟨by rw [h2, h1], h3⟩))
    have hB134 := hB123.trans (Ext.stp hE133 hS124.base)
    have hS135 := hS124.ext hE133
    refine wl_val (g_pick_and (b := (decide (v117 < (p0.length : Int)))) (q := r130) rfl rfl) rfl ?_
    refine wl_nil ?_
    refine hK127 _ _ ?_
    refine w_condI (p := ((v117 < (p0.length : Int)) ∧ (r130 = true))) (b := ((decide (v117 < (p0.length : Int))) && r130)) rfl (i_and decide_eq_true_iff Iff.rfl) (fun h136 => ?_) (fun h136 => ?_)
    · replace hm := hm.1 h136
      refine w_skip ?_
      refine hK126 _ _ ?_
      refine w_seq fun K137 hK137 => ?_
      refine w_block ?_
      refine w_seq fun K138 hK138 => ?_
      refine w_region ?_
      refine wl_val (g_move (v := .slice a0 n0 c0) rfl) rfl ?_
      refine wl_val (g_move (v := .int .i64 v117) rfl) rfl ?_
      obtain ⟨hg139, hm⟩ := hm
      refine wl_val (q_index (i := v117) SL30 rfl rfl (Tv.o (hp0.bel hB134)) (Tv.g (hp0.bel hB134) hg139)) rfl ?_
      refine wl_val (q_loadS (i := v117) (cs := [.slice ((y0[(Int.toNat v117)]!).1.1) ((y0[(Int.toNat v117)]!).1.2.2.length) ((y0[(Int.toNat v117)]!).1.2.1), .int .i64 (p0[(Int.toNat v117)]!.2)]) AG61 (Tv.o (hp0.bel hB134)) (Tv.g (hp0.bel hB134) hg139) (by rw [← Tv.free (hp0.bel hB134) hg139]; rfl) rfl) rfl ?_
      refine wl_val (g_move (v := .int .i64 p1) rfl) rfl ?_
      refine wl_step rfl (g_call (vs := #[.agg #[.slice ((y0[(Int.toNat v117)]!).1.1) ((y0[(Int.toNat v117)]!).1.2.2.length) ((y0[(Int.toNat v117)]!).1.2.1), .int .i64 (p0[(Int.toNat v117)]!.2)], .int .i64 p1]) CF65 (args2 rfl rfl) (m_spec_l13Knows_fn (p0[(Int.toNat v117)]!) ((Tv.rowP (hp0.bel hB134) hg139).up hS135) p1 hm)) ?_
      rintro _ w140 ⟨r143, hm, rfl, hE141⟩
      have hB144 := hB134.trans (Ext.stp hE141 hS135.base)
      have hS145 := hS135.ext hE141
      refine wl_nil ?_
      refine hK138 _ _ ?_
      refine w_condI (p := r143 = true) (b := r143) rfl Iff.rfl (fun h146 => ?_) (fun h146 => ?_)
      · replace hm := hm.1 h146
        refine w_region ?_
        refine wl_val (g_move (v := .slice a114 n115 c116) rfl) rfl ?_
        refine wl_val (g_move (v := .int .i64 v117) rfl) rfl ?_
        refine wl_step rfl (q_lit1 (y := (v117 : Int)) SL35 rfl rfl (by decide) hS145) ?_
        rintro _ w147 ⟨a148, rfl, hS150, hE149⟩
        have hB152 := hB144.trans (Ext.stp hE149 hS145.base)
        have hS158 := hS150.f1
        obtain ⟨hg159, hm⟩ := hm
        refine wl_step rfl (q_append SL35 rfl rfl hS158 (oS.vw hS158.g1) hg159 (by decide)) ?_
        rintro _ w153 ⟨a154, c155, rfl, hS157, hb156⟩
        have hB160 := hB152.trans hb156
        refine wl_val (g_assign (v := .slice a154 (n115 + 1) c155) rfl) rfl ?_
        refine wl_nil ?_
        refine hK137 _ _ ?_
        refine w_region ?_
        refine wl_val (g_move (v := .int .i64 v117) rfl) rfl ?_
        obtain ⟨hg161, hm⟩ := hm
        refine wl_val (g_add (a := v117) (b := 1) rfl rfl hg161) rfl ?_
        refine wl_val (g_assign (v := .int .i64 (v117 + 1)) rfl) rfl ?_
        refine wl_nil ?_
        have hS162 := hS157.f1
        have hS163 := hS162.tail
        exact ⟨((x113 ++ ([v117])), a154, (n115 + 1), c155, (v117 + 1)), hm.2, ⟨rfl, rfl, rfl, rfl, trivial⟩, ⟨hm.1, hB160, hS163⟩⟩
      · replace hm := hm.2 h146
        refine w_skip ?_
        refine hK137 _ _ ?_
        refine w_region ?_
        refine wl_val (g_move (v := .int .i64 v117) rfl) rfl ?_
        obtain ⟨hg164, hm⟩ := hm
        refine wl_val (g_add (a := v117) (b := 1) rfl rfl hg164) rfl ?_
        refine wl_val (g_assign (v := .int .i64 (v117 + 1)) rfl) rfl ?_
        refine wl_nil ?_
        exact ⟨(x113, a114, n115, c116, (v117 + 1)), hm.2, ⟨rfl, rfl, rfl, rfl, trivial⟩, ⟨hm.1, hB144, hS145⟩⟩
    · replace hm := hm.2 h136
      refine w_exit ?_
      exact ⟨(x113, a114, n115, c116), ⟨rfl, trivial⟩, ⟨hm, hB134, hS135⟩⟩
  · rintro ⟨x107, a108, n109, c110⟩ b_ w165 ⟨hm, hB166, hS167⟩
    show Wp _ _ _ _ (upds b_ [(5, .slice a108 n109 c110)]) w165
    refine w_seq fun K168 hK168 => ?_
    refine w_region ?_
    refine wl_val (g_move (v := .slice a108 n109 c110) rfl) rfl ?_
    refine wl_val (g_assign (v := .slice a108 n109 c110) rfl) rfl ?_
    refine wl_nil ?_
    refine hK168 _ _ ?_
    refine w_ret ?_
    repeat first | with_reducible refine q_then ?_ | with_reducible refine q_block ?_
    exact ret1 rfl (by decide) ⟨_, _, _, _, hm, rfl, toExt hB166, hS167⟩

theorem m_impl_WhoKnows_fn {w : World} {a0 : Option Addr} {n0 c0 : Nat} {y0 : List PlayerD} {p0 : List PlayerC} {Q : (List Int) → Prop} (hp0 : Tv w.heap.size w a0 n0 c0 y0 p0) (p1 : Int) (hm : m_impl_WhoKnows p0 p1 Q) :
    Fn Try.prog 42 #[.slice a0 n0 c0, .int .i64 p1] w (fun v w' => ∃ (r0 : List Int) (a0 : Option Addr) (n0 c0 : Nat), Q r0 ∧ v = .slice a0 n0 c0 ∧ Ext w w' ∧ Sep w' w.heap.size [oS 3 a0 n0 c0 r0]) := by
  unfold m_impl_WhoKnows at hm
  have hB0 := Below.refl w.heap.size w
  have hS0 : Sep w w.heap.size [] := Sep.nil (Nat.le_refl _)
  refine fn_of_wp Try.func42 rfl (by kernel_rfl) (Nat.le_of_ble_eq_true rfl) ?_
  refine w_seq fun K1 hK1 => ?_
  refine w_region ?_
  refine wl_val (g_assign (v := .slice none 0 0) rfl) rfl ?_
  refine wl_nil ?_
  refine hK1 _ _ ?_
  refine w_seq fun K2 hK2 => ?_
  refine w_seq fun K3 hK3 => ?_
  refine w_region ?_
  refine wl_val (g_move (v := .slice a0 n0 c0) rfl) rfl ?_
  refine wl_step rfl (g_call (vs := #[.slice a0 n0 c0]) CF24 (args1 rfl) (m_impl_PlayersOk_fn ((hp0.bel hB0).up hS0) hm)) ?_
  rintro _ w4 ⟨r7, hm, rfl, hE5⟩
  have hB8 := hB0.trans (Ext.stp hE5 hS0.base)
  have hS9 := hS0.ext hE5
  refine wl_val (g_not (a := r7) rfl) rfl ?_
  refine wl_nil ?_
  refine hK3 _ _ ?_
  refine w_condI (p := ¬ (r7 = true)) (b := (!r7)) rfl (i_not Iff.rfl) (fun h10 => ?_) (fun h10 => ?_)
  · replace hm := hm.1 h10
    refine w_seq fun K11 hK11 => ?_
    refine w_region ?_
    refine wl_val (g_assign (v := .slice none 0 0) rfl) rfl ?_
    refine wl_nil ?_
    refine hK11 _ _ ?_
    refine w_ret ?_
    have hS12 := hS9.nilS (α := Int) (E := 3)
    repeat first | with_reducible refine q_then ?_ | with_reducible refine q_block ?_
    exact ret1 rfl (by decide) ⟨_, _, _, _, hm, rfl, toExt hB8, hS12⟩
  · replace hm := hm.2 h10
    refine w_skip ?_
    refine hK2 _ _ ?_
    refine w_seq fun K14 hK14 => ?_
    refine w_region ?_
    refine wl_step rfl (q_lit0 (α := Int) rfl SL35 hS9) ?_
    rintro _ w15 ⟨a16, rfl, hS18, hE17⟩
    have hB20 := hB8.trans (Ext.stp hE17 hS9.base)
    refine wl_val (g_assign (v := .slice a16 0 0) rfl) rfl ?_
    refine wl_nil ?_
    refine hK14 _ _ ?_
    refine w_cut (σ := List Int × Option Addr × Nat × Nat) (fun ⟨x128, a129, n130, c131⟩ => [(5, .slice a129 n130 c131)]) (fun ⟨x128, a129, n130, c131⟩ w' => m_impl_WhoKnows_K0 Q x128 ∧ Below w.heap.size w w' ∧ Sep w' w.heap.size [oS 3 a129 n130 c131 (x128 : List Int)]) ?_ ?_
    · refine w_seq fun K133 hK133 => ?_
      refine w_region ?_
      refine wl_val (g_move (v := .slice a0 n0 c0) rfl) rfl ?_
      refine wl_val (q_len SL30 rfl (Tv.len (hp0.bel hB20))) rfl ?_
      refine wl_val (g_move (v := .int .i64 0) rfl) rfl ?_
      refine wl_nil ?_
      refine hK133 _ _ ?_
      refine w_block ?_
      obtain ⟨I139, μ140, h0141, hr142⟩ := hm
      refine w_for (σ := List Int × Option Addr × Nat × Nat × Int) (fun ⟨x134, a135, n136, c137, v138⟩ => [(1, .int .i64 p1), (5, .slice a135 n136 c137), (12, .slice a0 n0 c0), (13, .int .i64 (p0.length : Int)), (14, .int .i64 v138)]) (fun ⟨x134, a135, n136, c137, v138⟩ w' => I139 x134 v138 ∧ Below w.heap.size w w' ∧ Sep w' w.heap.size [oS 3 a135 n136 c137 (x134 : List Int)]) (fun ⟨x134, a135, n136, c137, v138⟩ => μ140 x134 v138) ([], a16, 0, 0, 0) ⟨rfl, rfl, rfl, rfl, rfl, trivial⟩ ⟨h0141, hB20, hS18⟩ ?_
      rintro ⟨x134, a135, n136, c137, v138⟩ b_ w143 ⟨hi_, hB144, hS145⟩
      show Wp _ _ _ _ (upds b_ [(1, .int .i64 p1), (5, .slice a135 n136 c137), (12, .slice a0 n0 c0), (13, .int .i64 (p0.length : Int)), (14, .int .i64 v138)]) w143
      have hm := hr142 x134 v138 hi_
      refine w_seq fun K147 hK147 => ?_
      refine w_region ?_
      refine wl_val (g_lss (a := v138) (b := (p0.length : Int)) rfl rfl) rfl ?_
      refine wl_nil ?_
      refine hK147 _ _ ?_
      refine w_seq fun K148 hK148 => ?_
      refine w_condI (p := v138 < (p0.length : Int)) (b := (decide (v138 < (p0.length : Int)))) rfl decide_eq_true_iff (fun h149 => ?_) (fun h149 => ?_)
      · replace hm := hm.1 h149
        refine w_skip ?_
        refine hK148 _ _ ?_
        refine w_seq fun K150 hK150 => ?_
        refine w_block ?_
        refine w_seq fun K151 hK151 => ?_
        refine w_region ?_
        refine wl_val (g_move (v := .int .i64 v138) rfl) rfl ?_
        obtain ⟨hg152, hm⟩ := hm
        refine wl_val (q_index (i := v138) SL30 rfl rfl (Tv.o (hp0.bel hB144)) (Tv.g (hp0.bel hB144) hg152)) rfl ?_
        refine wl_val (q_loadS (i := v138) (cs := [.slice ((y0[(Int.toNat v138)]!).1.1) ((y0[(Int.toNat v138)]!).1.2.2.length) ((y0[(Int.toNat v138)]!).1.2.1), .int .i64 (p0[(Int.toNat v138)]!.2)]) AG61 (Tv.o (hp0.bel hB144)) (Tv.g (hp0.bel hB144) hg152) (by rw [← Tv.free (hp0.bel hB144) hg152]; rfl) rfl) rfl ?_
        refine wl_step rfl (q_alloc (cs := #[.slice none 0 0, .int .i64 0]) ZR61 rfl hS145) ?_
        rintro _ w153 ⟨g154, rfl, hS156, hE155⟩
        have hB158 := hB144.trans (Ext.stp hE155 hS145.base)
        refine wl_val (g_assign (v := .int .i64 v138) rfl) rfl ?_
        refine wl_step rfl (q_storeB (i := 0) (bs' := #[.slice ((y0[(Int.toNat v138)]!).1.1) ((y0[(Int.toNat v138)]!).1.2.2.length) ((y0[(Int.toNat v138)]!).1.2.1), .int .i64 (p0[(Int.toNat v138)]!.2)]) (vs := [.slice ((y0[(Int.toNat v138)]!).1.1) ((y0[(Int.toNat v138)]!).1.2.2.length) ((y0[(Int.toNat v138)]!).1.2.1), .int .i64 (p0[(Int.toNat v138)]!.2)]) hS156 AG61.sz rfl rfl rfl (by simp [Value.oneCell']) (Nat.le_of_ble_eq_true rfl) rfl) ?_
        rintro _ w159 ⟨rfl, hS160, hb161⟩
        have hB162 := hB158.trans hb161
        refine wl_nil ?_
        refine hK151 _ _ ?_
        refine w_seq fun K163 hK163 => ?_
        refine w_region ?_
        refine wl_val (g_fieldAddr (q := (⟨g154, 0, none⟩ : Addr)) FL61_0 ON35 rfl) rfl ?_
        refine wl_val (q_loadB (i := 0) (bs := #[.slice ((y0[(Int.toNat v138)]!).1.1) ((y0[(Int.toNat v138)]!).1.2.2.length) ((y0[(Int.toNat v138)]!).1.2.1), .int .i64 (p0[(Int.toNat v138)]!.2)]) hS160.g0 ON35 rfl rfl) rfl ?_
        refine wl_val (g_move (v := .int .i64 p1) rfl) rfl ?_
        refine wl_step rfl (g_call (vs := #[.slice ((y0[(Int.toNat v138)]!).1.1) ((y0[(Int.toNat v138)]!).1.2.2.length) ((y0[(Int.toNat v138)]!).1.2.1), .int .i64 p1]) CF67 (args2 rfl rfl) (m_impl_indexOf_fn ((Tv.rowP (hp0.bel hB162) hg152).up hS160) p1 hm)) ?_
        rintro _ w164 ⟨r167, hm, rfl, hE165⟩
        have hB168 := hB162.trans (Ext.stp hE165 hS160.base)
        have hS169 := hS160.ext hE165
        refine wl_val (g_geq (a := r167) (b := 0) rfl rfl) rfl ?_
        refine wl_nil ?_
        refine hK163 _ _ ?_
        refine w_condI (p := r167 ≥ 0) (b := (decide (r167 ≥ 0))) rfl decide_eq_true_iff (fun h170 => ?_) (fun h170 => ?_)
        · replace hm := hm.1 h170
          refine w_region ?_
          refine wl_val (g_move (v := .slice a135 n136 c137) rfl) rfl ?_
          refine wl_val (g_move (v := .int .i64 v138) rfl) rfl ?_
          refine wl_step rfl (q_lit1 (y := (v138 : Int)) SL35 rfl rfl (by decide) hS169) ?_
          rintro _ w171 ⟨a172, rfl, hS174, hE173⟩
          have hB176 := hB168.trans (Ext.stp hE173 hS169.base)
          have hS182 := hS174.f2
          obtain ⟨hg183, hm⟩ := hm
          refine wl_step rfl (q_append SL35 rfl rfl hS182 (oS.vw hS182.g1) hg183 (by decide)) ?_
          rintro _ w177 ⟨a178, c179, rfl, hS181, hb180⟩
          have hB184 := hB176.trans hb180
          refine wl_val (g_assign (v := .slice a178 (n136 + 1) c179) rfl) rfl ?_
          refine wl_nil ?_
          refine hK150 _ _ ?_
          refine w_region ?_
          obtain ⟨hg185, hm⟩ := hm
          refine wl_val (g_add (a := v138) (b := 1) rfl rfl hg185) rfl ?_
          refine wl_val (g_move (v := .int .i64 (v138 + 1)) rfl) rfl ?_
          refine wl_nil ?_
          have hS186 := hS181.f1
          have hS187 := hS186.tail
          have hS188 := hS187.f1
          have hS189 := hS188.tail
          exact ⟨((x134 ++ ([v138])), a178, (n136 + 1), c179, (v138 + 1)), hm.2, ⟨rfl, rfl, rfl, rfl, rfl, trivial⟩, ⟨hm.1, hB184, hS189⟩⟩
        · replace hm := hm.2 h170
          refine w_skip ?_
          refine hK150 _ _ ?_
          refine w_region ?_
          obtain ⟨hg190, hm⟩ := hm
          refine wl_val (g_add (a := v138) (b := 1) rfl rfl hg190) rfl ?_
          refine wl_val (g_move (v := .int .i64 (v138 + 1)) rfl) rfl ?_
          refine wl_nil ?_
          have hS191 := hS169.tail
          exact ⟨(x134, a135, n136, c137, (v138 + 1)), hm.2, ⟨rfl, rfl, rfl, rfl, rfl, trivial⟩, ⟨hm.1, hB168, hS191⟩⟩
      · replace hm := hm.2 h149
        refine w_exit ?_
        exact ⟨(x134, a135, n136, c137), ⟨rfl, trivial⟩, ⟨hm, hB144, hS145⟩⟩
    · rintro ⟨x128, a129, n130, c131⟩ b_ w192 ⟨hm, hB193, hS194⟩
      show Wp _ _ _ _ (upds b_ [(5, .slice a129 n130 c131)]) w192
      refine w_seq fun K195 hK195 => ?_
      refine w_region ?_
      refine wl_val (g_move (v := .slice a129 n130 c131) rfl) rfl ?_
      refine wl_val (g_assign (v := .slice a129 n130 c131) rfl) rfl ?_
      refine wl_nil ?_
      refine hK195 _ _ ?_
      refine w_ret ?_
      repeat first | with_reducible refine q_then ?_ | with_reducible refine q_block ?_
      exact ret1 rfl (by decide) ⟨_, _, _, _, hm, rfl, toExt hB193, hS194⟩

theorem m_spec_l17Copy_fn {w : World} {a0 : Option Addr} {n0 c0 : Nat} {y0 : List PlayerD} {p0 : List PlayerC} {Q : (List PlayerC) → Prop} (hp0 : Tv w.heap.size w a0 n0 c0 y0 p0) (hm : m_spec_l17Copy p0 Q) :
    Fn Try.prog 68 #[.slice a0 n0 c0] w (fun v w' => ∃ (r0 : List PlayerC) (a0 : Option Addr) (n0 c0 : Nat) (y0 : List PlayerD), Q r0 ∧ ers y0 = r0 ∧ v = .slice a0 n0 c0 ∧ Ext w w' ∧ Sep w' w.heap.size [oS 61 a0 n0 c0 y0, oT 3 y0]) := by
  unfold m_spec_l17Copy at hm
  have hB0 := Below.refl w.heap.size w
  have hS0 : Sep w w.heap.size [] := Sep.nil (Nat.le_refl _)
  refine fn_of_wp Try.func68 rfl (by kernel_rfl) (Nat.le_of_ble_eq_true rfl) ?_
  refine w_seq fun K1 hK1 => ?_
  refine w_region ?_
  refine wl_val (g_assign (v := .slice none 0 0) rfl) rfl ?_
  refine wl_nil ?_
  refine hK1 _ _ ?_
  refine w_seq fun K2 hK2 => ?_
  refine w_region ?_
  refine wl_step rfl (q_lit0 (α := PlayerD) rfl SL30 hS0) ?_
  rintro _ w3 ⟨a4, rfl, hS6, hE5⟩
  have hB8 := hB0.trans (Ext.stp hE5 hS0.base)
  have hS9 := hS6.noRows (δ := PlayerD) (E := 3)
  have he11 : ers ([] : List PlayerD) = ([] : List PlayerC) := rfl
  refine wl_val (g_assign (v := .slice a4 0 0) rfl) rfl ?_
  refine wl_nil ?_
  refine hK2 _ _ ?_
  refine w_cut (σ := List PlayerC × Option Addr × Nat × Nat × List PlayerD) (fun ⟨x291, a292, n293, c294, y295⟩ => [(3, .slice a292 n293 c294)]) (fun ⟨x291, a292, n293, c294, y295⟩ w' => m_spec_l17Copy_K0 Q x291 ∧ ers y295 = x291 ∧ Below w.heap.size w w' ∧ Sep w' w.heap.size [oS 61 a292 n293 c294 (y295 : List PlayerD), oT 3 (y295 : List PlayerD)]) ?_ ?_
  · refine w_seq fun K298 hK298 => ?_
    refine w_region ?_
    refine wl_val (g_assign (v := .int .i64 0) rfl) rfl ?_
    refine wl_nil ?_
    refine hK298 _ _ ?_
    refine w_block ?_
    have hS306 := hS9.f1
    obtain ⟨I307, μ308, h0309, hr310⟩ := hm
    refine w_for (σ := List PlayerC × Option Addr × Nat × Nat × List PlayerD × Int) (fun ⟨x299, a300, n301, c302, y303, v305⟩ => [(0, .slice a0 n0 c0), (3, .slice a300 n301 c302), (4, .int .i64 v305)]) (fun ⟨x299, a300, n301, c302, y303, v305⟩ w' => I307 x299 v305 ∧ ers y303 = x299 ∧ Below w.heap.size w w' ∧ Sep w' w.heap.size [oS 61 a300 n301 c302 (y303 : List PlayerD), oT 3 (y303 : List PlayerD)]) (fun ⟨x299, a300, n301, c302, y303, v305⟩ => μ308 x299 v305) ([], a4, 0, 0, [], 0) ⟨rfl, rfl, rfl, trivial⟩ ⟨h0309, he11, hB8, hS306⟩ ?_
    rintro ⟨x299, a300, n301, c302, y303, v305⟩ b_ w311 ⟨hi_, he304, hB312, hS313⟩
    show Wp _ _ _ _ (upds b_ [(0, .slice a0 n0 c0), (3, .slice a300 n301 c302), (4, .int .i64 v305)]) w311
    have hm := hr310 x299 v305 hi_
    refine w_seq fun K315 hK315 => ?_
    refine w_seq fun K316 hK316 => ?_
    refine w_region ?_
    refine wl_val (g_move (v := .int .i64 v305) rfl) rfl ?_
    refine wl_val (g_move (v := .slice a0 n0 c0) rfl) rfl ?_
    refine wl_val (q_len SL30 rfl (Tv.len (hp0.bel hB312))) rfl ?_
    refine wl_val (g_lss (a := v305) (b := (p0.length : Int)) rfl rfl) rfl ?_
    refine wl_nil ?_
    refine hK316 _ _ ?_
    refine w_condI (p := v305 < (p0.length : Int)) (b := (decide (v305 < (p0.length : Int)))) rfl decide_eq_true_iff (fun h317 => ?_) (fun h317 => ?_)
    · replace hm := hm.1 h317
      refine w_skip ?_
      refine hK315 _ _ ?_
      refine w_seq fun K318 hK318 => ?_
      refine w_block ?_
      have hlt321 := hS313.all
      refine w_tree (X := Ext) (Y := BelN w311.heap.size) [3, 2, 0, 0, 0, 0, 0, 4, 3, 3, 3, 3, 3, 0, 2, 1, 0] [0, 2, 3, 8, 9, 4, 10, 5, 11, 6, 12, 1, 7, 13, 14, 15, 16] .fin MIX (by decide +kernel) (by decide +kernel) (by decide +kernel) rfl Ext.refl (fun _ _ _ => Ext.trans) (fun _ _ _ => BelN.trans) (fun _ _ h => h.belN) (fun w319 hE320 => ?_)
      have hB322 := Ext.stp hE320 (Nat.le_refl _)
      have hS323 : Sep w319 w311.heap.size [] := Sep.nil hE320.size
      refine ⟨.slice a300 n301 c302, fun w324 hX325 => od_plain rfl (by have hB327 := hB322.trans (hX325 hS323.base); exact is_ext (g_move (v := .slice a300 n301 c302) rfl)), ?_⟩
      refine ⟨.slice a0 n0 c0, fun w328 hX329 => od_plain rfl (by have hS330 := hS323.ext hX329; have hB331 := hB322.trans (Ext.stp hX329 hS323.base); exact is_ext (g_move (v := .slice a0 n0 c0) rfl)), ?_⟩
      refine ⟨.int .i64 v305, fun w332 hX333 => od_plain rfl (by have hS334 := hS323.ext hX333; have hB335 := hB322.trans (Ext.stp hX333 hS323.base); exact is_ext (g_move (v := .int .i64 v305) rfl)), ?_⟩
      refine ⟨.slice a0 n0 c0, fun w336 hX337 => od_plain rfl (by have hB339 := hB322.trans (hX337 hS323.base); exact is_ext (g_move (v := .slice a0 n0 c0) rfl)), ?_⟩
      refine ⟨.int .i64 v305, fun w340 hX341 => od_plain rfl (by have hB343 := hB322.trans (hX341 hS323.base); exact is_ext (g_move (v := .int .i64 v305) rfl)), ?_⟩
      obtain ⟨hg348, hm⟩ := hm
      refine ⟨.pointer (some ((adr a0).add ((Int.toNat v305) * El.m PlayerD))), fun w344 hX345 => od_plain rfl (by have hS346 := hS323.ext hX345; have hB347 := hB322.trans (Ext.stp hX345 hS323.base); exact is_ext (q_index (i := v305) SL30 rfl rfl (Tv.o (hp0.bel (hB312.trans (bel_le hB347 hS313.base)))) (Tv.g (hp0.bel (hB312.trans (bel_le hB347 hS313.base))) hg348))), ?_⟩
      obtain ⟨hg353, hm⟩ := hm
      refine ⟨.pointer (some ((adr a0).add ((Int.toNat v305) * El.m PlayerD))), fun w349 hX350 => od_plain rfl (by have hB352 := hB322.trans (hX350 hS323.base); exact is_ext (q_index (i := v305) SL30 rfl rfl (Tv.o (hp0.bel (hB312.trans (bel_le hB352 hS313.base)))) (Tv.g (hp0.bel (hB312.trans (bel_le hB352 hS313.base))) hg353))), ?_⟩
      refine ⟨.pointer (some (((adr a0).add ((Int.toNat v305) * El.m PlayerD)).add 0)), fun w354 hX355 => od_plain rfl (by have hS356 := hS323.ext hX355; have hB357 := hB322.trans (Ext.stp hX355 hS323.base); exact is_ext (g_fieldAddr (q := (adr a0).add ((Int.toNat v305) * El.m PlayerD)) FL61_0 ON35 rfl)), ?_⟩
      refine ⟨.pointer (some (((adr a0).add ((Int.toNat v305) * El.m PlayerD)).add 1)), fun w358 hX359 => od_plain rfl (by have hB361 := hB322.trans (hX359 hS323.base); exact is_ext (g_fieldAddr (q := (adr a0).add ((Int.toNat v305) * El.m PlayerD)) FL61_1 ON3 rfl)), ?_⟩
      refine ⟨.slice ((y0[(Int.toNat v305)]!).1.1) ((y0[(Int.toNat v305)]!).1.2.2.length) ((y0[(Int.toNat v305)]!).1.2.1), fun w362 hX363 => od_plain rfl (by have hS364 := hS323.ext hX363; have hB365 := hB322.trans (Ext.stp hX363 hS323.base); exact is_ext (q_loadF (i := v305) (j := 0) (v := .slice ((y0[(Int.toNat v305)]!).1.1) ((y0[(Int.toNat v305)]!).1.2.2.length) ((y0[(Int.toNat v305)]!).1.2.1)) ON35 (Tv.o (hp0.bel (hB312.trans (bel_le hB365 hS313.base)))) (Tv.g (hp0.bel (hB312.trans (bel_le hB365 hS313.base))) hg348) rfl rfl)), ?_⟩
      refine ⟨.int .i64 (p0[(Int.toNat v305)]!.2), fun w366 hX367 => od_plain rfl (by have hB369 := hB322.trans (hX367 hS323.base); exact is_ext (q_loadF (i := v305) (j := 1) (v := .int .i64 (p0[(Int.toNat v305)]!.2)) ON3 (Tv.o (hp0.bel (hB312.trans (bel_le hB369 hS313.base)))) (Tv.g (hp0.bel (hB312.trans (bel_le hB369 hS313.base))) hg353) (by rw [← Tv.free (hp0.bel (hB312.trans (bel_le hB369 hS313.base))) hg353]; rfl) rfl)), ?_⟩
      intro w370 hX371
      have hB372 := hB322.trans (Ext.stp hX371 hS323.base)
      have hS373 := hS323.ext hX371
      refine ⟨_, od_plain rfl (q_lit0 (α := Int) rfl SL35 hS373), ?_⟩
      rintro _ w374 ⟨a375, rfl, hS377, hE376⟩
      refine ⟨hE376, ?_⟩
      have hB379 := hB372.trans (Ext.stp hE376 hS373.base)
      intro w380 hX381
      have hB382 := hB379.trans (Ext.stp hX381 hS377.base)
      have hS383 := hS377.ext hX381
      obtain ⟨hg389, hm⟩ := hm
      refine ⟨_, od_plain rfl (q_append SL35 rfl rfl hS383 (Tv.rowP (hp0.bel (hB312.trans (bel_le hB382 hS313.base))) hg348) hg389 (by decide)), ?_⟩
      rintro _ w384 ⟨a385, c386, rfl, hS388, hb387⟩
      refine ⟨fun _ => hb387, ?_⟩
      have hB390 := hB382.trans hb387
      refine ⟨.agg #[.slice a385 (0 + (y0[(Int.toNat v305)]!).1.2.2.length) c386, .int .i64 (p0[(Int.toNat v305)]!.2)], fun w391 hX392 => od_plain rfl (by have hS393 := hS388.ext hX392; have hB394 := hB390.trans (Ext.stp hX392 hS388.base); exact is_ext (g_build (v := .agg #[.slice a385 (0 + (y0[(Int.toNat v305)]!).1.2.2.length) c386, .int .i64 (p0[(Int.toNat v305)]!.2)]) (parts2 rfl rfl) (BD61_01 a385 (0 + (y0[(Int.toNat v305)]!).1.2.2.length) c386 (p0[(Int.toNat v305)]!.2)))), ?_⟩
      intro w395 hX396
      have hB397 := hB390.trans (Ext.stp hX396 hS388.base)
      have hS398 := hS388.ext hX396
      have hn404 := oS.len hS398.g0
      have hS405 := hS398.rowsPlayer (p0[(Int.toNat v305)]!.2)
      have he403 : ers [(((a385, c386, p0[(Int.toNat v305)]!.1), p0[(Int.toNat v305)]!.2) : PlayerD)] = [(p0[(Int.toNat v305)]!.1, p0[(Int.toNat v305)]!.2)] := rfl
      refine ⟨_, od_plain rfl (q_lit1 (y := ((((a385, c386, p0[(Int.toNat v305)]!.1), p0[(Int.toNat v305)]!.2) : PlayerD) : PlayerD)) SL30 rfl (by rw [hn404]; rfl) (by decide) hS405), ?_⟩
      rintro _ w399 ⟨a400, rfl, hS402, hE401⟩
      refine ⟨hE401, ?_⟩
      have hB408 := hB397.trans (Ext.stp hE401 hS405.base)
      intro w410 hX411
      have hB412 := hB408.trans (Ext.stp hX411 hS402.base)
      have hS413 := hS402.ext hX411
      have hS414 := Sep.app2 hS413 (Sep.belN hS313 hlt321 hB412) hlt321 hS313.base
      have hB415 := hB312.trans (bel_le hB412 hS313.base)
      have hS421 := hS414.f2
      obtain ⟨hg422, hm⟩ := hm
      have hl423 : (y303).length + ([(((a385, c386, p0[(Int.toNat v305)]!.1), p0[(Int.toNat v305)]!.2) : PlayerD)]).length ≤ 1099511627776 := by have h1 := congrArg List.length he304; have h2 := congrArg List.length he403; have h3 := hg422; simp only [ers, List.length_map, List.length_append, List.length_cons, List.length_nil, List.length_replicate, List.length_set] at h1 h2 h3 ⊢; omega
      refine ⟨_, od_plain rfl (q_append SL30 rfl rfl hS421 (oS.vw hS421.g1) hl423 (by decide)), ?_⟩
      rintro _ w416 ⟨a417, c418, rfl, hS420, hb419⟩
      have hB424 := hB415.trans hb419
      have hS425 := hS420.f1
      have hS426 := hS425.tail
      have hS427 := hS426.f2
      have hS428 := hS427.f2
      have hS429 := hS428.catRows
      have he430 : ers (y303 ++ ([(((a385, c386, p0[(Int.toNat v305)]!.1), p0[(Int.toNat v305)]!.2) : PlayerD)])) = (x299 ++ ([(p0[(Int.toNat v305)]!.1, p0[(Int.toNat v305)]!.2)])) := by rw [← he304, ← he403]; exact List.map_append
      refine ⟨.slice a417 (n301 + 1) c418, fun w431 hX432 => od_plain rfl (by have hS433 := hS429.ext hX432; have hB434 := hB424.trans (Ext.stp hX432 hS429.base); exact is_ext (g_assign (v := .slice a417 (n301 + 1) c418) rfl)), ?_⟩
      intro w435 hX436
      have hB437 := hB424.trans (Ext.stp hX436 hS429.base)
      have hS438 := hS429.ext hX436
      refine kt_fin ?_
      refine hK318 _ _ ?_
      refine w_region ?_
      refine wl_val (g_move (v := .int .i64 v305) rfl) rfl ?_
      obtain ⟨hg439, hm⟩ := hm
      refine wl_val (g_add (a := v305) (b := 1) rfl rfl hg439) rfl ?_
      refine wl_val (g_assign (v := .int .i64 (v305 + 1)) rfl) rfl ?_
      refine wl_nil ?_
      have hS440 := hS438.f1
      exact ⟨((x299 ++ ([(p0[(Int.toNat v305)]!.1, p0[(Int.toNat v305)]!.2)])), a417, (n301 + 1), c418, (y303 ++ ([(((a385, c386, p0[(Int.toNat v305)]!.1), p0[(Int.toNat v305)]!.2) : PlayerD)])), (v305 + 1)), hm.2, ⟨rfl, rfl, rfl, trivial⟩, ⟨hm.1, he430, hB437, hS440⟩⟩
    · replace hm := hm.2 h317
      refine w_exit ?_
      exact ⟨(x299, a300, n301, c302, y303), ⟨rfl, trivial⟩, ⟨hm, he304, hB312, hS313⟩⟩
  · rintro ⟨x291, a292, n293, c294, y295⟩ b_ w441 ⟨hm, he296, hB442, hS443⟩
    show Wp _ _ _ _ (upds b_ [(3, .slice a292 n293 c294)]) w441
    refine w_seq fun K444 hK444 => ?_
    refine w_region ?_
    refine wl_val (g_move (v := .slice a292 n293 c294) rfl) rfl ?_
    refine wl_val (g_assign (v := .slice a292 n293 c294) rfl) rfl ?_
    refine wl_nil ?_
    refine hK444 _ _ ?_
    refine w_ret ?_
    repeat first | with_reducible refine q_then ?_ | with_reducible refine q_block ?_
    exact ret1 rfl (by decide) ⟨_, _, _, _, _, hm, he296, rfl, toExt hB442, hS443⟩

theorem m_spec_WithoutPlayer_fn {w : World} {a0 : Option Addr} {n0 c0 : Nat} {y0 : List PlayerD} {p0 : List PlayerC} {Q : (List PlayerC) → Bool → Prop} (hp0 : Tv w.heap.size w a0 n0 c0 y0 p0) (p1 : Int) (hm : m_spec_WithoutPlayer p0 p1 Q) :
    Fn Try.prog 43 #[.slice a0 n0 c0, .int .i64 p1] w (fun v w' => ∃ (r0 : List PlayerC) (a0 : Option Addr) (n0 c0 : Nat) (y0 : List PlayerD) (r1 : Bool), Q r0 r1 ∧ ers y0 = r0 ∧ v = .tuple #[.slice a0 n0 c0, .bool r1] ∧ Ext w w' ∧ Sep w' w.heap.size [oS 61 a0 n0 c0 y0, oT 3 y0]) := by
  unfold m_spec_WithoutPlayer at hm
  have hB0 := Below.refl w.heap.size w
  have hS0 : Sep w w.heap.size [] := Sep.nil (Nat.le_refl _)
  refine fn_of_wp Try.func43 rfl (by kernel_rfl) (Nat.le_of_ble_eq_true rfl) ?_
  refine w_seq fun K1 hK1 => ?_
  refine w_region ?_
  refine wl_val (g_assign (v := .slice none 0 0) rfl) rfl ?_
  refine wl_val (g_assign (v := .bool false) rfl) rfl ?_
  refine wl_nil ?_
  refine hK1 _ _ ?_
  refine w_seq fun K2 hK2 => ?_
  refine w_region ?_
  refine wl_val (g_move (v := .slice a0 n0 c0) rfl) rfl ?_
  refine wl_step rfl (g_call (vs := #[.slice a0 n0 c0]) CF68 (args1 rfl) (m_spec_l17Copy_fn ((hp0.bel hB0).up hS0) hm)) ?_
  rintro _ w3 ⟨r6, a7, n8, c9, y10, hm, he11, rfl, hE4, hN5⟩
  have hS15 := hS0.call2 hE4 hN5
  have hB16 := hB0.trans (Ext.stp hE4 hS0.base)
  refine wl_val (g_assign (v := .slice a7 n8 c9) rfl) rfl ?_
  refine wl_nil ?_
  refine hK2 _ _ ?_
  refine w_seq fun K17 hK17 => ?_
  refine w_seq fun K18 hK18 => ?_
  refine w_region ?_
  refine wl_val (g_move (v := .slice a0 n0 c0) rfl) rfl ?_
  refine wl_step rfl (g_call (vs := #[.slice a0 n0 c0]) CF22 (args1 rfl) (m_spec_PlayersOk_fn ((hp0.bel hB16).up hS15) hm)) ?_
  rintro _ w19 ⟨r22, hm, rfl, hE20⟩
  have hB23 := hB16.trans (Ext.stp hE20 hS15.base)
  have hS24 := hS15.ext hE20
  refine wl_val (g_not (a := r22) rfl) rfl ?_
  refine wl_val (g_move (v := .bool (!r22)) rfl) rfl ?_
  refine wl_guard (c := (!r22) = false) (val := .int .i64 p1) (b := ((!r22) == false)) (gv_some rfl rfl rfl) beq_iff_eq (fun hc25 => ?_) ?_
  · have hq0 : ¬ (¬ (r22 = true)) := (i_neg (i_not Iff.rfl) hc25)
    exact g_move (v := .int .i64 p1) rfl
  refine wl_guard (c := (!r22) = false) (val := .slice a0 n0 c0) (b := ((!r22) == false)) (gv_some rfl rfl rfl) beq_iff_eq (fun hc26 => ?_) ?_
  · have hq0 : ¬ (¬ (r22 = true)) := (i_neg (i_not Iff.rfl) hc26)
    exact g_move (v := .slice a0 n0 c0) rfl
  refine wl_guard (c := (!r22) = false) (val := .int .i64 (p0.length : Int)) (b := ((!r22) == false)) (gv_some rfl rfl rfl) beq_iff_eq (fun hc27 => ?_) ?_
  · have hq0 : ¬ (¬ (r22 = true)) := (i_neg (i_not Iff.rfl) hc27)
    exact q_len SL30 (if_pos hc27) (Tv.len (hp0.bel hB23))
  obtain ⟨hg29, hm⟩ := hm
  refine wl_guard (c := (!r22) = false) (val := .int .i64 ((p0.length : Int) - 1)) (b := ((!r22) == false)) (gv_some rfl rfl rfl) beq_iff_eq (fun hc28 => ?_) ?_
  · have hq0 : ¬ (¬ (r22 = true)) := (i_neg (i_not Iff.rfl) hc28)
    exact g_sub (a := (p0.length : Int)) (b := 1) (if_pos hc28) rfl (hg29 hq0)
  obtain ⟨r31, hk32, hm⟩ := hm
  refine wl_guardE (X := Ext) (c := (!r22) = false) (val := .bool r31) (Ext.refl _) (b := ((!r22) == false)) (gv_some rfl rfl rfl) beq_iff_eq (fun hc30 => ?_) (fun w33 hE34 => ?_)
  · have hq0 : ¬ (¬ (r22 = true)) := (i_neg (i_not Iff.rfl) hc30)
    exact (g_call (vs := #[.int .i64 p1, .int .i64 0, .int .i64 ((p0.length : Int) - 1)]) CF59 (args3 (if_pos hc30) rfl (if_pos hc30)) ((m_spec_l01In_fn p1 0 ((p0.length : Int) - 1) (hk32 hq0)).mono fun _ _ ⟨_, h1, h2, h3⟩ => ⟨by rw [h2, h1], h3⟩))
  have hB35 := hB23.trans (Ext.stp hE34 hS24.base)
  have hS36 := hS24.ext hE34
  refine wl_guard (c := (!r22) = false) (val := .bool (!r31)) (b := ((!r22) == false)) (gv_some rfl rfl rfl) beq_iff_eq (fun hc37 => ?_) ?_
  · have hq0 : ¬ (¬ (r22 = true)) := (i_neg (i_not Iff.rfl) hc37)
    exact g_not (a := r31) (if_pos hc37)
  refine wl_val (g_pick_or (b := (!r22)) (q := (!r31)) rfl rfl) rfl ?_
  refine wl_nil ?_
  refine hK18 _ _ ?_
  refine w_condI (p := ((¬ (r22 = true)) ∨ (¬ (r31 = true)))) (b := ((!r22) || (!r31))) rfl (i_or (i_not Iff.rfl) (i_not Iff.rfl)) (fun h38 => ?_) (fun h38 => ?_)
  · replace hm := hm.1 h38
    refine w_seq fun K39 hK39 => ?_
    refine w_region ?_
    refine wl_val (g_move (v := .slice a7 n8 c9) rfl) rfl ?_
    refine wl_val (g_assign (v := .slice a7 n8 c9) rfl) rfl ?_
    refine wl_val (g_assign (v := .bool false) rfl) rfl ?_
    refine wl_nil ?_
    refine hK39 _ _ ?_
    refine w_ret ?_
    repeat first | with_reducible refine q_then ?_ | with_reducible refine q_block ?_
    exact ret2 rfl (by decide) (by decide) ⟨_, _, _, _, _, _, hm, he11, rfl, toExt hB35, hS36⟩
  · replace hm := hm.2 h38
    refine w_skip ?_
    refine hK17 _ _ ?_
    refine w_seq fun K40 hK40 => ?_
    refine w_region ?_
    refine wl_val (g_move (v := .slice a7 n8 c9) rfl) rfl ?_
    refine wl_val (g_move (v := .int .i64 p1) rfl) rfl ?_
    obtain ⟨hg41, hm⟩ := hm
    refine wl_val (q_index (i := p1) SL30 rfl rfl (Tv.o (oT.vw hS36.g0 hS36.g1 he11)) (Tv.g (oT.vw hS36.g0 hS36.g1 he11) hg41)) rfl ?_
    refine wl_val (g_fieldAddr (q := (adr a7).add ((Int.toNat p1) * El.m PlayerD)) FL61_1 ON3 rfl) rfl ?_
    have hS45 := hS36.f1
    have hS46 := hS45.f1
    have hl47 : ix p1 (y10).length := by have h3 := congrArg List.length he11; simp only [ers, List.length_map] at h3; rw [h3]; exact hg41
    refine wl_step rfl (q_storeF (i := p1) (j := 1) (v := (((y10)[(Int.toNat p1)]!.1, 0) : PlayerD)) hS46 ON3 hl47 rfl rfl rfl rfl (by decide) rfl) ?_
    rintro _ w42 ⟨rfl, hS43, hb44⟩
    have hB48 := hB35.trans hb44
    have hl49 : (Int.toNat p1) < (y10).length := by have h1 := (hl47).1; have h2 := (hl47).2; omega
    have he50 : ers (y10.set (Int.toNat p1) ((y10)[(Int.toNat p1)]!.1, 0)) = (r6.set (Int.toNat p1) (r6[(Int.toNat p1)]!.1, 0)) := ers_set he11 (by first | rfl | (rw [← he11, er_get hl49]; rfl)) _
    have hS51 := hS43.f1
    have hS52 := hS51.rowsSame (ys' := (y10.set (Int.toNat p1) ((y10)[(Int.toNat p1)]!.1, 0))) (by simp) (fun i' j' h1 h2 => by rw [set_at _ _ _ hl49]; exact if hc : (Int.toNat p1) = i' then (by subst hc; rw [if_pos rfl]; rfl) else (by rw [if_neg hc]))
    refine wl_nil ?_
    refine hK40 _ _ ?_
    refine w_seq fun K53 hK53 => ?_
    refine w_region ?_
    refine wl_val (g_move (v := .slice a7 n8 c9) rfl) rfl ?_
    refine wl_val (g_assign (v := .slice a7 n8 c9) rfl) rfl ?_
    refine wl_val (g_assign (v := .bool true) rfl) rfl ?_
    refine wl_nil ?_
    refine hK53 _ _ ?_
    refine w_ret ?_
    have hS54 := hS52.f1
    repeat first | with_reducible refine q_then ?_ | with_reducible refine q_block ?_
    exact ret2 rfl (by decide) (by decide) ⟨_, _, _, _, _, _, hm, he50, rfl, toExt hB48, hS54⟩

theorem m_impl_copyOf_fn {w : World} {a0 : Option Addr} {n0 c0 : Nat} {p0 : List Int} {Q : (List Int) → Prop} (hp0 : Vw w.heap.size w a0 n0 c0 p0) (hm : m_impl_copyOf p0 Q) :
    Fn Try.prog 75 #[.slice a0 n0 c0] w (fun v w' => ∃ (r0 : List Int) (a0 : Option Addr) (n0 c0 : Nat), Q r0 ∧ v = .slice a0 n0 c0 ∧ Ext w w' ∧ Sep w' w.heap.size [oS 3 a0 n0 c0 r0]) := by
  unfold m_impl_copyOf at hm
  have hB0 := Below.refl w.heap.size w
  have hS0 : Sep w w.heap.size [] := Sep.nil (Nat.le_refl _)
  refine fn_of_wp Try.func75 rfl (by kernel_rfl) (Nat.le_of_ble_eq_true rfl) ?_
  refine w_seq fun K1 hK1 => ?_
  refine w_region ?_
  refine wl_val (g_assign (v := .slice none 0 0) rfl) rfl ?_
  refine wl_nil ?_
  refine hK1 _ _ ?_
  refine w_seq fun K2 hK2 => ?_
  refine w_region ?_
  refine wl_step rfl (q_lit0 (α := Int) rfl SL35 hS0) ?_
  rintro _ w3 ⟨a4, rfl, hS6, hE5⟩
  have hB8 := hB0.trans (Ext.stp hE5 hS0.base)
  refine wl_val (g_move (v := .slice a0 n0 c0) rfl) rfl ?_
  obtain ⟨hg14, hm⟩ := hm
  refine wl_step rfl (q_append SL35 rfl rfl hS6 (hp0.bel hB8) hg14 (by decide)) ?_
  rintro _ w9 ⟨a10, c11, rfl, hS13, hb12⟩
  have hB15 := hB8.trans hb12
  refine wl_val (g_assign (v := .slice a10 (0 + n0) c11) rfl) rfl ?_
  refine wl_nil ?_
  refine hK2 _ _ ?_
  refine w_ret ?_
  repeat first | with_reducible refine q_then ?_ | with_reducible refine q_block ?_
  exact ret1 rfl (by decide) ⟨_, _, _, _, hm, rfl, toExt hB15, hS13⟩

theorem m_impl_copyPlayers_fn {w : World} {a0 : Option Addr} {n0 c0 : Nat} {y0 : List PlayerD} {p0 : List PlayerC} {Q : (List PlayerC) → Prop} (hp0 : Tv w.heap.size w a0 n0 c0 y0 p0) (hm : m_impl_copyPlayers p0 Q) :
    Fn Try.prog 69 #[.slice a0 n0 c0] w (fun v w' => ∃ (r0 : List PlayerC) (a0 : Option Addr) (n0 c0 : Nat) (y0 : List PlayerD), Q r0 ∧ ers y0 = r0 ∧ v = .slice a0 n0 c0 ∧ Ext w w' ∧ Sep w' w.heap.size [oS 61 a0 n0 c0 y0, oT 3 y0]) := by
  unfold m_impl_copyPlayers at hm
  have hB0 := Below.refl w.heap.size w
  have hS0 : Sep w w.heap.size [] := Sep.nil (Nat.le_refl _)
  refine fn_of_wp Try.func69 rfl (by kernel_rfl) (Nat.le_of_ble_eq_true rfl) ?_
  refine w_seq fun K1 hK1 => ?_
  refine w_region ?_
  refine wl_val (g_assign (v := .slice none 0 0) rfl) rfl ?_
  refine wl_nil ?_
  refine hK1 _ _ ?_
  refine w_seq fun K2 hK2 => ?_
  refine w_region ?_
  refine wl_step rfl (q_lit0 (α := PlayerD) rfl SL30 hS0) ?_
  rintro _ w3 ⟨a4, rfl, hS6, hE5⟩
  have hB8 := hB0.trans (Ext.stp hE5 hS0.base)
  have hS9 := hS6.noRows (δ := PlayerD) (E := 3)
  have he11 : ers ([] : List PlayerD) = ([] : List PlayerC) := rfl
  refine wl_val (g_assign (v := .slice a4 0 0) rfl) rfl ?_
  refine wl_nil ?_
  refine hK2 _ _ ?_
  refine w_cut (σ := List PlayerC × Option Addr × Nat × Nat × List PlayerD) (fun ⟨x251, a252, n253, c254, y255⟩ => [(3, .slice a252 n253 c254)]) (fun ⟨x251, a252, n253, c254, y255⟩ w' => m_impl_copyPlayers_K0 Q x251 ∧ ers y255 = x251 ∧ Below w.heap.size w w' ∧ Sep w' w.heap.size [oS 61 a252 n253 c254 (y255 : List PlayerD), oT 3 (y255 : List PlayerD)]) ?_ ?_
  · refine w_seq fun K258 hK258 => ?_
    refine w_region ?_
    refine wl_val (g_move (v := .slice a0 n0 c0) rfl) rfl ?_
    refine wl_val (q_len SL30 rfl (Tv.len (hp0.bel hB8))) rfl ?_
    refine wl_val (g_move (v := .int .i64 0) rfl) rfl ?_
    refine wl_nil ?_
    refine hK258 _ _ ?_
    refine w_block ?_
    have hS266 := hS9.f1
    obtain ⟨I267, μ268, h0269, hr270⟩ := hm
    refine w_for (σ := List PlayerC × Option Addr × Nat × Nat × List PlayerD × Int) (fun ⟨x259, a260, n261, c262, y263, v265⟩ => [(3, .slice a260 n261 c262), (7, .slice a0 n0 c0), (8, .int .i64 (p0.length : Int)), (9, .int .i64 v265)]) (fun ⟨x259, a260, n261, c262, y263, v265⟩ w' => I267 x259 v265 ∧ ers y263 = x259 ∧ Below w.heap.size w w' ∧ Sep w' w.heap.size [oS 61 a260 n261 c262 (y263 : List PlayerD), oT 3 (y263 : List PlayerD)]) (fun ⟨x259, a260, n261, c262, y263, v265⟩ => μ268 x259 v265) ([], a4, 0, 0, [], 0) ⟨rfl, rfl, rfl, rfl, trivial⟩ ⟨h0269, he11, hB8, hS266⟩ ?_
    rintro ⟨x259, a260, n261, c262, y263, v265⟩ b_ w271 ⟨hi_, he264, hB272, hS273⟩
    show Wp _ _ _ _ (upds b_ [(3, .slice a260 n261 c262), (7, .slice a0 n0 c0), (8, .int .i64 (p0.length : Int)), (9, .int .i64 v265)]) w271
    have hm := hr270 x259 v265 hi_
    refine w_seq fun K275 hK275 => ?_
    refine w_region ?_
    refine wl_val (g_lss (a := v265) (b := (p0.length : Int)) rfl rfl) rfl ?_
    refine wl_nil ?_
    refine hK275 _ _ ?_
    refine w_seq fun K276 hK276 => ?_
    refine w_condI (p := v265 < (p0.length : Int)) (b := (decide (v265 < (p0.length : Int)))) rfl decide_eq_true_iff (fun h277 => ?_) (fun h277 => ?_)
    · replace hm := hm.1 h277
      refine w_skip ?_
      refine hK276 _ _ ?_
      refine w_seq fun K278 hK278 => ?_
      refine w_block ?_
      refine w_seq fun K279 hK279 => ?_
      refine w_region ?_
      obtain ⟨hg280, hm⟩ := hm
      refine wl_val (q_index (i := v265) SL30 rfl rfl (Tv.o (hp0.bel hB272)) (Tv.g (hp0.bel hB272) hg280)) rfl ?_
      refine wl_val (q_loadS (i := v265) (cs := [.slice ((y0[(Int.toNat v265)]!).1.1) ((y0[(Int.toNat v265)]!).1.2.2.length) ((y0[(Int.toNat v265)]!).1.2.1), .int .i64 (p0[(Int.toNat v265)]!.2)]) AG61 (Tv.o (hp0.bel hB272)) (Tv.g (hp0.bel hB272) hg280) (by rw [← Tv.free (hp0.bel hB272) hg280]; rfl) rfl) rfl ?_
      refine wl_step rfl (q_alloc (cs := #[.slice none 0 0, .int .i64 0]) ZR61 rfl hS273) ?_
      rintro _ w281 ⟨g282, rfl, hS284, hE283⟩
      have hB286 := hB272.trans (Ext.stp hE283 hS273.base)
      refine wl_step rfl (q_storeB (i := 0) (bs' := #[.slice ((y0[(Int.toNat v265)]!).1.1) ((y0[(Int.toNat v265)]!).1.2.2.length) ((y0[(Int.toNat v265)]!).1.2.1), .int .i64 (p0[(Int.toNat v265)]!.2)]) (vs := [.slice ((y0[(Int.toNat v265)]!).1.1) ((y0[(Int.toNat v265)]!).1.2.2.length) ((y0[(Int.toNat v265)]!).1.2.1), .int .i64 (p0[(Int.toNat v265)]!.2)]) hS284 AG61.sz rfl rfl rfl (by simp [Value.oneCell']) (Nat.le_of_ble_eq_true rfl) rfl) ?_
      rintro _ w287 ⟨rfl, hS288, hb289⟩
      have hB290 := hB286.trans hb289
      refine wl_nil ?_
      refine hK279 _ _ ?_
      have hlt293 := hS288.all
      refine w_tree (X := Ext) (Y := BelN w287.heap.size) [0, 0, 0, 2, 0, 0, 0, 2, 1, 0] [0, 1, 4, 2, 5, 3, 6, 7, 8, 9] .fin MIX (by decide +kernel) (by decide +kernel) (by decide +kernel) rfl Ext.refl (fun _ _ _ => Ext.trans) (fun _ _ _ => BelN.trans) (fun _ _ h => h.belN) (fun w291 hE292 => ?_)
      have hB294 := Ext.stp hE292 (Nat.le_refl _)
      have hS295 : Sep w291 w287.heap.size [] := Sep.nil hE292.size
      refine ⟨.slice a260 n261 c262, fun w296 hX297 => od_plain rfl (by have hS298 := hS295.ext hX297; have hB299 := hB294.trans (Ext.stp hX297 hS295.base); exact is_ext (g_move (v := .slice a260 n261 c262) rfl)), ?_⟩
      refine ⟨.pointer (some (((⟨g282, 0, none⟩ : Addr)).add 0)), fun w300 hX301 => od_plain rfl (by have hS302 := hS295.ext hX301; have hB303 := hB294.trans (Ext.stp hX301 hS295.base); exact is_ext (g_fieldAddr (q := (⟨g282, 0, none⟩ : Addr)) FL61_0 ON35 rfl)), ?_⟩
      refine ⟨.pointer (some (((⟨g282, 0, none⟩ : Addr)).add 1)), fun w304 hX305 => od_plain rfl (by have hS306 := hS295.ext hX305; have hB307 := hB294.trans (Ext.stp hX305 hS295.base); exact is_ext (g_fieldAddr (q := (⟨g282, 0, none⟩ : Addr)) FL61_1 ON3 rfl)), ?_⟩
      refine ⟨.slice ((y0[(Int.toNat v265)]!).1.1) ((y0[(Int.toNat v265)]!).1.2.2.length) ((y0[(Int.toNat v265)]!).1.2.1), fun w308 hX309 => od_plain rfl (by have hS310 := hS295.ext hX309; have hB311 := hB294.trans (Ext.stp hX309 hS295.base); exact is_ext (q_loadB (i := 0) (bs := #[.slice ((y0[(Int.toNat v265)]!).1.1) ((y0[(Int.toNat v265)]!).1.2.2.length) ((y0[(Int.toNat v265)]!).1.2.1), .int .i64 (p0[(Int.toNat v265)]!.2)]) (Sep.belN hS288 hlt293 hB311).g0 ON35 rfl rfl)), ?_⟩
      refine ⟨.int .i64 (p0[(Int.toNat v265)]!.2), fun w312 hX313 => od_plain rfl (by have hS314 := hS295.ext hX313; have hB315 := hB294.trans (Ext.stp hX313 hS295.base); exact is_ext (q_loadB (i := 1) (bs := #[.slice ((y0[(Int.toNat v265)]!).1.1) ((y0[(Int.toNat v265)]!).1.2.2.length) ((y0[(Int.toNat v265)]!).1.2.1), .int .i64 (p0[(Int.toNat v265)]!.2)]) (Sep.belN hS288 hlt293 hB315).g0 ON3 rfl rfl)), ?_⟩
      intro w316 hX317
      have hB318 := hB294.trans (Ext.stp hX317 hS295.base)
      have hS319 := hS295.ext hX317
      refine ⟨_, od_plain rfl (g_call (vs := #[.slice ((y0[(Int.toNat v265)]!).1.1) ((y0[(Int.toNat v265)]!).1.2.2.length) ((y0[(Int.toNat v265)]!).1.2.1)]) CF75 (args1 rfl) (m_impl_copyOf_fn (Vw.upN (Tv.rowP (hp0.bel (hB290.trans (bel_le hB318 hS288.base))) hg280) (Nat.le_trans hS288.base hB318.size)) hm)), ?_⟩
      rintro _ w320 ⟨r323, a324, n325, c326, hm, rfl, hE321, hN322⟩
      have hS328 := hS319.call1 hE321 hN322
      refine ⟨hE321, ?_⟩
      have hB329 := hB318.trans (Ext.stp hE321 hS319.base)
      refine ⟨.agg #[.slice a324 n325 c326, .int .i64 (p0[(Int.toNat v265)]!.2)], fun w330 hX331 => od_plain rfl (by have hS332 := hS328.ext hX331; have hB333 := hB329.trans (Ext.stp hX331 hS328.base); exact is_ext (g_build (v := .agg #[.slice a324 n325 c326, .int .i64 (p0[(Int.toNat v265)]!.2)]) (parts2 rfl rfl) (BD61_01 a324 n325 c326 (p0[(Int.toNat v265)]!.2)))), ?_⟩
      intro w334 hX335
      have hB336 := hB329.trans (Ext.stp hX335 hS328.base)
      have hS337 := hS328.ext hX335
      have hn343 := oS.len hS337.g0
      have hS344 := hS337.rowsPlayer (p0[(Int.toNat v265)]!.2)
      have he342 : ers [(((a324, c326, r323), p0[(Int.toNat v265)]!.2) : PlayerD)] = [(r323, p0[(Int.toNat v265)]!.2)] := rfl
      refine ⟨_, od_plain rfl (q_lit1 (y := ((((a324, c326, r323), p0[(Int.toNat v265)]!.2) : PlayerD) : PlayerD)) SL30 rfl (by rw [hn343]; rfl) (by decide) hS344), ?_⟩
      rintro _ w338 ⟨a339, rfl, hS341, hE340⟩
      refine ⟨hE340, ?_⟩
      have hB347 := hB336.trans (Ext.stp hE340 hS344.base)
      intro w349 hX350
      have hB351 := hB347.trans (Ext.stp hX350 hS341.base)
      have hS352 := hS341.ext hX350
      have hS353 := Sep.app2 hS352 (Sep.belN hS288 hlt293 hB351) hlt293 hS288.base
      have hB354 := hB290.trans (bel_le hB351 hS288.base)
      have hS360 := hS353.f3
      obtain ⟨hg361, hm⟩ := hm
      have hl362 : (y263).length + ([(((a324, c326, r323), p0[(Int.toNat v265)]!.2) : PlayerD)]).length ≤ 1099511627776 := by have h1 := congrArg List.length he264; have h2 := congrArg List.length he342; have h3 := hg361; simp only [ers, List.length_map, List.length_append, List.length_cons, List.length_nil, List.length_replicate, List.length_set] at h1 h2 h3 ⊢; omega
      refine ⟨_, od_plain rfl (q_append SL30 rfl rfl hS360 (oS.vw hS360.g1) hl362 (by decide)), ?_⟩
      rintro _ w355 ⟨a356, c357, rfl, hS359, hb358⟩
      have hB363 := hB354.trans hb358
      have hS364 := hS359.f1
      have hS365 := hS364.tail
      have hS366 := hS365.f3
      have hS367 := hS366.f2
      have hS368 := hS367.catRows
      have he369 : ers (y263 ++ ([(((a324, c326, r323), p0[(Int.toNat v265)]!.2) : PlayerD)])) = (x259 ++ ([(r323, p0[(Int.toNat v265)]!.2)])) := by rw [← he264, ← he342]; exact List.map_append
      refine ⟨.slice a356 (n261 + 1) c357, fun w370 hX371 => od_plain rfl (by have hS372 := hS368.ext hX371; have hB373 := hB363.trans (Ext.stp hX371 hS368.base); exact is_ext (g_assign (v := .slice a356 (n261 + 1) c357) rfl)), ?_⟩
      intro w374 hX375
      have hB376 := hB363.trans (Ext.stp hX375 hS368.base)
      have hS377 := hS368.ext hX375
      refine kt_fin ?_
      refine hK278 _ _ ?_
      refine w_region ?_
      obtain ⟨hg378, hm⟩ := hm
      refine wl_val (g_add (a := v265) (b := 1) rfl rfl hg378) rfl ?_
      refine wl_val (g_move (v := .int .i64 (v265 + 1)) rfl) rfl ?_
      refine wl_nil ?_
      have hS379 := hS377.f2
      have hS380 := hS379.tail
      have hS381 := hS380.f1
      exact ⟨((x259 ++ ([(r323, p0[(Int.toNat v265)]!.2)])), a356, (n261 + 1), c357, (y263 ++ ([(((a324, c326, r323), p0[(Int.toNat v265)]!.2) : PlayerD)])), (v265 + 1)), hm.2, ⟨rfl, rfl, rfl, rfl, trivial⟩, ⟨hm.1, he369, hB376, hS381⟩⟩
    · replace hm := hm.2 h277
      refine w_exit ?_
      exact ⟨(x259, a260, n261, c262, y263), ⟨rfl, trivial⟩, ⟨hm, he264, hB272, hS273⟩⟩
  · rintro ⟨x251, a252, n253, c254, y255⟩ b_ w382 ⟨hm, he256, hB383, hS384⟩
    show Wp _ _ _ _ (upds b_ [(3, .slice a252 n253 c254)]) w382
    refine w_seq fun K385 hK385 => ?_
    refine w_region ?_
    refine wl_val (g_move (v := .slice a252 n253 c254) rfl) rfl ?_
    refine wl_val (g_assign (v := .slice a252 n253 c254) rfl) rfl ?_
    refine wl_nil ?_
    refine hK385 _ _ ?_
    refine w_ret ?_
    repeat first | with_reducible refine q_then ?_ | with_reducible refine q_block ?_
    exact ret1 rfl (by decide) ⟨_, _, _, _, _, hm, he256, rfl, toExt hB383, hS384⟩

theorem m_impl_WithoutPlayer_fn {w : World} {a0 : Option Addr} {n0 c0 : Nat} {y0 : List PlayerD} {p0 : List PlayerC} {Q : (List PlayerC) → Bool → Prop} (hp0 : Tv w.heap.size w a0 n0 c0 y0 p0) (p1 : Int) (hm : m_impl_WithoutPlayer p0 p1 Q) :
    Fn Try.prog 44 #[.slice a0 n0 c0, .int .i64 p1] w (fun v w' => ∃ (r0 : List PlayerC) (a0 : Option Addr) (n0 c0 : Nat) (y0 : List PlayerD) (r1 : Bool), Q r0 r1 ∧ ers y0 = r0 ∧ v = .tuple #[.slice a0 n0 c0, .bool r1] ∧ Ext w w' ∧ Sep w' w.heap.size [oS 61 a0 n0 c0 y0, oT 3 y0]) := by
  unfold m_impl_WithoutPlayer at hm
  have hB0 := Below.refl w.heap.size w
  have hS0 : Sep w w.heap.size [] := Sep.nil (Nat.le_refl _)
  refine fn_of_wp Try.func44 rfl (by kernel_rfl) (Nat.le_of_ble_eq_true rfl) ?_
  refine w_seq fun K1 hK1 => ?_
  refine w_region ?_
  refine wl_val (g_assign (v := .slice none 0 0) rfl) rfl ?_
  refine wl_val (g_assign (v := .bool false) rfl) rfl ?_
  refine wl_nil ?_
  refine hK1 _ _ ?_
  refine w_seq fun K2 hK2 => ?_
  refine w_region ?_
  refine wl_val (g_move (v := .slice a0 n0 c0) rfl) rfl ?_
  refine wl_step rfl (g_call (vs := #[.slice a0 n0 c0]) CF69 (args1 rfl) (m_impl_copyPlayers_fn ((hp0.bel hB0).up hS0) hm)) ?_
  rintro _ w3 ⟨r6, a7, n8, c9, y10, hm, he11, rfl, hE4, hN5⟩
  have hS15 := hS0.call2 hE4 hN5
  have hB16 := hB0.trans (Ext.stp hE4 hS0.base)
  refine wl_val (g_assign (v := .slice a7 n8 c9) rfl) rfl ?_
  refine wl_nil ?_
  refine hK2 _ _ ?_
  refine w_seq fun K17 hK17 => ?_
  refine w_seq fun K18 hK18 => ?_
  refine w_region ?_
  refine wl_val (g_move (v := .slice a0 n0 c0) rfl) rfl ?_
  refine wl_step rfl (g_call (vs := #[.slice a0 n0 c0]) CF24 (args1 rfl) (m_impl_PlayersOk_fn ((hp0.bel hB16).up hS15) hm)) ?_
  rintro _ w19 ⟨r22, hm, rfl, hE20⟩
  have hB23 := hB16.trans (Ext.stp hE20 hS15.base)
  have hS24 := hS15.ext hE20
  refine wl_val (g_not (a := r22) rfl) rfl ?_
  refine wl_val (g_move (v := .bool (!r22)) rfl) rfl ?_
  refine wl_guard (c := (!r22) = false) (val := .int .i64 p1) (b := ((!r22) == false)) (gv_some rfl rfl rfl) beq_iff_eq (fun hc25 => ?_) ?_
  · have hq0 : ¬ (¬ (r22 = true)) := (i_neg (i_not Iff.rfl) hc25)
    exact g_move (v := .int .i64 p1) rfl
  refine wl_guard (c := (!r22) = false) (val := .slice a0 n0 c0) (b := ((!r22) == false)) (gv_some rfl rfl rfl) beq_iff_eq (fun hc26 => ?_) ?_
  · have hq0 : ¬ (¬ (r22 = true)) := (i_neg (i_not Iff.rfl) hc26)
    exact g_move (v := .slice a0 n0 c0) rfl
  refine wl_guard (c := (!r22) = false) (val := .int .i64 (p0.length : Int)) (b := ((!r22) == false)) (gv_some rfl rfl rfl) beq_iff_eq (fun hc27 => ?_) ?_
  · have hq0 : ¬ (¬ (r22 = true)) := (i_neg (i_not Iff.rfl) hc27)
    exact q_len SL30 (if_pos hc27) (Tv.len (hp0.bel hB23))
  obtain ⟨hg29, hm⟩ := hm
  refine wl_guard (c := (!r22) = false) (val := .int .i64 ((p0.length : Int) - 1)) (b := ((!r22) == false)) (gv_some rfl rfl rfl) beq_iff_eq (fun hc28 => ?_) ?_
  · have hq0 : ¬ (¬ (r22 = true)) := (i_neg (i_not Iff.rfl) hc28)
    exact g_sub (a := (p0.length : Int)) (b := 1) (if_pos hc28) rfl (hg29 hq0)
  obtain ⟨r31, hk32, hm⟩ := hm
  refine wl_guardE (X := Ext) (c := (!r22) = false) (val := .bool r31) (Ext.refl _) (b := ((!r22) == false)) (gv_some rfl rfl rfl) beq_iff_eq (fun hc30 => ?_) (fun w33 hE34 => ?_)
  · have hq0 : ¬ (¬ (r22 = true)) := (i_neg (i_not Iff.rfl) hc30)
    exact (g_call (vs := #[.int .i64 p1, .int .i64 0, .int .i64 ((p0.length : Int) - 1)]) CF62 (args3 (if_pos hc30) rfl (if_pos hc30)) ((m_impl_within_fn p1 0 ((p0.length : Int) - 1) (hk32 hq0)).mono fun _ _ ⟨_, h1, h2, h3⟩ => ⟨by rw [h2, h1], h3⟩))
  have hB35 := hB23.trans (Ext.stp hE34 hS24.base)
  have hS36 := hS24.ext hE34
  refine wl_guard (c := (!r22) = false) (val := .bool (!r31)) (b := ((!r22) == false)) (gv_some rfl rfl rfl) beq_iff_eq (fun hc37 => ?_) ?_
  · have hq0 : ¬ (¬ (r22 = true)) := (i_neg (i_not Iff.rfl) hc37)
    exact g_not (a := r31) (if_pos hc37)
  refine wl_val (g_pick_or (b := (!r22)) (q := (!r31)) rfl rfl) rfl ?_
  refine wl_nil ?_
  refine hK18 _ _ ?_
  refine w_condI (p := ((¬ (r22 = true)) ∨ (¬ (r31 = true)))) (b := ((!r22) || (!r31))) rfl (i_or (i_not Iff.rfl) (i_not Iff.rfl)) (fun h38 => ?_) (fun h38 => ?_)
  · replace hm := hm.1 h38
    refine w_seq fun K39 hK39 => ?_
    refine w_region ?_
    refine wl_val (g_move (v := .slice a7 n8 c9) rfl) rfl ?_
    refine wl_val (g_assign (v := .slice a7 n8 c9) rfl) rfl ?_
    refine wl_val (g_assign (v := .bool false) rfl) rfl ?_
    refine wl_nil ?_
    refine hK39 _ _ ?_
    refine w_ret ?_
    repeat first | with_reducible refine q_then ?_ | with_reducible refine q_block ?_
    exact ret2 rfl (by decide) (by decide) ⟨_, _, _, _, _, _, hm, he11, rfl, toExt hB35, hS36⟩
  · replace hm := hm.2 h38
    refine w_skip ?_
    refine hK17 _ _ ?_
    refine w_seq fun K40 hK40 => ?_
    refine w_region ?_
    refine wl_val (g_move (v := .slice a7 n8 c9) rfl) rfl ?_
    refine wl_val (g_move (v := .int .i64 p1) rfl) rfl ?_
    obtain ⟨hg41, hm⟩ := hm
    refine wl_val (q_index (i := p1) SL30 rfl rfl (Tv.o (oT.vw hS36.g0 hS36.g1 he11)) (Tv.g (oT.vw hS36.g0 hS36.g1 he11) hg41)) rfl ?_
    refine wl_val (g_fieldAddr (q := (adr a7).add ((Int.toNat p1) * El.m PlayerD)) FL61_1 ON3 rfl) rfl ?_
    have hS45 := hS36.f1
    have hS46 := hS45.f1
    have hl47 : ix p1 (y10).length := by have h3 := congrArg List.length he11; simp only [ers, List.length_map] at h3; rw [h3]; exact hg41
    refine wl_step rfl (q_storeF (i := p1) (j := 1) (v := (((y10)[(Int.toNat p1)]!.1, 0) : PlayerD)) hS46 ON3 hl47 rfl rfl rfl rfl (by decide) rfl) ?_
    rintro _ w42 ⟨rfl, hS43, hb44⟩
    have hB48 := hB35.trans hb44
    have hl49 : (Int.toNat p1) < (y10).length := by have h1 := (hl47).1; have h2 := (hl47).2; omega
    have he50 : ers (y10.set (Int.toNat p1) ((y10)[(Int.toNat p1)]!.1, 0)) = (r6.set (Int.toNat p1) (r6[(Int.toNat p1)]!.1, 0)) := ers_set he11 (by first | rfl | (rw [← he11, er_get hl49]; rfl)) _
    have hS51 := hS43.f1
    have hS52 := hS51.rowsSame (ys' := (y10.set (Int.toNat p1) ((y10)[(Int.toNat p1)]!.1, 0))) (by simp) (fun i' j' h1 h2 => by rw [set_at _ _ _ hl49]; exact if hc : (Int.toNat p1) = i' then (by subst hc; rw [if_pos rfl]; rfl) else (by rw [if_neg hc]))
    refine wl_nil ?_
    refine hK40 _ _ ?_
    refine w_seq fun K53 hK53 => ?_
    refine w_region ?_
    refine wl_val (g_move (v := .slice a7 n8 c9) rfl) rfl ?_
    refine wl_val (g_assign (v := .slice a7 n8 c9) rfl) rfl ?_
    refine wl_val (g_assign (v := .bool true) rfl) rfl ?_
    refine wl_nil ?_
    refine hK53 _ _ ?_
    refine w_ret ?_
    have hS54 := hS52.f1
    repeat first | with_reducible refine q_then ?_ | with_reducible refine q_block ?_
    exact ret2 rfl (by decide) (by decide) ⟨_, _, _, _, _, _, hm, he50, rfl, toExt hB48, hS54⟩

theorem m_laws_heldPlayerS_fn {w : World} {a0 : Option Addr} {n0 c0 : Nat} {y0 : List PlayerD} {p0 : List PlayerC} {Q : Int → Prop} (hp0 : Tv w.heap.size w a0 n0 c0 y0 p0) (p1 : Int) (hm : m_laws_heldPlayerS p0 p1 Q) :
    Fn Try.prog 45 #[.slice a0 n0 c0, .int .i64 p1] w (fun v w' => ∃ (r0 : Int), Q r0 ∧ v = .int .i64 r0 ∧ Ext w w') := by
  unfold m_laws_heldPlayerS at hm
  have hB0 := Below.refl w.heap.size w
  have hS0 : Sep w w.heap.size [] := Sep.nil (Nat.le_refl _)
  refine fn_of_wp Try.func45 rfl (by kernel_rfl) (Nat.le_of_ble_eq_true rfl) ?_
  refine w_seq fun K1 hK1 => ?_
  refine w_region ?_
  refine wl_val (g_assign (v := .int .i64 0) rfl) rfl ?_
  refine wl_nil ?_
  refine hK1 _ _ ?_
  refine w_cut (σ := Int) (fun v68 => [(1, .int .i64 v68)]) (fun v68 w' => m_laws_heldPlayerS_K0 Q v68 ∧ Below w.heap.size w w' ∧ Sep w' w.heap.size []) ?_ ?_
  · refine w_seq fun K70 hK70 => ?_
    refine w_region ?_
    refine wl_val (g_assign (v := .int .i64 0) rfl) rfl ?_
    refine wl_nil ?_
    refine hK70 _ _ ?_
    refine w_block ?_
    obtain ⟨I73, μ74, h075, hr76⟩ := hm
    refine w_for (σ := Int × Int) (fun ⟨v71, v72⟩ => [(0, .slice a0 n0 c0), (1, .int .i64 v71), (5, .int .i64 v72)]) (fun ⟨v71, v72⟩ w' => I73 v71 v72 ∧ Below w.heap.size w w' ∧ Sep w' w.heap.size []) (fun ⟨v71, v72⟩ => μ74 v71 v72) (p1, 0) ⟨rfl, rfl, rfl, trivial⟩ ⟨h075, hB0, hS0⟩ ?_
    rintro ⟨v71, v72⟩ b_ w77 ⟨hi_, hB78, hS79⟩
    show Wp _ _ _ _ (upds b_ [(0, .slice a0 n0 c0), (1, .int .i64 v71), (5, .int .i64 v72)]) w77
    have hm := hr76 v71 v72 hi_
    refine w_seq fun K81 hK81 => ?_
    refine w_seq fun K82 hK82 => ?_
    refine w_region ?_
    refine wl_val (g_move (v := .int .i64 v72) rfl) rfl ?_
    refine wl_val (g_move (v := .slice a0 n0 c0) rfl) rfl ?_
    refine wl_val (q_len SL30 rfl (Tv.len (hp0.bel hB78))) rfl ?_
    refine wl_val (g_lss (a := v72) (b := (p0.length : Int)) rfl rfl) rfl ?_
    refine wl_nil ?_
    refine hK82 _ _ ?_
    refine w_condI (p := v72 < (p0.length : Int)) (b := (decide (v72 < (p0.length : Int)))) rfl decide_eq_true_iff (fun h83 => ?_) (fun h83 => ?_)
    · replace hm := hm.1 h83
      refine w_skip ?_
      refine hK81 _ _ ?_
      refine w_seq fun K84 hK84 => ?_
      refine w_block ?_
      refine w_seq fun K85 hK85 => ?_
      refine w_region ?_
      refine wl_val (g_move (v := .slice a0 n0 c0) rfl) rfl ?_
      refine wl_val (g_move (v := .int .i64 v72) rfl) rfl ?_
      obtain ⟨hg86, hm⟩ := hm
      refine wl_val (q_index (i := v72) SL30 rfl rfl (Tv.o (hp0.bel hB78)) (Tv.g (hp0.bel hB78) hg86)) rfl ?_
      refine wl_val (g_fieldAddr (q := (adr a0).add ((Int.toNat v72) * El.m PlayerD)) FL61_0 ON35 rfl) rfl ?_
      refine wl_val (q_loadF (i := v72) (j := 0) (v := .slice ((y0[(Int.toNat v72)]!).1.1) ((y0[(Int.toNat v72)]!).1.2.2.length) ((y0[(Int.toNat v72)]!).1.2.1)) ON35 (Tv.o (hp0.bel hB78)) (Tv.g (hp0.bel hB78) hg86) rfl rfl) rfl ?_
      refine wl_val (g_move (v := .int .i64 v71) rfl) rfl ?_
      refine wl_step rfl (g_call (vs := #[.slice ((y0[(Int.toNat v72)]!).1.1) ((y0[(Int.toNat v72)]!).1.2.2.length) ((y0[(Int.toNat v72)]!).1.2.1), .int .i64 v71]) CF38 (args2 rfl rfl) (m_laws_heldIntS_fn ((Tv.rowP (hp0.bel hB78) hg86).up hS79) v71 hm)) ?_
      rintro _ w87 ⟨r90, hm, rfl, hE88⟩
      have hB91 := hB78.trans (Ext.stp hE88 hS79.base)
      have hS92 := hS79.ext hE88
      refine wl_val (g_assign (v := .int .i64 r90) rfl) rfl ?_
      refine wl_nil ?_
      refine hK85 _ _ ?_
      refine w_seq fun K93 hK93 => ?_
      refine w_seq fun K94 hK94 => ?_
      refine w_region ?_
      refine wl_val (g_move (v := .int .i64 r90) rfl) rfl ?_
      refine wl_val (g_lss (a := r90) (b := 0) rfl rfl) rfl ?_
      refine wl_nil ?_
      refine hK94 _ _ ?_
      refine w_condI (p := r90 < 0) (b := (decide (r90 < 0))) rfl decide_eq_true_iff (fun h95 => ?_) (fun h95 => ?_)
      · replace hm := hm.1 h95
        refine w_seq fun K96 hK96 => ?_
        refine w_region ?_
        refine wl_val (g_assign (v := .int .i64 (-1)) rfl) rfl ?_
        refine wl_nil ?_
        refine hK96 _ _ ?_
        refine w_ret ?_
        repeat first | with_reducible refine q_then ?_ | with_reducible refine q_block ?_
        exact ret1 rfl (by decide) ⟨_, hm, rfl, toExt hB91⟩
      · replace hm := hm.2 h95
        refine w_skip ?_
        refine hK93 _ _ ?_
        refine w_seq fun K97 hK97 => ?_
        refine w_seq fun K98 hK98 => ?_
        refine w_region ?_
        refine wl_val (g_move (v := .slice a0 n0 c0) rfl) rfl ?_
        refine wl_val (g_move (v := .int .i64 v72) rfl) rfl ?_
        obtain ⟨hg99, hm⟩ := hm
        refine wl_val (q_index (i := v72) SL30 rfl rfl (Tv.o (hp0.bel hB91)) (Tv.g (hp0.bel hB91) hg99)) rfl ?_
        refine wl_val (g_fieldAddr (q := (adr a0).add ((Int.toNat v72) * El.m PlayerD)) FL61_1 ON3 rfl) rfl ?_
        refine wl_val (q_loadF (i := v72) (j := 1) (v := .int .i64 (p0[(Int.toNat v72)]!.2)) ON3 (Tv.o (hp0.bel hB91)) (Tv.g (hp0.bel hB91) hg99) (by rw [← Tv.free (hp0.bel hB91) hg99]; rfl) rfl) rfl ?_
        refine wl_val (g_move (v := .int .i64 r90) rfl) rfl ?_
        refine wl_val (g_neq (a := p0[(Int.toNat v72)]!.2) (b := r90) rfl rfl) rfl ?_
        refine wl_nil ?_
        refine hK98 _ _ ?_
        refine w_condI (p := p0[(Int.toNat v72)]!.2 ≠ r90) (b := (decide (p0[(Int.toNat v72)]!.2 ≠ r90))) rfl decide_eq_true_iff (fun h100 => ?_) (fun h100 => ?_)
        · replace hm := hm.1 h100
          refine w_seq fun K101 hK101 => ?_
          refine w_region ?_
          refine wl_val (g_assign (v := .int .i64 (-1)) rfl) rfl ?_
          refine wl_nil ?_
          refine hK101 _ _ ?_
          refine w_ret ?_
          repeat first | with_reducible refine q_then ?_ | with_reducible refine q_block ?_
          exact ret1 rfl (by decide) ⟨_, hm, rfl, toExt hB91⟩
        · replace hm := hm.2 h100
          refine w_skip ?_
          refine hK97 _ _ ?_
          refine w_region ?_
          refine wl_val (g_move (v := .int .i64 r90) rfl) rfl ?_
          obtain ⟨hg102, hm⟩ := hm
          refine wl_val (g_add (a := r90) (b := 1) rfl rfl hg102) rfl ?_
          refine wl_val (g_assign (v := .int .i64 (r90 + 1)) rfl) rfl ?_
          refine wl_nil ?_
          refine hK84 _ _ ?_
          refine w_region ?_
          refine wl_val (g_move (v := .int .i64 v72) rfl) rfl ?_
          obtain ⟨hg103, hm⟩ := hm
          refine wl_val (g_add (a := v72) (b := 1) rfl rfl hg103) rfl ?_
          refine wl_val (g_assign (v := .int .i64 (v72 + 1)) rfl) rfl ?_
          refine wl_nil ?_
          exact ⟨((r90 + 1), (v72 + 1)), hm.2, ⟨rfl, rfl, rfl, trivial⟩, ⟨hm.1, hB91, hS92⟩⟩
    · replace hm := hm.2 h83
      refine w_exit ?_
      exact ⟨(v71), ⟨rfl, trivial⟩, ⟨hm, hB78, hS79⟩⟩
  · rintro v68 b_ w104 ⟨hm, hB105, hS106⟩
    show Wp _ _ _ _ (upds b_ [(1, .int .i64 v68)]) w104
    refine w_seq fun K107 hK107 => ?_
    refine w_region ?_
    refine wl_val (g_move (v := .int .i64 v68) rfl) rfl ?_
    refine wl_val (g_assign (v := .int .i64 v68) rfl) rfl ?_
    refine wl_nil ?_
    refine hK107 _ _ ?_
    refine w_ret ?_
    repeat first | with_reducible refine q_then ?_ | with_reducible refine q_block ?_
    exact ret1 rfl (by decide) ⟨_, hm, rfl, toExt hB105⟩

end Go.Proofs.Ythmlfpfebdnpcaa
