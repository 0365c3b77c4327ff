/- The walks: the code does what its model says. Printed by a program (gen2.py). No statement of the claim stands here. -/
import Derived.Test.YtcgkcoogaieolaaSop
import Derived.Test.YtcgkcoogaieolaaFacts
import Derived.Test.YtcgkcoogaieolaaMB
import Derived.Test.YtcgkcoogaieolaaVWoundPairsPart1
namespace Go.Proofs.Ytcgkcoogaieolaa
open Go Go.RowKit
set_option maxRecDepth 100000
theorem m_laws_FnExactWoundPairs_fn {w : World} {a1 : Option Addr} {n1 c1 : Nat} {p1 : List Cross} {Q : Bool → Prop} (p0 : Int) (hp1 : Vw w.heap.size w a1 n1 c1 p1) (hm : m_laws_FnExactWoundPairs p0 p1 Q) :
    Fn Try.prog 10 #[.int .i64 p0, .slice a1 n1 c1] w (fun v w' => ∃ (r0 : Bool), Q r0 ∧ v = .bool r0 ∧ Ext w w') := by
  unfold m_laws_FnExactWoundPairs at hm
  have hB0 := Below.refl w.heap.size w
  have hS0 : Sep w w.heap.size [] := Sep.nil (Nat.le_refl _)
  refine fn_of_wp Try.func10 rfl (by kernel_rfl) (Nat.le_of_ble_eq_true rfl) ?_
  refine w_seq fun K1 hK1 => ?_
  refine w_region ?_
  refine wl_val (g_assign (v := .bool false) rfl) rfl ?_
  refine wl_nil ?_
  refine hK1 _ _ ?_
  refine w_seq fun K2 hK2 => ?_
  refine w_region ?_
  refine wl_val (g_assign (v := .int .i64 1048576) rfl) rfl ?_
  refine wl_nil ?_
  refine hK2 _ _ ?_
  refine w_seq fun K3 hK3 => ?_
  refine w_region ?_
  refine wl_val (g_move (v := .slice a1 n1 c1) rfl) rfl ?_
  refine wl_val (g_move (v := .int .i64 1048576) rfl) rfl ?_
  refine wl_step rfl (g_call (vs := #[.slice a1 n1 c1, .int .i64 1048576]) CF14 (args2 rfl rfl) (m_laws_szCrossS_fn ((hp1.bel hB0).up hS0) 1048576 hm)) ?_
  rintro _ w4 ⟨r7, hm, rfl, hE5⟩
  have hB8 := hB0.trans (Ext.stp hE5 hS0.base)
  have hS9 := hS0.ext hE5
  refine wl_val (g_assign (v := .int .i64 r7) rfl) rfl ?_
  refine wl_nil ?_
  refine hK3 _ _ ?_
  refine w_seq fun K10 hK10 => ?_
  refine w_seq fun K11 hK11 => ?_
  refine w_region ?_
  refine wl_val (g_move (v := .int .i64 r7) rfl) rfl ?_
  refine wl_val (g_lss (a := r7) (b := 0) rfl rfl) rfl ?_
  refine wl_nil ?_
  refine hK11 _ _ ?_
  refine w_condI (p := r7 < 0) (b := (decide (r7 < 0))) rfl decide_eq_true_iff (fun h12 => ?_) (fun h12 => ?_)
  · replace hm := hm.1 h12
    refine w_seq fun K13 hK13 => ?_
    refine w_region ?_
    refine wl_val (g_assign (v := .bool true) rfl) rfl ?_
    refine wl_nil ?_
    refine hK13 _ _ ?_
    refine w_ret ?_
    repeat first | with_reducible refine q_then ?_ | with_reducible refine q_block ?_
    exact ret1 rfl (by decide) ⟨_, hm, rfl, toExt hB8⟩
  · replace hm := hm.2 h12
    refine w_skip ?_
    refine hK10 _ _ ?_
    refine w_seq fun K14 hK14 => ?_
    refine w_region ?_
    refine wl_val (g_move (v := .int .i64 p0) rfl) rfl ?_
    refine wl_val (g_move (v := .slice a1 n1 c1) rfl) rfl ?_
    refine wl_step rfl (g_call (vs := #[.slice a1 n1 c1]) CF16 (args1 rfl) (m_laws_toCrossS_fn ((hp1.bel hB8).up hS9) hm)) ?_
    rintro _ w15 ⟨r18, a19, n20, c21, hm, rfl, hE16, hN17⟩
    have hS23 := hS9.call1 hE16 hN17
    have hB24 := hB8.trans (Ext.stp hE16 hS9.base)
    refine wl_step rfl (g_call (vs := #[.int .i64 p0, .slice a19 n20 c21]) CF44 (args2 rfl rfl) (m_spec_WoundPairs_fn p0 (oS.vw hS23.g0) hm)) ?_
    rintro _ w25 ⟨r28, a29, n30, c31, y32, hm, he33, rfl, hE26, hN27⟩
    have hS37 := hS23.call2 hE26 hN27
    have hB38 := hB24.trans (Ext.stp hE26 hS23.base)
    refine wl_val (g_assign (v := .slice a29 n30 c31) rfl) rfl ?_
    refine wl_nil ?_
    refine hK14 _ _ ?_
    refine w_seq fun K39 hK39 => ?_
    refine w_region ?_
    refine wl_val (g_move (v := .slice a1 n1 c1) rfl) rfl ?_
    refine wl_step rfl (g_call (vs := #[.slice a1 n1 c1]) CF16 (args1 rfl) (m_laws_toCrossS_fn ((hp1.bel hB38).up hS37) hm)) ?_
    rintro _ w40 ⟨r43, a44, n45, c46, hm, rfl, hE41, hN42⟩
    have hS48 := hS37.call1 hE41 hN42
    have hB49 := hB38.trans (Ext.stp hE41 hS37.base)
    refine wl_val (g_assign (v := .slice a44 n45 c46) rfl) rfl ?_
    refine wl_nil ?_
    refine hK39 _ _ ?_
    refine w_seq fun K50 hK50 => ?_
    refine w_region ?_
    refine wl_val (g_move (v := .int .i64 p0) rfl) rfl ?_
    refine wl_val (g_move (v := .slice a44 n45 c46) rfl) rfl ?_
    refine wl_step rfl (g_call (vs := #[.int .i64 p0, .slice a44 n45 c46]) CF34 (args2 rfl rfl) (m_impl_WoundPairs_fn p0 (oS.vw hS48.g0) hm)) ?_
    rintro _ w51 ⟨r54, a55, n56, c57, y58, hm, he59, rfl, hE52, hN53⟩
    have hS63 := hS48.call2 hE52 hN53
    have hB64 := hB49.trans (Ext.stp hE52 hS48.base)
    refine wl_val (g_assign (v := .slice a55 n56 c57) rfl) rfl ?_
    refine wl_nil ?_
    refine hK50 _ _ ?_
    refine w_seq fun K65 hK65 => ?_
    refine w_seq fun K66 hK66 => ?_
    refine w_region ?_
    refine wl_val (g_move (v := .slice a55 n56 c57) rfl) rfl ?_
    refine wl_val (g_move (v := .slice a29 n30 c31) rfl) rfl ?_
    refine wl_step rfl (g_call (vs := #[.slice a55 n56 c57, .slice a29 n30 c31]) CF40 (args2 rfl rfl) (m_laws_eqIntSS_fn (oT.vw hS63.g0 hS63.g1 he59) (oT.vw hS63.g3 hS63.g4 he33) hm)) ?_
    rintro _ w67 ⟨r70, hm, rfl, hE68⟩
    have hB71 := hB64.trans (Ext.stp hE68 hS63.base)
    have hS72 := hS63.ext hE68
    refine wl_val (g_not (a := r70) rfl) rfl ?_
    refine wl_nil ?_
    refine hK66 _ _ ?_
    refine w_condI (p := ¬ (r70 = true)) (b := (!r70)) rfl (i_not Iff.rfl) (fun h73 => ?_) (fun h73 => ?_)
    · replace hm := hm.1 h73
      refine w_seq fun K74 hK74 => ?_
      refine w_region ?_
      refine wl_val (g_assign (v := .bool false) rfl) rfl ?_
      refine wl_nil ?_
      refine hK74 _ _ ?_
      refine w_ret ?_
      repeat first | with_reducible refine q_then ?_ | with_reducible refine q_block ?_
      exact ret1 rfl (by decide) ⟨_, hm, rfl, toExt hB71⟩
    · replace hm := hm.2 h73
      refine w_skip ?_
      refine hK65 _ _ ?_
      refine w_seq fun K75 hK75 => ?_
      refine w_seq fun K76 hK76 => ?_
      refine w_region ?_
      refine wl_val (g_move (v := .slice a44 n45 c46) rfl) rfl ?_
      refine wl_val (g_move (v := .slice a1 n1 c1) rfl) rfl ?_
      refine wl_step rfl (g_call (vs := #[.slice a1 n1 c1]) CF16 (args1 rfl) (m_laws_toCrossS_fn ((hp1.bel hB71).up hS72) hm)) ?_
      rintro _ w77 ⟨r80, a81, n82, c83, hm, rfl, hE78, hN79⟩
      have hS85 := hS72.call1 hE78 hN79
      have hB86 := hB71.trans (Ext.stp hE78 hS72.base)
      refine wl_step rfl (g_call (vs := #[.slice a44 n45 c46, .slice a81 n82 c83]) CF18 (args2 rfl rfl) (m_laws_eqCrossS_fn (oS.vw hS85.g3) (oS.vw hS85.g0) hm)) ?_
      rintro _ w87 ⟨r90, hm, rfl, hE88⟩
      have hB91 := hB86.trans (Ext.stp hE88 hS85.base)
      have hS92 := hS85.ext hE88
      refine wl_val (g_not (a := r90) rfl) rfl ?_
      refine wl_nil ?_
      refine hK76 _ _ ?_
      refine w_condI (p := ¬ (r90 = true)) (b := (!r90)) rfl (i_not Iff.rfl) (fun h93 => ?_) (fun h93 => ?_)
      · replace hm := hm.1 h93
        refine w_seq fun K94 hK94 => ?_
        refine w_region ?_
        refine wl_val (g_assign (v := .bool false) rfl) rfl ?_
        refine wl_nil ?_
        refine hK94 _ _ ?_
        refine w_ret ?_
        repeat first | with_reducible refine q_then ?_ | with_reducible refine q_block ?_
        exact ret1 rfl (by decide) ⟨_, hm, rfl, toExt hB91⟩
      · replace hm := hm.2 h93
        refine w_skip ?_
        refine hK75 _ _ ?_
        refine w_seq fun K95 hK95 => ?_
        refine w_region ?_
        refine wl_val (g_assign (v := .int .i64 1) rfl) rfl ?_
        refine wl_nil ?_
        refine hK95 _ _ ?_
        refine w_seq fun K96 hK96 => ?_
        refine w_region ?_
        refine wl_val (g_move (v := .slice a44 n45 c46) rfl) rfl ?_
        refine wl_val (g_move (v := .int .i64 1) rfl) rfl ?_
        have hS97 := hS92.f3
        refine wl_step rfl (g_call (vs := #[.slice a44 n45 c46, .int .i64 1]) CF19 (args2 rfl rfl) (m_laws_markCrossS_fn hS97 1 hm)) ?_
        rintro _ w98 ⟨r101, x102, hm, rfl, hb99, hS100⟩
        have hB103 := hB91.trans hb99
        refine wl_val (g_assign (v := .int .i64 r101) rfl) rfl ?_
        refine wl_nil ?_
        refine hK96 _ _ ?_
        refine w_seq fun K104 hK104 => ?_
        refine w_seq fun K105 hK105 => ?_
        refine w_region ?_
        refine wl_val (g_move (v := .int .i64 r101) rfl) rfl ?_
        refine wl_val (g_lss (a := r101) (b := 0) rfl rfl) rfl ?_
        refine wl_val (g_move (v := .bool (decide (r101 < 0))) rfl) rfl ?_
        refine wl_guard (c := (decide (r101 < 0)) = false) (val := .slice a55 n56 c57) (b := ((decide (r101 < 0)) == false)) (gv_some rfl rfl rfl) beq_iff_eq (fun hc106 => ?_) ?_
        · have hq0 : ¬ (r101 < 0) := (i_neg decide_eq_true_iff hc106)
          exact g_move (v := .slice a55 n56 c57) rfl
        refine wl_guard (c := (decide (r101 < 0)) = false) (val := .slice a29 n30 c31) (b := ((decide (r101 < 0)) == false)) (gv_some rfl rfl rfl) beq_iff_eq (fun hc107 => ?_) ?_
        · have hq0 : ¬ (r101 < 0) := (i_neg decide_eq_true_iff hc107)
          exact g_move (v := .slice a29 n30 c31) rfl
        obtain ⟨r109, hk110, hm⟩ := hm
        refine wl_guardE (X := Ext) (c := (decide (r101 < 0)) = false) (val := .bool r109) (Ext.refl _) (b := ((decide (r101 < 0)) == false)) (gv_some rfl rfl rfl) beq_iff_eq (fun hc108 => ?_) (fun w111 hE112 => ?_)
        · have hq0 : ¬ (r101 < 0) := (i_neg decide_eq_true_iff hc108)
          exact (g_call (vs := #[.slice a55 n56 c57, .slice a29 n30 c31]) CF40 (args2 (if_pos hc108) (if_pos hc108)) ((m_laws_eqIntSS_fn (oT.vw hS100.g2 hS100.g3 he59) (oT.vw hS100.g4 hS100.g5 he33) (hk110 hq0)).mono fun _ _ ⟨_, h1, h2, h3⟩ => ⟨by rw [h2, h1], h3⟩))
        have hB113 := hB103.trans (Ext.stp hE112 hS100.base)
        have hS114 := hS100.ext hE112
        refine wl_guard (c := (decide (r101 < 0)) = false) (val := .bool (!r109)) (b := ((decide (r101 < 0)) == false)) (gv_some rfl rfl rfl) beq_iff_eq (fun hc115 => ?_) ?_
        · have hq0 : ¬ (r101 < 0) := (i_neg decide_eq_true_iff hc115)
          exact g_not (a := r109) (if_pos hc115)
        refine wl_val (g_pick_or (b := (decide (r101 < 0))) (q := (!r109)) rfl rfl) rfl ?_
        refine wl_nil ?_
        refine hK105 _ _ ?_
        refine w_condI (p := ((r101 < 0) ∨ (¬ (r109 = true)))) (b := ((decide (r101 < 0)) || (!r109))) rfl (i_or decide_eq_true_iff (i_not Iff.rfl)) (fun h116 => ?_) (fun h116 => ?_)
        · replace hm := hm.1 h116
          refine w_seq fun K117 hK117 => ?_
          refine w_region ?_
          refine wl_val (g_assign (v := .bool false) rfl) rfl ?_
          refine wl_nil ?_
          refine hK117 _ _ ?_
          refine w_ret ?_
          repeat first | with_reducible refine q_then ?_ | with_reducible refine q_block ?_
          exact ret1 rfl (by decide) ⟨_, hm, rfl, toExt hB113⟩
        · replace hm := hm.2 h116
          refine w_skip ?_
          refine hK104 _ _ ?_
          refine w_seq fun K118 hK118 => ?_
          refine w_region ?_
          refine wl_val (g_assign (v := .int .i64 1) rfl) rfl ?_
          refine wl_nil ?_
          refine hK118 _ _ ?_
          refine w_seq fun K119 hK119 => ?_
          refine w_region ?_
          refine wl_val (g_move (v := .slice a55 n56 c57) rfl) rfl ?_
          refine wl_val (g_move (v := .int .i64 1) rfl) rfl ?_
          have hS120 := hS114.f3
          have hS121 := hS120.f3
          refine wl_step rfl (g_call (vs := #[.slice a55 n56 c57, .int .i64 1]) CF41 (args2 rfl rfl) (m_laws_markIntSS_fn hS121 he59 1 hm)) ?_
          rintro _ w122 ⟨r125, x126, y127, hm, he128, rfl, hb123, hS124⟩
          have hB129 := hB113.trans hb123
          refine wl_val (g_assign (v := .int .i64 r125) rfl) rfl ?_
          refine wl_nil ?_
          refine hK119 _ _ ?_
          refine w_seq fun K130 hK130 => ?_
          refine w_region ?_
          refine wl_val (g_assign (v := .int .i64 1) rfl) rfl ?_
          refine wl_nil ?_
          refine hK130 _ _ ?_
          refine w_seq fun K131 hK131 => ?_
          refine w_region ?_
          refine wl_val (g_move (v := .slice a55 n56 c57) rfl) rfl ?_
          refine wl_val (g_move (v := .int .i64 1) rfl) rfl ?_
          refine wl_step rfl (g_call (vs := #[.slice a55 n56 c57, .int .i64 1]) CF42 (args2 rfl rfl) (m_laws_heldIntSS_fn (oT.vw hS124.g0 hS124.g1 he128) 1 hm)) ?_
          rintro _ w132 ⟨r135, hm, rfl, hE133⟩
          have hB136 := hB129.trans (Ext.stp hE133 hS124.base)
          have hS137 := hS124.ext hE133
          refine wl_val (g_assign (v := .int .i64 r135) rfl) rfl ?_
          refine wl_nil ?_
          refine hK131 _ _ ?_
          refine w_seq fun K138 hK138 => ?_
          refine w_seq fun K139 hK139 => ?_
          refine w_region ?_
          refine wl_val (g_move (v := .int .i64 r135) rfl) rfl ?_
          refine wl_val (g_lss (a := r135) (b := 0) rfl rfl) rfl ?_
          refine wl_nil ?_
          refine hK139 _ _ ?_
          refine w_condI (p := r135 < 0) (b := (decide (r135 < 0))) rfl decide_eq_true_iff (fun h140 => ?_) (fun h140 => ?_)
          · replace hm := hm.1 h140
            refine w_seq fun K141 hK141 => ?_
            refine w_region ?_
            refine wl_val (g_assign (v := .bool false) rfl) rfl ?_
            refine wl_nil ?_
            refine hK141 _ _ ?_
            refine w_ret ?_
            repeat first | with_reducible refine q_then ?_ | with_reducible refine q_block ?_
            exact ret1 rfl (by decide) ⟨_, hm, rfl, toExt hB136⟩
          · replace hm := hm.2 h140
            refine w_skip ?_
            refine hK138 _ _ ?_
            refine w_seq fun K142 hK142 => ?_
            refine w_seq fun K143 hK143 => ?_
            refine w_region ?_
            refine wl_val (g_move (v := .int .i64 r135) rfl) rfl ?_
            refine wl_val (g_move (v := .int .i64 r125) rfl) rfl ?_
            refine wl_val (g_neq (a := r135) (b := r125) rfl rfl) rfl ?_
            refine wl_nil ?_
            refine hK143 _ _ ?_
            refine w_condI (p := r135 ≠ r125) (b := (decide (r135 ≠ r125))) rfl decide_eq_true_iff (fun h144 => ?_) (fun h144 => ?_)
            · replace hm := hm.1 h144
              refine w_seq fun K145 hK145 => ?_
              refine w_region ?_
              refine wl_val (g_assign (v := .bool false) rfl) rfl ?_
              refine wl_nil ?_
              refine hK145 _ _ ?_
              refine w_ret ?_
              repeat first | with_reducible refine q_then ?_ | with_reducible refine q_block ?_
              exact ret1 rfl (by decide) ⟨_, hm, rfl, toExt hB136⟩
            · replace hm := hm.2 h144
              refine w_skip ?_
              refine hK142 _ _ ?_
              refine w_seq fun K146 hK146 => ?_
              refine w_region ?_
              refine wl_val (g_move (v := .int .i64 p0) rfl) rfl ?_
              refine wl_val (g_move (v := .slice a1 n1 c1) rfl) rfl ?_
              refine wl_step rfl (g_call (vs := #[.slice a1 n1 c1]) CF16 (args1 rfl) (m_laws_toCrossS_fn ((hp1.bel hB136).up hS137) hm)) ?_
              rintro _ w147 ⟨r150, a151, n152, c153, hm, rfl, hE148, hN149⟩
              have hS155 := hS137.call1 hE148 hN149
              have hB156 := hB136.trans (Ext.stp hE148 hS137.base)
              refine wl_step rfl (g_call (vs := #[.int .i64 p0, .slice a151 n152 c153]) CF34 (args2 rfl rfl) (m_impl_WoundPairs_fn p0 (oS.vw hS155.g0) hm)) ?_
              rintro _ w157 ⟨r160, a161, n162, c163, y164, hm, he165, rfl, hE158, hN159⟩
              have hS169 := hS155.call2 hE158 hN159
              have hB170 := hB156.trans (Ext.stp hE158 hS155.base)
              refine wl_val (g_assign (v := .slice a161 n162 c163) rfl) rfl ?_
              refine wl_nil ?_
              refine hK146 _ _ ?_
              refine w_seq fun K171 hK171 => ?_
              refine w_seq fun K172 hK172 => ?_
              refine w_region ?_
              refine wl_val (g_move (v := .slice a161 n162 c163) rfl) rfl ?_
              refine wl_val (g_move (v := .slice a29 n30 c31) rfl) rfl ?_
              refine wl_step rfl (g_call (vs := #[.slice a161 n162 c163, .slice a29 n30 c31]) CF40 (args2 rfl rfl) (m_laws_eqIntSS_fn (oT.vw hS169.g0 hS169.g1 he165) (oT.vw hS169.g7 hS169.g8 he33) hm)) ?_
              rintro _ w173 ⟨r176, hm, rfl, hE174⟩
              have hB177 := hB170.trans (Ext.stp hE174 hS169.base)
              have hS178 := hS169.ext hE174
              refine wl_val (g_not (a := r176) rfl) rfl ?_
              refine wl_nil ?_
              refine hK172 _ _ ?_
              refine w_condI (p := ¬ (r176 = true)) (b := (!r176)) rfl (i_not Iff.rfl) (fun h179 => ?_) (fun h179 => ?_)
              · replace hm := hm.1 h179
                refine w_seq fun K180 hK180 => ?_
                refine w_region ?_
                refine wl_val (g_assign (v := .bool false) rfl) rfl ?_
                refine wl_nil ?_
                refine hK180 _ _ ?_
                refine w_ret ?_
                repeat first | with_reducible refine q_then ?_ | with_reducible refine q_block ?_
                exact ret1 rfl (by decide) ⟨_, hm, rfl, toExt hB177⟩
              · replace hm := hm.2 h179
                refine w_skip ?_
                refine hK171 _ _ ?_
                refine w_seq fun K181 hK181 => ?_
                refine w_region ?_
                refine wl_val (g_assign (v := .int .i64 1) rfl) rfl ?_
                refine wl_nil ?_
                refine hK181 _ _ ?_
                refine w_seq fun K182 hK182 => ?_
                refine w_region ?_
                refine wl_val (g_move (v := .slice a55 n56 c57) rfl) rfl ?_
                refine wl_val (g_move (v := .int .i64 1) rfl) rfl ?_
                refine wl_step rfl (g_call (vs := #[.slice a55 n56 c57, .int .i64 1]) CF42 (args2 rfl rfl) (m_laws_heldIntSS_fn (oT.vw hS178.g3 hS178.g4 he128) 1 hm)) ?_
                rintro _ w183 ⟨r186, hm, rfl, hE184⟩
                have hB187 := hB177.trans (Ext.stp hE184 hS178.base)
                have hS188 := hS178.ext hE184
                refine wl_val (g_assign (v := .int .i64 r186) rfl) rfl ?_
                refine wl_nil ?_
                refine hK182 _ _ ?_
                refine w_seq fun K189 hK189 => ?_
                refine w_seq fun K190 hK190 => ?_
                refine w_region ?_
                refine wl_val (g_move (v := .int .i64 r186) rfl) rfl ?_
                refine wl_val (g_lss (a := r186) (b := 0) rfl rfl) rfl ?_
                refine wl_nil ?_
                refine hK190 _ _ ?_
                refine w_condI (p := r186 < 0) (b := (decide (r186 < 0))) rfl decide_eq_true_iff (fun h191 => ?_) (fun h191 => ?_)
                · replace hm := hm.1 h191
                  refine w_seq fun K192 hK192 => ?_
                  refine w_region ?_
                  refine wl_val (g_assign (v := .bool false) rfl) rfl ?_
                  refine wl_nil ?_
                  refine hK192 _ _ ?_
                  refine w_ret ?_
                  repeat first | with_reducible refine q_then ?_ | with_reducible refine q_block ?_
                  exact ret1 rfl (by decide) ⟨_, hm, rfl, toExt hB187⟩
                · replace hm := hm.2 h191
                  refine w_skip ?_
                  refine hK189 _ _ ?_
                  refine w_seq fun K193 hK193 => ?_
                  refine w_seq fun K194 hK194 => ?_
                  refine w_region ?_
                  refine wl_val (g_move (v := .int .i64 r186) rfl) rfl ?_
                  refine wl_val (g_move (v := .int .i64 r125) rfl) rfl ?_
                  refine wl_val (g_neq (a := r186) (b := r125) rfl rfl) rfl ?_
                  refine wl_nil ?_
                  refine hK194 _ _ ?_
                  refine w_condI (p := r186 ≠ r125) (b := (decide (r186 ≠ r125))) rfl decide_eq_true_iff (fun h195 => ?_) (fun h195 => ?_)
                  · replace hm := hm.1 h195
                    refine w_seq fun K196 hK196 => ?_
                    refine w_region ?_
                    refine wl_val (g_assign (v := .bool false) rfl) rfl ?_
                    refine wl_nil ?_
                    refine hK196 _ _ ?_
                    refine w_ret ?_
                    repeat first | with_reducible refine q_then ?_ | with_reducible refine q_block ?_
                    exact ret1 rfl (by decide) ⟨_, hm, rfl, toExt hB187⟩
                  · replace hm := hm.2 h195
                    refine w_skip ?_
                    refine hK193 _ _ ?_
                    refine w_seq fun K197 hK197 => ?_
                    refine w_region ?_
                    refine wl_val (g_assign (v := .bool true) rfl) rfl ?_
                    refine wl_nil ?_
                    refine hK197 _ _ ?_
                    refine w_ret ?_
                    repeat first | with_reducible refine q_then ?_ | with_reducible refine q_block ?_
                    exact ret1 rfl (by decide) ⟨_, hm, rfl, toExt hB187⟩

end Go.Proofs.Ytcgkcoogaieolaa
