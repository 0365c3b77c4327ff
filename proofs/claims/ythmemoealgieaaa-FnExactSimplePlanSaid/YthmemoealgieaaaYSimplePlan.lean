/- The walks: the code does what its model says. Printed by a program (gen2.py). No statement of the claim stands here. -/
import Derived.Test.YthmemoealgieaaaSop
import Derived.Test.YthmemoealgieaaaFacts
import Derived.Test.YthmemoealgieaaaMC
import Derived.Test.YthmemoealgieaaaWC1
import Derived.Test.YthmemoealgieaaaWC2
import Derived.Test.YthmemoealgieaaaWC3
import Derived.Test.YthmemoealgieaaaWC4
namespace Go.Proofs.Ythmemoealgieaaa
open Go Go.RowKit
set_option maxRecDepth 100000
theorem m_laws_FnExactSimplePlan_fn {w : World} {a0 : Option Addr} {n0 c0 : Nat} {y0 : List CueD} {p0 : List CueC} {Q : Bool → Prop} (hp0 : Tv w.heap.size w a0 n0 c0 y0 p0) (hm : m_laws_FnExactSimplePlan p0 Q) :
    Fn Try.prog 15 #[.slice a0 n0 c0] w (fun v w' => ∃ (r0 : Bool), Q r0 ∧ v = .bool r0 ∧ Ext w w') := by
  unfold m_laws_FnExactSimplePlan at hm
  have hB0 := Below.refl w.heap.size w
  have hS0 : Sep w w.heap.size [] := Sep.nil (Nat.le_refl _)
  refine fn_of_wp Try.func15 rfl (by kernel_rfl) (Nat.le_of_ble_eq_true rfl) ?_
  refine w_seq fun K1 hK1 => ?_
  refine w_region ?_
  refine wl_val (g_assign (v := .bool false) rfl) rfl ?_
  refine wl_nil ?_
  refine hK1 _ _ ?_
  refine w_seq fun K2 hK2 => ?_
  refine w_region ?_
  refine wl_val (g_assign (v := .int .i64 1048576) rfl) rfl ?_
  refine wl_nil ?_
  refine hK2 _ _ ?_
  refine w_seq fun K3 hK3 => ?_
  refine w_region ?_
  refine wl_val (g_move (v := .slice a0 n0 c0) rfl) rfl ?_
  refine wl_val (g_move (v := .int .i64 1048576) rfl) rfl ?_
  refine wl_step rfl (g_call (vs := #[.slice a0 n0 c0, .int .i64 1048576]) CF17 (args2 rfl rfl) (m_laws_szCueS_fn ((hp0.bel hB0).up hS0) 1048576 hm)) ?_
  rintro _ w4 ⟨r7, hm, rfl, hE5⟩
  have hB8 := hB0.trans (Ext.stp hE5 hS0.base)
  have hS9 := hS0.ext hE5
  refine wl_val (g_assign (v := .int .i64 r7) rfl) rfl ?_
  refine wl_nil ?_
  refine hK3 _ _ ?_
  refine w_seq fun K10 hK10 => ?_
  refine w_seq fun K11 hK11 => ?_
  refine w_region ?_
  refine wl_val (g_move (v := .int .i64 r7) rfl) rfl ?_
  refine wl_val (g_lss (a := r7) (b := 0) rfl rfl) rfl ?_
  refine wl_nil ?_
  refine hK11 _ _ ?_
  refine w_condI (p := r7 < 0) (b := (decide (r7 < 0))) rfl decide_eq_true_iff (fun h12 => ?_) (fun h12 => ?_)
  · replace hm := hm.1 h12
    refine w_seq fun K13 hK13 => ?_
    refine w_region ?_
    refine wl_val (g_assign (v := .bool true) rfl) rfl ?_
    refine wl_nil ?_
    refine hK13 _ _ ?_
    refine w_ret ?_
    repeat first | with_reducible refine q_then ?_ | with_reducible refine q_block ?_
    exact ret1 rfl (by decide) ⟨_, hm, rfl, toExt hB8⟩
  · replace hm := hm.2 h12
    refine w_skip ?_
    refine hK10 _ _ ?_
    refine w_seq fun K14 hK14 => ?_
    refine w_region ?_
    refine wl_val (g_move (v := .slice a0 n0 c0) rfl) rfl ?_
    refine wl_step rfl (g_call (vs := #[.slice a0 n0 c0]) CF19 (args1 rfl) (m_laws_toCueS_fn ((hp0.bel hB8).up hS9) hm)) ?_
    rintro _ w15 ⟨r18, a19, n20, c21, y22, hm, he23, rfl, hE16, hN17⟩
    have hS27 := hS9.call2 hE16 hN17
    have hB28 := hB8.trans (Ext.stp hE16 hS9.base)
    refine wl_step rfl (g_call (vs := #[.slice a19 n20 c21]) CF55 (args1 rfl) (m_spec_SimplePlan_fn (oT.vw hS27.g0 hS27.g1 he23) hm)) ?_
    rintro _ w29 ⟨r32, a33, n34, c35, hm, rfl, hE30, hN31⟩
    have hS37 := hS27.call1 hE30 hN31
    have hB38 := hB28.trans (Ext.stp hE30 hS27.base)
    refine wl_val (g_assign (v := .slice a33 n34 c35) rfl) rfl ?_
    refine wl_nil ?_
    refine hK14 _ _ ?_
    refine w_seq fun K39 hK39 => ?_
    refine w_region ?_
    refine wl_val (g_move (v := .slice a0 n0 c0) rfl) rfl ?_
    refine wl_step rfl (g_call (vs := #[.slice a0 n0 c0]) CF19 (args1 rfl) (m_laws_toCueS_fn ((hp0.bel hB38).up hS37) hm)) ?_
    rintro _ w40 ⟨r43, a44, n45, c46, y47, hm, he48, rfl, hE41, hN42⟩
    have hS52 := hS37.call2 hE41 hN42
    have hB53 := hB38.trans (Ext.stp hE41 hS37.base)
    refine wl_val (g_assign (v := .slice a44 n45 c46) rfl) rfl ?_
    refine wl_nil ?_
    refine hK39 _ _ ?_
    refine w_seq fun K54 hK54 => ?_
    refine w_region ?_
    refine wl_val (g_move (v := .slice a44 n45 c46) rfl) rfl ?_
    refine wl_step rfl (g_call (vs := #[.slice a44 n45 c46]) CF41 (args1 rfl) (m_impl_SimplePlan_fn (oT.vw hS52.g0 hS52.g1 he48) hm)) ?_
    rintro _ w55 ⟨r58, a59, n60, c61, hm, rfl, hE56, hN57⟩
    have hS63 := hS52.call1 hE56 hN57
    have hB64 := hB53.trans (Ext.stp hE56 hS52.base)
    refine wl_val (g_assign (v := .slice a59 n60 c61) rfl) rfl ?_
    refine wl_nil ?_
    refine hK54 _ _ ?_
    refine w_seq fun K65 hK65 => ?_
    refine w_seq fun K66 hK66 => ?_
    refine w_region ?_
    refine wl_val (g_move (v := .slice a59 n60 c61) rfl) rfl ?_
    refine wl_val (g_move (v := .slice a33 n34 c35) rfl) rfl ?_
    refine wl_step rfl (g_call (vs := #[.slice a59 n60 c61, .slice a33 n34 c35]) CF21 (args2 rfl rfl) (m_laws_eqIntS_fn (oS.vw hS63.g0) (oS.vw hS63.g3) hm)) ?_
    rintro _ w67 ⟨r70, hm, rfl, hE68⟩
    have hB71 := hB64.trans (Ext.stp hE68 hS63.base)
    have hS72 := hS63.ext hE68
    refine wl_val (g_not (a := r70) rfl) rfl ?_
    refine wl_nil ?_
    refine hK66 _ _ ?_
    refine w_condI (p := ¬ (r70 = true)) (b := (!r70)) rfl (i_not Iff.rfl) (fun h73 => ?_) (fun h73 => ?_)
    · replace hm := hm.1 h73
      refine w_seq fun K74 hK74 => ?_
      refine w_region ?_
      refine wl_val (g_assign (v := .bool false) rfl) rfl ?_
      refine wl_nil ?_
      refine hK74 _ _ ?_
      refine w_ret ?_
      repeat first | with_reducible refine q_then ?_ | with_reducible refine q_block ?_
      exact ret1 rfl (by decide) ⟨_, hm, rfl, toExt hB71⟩
    · replace hm := hm.2 h73
      refine w_skip ?_
      refine hK65 _ _ ?_
      refine w_seq fun K75 hK75 => ?_
      refine w_seq fun K76 hK76 => ?_
      refine w_region ?_
      refine wl_val (g_move (v := .slice a44 n45 c46) rfl) rfl ?_
      refine wl_val (g_move (v := .slice a0 n0 c0) rfl) rfl ?_
      refine wl_step rfl (g_call (vs := #[.slice a0 n0 c0]) CF19 (args1 rfl) (m_laws_toCueS_fn ((hp0.bel hB71).up hS72) hm)) ?_
      rintro _ w77 ⟨r80, a81, n82, c83, y84, hm, he85, rfl, hE78, hN79⟩
      have hS89 := hS72.call2 hE78 hN79
      have hB90 := hB71.trans (Ext.stp hE78 hS72.base)
      refine wl_step rfl (g_call (vs := #[.slice a44 n45 c46, .slice a81 n82 c83]) CF22 (args2 rfl rfl) (m_laws_eqCueS_fn (oT.vw hS89.g3 hS89.g4 he48) (oT.vw hS89.g0 hS89.g1 he85) hm)) ?_
      rintro _ w91 ⟨r94, hm, rfl, hE92⟩
      have hB95 := hB90.trans (Ext.stp hE92 hS89.base)
      have hS96 := hS89.ext hE92
      refine wl_val (g_not (a := r94) rfl) rfl ?_
      refine wl_nil ?_
      refine hK76 _ _ ?_
      refine w_condI (p := ¬ (r94 = true)) (b := (!r94)) rfl (i_not Iff.rfl) (fun h97 => ?_) (fun h97 => ?_)
      · replace hm := hm.1 h97
        refine w_seq fun K98 hK98 => ?_
        refine w_region ?_
        refine wl_val (g_assign (v := .bool false) rfl) rfl ?_
        refine wl_nil ?_
        refine hK98 _ _ ?_
        refine w_ret ?_
        repeat first | with_reducible refine q_then ?_ | with_reducible refine q_block ?_
        exact ret1 rfl (by decide) ⟨_, hm, rfl, toExt hB95⟩
      · replace hm := hm.2 h97
        refine w_skip ?_
        refine hK75 _ _ ?_
        refine w_seq fun K99 hK99 => ?_
        refine w_region ?_
        refine wl_val (g_assign (v := .int .i64 1) rfl) rfl ?_
        refine wl_nil ?_
        refine hK99 _ _ ?_
        refine w_seq fun K100 hK100 => ?_
        refine w_region ?_
        refine wl_val (g_move (v := .slice a44 n45 c46) rfl) rfl ?_
        refine wl_val (g_move (v := .int .i64 1) rfl) rfl ?_
        have hS101 := hS96.f4
        have hS102 := hS101.f4
        refine wl_step rfl (g_call (vs := #[.slice a44 n45 c46, .int .i64 1]) CF23 (args2 rfl rfl) (m_laws_markCueS_fn hS102 he48 1 hm)) ?_
        rintro _ w103 ⟨r106, x107, y108, hm, he109, rfl, hb104, hS105⟩
        have hB110 := hB95.trans hb104
        refine wl_val (g_assign (v := .int .i64 r106) rfl) rfl ?_
        refine wl_nil ?_
        refine hK100 _ _ ?_
        refine w_seq fun K111 hK111 => ?_
        refine w_seq fun K112 hK112 => ?_
        refine w_region ?_
        refine wl_val (g_move (v := .int .i64 r106) rfl) rfl ?_
        refine wl_val (g_lss (a := r106) (b := 0) rfl rfl) rfl ?_
        refine wl_val (g_move (v := .bool (decide (r106 < 0))) rfl) rfl ?_
        refine wl_guard (c := (decide (r106 < 0)) = false) (val := .slice a59 n60 c61) (b := ((decide (r106 < 0)) == false)) (gv_some rfl rfl rfl) beq_iff_eq (fun hc113 => ?_) ?_
        · have hq0 : ¬ (r106 < 0) := (i_neg decide_eq_true_iff hc113)
          exact g_move (v := .slice a59 n60 c61) rfl
        refine wl_guard (c := (decide (r106 < 0)) = false) (val := .slice a33 n34 c35) (b := ((decide (r106 < 0)) == false)) (gv_some rfl rfl rfl) beq_iff_eq (fun hc114 => ?_) ?_
        · have hq0 : ¬ (r106 < 0) := (i_neg decide_eq_true_iff hc114)
          exact g_move (v := .slice a33 n34 c35) rfl
        obtain ⟨r116, hk117, hm⟩ := hm
        refine wl_guardE (X := Ext) (c := (decide (r106 < 0)) = false) (val := .bool r116) (Ext.refl _) (b := ((decide (r106 < 0)) == false)) (gv_some rfl rfl rfl) beq_iff_eq (fun hc115 => ?_) (fun w118 hE119 => ?_)
        · have hq0 : ¬ (r106 < 0) := (i_neg decide_eq_true_iff hc115)
          exact (g_call (vs := #[.slice a59 n60 c61, .slice a33 n34 c35]) CF21 (args2 (if_pos hc115) (if_pos hc115)) ((m_laws_eqIntS_fn (oS.vw hS105.g4) (oS.vw hS105.g5) (hk117 hq0)).mono fun _ _ ⟨_, h1, h2, h3⟩ => ⟨by rw [h2, h1], h3⟩))
        have hB120 := hB110.trans (Ext.stp hE119 hS105.base)
        have hS121 := hS105.ext hE119
        refine wl_guard (c := (decide (r106 < 0)) = false) (val := .bool (!r116)) (b := ((decide (r106 < 0)) == false)) (gv_some rfl rfl rfl) beq_iff_eq (fun hc122 => ?_) ?_
        · have hq0 : ¬ (r106 < 0) := (i_neg decide_eq_true_iff hc122)
          exact g_not (a := r116) (if_pos hc122)
        refine wl_val (g_pick_or (b := (decide (r106 < 0))) (q := (!r116)) rfl rfl) rfl ?_
        refine wl_nil ?_
        refine hK112 _ _ ?_
        refine w_condI (p := ((r106 < 0) ∨ (¬ (r116 = true)))) (b := ((decide (r106 < 0)) || (!r116))) rfl (i_or decide_eq_true_iff (i_not Iff.rfl)) (fun h123 => ?_) (fun h123 => ?_)
        · replace hm := hm.1 h123
          refine w_seq fun K124 hK124 => ?_
          refine w_region ?_
          refine wl_val (g_assign (v := .bool false) rfl) rfl ?_
          refine wl_nil ?_
          refine hK124 _ _ ?_
          refine w_ret ?_
          repeat first | with_reducible refine q_then ?_ | with_reducible refine q_block ?_
          exact ret1 rfl (by decide) ⟨_, hm, rfl, toExt hB120⟩
        · replace hm := hm.2 h123
          refine w_skip ?_
          refine hK111 _ _ ?_
          refine w_seq fun K125 hK125 => ?_
          refine w_region ?_
          refine wl_val (g_assign (v := .int .i64 1) rfl) rfl ?_
          refine wl_nil ?_
          refine hK125 _ _ ?_
          refine w_seq fun K126 hK126 => ?_
          refine w_region ?_
          refine wl_val (g_move (v := .slice a59 n60 c61) rfl) rfl ?_
          refine wl_val (g_move (v := .int .i64 1) rfl) rfl ?_
          have hS127 := hS121.f4
          refine wl_step rfl (g_call (vs := #[.slice a59 n60 c61, .int .i64 1]) CF24 (args2 rfl rfl) (m_laws_markIntS_fn hS127 1 hm)) ?_
          rintro _ w128 ⟨r131, x132, hm, rfl, hb129, hS130⟩
          have hB133 := hB120.trans hb129
          refine wl_val (g_assign (v := .int .i64 r131) rfl) rfl ?_
          refine wl_nil ?_
          refine hK126 _ _ ?_
          refine w_seq fun K134 hK134 => ?_
          refine w_region ?_
          refine wl_val (g_assign (v := .int .i64 1) rfl) rfl ?_
          refine wl_nil ?_
          refine hK134 _ _ ?_
          refine w_seq fun K135 hK135 => ?_
          refine w_region ?_
          refine wl_val (g_move (v := .slice a59 n60 c61) rfl) rfl ?_
          refine wl_val (g_move (v := .int .i64 1) rfl) rfl ?_
          refine wl_step rfl (g_call (vs := #[.slice a59 n60 c61, .int .i64 1]) CF25 (args2 rfl rfl) (m_laws_heldIntS_fn (oS.vw hS130.g0) 1 hm)) ?_
          rintro _ w136 ⟨r139, hm, rfl, hE137⟩
          have hB140 := hB133.trans (Ext.stp hE137 hS130.base)
          have hS141 := hS130.ext hE137
          refine wl_val (g_assign (v := .int .i64 r139) rfl) rfl ?_
          refine wl_nil ?_
          refine hK135 _ _ ?_
          refine w_seq fun K142 hK142 => ?_
          refine w_seq fun K143 hK143 => ?_
          refine w_region ?_
          refine wl_val (g_move (v := .int .i64 r139) rfl) rfl ?_
          refine wl_val (g_lss (a := r139) (b := 0) rfl rfl) rfl ?_
          refine wl_nil ?_
          refine hK143 _ _ ?_
          refine w_condI (p := r139 < 0) (b := (decide (r139 < 0))) rfl decide_eq_true_iff (fun h144 => ?_) (fun h144 => ?_)
          · replace hm := hm.1 h144
            refine w_seq fun K145 hK145 => ?_
            refine w_region ?_
            refine wl_val (g_assign (v := .bool false) rfl) rfl ?_
            refine wl_nil ?_
            refine hK145 _ _ ?_
            refine w_ret ?_
            repeat first | with_reducible refine q_then ?_ | with_reducible refine q_block ?_
            exact ret1 rfl (by decide) ⟨_, hm, rfl, toExt hB140⟩
          · replace hm := hm.2 h144
            refine w_skip ?_
            refine hK142 _ _ ?_
            refine w_seq fun K146 hK146 => ?_
            refine w_seq fun K147 hK147 => ?_
            refine w_region ?_
            refine wl_val (g_move (v := .int .i64 r139) rfl) rfl ?_
            refine wl_val (g_move (v := .int .i64 r131) rfl) rfl ?_
            refine wl_val (g_neq (a := r139) (b := r131) rfl rfl) rfl ?_
            refine wl_nil ?_
            refine hK147 _ _ ?_
            refine w_condI (p := r139 ≠ r131) (b := (decide (r139 ≠ r131))) rfl decide_eq_true_iff (fun h148 => ?_) (fun h148 => ?_)
            · replace hm := hm.1 h148
              refine w_seq fun K149 hK149 => ?_
              refine w_region ?_
              refine wl_val (g_assign (v := .bool false) rfl) rfl ?_
              refine wl_nil ?_
              refine hK149 _ _ ?_
              refine w_ret ?_
              repeat first | with_reducible refine q_then ?_ | with_reducible refine q_block ?_
              exact ret1 rfl (by decide) ⟨_, hm, rfl, toExt hB140⟩
            · replace hm := hm.2 h148
              refine w_skip ?_
              refine hK146 _ _ ?_
              refine w_seq fun K150 hK150 => ?_
              refine w_region ?_
              refine wl_val (g_move (v := .slice a0 n0 c0) rfl) rfl ?_
              refine wl_step rfl (g_call (vs := #[.slice a0 n0 c0]) CF19 (args1 rfl) (m_laws_toCueS_fn ((hp0.bel hB140).up hS141) hm)) ?_
              rintro _ w151 ⟨r154, a155, n156, c157, y158, hm, he159, rfl, hE152, hN153⟩
              have hS163 := hS141.call2 hE152 hN153
              have hB164 := hB140.trans (Ext.stp hE152 hS141.base)
              refine wl_step rfl (g_call (vs := #[.slice a155 n156 c157]) CF41 (args1 rfl) (m_impl_SimplePlan_fn (oT.vw hS163.g0 hS163.g1 he159) hm)) ?_
              rintro _ w165 ⟨r168, a169, n170, c171, hm, rfl, hE166, hN167⟩
              have hS173 := hS163.call1 hE166 hN167
              have hB174 := hB164.trans (Ext.stp hE166 hS163.base)
              refine wl_val (g_assign (v := .slice a169 n170 c171) rfl) rfl ?_
              refine wl_nil ?_
              refine hK150 _ _ ?_
              refine w_seq fun K175 hK175 => ?_
              refine w_seq fun K176 hK176 => ?_
              refine w_region ?_
              refine wl_val (g_move (v := .slice a169 n170 c171) rfl) rfl ?_
              refine wl_val (g_move (v := .slice a33 n34 c35) rfl) rfl ?_
              refine wl_step rfl (g_call (vs := #[.slice a169 n170 c171, .slice a33 n34 c35]) CF21 (args2 rfl rfl) (m_laws_eqIntS_fn (oS.vw hS173.g0) (oS.vw hS173.g8) hm)) ?_
              rintro _ w177 ⟨r180, hm, rfl, hE178⟩
              have hB181 := hB174.trans (Ext.stp hE178 hS173.base)
              have hS182 := hS173.ext hE178
              refine wl_val (g_not (a := r180) rfl) rfl ?_
              refine wl_nil ?_
              refine hK176 _ _ ?_
              refine w_condI (p := ¬ (r180 = true)) (b := (!r180)) rfl (i_not Iff.rfl) (fun h183 => ?_) (fun h183 => ?_)
              · replace hm := hm.1 h183
                refine w_seq fun K184 hK184 => ?_
                refine w_region ?_
                refine wl_val (g_assign (v := .bool false) rfl) rfl ?_
                refine wl_nil ?_
                refine hK184 _ _ ?_
                refine w_ret ?_
                repeat first | with_reducible refine q_then ?_ | with_reducible refine q_block ?_
                exact ret1 rfl (by decide) ⟨_, hm, rfl, toExt hB181⟩
              · replace hm := hm.2 h183
                refine w_skip ?_
                refine hK175 _ _ ?_
                refine w_seq fun K185 hK185 => ?_
                refine w_region ?_
                refine wl_val (g_assign (v := .int .i64 1) rfl) rfl ?_
                refine wl_nil ?_
                refine hK185 _ _ ?_
                refine w_seq fun K186 hK186 => ?_
                refine w_region ?_
                refine wl_val (g_move (v := .slice a59 n60 c61) rfl) rfl ?_
                refine wl_val (g_move (v := .int .i64 1) rfl) rfl ?_
                refine wl_step rfl (g_call (vs := #[.slice a59 n60 c61, .int .i64 1]) CF25 (args2 rfl rfl) (m_laws_heldIntS_fn (oS.vw hS182.g3) 1 hm)) ?_
                rintro _ w187 ⟨r190, hm, rfl, hE188⟩
                have hB191 := hB181.trans (Ext.stp hE188 hS182.base)
                have hS192 := hS182.ext hE188
                refine wl_val (g_assign (v := .int .i64 r190) rfl) rfl ?_
                refine wl_nil ?_
                refine hK186 _ _ ?_
                refine w_seq fun K193 hK193 => ?_
                refine w_seq fun K194 hK194 => ?_
                refine w_region ?_
                refine wl_val (g_move (v := .int .i64 r190) rfl) rfl ?_
                refine wl_val (g_lss (a := r190) (b := 0) rfl rfl) rfl ?_
                refine wl_nil ?_
                refine hK194 _ _ ?_
                refine w_condI (p := r190 < 0) (b := (decide (r190 < 0))) rfl decide_eq_true_iff (fun h195 => ?_) (fun h195 => ?_)
                · replace hm := hm.1 h195
                  refine w_seq fun K196 hK196 => ?_
                  refine w_region ?_
                  refine wl_val (g_assign (v := .bool false) rfl) rfl ?_
                  refine wl_nil ?_
                  refine hK196 _ _ ?_
                  refine w_ret ?_
                  repeat first | with_reducible refine q_then ?_ | with_reducible refine q_block ?_
                  exact ret1 rfl (by decide) ⟨_, hm, rfl, toExt hB191⟩
                · replace hm := hm.2 h195
                  refine w_skip ?_
                  refine hK193 _ _ ?_
                  refine w_seq fun K197 hK197 => ?_
                  refine w_seq fun K198 hK198 => ?_
                  refine w_region ?_
                  refine wl_val (g_move (v := .int .i64 r190) rfl) rfl ?_
                  refine wl_val (g_move (v := .int .i64 r131) rfl) rfl ?_
                  refine wl_val (g_neq (a := r190) (b := r131) rfl rfl) rfl ?_
                  refine wl_nil ?_
                  refine hK198 _ _ ?_
                  refine w_condI (p := r190 ≠ r131) (b := (decide (r190 ≠ r131))) rfl decide_eq_true_iff (fun h199 => ?_) (fun h199 => ?_)
                  · replace hm := hm.1 h199
                    refine w_seq fun K200 hK200 => ?_
                    refine w_region ?_
                    refine wl_val (g_assign (v := .bool false) rfl) rfl ?_
                    refine wl_nil ?_
                    refine hK200 _ _ ?_
                    refine w_ret ?_
                    repeat first | with_reducible refine q_then ?_ | with_reducible refine q_block ?_
                    exact ret1 rfl (by decide) ⟨_, hm, rfl, toExt hB191⟩
                  · replace hm := hm.2 h199
                    refine w_skip ?_
                    refine hK197 _ _ ?_
                    refine w_seq fun K201 hK201 => ?_
                    refine w_region ?_
                    refine wl_val (g_assign (v := .bool true) rfl) rfl ?_
                    refine wl_nil ?_
                    refine hK201 _ _ ?_
                    refine w_ret ?_
                    repeat first | with_reducible refine q_then ?_ | with_reducible refine q_block ?_
                    exact ret1 rfl (by decide) ⟨_, hm, rfl, toExt hB191⟩

end Go.Proofs.Ythmemoealgieaaa
