/- The walks: the code does what its model says. Printed by a program (gen2.py). No statement of the claim stands here. -/
import Derived.Test.YtebfcpninegcgaaSop
import Derived.Test.YtebfcpninegcgaaFacts
import Derived.Test.YtebfcpninegcgaaMH
import Derived.Test.YtebfcpninegcgaaWH1
import Derived.Test.YtebfcpninegcgaaWH2
namespace Go.Proofs.Ytebfcpninegcgaa
open Go Go.RowKit
set_option maxRecDepth 100000
theorem m_laws_FnExactRailsFor_fn {w : World} {a0 : Option Addr} {n0 c0 : Nat} {p0 : List Stay} {Q : Bool → Prop} (hp0 : Vw w.heap.size w a0 n0 c0 p0) (hm : m_laws_FnExactRailsFor p0 Q) :
    Fn Try.prog 3 #[.slice a0 n0 c0] w (fun v w' => ∃ (r0 : Bool), Q r0 ∧ v = .bool r0 ∧ Ext w w') := by
  unfold m_laws_FnExactRailsFor at hm
  have hB0 := Below.refl w.heap.size w
  have hS0 : Sep w w.heap.size [] := Sep.nil (Nat.le_refl _)
  refine fn_of_wp Try.func3 rfl (by kernel_rfl) (Nat.le_of_ble_eq_true rfl) ?_
  refine w_seq fun K1 hK1 => ?_
  refine w_region ?_
  refine wl_val (g_assign (v := .bool false) rfl) rfl ?_
  refine wl_nil ?_
  refine hK1 _ _ ?_
  refine w_seq fun K2 hK2 => ?_
  refine w_region ?_
  refine wl_val (g_assign (v := .int .i64 1048576) rfl) rfl ?_
  refine wl_nil ?_
  refine hK2 _ _ ?_
  refine w_seq fun K3 hK3 => ?_
  refine w_region ?_
  refine wl_val (g_move (v := .slice a0 n0 c0) rfl) rfl ?_
  refine wl_val (g_move (v := .int .i64 1048576) rfl) rfl ?_
  refine wl_step rfl (g_call (vs := #[.slice a0 n0 c0, .int .i64 1048576]) CF5 (args2 rfl rfl) (m_laws_szStayS_fn ((hp0.bel hB0).up hS0) 1048576 hm)) ?_
  rintro _ w4 ⟨r7, hm, rfl, hE5⟩
  have hB8 := hB0.trans (Ext.stp hE5 hS0.base)
  have hS9 := hS0.ext hE5
  refine wl_val (g_assign (v := .int .i64 r7) rfl) rfl ?_
  refine wl_nil ?_
  refine hK3 _ _ ?_
  refine w_seq fun K10 hK10 => ?_
  refine w_seq fun K11 hK11 => ?_
  refine w_region ?_
  refine wl_val (g_move (v := .int .i64 r7) rfl) rfl ?_
  refine wl_val (g_lss (a := r7) (b := 0) rfl rfl) rfl ?_
  refine wl_nil ?_
  refine hK11 _ _ ?_
  refine w_condI (p := r7 < 0) (b := (decide (r7 < 0))) rfl decide_eq_true_iff (fun h12 => ?_) (fun h12 => ?_)
  · replace hm := hm.1 h12
    refine w_seq fun K13 hK13 => ?_
    refine w_region ?_
    refine wl_val (g_assign (v := .bool true) rfl) rfl ?_
    refine wl_nil ?_
    refine hK13 _ _ ?_
    refine w_ret ?_
    repeat first | with_reducible refine q_then ?_ | with_reducible refine q_block ?_
    exact ret1 rfl (by decide) ⟨_, hm, rfl, toExt hB8⟩
  · replace hm := hm.2 h12
    refine w_skip ?_
    refine hK10 _ _ ?_
    refine w_seq fun K14 hK14 => ?_
    refine w_region ?_
    refine wl_val (g_move (v := .slice a0 n0 c0) rfl) rfl ?_
    refine wl_step rfl (g_call (vs := #[.slice a0 n0 c0]) CF7 (args1 rfl) (m_laws_toStayS_fn ((hp0.bel hB8).up hS9) hm)) ?_
    rintro _ w15 ⟨r18, a19, n20, c21, hm, rfl, hE16, hN17⟩
    have hS23 := hS9.call1 hE16 hN17
    have hB24 := hB8.trans (Ext.stp hE16 hS9.base)
    refine wl_step rfl (g_call (vs := #[.slice a19 n20 c21]) CF6 (args1 rfl) (m_spec_RailsFor_fn (oS.vw hS23.g0) hm)) ?_
    rintro _ w25 ⟨r28, a29, n30, c31, hm, rfl, hE26, hN27⟩
    have hS33 := hS23.call1 hE26 hN27
    have hB34 := hB24.trans (Ext.stp hE26 hS23.base)
    refine wl_val (g_assign (v := .slice a29 n30 c31) rfl) rfl ?_
    refine wl_nil ?_
    refine hK14 _ _ ?_
    refine w_seq fun K35 hK35 => ?_
    refine w_region ?_
    refine wl_val (g_move (v := .slice a0 n0 c0) rfl) rfl ?_
    refine wl_step rfl (g_call (vs := #[.slice a0 n0 c0]) CF7 (args1 rfl) (m_laws_toStayS_fn ((hp0.bel hB34).up hS33) hm)) ?_
    rintro _ w36 ⟨r39, a40, n41, c42, hm, rfl, hE37, hN38⟩
    have hS44 := hS33.call1 hE37 hN38
    have hB45 := hB34.trans (Ext.stp hE37 hS33.base)
    refine wl_val (g_assign (v := .slice a40 n41 c42) rfl) rfl ?_
    refine wl_nil ?_
    refine hK35 _ _ ?_
    refine w_seq fun K46 hK46 => ?_
    refine w_region ?_
    refine wl_val (g_move (v := .slice a40 n41 c42) rfl) rfl ?_
    refine wl_step rfl (g_call (vs := #[.slice a40 n41 c42]) CF8 (args1 rfl) (m_impl_RailsFor_fn (oS.vw hS44.g0) hm)) ?_
    rintro _ w47 ⟨r50, a51, n52, c53, hm, rfl, hE48, hN49⟩
    have hS55 := hS44.call1 hE48 hN49
    have hB56 := hB45.trans (Ext.stp hE48 hS44.base)
    refine wl_val (g_assign (v := .slice a51 n52 c53) rfl) rfl ?_
    refine wl_nil ?_
    refine hK46 _ _ ?_
    refine w_seq fun K57 hK57 => ?_
    refine w_seq fun K58 hK58 => ?_
    refine w_region ?_
    refine wl_val (g_move (v := .slice a51 n52 c53) rfl) rfl ?_
    refine wl_val (g_move (v := .slice a29 n30 c31) rfl) rfl ?_
    refine wl_step rfl (g_call (vs := #[.slice a51 n52 c53, .slice a29 n30 c31]) CF9 (args2 rfl rfl) (m_laws_eqIntS_fn (oS.vw hS55.g0) (oS.vw hS55.g2) hm)) ?_
    rintro _ w59 ⟨r62, hm, rfl, hE60⟩
    have hB63 := hB56.trans (Ext.stp hE60 hS55.base)
    have hS64 := hS55.ext hE60
    refine wl_val (g_not (a := r62) rfl) rfl ?_
    refine wl_nil ?_
    refine hK58 _ _ ?_
    refine w_condI (p := ¬ (r62 = true)) (b := (!r62)) rfl (i_not Iff.rfl) (fun h65 => ?_) (fun h65 => ?_)
    · replace hm := hm.1 h65
      refine w_seq fun K66 hK66 => ?_
      refine w_region ?_
      refine wl_val (g_assign (v := .bool false) rfl) rfl ?_
      refine wl_nil ?_
      refine hK66 _ _ ?_
      refine w_ret ?_
      repeat first | with_reducible refine q_then ?_ | with_reducible refine q_block ?_
      exact ret1 rfl (by decide) ⟨_, hm, rfl, toExt hB63⟩
    · replace hm := hm.2 h65
      refine w_skip ?_
      refine hK57 _ _ ?_
      refine w_seq fun K67 hK67 => ?_
      refine w_seq fun K68 hK68 => ?_
      refine w_region ?_
      refine wl_val (g_move (v := .slice a40 n41 c42) rfl) rfl ?_
      refine wl_val (g_move (v := .slice a0 n0 c0) rfl) rfl ?_
      refine wl_step rfl (g_call (vs := #[.slice a0 n0 c0]) CF7 (args1 rfl) (m_laws_toStayS_fn ((hp0.bel hB63).up hS64) hm)) ?_
      rintro _ w69 ⟨r72, a73, n74, c75, hm, rfl, hE70, hN71⟩
      have hS77 := hS64.call1 hE70 hN71
      have hB78 := hB63.trans (Ext.stp hE70 hS64.base)
      refine wl_step rfl (g_call (vs := #[.slice a40 n41 c42, .slice a73 n74 c75]) CF10 (args2 rfl rfl) (m_laws_eqStayS_fn (oS.vw hS77.g2) (oS.vw hS77.g0) hm)) ?_
      rintro _ w79 ⟨r82, hm, rfl, hE80⟩
      have hB83 := hB78.trans (Ext.stp hE80 hS77.base)
      have hS84 := hS77.ext hE80
      refine wl_val (g_not (a := r82) rfl) rfl ?_
      refine wl_nil ?_
      refine hK68 _ _ ?_
      refine w_condI (p := ¬ (r82 = true)) (b := (!r82)) rfl (i_not Iff.rfl) (fun h85 => ?_) (fun h85 => ?_)
      · replace hm := hm.1 h85
        refine w_seq fun K86 hK86 => ?_
        refine w_region ?_
        refine wl_val (g_assign (v := .bool false) rfl) rfl ?_
        refine wl_nil ?_
        refine hK86 _ _ ?_
        refine w_ret ?_
        repeat first | with_reducible refine q_then ?_ | with_reducible refine q_block ?_
        exact ret1 rfl (by decide) ⟨_, hm, rfl, toExt hB83⟩
      · replace hm := hm.2 h85
        refine w_skip ?_
        refine hK67 _ _ ?_
        refine w_seq fun K87 hK87 => ?_
        refine w_region ?_
        refine wl_val (g_assign (v := .int .i64 1) rfl) rfl ?_
        refine wl_nil ?_
        refine hK87 _ _ ?_
        refine w_seq fun K88 hK88 => ?_
        refine w_region ?_
        refine wl_val (g_move (v := .slice a40 n41 c42) rfl) rfl ?_
        refine wl_val (g_move (v := .int .i64 1) rfl) rfl ?_
        have hS89 := hS84.f2
        refine wl_step rfl (g_call (vs := #[.slice a40 n41 c42, .int .i64 1]) CF11 (args2 rfl rfl) (m_laws_markStayS_fn hS89 1 hm)) ?_
        rintro _ w90 ⟨r93, x94, hm, rfl, hb91, hS92⟩
        have hB95 := hB83.trans hb91
        refine wl_val (g_assign (v := .int .i64 r93) rfl) rfl ?_
        refine wl_nil ?_
        refine hK88 _ _ ?_
        refine w_seq fun K96 hK96 => ?_
        refine w_seq fun K97 hK97 => ?_
        refine w_region ?_
        refine wl_val (g_move (v := .int .i64 r93) rfl) rfl ?_
        refine wl_val (g_lss (a := r93) (b := 0) rfl rfl) rfl ?_
        refine wl_val (g_move (v := .bool (decide (r93 < 0))) rfl) rfl ?_
        refine wl_guard (c := (decide (r93 < 0)) = false) (val := .slice a51 n52 c53) (b := ((decide (r93 < 0)) == false)) (gv_some rfl rfl rfl) beq_iff_eq (fun hc98 => ?_) ?_
        · have hcq0 : ¬ (r93 < 0) := (i_neg decide_eq_true_iff hc98)
          exact g_move (v := .slice a51 n52 c53) rfl
        refine wl_guard (c := (decide (r93 < 0)) = false) (val := .slice a29 n30 c31) (b := ((decide (r93 < 0)) == false)) (gv_some rfl rfl rfl) beq_iff_eq (fun hc99 => ?_) ?_
        · have hcq0 : ¬ (r93 < 0) := (i_neg decide_eq_true_iff hc99)
          exact g_move (v := .slice a29 n30 c31) rfl
        obtain ⟨r101, hk102, hm⟩ := hm
        refine wl_guardE (X := Ext) (c := (decide (r93 < 0)) = false) (val := .bool r101) (Ext.refl _) (b := ((decide (r93 < 0)) == false)) (gv_some rfl rfl rfl) beq_iff_eq (fun hc100 => ?_) (fun w103 hE104 => ?_)
        · have hcq0 : ¬ (r93 < 0) := (i_neg decide_eq_true_iff hc100)
          exact (g_call (vs := #[.slice a51 n52 c53, .slice a29 n30 c31]) CF9 (args2 (if_pos hc100) (if_pos hc100)) ((m_laws_eqIntS_fn (oS.vw hS92.g2) (oS.vw hS92.g3) (hk102 hcq0)).mono fun _ _ ⟨_, h1, h2, h3⟩ => ⟨by rw [h2, h1], h3⟩))
        have hB105 := hB95.trans (Ext.stp hE104 hS92.base)
        have hS106 := hS92.ext hE104
        refine wl_guard (c := (decide (r93 < 0)) = false) (val := .bool (!r101)) (b := ((decide (r93 < 0)) == false)) (gv_some rfl rfl rfl) beq_iff_eq (fun hc107 => ?_) ?_
        · have hcq0 : ¬ (r93 < 0) := (i_neg decide_eq_true_iff hc107)
          exact g_not (a := r101) (if_pos hc107)
        refine wl_val (g_pick_or (b := (decide (r93 < 0))) (q := (!r101)) rfl rfl) rfl ?_
        refine wl_nil ?_
        refine hK97 _ _ ?_
        refine w_condI (p := ((r93 < 0) ∨ (¬ (r101 = true)))) (b := ((decide (r93 < 0)) || (!r101))) rfl (i_or decide_eq_true_iff (i_not Iff.rfl)) (fun h108 => ?_) (fun h108 => ?_)
        · replace hm := hm.1 h108
          refine w_seq fun K109 hK109 => ?_
          refine w_region ?_
          refine wl_val (g_assign (v := .bool false) rfl) rfl ?_
          refine wl_nil ?_
          refine hK109 _ _ ?_
          refine w_ret ?_
          repeat first | with_reducible refine q_then ?_ | with_reducible refine q_block ?_
          exact ret1 rfl (by decide) ⟨_, hm, rfl, toExt hB105⟩
        · replace hm := hm.2 h108
          refine w_skip ?_
          refine hK96 _ _ ?_
          refine w_seq fun K110 hK110 => ?_
          refine w_region ?_
          refine wl_val (g_assign (v := .int .i64 1) rfl) rfl ?_
          refine wl_nil ?_
          refine hK110 _ _ ?_
          refine w_seq fun K111 hK111 => ?_
          refine w_region ?_
          refine wl_val (g_move (v := .slice a51 n52 c53) rfl) rfl ?_
          refine wl_val (g_move (v := .int .i64 1) rfl) rfl ?_
          have hS112 := hS106.f2
          refine wl_step rfl (g_call (vs := #[.slice a51 n52 c53, .int .i64 1]) CF12 (args2 rfl rfl) (m_laws_markIntS_fn hS112 1 hm)) ?_
          rintro _ w113 ⟨r116, x117, hm, rfl, hb114, hS115⟩
          have hB118 := hB105.trans hb114
          refine wl_val (g_assign (v := .int .i64 r116) rfl) rfl ?_
          refine wl_nil ?_
          refine hK111 _ _ ?_
          refine w_seq fun K119 hK119 => ?_
          refine w_region ?_
          refine wl_val (g_assign (v := .int .i64 1) rfl) rfl ?_
          refine wl_nil ?_
          refine hK119 _ _ ?_
          refine w_seq fun K120 hK120 => ?_
          refine w_region ?_
          refine wl_val (g_move (v := .slice a51 n52 c53) rfl) rfl ?_
          refine wl_val (g_move (v := .int .i64 1) rfl) rfl ?_
          refine wl_step rfl (g_call (vs := #[.slice a51 n52 c53, .int .i64 1]) CF13 (args2 rfl rfl) (m_laws_heldIntS_fn (oS.vw hS115.g0) 1 hm)) ?_
          rintro _ w121 ⟨r124, hm, rfl, hE122⟩
          have hB125 := hB118.trans (Ext.stp hE122 hS115.base)
          have hS126 := hS115.ext hE122
          refine wl_val (g_assign (v := .int .i64 r124) rfl) rfl ?_
          refine wl_nil ?_
          refine hK120 _ _ ?_
          refine w_seq fun K127 hK127 => ?_
          refine w_seq fun K128 hK128 => ?_
          refine w_region ?_
          refine wl_val (g_move (v := .int .i64 r124) rfl) rfl ?_
          refine wl_val (g_lss (a := r124) (b := 0) rfl rfl) rfl ?_
          refine wl_nil ?_
          refine hK128 _ _ ?_
          refine w_condI (p := r124 < 0) (b := (decide (r124 < 0))) rfl decide_eq_true_iff (fun h129 => ?_) (fun h129 => ?_)
          · replace hm := hm.1 h129
            refine w_seq fun K130 hK130 => ?_
            refine w_region ?_
            refine wl_val (g_assign (v := .bool false) rfl) rfl ?_
            refine wl_nil ?_
            refine hK130 _ _ ?_
            refine w_ret ?_
            repeat first | with_reducible refine q_then ?_ | with_reducible refine q_block ?_
            exact ret1 rfl (by decide) ⟨_, hm, rfl, toExt hB125⟩
          · replace hm := hm.2 h129
            refine w_skip ?_
            refine hK127 _ _ ?_
            refine w_seq fun K131 hK131 => ?_
            refine w_seq fun K132 hK132 => ?_
            refine w_region ?_
            refine wl_val (g_move (v := .int .i64 r124) rfl) rfl ?_
            refine wl_val (g_move (v := .int .i64 r116) rfl) rfl ?_
            refine wl_val (g_neq (a := r124) (b := r116) rfl rfl) rfl ?_
            refine wl_nil ?_
            refine hK132 _ _ ?_
            refine w_condI (p := r124 ≠ r116) (b := (decide (r124 ≠ r116))) rfl decide_eq_true_iff (fun h133 => ?_) (fun h133 => ?_)
            · replace hm := hm.1 h133
              refine w_seq fun K134 hK134 => ?_
              refine w_region ?_
              refine wl_val (g_assign (v := .bool false) rfl) rfl ?_
              refine wl_nil ?_
              refine hK134 _ _ ?_
              refine w_ret ?_
              repeat first | with_reducible refine q_then ?_ | with_reducible refine q_block ?_
              exact ret1 rfl (by decide) ⟨_, hm, rfl, toExt hB125⟩
            · replace hm := hm.2 h133
              refine w_skip ?_
              refine hK131 _ _ ?_
              refine w_seq fun K135 hK135 => ?_
              refine w_region ?_
              refine wl_val (g_move (v := .slice a0 n0 c0) rfl) rfl ?_
              refine wl_step rfl (g_call (vs := #[.slice a0 n0 c0]) CF7 (args1 rfl) (m_laws_toStayS_fn ((hp0.bel hB125).up hS126) hm)) ?_
              rintro _ w136 ⟨r139, a140, n141, c142, hm, rfl, hE137, hN138⟩
              have hS144 := hS126.call1 hE137 hN138
              have hB145 := hB125.trans (Ext.stp hE137 hS126.base)
              refine wl_step rfl (g_call (vs := #[.slice a140 n141 c142]) CF8 (args1 rfl) (m_impl_RailsFor_fn (oS.vw hS144.g0) hm)) ?_
              rintro _ w146 ⟨r149, a150, n151, c152, hm, rfl, hE147, hN148⟩
              have hS154 := hS144.call1 hE147 hN148
              have hB155 := hB145.trans (Ext.stp hE147 hS144.base)
              refine wl_val (g_assign (v := .slice a150 n151 c152) rfl) rfl ?_
              refine wl_nil ?_
              refine hK135 _ _ ?_
              refine w_seq fun K156 hK156 => ?_
              refine w_seq fun K157 hK157 => ?_
              refine w_region ?_
              refine wl_val (g_move (v := .slice a150 n151 c152) rfl) rfl ?_
              refine wl_val (g_move (v := .slice a29 n30 c31) rfl) rfl ?_
              refine wl_step rfl (g_call (vs := #[.slice a150 n151 c152, .slice a29 n30 c31]) CF9 (args2 rfl rfl) (m_laws_eqIntS_fn (oS.vw hS154.g0) (oS.vw hS154.g5) hm)) ?_
              rintro _ w158 ⟨r161, hm, rfl, hE159⟩
              have hB162 := hB155.trans (Ext.stp hE159 hS154.base)
              have hS163 := hS154.ext hE159
              refine wl_val (g_not (a := r161) rfl) rfl ?_
              refine wl_nil ?_
              refine hK157 _ _ ?_
              refine w_condI (p := ¬ (r161 = true)) (b := (!r161)) rfl (i_not Iff.rfl) (fun h164 => ?_) (fun h164 => ?_)
              · replace hm := hm.1 h164
                refine w_seq fun K165 hK165 => ?_
                refine w_region ?_
                refine wl_val (g_assign (v := .bool false) rfl) rfl ?_
                refine wl_nil ?_
                refine hK165 _ _ ?_
                refine w_ret ?_
                repeat first | with_reducible refine q_then ?_ | with_reducible refine q_block ?_
                exact ret1 rfl (by decide) ⟨_, hm, rfl, toExt hB162⟩
              · replace hm := hm.2 h164
                refine w_skip ?_
                refine hK156 _ _ ?_
                refine w_seq fun K166 hK166 => ?_
                refine w_region ?_
                refine wl_val (g_assign (v := .int .i64 1) rfl) rfl ?_
                refine wl_nil ?_
                refine hK166 _ _ ?_
                refine w_seq fun K167 hK167 => ?_
                refine w_region ?_
                refine wl_val (g_move (v := .slice a51 n52 c53) rfl) rfl ?_
                refine wl_val (g_move (v := .int .i64 1) rfl) rfl ?_
                refine wl_step rfl (g_call (vs := #[.slice a51 n52 c53, .int .i64 1]) CF13 (args2 rfl rfl) (m_laws_heldIntS_fn (oS.vw hS163.g2) 1 hm)) ?_
                rintro _ w168 ⟨r171, hm, rfl, hE169⟩
                have hB172 := hB162.trans (Ext.stp hE169 hS163.base)
                have hS173 := hS163.ext hE169
                refine wl_val (g_assign (v := .int .i64 r171) rfl) rfl ?_
                refine wl_nil ?_
                refine hK167 _ _ ?_
                refine w_seq fun K174 hK174 => ?_
                refine w_seq fun K175 hK175 => ?_
                refine w_region ?_
                refine wl_val (g_move (v := .int .i64 r171) rfl) rfl ?_
                refine wl_val (g_lss (a := r171) (b := 0) rfl rfl) rfl ?_
                refine wl_nil ?_
                refine hK175 _ _ ?_
                refine w_condI (p := r171 < 0) (b := (decide (r171 < 0))) rfl decide_eq_true_iff (fun h176 => ?_) (fun h176 => ?_)
                · replace hm := hm.1 h176
                  refine w_seq fun K177 hK177 => ?_
                  refine w_region ?_
                  refine wl_val (g_assign (v := .bool false) rfl) rfl ?_
                  refine wl_nil ?_
                  refine hK177 _ _ ?_
                  refine w_ret ?_
                  repeat first | with_reducible refine q_then ?_ | with_reducible refine q_block ?_
                  exact ret1 rfl (by decide) ⟨_, hm, rfl, toExt hB172⟩
                · replace hm := hm.2 h176
                  refine w_skip ?_
                  refine hK174 _ _ ?_
                  refine w_seq fun K178 hK178 => ?_
                  refine w_seq fun K179 hK179 => ?_
                  refine w_region ?_
                  refine wl_val (g_move (v := .int .i64 r171) rfl) rfl ?_
                  refine wl_val (g_move (v := .int .i64 r116) rfl) rfl ?_
                  refine wl_val (g_neq (a := r171) (b := r116) rfl rfl) rfl ?_
                  refine wl_nil ?_
                  refine hK179 _ _ ?_
                  refine w_condI (p := r171 ≠ r116) (b := (decide (r171 ≠ r116))) rfl decide_eq_true_iff (fun h180 => ?_) (fun h180 => ?_)
                  · replace hm := hm.1 h180
                    refine w_seq fun K181 hK181 => ?_
                    refine w_region ?_
                    refine wl_val (g_assign (v := .bool false) rfl) rfl ?_
                    refine wl_nil ?_
                    refine hK181 _ _ ?_
                    refine w_ret ?_
                    repeat first | with_reducible refine q_then ?_ | with_reducible refine q_block ?_
                    exact ret1 rfl (by decide) ⟨_, hm, rfl, toExt hB172⟩
                  · replace hm := hm.2 h180
                    refine w_skip ?_
                    refine hK178 _ _ ?_
                    refine w_seq fun K182 hK182 => ?_
                    refine w_region ?_
                    refine wl_val (g_assign (v := .bool true) rfl) rfl ?_
                    refine wl_nil ?_
                    refine hK182 _ _ ?_
                    refine w_ret ?_
                    repeat first | with_reducible refine q_then ?_ | with_reducible refine q_block ?_
                    exact ret1 rfl (by decide) ⟨_, hm, rfl, toExt hB172⟩

end Go.Proofs.Ytebfcpninegcgaa
