/- The walks: the code does what its model says. Printed by a program (gen2.py). No statement of the claim stands here. -/
import Derived.Test.YthmlfpfebdnpcaaSop
import Derived.Test.YthmlfpfebdnpcaaFacts
import Derived.Test.YthmlfpfebdnpcaaME
import Derived.Test.YthmlfpfebdnpcaaWE1
import Derived.Test.YthmlfpfebdnpcaaWE2
import Derived.Test.YthmlfpfebdnpcaaWE3
namespace Go.Proofs.Ythmlfpfebdnpcaa
open Go Go.RowKit
set_option maxRecDepth 100000
theorem m_laws_FnExactIsCasting_fn {w : World} {a0 : Option Addr} {n0 c0 : Nat} {y0 : List PlayerD} {p0 : List PlayerC} {a1 : Option Addr} {n1 c1 : Nat} {p1 : List Int} {a2 : Option Addr} {n2 c2 : Nat} {p2 : List Int} {Q : Bool → Prop} (hp0 : Tv w.heap.size w a0 n0 c0 y0 p0) (hp1 : Vw w.heap.size w a1 n1 c1 p1) (hp2 : Vw w.heap.size w a2 n2 c2 p2) (hm : m_laws_FnExactIsCasting p0 p1 p2 Q) :
    Fn Try.prog 12 #[.slice a0 n0 c0, .slice a1 n1 c1, .slice a2 n2 c2] w (fun v w' => ∃ (r0 : Bool), Q r0 ∧ v = .bool r0 ∧ Ext w w') := by
  unfold m_laws_FnExactIsCasting at hm
  have hB0 := Below.refl w.heap.size w
  have hS0 : Sep w w.heap.size [] := Sep.nil (Nat.le_refl _)
  refine fn_of_wp Try.func12 rfl (by kernel_rfl) (Nat.le_of_ble_eq_true rfl) ?_
  refine w_seq fun K1 hK1 => ?_
  refine w_region ?_
  refine wl_val (g_assign (v := .bool false) rfl) rfl ?_
  refine wl_nil ?_
  refine hK1 _ _ ?_
  refine w_seq fun K2 hK2 => ?_
  refine w_seq fun K3 hK3 => ?_
  refine w_region ?_
  refine wl_val (g_move (v := .slice a1 n1 c1) rfl) rfl ?_
  refine wl_val (q_len SL35 rfl (Vw.len (hp1.bel hB0))) rfl ?_
  refine wl_val (g_gtr (a := (p1.length : Int)) (b := 1048576) rfl rfl) rfl ?_
  refine wl_nil ?_
  refine hK3 _ _ ?_
  refine w_condI (p := (p1.length : Int) > 1048576) (b := (decide ((p1.length : Int) > 1048576))) rfl decide_eq_true_iff (fun h4 => ?_) (fun h4 => ?_)
  · replace hm := hm.1 h4
    refine w_seq fun K5 hK5 => ?_
    refine w_region ?_
    refine wl_val (g_assign (v := .bool true) rfl) rfl ?_
    refine wl_nil ?_
    refine hK5 _ _ ?_
    refine w_ret ?_
    repeat first | with_reducible refine q_then ?_ | with_reducible refine q_block ?_
    exact ret1 rfl (by decide) ⟨_, hm, rfl, toExt hB0⟩
  · replace hm := hm.2 h4
    refine w_skip ?_
    refine hK2 _ _ ?_
    refine w_seq fun K6 hK6 => ?_
    refine w_seq fun K7 hK7 => ?_
    refine w_region ?_
    refine wl_val (g_move (v := .slice a2 n2 c2) rfl) rfl ?_
    refine wl_val (q_len SL35 rfl (Vw.len (hp2.bel hB0))) rfl ?_
    refine wl_val (g_gtr (a := (p2.length : Int)) (b := 1048576) rfl rfl) rfl ?_
    refine wl_nil ?_
    refine hK7 _ _ ?_
    refine w_condI (p := (p2.length : Int) > 1048576) (b := (decide ((p2.length : Int) > 1048576))) rfl decide_eq_true_iff (fun h8 => ?_) (fun h8 => ?_)
    · replace hm := hm.1 h8
      refine w_seq fun K9 hK9 => ?_
      refine w_region ?_
      refine wl_val (g_assign (v := .bool true) rfl) rfl ?_
      refine wl_nil ?_
      refine hK9 _ _ ?_
      refine w_ret ?_
      repeat first | with_reducible refine q_then ?_ | with_reducible refine q_block ?_
      exact ret1 rfl (by decide) ⟨_, hm, rfl, toExt hB0⟩
    · replace hm := hm.2 h8
      refine w_skip ?_
      refine hK6 _ _ ?_
      refine w_seq fun K10 hK10 => ?_
      refine w_region ?_
      refine wl_val (g_assign (v := .int .i64 1048576) rfl) rfl ?_
      refine wl_nil ?_
      refine hK10 _ _ ?_
      refine w_seq fun K11 hK11 => ?_
      refine w_region ?_
      refine wl_val (g_move (v := .slice a0 n0 c0) rfl) rfl ?_
      refine wl_val (g_move (v := .int .i64 1048576) rfl) rfl ?_
      refine wl_step rfl (g_call (vs := #[.slice a0 n0 c0, .int .i64 1048576]) CF21 (args2 rfl rfl) (m_laws_szPlayerS_fn ((hp0.bel hB0).up hS0) 1048576 hm)) ?_
      rintro _ w12 ⟨r15, hm, rfl, hE13⟩
      have hB16 := hB0.trans (Ext.stp hE13 hS0.base)
      have hS17 := hS0.ext hE13
      refine wl_val (g_assign (v := .int .i64 r15) rfl) rfl ?_
      refine wl_nil ?_
      refine hK11 _ _ ?_
      refine w_seq fun K18 hK18 => ?_
      refine w_seq fun K19 hK19 => ?_
      refine w_region ?_
      refine wl_val (g_move (v := .int .i64 r15) rfl) rfl ?_
      refine wl_val (g_lss (a := r15) (b := 0) rfl rfl) rfl ?_
      refine wl_nil ?_
      refine hK19 _ _ ?_
      refine w_condI (p := r15 < 0) (b := (decide (r15 < 0))) rfl decide_eq_true_iff (fun h20 => ?_) (fun h20 => ?_)
      · replace hm := hm.1 h20
        refine w_seq fun K21 hK21 => ?_
        refine w_region ?_
        refine wl_val (g_assign (v := .bool true) rfl) rfl ?_
        refine wl_nil ?_
        refine hK21 _ _ ?_
        refine w_ret ?_
        repeat first | with_reducible refine q_then ?_ | with_reducible refine q_block ?_
        exact ret1 rfl (by decide) ⟨_, hm, rfl, toExt hB16⟩
      · replace hm := hm.2 h20
        refine w_skip ?_
        refine hK18 _ _ ?_
        refine w_seq fun K22 hK22 => ?_
        refine w_region ?_
        refine wl_val (g_move (v := .slice a0 n0 c0) rfl) rfl ?_
        refine wl_step rfl (g_call (vs := #[.slice a0 n0 c0]) CF23 (args1 rfl) (m_laws_toPlayerS_fn ((hp0.bel hB16).up hS17) hm)) ?_
        rintro _ w23 ⟨r26, a27, n28, c29, y30, hm, he31, rfl, hE24, hN25⟩
        have hS35 := hS17.call2 hE24 hN25
        have hB36 := hB16.trans (Ext.stp hE24 hS17.base)
        refine wl_val (g_move (v := .slice a1 n1 c1) rfl) rfl ?_
        refine wl_step rfl (g_call (vs := #[.slice a1 n1 c1]) CF29 (args1 rfl) (m_laws_toIntS_fn ((hp1.bel hB36).up hS35) hm)) ?_
        rintro _ w37 ⟨r40, a41, n42, c43, hm, rfl, hE38, hN39⟩
        have hS45 := hS35.call1 hE38 hN39
        have hB46 := hB36.trans (Ext.stp hE38 hS35.base)
        refine wl_val (g_move (v := .slice a2 n2 c2) rfl) rfl ?_
        refine wl_step rfl (g_call (vs := #[.slice a2 n2 c2]) CF29 (args1 rfl) (m_laws_toIntS_fn ((hp2.bel hB46).up hS45) hm)) ?_
        rintro _ w47 ⟨r50, a51, n52, c53, hm, rfl, hE48, hN49⟩
        have hS55 := hS45.call1 hE48 hN49
        have hB56 := hB46.trans (Ext.stp hE48 hS45.base)
        refine wl_step rfl (g_call (vs := #[.slice a27 n28 c29, .slice a41 n42 c43, .slice a51 n52 c53]) CF46 (args3 rfl rfl rfl) (m_spec_IsCasting_fn (oT.vw hS55.g2 hS55.g3 he31) (oS.vw hS55.g1) (oS.vw hS55.g0) hm)) ?_
        rintro _ w57 ⟨r60, hm, rfl, hE58⟩
        have hB61 := hB56.trans (Ext.stp hE58 hS55.base)
        have hS62 := hS55.ext hE58
        refine wl_val (g_assign (v := .bool r60) rfl) rfl ?_
        refine wl_nil ?_
        refine hK22 _ _ ?_
        refine w_seq fun K63 hK63 => ?_
        refine w_region ?_
        refine wl_val (g_move (v := .slice a0 n0 c0) rfl) rfl ?_
        refine wl_step rfl (g_call (vs := #[.slice a0 n0 c0]) CF23 (args1 rfl) (m_laws_toPlayerS_fn ((hp0.bel hB61).up hS62) hm)) ?_
        rintro _ w64 ⟨r67, a68, n69, c70, y71, hm, he72, rfl, hE65, hN66⟩
        have hS76 := hS62.call2 hE65 hN66
        have hB77 := hB61.trans (Ext.stp hE65 hS62.base)
        refine wl_val (g_assign (v := .slice a68 n69 c70) rfl) rfl ?_
        refine wl_nil ?_
        refine hK63 _ _ ?_
        refine w_seq fun K78 hK78 => ?_
        refine w_region ?_
        refine wl_val (g_move (v := .slice a1 n1 c1) rfl) rfl ?_
        refine wl_step rfl (g_call (vs := #[.slice a1 n1 c1]) CF29 (args1 rfl) (m_laws_toIntS_fn ((hp1.bel hB77).up hS76) hm)) ?_
        rintro _ w79 ⟨r82, a83, n84, c85, hm, rfl, hE80, hN81⟩
        have hS87 := hS76.call1 hE80 hN81
        have hB88 := hB77.trans (Ext.stp hE80 hS76.base)
        refine wl_val (g_assign (v := .slice a83 n84 c85) rfl) rfl ?_
        refine wl_nil ?_
        refine hK78 _ _ ?_
        refine w_seq fun K89 hK89 => ?_
        refine w_region ?_
        refine wl_val (g_move (v := .slice a2 n2 c2) rfl) rfl ?_
        refine wl_step rfl (g_call (vs := #[.slice a2 n2 c2]) CF29 (args1 rfl) (m_laws_toIntS_fn ((hp2.bel hB88).up hS87) hm)) ?_
        rintro _ w90 ⟨r93, a94, n95, c96, hm, rfl, hE91, hN92⟩
        have hS98 := hS87.call1 hE91 hN92
        have hB99 := hB88.trans (Ext.stp hE91 hS87.base)
        refine wl_val (g_assign (v := .slice a94 n95 c96) rfl) rfl ?_
        refine wl_nil ?_
        refine hK89 _ _ ?_
        refine w_seq fun K100 hK100 => ?_
        refine w_region ?_
        refine wl_val (g_move (v := .slice a68 n69 c70) rfl) rfl ?_
        refine wl_val (g_move (v := .slice a83 n84 c85) rfl) rfl ?_
        refine wl_val (g_move (v := .slice a94 n95 c96) rfl) rfl ?_
        refine wl_step rfl (g_call (vs := #[.slice a68 n69 c70, .slice a83 n84 c85, .slice a94 n95 c96]) CF47 (args3 rfl rfl rfl) (m_impl_IsCasting_fn (oT.vw hS98.g2 hS98.g3 he72) (oS.vw hS98.g1) (oS.vw hS98.g0) hm)) ?_
        rintro _ w101 ⟨r104, hm, rfl, hE102⟩
        have hB105 := hB99.trans (Ext.stp hE102 hS98.base)
        have hS106 := hS98.ext hE102
        refine wl_val (g_assign (v := .bool r104) rfl) rfl ?_
        refine wl_nil ?_
        refine hK100 _ _ ?_
        refine w_seq fun K107 hK107 => ?_
        refine w_seq fun K108 hK108 => ?_
        refine w_region ?_
        refine wl_val (g_move (v := .bool r104) rfl) rfl ?_
        refine wl_val (g_move (v := .bool r60) rfl) rfl ?_
        refine wl_val (g_neq_b (a := r104) (b := r60) UB rfl rfl) rfl ?_
        refine wl_nil ?_
        refine hK108 _ _ ?_
        refine w_condI (p := (r104) ≠ (r60)) (b := (decide ((r104) ≠ (r60)))) rfl decide_eq_true_iff (fun h109 => ?_) (fun h109 => ?_)
        · replace hm := hm.1 h109
          refine w_seq fun K110 hK110 => ?_
          refine w_region ?_
          refine wl_val (g_assign (v := .bool false) rfl) rfl ?_
          refine wl_nil ?_
          refine hK110 _ _ ?_
          refine w_ret ?_
          repeat first | with_reducible refine q_then ?_ | with_reducible refine q_block ?_
          exact ret1 rfl (by decide) ⟨_, hm, rfl, toExt hB105⟩
        · replace hm := hm.2 h109
          refine w_skip ?_
          refine hK107 _ _ ?_
          refine w_seq fun K111 hK111 => ?_
          refine w_seq fun K112 hK112 => ?_
          refine w_region ?_
          refine wl_val (g_move (v := .slice a68 n69 c70) rfl) rfl ?_
          refine wl_val (g_move (v := .slice a0 n0 c0) rfl) rfl ?_
          refine wl_step rfl (g_call (vs := #[.slice a0 n0 c0]) CF23 (args1 rfl) (m_laws_toPlayerS_fn ((hp0.bel hB105).up hS106) hm)) ?_
          rintro _ w113 ⟨r116, a117, n118, c119, y120, hm, he121, rfl, hE114, hN115⟩
          have hS125 := hS106.call2 hE114 hN115
          have hB126 := hB105.trans (Ext.stp hE114 hS106.base)
          refine wl_step rfl (g_call (vs := #[.slice a68 n69 c70, .slice a117 n118 c119]) CF25 (args2 rfl rfl) (m_laws_eqPlayerS_fn (oT.vw hS125.g4 hS125.g5 he72) (oT.vw hS125.g0 hS125.g1 he121) hm)) ?_
          rintro _ w127 ⟨r130, hm, rfl, hE128⟩
          have hB131 := hB126.trans (Ext.stp hE128 hS125.base)
          have hS132 := hS125.ext hE128
          refine wl_val (g_not (a := r130) rfl) rfl ?_
          refine wl_nil ?_
          refine hK112 _ _ ?_
          refine w_condI (p := ¬ (r130 = true)) (b := (!r130)) rfl (i_not Iff.rfl) (fun h133 => ?_) (fun h133 => ?_)
          · replace hm := hm.1 h133
            refine w_seq fun K134 hK134 => ?_
            refine w_region ?_
            refine wl_val (g_assign (v := .bool false) rfl) rfl ?_
            refine wl_nil ?_
            refine hK134 _ _ ?_
            refine w_ret ?_
            repeat first | with_reducible refine q_then ?_ | with_reducible refine q_block ?_
            exact ret1 rfl (by decide) ⟨_, hm, rfl, toExt hB131⟩
          · replace hm := hm.2 h133
            refine w_skip ?_
            refine hK111 _ _ ?_
            refine w_seq fun K135 hK135 => ?_
            refine w_seq fun K136 hK136 => ?_
            refine w_region ?_
            refine wl_val (g_move (v := .slice a83 n84 c85) rfl) rfl ?_
            refine wl_val (g_move (v := .slice a1 n1 c1) rfl) rfl ?_
            refine wl_step rfl (g_call (vs := #[.slice a1 n1 c1]) CF29 (args1 rfl) (m_laws_toIntS_fn ((hp1.bel hB131).up hS132) hm)) ?_
            rintro _ w137 ⟨r140, a141, n142, c143, hm, rfl, hE138, hN139⟩
            have hS145 := hS132.call1 hE138 hN139
            have hB146 := hB131.trans (Ext.stp hE138 hS132.base)
            refine wl_step rfl (g_call (vs := #[.slice a83 n84 c85, .slice a141 n142 c143]) CF31 (args2 rfl rfl) (m_laws_eqIntS_fn (oS.vw hS145.g4) (oS.vw hS145.g0) hm)) ?_
            rintro _ w147 ⟨r150, hm, rfl, hE148⟩
            have hB151 := hB146.trans (Ext.stp hE148 hS145.base)
            have hS152 := hS145.ext hE148
            refine wl_val (g_not (a := r150) rfl) rfl ?_
            refine wl_nil ?_
            refine hK136 _ _ ?_
            refine w_condI (p := ¬ (r150 = true)) (b := (!r150)) rfl (i_not Iff.rfl) (fun h153 => ?_) (fun h153 => ?_)
            · replace hm := hm.1 h153
              refine w_seq fun K154 hK154 => ?_
              refine w_region ?_
              refine wl_val (g_assign (v := .bool false) rfl) rfl ?_
              refine wl_nil ?_
              refine hK154 _ _ ?_
              refine w_ret ?_
              repeat first | with_reducible refine q_then ?_ | with_reducible refine q_block ?_
              exact ret1 rfl (by decide) ⟨_, hm, rfl, toExt hB151⟩
            · replace hm := hm.2 h153
              refine w_skip ?_
              refine hK135 _ _ ?_
              refine w_seq fun K155 hK155 => ?_
              refine w_seq fun K156 hK156 => ?_
              refine w_region ?_
              refine wl_val (g_move (v := .slice a94 n95 c96) rfl) rfl ?_
              refine wl_val (g_move (v := .slice a2 n2 c2) rfl) rfl ?_
              refine wl_step rfl (g_call (vs := #[.slice a2 n2 c2]) CF29 (args1 rfl) (m_laws_toIntS_fn ((hp2.bel hB151).up hS152) hm)) ?_
              rintro _ w157 ⟨r160, a161, n162, c163, hm, rfl, hE158, hN159⟩
              have hS165 := hS152.call1 hE158 hN159
              have hB166 := hB151.trans (Ext.stp hE158 hS152.base)
              refine wl_step rfl (g_call (vs := #[.slice a94 n95 c96, .slice a161 n162 c163]) CF31 (args2 rfl rfl) (m_laws_eqIntS_fn (oS.vw hS165.g4) (oS.vw hS165.g0) hm)) ?_
              rintro _ w167 ⟨r170, hm, rfl, hE168⟩
              have hB171 := hB166.trans (Ext.stp hE168 hS165.base)
              have hS172 := hS165.ext hE168
              refine wl_val (g_not (a := r170) rfl) rfl ?_
              refine wl_nil ?_
              refine hK156 _ _ ?_
              refine w_condI (p := ¬ (r170 = true)) (b := (!r170)) rfl (i_not Iff.rfl) (fun h173 => ?_) (fun h173 => ?_)
              · replace hm := hm.1 h173
                refine w_seq fun K174 hK174 => ?_
                refine w_region ?_
                refine wl_val (g_assign (v := .bool false) rfl) rfl ?_
                refine wl_nil ?_
                refine hK174 _ _ ?_
                refine w_ret ?_
                repeat first | with_reducible refine q_then ?_ | with_reducible refine q_block ?_
                exact ret1 rfl (by decide) ⟨_, hm, rfl, toExt hB171⟩
              · replace hm := hm.2 h173
                refine w_skip ?_
                refine hK155 _ _ ?_
                refine w_seq fun K175 hK175 => ?_
                refine w_region ?_
                refine wl_val (g_assign (v := .bool true) rfl) rfl ?_
                refine wl_nil ?_
                refine hK175 _ _ ?_
                refine w_ret ?_
                repeat first | with_reducible refine q_then ?_ | with_reducible refine q_block ?_
                exact ret1 rfl (by decide) ⟨_, hm, rfl, toExt hB171⟩

end Go.Proofs.Ythmlfpfebdnpcaa
