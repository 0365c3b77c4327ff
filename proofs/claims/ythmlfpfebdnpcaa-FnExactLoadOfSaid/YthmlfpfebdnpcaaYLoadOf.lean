/- The walks: the code does what its model says. Printed by a program (gen2.py). No statement of the claim stands here. -/
import Derived.Test.YthmlfpfebdnpcaaSop
import Derived.Test.YthmlfpfebdnpcaaFacts
import Derived.Test.YthmlfpfebdnpcaaME
import Derived.Test.YthmlfpfebdnpcaaWE1
import Derived.Test.YthmlfpfebdnpcaaWE2
namespace Go.Proofs.Ythmlfpfebdnpcaa
open Go Go.RowKit
set_option maxRecDepth 100000
theorem m_laws_FnExactLoadOf_fn {w : World} {a0 : Option Addr} {n0 c0 : Nat} {y0 : List PlayerD} {p0 : List PlayerC} {a1 : Option Addr} {n1 c1 : Nat} {p1 : List Int} {Q : Bool → Prop} (hp0 : Tv w.heap.size w a0 n0 c0 y0 p0) (hp1 : Vw w.heap.size w a1 n1 c1 p1) (hm : m_laws_FnExactLoadOf p0 p1 Q) :
    Fn Try.prog 8 #[.slice a0 n0 c0, .slice a1 n1 c1] w (fun v w' => ∃ (r0 : Bool), Q r0 ∧ v = .bool r0 ∧ Ext w w') := by
  unfold m_laws_FnExactLoadOf at hm
  have hB0 := Below.refl w.heap.size w
  have hS0 : Sep w w.heap.size [] := Sep.nil (Nat.le_refl _)
  refine fn_of_wp Try.func8 rfl (by kernel_rfl) (Nat.le_of_ble_eq_true rfl) ?_
  refine w_seq fun K1 hK1 => ?_
  refine w_region ?_
  refine wl_val (g_assign (v := .bool false) rfl) rfl ?_
  refine wl_nil ?_
  refine hK1 _ _ ?_
  refine w_seq fun K2 hK2 => ?_
  refine w_seq fun K3 hK3 => ?_
  refine w_region ?_
  refine wl_val (g_move (v := .slice a1 n1 c1) rfl) rfl ?_
  refine wl_val (q_len SL35 rfl (Vw.len (hp1.bel hB0))) rfl ?_
  refine wl_val (g_gtr (a := (p1.length : Int)) (b := 1048576) rfl rfl) rfl ?_
  refine wl_nil ?_
  refine hK3 _ _ ?_
  refine w_condI (p := (p1.length : Int) > 1048576) (b := (decide ((p1.length : Int) > 1048576))) rfl decide_eq_true_iff (fun h4 => ?_) (fun h4 => ?_)
  · replace hm := hm.1 h4
    refine w_seq fun K5 hK5 => ?_
    refine w_region ?_
    refine wl_val (g_assign (v := .bool true) rfl) rfl ?_
    refine wl_nil ?_
    refine hK5 _ _ ?_
    refine w_ret ?_
    repeat first | with_reducible refine q_then ?_ | with_reducible refine q_block ?_
    exact ret1 rfl (by decide) ⟨_, hm, rfl, toExt hB0⟩
  · replace hm := hm.2 h4
    refine w_skip ?_
    refine hK2 _ _ ?_
    refine w_seq fun K6 hK6 => ?_
    refine w_region ?_
    refine wl_val (g_assign (v := .int .i64 1048576) rfl) rfl ?_
    refine wl_nil ?_
    refine hK6 _ _ ?_
    refine w_seq fun K7 hK7 => ?_
    refine w_region ?_
    refine wl_val (g_move (v := .slice a0 n0 c0) rfl) rfl ?_
    refine wl_val (g_move (v := .int .i64 1048576) rfl) rfl ?_
    refine wl_step rfl (g_call (vs := #[.slice a0 n0 c0, .int .i64 1048576]) CF21 (args2 rfl rfl) (m_laws_szPlayerS_fn ((hp0.bel hB0).up hS0) 1048576 hm)) ?_
    rintro _ w8 ⟨r11, hm, rfl, hE9⟩
    have hB12 := hB0.trans (Ext.stp hE9 hS0.base)
    have hS13 := hS0.ext hE9
    refine wl_val (g_assign (v := .int .i64 r11) rfl) rfl ?_
    refine wl_nil ?_
    refine hK7 _ _ ?_
    refine w_seq fun K14 hK14 => ?_
    refine w_seq fun K15 hK15 => ?_
    refine w_region ?_
    refine wl_val (g_move (v := .int .i64 r11) rfl) rfl ?_
    refine wl_val (g_lss (a := r11) (b := 0) rfl rfl) rfl ?_
    refine wl_nil ?_
    refine hK15 _ _ ?_
    refine w_condI (p := r11 < 0) (b := (decide (r11 < 0))) rfl decide_eq_true_iff (fun h16 => ?_) (fun h16 => ?_)
    · replace hm := hm.1 h16
      refine w_seq fun K17 hK17 => ?_
      refine w_region ?_
      refine wl_val (g_assign (v := .bool true) rfl) rfl ?_
      refine wl_nil ?_
      refine hK17 _ _ ?_
      refine w_ret ?_
      repeat first | with_reducible refine q_then ?_ | with_reducible refine q_block ?_
      exact ret1 rfl (by decide) ⟨_, hm, rfl, toExt hB12⟩
    · replace hm := hm.2 h16
      refine w_skip ?_
      refine hK14 _ _ ?_
      refine w_seq fun K18 hK18 => ?_
      refine w_region ?_
      refine wl_val (g_move (v := .slice a0 n0 c0) rfl) rfl ?_
      refine wl_step rfl (g_call (vs := #[.slice a0 n0 c0]) CF23 (args1 rfl) (m_laws_toPlayerS_fn ((hp0.bel hB12).up hS13) hm)) ?_
      rintro _ w19 ⟨r22, a23, n24, c25, y26, hm, he27, rfl, hE20, hN21⟩
      have hS31 := hS13.call2 hE20 hN21
      have hB32 := hB12.trans (Ext.stp hE20 hS13.base)
      refine wl_val (g_move (v := .slice a1 n1 c1) rfl) rfl ?_
      refine wl_step rfl (g_call (vs := #[.slice a1 n1 c1]) CF29 (args1 rfl) (m_laws_toIntS_fn ((hp1.bel hB32).up hS31) hm)) ?_
      rintro _ w33 ⟨r36, a37, n38, c39, hm, rfl, hE34, hN35⟩
      have hS41 := hS31.call1 hE34 hN35
      have hB42 := hB32.trans (Ext.stp hE34 hS31.base)
      refine wl_step rfl (g_call (vs := #[.slice a23 n24 c25, .slice a37 n38 c39]) CF34 (args2 rfl rfl) (m_spec_LoadOf_fn (oT.vw hS41.g1 hS41.g2 he27) (oS.vw hS41.g0) hm)) ?_
      rintro _ w43 ⟨r46, a47, n48, c49, hm, rfl, hE44, hN45⟩
      have hS51 := hS41.call1 hE44 hN45
      have hB52 := hB42.trans (Ext.stp hE44 hS41.base)
      refine wl_val (g_assign (v := .slice a47 n48 c49) rfl) rfl ?_
      refine wl_nil ?_
      refine hK18 _ _ ?_
      refine w_seq fun K53 hK53 => ?_
      refine w_region ?_
      refine wl_val (g_move (v := .slice a0 n0 c0) rfl) rfl ?_
      refine wl_step rfl (g_call (vs := #[.slice a0 n0 c0]) CF23 (args1 rfl) (m_laws_toPlayerS_fn ((hp0.bel hB52).up hS51) hm)) ?_
      rintro _ w54 ⟨r57, a58, n59, c60, y61, hm, he62, rfl, hE55, hN56⟩
      have hS66 := hS51.call2 hE55 hN56
      have hB67 := hB52.trans (Ext.stp hE55 hS51.base)
      refine wl_val (g_assign (v := .slice a58 n59 c60) rfl) rfl ?_
      refine wl_nil ?_
      refine hK53 _ _ ?_
      refine w_seq fun K68 hK68 => ?_
      refine w_region ?_
      refine wl_val (g_move (v := .slice a1 n1 c1) rfl) rfl ?_
      refine wl_step rfl (g_call (vs := #[.slice a1 n1 c1]) CF29 (args1 rfl) (m_laws_toIntS_fn ((hp1.bel hB67).up hS66) hm)) ?_
      rintro _ w69 ⟨r72, a73, n74, c75, hm, rfl, hE70, hN71⟩
      have hS77 := hS66.call1 hE70 hN71
      have hB78 := hB67.trans (Ext.stp hE70 hS66.base)
      refine wl_val (g_assign (v := .slice a73 n74 c75) rfl) rfl ?_
      refine wl_nil ?_
      refine hK68 _ _ ?_
      refine w_seq fun K79 hK79 => ?_
      refine w_region ?_
      refine wl_val (g_move (v := .slice a58 n59 c60) rfl) rfl ?_
      refine wl_val (g_move (v := .slice a73 n74 c75) rfl) rfl ?_
      refine wl_step rfl (g_call (vs := #[.slice a58 n59 c60, .slice a73 n74 c75]) CF35 (args2 rfl rfl) (m_impl_LoadOf_fn (oT.vw hS77.g1 hS77.g2 he62) (oS.vw hS77.g0) hm)) ?_
      rintro _ w80 ⟨r83, a84, n85, c86, hm, rfl, hE81, hN82⟩
      have hS88 := hS77.call1 hE81 hN82
      have hB89 := hB78.trans (Ext.stp hE81 hS77.base)
      refine wl_val (g_assign (v := .slice a84 n85 c86) rfl) rfl ?_
      refine wl_nil ?_
      refine hK79 _ _ ?_
      refine w_seq fun K90 hK90 => ?_
      refine w_seq fun K91 hK91 => ?_
      refine w_region ?_
      refine wl_val (g_move (v := .slice a84 n85 c86) rfl) rfl ?_
      refine wl_val (g_move (v := .slice a47 n48 c49) rfl) rfl ?_
      refine wl_step rfl (g_call (vs := #[.slice a84 n85 c86, .slice a47 n48 c49]) CF31 (args2 rfl rfl) (m_laws_eqIntS_fn (oS.vw hS88.g0) (oS.vw hS88.g4) hm)) ?_
      rintro _ w92 ⟨r95, hm, rfl, hE93⟩
      have hB96 := hB89.trans (Ext.stp hE93 hS88.base)
      have hS97 := hS88.ext hE93
      refine wl_val (g_not (a := r95) rfl) rfl ?_
      refine wl_nil ?_
      refine hK91 _ _ ?_
      refine w_condI (p := ¬ (r95 = true)) (b := (!r95)) rfl (i_not Iff.rfl) (fun h98 => ?_) (fun h98 => ?_)
      · replace hm := hm.1 h98
        refine w_seq fun K99 hK99 => ?_
        refine w_region ?_
        refine wl_val (g_assign (v := .bool false) rfl) rfl ?_
        refine wl_nil ?_
        refine hK99 _ _ ?_
        refine w_ret ?_
        repeat first | with_reducible refine q_then ?_ | with_reducible refine q_block ?_
        exact ret1 rfl (by decide) ⟨_, hm, rfl, toExt hB96⟩
      · replace hm := hm.2 h98
        refine w_skip ?_
        refine hK90 _ _ ?_
        refine w_seq fun K100 hK100 => ?_
        refine w_seq fun K101 hK101 => ?_
        refine w_region ?_
        refine wl_val (g_move (v := .slice a58 n59 c60) rfl) rfl ?_
        refine wl_val (g_move (v := .slice a0 n0 c0) rfl) rfl ?_
        refine wl_step rfl (g_call (vs := #[.slice a0 n0 c0]) CF23 (args1 rfl) (m_laws_toPlayerS_fn ((hp0.bel hB96).up hS97) hm)) ?_
        rintro _ w102 ⟨r105, a106, n107, c108, y109, hm, he110, rfl, hE103, hN104⟩
        have hS114 := hS97.call2 hE103 hN104
        have hB115 := hB96.trans (Ext.stp hE103 hS97.base)
        refine wl_step rfl (g_call (vs := #[.slice a58 n59 c60, .slice a106 n107 c108]) CF25 (args2 rfl rfl) (m_laws_eqPlayerS_fn (oT.vw hS114.g4 hS114.g5 he62) (oT.vw hS114.g0 hS114.g1 he110) hm)) ?_
        rintro _ w116 ⟨r119, hm, rfl, hE117⟩
        have hB120 := hB115.trans (Ext.stp hE117 hS114.base)
        have hS121 := hS114.ext hE117
        refine wl_val (g_not (a := r119) rfl) rfl ?_
        refine wl_nil ?_
        refine hK101 _ _ ?_
        refine w_condI (p := ¬ (r119 = true)) (b := (!r119)) rfl (i_not Iff.rfl) (fun h122 => ?_) (fun h122 => ?_)
        · replace hm := hm.1 h122
          refine w_seq fun K123 hK123 => ?_
          refine w_region ?_
          refine wl_val (g_assign (v := .bool false) rfl) rfl ?_
          refine wl_nil ?_
          refine hK123 _ _ ?_
          refine w_ret ?_
          repeat first | with_reducible refine q_then ?_ | with_reducible refine q_block ?_
          exact ret1 rfl (by decide) ⟨_, hm, rfl, toExt hB120⟩
        · replace hm := hm.2 h122
          refine w_skip ?_
          refine hK100 _ _ ?_
          refine w_seq fun K124 hK124 => ?_
          refine w_seq fun K125 hK125 => ?_
          refine w_region ?_
          refine wl_val (g_move (v := .slice a73 n74 c75) rfl) rfl ?_
          refine wl_val (g_move (v := .slice a1 n1 c1) rfl) rfl ?_
          refine wl_step rfl (g_call (vs := #[.slice a1 n1 c1]) CF29 (args1 rfl) (m_laws_toIntS_fn ((hp1.bel hB120).up hS121) hm)) ?_
          rintro _ w126 ⟨r129, a130, n131, c132, hm, rfl, hE127, hN128⟩
          have hS134 := hS121.call1 hE127 hN128
          have hB135 := hB120.trans (Ext.stp hE127 hS121.base)
          refine wl_step rfl (g_call (vs := #[.slice a73 n74 c75, .slice a130 n131 c132]) CF31 (args2 rfl rfl) (m_laws_eqIntS_fn (oS.vw hS134.g4) (oS.vw hS134.g0) hm)) ?_
          rintro _ w136 ⟨r139, hm, rfl, hE137⟩
          have hB140 := hB135.trans (Ext.stp hE137 hS134.base)
          have hS141 := hS134.ext hE137
          refine wl_val (g_not (a := r139) rfl) rfl ?_
          refine wl_nil ?_
          refine hK125 _ _ ?_
          refine w_condI (p := ¬ (r139 = true)) (b := (!r139)) rfl (i_not Iff.rfl) (fun h142 => ?_) (fun h142 => ?_)
          · replace hm := hm.1 h142
            refine w_seq fun K143 hK143 => ?_
            refine w_region ?_
            refine wl_val (g_assign (v := .bool false) rfl) rfl ?_
            refine wl_nil ?_
            refine hK143 _ _ ?_
            refine w_ret ?_
            repeat first | with_reducible refine q_then ?_ | with_reducible refine q_block ?_
            exact ret1 rfl (by decide) ⟨_, hm, rfl, toExt hB140⟩
          · replace hm := hm.2 h142
            refine w_skip ?_
            refine hK124 _ _ ?_
            refine w_seq fun K144 hK144 => ?_
            refine w_region ?_
            refine wl_val (g_assign (v := .int .i64 1) rfl) rfl ?_
            refine wl_nil ?_
            refine hK144 _ _ ?_
            refine w_seq fun K145 hK145 => ?_
            refine w_region ?_
            refine wl_val (g_move (v := .slice a58 n59 c60) rfl) rfl ?_
            refine wl_val (g_move (v := .int .i64 1) rfl) rfl ?_
            have hS146 := hS141.f6
            have hS147 := hS146.f6
            refine wl_step rfl (g_call (vs := #[.slice a58 n59 c60, .int .i64 1]) CF36 (args2 rfl rfl) (m_laws_markPlayerS_fn hS147 he62 1 hm)) ?_
            rintro _ w148 ⟨r151, x152, y153, hm, he154, rfl, hb149, hS150⟩
            have hB155 := hB140.trans hb149
            refine wl_val (g_assign (v := .int .i64 r151) rfl) rfl ?_
            refine wl_nil ?_
            refine hK145 _ _ ?_
            refine w_seq fun K156 hK156 => ?_
            refine w_region ?_
            refine wl_val (g_move (v := .slice a73 n74 c75) rfl) rfl ?_
            refine wl_val (g_move (v := .int .i64 r151) rfl) rfl ?_
            have hS157 := hS150.f6
            refine wl_step rfl (g_call (vs := #[.slice a73 n74 c75, .int .i64 r151]) CF37 (args2 rfl rfl) (m_laws_markIntS_fn hS157 r151 hm)) ?_
            rintro _ w158 ⟨r161, x162, hm, rfl, hb159, hS160⟩
            have hB163 := hB155.trans hb159
            refine wl_val (g_assign (v := .int .i64 r161) rfl) rfl ?_
            refine wl_nil ?_
            refine hK156 _ _ ?_
            refine w_seq fun K164 hK164 => ?_
            refine w_seq fun K165 hK165 => ?_
            refine w_region ?_
            refine wl_val (g_move (v := .int .i64 r161) rfl) rfl ?_
            refine wl_val (g_lss (a := r161) (b := 0) rfl rfl) rfl ?_
            refine wl_val (g_move (v := .bool (decide (r161 < 0))) rfl) rfl ?_
            refine wl_guard (c := (decide (r161 < 0)) = false) (val := .slice a84 n85 c86) (b := ((decide (r161 < 0)) == false)) (gv_some rfl rfl rfl) beq_iff_eq (fun hc166 => ?_) ?_
            · have hq0 : ¬ (r161 < 0) := (i_neg decide_eq_true_iff hc166)
              exact g_move (v := .slice a84 n85 c86) rfl
            refine wl_guard (c := (decide (r161 < 0)) = false) (val := .slice a47 n48 c49) (b := ((decide (r161 < 0)) == false)) (gv_some rfl rfl rfl) beq_iff_eq (fun hc167 => ?_) ?_
            · have hq0 : ¬ (r161 < 0) := (i_neg decide_eq_true_iff hc167)
              exact g_move (v := .slice a47 n48 c49) rfl
            obtain ⟨r169, hk170, hm⟩ := hm
            refine wl_guardE (X := Ext) (c := (decide (r161 < 0)) = false) (val := .bool r169) (Ext.refl _) (b := ((decide (r161 < 0)) == false)) (gv_some rfl rfl rfl) beq_iff_eq (fun hc168 => ?_) (fun w171 hE172 => ?_)
            · have hq0 : ¬ (r161 < 0) := (i_neg decide_eq_true_iff hc168)
              exact (g_call (vs := #[.slice a84 n85 c86, .slice a47 n48 c49]) CF31 (args2 (if_pos hc168) (if_pos hc168)) ((m_laws_eqIntS_fn (oS.vw hS160.g6) (oS.vw hS160.g7) (hk170 hq0)).mono fun _ _ ⟨_, h1, h2, h3⟩ => ⟨by rw [h2, h1], h3⟩))
            have hB173 := hB163.trans (Ext.stp hE172 hS160.base)
            have hS174 := hS160.ext hE172
            refine wl_guard (c := (decide (r161 < 0)) = false) (val := .bool (!r169)) (b := ((decide (r161 < 0)) == false)) (gv_some rfl rfl rfl) beq_iff_eq (fun hc175 => ?_) ?_
            · have hq0 : ¬ (r161 < 0) := (i_neg decide_eq_true_iff hc175)
              exact g_not (a := r169) (if_pos hc175)
            refine wl_val (g_pick_or (b := (decide (r161 < 0))) (q := (!r169)) rfl rfl) rfl ?_
            refine wl_nil ?_
            refine hK165 _ _ ?_
            refine w_condI (p := ((r161 < 0) ∨ (¬ (r169 = true)))) (b := ((decide (r161 < 0)) || (!r169))) rfl (i_or decide_eq_true_iff (i_not Iff.rfl)) (fun h176 => ?_) (fun h176 => ?_)
            · replace hm := hm.1 h176
              refine w_seq fun K177 hK177 => ?_
              refine w_region ?_
              refine wl_val (g_assign (v := .bool false) rfl) rfl ?_
              refine wl_nil ?_
              refine hK177 _ _ ?_
              refine w_ret ?_
              repeat first | with_reducible refine q_then ?_ | with_reducible refine q_block ?_
              exact ret1 rfl (by decide) ⟨_, hm, rfl, toExt hB173⟩
            · replace hm := hm.2 h176
              refine w_skip ?_
              refine hK164 _ _ ?_
              refine w_seq fun K178 hK178 => ?_
              refine w_region ?_
              refine wl_val (g_assign (v := .int .i64 1) rfl) rfl ?_
              refine wl_nil ?_
              refine hK178 _ _ ?_
              refine w_seq fun K179 hK179 => ?_
              refine w_region ?_
              refine wl_val (g_move (v := .slice a84 n85 c86) rfl) rfl ?_
              refine wl_val (g_move (v := .int .i64 1) rfl) rfl ?_
              have hS180 := hS174.f6
              refine wl_step rfl (g_call (vs := #[.slice a84 n85 c86, .int .i64 1]) CF37 (args2 rfl rfl) (m_laws_markIntS_fn hS180 1 hm)) ?_
              rintro _ w181 ⟨r184, x185, hm, rfl, hb182, hS183⟩
              have hB186 := hB173.trans hb182
              refine wl_val (g_assign (v := .int .i64 r184) rfl) rfl ?_
              refine wl_nil ?_
              refine hK179 _ _ ?_
              refine w_seq fun K187 hK187 => ?_
              refine w_region ?_
              refine wl_val (g_assign (v := .int .i64 1) rfl) rfl ?_
              refine wl_nil ?_
              refine hK187 _ _ ?_
              refine w_seq fun K188 hK188 => ?_
              refine w_region ?_
              refine wl_val (g_move (v := .slice a84 n85 c86) rfl) rfl ?_
              refine wl_val (g_move (v := .int .i64 1) rfl) rfl ?_
              refine wl_step rfl (g_call (vs := #[.slice a84 n85 c86, .int .i64 1]) CF38 (args2 rfl rfl) (m_laws_heldIntS_fn (oS.vw hS183.g0) 1 hm)) ?_
              rintro _ w189 ⟨r192, hm, rfl, hE190⟩
              have hB193 := hB186.trans (Ext.stp hE190 hS183.base)
              have hS194 := hS183.ext hE190
              refine wl_val (g_assign (v := .int .i64 r192) rfl) rfl ?_
              refine wl_nil ?_
              refine hK188 _ _ ?_
              refine w_seq fun K195 hK195 => ?_
              refine w_seq fun K196 hK196 => ?_
              refine w_region ?_
              refine wl_val (g_move (v := .int .i64 r192) rfl) rfl ?_
              refine wl_val (g_lss (a := r192) (b := 0) rfl rfl) rfl ?_
              refine wl_nil ?_
              refine hK196 _ _ ?_
              refine w_condI (p := r192 < 0) (b := (decide (r192 < 0))) rfl decide_eq_true_iff (fun h197 => ?_) (fun h197 => ?_)
              · replace hm := hm.1 h197
                refine w_seq fun K198 hK198 => ?_
                refine w_region ?_
                refine wl_val (g_assign (v := .bool false) rfl) rfl ?_
                refine wl_nil ?_
                refine hK198 _ _ ?_
                refine w_ret ?_
                repeat first | with_reducible refine q_then ?_ | with_reducible refine q_block ?_
                exact ret1 rfl (by decide) ⟨_, hm, rfl, toExt hB193⟩
              · replace hm := hm.2 h197
                refine w_skip ?_
                refine hK195 _ _ ?_
                refine w_seq fun K199 hK199 => ?_
                refine w_seq fun K200 hK200 => ?_
                refine w_region ?_
                refine wl_val (g_move (v := .int .i64 r192) rfl) rfl ?_
                refine wl_val (g_move (v := .int .i64 r184) rfl) rfl ?_
                refine wl_val (g_neq (a := r192) (b := r184) rfl rfl) rfl ?_
                refine wl_nil ?_
                refine hK200 _ _ ?_
                refine w_condI (p := r192 ≠ r184) (b := (decide (r192 ≠ r184))) rfl decide_eq_true_iff (fun h201 => ?_) (fun h201 => ?_)
                · replace hm := hm.1 h201
                  refine w_seq fun K202 hK202 => ?_
                  refine w_region ?_
                  refine wl_val (g_assign (v := .bool false) rfl) rfl ?_
                  refine wl_nil ?_
                  refine hK202 _ _ ?_
                  refine w_ret ?_
                  repeat first | with_reducible refine q_then ?_ | with_reducible refine q_block ?_
                  exact ret1 rfl (by decide) ⟨_, hm, rfl, toExt hB193⟩
                · replace hm := hm.2 h201
                  refine w_skip ?_
                  refine hK199 _ _ ?_
                  refine w_seq fun K203 hK203 => ?_
                  refine w_region ?_
                  refine wl_val (g_move (v := .slice a0 n0 c0) rfl) rfl ?_
                  refine wl_step rfl (g_call (vs := #[.slice a0 n0 c0]) CF23 (args1 rfl) (m_laws_toPlayerS_fn ((hp0.bel hB193).up hS194) hm)) ?_
                  rintro _ w204 ⟨r207, a208, n209, c210, y211, hm, he212, rfl, hE205, hN206⟩
                  have hS216 := hS194.call2 hE205 hN206
                  have hB217 := hB193.trans (Ext.stp hE205 hS194.base)
                  refine wl_val (g_move (v := .slice a1 n1 c1) rfl) rfl ?_
                  refine wl_step rfl (g_call (vs := #[.slice a1 n1 c1]) CF29 (args1 rfl) (m_laws_toIntS_fn ((hp1.bel hB217).up hS216) hm)) ?_
                  rintro _ w218 ⟨r221, a222, n223, c224, hm, rfl, hE219, hN220⟩
                  have hS226 := hS216.call1 hE219 hN220
                  have hB227 := hB217.trans (Ext.stp hE219 hS216.base)
                  refine wl_step rfl (g_call (vs := #[.slice a208 n209 c210, .slice a222 n223 c224]) CF35 (args2 rfl rfl) (m_impl_LoadOf_fn (oT.vw hS226.g1 hS226.g2 he212) (oS.vw hS226.g0) hm)) ?_
                  rintro _ w228 ⟨r231, a232, n233, c234, hm, rfl, hE229, hN230⟩
                  have hS236 := hS226.call1 hE229 hN230
                  have hB237 := hB227.trans (Ext.stp hE229 hS226.base)
                  refine wl_val (g_assign (v := .slice a232 n233 c234) rfl) rfl ?_
                  refine wl_nil ?_
                  refine hK203 _ _ ?_
                  refine w_seq fun K238 hK238 => ?_
                  refine w_seq fun K239 hK239 => ?_
                  refine w_region ?_
                  refine wl_val (g_move (v := .slice a232 n233 c234) rfl) rfl ?_
                  refine wl_val (g_move (v := .slice a47 n48 c49) rfl) rfl ?_
                  refine wl_step rfl (g_call (vs := #[.slice a232 n233 c234, .slice a47 n48 c49]) CF31 (args2 rfl rfl) (m_laws_eqIntS_fn (oS.vw hS236.g0) (oS.vw hS236.g11) hm)) ?_
                  rintro _ w240 ⟨r243, hm, rfl, hE241⟩
                  have hB244 := hB237.trans (Ext.stp hE241 hS236.base)
                  have hS245 := hS236.ext hE241
                  refine wl_val (g_not (a := r243) rfl) rfl ?_
                  refine wl_nil ?_
                  refine hK239 _ _ ?_
                  refine w_condI (p := ¬ (r243 = true)) (b := (!r243)) rfl (i_not Iff.rfl) (fun h246 => ?_) (fun h246 => ?_)
                  · replace hm := hm.1 h246
                    refine w_seq fun K247 hK247 => ?_
                    refine w_region ?_
                    refine wl_val (g_assign (v := .bool false) rfl) rfl ?_
                    refine wl_nil ?_
                    refine hK247 _ _ ?_
                    refine w_ret ?_
                    repeat first | with_reducible refine q_then ?_ | with_reducible refine q_block ?_
                    exact ret1 rfl (by decide) ⟨_, hm, rfl, toExt hB244⟩
                  · replace hm := hm.2 h246
                    refine w_skip ?_
                    refine hK238 _ _ ?_
                    refine w_seq fun K248 hK248 => ?_
                    refine w_region ?_
                    refine wl_val (g_assign (v := .int .i64 1) rfl) rfl ?_
                    refine wl_nil ?_
                    refine hK248 _ _ ?_
                    refine w_seq fun K249 hK249 => ?_
                    refine w_region ?_
                    refine wl_val (g_move (v := .slice a84 n85 c86) rfl) rfl ?_
                    refine wl_val (g_move (v := .int .i64 1) rfl) rfl ?_
                    refine wl_step rfl (g_call (vs := #[.slice a84 n85 c86, .int .i64 1]) CF38 (args2 rfl rfl) (m_laws_heldIntS_fn (oS.vw hS245.g4) 1 hm)) ?_
                    rintro _ w250 ⟨r253, hm, rfl, hE251⟩
                    have hB254 := hB244.trans (Ext.stp hE251 hS245.base)
                    have hS255 := hS245.ext hE251
                    refine wl_val (g_assign (v := .int .i64 r253) rfl) rfl ?_
                    refine wl_nil ?_
                    refine hK249 _ _ ?_
                    refine w_seq fun K256 hK256 => ?_
                    refine w_seq fun K257 hK257 => ?_
                    refine w_region ?_
                    refine wl_val (g_move (v := .int .i64 r253) rfl) rfl ?_
                    refine wl_val (g_lss (a := r253) (b := 0) rfl rfl) rfl ?_
                    refine wl_nil ?_
                    refine hK257 _ _ ?_
                    refine w_condI (p := r253 < 0) (b := (decide (r253 < 0))) rfl decide_eq_true_iff (fun h258 => ?_) (fun h258 => ?_)
                    · replace hm := hm.1 h258
                      refine w_seq fun K259 hK259 => ?_
                      refine w_region ?_
                      refine wl_val (g_assign (v := .bool false) rfl) rfl ?_
                      refine wl_nil ?_
                      refine hK259 _ _ ?_
                      refine w_ret ?_
                      repeat first | with_reducible refine q_then ?_ | with_reducible refine q_block ?_
                      exact ret1 rfl (by decide) ⟨_, hm, rfl, toExt hB254⟩
                    · replace hm := hm.2 h258
                      refine w_skip ?_
                      refine hK256 _ _ ?_
                      refine w_seq fun K260 hK260 => ?_
                      refine w_seq fun K261 hK261 => ?_
                      refine w_region ?_
                      refine wl_val (g_move (v := .int .i64 r253) rfl) rfl ?_
                      refine wl_val (g_move (v := .int .i64 r184) rfl) rfl ?_
                      refine wl_val (g_neq (a := r253) (b := r184) rfl rfl) rfl ?_
                      refine wl_nil ?_
                      refine hK261 _ _ ?_
                      refine w_condI (p := r253 ≠ r184) (b := (decide (r253 ≠ r184))) rfl decide_eq_true_iff (fun h262 => ?_) (fun h262 => ?_)
                      · replace hm := hm.1 h262
                        refine w_seq fun K263 hK263 => ?_
                        refine w_region ?_
                        refine wl_val (g_assign (v := .bool false) rfl) rfl ?_
                        refine wl_nil ?_
                        refine hK263 _ _ ?_
                        refine w_ret ?_
                        repeat first | with_reducible refine q_then ?_ | with_reducible refine q_block ?_
                        exact ret1 rfl (by decide) ⟨_, hm, rfl, toExt hB254⟩
                      · replace hm := hm.2 h262
                        refine w_skip ?_
                        refine hK260 _ _ ?_
                        refine w_seq fun K264 hK264 => ?_
                        refine w_region ?_
                        refine wl_val (g_assign (v := .bool true) rfl) rfl ?_
                        refine wl_nil ?_
                        refine hK264 _ _ ?_
                        refine w_ret ?_
                        repeat first | with_reducible refine q_then ?_ | with_reducible refine q_block ?_
                        exact ret1 rfl (by decide) ⟨_, hm, rfl, toExt hB254⟩

end Go.Proofs.Ythmlfpfebdnpcaa
