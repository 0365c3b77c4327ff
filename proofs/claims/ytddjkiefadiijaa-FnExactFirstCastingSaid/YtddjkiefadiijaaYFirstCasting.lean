/- The walks: the code does what its model says. Printed by a program (gen2.py). No statement of the claim stands here. -/
import Derived.Test.YtddjkiefadiijaaSop
import Derived.Test.YtddjkiefadiijaaFacts
import Derived.Test.YtddjkiefadiijaaMG
import Derived.Test.YtddjkiefadiijaaWG1
import Derived.Test.YtddjkiefadiijaaWG2
namespace Go.Proofs.Ytddjkiefadiijaa
open Go Go.RowKit
set_option maxRecDepth 100000
theorem m_laws_FnExactFirstCasting_fn {w : World} {a0 : Option Addr} {n0 c0 : Nat} {y0 : List PlayerD} {p0 : List PlayerC} {a1 : Option Addr} {n1 c1 : Nat} {p1 : List Int} {Q : Bool → Prop} (hp0 : Tv w.heap.size w a0 n0 c0 y0 p0) (hp1 : Vw w.heap.size w a1 n1 c1 p1) (hm : m_laws_FnExactFirstCasting p0 p1 Q) :
    Fn Try.prog 3 #[.slice a0 n0 c0, .slice a1 n1 c1] w (fun v w' => ∃ (r0 : Bool), Q r0 ∧ v = .bool r0 ∧ Ext w w') := by
  unfold m_laws_FnExactFirstCasting at hm
  have hB0 := Below.refl w.heap.size w
  have hS0 : Sep w w.heap.size [] := Sep.nil (Nat.le_refl _)
  refine fn_of_wp Try.func3 rfl (by kernel_rfl) (Nat.le_of_ble_eq_true rfl) ?_
  refine w_seq fun K1 hK1 => ?_
  refine w_region ?_
  refine wl_val (g_assign (v := .bool false) rfl) rfl ?_
  refine wl_nil ?_
  refine hK1 _ _ ?_
  refine w_seq fun K2 hK2 => ?_
  refine w_seq fun K3 hK3 => ?_
  refine w_region ?_
  refine wl_val (g_move (v := .slice a1 n1 c1) rfl) rfl ?_
  refine wl_val (q_len SL23 rfl (Vw.len (hp1.bel hB0))) rfl ?_
  refine wl_val (g_gtr (a := (p1.length : Int)) (b := 1048576) rfl rfl) rfl ?_
  refine wl_nil ?_
  refine hK3 _ _ ?_
  refine w_condI (p := (p1.length : Int) > 1048576) (b := (decide ((p1.length : Int) > 1048576))) rfl decide_eq_true_iff (fun h4 => ?_) (fun h4 => ?_)
  · replace hm := hm.1 h4
    refine w_seq fun K5 hK5 => ?_
    refine w_region ?_
    refine wl_val (g_assign (v := .bool true) rfl) rfl ?_
    refine wl_nil ?_
    refine hK5 _ _ ?_
    refine w_ret ?_
    repeat first | with_reducible refine q_then ?_ | with_reducible refine q_block ?_
    exact ret1 rfl (by decide) ⟨_, hm, rfl, toExt hB0⟩
  · replace hm := hm.2 h4
    refine w_skip ?_
    refine hK2 _ _ ?_
    refine w_seq fun K6 hK6 => ?_
    refine w_region ?_
    refine wl_val (g_assign (v := .int .i64 1048576) rfl) rfl ?_
    refine wl_nil ?_
    refine hK6 _ _ ?_
    refine w_seq fun K7 hK7 => ?_
    refine w_region ?_
    refine wl_val (g_move (v := .slice a0 n0 c0) rfl) rfl ?_
    refine wl_val (g_move (v := .int .i64 1048576) rfl) rfl ?_
    refine wl_step rfl (g_call (vs := #[.slice a0 n0 c0, .int .i64 1048576]) CF12 (args2 rfl rfl) (m_laws_szPlayerS_fn ((hp0.bel hB0).up hS0) 1048576 hm)) ?_
    rintro _ w8 ⟨r11, hm, rfl, hE9⟩
    have hB12 := hB0.trans (Ext.stp hE9 hS0.base)
    have hS13 := hS0.ext hE9
    refine wl_val (g_assign (v := .int .i64 r11) rfl) rfl ?_
    refine wl_nil ?_
    refine hK7 _ _ ?_
    refine w_seq fun K14 hK14 => ?_
    refine w_seq fun K15 hK15 => ?_
    refine w_region ?_
    refine wl_val (g_move (v := .int .i64 r11) rfl) rfl ?_
    refine wl_val (g_lss (a := r11) (b := 0) rfl rfl) rfl ?_
    refine wl_nil ?_
    refine hK15 _ _ ?_
    refine w_condI (p := r11 < 0) (b := (decide (r11 < 0))) rfl decide_eq_true_iff (fun h16 => ?_) (fun h16 => ?_)
    · replace hm := hm.1 h16
      refine w_seq fun K17 hK17 => ?_
      refine w_region ?_
      refine wl_val (g_assign (v := .bool true) rfl) rfl ?_
      refine wl_nil ?_
      refine hK17 _ _ ?_
      refine w_ret ?_
      repeat first | with_reducible refine q_then ?_ | with_reducible refine q_block ?_
      exact ret1 rfl (by decide) ⟨_, hm, rfl, toExt hB12⟩
    · replace hm := hm.2 h16
      refine w_skip ?_
      refine hK14 _ _ ?_
      refine w_seq fun K18 hK18 => ?_
      refine w_region ?_
      refine wl_val (g_move (v := .slice a0 n0 c0) rfl) rfl ?_
      refine wl_step rfl (g_call (vs := #[.slice a0 n0 c0]) CF14 (args1 rfl) (m_laws_toPlayerS_fn ((hp0.bel hB12).up hS13) hm)) ?_
      rintro _ w19 ⟨r22, a23, n24, c25, y26, hm, he27, rfl, hE20, hN21⟩
      have hS31 := hS13.call2 hE20 hN21
      have hB32 := hB12.trans (Ext.stp hE20 hS13.base)
      refine wl_val (g_move (v := .slice a1 n1 c1) rfl) rfl ?_
      refine wl_step rfl (g_call (vs := #[.slice a1 n1 c1]) CF15 (args1 rfl) (m_laws_toIntS_fn ((hp1.bel hB32).up hS31) hm)) ?_
      rintro _ w33 ⟨r36, a37, n38, c39, hm, rfl, hE34, hN35⟩
      have hS41 := hS31.call1 hE34 hN35
      have hB42 := hB32.trans (Ext.stp hE34 hS31.base)
      refine wl_step rfl (g_call (vs := #[.slice a23 n24 c25, .slice a37 n38 c39]) CF13 (args2 rfl rfl) (m_spec_FirstCasting_fn (oT.vw hS41.g1 hS41.g2 he27) (oS.vw hS41.g0) hm)) ?_
      rintro _ w43 ⟨r46, a47, n48, c49, r51, hm, rfl, hE44, hN45⟩
      have hS52 := hS41.call1 hE44 hN45
      have hB53 := hB42.trans (Ext.stp hE44 hS41.base)
      refine wl_val (g_move (v := .tuple #[.slice a47 n48 c49, .bool r51]) rfl) rfl ?_
      refine wl_val (g_extract (vs := #[.slice a47 n48 c49, .bool r51]) rfl rfl) rfl ?_
      refine wl_val (g_extract (vs := #[.slice a47 n48 c49, .bool r51]) rfl rfl) rfl ?_
      refine wl_val (g_assign (v := .slice a47 n48 c49) rfl) rfl ?_
      refine wl_val (g_assign (v := .bool r51) rfl) rfl ?_
      refine wl_nil ?_
      refine hK18 _ _ ?_
      refine w_seq fun K54 hK54 => ?_
      refine w_region ?_
      refine wl_val (g_move (v := .slice a0 n0 c0) rfl) rfl ?_
      refine wl_step rfl (g_call (vs := #[.slice a0 n0 c0]) CF14 (args1 rfl) (m_laws_toPlayerS_fn ((hp0.bel hB53).up hS52) hm)) ?_
      rintro _ w55 ⟨r58, a59, n60, c61, y62, hm, he63, rfl, hE56, hN57⟩
      have hS67 := hS52.call2 hE56 hN57
      have hB68 := hB53.trans (Ext.stp hE56 hS52.base)
      refine wl_val (g_assign (v := .slice a59 n60 c61) rfl) rfl ?_
      refine wl_nil ?_
      refine hK54 _ _ ?_
      refine w_seq fun K69 hK69 => ?_
      refine w_region ?_
      refine wl_val (g_move (v := .slice a1 n1 c1) rfl) rfl ?_
      refine wl_step rfl (g_call (vs := #[.slice a1 n1 c1]) CF15 (args1 rfl) (m_laws_toIntS_fn ((hp1.bel hB68).up hS67) hm)) ?_
      rintro _ w70 ⟨r73, a74, n75, c76, hm, rfl, hE71, hN72⟩
      have hS78 := hS67.call1 hE71 hN72
      have hB79 := hB68.trans (Ext.stp hE71 hS67.base)
      refine wl_val (g_assign (v := .slice a74 n75 c76) rfl) rfl ?_
      refine wl_nil ?_
      refine hK69 _ _ ?_
      refine w_seq fun K80 hK80 => ?_
      refine w_region ?_
      refine wl_val (g_move (v := .slice a59 n60 c61) rfl) rfl ?_
      refine wl_val (g_move (v := .slice a74 n75 c76) rfl) rfl ?_
      refine wl_step rfl (g_call (vs := #[.slice a59 n60 c61, .slice a74 n75 c76]) CF16 (args2 rfl rfl) (m_impl_FirstCasting_fn (oT.vw hS78.g1 hS78.g2 he63) (oS.vw hS78.g0) hm)) ?_
      rintro _ w81 ⟨r84, a85, n86, c87, r89, hm, rfl, hE82, hN83⟩
      have hS90 := hS78.call1 hE82 hN83
      have hB91 := hB79.trans (Ext.stp hE82 hS78.base)
      refine wl_val (g_move (v := .tuple #[.slice a85 n86 c87, .bool r89]) rfl) rfl ?_
      refine wl_val (g_extract (vs := #[.slice a85 n86 c87, .bool r89]) rfl rfl) rfl ?_
      refine wl_val (g_extract (vs := #[.slice a85 n86 c87, .bool r89]) rfl rfl) rfl ?_
      refine wl_val (g_assign (v := .slice a85 n86 c87) rfl) rfl ?_
      refine wl_val (g_assign (v := .bool r89) rfl) rfl ?_
      refine wl_nil ?_
      refine hK80 _ _ ?_
      refine w_seq fun K92 hK92 => ?_
      refine w_seq fun K93 hK93 => ?_
      refine w_region ?_
      refine wl_val (g_move (v := .slice a85 n86 c87) rfl) rfl ?_
      refine wl_val (g_move (v := .slice a47 n48 c49) rfl) rfl ?_
      refine wl_step rfl (g_call (vs := #[.slice a85 n86 c87, .slice a47 n48 c49]) CF17 (args2 rfl rfl) (m_laws_eqIntS_fn (oS.vw hS90.g0) (oS.vw hS90.g4) hm)) ?_
      rintro _ w94 ⟨r97, hm, rfl, hE95⟩
      have hB98 := hB91.trans (Ext.stp hE95 hS90.base)
      have hS99 := hS90.ext hE95
      refine wl_val (g_not (a := r97) rfl) rfl ?_
      refine wl_val (g_move (v := .bool (!r97)) rfl) rfl ?_
      refine wl_guard (c := (!r97) = false) (val := .bool r89) (b := ((!r97) == false)) (gv_some rfl rfl rfl) beq_iff_eq (fun hc100 => ?_) ?_
      · have hcq0 : ¬ (¬ (r97 = true)) := (i_neg (i_not Iff.rfl) hc100)
        exact g_move (v := .bool r89) rfl
      refine wl_guard (c := (!r97) = false) (val := .bool r51) (b := ((!r97) == false)) (gv_some rfl rfl rfl) beq_iff_eq (fun hc101 => ?_) ?_
      · have hcq0 : ¬ (¬ (r97 = true)) := (i_neg (i_not Iff.rfl) hc101)
        exact g_move (v := .bool r51) rfl
      refine wl_guard (c := (!r97) = false) (val := .bool (decide ((r89) ≠ (r51)))) (b := ((!r97) == false)) (gv_some rfl rfl rfl) beq_iff_eq (fun hc102 => ?_) ?_
      · have hcq0 : ¬ (¬ (r97 = true)) := (i_neg (i_not Iff.rfl) hc102)
        exact g_neq_b (a := r89) (b := r51) UB (if_pos hc102) (if_pos hc102)
      refine wl_val (g_pick_or (b := (!r97)) (q := (decide ((r89) ≠ (r51)))) rfl rfl) rfl ?_
      refine wl_nil ?_
      refine hK93 _ _ ?_
      refine w_condI (p := ((¬ (r97 = true)) ∨ ((r89) ≠ (r51)))) (b := ((!r97) || (decide ((r89) ≠ (r51))))) rfl (i_or (i_not Iff.rfl) decide_eq_true_iff) (fun h103 => ?_) (fun h103 => ?_)
      · replace hm := hm.1 h103
        refine w_seq fun K104 hK104 => ?_
        refine w_region ?_
        refine wl_val (g_assign (v := .bool false) rfl) rfl ?_
        refine wl_nil ?_
        refine hK104 _ _ ?_
        refine w_ret ?_
        repeat first | with_reducible refine q_then ?_ | with_reducible refine q_block ?_
        exact ret1 rfl (by decide) ⟨_, hm, rfl, toExt hB98⟩
      · replace hm := hm.2 h103
        refine w_skip ?_
        refine hK92 _ _ ?_
        refine w_seq fun K105 hK105 => ?_
        refine w_seq fun K106 hK106 => ?_
        refine w_region ?_
        refine wl_val (g_move (v := .slice a59 n60 c61) rfl) rfl ?_
        refine wl_val (g_move (v := .slice a0 n0 c0) rfl) rfl ?_
        refine wl_step rfl (g_call (vs := #[.slice a0 n0 c0]) CF14 (args1 rfl) (m_laws_toPlayerS_fn ((hp0.bel hB98).up hS99) hm)) ?_
        rintro _ w107 ⟨r110, a111, n112, c113, y114, hm, he115, rfl, hE108, hN109⟩
        have hS119 := hS99.call2 hE108 hN109
        have hB120 := hB98.trans (Ext.stp hE108 hS99.base)
        refine wl_step rfl (g_call (vs := #[.slice a59 n60 c61, .slice a111 n112 c113]) CF18 (args2 rfl rfl) (m_laws_eqPlayerS_fn (oT.vw hS119.g4 hS119.g5 he63) (oT.vw hS119.g0 hS119.g1 he115) hm)) ?_
        rintro _ w121 ⟨r124, hm, rfl, hE122⟩
        have hB125 := hB120.trans (Ext.stp hE122 hS119.base)
        have hS126 := hS119.ext hE122
        refine wl_val (g_not (a := r124) rfl) rfl ?_
        refine wl_nil ?_
        refine hK106 _ _ ?_
        refine w_condI (p := ¬ (r124 = true)) (b := (!r124)) rfl (i_not Iff.rfl) (fun h127 => ?_) (fun h127 => ?_)
        · replace hm := hm.1 h127
          refine w_seq fun K128 hK128 => ?_
          refine w_region ?_
          refine wl_val (g_assign (v := .bool false) rfl) rfl ?_
          refine wl_nil ?_
          refine hK128 _ _ ?_
          refine w_ret ?_
          repeat first | with_reducible refine q_then ?_ | with_reducible refine q_block ?_
          exact ret1 rfl (by decide) ⟨_, hm, rfl, toExt hB125⟩
        · replace hm := hm.2 h127
          refine w_skip ?_
          refine hK105 _ _ ?_
          refine w_seq fun K129 hK129 => ?_
          refine w_seq fun K130 hK130 => ?_
          refine w_region ?_
          refine wl_val (g_move (v := .slice a74 n75 c76) rfl) rfl ?_
          refine wl_val (g_move (v := .slice a1 n1 c1) rfl) rfl ?_
          refine wl_step rfl (g_call (vs := #[.slice a1 n1 c1]) CF15 (args1 rfl) (m_laws_toIntS_fn ((hp1.bel hB125).up hS126) hm)) ?_
          rintro _ w131 ⟨r134, a135, n136, c137, hm, rfl, hE132, hN133⟩
          have hS139 := hS126.call1 hE132 hN133
          have hB140 := hB125.trans (Ext.stp hE132 hS126.base)
          refine wl_step rfl (g_call (vs := #[.slice a74 n75 c76, .slice a135 n136 c137]) CF17 (args2 rfl rfl) (m_laws_eqIntS_fn (oS.vw hS139.g4) (oS.vw hS139.g0) hm)) ?_
          rintro _ w141 ⟨r144, hm, rfl, hE142⟩
          have hB145 := hB140.trans (Ext.stp hE142 hS139.base)
          have hS146 := hS139.ext hE142
          refine wl_val (g_not (a := r144) rfl) rfl ?_
          refine wl_nil ?_
          refine hK130 _ _ ?_
          refine w_condI (p := ¬ (r144 = true)) (b := (!r144)) rfl (i_not Iff.rfl) (fun h147 => ?_) (fun h147 => ?_)
          · replace hm := hm.1 h147
            refine w_seq fun K148 hK148 => ?_
            refine w_region ?_
            refine wl_val (g_assign (v := .bool false) rfl) rfl ?_
            refine wl_nil ?_
            refine hK148 _ _ ?_
            refine w_ret ?_
            repeat first | with_reducible refine q_then ?_ | with_reducible refine q_block ?_
            exact ret1 rfl (by decide) ⟨_, hm, rfl, toExt hB145⟩
          · replace hm := hm.2 h147
            refine w_skip ?_
            refine hK129 _ _ ?_
            refine w_seq fun K149 hK149 => ?_
            refine w_region ?_
            refine wl_val (g_assign (v := .int .i64 1) rfl) rfl ?_
            refine wl_nil ?_
            refine hK149 _ _ ?_
            refine w_seq fun K150 hK150 => ?_
            refine w_region ?_
            refine wl_val (g_move (v := .slice a59 n60 c61) rfl) rfl ?_
            refine wl_val (g_move (v := .int .i64 1) rfl) rfl ?_
            have hS151 := hS146.f6
            have hS152 := hS151.f6
            refine wl_step rfl (g_call (vs := #[.slice a59 n60 c61, .int .i64 1]) CF19 (args2 rfl rfl) (m_laws_markPlayerS_fn hS152 he63 1 hm)) ?_
            rintro _ w153 ⟨r156, x157, y158, hm, he159, rfl, hb154, hS155⟩
            have hB160 := hB145.trans hb154
            refine wl_val (g_assign (v := .int .i64 r156) rfl) rfl ?_
            refine wl_nil ?_
            refine hK150 _ _ ?_
            refine w_seq fun K161 hK161 => ?_
            refine w_region ?_
            refine wl_val (g_move (v := .slice a74 n75 c76) rfl) rfl ?_
            refine wl_val (g_move (v := .int .i64 r156) rfl) rfl ?_
            have hS162 := hS155.f6
            refine wl_step rfl (g_call (vs := #[.slice a74 n75 c76, .int .i64 r156]) CF20 (args2 rfl rfl) (m_laws_markIntS_fn hS162 r156 hm)) ?_
            rintro _ w163 ⟨r166, x167, hm, rfl, hb164, hS165⟩
            have hB168 := hB160.trans hb164
            refine wl_val (g_assign (v := .int .i64 r166) rfl) rfl ?_
            refine wl_nil ?_
            refine hK161 _ _ ?_
            refine w_seq fun K169 hK169 => ?_
            refine w_seq fun K170 hK170 => ?_
            refine w_region ?_
            refine wl_val (g_move (v := .int .i64 r166) rfl) rfl ?_
            refine wl_val (g_lss (a := r166) (b := 0) rfl rfl) rfl ?_
            refine wl_val (g_move (v := .bool (decide (r166 < 0))) rfl) rfl ?_
            refine wl_guard (c := (decide (r166 < 0)) = false) (val := .slice a85 n86 c87) (b := ((decide (r166 < 0)) == false)) (gv_some rfl rfl rfl) beq_iff_eq (fun hc171 => ?_) ?_
            · have hcq1 : ¬ (r166 < 0) := (i_neg decide_eq_true_iff hc171)
              exact g_move (v := .slice a85 n86 c87) rfl
            refine wl_guard (c := (decide (r166 < 0)) = false) (val := .slice a47 n48 c49) (b := ((decide (r166 < 0)) == false)) (gv_some rfl rfl rfl) beq_iff_eq (fun hc172 => ?_) ?_
            · have hcq1 : ¬ (r166 < 0) := (i_neg decide_eq_true_iff hc172)
              exact g_move (v := .slice a47 n48 c49) rfl
            obtain ⟨r174, hk175, hm⟩ := hm
            refine wl_guardE (X := Ext) (c := (decide (r166 < 0)) = false) (val := .bool r174) (Ext.refl _) (b := ((decide (r166 < 0)) == false)) (gv_some rfl rfl rfl) beq_iff_eq (fun hc173 => ?_) (fun w176 hE177 => ?_)
            · have hcq1 : ¬ (r166 < 0) := (i_neg decide_eq_true_iff hc173)
              exact (g_call (vs := #[.slice a85 n86 c87, .slice a47 n48 c49]) CF17 (args2 (if_pos hc173) (if_pos hc173)) ((m_laws_eqIntS_fn (oS.vw hS165.g6) (oS.vw hS165.g7) (hk175 hcq1)).mono fun _ _ ⟨_, h1, h2, h3⟩ => ⟨by rw [h2, h1], h3⟩))
            have hB178 := hB168.trans (Ext.stp hE177 hS165.base)
            have hS179 := hS165.ext hE177
            refine wl_guard (c := (decide (r166 < 0)) = false) (val := .bool (!r174)) (b := ((decide (r166 < 0)) == false)) (gv_some rfl rfl rfl) beq_iff_eq (fun hc180 => ?_) ?_
            · have hcq1 : ¬ (r166 < 0) := (i_neg decide_eq_true_iff hc180)
              exact g_not (a := r174) (if_pos hc180)
            refine wl_val (g_pick_or (b := (decide (r166 < 0))) (q := (!r174)) rfl rfl) rfl ?_
            refine wl_val (g_move (v := .bool ((decide (r166 < 0)) || (!r174))) rfl) rfl ?_
            refine wl_guard (c := ((decide (r166 < 0)) || (!r174)) = false) (val := .bool r89) (b := (((decide (r166 < 0)) || (!r174)) == false)) (gv_some rfl rfl rfl) beq_iff_eq (fun hc181 => ?_) ?_
            · have hcq2 : ¬ (((r166 < 0) ∨ (¬ (r174 = true)))) := (i_neg (i_or decide_eq_true_iff (i_not Iff.rfl)) hc181)
              exact g_move (v := .bool r89) rfl
            refine wl_guard (c := ((decide (r166 < 0)) || (!r174)) = false) (val := .bool r51) (b := (((decide (r166 < 0)) || (!r174)) == false)) (gv_some rfl rfl rfl) beq_iff_eq (fun hc182 => ?_) ?_
            · have hcq2 : ¬ (((r166 < 0) ∨ (¬ (r174 = true)))) := (i_neg (i_or decide_eq_true_iff (i_not Iff.rfl)) hc182)
              exact g_move (v := .bool r51) rfl
            refine wl_guard (c := ((decide (r166 < 0)) || (!r174)) = false) (val := .bool (decide ((r89) ≠ (r51)))) (b := (((decide (r166 < 0)) || (!r174)) == false)) (gv_some rfl rfl rfl) beq_iff_eq (fun hc183 => ?_) ?_
            · have hcq2 : ¬ (((r166 < 0) ∨ (¬ (r174 = true)))) := (i_neg (i_or decide_eq_true_iff (i_not Iff.rfl)) hc183)
              exact g_neq_b (a := r89) (b := r51) UB (if_pos hc183) (if_pos hc183)
            refine wl_val (g_pick_or (b := ((decide (r166 < 0)) || (!r174))) (q := (decide ((r89) ≠ (r51)))) rfl rfl) rfl ?_
            refine wl_nil ?_
            refine hK170 _ _ ?_
            refine w_condI (p := ((((r166 < 0) ∨ (¬ (r174 = true)))) ∨ ((r89) ≠ (r51)))) (b := (((decide (r166 < 0)) || (!r174)) || (decide ((r89) ≠ (r51))))) rfl (i_or (i_or decide_eq_true_iff (i_not Iff.rfl)) decide_eq_true_iff) (fun h184 => ?_) (fun h184 => ?_)
            · replace hm := hm.1 h184
              refine w_seq fun K185 hK185 => ?_
              refine w_region ?_
              refine wl_val (g_assign (v := .bool false) rfl) rfl ?_
              refine wl_nil ?_
              refine hK185 _ _ ?_
              refine w_ret ?_
              repeat first | with_reducible refine q_then ?_ | with_reducible refine q_block ?_
              exact ret1 rfl (by decide) ⟨_, hm, rfl, toExt hB178⟩
            · replace hm := hm.2 h184
              refine w_skip ?_
              refine hK169 _ _ ?_
              refine w_seq fun K186 hK186 => ?_
              refine w_region ?_
              refine wl_val (g_assign (v := .int .i64 1) rfl) rfl ?_
              refine wl_nil ?_
              refine hK186 _ _ ?_
              refine w_seq fun K187 hK187 => ?_
              refine w_region ?_
              refine wl_val (g_move (v := .slice a85 n86 c87) rfl) rfl ?_
              refine wl_val (g_move (v := .int .i64 1) rfl) rfl ?_
              have hS188 := hS179.f6
              refine wl_step rfl (g_call (vs := #[.slice a85 n86 c87, .int .i64 1]) CF20 (args2 rfl rfl) (m_laws_markIntS_fn hS188 1 hm)) ?_
              rintro _ w189 ⟨r192, x193, hm, rfl, hb190, hS191⟩
              have hB194 := hB178.trans hb190
              refine wl_val (g_assign (v := .int .i64 r192) rfl) rfl ?_
              refine wl_nil ?_
              refine hK187 _ _ ?_
              refine w_seq fun K195 hK195 => ?_
              refine w_region ?_
              refine wl_val (g_assign (v := .int .i64 1) rfl) rfl ?_
              refine wl_nil ?_
              refine hK195 _ _ ?_
              refine w_seq fun K196 hK196 => ?_
              refine w_region ?_
              refine wl_val (g_move (v := .slice a85 n86 c87) rfl) rfl ?_
              refine wl_val (g_move (v := .int .i64 1) rfl) rfl ?_
              refine wl_step rfl (g_call (vs := #[.slice a85 n86 c87, .int .i64 1]) CF21 (args2 rfl rfl) (m_laws_heldIntS_fn (oS.vw hS191.g0) 1 hm)) ?_
              rintro _ w197 ⟨r200, hm, rfl, hE198⟩
              have hB201 := hB194.trans (Ext.stp hE198 hS191.base)
              have hS202 := hS191.ext hE198
              refine wl_val (g_assign (v := .int .i64 r200) rfl) rfl ?_
              refine wl_nil ?_
              refine hK196 _ _ ?_
              refine w_seq fun K203 hK203 => ?_
              refine w_seq fun K204 hK204 => ?_
              refine w_region ?_
              refine wl_val (g_move (v := .int .i64 r200) rfl) rfl ?_
              refine wl_val (g_lss (a := r200) (b := 0) rfl rfl) rfl ?_
              refine wl_nil ?_
              refine hK204 _ _ ?_
              refine w_condI (p := r200 < 0) (b := (decide (r200 < 0))) rfl decide_eq_true_iff (fun h205 => ?_) (fun h205 => ?_)
              · replace hm := hm.1 h205
                refine w_seq fun K206 hK206 => ?_
                refine w_region ?_
                refine wl_val (g_assign (v := .bool false) rfl) rfl ?_
                refine wl_nil ?_
                refine hK206 _ _ ?_
                refine w_ret ?_
                repeat first | with_reducible refine q_then ?_ | with_reducible refine q_block ?_
                exact ret1 rfl (by decide) ⟨_, hm, rfl, toExt hB201⟩
              · replace hm := hm.2 h205
                refine w_skip ?_
                refine hK203 _ _ ?_
                refine w_seq fun K207 hK207 => ?_
                refine w_seq fun K208 hK208 => ?_
                refine w_region ?_
                refine wl_val (g_move (v := .int .i64 r200) rfl) rfl ?_
                refine wl_val (g_move (v := .int .i64 r192) rfl) rfl ?_
                refine wl_val (g_neq (a := r200) (b := r192) rfl rfl) rfl ?_
                refine wl_nil ?_
                refine hK208 _ _ ?_
                refine w_condI (p := r200 ≠ r192) (b := (decide (r200 ≠ r192))) rfl decide_eq_true_iff (fun h209 => ?_) (fun h209 => ?_)
                · replace hm := hm.1 h209
                  refine w_seq fun K210 hK210 => ?_
                  refine w_region ?_
                  refine wl_val (g_assign (v := .bool false) rfl) rfl ?_
                  refine wl_nil ?_
                  refine hK210 _ _ ?_
                  refine w_ret ?_
                  repeat first | with_reducible refine q_then ?_ | with_reducible refine q_block ?_
                  exact ret1 rfl (by decide) ⟨_, hm, rfl, toExt hB201⟩
                · replace hm := hm.2 h209
                  refine w_skip ?_
                  refine hK207 _ _ ?_
                  refine w_seq fun K211 hK211 => ?_
                  refine w_region ?_
                  refine wl_val (g_move (v := .slice a0 n0 c0) rfl) rfl ?_
                  refine wl_step rfl (g_call (vs := #[.slice a0 n0 c0]) CF14 (args1 rfl) (m_laws_toPlayerS_fn ((hp0.bel hB201).up hS202) hm)) ?_
                  rintro _ w212 ⟨r215, a216, n217, c218, y219, hm, he220, rfl, hE213, hN214⟩
                  have hS224 := hS202.call2 hE213 hN214
                  have hB225 := hB201.trans (Ext.stp hE213 hS202.base)
                  refine wl_val (g_move (v := .slice a1 n1 c1) rfl) rfl ?_
                  refine wl_step rfl (g_call (vs := #[.slice a1 n1 c1]) CF15 (args1 rfl) (m_laws_toIntS_fn ((hp1.bel hB225).up hS224) hm)) ?_
                  rintro _ w226 ⟨r229, a230, n231, c232, hm, rfl, hE227, hN228⟩
                  have hS234 := hS224.call1 hE227 hN228
                  have hB235 := hB225.trans (Ext.stp hE227 hS224.base)
                  refine wl_step rfl (g_call (vs := #[.slice a216 n217 c218, .slice a230 n231 c232]) CF16 (args2 rfl rfl) (m_impl_FirstCasting_fn (oT.vw hS234.g1 hS234.g2 he220) (oS.vw hS234.g0) hm)) ?_
                  rintro _ w236 ⟨r239, a240, n241, c242, r244, hm, rfl, hE237, hN238⟩
                  have hS245 := hS234.call1 hE237 hN238
                  have hB246 := hB235.trans (Ext.stp hE237 hS234.base)
                  refine wl_val (g_move (v := .tuple #[.slice a240 n241 c242, .bool r244]) rfl) rfl ?_
                  refine wl_val (g_extract (vs := #[.slice a240 n241 c242, .bool r244]) rfl rfl) rfl ?_
                  refine wl_val (g_extract (vs := #[.slice a240 n241 c242, .bool r244]) rfl rfl) rfl ?_
                  refine wl_val (g_assign (v := .slice a240 n241 c242) rfl) rfl ?_
                  refine wl_val (g_assign (v := .bool r244) rfl) rfl ?_
                  refine wl_nil ?_
                  refine hK211 _ _ ?_
                  refine w_seq fun K247 hK247 => ?_
                  refine w_seq fun K248 hK248 => ?_
                  refine w_region ?_
                  refine wl_val (g_move (v := .slice a240 n241 c242) rfl) rfl ?_
                  refine wl_val (g_move (v := .slice a47 n48 c49) rfl) rfl ?_
                  refine wl_step rfl (g_call (vs := #[.slice a240 n241 c242, .slice a47 n48 c49]) CF17 (args2 rfl rfl) (m_laws_eqIntS_fn (oS.vw hS245.g0) (oS.vw hS245.g11) hm)) ?_
                  rintro _ w249 ⟨r252, hm, rfl, hE250⟩
                  have hB253 := hB246.trans (Ext.stp hE250 hS245.base)
                  have hS254 := hS245.ext hE250
                  refine wl_val (g_not (a := r252) rfl) rfl ?_
                  refine wl_val (g_move (v := .bool (!r252)) rfl) rfl ?_
                  refine wl_guard (c := (!r252) = false) (val := .bool r244) (b := ((!r252) == false)) (gv_some rfl rfl rfl) beq_iff_eq (fun hc255 => ?_) ?_
                  · have hcq3 : ¬ (¬ (r252 = true)) := (i_neg (i_not Iff.rfl) hc255)
                    exact g_move (v := .bool r244) rfl
                  refine wl_guard (c := (!r252) = false) (val := .bool r51) (b := ((!r252) == false)) (gv_some rfl rfl rfl) beq_iff_eq (fun hc256 => ?_) ?_
                  · have hcq3 : ¬ (¬ (r252 = true)) := (i_neg (i_not Iff.rfl) hc256)
                    exact g_move (v := .bool r51) rfl
                  refine wl_guard (c := (!r252) = false) (val := .bool (decide ((r244) ≠ (r51)))) (b := ((!r252) == false)) (gv_some rfl rfl rfl) beq_iff_eq (fun hc257 => ?_) ?_
                  · have hcq3 : ¬ (¬ (r252 = true)) := (i_neg (i_not Iff.rfl) hc257)
                    exact g_neq_b (a := r244) (b := r51) UB (if_pos hc257) (if_pos hc257)
                  refine wl_val (g_pick_or (b := (!r252)) (q := (decide ((r244) ≠ (r51)))) rfl rfl) rfl ?_
                  refine wl_nil ?_
                  refine hK248 _ _ ?_
                  refine w_condI (p := ((¬ (r252 = true)) ∨ ((r244) ≠ (r51)))) (b := ((!r252) || (decide ((r244) ≠ (r51))))) rfl (i_or (i_not Iff.rfl) decide_eq_true_iff) (fun h258 => ?_) (fun h258 => ?_)
                  · replace hm := hm.1 h258
                    refine w_seq fun K259 hK259 => ?_
                    refine w_region ?_
                    refine wl_val (g_assign (v := .bool false) rfl) rfl ?_
                    refine wl_nil ?_
                    refine hK259 _ _ ?_
                    refine w_ret ?_
                    repeat first | with_reducible refine q_then ?_ | with_reducible refine q_block ?_
                    exact ret1 rfl (by decide) ⟨_, hm, rfl, toExt hB253⟩
                  · replace hm := hm.2 h258
                    refine w_skip ?_
                    refine hK247 _ _ ?_
                    refine w_seq fun K260 hK260 => ?_
                    refine w_region ?_
                    refine wl_val (g_assign (v := .int .i64 1) rfl) rfl ?_
                    refine wl_nil ?_
                    refine hK260 _ _ ?_
                    refine w_seq fun K261 hK261 => ?_
                    refine w_region ?_
                    refine wl_val (g_move (v := .slice a85 n86 c87) rfl) rfl ?_
                    refine wl_val (g_move (v := .int .i64 1) rfl) rfl ?_
                    refine wl_step rfl (g_call (vs := #[.slice a85 n86 c87, .int .i64 1]) CF21 (args2 rfl rfl) (m_laws_heldIntS_fn (oS.vw hS254.g4) 1 hm)) ?_
                    rintro _ w262 ⟨r265, hm, rfl, hE263⟩
                    have hB266 := hB253.trans (Ext.stp hE263 hS254.base)
                    have hS267 := hS254.ext hE263
                    refine wl_val (g_assign (v := .int .i64 r265) rfl) rfl ?_
                    refine wl_nil ?_
                    refine hK261 _ _ ?_
                    refine w_seq fun K268 hK268 => ?_
                    refine w_seq fun K269 hK269 => ?_
                    refine w_region ?_
                    refine wl_val (g_move (v := .int .i64 r265) rfl) rfl ?_
                    refine wl_val (g_lss (a := r265) (b := 0) rfl rfl) rfl ?_
                    refine wl_nil ?_
                    refine hK269 _ _ ?_
                    refine w_condI (p := r265 < 0) (b := (decide (r265 < 0))) rfl decide_eq_true_iff (fun h270 => ?_) (fun h270 => ?_)
                    · replace hm := hm.1 h270
                      refine w_seq fun K271 hK271 => ?_
                      refine w_region ?_
                      refine wl_val (g_assign (v := .bool false) rfl) rfl ?_
                      refine wl_nil ?_
                      refine hK271 _ _ ?_
                      refine w_ret ?_
                      repeat first | with_reducible refine q_then ?_ | with_reducible refine q_block ?_
                      exact ret1 rfl (by decide) ⟨_, hm, rfl, toExt hB266⟩
                    · replace hm := hm.2 h270
                      refine w_skip ?_
                      refine hK268 _ _ ?_
                      refine w_seq fun K272 hK272 => ?_
                      refine w_seq fun K273 hK273 => ?_
                      refine w_region ?_
                      refine wl_val (g_move (v := .int .i64 r265) rfl) rfl ?_
                      refine wl_val (g_move (v := .int .i64 r192) rfl) rfl ?_
                      refine wl_val (g_neq (a := r265) (b := r192) rfl rfl) rfl ?_
                      refine wl_nil ?_
                      refine hK273 _ _ ?_
                      refine w_condI (p := r265 ≠ r192) (b := (decide (r265 ≠ r192))) rfl decide_eq_true_iff (fun h274 => ?_) (fun h274 => ?_)
                      · replace hm := hm.1 h274
                        refine w_seq fun K275 hK275 => ?_
                        refine w_region ?_
                        refine wl_val (g_assign (v := .bool false) rfl) rfl ?_
                        refine wl_nil ?_
                        refine hK275 _ _ ?_
                        refine w_ret ?_
                        repeat first | with_reducible refine q_then ?_ | with_reducible refine q_block ?_
                        exact ret1 rfl (by decide) ⟨_, hm, rfl, toExt hB266⟩
                      · replace hm := hm.2 h274
                        refine w_skip ?_
                        refine hK272 _ _ ?_
                        refine w_seq fun K276 hK276 => ?_
                        refine w_region ?_
                        refine wl_val (g_assign (v := .bool true) rfl) rfl ?_
                        refine wl_nil ?_
                        refine hK276 _ _ ?_
                        refine w_ret ?_
                        repeat first | with_reducible refine q_then ?_ | with_reducible refine q_block ?_
                        exact ret1 rfl (by decide) ⟨_, hm, rfl, toExt hB266⟩

end Go.Proofs.Ytddjkiefadiijaa
