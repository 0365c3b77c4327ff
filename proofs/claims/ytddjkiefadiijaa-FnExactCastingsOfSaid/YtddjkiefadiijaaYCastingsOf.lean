/- The walks: the code does what its model says. Printed by a program (gen2.py). No statement of the claim stands here. -/
import Derived.Test.YtddjkiefadiijaaSop
import Derived.Test.YtddjkiefadiijaaFacts
import Derived.Test.YtddjkiefadiijaaMG
import Derived.Test.YtddjkiefadiijaaWG1
import Derived.Test.YtddjkiefadiijaaWG2
import Derived.Test.YtddjkiefadiijaaWG3
namespace Go.Proofs.Ytddjkiefadiijaa
open Go Go.RowKit
set_option maxRecDepth 100000
theorem m_laws_FnExactCastingsOf_fn {w : World} {a0 : Option Addr} {n0 c0 : Nat} {y0 : List PlayerD} {p0 : List PlayerC} {a1 : Option Addr} {n1 c1 : Nat} {p1 : List Int} {Q : Bool → Prop} (hp0 : Tv w.heap.size w a0 n0 c0 y0 p0) (hp1 : Vw w.heap.size w a1 n1 c1 p1) (hm : m_laws_FnExactCastingsOf p0 p1 Q) :
    Fn Try.prog 6 #[.slice a0 n0 c0, .slice a1 n1 c1] w (fun v w' => ∃ (r0 : Bool), Q r0 ∧ v = .bool r0 ∧ Ext w w') := by
  unfold m_laws_FnExactCastingsOf at hm
  have hB0 := Below.refl w.heap.size w
  have hS0 : Sep w w.heap.size [] := Sep.nil (Nat.le_refl _)
  refine fn_of_wp Try.func6 rfl (by kernel_rfl) (Nat.le_of_ble_eq_true rfl) ?_
  refine w_seq fun K1 hK1 => ?_
  refine w_region ?_
  refine wl_val (g_assign (v := .bool false) rfl) rfl ?_
  refine wl_nil ?_
  refine hK1 _ _ ?_
  refine w_seq fun K2 hK2 => ?_
  refine w_seq fun K3 hK3 => ?_
  refine w_region ?_
  refine wl_val (g_move (v := .slice a1 n1 c1) rfl) rfl ?_
  refine wl_val (q_len SL23 rfl (Vw.len (hp1.bel hB0))) rfl ?_
  refine wl_val (g_gtr (a := (p1.length : Int)) (b := 1048576) rfl rfl) rfl ?_
  refine wl_nil ?_
  refine hK3 _ _ ?_
  refine w_condI (p := (p1.length : Int) > 1048576) (b := (decide ((p1.length : Int) > 1048576))) rfl decide_eq_true_iff (fun h4 => ?_) (fun h4 => ?_)
  · replace hm := hm.1 h4
    refine w_seq fun K5 hK5 => ?_
    refine w_region ?_
    refine wl_val (g_assign (v := .bool true) rfl) rfl ?_
    refine wl_nil ?_
    refine hK5 _ _ ?_
    refine w_ret ?_
    repeat first | with_reducible refine q_then ?_ | with_reducible refine q_block ?_
    exact ret1 rfl (by decide) ⟨_, hm, rfl, toExt hB0⟩
  · replace hm := hm.2 h4
    refine w_skip ?_
    refine hK2 _ _ ?_
    refine w_seq fun K6 hK6 => ?_
    refine w_region ?_
    refine wl_val (g_assign (v := .int .i64 1048576) rfl) rfl ?_
    refine wl_nil ?_
    refine hK6 _ _ ?_
    refine w_seq fun K7 hK7 => ?_
    refine w_region ?_
    refine wl_val (g_move (v := .slice a0 n0 c0) rfl) rfl ?_
    refine wl_val (g_move (v := .int .i64 1048576) rfl) rfl ?_
    refine wl_step rfl (g_call (vs := #[.slice a0 n0 c0, .int .i64 1048576]) CF12 (args2 rfl rfl) (m_laws_szPlayerS_fn ((hp0.bel hB0).up hS0) 1048576 hm)) ?_
    rintro _ w8 ⟨r11, hm, rfl, hE9⟩
    have hB12 := hB0.trans (Ext.stp hE9 hS0.base)
    have hS13 := hS0.ext hE9
    refine wl_val (g_assign (v := .int .i64 r11) rfl) rfl ?_
    refine wl_nil ?_
    refine hK7 _ _ ?_
    refine w_seq fun K14 hK14 => ?_
    refine w_seq fun K15 hK15 => ?_
    refine w_region ?_
    refine wl_val (g_move (v := .int .i64 r11) rfl) rfl ?_
    refine wl_val (g_lss (a := r11) (b := 0) rfl rfl) rfl ?_
    refine wl_nil ?_
    refine hK15 _ _ ?_
    refine w_condI (p := r11 < 0) (b := (decide (r11 < 0))) rfl decide_eq_true_iff (fun h16 => ?_) (fun h16 => ?_)
    · replace hm := hm.1 h16
      refine w_seq fun K17 hK17 => ?_
      refine w_region ?_
      refine wl_val (g_assign (v := .bool true) rfl) rfl ?_
      refine wl_nil ?_
      refine hK17 _ _ ?_
      refine w_ret ?_
      repeat first | with_reducible refine q_then ?_ | with_reducible refine q_block ?_
      exact ret1 rfl (by decide) ⟨_, hm, rfl, toExt hB12⟩
    · replace hm := hm.2 h16
      refine w_skip ?_
      refine hK14 _ _ ?_
      refine w_seq fun K18 hK18 => ?_
      refine w_region ?_
      refine wl_val (g_move (v := .slice a0 n0 c0) rfl) rfl ?_
      refine wl_step rfl (g_call (vs := #[.slice a0 n0 c0]) CF14 (args1 rfl) (m_laws_toPlayerS_fn ((hp0.bel hB12).up hS13) hm)) ?_
      rintro _ w19 ⟨r22, a23, n24, c25, y26, hm, he27, rfl, hE20, hN21⟩
      have hS31 := hS13.call2 hE20 hN21
      have hB32 := hB12.trans (Ext.stp hE20 hS13.base)
      refine wl_val (g_move (v := .slice a1 n1 c1) rfl) rfl ?_
      refine wl_step rfl (g_call (vs := #[.slice a1 n1 c1]) CF15 (args1 rfl) (m_laws_toIntS_fn ((hp1.bel hB32).up hS31) hm)) ?_
      rintro _ w33 ⟨r36, a37, n38, c39, hm, rfl, hE34, hN35⟩
      have hS41 := hS31.call1 hE34 hN35
      have hB42 := hB32.trans (Ext.stp hE34 hS31.base)
      refine wl_step rfl (g_call (vs := #[.slice a23 n24 c25, .slice a37 n38 c39]) CF26 (args2 rfl rfl) (m_spec_CastingsOf_fn (oT.vw hS41.g1 hS41.g2 he27) (oS.vw hS41.g0) hm)) ?_
      rintro _ w43 ⟨r46, a47, n48, c49, y50, hm, he51, rfl, hE44, hN45⟩
      have hS55 := hS41.call2 hE44 hN45
      have hB56 := hB42.trans (Ext.stp hE44 hS41.base)
      refine wl_val (g_assign (v := .slice a47 n48 c49) rfl) rfl ?_
      refine wl_nil ?_
      refine hK18 _ _ ?_
      refine w_seq fun K57 hK57 => ?_
      refine w_region ?_
      refine wl_val (g_move (v := .slice a0 n0 c0) rfl) rfl ?_
      refine wl_step rfl (g_call (vs := #[.slice a0 n0 c0]) CF14 (args1 rfl) (m_laws_toPlayerS_fn ((hp0.bel hB56).up hS55) hm)) ?_
      rintro _ w58 ⟨r61, a62, n63, c64, y65, hm, he66, rfl, hE59, hN60⟩
      have hS70 := hS55.call2 hE59 hN60
      have hB71 := hB56.trans (Ext.stp hE59 hS55.base)
      refine wl_val (g_assign (v := .slice a62 n63 c64) rfl) rfl ?_
      refine wl_nil ?_
      refine hK57 _ _ ?_
      refine w_seq fun K72 hK72 => ?_
      refine w_region ?_
      refine wl_val (g_move (v := .slice a1 n1 c1) rfl) rfl ?_
      refine wl_step rfl (g_call (vs := #[.slice a1 n1 c1]) CF15 (args1 rfl) (m_laws_toIntS_fn ((hp1.bel hB71).up hS70) hm)) ?_
      rintro _ w73 ⟨r76, a77, n78, c79, hm, rfl, hE74, hN75⟩
      have hS81 := hS70.call1 hE74 hN75
      have hB82 := hB71.trans (Ext.stp hE74 hS70.base)
      refine wl_val (g_assign (v := .slice a77 n78 c79) rfl) rfl ?_
      refine wl_nil ?_
      refine hK72 _ _ ?_
      refine w_seq fun K83 hK83 => ?_
      refine w_region ?_
      refine wl_val (g_move (v := .slice a62 n63 c64) rfl) rfl ?_
      refine wl_val (g_move (v := .slice a77 n78 c79) rfl) rfl ?_
      refine wl_step rfl (g_call (vs := #[.slice a62 n63 c64, .slice a77 n78 c79]) CF27 (args2 rfl rfl) (m_impl_CastingsOf_fn (oT.vw hS81.g1 hS81.g2 he66) (oS.vw hS81.g0) hm)) ?_
      rintro _ w84 ⟨r87, a88, n89, c90, y91, hm, he92, rfl, hE85, hN86⟩
      have hS96 := hS81.call2 hE85 hN86
      have hB97 := hB82.trans (Ext.stp hE85 hS81.base)
      refine wl_val (g_assign (v := .slice a88 n89 c90) rfl) rfl ?_
      refine wl_nil ?_
      refine hK83 _ _ ?_
      refine w_seq fun K98 hK98 => ?_
      refine w_seq fun K99 hK99 => ?_
      refine w_region ?_
      refine wl_val (g_move (v := .slice a88 n89 c90) rfl) rfl ?_
      refine wl_val (g_move (v := .slice a47 n48 c49) rfl) rfl ?_
      refine wl_step rfl (g_call (vs := #[.slice a88 n89 c90, .slice a47 n48 c49]) CF28 (args2 rfl rfl) (m_laws_eqIntSS_fn (oT.vw hS96.g0 hS96.g1 he92) (oT.vw hS96.g5 hS96.g6 he51) hm)) ?_
      rintro _ w100 ⟨r103, hm, rfl, hE101⟩
      have hB104 := hB97.trans (Ext.stp hE101 hS96.base)
      have hS105 := hS96.ext hE101
      refine wl_val (g_not (a := r103) rfl) rfl ?_
      refine wl_nil ?_
      refine hK99 _ _ ?_
      refine w_condI (p := ¬ (r103 = true)) (b := (!r103)) rfl (i_not Iff.rfl) (fun h106 => ?_) (fun h106 => ?_)
      · replace hm := hm.1 h106
        refine w_seq fun K107 hK107 => ?_
        refine w_region ?_
        refine wl_val (g_assign (v := .bool false) rfl) rfl ?_
        refine wl_nil ?_
        refine hK107 _ _ ?_
        refine w_ret ?_
        repeat first | with_reducible refine q_then ?_ | with_reducible refine q_block ?_
        exact ret1 rfl (by decide) ⟨_, hm, rfl, toExt hB104⟩
      · replace hm := hm.2 h106
        refine w_skip ?_
        refine hK98 _ _ ?_
        refine w_seq fun K108 hK108 => ?_
        refine w_seq fun K109 hK109 => ?_
        refine w_region ?_
        refine wl_val (g_move (v := .slice a62 n63 c64) rfl) rfl ?_
        refine wl_val (g_move (v := .slice a0 n0 c0) rfl) rfl ?_
        refine wl_step rfl (g_call (vs := #[.slice a0 n0 c0]) CF14 (args1 rfl) (m_laws_toPlayerS_fn ((hp0.bel hB104).up hS105) hm)) ?_
        rintro _ w110 ⟨r113, a114, n115, c116, y117, hm, he118, rfl, hE111, hN112⟩
        have hS122 := hS105.call2 hE111 hN112
        have hB123 := hB104.trans (Ext.stp hE111 hS105.base)
        refine wl_step rfl (g_call (vs := #[.slice a62 n63 c64, .slice a114 n115 c116]) CF18 (args2 rfl rfl) (m_laws_eqPlayerS_fn (oT.vw hS122.g5 hS122.g6 he66) (oT.vw hS122.g0 hS122.g1 he118) hm)) ?_
        rintro _ w124 ⟨r127, hm, rfl, hE125⟩
        have hB128 := hB123.trans (Ext.stp hE125 hS122.base)
        have hS129 := hS122.ext hE125
        refine wl_val (g_not (a := r127) rfl) rfl ?_
        refine wl_nil ?_
        refine hK109 _ _ ?_
        refine w_condI (p := ¬ (r127 = true)) (b := (!r127)) rfl (i_not Iff.rfl) (fun h130 => ?_) (fun h130 => ?_)
        · replace hm := hm.1 h130
          refine w_seq fun K131 hK131 => ?_
          refine w_region ?_
          refine wl_val (g_assign (v := .bool false) rfl) rfl ?_
          refine wl_nil ?_
          refine hK131 _ _ ?_
          refine w_ret ?_
          repeat first | with_reducible refine q_then ?_ | with_reducible refine q_block ?_
          exact ret1 rfl (by decide) ⟨_, hm, rfl, toExt hB128⟩
        · replace hm := hm.2 h130
          refine w_skip ?_
          refine hK108 _ _ ?_
          refine w_seq fun K132 hK132 => ?_
          refine w_seq fun K133 hK133 => ?_
          refine w_region ?_
          refine wl_val (g_move (v := .slice a77 n78 c79) rfl) rfl ?_
          refine wl_val (g_move (v := .slice a1 n1 c1) rfl) rfl ?_
          refine wl_step rfl (g_call (vs := #[.slice a1 n1 c1]) CF15 (args1 rfl) (m_laws_toIntS_fn ((hp1.bel hB128).up hS129) hm)) ?_
          rintro _ w134 ⟨r137, a138, n139, c140, hm, rfl, hE135, hN136⟩
          have hS142 := hS129.call1 hE135 hN136
          have hB143 := hB128.trans (Ext.stp hE135 hS129.base)
          refine wl_step rfl (g_call (vs := #[.slice a77 n78 c79, .slice a138 n139 c140]) CF17 (args2 rfl rfl) (m_laws_eqIntS_fn (oS.vw hS142.g5) (oS.vw hS142.g0) hm)) ?_
          rintro _ w144 ⟨r147, hm, rfl, hE145⟩
          have hB148 := hB143.trans (Ext.stp hE145 hS142.base)
          have hS149 := hS142.ext hE145
          refine wl_val (g_not (a := r147) rfl) rfl ?_
          refine wl_nil ?_
          refine hK133 _ _ ?_
          refine w_condI (p := ¬ (r147 = true)) (b := (!r147)) rfl (i_not Iff.rfl) (fun h150 => ?_) (fun h150 => ?_)
          · replace hm := hm.1 h150
            refine w_seq fun K151 hK151 => ?_
            refine w_region ?_
            refine wl_val (g_assign (v := .bool false) rfl) rfl ?_
            refine wl_nil ?_
            refine hK151 _ _ ?_
            refine w_ret ?_
            repeat first | with_reducible refine q_then ?_ | with_reducible refine q_block ?_
            exact ret1 rfl (by decide) ⟨_, hm, rfl, toExt hB148⟩
          · replace hm := hm.2 h150
            refine w_skip ?_
            refine hK132 _ _ ?_
            refine w_seq fun K152 hK152 => ?_
            refine w_region ?_
            refine wl_val (g_assign (v := .int .i64 1) rfl) rfl ?_
            refine wl_nil ?_
            refine hK152 _ _ ?_
            refine w_seq fun K153 hK153 => ?_
            refine w_region ?_
            refine wl_val (g_move (v := .slice a62 n63 c64) rfl) rfl ?_
            refine wl_val (g_move (v := .int .i64 1) rfl) rfl ?_
            have hS154 := hS149.f7
            have hS155 := hS154.f7
            refine wl_step rfl (g_call (vs := #[.slice a62 n63 c64, .int .i64 1]) CF19 (args2 rfl rfl) (m_laws_markPlayerS_fn hS155 he66 1 hm)) ?_
            rintro _ w156 ⟨r159, x160, y161, hm, he162, rfl, hb157, hS158⟩
            have hB163 := hB148.trans hb157
            refine wl_val (g_assign (v := .int .i64 r159) rfl) rfl ?_
            refine wl_nil ?_
            refine hK153 _ _ ?_
            refine w_seq fun K164 hK164 => ?_
            refine w_region ?_
            refine wl_val (g_move (v := .slice a77 n78 c79) rfl) rfl ?_
            refine wl_val (g_move (v := .int .i64 r159) rfl) rfl ?_
            have hS165 := hS158.f7
            refine wl_step rfl (g_call (vs := #[.slice a77 n78 c79, .int .i64 r159]) CF20 (args2 rfl rfl) (m_laws_markIntS_fn hS165 r159 hm)) ?_
            rintro _ w166 ⟨r169, x170, hm, rfl, hb167, hS168⟩
            have hB171 := hB163.trans hb167
            refine wl_val (g_assign (v := .int .i64 r169) rfl) rfl ?_
            refine wl_nil ?_
            refine hK164 _ _ ?_
            refine w_seq fun K172 hK172 => ?_
            refine w_seq fun K173 hK173 => ?_
            refine w_region ?_
            refine wl_val (g_move (v := .int .i64 r169) rfl) rfl ?_
            refine wl_val (g_lss (a := r169) (b := 0) rfl rfl) rfl ?_
            refine wl_val (g_move (v := .bool (decide (r169 < 0))) rfl) rfl ?_
            refine wl_guard (c := (decide (r169 < 0)) = false) (val := .slice a88 n89 c90) (b := ((decide (r169 < 0)) == false)) (gv_some rfl rfl rfl) beq_iff_eq (fun hc174 => ?_) ?_
            · have hcq0 : ¬ (r169 < 0) := (i_neg decide_eq_true_iff hc174)
              exact g_move (v := .slice a88 n89 c90) rfl
            refine wl_guard (c := (decide (r169 < 0)) = false) (val := .slice a47 n48 c49) (b := ((decide (r169 < 0)) == false)) (gv_some rfl rfl rfl) beq_iff_eq (fun hc175 => ?_) ?_
            · have hcq0 : ¬ (r169 < 0) := (i_neg decide_eq_true_iff hc175)
              exact g_move (v := .slice a47 n48 c49) rfl
            obtain ⟨r177, hk178, hm⟩ := hm
            refine wl_guardE (X := Ext) (c := (decide (r169 < 0)) = false) (val := .bool r177) (Ext.refl _) (b := ((decide (r169 < 0)) == false)) (gv_some rfl rfl rfl) beq_iff_eq (fun hc176 => ?_) (fun w179 hE180 => ?_)
            · have hcq0 : ¬ (r169 < 0) := (i_neg decide_eq_true_iff hc176)
              exact (g_call (vs := #[.slice a88 n89 c90, .slice a47 n48 c49]) CF28 (args2 (if_pos hc176) (if_pos hc176)) ((m_laws_eqIntSS_fn (oT.vw hS168.g6 hS168.g7 he92) (oT.vw hS168.g8 hS168.g9 he51) (hk178 hcq0)).mono fun _ _ ⟨_, h1, h2, h3⟩ => ⟨by rw [h2, h1], h3⟩))
            have hB181 := hB171.trans (Ext.stp hE180 hS168.base)
            have hS182 := hS168.ext hE180
            refine wl_guard (c := (decide (r169 < 0)) = false) (val := .bool (!r177)) (b := ((decide (r169 < 0)) == false)) (gv_some rfl rfl rfl) beq_iff_eq (fun hc183 => ?_) ?_
            · have hcq0 : ¬ (r169 < 0) := (i_neg decide_eq_true_iff hc183)
              exact g_not (a := r177) (if_pos hc183)
            refine wl_val (g_pick_or (b := (decide (r169 < 0))) (q := (!r177)) rfl rfl) rfl ?_
            refine wl_nil ?_
            refine hK173 _ _ ?_
            refine w_condI (p := ((r169 < 0) ∨ (¬ (r177 = true)))) (b := ((decide (r169 < 0)) || (!r177))) rfl (i_or decide_eq_true_iff (i_not Iff.rfl)) (fun h184 => ?_) (fun h184 => ?_)
            · replace hm := hm.1 h184
              refine w_seq fun K185 hK185 => ?_
              refine w_region ?_
              refine wl_val (g_assign (v := .bool false) rfl) rfl ?_
              refine wl_nil ?_
              refine hK185 _ _ ?_
              refine w_ret ?_
              repeat first | with_reducible refine q_then ?_ | with_reducible refine q_block ?_
              exact ret1 rfl (by decide) ⟨_, hm, rfl, toExt hB181⟩
            · replace hm := hm.2 h184
              refine w_skip ?_
              refine hK172 _ _ ?_
              refine w_seq fun K186 hK186 => ?_
              refine w_region ?_
              refine wl_val (g_assign (v := .int .i64 1) rfl) rfl ?_
              refine wl_nil ?_
              refine hK186 _ _ ?_
              refine w_seq fun K187 hK187 => ?_
              refine w_region ?_
              refine wl_val (g_move (v := .slice a88 n89 c90) rfl) rfl ?_
              refine wl_val (g_move (v := .int .i64 1) rfl) rfl ?_
              have hS188 := hS182.f7
              have hS189 := hS188.f7
              refine wl_step rfl (g_call (vs := #[.slice a88 n89 c90, .int .i64 1]) CF29 (args2 rfl rfl) (m_laws_markIntSS_fn hS189 he92 1 hm)) ?_
              rintro _ w190 ⟨r193, x194, y195, hm, he196, rfl, hb191, hS192⟩
              have hB197 := hB181.trans hb191
              refine wl_val (g_assign (v := .int .i64 r193) rfl) rfl ?_
              refine wl_nil ?_
              refine hK187 _ _ ?_
              refine w_seq fun K198 hK198 => ?_
              refine w_region ?_
              refine wl_val (g_assign (v := .int .i64 1) rfl) rfl ?_
              refine wl_nil ?_
              refine hK198 _ _ ?_
              refine w_seq fun K199 hK199 => ?_
              refine w_region ?_
              refine wl_val (g_move (v := .slice a88 n89 c90) rfl) rfl ?_
              refine wl_val (g_move (v := .int .i64 1) rfl) rfl ?_
              refine wl_step rfl (g_call (vs := #[.slice a88 n89 c90, .int .i64 1]) CF30 (args2 rfl rfl) (m_laws_heldIntSS_fn (oT.vw hS192.g0 hS192.g1 he196) 1 hm)) ?_
              rintro _ w200 ⟨r203, hm, rfl, hE201⟩
              have hB204 := hB197.trans (Ext.stp hE201 hS192.base)
              have hS205 := hS192.ext hE201
              refine wl_val (g_assign (v := .int .i64 r203) rfl) rfl ?_
              refine wl_nil ?_
              refine hK199 _ _ ?_
              refine w_seq fun K206 hK206 => ?_
              refine w_seq fun K207 hK207 => ?_
              refine w_region ?_
              refine wl_val (g_move (v := .int .i64 r203) rfl) rfl ?_
              refine wl_val (g_lss (a := r203) (b := 0) rfl rfl) rfl ?_
              refine wl_nil ?_
              refine hK207 _ _ ?_
              refine w_condI (p := r203 < 0) (b := (decide (r203 < 0))) rfl decide_eq_true_iff (fun h208 => ?_) (fun h208 => ?_)
              · replace hm := hm.1 h208
                refine w_seq fun K209 hK209 => ?_
                refine w_region ?_
                refine wl_val (g_assign (v := .bool false) rfl) rfl ?_
                refine wl_nil ?_
                refine hK209 _ _ ?_
                refine w_ret ?_
                repeat first | with_reducible refine q_then ?_ | with_reducible refine q_block ?_
                exact ret1 rfl (by decide) ⟨_, hm, rfl, toExt hB204⟩
              · replace hm := hm.2 h208
                refine w_skip ?_
                refine hK206 _ _ ?_
                refine w_seq fun K210 hK210 => ?_
                refine w_seq fun K211 hK211 => ?_
                refine w_region ?_
                refine wl_val (g_move (v := .int .i64 r203) rfl) rfl ?_
                refine wl_val (g_move (v := .int .i64 r193) rfl) rfl ?_
                refine wl_val (g_neq (a := r203) (b := r193) rfl rfl) rfl ?_
                refine wl_nil ?_
                refine hK211 _ _ ?_
                refine w_condI (p := r203 ≠ r193) (b := (decide (r203 ≠ r193))) rfl decide_eq_true_iff (fun h212 => ?_) (fun h212 => ?_)
                · replace hm := hm.1 h212
                  refine w_seq fun K213 hK213 => ?_
                  refine w_region ?_
                  refine wl_val (g_assign (v := .bool false) rfl) rfl ?_
                  refine wl_nil ?_
                  refine hK213 _ _ ?_
                  refine w_ret ?_
                  repeat first | with_reducible refine q_then ?_ | with_reducible refine q_block ?_
                  exact ret1 rfl (by decide) ⟨_, hm, rfl, toExt hB204⟩
                · replace hm := hm.2 h212
                  refine w_skip ?_
                  refine hK210 _ _ ?_
                  refine w_seq fun K214 hK214 => ?_
                  refine w_region ?_
                  refine wl_val (g_move (v := .slice a0 n0 c0) rfl) rfl ?_
                  refine wl_step rfl (g_call (vs := #[.slice a0 n0 c0]) CF14 (args1 rfl) (m_laws_toPlayerS_fn ((hp0.bel hB204).up hS205) hm)) ?_
                  rintro _ w215 ⟨r218, a219, n220, c221, y222, hm, he223, rfl, hE216, hN217⟩
                  have hS227 := hS205.call2 hE216 hN217
                  have hB228 := hB204.trans (Ext.stp hE216 hS205.base)
                  refine wl_val (g_move (v := .slice a1 n1 c1) rfl) rfl ?_
                  refine wl_step rfl (g_call (vs := #[.slice a1 n1 c1]) CF15 (args1 rfl) (m_laws_toIntS_fn ((hp1.bel hB228).up hS227) hm)) ?_
                  rintro _ w229 ⟨r232, a233, n234, c235, hm, rfl, hE230, hN231⟩
                  have hS237 := hS227.call1 hE230 hN231
                  have hB238 := hB228.trans (Ext.stp hE230 hS227.base)
                  refine wl_step rfl (g_call (vs := #[.slice a219 n220 c221, .slice a233 n234 c235]) CF27 (args2 rfl rfl) (m_impl_CastingsOf_fn (oT.vw hS237.g1 hS237.g2 he223) (oS.vw hS237.g0) hm)) ?_
                  rintro _ w239 ⟨r242, a243, n244, c245, y246, hm, he247, rfl, hE240, hN241⟩
                  have hS251 := hS237.call2 hE240 hN241
                  have hB252 := hB238.trans (Ext.stp hE240 hS237.base)
                  refine wl_val (g_assign (v := .slice a243 n244 c245) rfl) rfl ?_
                  refine wl_nil ?_
                  refine hK214 _ _ ?_
                  refine w_seq fun K253 hK253 => ?_
                  refine w_seq fun K254 hK254 => ?_
                  refine w_region ?_
                  refine wl_val (g_move (v := .slice a243 n244 c245) rfl) rfl ?_
                  refine wl_val (g_move (v := .slice a47 n48 c49) rfl) rfl ?_
                  refine wl_step rfl (g_call (vs := #[.slice a243 n244 c245, .slice a47 n48 c49]) CF28 (args2 rfl rfl) (m_laws_eqIntSS_fn (oT.vw hS251.g0 hS251.g1 he247) (oT.vw hS251.g13 hS251.g14 he51) hm)) ?_
                  rintro _ w255 ⟨r258, hm, rfl, hE256⟩
                  have hB259 := hB252.trans (Ext.stp hE256 hS251.base)
                  have hS260 := hS251.ext hE256
                  refine wl_val (g_not (a := r258) rfl) rfl ?_
                  refine wl_nil ?_
                  refine hK254 _ _ ?_
                  refine w_condI (p := ¬ (r258 = true)) (b := (!r258)) rfl (i_not Iff.rfl) (fun h261 => ?_) (fun h261 => ?_)
                  · replace hm := hm.1 h261
                    refine w_seq fun K262 hK262 => ?_
                    refine w_region ?_
                    refine wl_val (g_assign (v := .bool false) rfl) rfl ?_
                    refine wl_nil ?_
                    refine hK262 _ _ ?_
                    refine w_ret ?_
                    repeat first | with_reducible refine q_then ?_ | with_reducible refine q_block ?_
                    exact ret1 rfl (by decide) ⟨_, hm, rfl, toExt hB259⟩
                  · replace hm := hm.2 h261
                    refine w_skip ?_
                    refine hK253 _ _ ?_
                    refine w_seq fun K263 hK263 => ?_
                    refine w_region ?_
                    refine wl_val (g_assign (v := .int .i64 1) rfl) rfl ?_
                    refine wl_nil ?_
                    refine hK263 _ _ ?_
                    refine w_seq fun K264 hK264 => ?_
                    refine w_region ?_
                    refine wl_val (g_move (v := .slice a88 n89 c90) rfl) rfl ?_
                    refine wl_val (g_move (v := .int .i64 1) rfl) rfl ?_
                    refine wl_step rfl (g_call (vs := #[.slice a88 n89 c90, .int .i64 1]) CF30 (args2 rfl rfl) (m_laws_heldIntSS_fn (oT.vw hS260.g5 hS260.g6 he196) 1 hm)) ?_
                    rintro _ w265 ⟨r268, hm, rfl, hE266⟩
                    have hB269 := hB259.trans (Ext.stp hE266 hS260.base)
                    have hS270 := hS260.ext hE266
                    refine wl_val (g_assign (v := .int .i64 r268) rfl) rfl ?_
                    refine wl_nil ?_
                    refine hK264 _ _ ?_
                    refine w_seq fun K271 hK271 => ?_
                    refine w_seq fun K272 hK272 => ?_
                    refine w_region ?_
                    refine wl_val (g_move (v := .int .i64 r268) rfl) rfl ?_
                    refine wl_val (g_lss (a := r268) (b := 0) rfl rfl) rfl ?_
                    refine wl_nil ?_
                    refine hK272 _ _ ?_
                    refine w_condI (p := r268 < 0) (b := (decide (r268 < 0))) rfl decide_eq_true_iff (fun h273 => ?_) (fun h273 => ?_)
                    · replace hm := hm.1 h273
                      refine w_seq fun K274 hK274 => ?_
                      refine w_region ?_
                      refine wl_val (g_assign (v := .bool false) rfl) rfl ?_
                      refine wl_nil ?_
                      refine hK274 _ _ ?_
                      refine w_ret ?_
                      repeat first | with_reducible refine q_then ?_ | with_reducible refine q_block ?_
                      exact ret1 rfl (by decide) ⟨_, hm, rfl, toExt hB269⟩
                    · replace hm := hm.2 h273
                      refine w_skip ?_
                      refine hK271 _ _ ?_
                      refine w_seq fun K275 hK275 => ?_
                      refine w_seq fun K276 hK276 => ?_
                      refine w_region ?_
                      refine wl_val (g_move (v := .int .i64 r268) rfl) rfl ?_
                      refine wl_val (g_move (v := .int .i64 r193) rfl) rfl ?_
                      refine wl_val (g_neq (a := r268) (b := r193) rfl rfl) rfl ?_
                      refine wl_nil ?_
                      refine hK276 _ _ ?_
                      refine w_condI (p := r268 ≠ r193) (b := (decide (r268 ≠ r193))) rfl decide_eq_true_iff (fun h277 => ?_) (fun h277 => ?_)
                      · replace hm := hm.1 h277
                        refine w_seq fun K278 hK278 => ?_
                        refine w_region ?_
                        refine wl_val (g_assign (v := .bool false) rfl) rfl ?_
                        refine wl_nil ?_
                        refine hK278 _ _ ?_
                        refine w_ret ?_
                        repeat first | with_reducible refine q_then ?_ | with_reducible refine q_block ?_
                        exact ret1 rfl (by decide) ⟨_, hm, rfl, toExt hB269⟩
                      · replace hm := hm.2 h277
                        refine w_skip ?_
                        refine hK275 _ _ ?_
                        refine w_seq fun K279 hK279 => ?_
                        refine w_region ?_
                        refine wl_val (g_assign (v := .bool true) rfl) rfl ?_
                        refine wl_nil ?_
                        refine hK279 _ _ ?_
                        refine w_ret ?_
                        repeat first | with_reducible refine q_then ?_ | with_reducible refine q_block ?_
                        exact ret1 rfl (by decide) ⟨_, hm, rfl, toExt hB269⟩

end Go.Proofs.Ytddjkiefadiijaa
