/- The walks: the code does what its model says. Printed by a program (gen2.py). No statement of the claim stands here. -/
import Derived.Test.YthmlfpfebdnpcaaSop
import Derived.Test.YthmlfpfebdnpcaaFacts
import Derived.Test.YthmlfpfebdnpcaaME
import Derived.Test.YthmlfpfebdnpcaaWE1
import Derived.Test.YthmlfpfebdnpcaaWE2
import Derived.Test.YthmlfpfebdnpcaaWE3
namespace Go.Proofs.Ythmlfpfebdnpcaa
open Go Go.RowKit
set_option maxRecDepth 100000
theorem m_laws_FnExactTeachPuppet_fn {w : World} {a0 : Option Addr} {n0 c0 : Nat} {y0 : List PlayerD} {p0 : List PlayerC} {Q : Bool → Prop} (hp0 : Tv w.heap.size w a0 n0 c0 y0 p0) (p1 : Int) (p2 : Int) (hm : m_laws_FnExactTeachPuppet p0 p1 p2 Q) :
    Fn Try.prog 14 #[.slice a0 n0 c0, .int .i64 p1, .int .i64 p2] w (fun v w' => ∃ (r0 : Bool), Q r0 ∧ v = .bool r0 ∧ Ext w w') := by
  unfold m_laws_FnExactTeachPuppet at hm
  have hB0 := Below.refl w.heap.size w
  have hS0 : Sep w w.heap.size [] := Sep.nil (Nat.le_refl _)
  refine fn_of_wp Try.func14 rfl (by kernel_rfl) (Nat.le_of_ble_eq_true rfl) ?_
  refine w_seq fun K1 hK1 => ?_
  refine w_region ?_
  refine wl_val (g_assign (v := .bool false) rfl) rfl ?_
  refine wl_nil ?_
  refine hK1 _ _ ?_
  refine w_seq fun K2 hK2 => ?_
  refine w_region ?_
  refine wl_val (g_assign (v := .int .i64 1048576) rfl) rfl ?_
  refine wl_nil ?_
  refine hK2 _ _ ?_
  refine w_seq fun K3 hK3 => ?_
  refine w_region ?_
  refine wl_val (g_move (v := .slice a0 n0 c0) rfl) rfl ?_
  refine wl_val (g_move (v := .int .i64 1048576) rfl) rfl ?_
  refine wl_step rfl (g_call (vs := #[.slice a0 n0 c0, .int .i64 1048576]) CF21 (args2 rfl rfl) (m_laws_szPlayerS_fn ((hp0.bel hB0).up hS0) 1048576 hm)) ?_
  rintro _ w4 ⟨r7, hm, rfl, hE5⟩
  have hB8 := hB0.trans (Ext.stp hE5 hS0.base)
  have hS9 := hS0.ext hE5
  refine wl_val (g_assign (v := .int .i64 r7) rfl) rfl ?_
  refine wl_nil ?_
  refine hK3 _ _ ?_
  refine w_seq fun K10 hK10 => ?_
  refine w_seq fun K11 hK11 => ?_
  refine w_region ?_
  refine wl_val (g_move (v := .int .i64 r7) rfl) rfl ?_
  refine wl_val (g_lss (a := r7) (b := 0) rfl rfl) rfl ?_
  refine wl_nil ?_
  refine hK11 _ _ ?_
  refine w_condI (p := r7 < 0) (b := (decide (r7 < 0))) rfl decide_eq_true_iff (fun h12 => ?_) (fun h12 => ?_)
  · replace hm := hm.1 h12
    refine w_seq fun K13 hK13 => ?_
    refine w_region ?_
    refine wl_val (g_assign (v := .bool true) rfl) rfl ?_
    refine wl_nil ?_
    refine hK13 _ _ ?_
    refine w_ret ?_
    repeat first | with_reducible refine q_then ?_ | with_reducible refine q_block ?_
    exact ret1 rfl (by decide) ⟨_, hm, rfl, toExt hB8⟩
  · replace hm := hm.2 h12
    refine w_skip ?_
    refine hK10 _ _ ?_
    refine w_seq fun K14 hK14 => ?_
    refine w_region ?_
    refine wl_val (g_move (v := .slice a0 n0 c0) rfl) rfl ?_
    refine wl_step rfl (g_call (vs := #[.slice a0 n0 c0]) CF23 (args1 rfl) (m_laws_toPlayerS_fn ((hp0.bel hB8).up hS9) hm)) ?_
    rintro _ w15 ⟨r18, a19, n20, c21, y22, hm, he23, rfl, hE16, hN17⟩
    have hS27 := hS9.call2 hE16 hN17
    have hB28 := hB8.trans (Ext.stp hE16 hS9.base)
    refine wl_val (g_move (v := .int .i64 p1) rfl) rfl ?_
    refine wl_val (g_move (v := .int .i64 p2) rfl) rfl ?_
    refine wl_step rfl (g_call (vs := #[.slice a19 n20 c21, .int .i64 p1, .int .i64 p2]) CF50 (args3 rfl rfl rfl) (m_spec_TeachPuppet_fn (oT.vw hS27.g0 hS27.g1 he23) p1 p2 hm)) ?_
    rintro _ w29 ⟨r32, a33, n34, c35, y36, r41, hm, he37, rfl, hE30, hN31⟩
    have hS42 := hS27.call2 hE30 hN31
    have hB43 := hB28.trans (Ext.stp hE30 hS27.base)
    refine wl_val (g_move (v := .tuple #[.slice a33 n34 c35, .bool r41]) rfl) rfl ?_
    refine wl_val (g_extract (vs := #[.slice a33 n34 c35, .bool r41]) rfl rfl) rfl ?_
    refine wl_val (g_extract (vs := #[.slice a33 n34 c35, .bool r41]) rfl rfl) rfl ?_
    refine wl_val (g_assign (v := .slice a33 n34 c35) rfl) rfl ?_
    refine wl_val (g_assign (v := .bool r41) rfl) rfl ?_
    refine wl_nil ?_
    refine hK14 _ _ ?_
    refine w_seq fun K44 hK44 => ?_
    refine w_region ?_
    refine wl_val (g_move (v := .slice a0 n0 c0) rfl) rfl ?_
    refine wl_step rfl (g_call (vs := #[.slice a0 n0 c0]) CF23 (args1 rfl) (m_laws_toPlayerS_fn ((hp0.bel hB43).up hS42) hm)) ?_
    rintro _ w45 ⟨r48, a49, n50, c51, y52, hm, he53, rfl, hE46, hN47⟩
    have hS57 := hS42.call2 hE46 hN47
    have hB58 := hB43.trans (Ext.stp hE46 hS42.base)
    refine wl_val (g_assign (v := .slice a49 n50 c51) rfl) rfl ?_
    refine wl_nil ?_
    refine hK44 _ _ ?_
    refine w_seq fun K59 hK59 => ?_
    refine w_region ?_
    refine wl_val (g_move (v := .slice a49 n50 c51) rfl) rfl ?_
    refine wl_val (g_move (v := .int .i64 p1) rfl) rfl ?_
    refine wl_val (g_move (v := .int .i64 p2) rfl) rfl ?_
    refine wl_step rfl (g_call (vs := #[.slice a49 n50 c51, .int .i64 p1, .int .i64 p2]) CF51 (args3 rfl rfl rfl) (m_impl_TeachPuppet_fn (oT.vw hS57.g0 hS57.g1 he53) p1 p2 hm)) ?_
    rintro _ w60 ⟨r63, a64, n65, c66, y67, r72, hm, he68, rfl, hE61, hN62⟩
    have hS73 := hS57.call2 hE61 hN62
    have hB74 := hB58.trans (Ext.stp hE61 hS57.base)
    refine wl_val (g_move (v := .tuple #[.slice a64 n65 c66, .bool r72]) rfl) rfl ?_
    refine wl_val (g_extract (vs := #[.slice a64 n65 c66, .bool r72]) rfl rfl) rfl ?_
    refine wl_val (g_extract (vs := #[.slice a64 n65 c66, .bool r72]) rfl rfl) rfl ?_
    refine wl_val (g_assign (v := .slice a64 n65 c66) rfl) rfl ?_
    refine wl_val (g_assign (v := .bool r72) rfl) rfl ?_
    refine wl_nil ?_
    refine hK59 _ _ ?_
    refine w_seq fun K75 hK75 => ?_
    refine w_seq fun K76 hK76 => ?_
    refine w_region ?_
    refine wl_val (g_move (v := .slice a64 n65 c66) rfl) rfl ?_
    refine wl_val (g_move (v := .slice a33 n34 c35) rfl) rfl ?_
    refine wl_step rfl (g_call (vs := #[.slice a64 n65 c66, .slice a33 n34 c35]) CF25 (args2 rfl rfl) (m_laws_eqPlayerS_fn (oT.vw hS73.g0 hS73.g1 he68) (oT.vw hS73.g4 hS73.g5 he37) hm)) ?_
    rintro _ w77 ⟨r80, hm, rfl, hE78⟩
    have hB81 := hB74.trans (Ext.stp hE78 hS73.base)
    have hS82 := hS73.ext hE78
    refine wl_val (g_not (a := r80) rfl) rfl ?_
    refine wl_val (g_move (v := .bool (!r80)) rfl) rfl ?_
    refine wl_guard (c := (!r80) = false) (val := .bool r72) (b := ((!r80) == false)) (gv_some rfl rfl rfl) beq_iff_eq (fun hc83 => ?_) ?_
    · have hq0 : ¬ (¬ (r80 = true)) := (i_neg (i_not Iff.rfl) hc83)
      exact g_move (v := .bool r72) rfl
    refine wl_guard (c := (!r80) = false) (val := .bool r41) (b := ((!r80) == false)) (gv_some rfl rfl rfl) beq_iff_eq (fun hc84 => ?_) ?_
    · have hq0 : ¬ (¬ (r80 = true)) := (i_neg (i_not Iff.rfl) hc84)
      exact g_move (v := .bool r41) rfl
    refine wl_guard (c := (!r80) = false) (val := .bool (decide ((r72) ≠ (r41)))) (b := ((!r80) == false)) (gv_some rfl rfl rfl) beq_iff_eq (fun hc85 => ?_) ?_
    · have hq0 : ¬ (¬ (r80 = true)) := (i_neg (i_not Iff.rfl) hc85)
      exact g_neq_b (a := r72) (b := r41) UB (if_pos hc85) (if_pos hc85)
    refine wl_val (g_pick_or (b := (!r80)) (q := (decide ((r72) ≠ (r41)))) rfl rfl) rfl ?_
    refine wl_nil ?_
    refine hK76 _ _ ?_
    refine w_condI (p := ((¬ (r80 = true)) ∨ ((r72) ≠ (r41)))) (b := ((!r80) || (decide ((r72) ≠ (r41))))) rfl (i_or (i_not Iff.rfl) decide_eq_true_iff) (fun h86 => ?_) (fun h86 => ?_)
    · replace hm := hm.1 h86
      refine w_seq fun K87 hK87 => ?_
      refine w_region ?_
      refine wl_val (g_assign (v := .bool false) rfl) rfl ?_
      refine wl_nil ?_
      refine hK87 _ _ ?_
      refine w_ret ?_
      repeat first | with_reducible refine q_then ?_ | with_reducible refine q_block ?_
      exact ret1 rfl (by decide) ⟨_, hm, rfl, toExt hB81⟩
    · replace hm := hm.2 h86
      refine w_skip ?_
      refine hK75 _ _ ?_
      refine w_seq fun K88 hK88 => ?_
      refine w_seq fun K89 hK89 => ?_
      refine w_region ?_
      refine wl_val (g_move (v := .slice a49 n50 c51) rfl) rfl ?_
      refine wl_val (g_move (v := .slice a0 n0 c0) rfl) rfl ?_
      refine wl_step rfl (g_call (vs := #[.slice a0 n0 c0]) CF23 (args1 rfl) (m_laws_toPlayerS_fn ((hp0.bel hB81).up hS82) hm)) ?_
      rintro _ w90 ⟨r93, a94, n95, c96, y97, hm, he98, rfl, hE91, hN92⟩
      have hS102 := hS82.call2 hE91 hN92
      have hB103 := hB81.trans (Ext.stp hE91 hS82.base)
      refine wl_step rfl (g_call (vs := #[.slice a49 n50 c51, .slice a94 n95 c96]) CF25 (args2 rfl rfl) (m_laws_eqPlayerS_fn (oT.vw hS102.g4 hS102.g5 he53) (oT.vw hS102.g0 hS102.g1 he98) hm)) ?_
      rintro _ w104 ⟨r107, hm, rfl, hE105⟩
      have hB108 := hB103.trans (Ext.stp hE105 hS102.base)
      have hS109 := hS102.ext hE105
      refine wl_val (g_not (a := r107) rfl) rfl ?_
      refine wl_nil ?_
      refine hK89 _ _ ?_
      refine w_condI (p := ¬ (r107 = true)) (b := (!r107)) rfl (i_not Iff.rfl) (fun h110 => ?_) (fun h110 => ?_)
      · replace hm := hm.1 h110
        refine w_seq fun K111 hK111 => ?_
        refine w_region ?_
        refine wl_val (g_assign (v := .bool false) rfl) rfl ?_
        refine wl_nil ?_
        refine hK111 _ _ ?_
        refine w_ret ?_
        repeat first | with_reducible refine q_then ?_ | with_reducible refine q_block ?_
        exact ret1 rfl (by decide) ⟨_, hm, rfl, toExt hB108⟩
      · replace hm := hm.2 h110
        refine w_skip ?_
        refine hK88 _ _ ?_
        refine w_seq fun K112 hK112 => ?_
        refine w_region ?_
        refine wl_val (g_assign (v := .int .i64 1) rfl) rfl ?_
        refine wl_nil ?_
        refine hK112 _ _ ?_
        refine w_seq fun K113 hK113 => ?_
        refine w_region ?_
        refine wl_val (g_move (v := .slice a49 n50 c51) rfl) rfl ?_
        refine wl_val (g_move (v := .int .i64 1) rfl) rfl ?_
        have hS114 := hS109.f5
        have hS115 := hS114.f5
        refine wl_step rfl (g_call (vs := #[.slice a49 n50 c51, .int .i64 1]) CF36 (args2 rfl rfl) (m_laws_markPlayerS_fn hS115 he53 1 hm)) ?_
        rintro _ w116 ⟨r119, x120, y121, hm, he122, rfl, hb117, hS118⟩
        have hB123 := hB108.trans hb117
        refine wl_val (g_assign (v := .int .i64 r119) rfl) rfl ?_
        refine wl_nil ?_
        refine hK113 _ _ ?_
        refine w_seq fun K124 hK124 => ?_
        refine w_seq fun K125 hK125 => ?_
        refine w_region ?_
        refine wl_val (g_move (v := .int .i64 r119) rfl) rfl ?_
        refine wl_val (g_lss (a := r119) (b := 0) rfl rfl) rfl ?_
        refine wl_val (g_move (v := .bool (decide (r119 < 0))) rfl) rfl ?_
        refine wl_guard (c := (decide (r119 < 0)) = false) (val := .slice a64 n65 c66) (b := ((decide (r119 < 0)) == false)) (gv_some rfl rfl rfl) beq_iff_eq (fun hc126 => ?_) ?_
        · have hq1 : ¬ (r119 < 0) := (i_neg decide_eq_true_iff hc126)
          exact g_move (v := .slice a64 n65 c66) rfl
        refine wl_guard (c := (decide (r119 < 0)) = false) (val := .slice a33 n34 c35) (b := ((decide (r119 < 0)) == false)) (gv_some rfl rfl rfl) beq_iff_eq (fun hc127 => ?_) ?_
        · have hq1 : ¬ (r119 < 0) := (i_neg decide_eq_true_iff hc127)
          exact g_move (v := .slice a33 n34 c35) rfl
        obtain ⟨r129, hk130, hm⟩ := hm
        refine wl_guardE (X := Ext) (c := (decide (r119 < 0)) = false) (val := .bool r129) (Ext.refl _) (b := ((decide (r119 < 0)) == false)) (gv_some rfl rfl rfl) beq_iff_eq (fun hc128 => ?_) (fun w131 hE132 => ?_)
        · have hq1 : ¬ (r119 < 0) := (i_neg decide_eq_true_iff hc128)
          exact (g_call (vs := #[.slice a64 n65 c66, .slice a33 n34 c35]) CF25 (args2 (if_pos hc128) (if_pos hc128)) ((m_laws_eqPlayerS_fn (oT.vw hS118.g4 hS118.g5 he68) (oT.vw hS118.g6 hS118.g7 he37) (hk130 hq1)).mono fun _ _ ⟨_, h1, h2, h3⟩ => ⟨by rw [h2, h1], h3⟩))
        have hB133 := hB123.trans (Ext.stp hE132 hS118.base)
        have hS134 := hS118.ext hE132
        refine wl_guard (c := (decide (r119 < 0)) = false) (val := .bool (!r129)) (b := ((decide (r119 < 0)) == false)) (gv_some rfl rfl rfl) beq_iff_eq (fun hc135 => ?_) ?_
        · have hq1 : ¬ (r119 < 0) := (i_neg decide_eq_true_iff hc135)
          exact g_not (a := r129) (if_pos hc135)
        refine wl_val (g_pick_or (b := (decide (r119 < 0))) (q := (!r129)) rfl rfl) rfl ?_
        refine wl_val (g_move (v := .bool ((decide (r119 < 0)) || (!r129))) rfl) rfl ?_
        refine wl_guard (c := ((decide (r119 < 0)) || (!r129)) = false) (val := .bool r72) (b := (((decide (r119 < 0)) || (!r129)) == false)) (gv_some rfl rfl rfl) beq_iff_eq (fun hc136 => ?_) ?_
        · have hq2 : ¬ (((r119 < 0) ∨ (¬ (r129 = true)))) := (i_neg (i_or decide_eq_true_iff (i_not Iff.rfl)) hc136)
          exact g_move (v := .bool r72) rfl
        refine wl_guard (c := ((decide (r119 < 0)) || (!r129)) = false) (val := .bool r41) (b := (((decide (r119 < 0)) || (!r129)) == false)) (gv_some rfl rfl rfl) beq_iff_eq (fun hc137 => ?_) ?_
        · have hq2 : ¬ (((r119 < 0) ∨ (¬ (r129 = true)))) := (i_neg (i_or decide_eq_true_iff (i_not Iff.rfl)) hc137)
          exact g_move (v := .bool r41) rfl
        refine wl_guard (c := ((decide (r119 < 0)) || (!r129)) = false) (val := .bool (decide ((r72) ≠ (r41)))) (b := (((decide (r119 < 0)) || (!r129)) == false)) (gv_some rfl rfl rfl) beq_iff_eq (fun hc138 => ?_) ?_
        · have hq2 : ¬ (((r119 < 0) ∨ (¬ (r129 = true)))) := (i_neg (i_or decide_eq_true_iff (i_not Iff.rfl)) hc138)
          exact g_neq_b (a := r72) (b := r41) UB (if_pos hc138) (if_pos hc138)
        refine wl_val (g_pick_or (b := ((decide (r119 < 0)) || (!r129))) (q := (decide ((r72) ≠ (r41)))) rfl rfl) rfl ?_
        refine wl_nil ?_
        refine hK125 _ _ ?_
        refine w_condI (p := ((((r119 < 0) ∨ (¬ (r129 = true)))) ∨ ((r72) ≠ (r41)))) (b := (((decide (r119 < 0)) || (!r129)) || (decide ((r72) ≠ (r41))))) rfl (i_or (i_or decide_eq_true_iff (i_not Iff.rfl)) decide_eq_true_iff) (fun h139 => ?_) (fun h139 => ?_)
        · replace hm := hm.1 h139
          refine w_seq fun K140 hK140 => ?_
          refine w_region ?_
          refine wl_val (g_assign (v := .bool false) rfl) rfl ?_
          refine wl_nil ?_
          refine hK140 _ _ ?_
          refine w_ret ?_
          repeat first | with_reducible refine q_then ?_ | with_reducible refine q_block ?_
          exact ret1 rfl (by decide) ⟨_, hm, rfl, toExt hB133⟩
        · replace hm := hm.2 h139
          refine w_skip ?_
          refine hK124 _ _ ?_
          refine w_seq fun K141 hK141 => ?_
          refine w_region ?_
          refine wl_val (g_assign (v := .int .i64 1) rfl) rfl ?_
          refine wl_nil ?_
          refine hK141 _ _ ?_
          refine w_seq fun K142 hK142 => ?_
          refine w_region ?_
          refine wl_val (g_move (v := .slice a64 n65 c66) rfl) rfl ?_
          refine wl_val (g_move (v := .int .i64 1) rfl) rfl ?_
          have hS143 := hS134.f5
          have hS144 := hS143.f5
          refine wl_step rfl (g_call (vs := #[.slice a64 n65 c66, .int .i64 1]) CF36 (args2 rfl rfl) (m_laws_markPlayerS_fn hS144 he68 1 hm)) ?_
          rintro _ w145 ⟨r148, x149, y150, hm, he151, rfl, hb146, hS147⟩
          have hB152 := hB133.trans hb146
          refine wl_val (g_assign (v := .int .i64 r148) rfl) rfl ?_
          refine wl_nil ?_
          refine hK142 _ _ ?_
          refine w_seq fun K153 hK153 => ?_
          refine w_region ?_
          refine wl_val (g_assign (v := .int .i64 1) rfl) rfl ?_
          refine wl_nil ?_
          refine hK153 _ _ ?_
          refine w_seq fun K154 hK154 => ?_
          refine w_region ?_
          refine wl_val (g_move (v := .slice a64 n65 c66) rfl) rfl ?_
          refine wl_val (g_move (v := .int .i64 1) rfl) rfl ?_
          refine wl_step rfl (g_call (vs := #[.slice a64 n65 c66, .int .i64 1]) CF45 (args2 rfl rfl) (m_laws_heldPlayerS_fn (oT.vw hS147.g0 hS147.g1 he151) 1 hm)) ?_
          rintro _ w155 ⟨r158, hm, rfl, hE156⟩
          have hB159 := hB152.trans (Ext.stp hE156 hS147.base)
          have hS160 := hS147.ext hE156
          refine wl_val (g_assign (v := .int .i64 r158) rfl) rfl ?_
          refine wl_nil ?_
          refine hK154 _ _ ?_
          refine w_seq fun K161 hK161 => ?_
          refine w_seq fun K162 hK162 => ?_
          refine w_region ?_
          refine wl_val (g_move (v := .int .i64 r158) rfl) rfl ?_
          refine wl_val (g_lss (a := r158) (b := 0) rfl rfl) rfl ?_
          refine wl_nil ?_
          refine hK162 _ _ ?_
          refine w_condI (p := r158 < 0) (b := (decide (r158 < 0))) rfl decide_eq_true_iff (fun h163 => ?_) (fun h163 => ?_)
          · replace hm := hm.1 h163
            refine w_seq fun K164 hK164 => ?_
            refine w_region ?_
            refine wl_val (g_assign (v := .bool false) rfl) rfl ?_
            refine wl_nil ?_
            refine hK164 _ _ ?_
            refine w_ret ?_
            repeat first | with_reducible refine q_then ?_ | with_reducible refine q_block ?_
            exact ret1 rfl (by decide) ⟨_, hm, rfl, toExt hB159⟩
          · replace hm := hm.2 h163
            refine w_skip ?_
            refine hK161 _ _ ?_
            refine w_seq fun K165 hK165 => ?_
            refine w_seq fun K166 hK166 => ?_
            refine w_region ?_
            refine wl_val (g_move (v := .int .i64 r158) rfl) rfl ?_
            refine wl_val (g_move (v := .int .i64 r148) rfl) rfl ?_
            refine wl_val (g_neq (a := r158) (b := r148) rfl rfl) rfl ?_
            refine wl_nil ?_
            refine hK166 _ _ ?_
            refine w_condI (p := r158 ≠ r148) (b := (decide (r158 ≠ r148))) rfl decide_eq_true_iff (fun h167 => ?_) (fun h167 => ?_)
            · replace hm := hm.1 h167
              refine w_seq fun K168 hK168 => ?_
              refine w_region ?_
              refine wl_val (g_assign (v := .bool false) rfl) rfl ?_
              refine wl_nil ?_
              refine hK168 _ _ ?_
              refine w_ret ?_
              repeat first | with_reducible refine q_then ?_ | with_reducible refine q_block ?_
              exact ret1 rfl (by decide) ⟨_, hm, rfl, toExt hB159⟩
            · replace hm := hm.2 h167
              refine w_skip ?_
              refine hK165 _ _ ?_
              refine w_seq fun K169 hK169 => ?_
              refine w_region ?_
              refine wl_val (g_move (v := .slice a0 n0 c0) rfl) rfl ?_
              refine wl_step rfl (g_call (vs := #[.slice a0 n0 c0]) CF23 (args1 rfl) (m_laws_toPlayerS_fn ((hp0.bel hB159).up hS160) hm)) ?_
              rintro _ w170 ⟨r173, a174, n175, c176, y177, hm, he178, rfl, hE171, hN172⟩
              have hS182 := hS160.call2 hE171 hN172
              have hB183 := hB159.trans (Ext.stp hE171 hS160.base)
              refine wl_val (g_move (v := .int .i64 p1) rfl) rfl ?_
              refine wl_val (g_move (v := .int .i64 p2) rfl) rfl ?_
              refine wl_step rfl (g_call (vs := #[.slice a174 n175 c176, .int .i64 p1, .int .i64 p2]) CF51 (args3 rfl rfl rfl) (m_impl_TeachPuppet_fn (oT.vw hS182.g0 hS182.g1 he178) p1 p2 hm)) ?_
              rintro _ w184 ⟨r187, a188, n189, c190, y191, r196, hm, he192, rfl, hE185, hN186⟩
              have hS197 := hS182.call2 hE185 hN186
              have hB198 := hB183.trans (Ext.stp hE185 hS182.base)
              refine wl_val (g_move (v := .tuple #[.slice a188 n189 c190, .bool r196]) rfl) rfl ?_
              refine wl_val (g_extract (vs := #[.slice a188 n189 c190, .bool r196]) rfl rfl) rfl ?_
              refine wl_val (g_extract (vs := #[.slice a188 n189 c190, .bool r196]) rfl rfl) rfl ?_
              refine wl_val (g_assign (v := .slice a188 n189 c190) rfl) rfl ?_
              refine wl_val (g_assign (v := .bool r196) rfl) rfl ?_
              refine wl_nil ?_
              refine hK169 _ _ ?_
              refine w_seq fun K199 hK199 => ?_
              refine w_seq fun K200 hK200 => ?_
              refine w_region ?_
              refine wl_val (g_move (v := .slice a188 n189 c190) rfl) rfl ?_
              refine wl_val (g_move (v := .slice a33 n34 c35) rfl) rfl ?_
              refine wl_step rfl (g_call (vs := #[.slice a188 n189 c190, .slice a33 n34 c35]) CF25 (args2 rfl rfl) (m_laws_eqPlayerS_fn (oT.vw hS197.g0 hS197.g1 he192) (oT.vw hS197.g10 hS197.g11 he37) hm)) ?_
              rintro _ w201 ⟨r204, hm, rfl, hE202⟩
              have hB205 := hB198.trans (Ext.stp hE202 hS197.base)
              have hS206 := hS197.ext hE202
              refine wl_val (g_not (a := r204) rfl) rfl ?_
              refine wl_val (g_move (v := .bool (!r204)) rfl) rfl ?_
              refine wl_guard (c := (!r204) = false) (val := .bool r196) (b := ((!r204) == false)) (gv_some rfl rfl rfl) beq_iff_eq (fun hc207 => ?_) ?_
              · have hq3 : ¬ (¬ (r204 = true)) := (i_neg (i_not Iff.rfl) hc207)
                exact g_move (v := .bool r196) rfl
              refine wl_guard (c := (!r204) = false) (val := .bool r41) (b := ((!r204) == false)) (gv_some rfl rfl rfl) beq_iff_eq (fun hc208 => ?_) ?_
              · have hq3 : ¬ (¬ (r204 = true)) := (i_neg (i_not Iff.rfl) hc208)
                exact g_move (v := .bool r41) rfl
              refine wl_guard (c := (!r204) = false) (val := .bool (decide ((r196) ≠ (r41)))) (b := ((!r204) == false)) (gv_some rfl rfl rfl) beq_iff_eq (fun hc209 => ?_) ?_
              · have hq3 : ¬ (¬ (r204 = true)) := (i_neg (i_not Iff.rfl) hc209)
                exact g_neq_b (a := r196) (b := r41) UB (if_pos hc209) (if_pos hc209)
              refine wl_val (g_pick_or (b := (!r204)) (q := (decide ((r196) ≠ (r41)))) rfl rfl) rfl ?_
              refine wl_nil ?_
              refine hK200 _ _ ?_
              refine w_condI (p := ((¬ (r204 = true)) ∨ ((r196) ≠ (r41)))) (b := ((!r204) || (decide ((r196) ≠ (r41))))) rfl (i_or (i_not Iff.rfl) decide_eq_true_iff) (fun h210 => ?_) (fun h210 => ?_)
              · replace hm := hm.1 h210
                refine w_seq fun K211 hK211 => ?_
                refine w_region ?_
                refine wl_val (g_assign (v := .bool false) rfl) rfl ?_
                refine wl_nil ?_
                refine hK211 _ _ ?_
                refine w_ret ?_
                repeat first | with_reducible refine q_then ?_ | with_reducible refine q_block ?_
                exact ret1 rfl (by decide) ⟨_, hm, rfl, toExt hB205⟩
              · replace hm := hm.2 h210
                refine w_skip ?_
                refine hK199 _ _ ?_
                refine w_seq fun K212 hK212 => ?_
                refine w_region ?_
                refine wl_val (g_assign (v := .int .i64 1) rfl) rfl ?_
                refine wl_nil ?_
                refine hK212 _ _ ?_
                refine w_seq fun K213 hK213 => ?_
                refine w_region ?_
                refine wl_val (g_move (v := .slice a64 n65 c66) rfl) rfl ?_
                refine wl_val (g_move (v := .int .i64 1) rfl) rfl ?_
                refine wl_step rfl (g_call (vs := #[.slice a64 n65 c66, .int .i64 1]) CF45 (args2 rfl rfl) (m_laws_heldPlayerS_fn (oT.vw hS206.g4 hS206.g5 he151) 1 hm)) ?_
                rintro _ w214 ⟨r217, hm, rfl, hE215⟩
                have hB218 := hB205.trans (Ext.stp hE215 hS206.base)
                have hS219 := hS206.ext hE215
                refine wl_val (g_assign (v := .int .i64 r217) rfl) rfl ?_
                refine wl_nil ?_
                refine hK213 _ _ ?_
                refine w_seq fun K220 hK220 => ?_
                refine w_seq fun K221 hK221 => ?_
                refine w_region ?_
                refine wl_val (g_move (v := .int .i64 r217) rfl) rfl ?_
                refine wl_val (g_lss (a := r217) (b := 0) rfl rfl) rfl ?_
                refine wl_nil ?_
                refine hK221 _ _ ?_
                refine w_condI (p := r217 < 0) (b := (decide (r217 < 0))) rfl decide_eq_true_iff (fun h222 => ?_) (fun h222 => ?_)
                · replace hm := hm.1 h222
                  refine w_seq fun K223 hK223 => ?_
                  refine w_region ?_
                  refine wl_val (g_assign (v := .bool false) rfl) rfl ?_
                  refine wl_nil ?_
                  refine hK223 _ _ ?_
                  refine w_ret ?_
                  repeat first | with_reducible refine q_then ?_ | with_reducible refine q_block ?_
                  exact ret1 rfl (by decide) ⟨_, hm, rfl, toExt hB218⟩
                · replace hm := hm.2 h222
                  refine w_skip ?_
                  refine hK220 _ _ ?_
                  refine w_seq fun K224 hK224 => ?_
                  refine w_seq fun K225 hK225 => ?_
                  refine w_region ?_
                  refine wl_val (g_move (v := .int .i64 r217) rfl) rfl ?_
                  refine wl_val (g_move (v := .int .i64 r148) rfl) rfl ?_
                  refine wl_val (g_neq (a := r217) (b := r148) rfl rfl) rfl ?_
                  refine wl_nil ?_
                  refine hK225 _ _ ?_
                  refine w_condI (p := r217 ≠ r148) (b := (decide (r217 ≠ r148))) rfl decide_eq_true_iff (fun h226 => ?_) (fun h226 => ?_)
                  · replace hm := hm.1 h226
                    refine w_seq fun K227 hK227 => ?_
                    refine w_region ?_
                    refine wl_val (g_assign (v := .bool false) rfl) rfl ?_
                    refine wl_nil ?_
                    refine hK227 _ _ ?_
                    refine w_ret ?_
                    repeat first | with_reducible refine q_then ?_ | with_reducible refine q_block ?_
                    exact ret1 rfl (by decide) ⟨_, hm, rfl, toExt hB218⟩
                  · replace hm := hm.2 h226
                    refine w_skip ?_
                    refine hK224 _ _ ?_
                    refine w_seq fun K228 hK228 => ?_
                    refine w_region ?_
                    refine wl_val (g_assign (v := .bool true) rfl) rfl ?_
                    refine wl_nil ?_
                    refine hK228 _ _ ?_
                    refine w_ret ?_
                    repeat first | with_reducible refine q_then ?_ | with_reducible refine q_block ?_
                    exact ret1 rfl (by decide) ⟨_, hm, rfl, toExt hB218⟩

end Go.Proofs.Ythmlfpfebdnpcaa
