/- The walks: the code does what its model says. Printed by a program (gen2.py). No statement of the claim stands here. -/
import Derived.Test.YtcgkcoogaieolaaFacts2
import Derived.Test.YtcgkcoogaieolaaSop
import Derived.Test.YtcgkcoogaieolaaFacts
import Derived.Test.YtcgkcoogaieolaaMB
import Derived.Test.YtcgkcoogaieolaaWB1
import Derived.Test.YtcgkcoogaieolaaWB2
import Derived.Test.YtcgkcoogaieolaaWB3
namespace Go.Proofs.Ytcgkcoogaieolaa
open Go Go.RowKit
set_option maxRecDepth 100000
theorem m_laws_FnUntwisting_fn {w : World} {a0 : Option Addr} {n0 c0 : Nat} {p0 : List Byte} {Q : Bool → Prop} (hp0 : Vw w.heap.size w a0 n0 c0 p0) (hm : m_laws_FnUntwisting p0 Q) :
    Fn Try.prog 13 #[.slice a0 n0 c0] w (fun v w' => ∃ (r0 : Bool), Q r0 ∧ v = .bool r0 ∧ Ext w w') := by
  unfold m_laws_FnUntwisting at hm
  have hB0 := Below.refl w.heap.size w
  have hS0 : Sep w w.heap.size [] := Sep.nil (Nat.le_refl _)
  refine fn_of_wp Try.func13 rfl (by kernel_rfl) (Nat.le_of_ble_eq_true rfl) ?_
  refine w_seq fun K1 hK1 => ?_
  refine w_region ?_
  refine wl_val (g_assign (v := .bool false) rfl) rfl ?_
  refine wl_nil ?_
  refine hK1 _ _ ?_
  refine w_seq fun K2 hK2 => ?_
  refine w_seq fun K3 hK3 => ?_
  refine w_region ?_
  refine wl_val (g_move (v := .slice a0 n0 c0) rfl) rfl ?_
  refine wl_step rfl (g_call (vs := #[.slice a0 n0 c0]) CF23 (args1 rfl) (m_laws_big_fn ((hp0.bel hB0).up hS0) hm)) ?_
  rintro _ w4 ⟨r7, hm, rfl, hE5⟩
  have hB8 := hB0.trans (Ext.stp hE5 hS0.base)
  have hS9 := hS0.ext hE5
  refine wl_nil ?_
  refine hK3 _ _ ?_
  refine w_condI (p := r7 = true) (b := r7) rfl Iff.rfl (fun h10 => ?_) (fun h10 => ?_)
  · replace hm := hm.1 h10
    refine w_seq fun K11 hK11 => ?_
    refine w_region ?_
    refine wl_val (g_assign (v := .bool true) rfl) rfl ?_
    refine wl_nil ?_
    refine hK11 _ _ ?_
    refine w_ret ?_
    repeat first | with_reducible refine q_then ?_ | with_reducible refine q_block ?_
    exact ret1 rfl (by decide) ⟨_, hm, rfl, toExt hB8⟩
  · replace hm := hm.2 h10
    refine w_skip ?_
    refine hK2 _ _ ?_
    refine w_seq fun K12 hK12 => ?_
    refine w_region ?_
    refine wl_val (g_move (v := .slice a0 n0 c0) rfl) rfl ?_
    refine wl_step rfl (g_call (vs := #[.slice a0 n0 c0]) CF49 (args1 rfl) (m_spec_DrawHome_fn ((hp0.bel hB8).up hS9) hm)) ?_
    rintro _ w13 ⟨r16, r17, a18, n19, c20, hm, rfl, hE14, hN15⟩
    have hS22 := hS9.call1 hE14 hN15
    have hB23 := hB8.trans (Ext.stp hE14 hS9.base)
    refine wl_val (g_move (v := .tuple #[.int .i64 r16, .slice a18 n19 c20]) rfl) rfl ?_
    refine wl_val (g_extract (vs := #[.int .i64 r16, .slice a18 n19 c20]) rfl rfl) rfl ?_
    refine wl_val (g_extract (vs := #[.int .i64 r16, .slice a18 n19 c20]) rfl rfl) rfl ?_
    refine wl_val (g_assign (v := .int .i64 r16) rfl) rfl ?_
    refine wl_val (g_assign (v := .slice a18 n19 c20) rfl) rfl ?_
    refine wl_nil ?_
    refine hK12 _ _ ?_
    refine w_seq fun K24 hK24 => ?_
    refine w_region ?_
    refine wl_val (g_move (v := .int .i64 r16) rfl) rfl ?_
    refine wl_val (g_move (v := .slice a18 n19 c20) rfl) rfl ?_
    refine wl_step rfl (g_call (vs := #[.int .i64 r16, .slice a18 n19 c20]) CF48 (args2 rfl rfl) (m_impl_UnwindAll_fn r16 (oS.vw hS22.g0) hm)) ?_
    rintro _ w25 ⟨r28, a29, n30, c31, r33, hm, rfl, hE26, hN27⟩
    have hS34 := hS22.call1 hE26 hN27
    have hB35 := hB23.trans (Ext.stp hE26 hS22.base)
    refine wl_val (g_move (v := .tuple #[.slice a29 n30 c31, .bool r33]) rfl) rfl ?_
    refine wl_val (g_extract (vs := #[.slice a29 n30 c31, .bool r33]) rfl rfl) rfl ?_
    refine wl_val (g_extract (vs := #[.slice a29 n30 c31, .bool r33]) rfl rfl) rfl ?_
    refine wl_val (g_assign (v := .slice a29 n30 c31) rfl) rfl ?_
    refine wl_val (g_assign (v := .bool r33) rfl) rfl ?_
    refine wl_nil ?_
    refine hK24 _ _ ?_
    refine w_seq fun K36 hK36 => ?_
    refine w_seq fun K37 hK37 => ?_
    refine w_region ?_
    refine wl_val (g_move (v := .bool r33) rfl) rfl ?_
    refine wl_val (g_not (a := r33) rfl) rfl ?_
    refine wl_nil ?_
    refine hK37 _ _ ?_
    refine w_condI (p := ¬ (r33 = true)) (b := (!r33)) rfl (i_not Iff.rfl) (fun h38 => ?_) (fun h38 => ?_)
    · replace hm := hm.1 h38
      refine w_seq fun K39 hK39 => ?_
      refine w_region ?_
      refine wl_val (g_assign (v := .bool false) rfl) rfl ?_
      refine wl_nil ?_
      refine hK39 _ _ ?_
      refine w_ret ?_
      repeat first | with_reducible refine q_then ?_ | with_reducible refine q_block ?_
      exact ret1 rfl (by decide) ⟨_, hm, rfl, toExt hB35⟩
    · replace hm := hm.2 h38
      refine w_skip ?_
      refine hK36 _ _ ?_
      refine w_seq fun K40 hK40 => ?_
      refine w_region ?_
      refine wl_val (g_move (v := .slice a18 n19 c20) rfl) rfl ?_
      refine wl_val (g_move (v := .slice a29 n30 c31) rfl) rfl ?_
      refine wl_step rfl (g_call (vs := #[.slice a18 n19 c20, .slice a29 n30 c31]) CF17 (args2 rfl rfl) (m_impl_JoinCrosses_fn (oS.vw hS34.g1) (oS.vw hS34.g0) hm)) ?_
      rintro _ w41 ⟨r44, a45, n46, c47, hm, rfl, hE42, hN43⟩
      have hS49 := hS34.call1 hE42 hN43
      have hB50 := hB35.trans (Ext.stp hE42 hS34.base)
      refine wl_val (g_assign (v := .slice a45 n46 c47) rfl) rfl ?_
      refine wl_nil ?_
      refine hK40 _ _ ?_
      refine w_seq fun K51 hK51 => ?_
      refine w_seq fun K52 hK52 => ?_
      refine w_region ?_
      refine wl_val (g_move (v := .slice a45 n46 c47) rfl) rfl ?_
      refine wl_val (q_len SL24 rfl (Vw.len (oS.vw hS49.g0))) rfl ?_
      refine wl_val (g_move (v := .slice a18 n19 c20) rfl) rfl ?_
      refine wl_val (q_len SL24 rfl (Vw.len (oS.vw hS49.g2))) rfl ?_
      refine wl_val (g_move (v := .slice a29 n30 c31) rfl) rfl ?_
      refine wl_val (q_len SL24 rfl (Vw.len (oS.vw hS49.g1))) rfl ?_
      obtain ⟨hg53, hm⟩ := hm
      refine wl_val (g_add (a := (r17.length : Int)) (b := (r28.length : Int)) rfl rfl hg53) rfl ?_
      refine wl_val (g_neq (a := (r44.length : Int)) (b := ((r17.length : Int) + (r28.length : Int))) rfl rfl) rfl ?_
      refine wl_nil ?_
      refine hK52 _ _ ?_
      refine w_condI (p := (r44.length : Int) ≠ ((r17.length : Int) + (r28.length : Int))) (b := (decide ((r44.length : Int) ≠ ((r17.length : Int) + (r28.length : Int))))) rfl decide_eq_true_iff (fun h54 => ?_) (fun h54 => ?_)
      · replace hm := hm.1 h54
        refine w_seq fun K55 hK55 => ?_
        refine w_region ?_
        refine wl_val (g_assign (v := .bool false) rfl) rfl ?_
        refine wl_nil ?_
        refine hK55 _ _ ?_
        refine w_ret ?_
        repeat first | with_reducible refine q_then ?_ | with_reducible refine q_block ?_
        exact ret1 rfl (by decide) ⟨_, hm, rfl, toExt hB50⟩
      · replace hm := hm.2 h54
        refine w_skip ?_
        refine hK51 _ _ ?_
        refine w_seq fun K56 hK56 => ?_
        refine w_seq fun K57 hK57 => ?_
        refine w_region ?_
        refine wl_val (g_move (v := .slice a45 n46 c47) rfl) rfl ?_
        refine wl_val (q_len SL24 rfl (Vw.len (oS.vw hS49.g0))) rfl ?_
        refine wl_val (g_leq (a := (r44.length : Int)) (b := 40) rfl rfl) rfl ?_
        refine wl_val (g_move (v := .bool (decide ((r44.length : Int) ≤ 40))) rfl) rfl ?_
        refine wl_guard (c := (decide ((r44.length : Int) ≤ 40)) = true) (val := .int .i64 r16) (b := ((decide ((r44.length : Int) ≤ 40)) == true)) (gv_some rfl rfl rfl) beq_iff_eq (fun hc58 => ?_) ?_
        · have hcq0 : (r44.length : Int) ≤ 40 := (decide_eq_true_iff.mp hc58)
          exact g_move (v := .int .i64 r16) rfl
        refine wl_guard (c := (decide ((r44.length : Int) ≤ 40)) = true) (val := .slice a45 n46 c47) (b := ((decide ((r44.length : Int) ≤ 40)) == true)) (gv_some rfl rfl rfl) beq_iff_eq (fun hc59 => ?_) ?_
        · have hcq0 : (r44.length : Int) ≤ 40 := (decide_eq_true_iff.mp hc59)
          exact g_move (v := .slice a45 n46 c47) rfl
        obtain ⟨r61, hk62, hm⟩ := hm
        refine wl_guardE (X := Ext) (c := (decide ((r44.length : Int) ≤ 40)) = true) (val := .bool r61) (Ext.refl _) (b := ((decide ((r44.length : Int) ≤ 40)) == true)) (gv_some rfl rfl rfl) beq_iff_eq (fun hc60 => ?_) (fun w63 hE64 => ?_)
        · have hcq0 : (r44.length : Int) ≤ 40 := (decide_eq_true_iff.mp hc60)
          exact (g_call (vs := #[.int .i64 r16, .slice a45 n46 c47]) CF43 (args2 (if_pos hc60) (if_pos hc60)) ((m_spec_IsUntwisted_fn r16 (oS.vw hS49.g0) (hk62 hcq0)).mono fun _ _ ⟨_, h1, h2, h3⟩ => ⟨by rw [h2, h1], h3⟩))
        have hB65 := hB50.trans (Ext.stp hE64 hS49.base)
        have hS66 := hS49.ext hE64
        refine wl_guard (c := (decide ((r44.length : Int) ≤ 40)) = true) (val := .bool (!r61)) (b := ((decide ((r44.length : Int) ≤ 40)) == true)) (gv_some rfl rfl rfl) beq_iff_eq (fun hc67 => ?_) ?_
        · have hcq0 : (r44.length : Int) ≤ 40 := (decide_eq_true_iff.mp hc67)
          exact g_not (a := r61) (if_pos hc67)
        refine wl_val (g_pick_and (b := (decide ((r44.length : Int) ≤ 40))) (q := (!r61)) rfl rfl) rfl ?_
        refine wl_nil ?_
        refine hK57 _ _ ?_
        refine w_condI (p := (((r44.length : Int) ≤ 40) ∧ (¬ (r61 = true)))) (b := ((decide ((r44.length : Int) ≤ 40)) && (!r61))) rfl (i_and decide_eq_true_iff (i_not Iff.rfl)) (fun h68 => ?_) (fun h68 => ?_)
        · replace hm := hm.1 h68
          refine w_seq fun K69 hK69 => ?_
          refine w_region ?_
          refine wl_val (g_assign (v := .bool false) rfl) rfl ?_
          refine wl_nil ?_
          refine hK69 _ _ ?_
          refine w_ret ?_
          repeat first | with_reducible refine q_then ?_ | with_reducible refine q_block ?_
          exact ret1 rfl (by decide) ⟨_, hm, rfl, toExt hB65⟩
        · replace hm := hm.2 h68
          refine w_skip ?_
          refine hK56 _ _ ?_
          refine w_seq fun K70 hK70 => ?_
          refine w_region ?_
          refine wl_val (g_move (v := .slice a0 n0 c0) rfl) rfl ?_
          refine wl_step rfl (g_call (vs := #[.slice a0 n0 c0, .int .i64 0]) CF50 (args2 rfl rfl) (m_laws_at_fn ((hp0.bel hB65).up hS66) 0 hm)) ?_
          rintro _ w71 ⟨r74, hm, rfl, hE72⟩
          have hB75 := hB65.trans (Ext.stp hE72 hS66.base)
          have hS76 := hS66.ext hE72
          refine wl_val (g_move (v := .int .i64 r16) rfl) rfl ?_
          obtain ⟨hg77, hm⟩ := hm
          refine wl_val (g_sub (a := r16) (b := 1) rfl rfl hg77) rfl ?_
          obtain ⟨hg78, hm⟩ := hm
          refine wl_val (g_rem (a := r74) (b := (r16 - 1)) rfl rfl hg78) rfl ?_
          obtain ⟨hg79, hm⟩ := hm
          refine wl_val (g_add (a := 1) (b := (Int.tmod r74 (r16 - 1))) rfl rfl hg79) rfl ?_
          refine wl_val (g_assign (v := .int .i64 (1 + (Int.tmod r74 (r16 - 1)))) rfl) rfl ?_
          refine wl_nil ?_
          refine hK70 _ _ ?_
          refine w_seq fun K80 hK80 => ?_
          refine w_region ?_
          refine wl_val (g_move (v := .slice a0 n0 c0) rfl) rfl ?_
          refine wl_step rfl (g_call (vs := #[.slice a0 n0 c0, .int .i64 1]) CF50 (args2 rfl rfl) (m_laws_at_fn ((hp0.bel hB75).up hS76) 1 hm)) ?_
          rintro _ w81 ⟨r84, hm, rfl, hE82⟩
          have hB85 := hB75.trans (Ext.stp hE82 hS76.base)
          have hS86 := hS76.ext hE82
          refine wl_val (g_move (v := .int .i64 (1 + (Int.tmod r74 (r16 - 1)))) rfl) rfl ?_
          obtain ⟨hg87, hm⟩ := hm
          refine wl_val (g_rem (a := r84) (b := (1 + (Int.tmod r74 (r16 - 1)))) rfl rfl hg87) rfl ?_
          refine wl_val (g_assign (v := .int .i64 (Int.tmod r84 (1 + (Int.tmod r74 (r16 - 1))))) rfl) rfl ?_
          refine wl_nil ?_
          refine hK80 _ _ ?_
          refine w_seq fun K88 hK88 => ?_
          refine w_region ?_
          refine wl_val (g_move (v := .int .i64 r16) rfl) rfl ?_
          refine wl_val (g_move (v := .int .i64 (Int.tmod r84 (1 + (Int.tmod r74 (r16 - 1))))) rfl) rfl ?_
          refine wl_val (g_move (v := .int .i64 (1 + (Int.tmod r74 (r16 - 1)))) rfl) rfl ?_
          refine wl_step rfl (g_call (vs := #[.int .i64 r16, .int .i64 (Int.tmod r84 (1 + (Int.tmod r74 (r16 - 1)))), .int .i64 (1 + (Int.tmod r74 (r16 - 1))), .bool true]) CF22 (args4 rfl rfl rfl rfl) (m_impl_FullTurn_fn r16 (Int.tmod r84 (1 + (Int.tmod r74 (r16 - 1)))) (1 + (Int.tmod r74 (r16 - 1))) true hm)) ?_
          rintro _ w89 ⟨r92, a93, n94, c95, r97, hm, rfl, hE90, hN91⟩
          have hS98 := hS86.call1 hE90 hN91
          have hB99 := hB85.trans (Ext.stp hE90 hS86.base)
          refine wl_val (g_move (v := .tuple #[.slice a93 n94 c95, .bool r97]) rfl) rfl ?_
          refine wl_val (g_extract (vs := #[.slice a93 n94 c95, .bool r97]) rfl rfl) rfl ?_
          refine wl_val (g_extract (vs := #[.slice a93 n94 c95, .bool r97]) rfl rfl) rfl ?_
          refine wl_val (g_assign (v := .slice a93 n94 c95) rfl) rfl ?_
          refine wl_val (g_assign (v := .bool r97) rfl) rfl ?_
          refine wl_nil ?_
          refine hK88 _ _ ?_
          refine w_seq fun K100 hK100 => ?_
          refine w_region ?_
          refine wl_val (g_move (v := .int .i64 r16) rfl) rfl ?_
          refine wl_val (g_move (v := .slice a93 n94 c95) rfl) rfl ?_
          refine wl_step rfl (g_call (vs := #[.int .i64 r16, .slice a93 n94 c95]) CF39 (args2 rfl rfl) (m_spec_TwistTable_fn r16 (oS.vw hS98.g0) hm)) ?_
          rintro _ w101 ⟨r104, a105, n106, c107, y108, hm, he109, rfl, hE102, hN103⟩
          have hS113 := hS98.call2 hE102 hN103
          have hB114 := hB99.trans (Ext.stp hE102 hS98.base)
          refine wl_val (g_assign (v := .slice a105 n106 c107) rfl) rfl ?_
          refine wl_nil ?_
          refine hK100 _ _ ?_
          refine w_seq fun K115 hK115 => ?_
          refine w_seq fun K116 hK116 => ?_
          refine w_region ?_
          refine wl_val (g_move (v := .bool r97) rfl) rfl ?_
          refine wl_val (g_not (a := r97) rfl) rfl ?_
          refine wl_val (g_move (v := .bool (!r97)) rfl) rfl ?_
          refine wl_guard (c := (!r97) = false) (val := .slice a93 n94 c95) (b := ((!r97) == false)) (gv_some rfl rfl rfl) beq_iff_eq (fun hc117 => ?_) ?_
          · have hcq1 : ¬ (¬ (r97 = true)) := (i_neg (i_not Iff.rfl) hc117)
            exact g_move (v := .slice a93 n94 c95) rfl
          refine wl_guard (c := (!r97) = false) (val := .int .i64 (r92.length : Int)) (b := ((!r97) == false)) (gv_some rfl rfl rfl) beq_iff_eq (fun hc118 => ?_) ?_
          · have hcq1 : ¬ (¬ (r97 = true)) := (i_neg (i_not Iff.rfl) hc118)
            exact q_len SL24 (if_pos hc118) (Vw.len (oS.vw hS113.g2))
          refine wl_guard (c := (!r97) = false) (val := .int .i64 (1 + (Int.tmod r74 (r16 - 1)))) (b := ((!r97) == false)) (gv_some rfl rfl rfl) beq_iff_eq (fun hc119 => ?_) ?_
          · have hcq1 : ¬ (¬ (r97 = true)) := (i_neg (i_not Iff.rfl) hc119)
            exact g_move (v := .int .i64 (1 + (Int.tmod r74 (r16 - 1)))) rfl
          refine wl_guard (c := (!r97) = false) (val := .int .i64 (Int.tmod r84 (1 + (Int.tmod r74 (r16 - 1))))) (b := ((!r97) == false)) (gv_some rfl rfl rfl) beq_iff_eq (fun hc120 => ?_) ?_
          · have hcq1 : ¬ (¬ (r97 = true)) := (i_neg (i_not Iff.rfl) hc120)
            exact g_move (v := .int .i64 (Int.tmod r84 (1 + (Int.tmod r74 (r16 - 1))))) rfl
          obtain ⟨hg122, hm⟩ := hm
          refine wl_guard (c := (!r97) = false) (val := .int .i64 ((1 + (Int.tmod r74 (r16 - 1))) - (Int.tmod r84 (1 + (Int.tmod r74 (r16 - 1)))))) (b := ((!r97) == false)) (gv_some rfl rfl rfl) beq_iff_eq (fun hc121 => ?_) ?_
          · have hcq1 : ¬ (¬ (r97 = true)) := (i_neg (i_not Iff.rfl) hc121)
            exact g_sub (a := (1 + (Int.tmod r74 (r16 - 1)))) (b := (Int.tmod r84 (1 + (Int.tmod r74 (r16 - 1))))) (if_pos hc121) (if_pos hc121) (hg122 hcq1)
          obtain ⟨hg124, hm⟩ := hm
          refine wl_guard (c := (!r97) = false) (val := .int .i64 (2 * ((1 + (Int.tmod r74 (r16 - 1))) - (Int.tmod r84 (1 + (Int.tmod r74 (r16 - 1))))))) (b := ((!r97) == false)) (gv_some rfl rfl rfl) beq_iff_eq (fun hc123 => ?_) ?_
          · have hcq1 : ¬ (¬ (r97 = true)) := (i_neg (i_not Iff.rfl) hc123)
            exact g_mul (a := 2) (b := ((1 + (Int.tmod r74 (r16 - 1))) - (Int.tmod r84 (1 + (Int.tmod r74 (r16 - 1)))))) rfl (if_pos hc123) (hg124 hcq1)
          refine wl_guard (c := (!r97) = false) (val := .bool (decide ((r92.length : Int) ≠ (2 * ((1 + (Int.tmod r74 (r16 - 1))) - (Int.tmod r84 (1 + (Int.tmod r74 (r16 - 1))))))))) (b := ((!r97) == false)) (gv_some rfl rfl rfl) beq_iff_eq (fun hc125 => ?_) ?_
          · have hcq1 : ¬ (¬ (r97 = true)) := (i_neg (i_not Iff.rfl) hc125)
            exact g_neq (a := (r92.length : Int)) (b := (2 * ((1 + (Int.tmod r74 (r16 - 1))) - (Int.tmod r84 (1 + (Int.tmod r74 (r16 - 1))))))) (if_pos hc125) (if_pos hc125)
          refine wl_val (g_pick_or (b := (!r97)) (q := (decide ((r92.length : Int) ≠ (2 * ((1 + (Int.tmod r74 (r16 - 1))) - (Int.tmod r84 (1 + (Int.tmod r74 (r16 - 1))))))))) rfl rfl) rfl ?_
          refine wl_val (g_move (v := .bool ((!r97) || (decide ((r92.length : Int) ≠ (2 * ((1 + (Int.tmod r74 (r16 - 1))) - (Int.tmod r84 (1 + (Int.tmod r74 (r16 - 1)))))))))) rfl) rfl ?_
          refine wl_guard (c := ((!r97) || (decide ((r92.length : Int) ≠ (2 * ((1 + (Int.tmod r74 (r16 - 1))) - (Int.tmod r84 (1 + (Int.tmod r74 (r16 - 1))))))))) = false) (val := .slice a105 n106 c107) (b := (((!r97) || (decide ((r92.length : Int) ≠ (2 * ((1 + (Int.tmod r74 (r16 - 1))) - (Int.tmod r84 (1 + (Int.tmod r74 (r16 - 1))))))))) == false)) (gv_some rfl rfl rfl) beq_iff_eq (fun hc126 => ?_) ?_
          · have hcq2 : ¬ (((¬ (r97 = true)) ∨ ((r92.length : Int) ≠ (2 * ((1 + (Int.tmod r74 (r16 - 1))) - (Int.tmod r84 (1 + (Int.tmod r74 (r16 - 1))))))))) := (i_neg (i_or (i_not Iff.rfl) decide_eq_true_iff) hc126)
            exact g_move (v := .slice a105 n106 c107) rfl
          refine wl_guard (c := ((!r97) || (decide ((r92.length : Int) ≠ (2 * ((1 + (Int.tmod r74 (r16 - 1))) - (Int.tmod r84 (1 + (Int.tmod r74 (r16 - 1))))))))) = false) (val := .int .i64 (r104.length : Int)) (b := (((!r97) || (decide ((r92.length : Int) ≠ (2 * ((1 + (Int.tmod r74 (r16 - 1))) - (Int.tmod r84 (1 + (Int.tmod r74 (r16 - 1))))))))) == false)) (gv_some rfl rfl rfl) beq_iff_eq (fun hc127 => ?_) ?_
          · have hcq2 : ¬ (((¬ (r97 = true)) ∨ ((r92.length : Int) ≠ (2 * ((1 + (Int.tmod r74 (r16 - 1))) - (Int.tmod r84 (1 + (Int.tmod r74 (r16 - 1))))))))) := (i_neg (i_or (i_not Iff.rfl) decide_eq_true_iff) hc127)
            exact q_len SL37 (if_pos hc127) (Tv.len (oT.vw hS113.g0 hS113.g1 he109))
          refine wl_guard (c := ((!r97) || (decide ((r92.length : Int) ≠ (2 * ((1 + (Int.tmod r74 (r16 - 1))) - (Int.tmod r84 (1 + (Int.tmod r74 (r16 - 1))))))))) = false) (val := .int .i64 r16) (b := (((!r97) || (decide ((r92.length : Int) ≠ (2 * ((1 + (Int.tmod r74 (r16 - 1))) - (Int.tmod r84 (1 + (Int.tmod r74 (r16 - 1))))))))) == false)) (gv_some rfl rfl rfl) beq_iff_eq (fun hc128 => ?_) ?_
          · have hcq2 : ¬ (((¬ (r97 = true)) ∨ ((r92.length : Int) ≠ (2 * ((1 + (Int.tmod r74 (r16 - 1))) - (Int.tmod r84 (1 + (Int.tmod r74 (r16 - 1))))))))) := (i_neg (i_or (i_not Iff.rfl) decide_eq_true_iff) hc128)
            exact g_move (v := .int .i64 r16) rfl
          refine wl_guard (c := ((!r97) || (decide ((r92.length : Int) ≠ (2 * ((1 + (Int.tmod r74 (r16 - 1))) - (Int.tmod r84 (1 + (Int.tmod r74 (r16 - 1))))))))) = false) (val := .bool (decide ((r104.length : Int) ≠ r16))) (b := (((!r97) || (decide ((r92.length : Int) ≠ (2 * ((1 + (Int.tmod r74 (r16 - 1))) - (Int.tmod r84 (1 + (Int.tmod r74 (r16 - 1))))))))) == false)) (gv_some rfl rfl rfl) beq_iff_eq (fun hc129 => ?_) ?_
          · have hcq2 : ¬ (((¬ (r97 = true)) ∨ ((r92.length : Int) ≠ (2 * ((1 + (Int.tmod r74 (r16 - 1))) - (Int.tmod r84 (1 + (Int.tmod r74 (r16 - 1))))))))) := (i_neg (i_or (i_not Iff.rfl) decide_eq_true_iff) hc129)
            exact g_neq (a := (r104.length : Int)) (b := r16) (if_pos hc129) (if_pos hc129)
          refine wl_val (g_pick_or (b := ((!r97) || (decide ((r92.length : Int) ≠ (2 * ((1 + (Int.tmod r74 (r16 - 1))) - (Int.tmod r84 (1 + (Int.tmod r74 (r16 - 1)))))))))) (q := (decide ((r104.length : Int) ≠ r16))) rfl rfl) rfl ?_
          refine wl_val (g_move (v := .bool (((!r97) || (decide ((r92.length : Int) ≠ (2 * ((1 + (Int.tmod r74 (r16 - 1))) - (Int.tmod r84 (1 + (Int.tmod r74 (r16 - 1))))))))) || (decide ((r104.length : Int) ≠ r16)))) rfl) rfl ?_
          by_cases hc130 : (((!r97) || (decide ((r92.length : Int) ≠ (2 * ((1 + (Int.tmod r74 (r16 - 1))) - (Int.tmod r84 (1 + (Int.tmod r74 (r16 - 1))))))))) || (decide ((r104.length : Int) ≠ r16))) = false
          · replace hm := hm.1 (i_neg (i_or (i_or (i_not Iff.rfl) decide_eq_true_iff) decide_eq_true_iff) hc130)
            refine wl_valT (g_move (v := .int .i64 r16) rfl) (gv_T (gv_some rfl rfl rfl) hc130) ?_
            refine wl_valT (g_move (v := .slice a93 n94 c95) rfl) (gv_T (gv_some rfl rfl rfl) hc130) ?_
            refine wl_stepT (gv_T (gv_some rfl rfl rfl) hc130) (g_call (vs := #[.int .i64 r16, .slice a93 n94 c95]) CF26 (args2 rfl rfl) (m_spec_OrderAfter_fn r16 (oS.vw hS113.g2) hm)) ?_
            rintro _ w131 ⟨r134, a135, n136, c137, hm, rfl, hE132, hN133⟩
            have hS139 := hS113.call1 hE132 hN133
            have hB140 := hB114.trans (Ext.stp hE132 hS113.base)
            refine wl_stepT (gv_T (gv_some rfl rfl rfl) hc130) (g_call (vs := #[.slice a135 n136 c137]) CF36 (args1 rfl) (m_spec_CountInversions_fn (oS.vw hS139.g0) hm)) ?_
            rintro _ w141 ⟨r144, hm, rfl, hE142⟩
            have hB145 := hB140.trans (Ext.stp hE142 hS139.base)
            have hS146 := hS139.ext hE142
            refine wl_valT (g_neq (a := r144) (b := 0) rfl rfl) (gv_T (gv_some rfl rfl rfl) hc130) ?_
            refine wl_val (g_pickF (b := (((!r97) || (decide ((r92.length : Int) ≠ (2 * ((1 + (Int.tmod r74 (r16 - 1))) - (Int.tmod r84 (1 + (Int.tmod r74 (r16 - 1))))))))) || (decide ((r104.length : Int) ≠ r16)))) rfl hc130 rfl) rfl ?_
            refine wl_nil ?_
            refine hK116 _ _ ?_
            refine w_condI (p := r144 ≠ 0) (b := (decide (r144 ≠ 0))) rfl decide_eq_true_iff (fun h147 => ?_) (fun h147 => ?_)
            · replace hm := hm.1 h147
              refine w_seq fun K148 hK148 => ?_
              refine w_region ?_
              refine wl_val (g_assign (v := .bool false) rfl) rfl ?_
              refine wl_nil ?_
              refine hK148 _ _ ?_
              refine w_ret ?_
              repeat first | with_reducible refine q_then ?_ | with_reducible refine q_block ?_
              exact ret1 rfl (by decide) ⟨_, hm, rfl, toExt hB145⟩
            · replace hm := hm.2 h147
              refine w_skip ?_
              refine hK115 _ _ ?_
              refine w_cut (σ := Unit) (fun _ => [(0, .slice a0 n0 c0), (3, .int .i64 r16), (4, .slice a18 n19 c20)]) (fun _ w' => m_laws_FnUntwisting_K1 p0 r16 r17 Q ∧ Below w.heap.size w w' ∧ Sep w' w.heap.size [oS 56 a18 n19 c20 (r17 : List Cross)]) ?_ ?_
              · refine w_seq fun K150 hK150 => ?_
                refine w_region ?_
                refine wl_val (g_assign (v := .int .i64 0) rfl) rfl ?_
                refine wl_nil ?_
                refine hK150 _ _ ?_
                refine w_block ?_
                have hS388 := hS146.tail
                have hS389 := hS388.f2
                have hS390 := hS389.tail
                have hS391 := hS390.f2
                have hS392 := hS391.tail
                have hS393 := hS392.f2
                have hS394 := hS393.tail
                have hS395 := hS394.f1
                have hS396 := hS395.f1
                have hS397 := hS396.f2
                obtain ⟨I398, μ399, h0400, hr401⟩ := hm
                refine w_for (σ := Int) (fun v387 => [(0, .slice a0 n0 c0), (3, .int .i64 r16), (4, .slice a18 n19 c20), (8, .int .i64 (1 + (Int.tmod r74 (r16 - 1)))), (9, .int .i64 (Int.tmod r84 (1 + (Int.tmod r74 (r16 - 1))))), (12, .slice a105 n106 c107), (13, .int .i64 v387)]) (fun v387 w' => I398 v387 ∧ Below w.heap.size w w' ∧ Sep w' w.heap.size [oS 56 a18 n19 c20 (r17 : List Cross), oS 39 a105 n106 c107 (y108 : List (Hd Int)), oT 3 (y108 : List (Hd Int))]) (fun v387 => μ399 v387) (0) ⟨rfl, rfl, rfl, rfl, rfl, rfl, rfl, trivial⟩ ⟨h0400, hB145, hS397⟩ ?_
                rintro v387 b_ w402 ⟨hi_, hB403, hS404⟩
                show Wp _ _ _ _ (upds b_ [(0, .slice a0 n0 c0), (3, .int .i64 r16), (4, .slice a18 n19 c20), (8, .int .i64 (1 + (Int.tmod r74 (r16 - 1)))), (9, .int .i64 (Int.tmod r84 (1 + (Int.tmod r74 (r16 - 1))))), (12, .slice a105 n106 c107), (13, .int .i64 v387)]) w402
                have hm := hr401 v387 hi_
                refine w_seq fun K406 hK406 => ?_
                refine w_seq fun K407 hK407 => ?_
                refine w_region ?_
                refine wl_val (g_move (v := .int .i64 v387) rfl) rfl ?_
                refine wl_val (g_move (v := .int .i64 r16) rfl) rfl ?_
                refine wl_val (g_lss (a := v387) (b := r16) rfl rfl) rfl ?_
                refine wl_nil ?_
                refine hK407 _ _ ?_
                refine w_condI (p := v387 < r16) (b := (decide (v387 < r16))) rfl decide_eq_true_iff (fun h408 => ?_) (fun h408 => ?_)
                · replace hm := hm.1 h408
                  refine w_skip ?_
                  refine hK406 _ _ ?_
                  refine w_cut (σ := Unit) (fun _ => [(0, .slice a0 n0 c0), (3, .int .i64 r16), (4, .slice a18 n19 c20), (8, .int .i64 (1 + (Int.tmod r74 (r16 - 1)))), (9, .int .i64 (Int.tmod r84 (1 + (Int.tmod r74 (r16 - 1))))), (12, .slice a105 n106 c107), (13, .int .i64 v387)]) (fun _ w' => m_laws_FnUntwisting_K0 v387 (fun v387' => I398 v387' ∧ μ399 v387' < μ399 v387) ∧ Below w.heap.size w w' ∧ Sep w' w.heap.size [oS 56 a18 n19 c20 (r17 : List Cross), oS 39 a105 n106 c107 (y108 : List (Hd Int)), oT 3 (y108 : List (Hd Int))]) ?_ ?_
                  · refine w_block ?_
                    refine w_seq fun K410 hK410 => ?_
                    refine w_region ?_
                    refine wl_val (g_assign (v := .int .i64 0) rfl) rfl ?_
                    refine wl_nil ?_
                    refine hK410 _ _ ?_
                    refine w_block ?_
                    obtain ⟨I412, μ413, h0414, hr415⟩ := hm
                    refine w_for (σ := Int) (fun v411 => [(0, .slice a0 n0 c0), (3, .int .i64 r16), (4, .slice a18 n19 c20), (8, .int .i64 (1 + (Int.tmod r74 (r16 - 1)))), (9, .int .i64 (Int.tmod r84 (1 + (Int.tmod r74 (r16 - 1))))), (12, .slice a105 n106 c107), (13, .int .i64 v387), (14, .int .i64 v411)]) (fun v411 w' => I412 v411 ∧ Below w.heap.size w w' ∧ Sep w' w.heap.size [oS 56 a18 n19 c20 (r17 : List Cross), oS 39 a105 n106 c107 (y108 : List (Hd Int)), oT 3 (y108 : List (Hd Int))]) (fun v411 => μ413 v411) (0) ⟨rfl, rfl, rfl, rfl, rfl, rfl, rfl, rfl, trivial⟩ ⟨h0414, hB403, hS404⟩ ?_
                    rintro v411 b_ w416 ⟨hi_, hB417, hS418⟩
                    show Wp _ _ _ _ (upds b_ [(0, .slice a0 n0 c0), (3, .int .i64 r16), (4, .slice a18 n19 c20), (8, .int .i64 (1 + (Int.tmod r74 (r16 - 1)))), (9, .int .i64 (Int.tmod r84 (1 + (Int.tmod r74 (r16 - 1))))), (12, .slice a105 n106 c107), (13, .int .i64 v387), (14, .int .i64 v411)]) w416
                    have hm := hr415 v411 hi_
                    refine w_seq fun K420 hK420 => ?_
                    refine w_seq fun K421 hK421 => ?_
                    refine w_region ?_
                    refine wl_val (g_move (v := .int .i64 v411) rfl) rfl ?_
                    refine wl_val (g_move (v := .int .i64 v387) rfl) rfl ?_
                    refine wl_val (g_lss (a := v411) (b := v387) rfl rfl) rfl ?_
                    refine wl_nil ?_
                    refine hK421 _ _ ?_
                    refine w_condI (p := v411 < v387) (b := (decide (v411 < v387))) rfl decide_eq_true_iff (fun h422 => ?_) (fun h422 => ?_)
                    · replace hm := hm.1 h422
                      refine w_skip ?_
                      refine hK420 _ _ ?_
                      refine w_seq fun K423 hK423 => ?_
                      refine w_block ?_
                      refine w_seq fun K424 hK424 => ?_
                      refine w_draw (X := Ext) (Y := Ext) [] MIX (by decide +kernel) rfl Ext.refl (fun _ _ _ => Ext.trans) (fun _ _ _ => Chg.trans) (fun _ _ h => Ext.chg h _) (fun w425 hE426 => ?_)
                      have hB427 := hB417.trans (Ext.stp hE426 hS418.base)
                      have hS428 := hS418.ext hE426
                      refine ⟨.slice a105 n106 c107, fun w429 hX430 => od_plain rfl (by have hS431 := hS428.ext hX430; have hB432 := hB427.trans (Ext.stp hX430 hS428.base); exact is_ext (g_move (v := .slice a105 n106 c107) rfl)), ?_⟩
                      refine ⟨.int .i64 v387, fun w433 hX434 => od_plain rfl (by have hS435 := hS428.ext hX434; have hB436 := hB427.trans (Ext.stp hX434 hS428.base); exact is_ext (g_move (v := .int .i64 v387) rfl)), ?_⟩
                      obtain ⟨hg441, hm⟩ := hm
                      refine ⟨.pointer (some ((adr a105).add ((Int.toNat v387) * El.m (Hd Int)))), fun w437 hX438 => od_plain rfl (by have hS439 := hS428.ext hX438; have hB440 := hB427.trans (Ext.stp hX438 hS428.base); exact is_ext (q_index (i := v387) SL37 rfl rfl (Tv.o (oT.vw hS439.g1 hS439.g2 he109)) (Tv.g (oT.vw hS439.g1 hS439.g2 he109) hg441))), ?_⟩
                      refine ⟨.slice ((y108[(Int.toNat v387)]!).1) ((y108[(Int.toNat v387)]!).2.2.length) ((y108[(Int.toNat v387)]!).2.1), fun w442 hX443 => od_plain rfl (by have hS444 := hS428.ext hX443; have hB445 := hB427.trans (Ext.stp hX443 hS428.base); exact is_ext (q_load (i := v387) (v := .slice ((y108[(Int.toNat v387)]!).1) ((y108[(Int.toNat v387)]!).2.2.length) ((y108[(Int.toNat v387)]!).2.1)) ON39 (Tv.o (oT.vw hS444.g1 hS444.g2 he109)) (Tv.g (oT.vw hS444.g1 hS444.g2 he109) hg441) rfl rfl)), ?_⟩
                      refine ⟨.int .i64 v411, fun w446 hX447 => od_plain rfl (by have hS448 := hS428.ext hX447; have hB449 := hB427.trans (Ext.stp hX447 hS428.base); exact is_ext (g_move (v := .int .i64 v411) rfl)), ?_⟩
                      obtain ⟨hg454, hm⟩ := hm
                      refine ⟨.pointer (some ((adr ((y108[(Int.toNat v387)]!).1)).add ((Int.toNat v411) * El.m Int))), fun w450 hX451 => od_plain rfl (by have hS452 := hS428.ext hX451; have hB453 := hB427.trans (Ext.stp hX451 hS428.base); exact is_ext (q_index (i := v411) SL39 rfl rfl (Tv.row (oT.vw hS452.g1 hS452.g2 he109) hg441) hg454)), ?_⟩
                      refine ⟨.int .i64 ((r104[(Int.toNat v387)]!)[(Int.toNat v411)]!), fun w455 hX456 => od_plain rfl (by have hS457 := hS428.ext hX456; have hB458 := hB427.trans (Ext.stp hX456 hS428.base); exact is_ext (q_load (i := v411) (v := .int .i64 ((r104[(Int.toNat v387)]!)[(Int.toNat v411)]!)) ON3 (Tv.row (oT.vw hS457.g1 hS457.g2 he109) hg441) hg454 rfl rfl)), ?_⟩
                      refine ⟨.int .i64 v387, fun w459 hX460 => od_plain rfl (by have hS461 := hS428.ext hX460; have hB462 := hB427.trans (Ext.stp hX460 hS428.base); exact is_ext (g_move (v := .int .i64 v387) rfl)), ?_⟩
                      refine ⟨.int .i64 (1 + (Int.tmod r74 (r16 - 1))), fun w463 hX464 => od_plain rfl (by have hS465 := hS428.ext hX464; have hB466 := hB427.trans (Ext.stp hX464 hS428.base); exact is_ext (g_move (v := .int .i64 (1 + (Int.tmod r74 (r16 - 1)))) rfl)), ?_⟩
                      refine ⟨.bool (decide (v387 = (1 + (Int.tmod r74 (r16 - 1))))), fun w467 hX468 => od_plain rfl (by have hS469 := hS428.ext hX468; have hB470 := hB427.trans (Ext.stp hX468 hS428.base); exact is_ext (g_eql (a := v387) (b := (1 + (Int.tmod r74 (r16 - 1)))) rfl rfl)), ?_⟩
                      refine ⟨.bool (decide (v387 = (1 + (Int.tmod r74 (r16 - 1))))), fun w471 hX472 => od_plain rfl (by have hS473 := hS428.ext hX472; have hB474 := hB427.trans (Ext.stp hX472 hS428.base); exact is_ext (g_move (v := .bool (decide (v387 = (1 + (Int.tmod r74 (r16 - 1)))))) rfl)), ?_⟩
                      refine ⟨if (decide (v387 = (1 + (Int.tmod r74 (r16 - 1))))) = true then .int .i64 v411 else undef, fun w475 hX476 => od_guard (c := (decide (v387 = (1 + (Int.tmod r74 (r16 - 1))))) = true) (val := .int .i64 v411) (b := ((decide (v387 = (1 + (Int.tmod r74 (r16 - 1))))) == true)) (gv_some rfl rfl rfl) beq_iff_eq (fun hc479 => ?_), ?_⟩
                      · have hS477 := hS428.ext hX476
                        have hB478 := hB427.trans (Ext.stp hX476 hS428.base)
                        have hcq4 : v387 = (1 + (Int.tmod r74 (r16 - 1))) := (decide_eq_true_iff.mp hc479)
                        exact is_ext (g_move (v := .int .i64 v411) rfl)
                      refine ⟨if (decide (v387 = (1 + (Int.tmod r74 (r16 - 1))))) = true then .int .i64 (Int.tmod r84 (1 + (Int.tmod r74 (r16 - 1)))) else undef, fun w480 hX481 => od_guard (c := (decide (v387 = (1 + (Int.tmod r74 (r16 - 1))))) = true) (val := .int .i64 (Int.tmod r84 (1 + (Int.tmod r74 (r16 - 1))))) (b := ((decide (v387 = (1 + (Int.tmod r74 (r16 - 1))))) == true)) (gv_some rfl rfl rfl) beq_iff_eq (fun hc484 => ?_), ?_⟩
                      · have hS482 := hS428.ext hX481
                        have hB483 := hB427.trans (Ext.stp hX481 hS428.base)
                        have hcq4 : v387 = (1 + (Int.tmod r74 (r16 - 1))) := (decide_eq_true_iff.mp hc484)
                        exact is_ext (g_move (v := .int .i64 (Int.tmod r84 (1 + (Int.tmod r74 (r16 - 1))))) rfl)
                      refine ⟨if (decide (v387 = (1 + (Int.tmod r74 (r16 - 1))))) = true then .bool (decide (v411 = (Int.tmod r84 (1 + (Int.tmod r74 (r16 - 1)))))) else undef, fun w485 hX486 => od_guard (c := (decide (v387 = (1 + (Int.tmod r74 (r16 - 1))))) = true) (val := .bool (decide (v411 = (Int.tmod r84 (1 + (Int.tmod r74 (r16 - 1))))))) (b := ((decide (v387 = (1 + (Int.tmod r74 (r16 - 1))))) == true)) (gv_some rfl rfl rfl) beq_iff_eq (fun hc489 => ?_), ?_⟩
                      · have hS487 := hS428.ext hX486
                        have hB488 := hB427.trans (Ext.stp hX486 hS428.base)
                        have hcq4 : v387 = (1 + (Int.tmod r74 (r16 - 1))) := (decide_eq_true_iff.mp hc489)
                        exact is_ext (g_eql (a := v411) (b := (Int.tmod r84 (1 + (Int.tmod r74 (r16 - 1))))) (if_pos hc489) (if_pos hc489))
                      refine ⟨.bool ((decide (v387 = (1 + (Int.tmod r74 (r16 - 1))))) && (decide (v411 = (Int.tmod r84 (1 + (Int.tmod r74 (r16 - 1))))))), fun w490 hX491 => od_plain rfl (by have hS492 := hS428.ext hX491; have hB493 := hB427.trans (Ext.stp hX491 hS428.base); exact is_ext (g_pick_and (b := (decide (v387 = (1 + (Int.tmod r74 (r16 - 1)))))) (q := (decide (v411 = (Int.tmod r84 (1 + (Int.tmod r74 (r16 - 1))))))) rfl rfl)), ?_⟩
                      obtain ⟨r498, hk499, hm⟩ := hm
                      refine ⟨.int .i64 r498, fun w494 hX495 => od_plain rfl (by have hS496 := hS428.ext hX495; have hB497 := hB427.trans (Ext.stp hX495 hS428.base); exact (g_call (vs := #[.bool ((decide (v387 = (1 + (Int.tmod r74 (r16 - 1))))) && (decide (v411 = (Int.tmod r84 (1 + (Int.tmod r74 (r16 - 1)))))))]) CF29 (args1 rfl) ((m_laws_btoi_fn ((decide (v387 = (1 + (Int.tmod r74 (r16 - 1))))) && (decide (v411 = (Int.tmod r84 (1 + (Int.tmod r74 (r16 - 1))))))) hk499).mono fun _ _ ⟨_, h1, h2, h3⟩ => ⟨by rw [h2, h1], h3⟩))), ?_⟩
                      obtain ⟨hg504, hm⟩ := hm
                      refine ⟨.int .i64 (2 * r498), fun w500 hX501 => od_plain rfl (by have hS502 := hS428.ext hX501; have hB503 := hB427.trans (Ext.stp hX501 hS428.base); exact is_ext (g_mul (a := 2) (b := r498) rfl rfl hg504)), ?_⟩
                      refine ⟨.bool (decide ((r104[(Int.toNat v387)]!)[(Int.toNat v411)]! ≠ (2 * r498))), fun w505 hX506 => od_plain rfl (by have hS507 := hS428.ext hX506; have hB508 := hB427.trans (Ext.stp hX506 hS428.base); exact is_ext (g_neq (a := (r104[(Int.toNat v387)]!)[(Int.toNat v411)]!) (b := (2 * r498)) rfl rfl)), ?_⟩
                      intro w509 hX510
                      have hB511 := hB427.trans (Ext.stp hX510 hS428.base)
                      have hS512 := hS428.ext hX510
                      refine hK424 _ _ ?_
                      refine w_condI (p := (r104[(Int.toNat v387)]!)[(Int.toNat v411)]! ≠ (2 * r498)) (b := (decide ((r104[(Int.toNat v387)]!)[(Int.toNat v411)]! ≠ (2 * r498)))) rfl decide_eq_true_iff (fun h513 => ?_) (fun h513 => ?_)
                      · replace hm := hm.1 h513
                        refine w_seq fun K514 hK514 => ?_
                        refine w_region ?_
                        refine wl_val (g_assign (v := .bool false) rfl) rfl ?_
                        refine wl_nil ?_
                        refine hK514 _ _ ?_
                        refine w_ret ?_
                        repeat first | with_reducible refine q_then ?_ | with_reducible refine q_block ?_
                        exact ret1 rfl (by decide) ⟨_, hm, rfl, toExt hB511⟩
                      · replace hm := hm.2 h513
                        refine w_skip ?_
                        refine hK423 _ _ ?_
                        refine w_region ?_
                        refine wl_val (g_move (v := .int .i64 v411) rfl) rfl ?_
                        obtain ⟨hg515, hm⟩ := hm
                        refine wl_val (g_add (a := v411) (b := 1) rfl rfl hg515) rfl ?_
                        refine wl_val (g_assign (v := .int .i64 (v411 + 1)) rfl) rfl ?_
                        refine wl_nil ?_
                        exact ⟨((v411 + 1)), hm.2, ⟨rfl, rfl, rfl, rfl, rfl, rfl, rfl, rfl, trivial⟩, ⟨hm.1, hB511, hS512⟩⟩
                    · replace hm := hm.2 h422
                      refine w_exit ?_
                      exact ⟨(), ⟨rfl, rfl, rfl, rfl, rfl, rfl, rfl, trivial⟩, ⟨hm, hB417, hS418⟩⟩
                  · rintro _ b_ w516 ⟨hm, hB517, hS518⟩
                    show Wp _ _ _ _ (upds b_ [(0, .slice a0 n0 c0), (3, .int .i64 r16), (4, .slice a18 n19 c20), (8, .int .i64 (1 + (Int.tmod r74 (r16 - 1)))), (9, .int .i64 (Int.tmod r84 (1 + (Int.tmod r74 (r16 - 1))))), (12, .slice a105 n106 c107), (13, .int .i64 v387)]) w516
                    refine w_region ?_
                    refine wl_val (g_move (v := .int .i64 v387) rfl) rfl ?_
                    obtain ⟨hg519, hm⟩ := hm
                    refine wl_val (g_add (a := v387) (b := 1) rfl rfl hg519) rfl ?_
                    refine wl_val (g_assign (v := .int .i64 (v387 + 1)) rfl) rfl ?_
                    refine wl_nil ?_
                    exact ⟨((v387 + 1)), hm.2, ⟨rfl, rfl, rfl, rfl, rfl, rfl, rfl, trivial⟩, ⟨hm.1, hB517, hS518⟩⟩
                · replace hm := hm.2 h408
                  refine w_exit ?_
                  have hS520 := hS404.f1
                  have hS521 := hS520.tail
                  have hS522 := hS521.f1
                  have hS523 := hS522.tail
                  exact ⟨(), ⟨rfl, rfl, rfl, trivial⟩, ⟨hm, hB403, hS523⟩⟩
              · rintro _ b_ w524 ⟨hm, hB525, hS526⟩
                show Wp _ _ _ _ (upds b_ [(0, .slice a0 n0 c0), (3, .int .i64 r16), (4, .slice a18 n19 c20)]) w524
                refine w_seq fun K527 hK527 => ?_
                refine w_region ?_
                refine wl_val (g_move (v := .int .i64 r16) rfl) rfl ?_
                refine wl_val (g_move (v := .slice a18 n19 c20) rfl) rfl ?_
                refine wl_step rfl (g_call (vs := #[.int .i64 r16, .slice a18 n19 c20]) CF46 (args2 rfl rfl) (m_impl_BringHome_fn r16 (oS.vw hS526.g0) hm)) ?_
                rintro _ w528 ⟨r531, a532, n533, c534, r536, hm, rfl, hE529, hN530⟩
                have hS537 := hS526.call1 hE529 hN530
                have hB538 := hB525.trans (Ext.stp hE529 hS526.base)
                refine wl_val (g_move (v := .tuple #[.slice a532 n533 c534, .bool r536]) rfl) rfl ?_
                refine wl_val (g_extract (vs := #[.slice a532 n533 c534, .bool r536]) rfl rfl) rfl ?_
                refine wl_val (g_extract (vs := #[.slice a532 n533 c534, .bool r536]) rfl rfl) rfl ?_
                refine wl_val (g_assign (v := .slice a532 n533 c534) rfl) rfl ?_
                refine wl_val (g_assign (v := .bool r536) rfl) rfl ?_
                refine wl_nil ?_
                refine hK527 _ _ ?_
                refine w_seq fun K539 hK539 => ?_
                refine w_region ?_
                refine wl_val (g_move (v := .slice a0 n0 c0) rfl) rfl ?_
                refine wl_step rfl (g_call (vs := #[.slice a0 n0 c0]) CF24 (args1 rfl) (m_spec_DrawCrosses_fn ((hp0.bel hB538).up hS537) hm)) ?_
                rintro _ w540 ⟨r543, r544, a545, n546, c547, hm, rfl, hE541, hN542⟩
                have hS549 := hS537.call1 hE541 hN542
                have hB550 := hB538.trans (Ext.stp hE541 hS537.base)
                refine wl_val (g_move (v := .tuple #[.int .i64 r543, .slice a545 n546 c547]) rfl) rfl ?_
                refine wl_val (g_extract (vs := #[.int .i64 r543, .slice a545 n546 c547]) rfl rfl) rfl ?_
                refine wl_val (g_extract (vs := #[.int .i64 r543, .slice a545 n546 c547]) rfl rfl) rfl ?_
                refine wl_val (g_assign (v := .int .i64 r543) rfl) rfl ?_
                refine wl_val (g_assign (v := .slice a545 n546 c547) rfl) rfl ?_
                refine wl_nil ?_
                refine hK539 _ _ ?_
                refine w_seq fun K551 hK551 => ?_
                refine w_region ?_
                refine wl_val (g_move (v := .int .i64 r543) rfl) rfl ?_
                refine wl_val (g_move (v := .slice a545 n546 c547) rfl) rfl ?_
                refine wl_step rfl (g_call (vs := #[.int .i64 r543, .slice a545 n546 c547]) CF46 (args2 rfl rfl) (m_impl_BringHome_fn r543 (oS.vw hS549.g0) hm)) ?_
                rintro _ w552 ⟨r555, a556, n557, c558, r560, hm, rfl, hE553, hN554⟩
                have hS561 := hS549.call1 hE553 hN554
                have hB562 := hB550.trans (Ext.stp hE553 hS549.base)
                refine wl_val (g_move (v := .tuple #[.slice a556 n557 c558, .bool r560]) rfl) rfl ?_
                refine wl_val (g_extract (vs := #[.slice a556 n557 c558, .bool r560]) rfl rfl) rfl ?_
                refine wl_val (g_extract (vs := #[.slice a556 n557 c558, .bool r560]) rfl rfl) rfl ?_
                refine wl_val (g_assign (v := .slice a556 n557 c558) rfl) rfl ?_
                refine wl_val (g_assign (v := .bool r560) rfl) rfl ?_
                refine wl_nil ?_
                refine hK551 _ _ ?_
                refine w_seq fun K563 hK563 => ?_
                refine w_region ?_
                refine wl_val (g_move (v := .bool r536) rfl) rfl ?_
                refine wl_val (g_move (v := .bool r536) rfl) rfl ?_
                refine wl_guard (c := r536 = true) (val := .slice a532 n533 c534) (b := (r536 == true)) (gv_some rfl rfl rfl) beq_iff_eq (fun hc564 => ?_) ?_
                · have hcq5 : r536 = true := (Iff.rfl.mp hc564)
                  exact g_move (v := .slice a532 n533 c534) rfl
                refine wl_guard (c := r536 = true) (val := .int .i64 (r531.length : Int)) (b := (r536 == true)) (gv_some rfl rfl rfl) beq_iff_eq (fun hc565 => ?_) ?_
                · have hcq5 : r536 = true := (Iff.rfl.mp hc565)
                  exact q_len SL24 (if_pos hc565) (Vw.len (oS.vw hS561.g2))
                refine wl_guard (c := r536 = true) (val := .bool (decide ((r531.length : Int) = 0))) (b := (r536 == true)) (gv_some rfl rfl rfl) beq_iff_eq (fun hc566 => ?_) ?_
                · have hcq5 : r536 = true := (Iff.rfl.mp hc566)
                  exact g_eql (a := (r531.length : Int)) (b := 0) (if_pos hc566) rfl
                refine wl_val (g_pick_and (b := r536) (q := (decide ((r531.length : Int) = 0))) rfl rfl) rfl ?_
                refine wl_val (g_move (v := .bool (r536 && (decide ((r531.length : Int) = 0)))) rfl) rfl ?_
                refine wl_guard (c := (r536 && (decide ((r531.length : Int) = 0))) = true) (val := .bool r560) (b := ((r536 && (decide ((r531.length : Int) = 0))) == true)) (gv_some rfl rfl rfl) beq_iff_eq (fun hc567 => ?_) ?_
                · have hcq6 : ((r536 = true) ∧ ((r531.length : Int) = 0)) := ((i_and Iff.rfl decide_eq_true_iff).mp hc567)
                  exact g_move (v := .bool r560) rfl
                refine wl_val (g_pick_and (b := (r536 && (decide ((r531.length : Int) = 0)))) (q := r560) rfl rfl) rfl ?_
                refine wl_val (g_move (v := .bool ((r536 && (decide ((r531.length : Int) = 0))) && r560)) rfl) rfl ?_
                by_cases hc568 : ((r536 && (decide ((r531.length : Int) = 0))) && r560) = true
                · replace hm := hm.1 ((i_and (i_and Iff.rfl decide_eq_true_iff) Iff.rfl).mp hc568)
                  refine wl_valT (g_move (v := .slice a556 n557 c558) rfl) (gv_T (gv_some rfl rfl rfl) hc568) ?_
                  refine wl_valT (q_len SL24 rfl (Vw.len (oS.vw hS561.g0))) (gv_T (gv_some rfl rfl rfl) hc568) ?_
                  refine wl_valT (g_move (v := .int .i64 r543) rfl) (gv_T (gv_some rfl rfl rfl) hc568) ?_
                  refine wl_valT (g_move (v := .slice a545 n546 c547) rfl) (gv_T (gv_some rfl rfl rfl) hc568) ?_
                  refine wl_stepT (gv_T (gv_some rfl rfl rfl) hc568) (g_call (vs := #[.int .i64 r543, .slice a545 n546 c547]) CF26 (args2 rfl rfl) (m_spec_OrderAfter_fn r543 (oS.vw hS561.g1) hm)) ?_
                  rintro _ w569 ⟨r572, a573, n574, c575, hm, rfl, hE570, hN571⟩
                  have hS577 := hS561.call1 hE570 hN571
                  have hB578 := hB562.trans (Ext.stp hE570 hS561.base)
                  refine wl_stepT (gv_T (gv_some rfl rfl rfl) hc568) (g_call (vs := #[.slice a573 n574 c575]) CF36 (args1 rfl) (m_spec_CountInversions_fn (oS.vw hS577.g0) hm)) ?_
                  rintro _ w579 ⟨r582, hm, rfl, hE580⟩
                  have hB583 := hB578.trans (Ext.stp hE580 hS577.base)
                  have hS584 := hS577.ext hE580
                  refine wl_valT (g_eql (a := (r555.length : Int)) (b := r582) rfl rfl) (gv_T (gv_some rfl rfl rfl) hc568) ?_
                  refine wl_val (g_pickT (b := ((r536 && (decide ((r531.length : Int) = 0))) && r560)) rfl hc568 rfl) rfl ?_
                  refine wl_val (g_assign (v := .bool (decide ((r555.length : Int) = r582))) rfl) rfl ?_
                  refine wl_nil ?_
                  refine hK563 _ _ ?_
                  refine w_ret ?_
                  repeat first | with_reducible refine q_then ?_ | with_reducible refine q_block ?_
                  exact ret1 rfl (by decide) ⟨_, hm, rfl, toExt hB583⟩
                · have hc568n := b_F hc568
                  replace hm := hm.2 (i_neg (i_and (i_and Iff.rfl decide_eq_true_iff) Iff.rfl) hc568n)
                  refine wl_skipF (gv_F (gv_some rfl rfl rfl) hc568n) ?_
                  refine wl_skipF (gv_F (gv_some rfl rfl rfl) hc568n) ?_
                  refine wl_skipF (gv_F (gv_some rfl rfl rfl) hc568n) ?_
                  refine wl_skipF (gv_F (gv_some rfl rfl rfl) hc568n) ?_
                  refine wl_skipF (gv_F (gv_some rfl rfl rfl) hc568n) ?_
                  refine wl_skipF (gv_F (gv_some rfl rfl rfl) hc568n) ?_
                  refine wl_skipF (gv_F (gv_some rfl rfl rfl) hc568n) ?_
                  refine wl_val (g_pickF (b := ((r536 && (decide ((r531.length : Int) = 0))) && r560)) rfl hc568n rfl) rfl ?_
                  refine wl_val (g_assign (v := .bool false) rfl) rfl ?_
                  refine wl_nil ?_
                  refine hK563 _ _ ?_
                  refine w_ret ?_
                  repeat first | with_reducible refine q_then ?_ | with_reducible refine q_block ?_
                  exact ret1 rfl (by decide) ⟨_, hm, rfl, toExt hB562⟩
          · have hc130n := b_T hc130
            replace hm := hm.2 (fun hx => hx ((i_or (i_or (i_not Iff.rfl) decide_eq_true_iff) decide_eq_true_iff).mp hc130n))
            refine wl_skipF (gv_F (gv_some rfl rfl rfl) hc130n) ?_
            refine wl_skipF (gv_F (gv_some rfl rfl rfl) hc130n) ?_
            refine wl_skipF (gv_F (gv_some rfl rfl rfl) hc130n) ?_
            refine wl_skipF (gv_F (gv_some rfl rfl rfl) hc130n) ?_
            refine wl_skipF (gv_F (gv_some rfl rfl rfl) hc130n) ?_
            refine wl_val (g_pickT (b := (((!r97) || (decide ((r92.length : Int) ≠ (2 * ((1 + (Int.tmod r74 (r16 - 1))) - (Int.tmod r84 (1 + (Int.tmod r74 (r16 - 1))))))))) || (decide ((r104.length : Int) ≠ r16)))) rfl hc130n rfl) rfl ?_
            refine wl_nil ?_
            refine hK116 _ _ ?_
            refine w_cond (b := true) rfl (fun _ => ?_) (fun h => by cases h)
            refine w_seq fun K586 hK586 => ?_
            refine w_region ?_
            refine wl_val (g_assign (v := .bool false) rfl) rfl ?_
            refine wl_nil ?_
            refine hK586 _ _ ?_
            refine w_ret ?_
            repeat first | with_reducible refine q_then ?_ | with_reducible refine q_block ?_
            exact ret1 rfl (by decide) ⟨_, hm, rfl, toExt hB114⟩

end Go.Proofs.Ytcgkcoogaieolaa
