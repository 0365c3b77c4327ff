/- The walks: the code does what its model says. Printed by a program (gen2.py). No statement of the claim stands here. -/
import Derived.Test.YtddjkiefadiijaaSop
import Derived.Test.YtddjkiefadiijaaFacts
import Derived.Test.YtddjkiefadiijaaMG
import Derived.Test.YtddjkiefadiijaaWG1
import Derived.Test.YtddjkiefadiijaaWG2
import Derived.Test.YtddjkiefadiijaaWG3
namespace Go.Proofs.Ytddjkiefadiijaa
open Go Go.RowKit
set_option maxRecDepth 100000
theorem m_laws_FnExactFewestChanges_fn {w : World} {a0 : Option Addr} {n0 c0 : Nat} {y0 : List PlayerD} {p0 : List PlayerC} {a1 : Option Addr} {n1 c1 : Nat} {y1 : List (Hd Int)} {p1 : List (List Int)} {Q : Bool → Prop} (hp0 : Tv w.heap.size w a0 n0 c0 y0 p0) (hp1 : Tv w.heap.size w a1 n1 c1 y1 p1) (hm : m_laws_FnExactFewestChanges p0 p1 Q) :
    Fn Try.prog 7 #[.slice a0 n0 c0, .slice a1 n1 c1] w (fun v w' => ∃ (r0 : Bool), Q r0 ∧ v = .bool r0 ∧ Ext w w') := by
  unfold m_laws_FnExactFewestChanges at hm
  have hB0 := Below.refl w.heap.size w
  have hS0 : Sep w w.heap.size [] := Sep.nil (Nat.le_refl _)
  refine fn_of_wp Try.func7 rfl (by kernel_rfl) (Nat.le_of_ble_eq_true rfl) ?_
  refine w_seq fun K1 hK1 => ?_
  refine w_region ?_
  refine wl_val (g_assign (v := .bool false) rfl) rfl ?_
  refine wl_nil ?_
  refine hK1 _ _ ?_
  refine w_seq fun K2 hK2 => ?_
  refine w_region ?_
  refine wl_val (g_assign (v := .int .i64 1048576) rfl) rfl ?_
  refine wl_nil ?_
  refine hK2 _ _ ?_
  refine w_seq fun K3 hK3 => ?_
  refine w_region ?_
  refine wl_val (g_move (v := .slice a0 n0 c0) rfl) rfl ?_
  refine wl_val (g_move (v := .int .i64 1048576) rfl) rfl ?_
  refine wl_step rfl (g_call (vs := #[.slice a0 n0 c0, .int .i64 1048576]) CF12 (args2 rfl rfl) (m_laws_szPlayerS_fn ((hp0.bel hB0).up hS0) 1048576 hm)) ?_
  rintro _ w4 ⟨r7, hm, rfl, hE5⟩
  have hB8 := hB0.trans (Ext.stp hE5 hS0.base)
  have hS9 := hS0.ext hE5
  refine wl_val (g_assign (v := .int .i64 r7) rfl) rfl ?_
  refine wl_nil ?_
  refine hK3 _ _ ?_
  refine w_seq fun K10 hK10 => ?_
  refine w_seq fun K11 hK11 => ?_
  refine w_region ?_
  refine wl_val (g_move (v := .int .i64 r7) rfl) rfl ?_
  refine wl_val (g_lss (a := r7) (b := 0) rfl rfl) rfl ?_
  refine wl_nil ?_
  refine hK11 _ _ ?_
  refine w_condI (p := r7 < 0) (b := (decide (r7 < 0))) rfl decide_eq_true_iff (fun h12 => ?_) (fun h12 => ?_)
  · replace hm := hm.1 h12
    refine w_seq fun K13 hK13 => ?_
    refine w_region ?_
    refine wl_val (g_assign (v := .bool true) rfl) rfl ?_
    refine wl_nil ?_
    refine hK13 _ _ ?_
    refine w_ret ?_
    repeat first | with_reducible refine q_then ?_ | with_reducible refine q_block ?_
    exact ret1 rfl (by decide) ⟨_, hm, rfl, toExt hB8⟩
  · replace hm := hm.2 h12
    refine w_skip ?_
    refine hK10 _ _ ?_
    refine w_seq fun K14 hK14 => ?_
    refine w_region ?_
    refine wl_val (g_move (v := .slice a1 n1 c1) rfl) rfl ?_
    refine wl_val (g_move (v := .int .i64 r7) rfl) rfl ?_
    refine wl_step rfl (g_call (vs := #[.slice a1 n1 c1, .int .i64 r7]) CF31 (args2 rfl rfl) (m_laws_szIntSS_fn ((hp1.bel hB8).up hS9) r7 hm)) ?_
    rintro _ w15 ⟨r18, hm, rfl, hE16⟩
    have hB19 := hB8.trans (Ext.stp hE16 hS9.base)
    have hS20 := hS9.ext hE16
    refine wl_val (g_assign (v := .int .i64 r18) rfl) rfl ?_
    refine wl_nil ?_
    refine hK14 _ _ ?_
    refine w_seq fun K21 hK21 => ?_
    refine w_seq fun K22 hK22 => ?_
    refine w_region ?_
    refine wl_val (g_move (v := .int .i64 r18) rfl) rfl ?_
    refine wl_val (g_lss (a := r18) (b := 0) rfl rfl) rfl ?_
    refine wl_nil ?_
    refine hK22 _ _ ?_
    refine w_condI (p := r18 < 0) (b := (decide (r18 < 0))) rfl decide_eq_true_iff (fun h23 => ?_) (fun h23 => ?_)
    · replace hm := hm.1 h23
      refine w_seq fun K24 hK24 => ?_
      refine w_region ?_
      refine wl_val (g_assign (v := .bool true) rfl) rfl ?_
      refine wl_nil ?_
      refine hK24 _ _ ?_
      refine w_ret ?_
      repeat first | with_reducible refine q_then ?_ | with_reducible refine q_block ?_
      exact ret1 rfl (by decide) ⟨_, hm, rfl, toExt hB19⟩
    · replace hm := hm.2 h23
      refine w_skip ?_
      refine hK21 _ _ ?_
      refine w_seq fun K25 hK25 => ?_
      refine w_region ?_
      refine wl_val (g_move (v := .slice a0 n0 c0) rfl) rfl ?_
      refine wl_step rfl (g_call (vs := #[.slice a0 n0 c0]) CF14 (args1 rfl) (m_laws_toPlayerS_fn ((hp0.bel hB19).up hS20) hm)) ?_
      rintro _ w26 ⟨r29, a30, n31, c32, y33, hm, he34, rfl, hE27, hN28⟩
      have hS38 := hS20.call2 hE27 hN28
      have hB39 := hB19.trans (Ext.stp hE27 hS20.base)
      refine wl_val (g_move (v := .slice a1 n1 c1) rfl) rfl ?_
      refine wl_step rfl (g_call (vs := #[.slice a1 n1 c1]) CF33 (args1 rfl) (m_laws_toIntSS_fn ((hp1.bel hB39).up hS38) hm)) ?_
      rintro _ w40 ⟨r43, a44, n45, c46, y47, hm, he48, rfl, hE41, hN42⟩
      have hS52 := hS38.call2 hE41 hN42
      have hB53 := hB39.trans (Ext.stp hE41 hS38.base)
      refine wl_step rfl (g_call (vs := #[.slice a30 n31 c32, .slice a44 n45 c46]) CF32 (args2 rfl rfl) (m_spec_FewestChanges_fn (oT.vw hS52.g2 hS52.g3 he34) (oT.vw hS52.g0 hS52.g1 he48) hm)) ?_
      rintro _ w54 ⟨r57, hm, rfl, hE55⟩
      have hB58 := hB53.trans (Ext.stp hE55 hS52.base)
      have hS59 := hS52.ext hE55
      refine wl_val (g_assign (v := .int .i64 r57) rfl) rfl ?_
      refine wl_nil ?_
      refine hK25 _ _ ?_
      refine w_seq fun K60 hK60 => ?_
      refine w_region ?_
      refine wl_val (g_move (v := .slice a0 n0 c0) rfl) rfl ?_
      refine wl_step rfl (g_call (vs := #[.slice a0 n0 c0]) CF14 (args1 rfl) (m_laws_toPlayerS_fn ((hp0.bel hB58).up hS59) hm)) ?_
      rintro _ w61 ⟨r64, a65, n66, c67, y68, hm, he69, rfl, hE62, hN63⟩
      have hS73 := hS59.call2 hE62 hN63
      have hB74 := hB58.trans (Ext.stp hE62 hS59.base)
      refine wl_val (g_assign (v := .slice a65 n66 c67) rfl) rfl ?_
      refine wl_nil ?_
      refine hK60 _ _ ?_
      refine w_seq fun K75 hK75 => ?_
      refine w_region ?_
      refine wl_val (g_move (v := .slice a1 n1 c1) rfl) rfl ?_
      refine wl_step rfl (g_call (vs := #[.slice a1 n1 c1]) CF33 (args1 rfl) (m_laws_toIntSS_fn ((hp1.bel hB74).up hS73) hm)) ?_
      rintro _ w76 ⟨r79, a80, n81, c82, y83, hm, he84, rfl, hE77, hN78⟩
      have hS88 := hS73.call2 hE77 hN78
      have hB89 := hB74.trans (Ext.stp hE77 hS73.base)
      refine wl_val (g_assign (v := .slice a80 n81 c82) rfl) rfl ?_
      refine wl_nil ?_
      refine hK75 _ _ ?_
      refine w_seq fun K90 hK90 => ?_
      refine w_region ?_
      refine wl_val (g_move (v := .slice a65 n66 c67) rfl) rfl ?_
      refine wl_val (g_move (v := .slice a80 n81 c82) rfl) rfl ?_
      refine wl_step rfl (g_call (vs := #[.slice a65 n66 c67, .slice a80 n81 c82]) CF34 (args2 rfl rfl) (m_impl_FewestChanges_fn (oT.vw hS88.g2 hS88.g3 he69) (oT.vw hS88.g0 hS88.g1 he84) hm)) ?_
      rintro _ w91 ⟨r94, hm, rfl, hE92⟩
      have hB95 := hB89.trans (Ext.stp hE92 hS88.base)
      have hS96 := hS88.ext hE92
      refine wl_val (g_assign (v := .int .i64 r94) rfl) rfl ?_
      refine wl_nil ?_
      refine hK90 _ _ ?_
      refine w_seq fun K97 hK97 => ?_
      refine w_seq fun K98 hK98 => ?_
      refine w_region ?_
      refine wl_val (g_move (v := .int .i64 r94) rfl) rfl ?_
      refine wl_val (g_move (v := .int .i64 r57) rfl) rfl ?_
      refine wl_val (g_neq (a := r94) (b := r57) rfl rfl) rfl ?_
      refine wl_nil ?_
      refine hK98 _ _ ?_
      refine w_condI (p := r94 ≠ r57) (b := (decide (r94 ≠ r57))) rfl decide_eq_true_iff (fun h99 => ?_) (fun h99 => ?_)
      · replace hm := hm.1 h99
        refine w_seq fun K100 hK100 => ?_
        refine w_region ?_
        refine wl_val (g_assign (v := .bool false) rfl) rfl ?_
        refine wl_nil ?_
        refine hK100 _ _ ?_
        refine w_ret ?_
        repeat first | with_reducible refine q_then ?_ | with_reducible refine q_block ?_
        exact ret1 rfl (by decide) ⟨_, hm, rfl, toExt hB95⟩
      · replace hm := hm.2 h99
        refine w_skip ?_
        refine hK97 _ _ ?_
        refine w_seq fun K101 hK101 => ?_
        refine w_seq fun K102 hK102 => ?_
        refine w_region ?_
        refine wl_val (g_move (v := .slice a65 n66 c67) rfl) rfl ?_
        refine wl_val (g_move (v := .slice a0 n0 c0) rfl) rfl ?_
        refine wl_step rfl (g_call (vs := #[.slice a0 n0 c0]) CF14 (args1 rfl) (m_laws_toPlayerS_fn ((hp0.bel hB95).up hS96) hm)) ?_
        rintro _ w103 ⟨r106, a107, n108, c109, y110, hm, he111, rfl, hE104, hN105⟩
        have hS115 := hS96.call2 hE104 hN105
        have hB116 := hB95.trans (Ext.stp hE104 hS96.base)
        refine wl_step rfl (g_call (vs := #[.slice a65 n66 c67, .slice a107 n108 c109]) CF18 (args2 rfl rfl) (m_laws_eqPlayerS_fn (oT.vw hS115.g4 hS115.g5 he69) (oT.vw hS115.g0 hS115.g1 he111) hm)) ?_
        rintro _ w117 ⟨r120, hm, rfl, hE118⟩
        have hB121 := hB116.trans (Ext.stp hE118 hS115.base)
        have hS122 := hS115.ext hE118
        refine wl_val (g_not (a := r120) rfl) rfl ?_
        refine wl_nil ?_
        refine hK102 _ _ ?_
        refine w_condI (p := ¬ (r120 = true)) (b := (!r120)) rfl (i_not Iff.rfl) (fun h123 => ?_) (fun h123 => ?_)
        · replace hm := hm.1 h123
          refine w_seq fun K124 hK124 => ?_
          refine w_region ?_
          refine wl_val (g_assign (v := .bool false) rfl) rfl ?_
          refine wl_nil ?_
          refine hK124 _ _ ?_
          refine w_ret ?_
          repeat first | with_reducible refine q_then ?_ | with_reducible refine q_block ?_
          exact ret1 rfl (by decide) ⟨_, hm, rfl, toExt hB121⟩
        · replace hm := hm.2 h123
          refine w_skip ?_
          refine hK101 _ _ ?_
          refine w_seq fun K125 hK125 => ?_
          refine w_seq fun K126 hK126 => ?_
          refine w_region ?_
          refine wl_val (g_move (v := .slice a80 n81 c82) rfl) rfl ?_
          refine wl_val (g_move (v := .slice a1 n1 c1) rfl) rfl ?_
          refine wl_step rfl (g_call (vs := #[.slice a1 n1 c1]) CF33 (args1 rfl) (m_laws_toIntSS_fn ((hp1.bel hB121).up hS122) hm)) ?_
          rintro _ w127 ⟨r130, a131, n132, c133, y134, hm, he135, rfl, hE128, hN129⟩
          have hS139 := hS122.call2 hE128 hN129
          have hB140 := hB121.trans (Ext.stp hE128 hS122.base)
          refine wl_step rfl (g_call (vs := #[.slice a80 n81 c82, .slice a131 n132 c133]) CF28 (args2 rfl rfl) (m_laws_eqIntSS_fn (oT.vw hS139.g4 hS139.g5 he84) (oT.vw hS139.g0 hS139.g1 he135) hm)) ?_
          rintro _ w141 ⟨r144, hm, rfl, hE142⟩
          have hB145 := hB140.trans (Ext.stp hE142 hS139.base)
          have hS146 := hS139.ext hE142
          refine wl_val (g_not (a := r144) rfl) rfl ?_
          refine wl_nil ?_
          refine hK126 _ _ ?_
          refine w_condI (p := ¬ (r144 = true)) (b := (!r144)) rfl (i_not Iff.rfl) (fun h147 => ?_) (fun h147 => ?_)
          · replace hm := hm.1 h147
            refine w_seq fun K148 hK148 => ?_
            refine w_region ?_
            refine wl_val (g_assign (v := .bool false) rfl) rfl ?_
            refine wl_nil ?_
            refine hK148 _ _ ?_
            refine w_ret ?_
            repeat first | with_reducible refine q_then ?_ | with_reducible refine q_block ?_
            exact ret1 rfl (by decide) ⟨_, hm, rfl, toExt hB145⟩
          · replace hm := hm.2 h147
            refine w_skip ?_
            refine hK125 _ _ ?_
            refine w_seq fun K149 hK149 => ?_
            refine w_region ?_
            refine wl_val (g_assign (v := .bool true) rfl) rfl ?_
            refine wl_nil ?_
            refine hK149 _ _ ?_
            refine w_ret ?_
            repeat first | with_reducible refine q_then ?_ | with_reducible refine q_block ?_
            exact ret1 rfl (by decide) ⟨_, hm, rfl, toExt hB145⟩

end Go.Proofs.Ytddjkiefadiijaa
