/- The walks: the code does what its model says. Printed by a program (gen2.py). No statement of the claim stands here. -/
import Derived.Test.YtddjkiefadiijaaSop
import Derived.Test.YtddjkiefadiijaaFacts
import Derived.Test.YtddjkiefadiijaaMG
import Derived.Test.YtddjkiefadiijaaWG1
import Derived.Test.YtddjkiefadiijaaWG2
namespace Go.Proofs.Ytddjkiefadiijaa
open Go Go.RowKit
set_option maxRecDepth 100000
theorem m_laws_FnExactIsSafe_fn {w : World} {a0 : Option Addr} {n0 c0 : Nat} {y0 : List PlayerD} {p0 : List PlayerC} {a1 : Option Addr} {n1 c1 : Nat} {p1 : List Int} {Q : Bool → Prop} (hp0 : Tv w.heap.size w a0 n0 c0 y0 p0) (hp1 : Vw w.heap.size w a1 n1 c1 p1) (hm : m_laws_FnExactIsSafe p0 p1 Q) :
    Fn Try.prog 5 #[.slice a0 n0 c0, .slice a1 n1 c1] w (fun v w' => ∃ (r0 : Bool), Q r0 ∧ v = .bool r0 ∧ Ext w w') := by
  unfold m_laws_FnExactIsSafe at hm
  have hB0 := Below.refl w.heap.size w
  have hS0 : Sep w w.heap.size [] := Sep.nil (Nat.le_refl _)
  refine fn_of_wp Try.func5 rfl (by kernel_rfl) (Nat.le_of_ble_eq_true rfl) ?_
  refine w_seq fun K1 hK1 => ?_
  refine w_region ?_
  refine wl_val (g_assign (v := .bool false) rfl) rfl ?_
  refine wl_nil ?_
  refine hK1 _ _ ?_
  refine w_seq fun K2 hK2 => ?_
  refine w_seq fun K3 hK3 => ?_
  refine w_region ?_
  refine wl_val (g_move (v := .slice a1 n1 c1) rfl) rfl ?_
  refine wl_val (q_len SL23 rfl (Vw.len (hp1.bel hB0))) rfl ?_
  refine wl_val (g_gtr (a := (p1.length : Int)) (b := 1048576) rfl rfl) rfl ?_
  refine wl_nil ?_
  refine hK3 _ _ ?_
  refine w_condI (p := (p1.length : Int) > 1048576) (b := (decide ((p1.length : Int) > 1048576))) rfl decide_eq_true_iff (fun h4 => ?_) (fun h4 => ?_)
  · replace hm := hm.1 h4
    refine w_seq fun K5 hK5 => ?_
    refine w_region ?_
    refine wl_val (g_assign (v := .bool true) rfl) rfl ?_
    refine wl_nil ?_
    refine hK5 _ _ ?_
    refine w_ret ?_
    repeat first | with_reducible refine q_then ?_ | with_reducible refine q_block ?_
    exact ret1 rfl (by decide) ⟨_, hm, rfl, toExt hB0⟩
  · replace hm := hm.2 h4
    refine w_skip ?_
    refine hK2 _ _ ?_
    refine w_seq fun K6 hK6 => ?_
    refine w_region ?_
    refine wl_val (g_assign (v := .int .i64 1048576) rfl) rfl ?_
    refine wl_nil ?_
    refine hK6 _ _ ?_
    refine w_seq fun K7 hK7 => ?_
    refine w_region ?_
    refine wl_val (g_move (v := .slice a0 n0 c0) rfl) rfl ?_
    refine wl_val (g_move (v := .int .i64 1048576) rfl) rfl ?_
    refine wl_step rfl (g_call (vs := #[.slice a0 n0 c0, .int .i64 1048576]) CF12 (args2 rfl rfl) (m_laws_szPlayerS_fn ((hp0.bel hB0).up hS0) 1048576 hm)) ?_
    rintro _ w8 ⟨r11, hm, rfl, hE9⟩
    have hB12 := hB0.trans (Ext.stp hE9 hS0.base)
    have hS13 := hS0.ext hE9
    refine wl_val (g_assign (v := .int .i64 r11) rfl) rfl ?_
    refine wl_nil ?_
    refine hK7 _ _ ?_
    refine w_seq fun K14 hK14 => ?_
    refine w_seq fun K15 hK15 => ?_
    refine w_region ?_
    refine wl_val (g_move (v := .int .i64 r11) rfl) rfl ?_
    refine wl_val (g_lss (a := r11) (b := 0) rfl rfl) rfl ?_
    refine wl_nil ?_
    refine hK15 _ _ ?_
    refine w_condI (p := r11 < 0) (b := (decide (r11 < 0))) rfl decide_eq_true_iff (fun h16 => ?_) (fun h16 => ?_)
    · replace hm := hm.1 h16
      refine w_seq fun K17 hK17 => ?_
      refine w_region ?_
      refine wl_val (g_assign (v := .bool true) rfl) rfl ?_
      refine wl_nil ?_
      refine hK17 _ _ ?_
      refine w_ret ?_
      repeat first | with_reducible refine q_then ?_ | with_reducible refine q_block ?_
      exact ret1 rfl (by decide) ⟨_, hm, rfl, toExt hB12⟩
    · replace hm := hm.2 h16
      refine w_skip ?_
      refine hK14 _ _ ?_
      refine w_seq fun K18 hK18 => ?_
      refine w_region ?_
      refine wl_val (g_move (v := .slice a0 n0 c0) rfl) rfl ?_
      refine wl_step rfl (g_call (vs := #[.slice a0 n0 c0]) CF14 (args1 rfl) (m_laws_toPlayerS_fn ((hp0.bel hB12).up hS13) hm)) ?_
      rintro _ w19 ⟨r22, a23, n24, c25, y26, hm, he27, rfl, hE20, hN21⟩
      have hS31 := hS13.call2 hE20 hN21
      have hB32 := hB12.trans (Ext.stp hE20 hS13.base)
      refine wl_val (g_move (v := .slice a1 n1 c1) rfl) rfl ?_
      refine wl_step rfl (g_call (vs := #[.slice a1 n1 c1]) CF15 (args1 rfl) (m_laws_toIntS_fn ((hp1.bel hB32).up hS31) hm)) ?_
      rintro _ w33 ⟨r36, a37, n38, c39, hm, rfl, hE34, hN35⟩
      have hS41 := hS31.call1 hE34 hN35
      have hB42 := hB32.trans (Ext.stp hE34 hS31.base)
      refine wl_step rfl (g_call (vs := #[.slice a23 n24 c25, .slice a37 n38 c39]) CF24 (args2 rfl rfl) (m_spec_IsSafe_fn (oT.vw hS41.g1 hS41.g2 he27) (oS.vw hS41.g0) hm)) ?_
      rintro _ w43 ⟨r46, hm, rfl, hE44⟩
      have hB47 := hB42.trans (Ext.stp hE44 hS41.base)
      have hS48 := hS41.ext hE44
      refine wl_val (g_assign (v := .bool r46) rfl) rfl ?_
      refine wl_nil ?_
      refine hK18 _ _ ?_
      refine w_seq fun K49 hK49 => ?_
      refine w_region ?_
      refine wl_val (g_move (v := .slice a0 n0 c0) rfl) rfl ?_
      refine wl_step rfl (g_call (vs := #[.slice a0 n0 c0]) CF14 (args1 rfl) (m_laws_toPlayerS_fn ((hp0.bel hB47).up hS48) hm)) ?_
      rintro _ w50 ⟨r53, a54, n55, c56, y57, hm, he58, rfl, hE51, hN52⟩
      have hS62 := hS48.call2 hE51 hN52
      have hB63 := hB47.trans (Ext.stp hE51 hS48.base)
      refine wl_val (g_assign (v := .slice a54 n55 c56) rfl) rfl ?_
      refine wl_nil ?_
      refine hK49 _ _ ?_
      refine w_seq fun K64 hK64 => ?_
      refine w_region ?_
      refine wl_val (g_move (v := .slice a1 n1 c1) rfl) rfl ?_
      refine wl_step rfl (g_call (vs := #[.slice a1 n1 c1]) CF15 (args1 rfl) (m_laws_toIntS_fn ((hp1.bel hB63).up hS62) hm)) ?_
      rintro _ w65 ⟨r68, a69, n70, c71, hm, rfl, hE66, hN67⟩
      have hS73 := hS62.call1 hE66 hN67
      have hB74 := hB63.trans (Ext.stp hE66 hS62.base)
      refine wl_val (g_assign (v := .slice a69 n70 c71) rfl) rfl ?_
      refine wl_nil ?_
      refine hK64 _ _ ?_
      refine w_seq fun K75 hK75 => ?_
      refine w_region ?_
      refine wl_val (g_move (v := .slice a54 n55 c56) rfl) rfl ?_
      refine wl_val (g_move (v := .slice a69 n70 c71) rfl) rfl ?_
      refine wl_step rfl (g_call (vs := #[.slice a54 n55 c56, .slice a69 n70 c71]) CF25 (args2 rfl rfl) (m_impl_IsSafe_fn (oT.vw hS73.g1 hS73.g2 he58) (oS.vw hS73.g0) hm)) ?_
      rintro _ w76 ⟨r79, hm, rfl, hE77⟩
      have hB80 := hB74.trans (Ext.stp hE77 hS73.base)
      have hS81 := hS73.ext hE77
      refine wl_val (g_assign (v := .bool r79) rfl) rfl ?_
      refine wl_nil ?_
      refine hK75 _ _ ?_
      refine w_seq fun K82 hK82 => ?_
      refine w_seq fun K83 hK83 => ?_
      refine w_region ?_
      refine wl_val (g_move (v := .bool r79) rfl) rfl ?_
      refine wl_val (g_move (v := .bool r46) rfl) rfl ?_
      refine wl_val (g_neq_b (a := r79) (b := r46) UB rfl rfl) rfl ?_
      refine wl_nil ?_
      refine hK83 _ _ ?_
      refine w_condI (p := (r79) ≠ (r46)) (b := (decide ((r79) ≠ (r46)))) rfl decide_eq_true_iff (fun h84 => ?_) (fun h84 => ?_)
      · replace hm := hm.1 h84
        refine w_seq fun K85 hK85 => ?_
        refine w_region ?_
        refine wl_val (g_assign (v := .bool false) rfl) rfl ?_
        refine wl_nil ?_
        refine hK85 _ _ ?_
        refine w_ret ?_
        repeat first | with_reducible refine q_then ?_ | with_reducible refine q_block ?_
        exact ret1 rfl (by decide) ⟨_, hm, rfl, toExt hB80⟩
      · replace hm := hm.2 h84
        refine w_skip ?_
        refine hK82 _ _ ?_
        refine w_seq fun K86 hK86 => ?_
        refine w_seq fun K87 hK87 => ?_
        refine w_region ?_
        refine wl_val (g_move (v := .slice a54 n55 c56) rfl) rfl ?_
        refine wl_val (g_move (v := .slice a0 n0 c0) rfl) rfl ?_
        refine wl_step rfl (g_call (vs := #[.slice a0 n0 c0]) CF14 (args1 rfl) (m_laws_toPlayerS_fn ((hp0.bel hB80).up hS81) hm)) ?_
        rintro _ w88 ⟨r91, a92, n93, c94, y95, hm, he96, rfl, hE89, hN90⟩
        have hS100 := hS81.call2 hE89 hN90
        have hB101 := hB80.trans (Ext.stp hE89 hS81.base)
        refine wl_step rfl (g_call (vs := #[.slice a54 n55 c56, .slice a92 n93 c94]) CF18 (args2 rfl rfl) (m_laws_eqPlayerS_fn (oT.vw hS100.g3 hS100.g4 he58) (oT.vw hS100.g0 hS100.g1 he96) hm)) ?_
        rintro _ w102 ⟨r105, hm, rfl, hE103⟩
        have hB106 := hB101.trans (Ext.stp hE103 hS100.base)
        have hS107 := hS100.ext hE103
        refine wl_val (g_not (a := r105) rfl) rfl ?_
        refine wl_nil ?_
        refine hK87 _ _ ?_
        refine w_condI (p := ¬ (r105 = true)) (b := (!r105)) rfl (i_not Iff.rfl) (fun h108 => ?_) (fun h108 => ?_)
        · replace hm := hm.1 h108
          refine w_seq fun K109 hK109 => ?_
          refine w_region ?_
          refine wl_val (g_assign (v := .bool false) rfl) rfl ?_
          refine wl_nil ?_
          refine hK109 _ _ ?_
          refine w_ret ?_
          repeat first | with_reducible refine q_then ?_ | with_reducible refine q_block ?_
          exact ret1 rfl (by decide) ⟨_, hm, rfl, toExt hB106⟩
        · replace hm := hm.2 h108
          refine w_skip ?_
          refine hK86 _ _ ?_
          refine w_seq fun K110 hK110 => ?_
          refine w_seq fun K111 hK111 => ?_
          refine w_region ?_
          refine wl_val (g_move (v := .slice a69 n70 c71) rfl) rfl ?_
          refine wl_val (g_move (v := .slice a1 n1 c1) rfl) rfl ?_
          refine wl_step rfl (g_call (vs := #[.slice a1 n1 c1]) CF15 (args1 rfl) (m_laws_toIntS_fn ((hp1.bel hB106).up hS107) hm)) ?_
          rintro _ w112 ⟨r115, a116, n117, c118, hm, rfl, hE113, hN114⟩
          have hS120 := hS107.call1 hE113 hN114
          have hB121 := hB106.trans (Ext.stp hE113 hS107.base)
          refine wl_step rfl (g_call (vs := #[.slice a69 n70 c71, .slice a116 n117 c118]) CF17 (args2 rfl rfl) (m_laws_eqIntS_fn (oS.vw hS120.g3) (oS.vw hS120.g0) hm)) ?_
          rintro _ w122 ⟨r125, hm, rfl, hE123⟩
          have hB126 := hB121.trans (Ext.stp hE123 hS120.base)
          have hS127 := hS120.ext hE123
          refine wl_val (g_not (a := r125) rfl) rfl ?_
          refine wl_nil ?_
          refine hK111 _ _ ?_
          refine w_condI (p := ¬ (r125 = true)) (b := (!r125)) rfl (i_not Iff.rfl) (fun h128 => ?_) (fun h128 => ?_)
          · replace hm := hm.1 h128
            refine w_seq fun K129 hK129 => ?_
            refine w_region ?_
            refine wl_val (g_assign (v := .bool false) rfl) rfl ?_
            refine wl_nil ?_
            refine hK129 _ _ ?_
            refine w_ret ?_
            repeat first | with_reducible refine q_then ?_ | with_reducible refine q_block ?_
            exact ret1 rfl (by decide) ⟨_, hm, rfl, toExt hB126⟩
          · replace hm := hm.2 h128
            refine w_skip ?_
            refine hK110 _ _ ?_
            refine w_seq fun K130 hK130 => ?_
            refine w_region ?_
            refine wl_val (g_assign (v := .bool true) rfl) rfl ?_
            refine wl_nil ?_
            refine hK130 _ _ ?_
            refine w_ret ?_
            repeat first | with_reducible refine q_then ?_ | with_reducible refine q_block ?_
            exact ret1 rfl (by decide) ⟨_, hm, rfl, toExt hB126⟩

end Go.Proofs.Ytddjkiefadiijaa
