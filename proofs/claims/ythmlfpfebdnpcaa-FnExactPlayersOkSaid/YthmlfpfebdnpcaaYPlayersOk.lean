/- The walks: the code does what its model says. Printed by a program (gen2.py). No statement of the claim stands here. -/
import Derived.Test.YthmlfpfebdnpcaaSop
import Derived.Test.YthmlfpfebdnpcaaFacts
import Derived.Test.YthmlfpfebdnpcaaME
import Derived.Test.YthmlfpfebdnpcaaWE1
namespace Go.Proofs.Ythmlfpfebdnpcaa
open Go Go.RowKit
set_option maxRecDepth 100000
theorem m_laws_FnExactPlayersOk_fn {w : World} {a0 : Option Addr} {n0 c0 : Nat} {y0 : List PlayerD} {p0 : List PlayerC} {Q : Bool → Prop} (hp0 : Tv w.heap.size w a0 n0 c0 y0 p0) (hm : m_laws_FnExactPlayersOk p0 Q) :
    Fn Try.prog 4 #[.slice a0 n0 c0] w (fun v w' => ∃ (r0 : Bool), Q r0 ∧ v = .bool r0 ∧ Ext w w') := by
  unfold m_laws_FnExactPlayersOk at hm
  have hB0 := Below.refl w.heap.size w
  have hS0 : Sep w w.heap.size [] := Sep.nil (Nat.le_refl _)
  refine fn_of_wp Try.func4 rfl (by kernel_rfl) (Nat.le_of_ble_eq_true rfl) ?_
  refine w_seq fun K1 hK1 => ?_
  refine w_region ?_
  refine wl_val (g_assign (v := .bool false) rfl) rfl ?_
  refine wl_nil ?_
  refine hK1 _ _ ?_
  refine w_seq fun K2 hK2 => ?_
  refine w_region ?_
  refine wl_val (g_assign (v := .int .i64 1048576) rfl) rfl ?_
  refine wl_nil ?_
  refine hK2 _ _ ?_
  refine w_seq fun K3 hK3 => ?_
  refine w_region ?_
  refine wl_val (g_move (v := .slice a0 n0 c0) rfl) rfl ?_
  refine wl_val (g_move (v := .int .i64 1048576) rfl) rfl ?_
  refine wl_step rfl (g_call (vs := #[.slice a0 n0 c0, .int .i64 1048576]) CF21 (args2 rfl rfl) (m_laws_szPlayerS_fn ((hp0.bel hB0).up hS0) 1048576 hm)) ?_
  rintro _ w4 ⟨r7, hm, rfl, hE5⟩
  have hB8 := hB0.trans (Ext.stp hE5 hS0.base)
  have hS9 := hS0.ext hE5
  refine wl_val (g_assign (v := .int .i64 r7) rfl) rfl ?_
  refine wl_nil ?_
  refine hK3 _ _ ?_
  refine w_seq fun K10 hK10 => ?_
  refine w_seq fun K11 hK11 => ?_
  refine w_region ?_
  refine wl_val (g_move (v := .int .i64 r7) rfl) rfl ?_
  refine wl_val (g_lss (a := r7) (b := 0) rfl rfl) rfl ?_
  refine wl_nil ?_
  refine hK11 _ _ ?_
  refine w_condI (p := r7 < 0) (b := (decide (r7 < 0))) rfl decide_eq_true_iff (fun h12 => ?_) (fun h12 => ?_)
  · replace hm := hm.1 h12
    refine w_seq fun K13 hK13 => ?_
    refine w_region ?_
    refine wl_val (g_assign (v := .bool true) rfl) rfl ?_
    refine wl_nil ?_
    refine hK13 _ _ ?_
    refine w_ret ?_
    repeat first | with_reducible refine q_then ?_ | with_reducible refine q_block ?_
    exact ret1 rfl (by decide) ⟨_, hm, rfl, toExt hB8⟩
  · replace hm := hm.2 h12
    refine w_skip ?_
    refine hK10 _ _ ?_
    refine w_seq fun K14 hK14 => ?_
    refine w_region ?_
    refine wl_val (g_move (v := .slice a0 n0 c0) rfl) rfl ?_
    refine wl_step rfl (g_call (vs := #[.slice a0 n0 c0]) CF23 (args1 rfl) (m_laws_toPlayerS_fn ((hp0.bel hB8).up hS9) hm)) ?_
    rintro _ w15 ⟨r18, a19, n20, c21, y22, hm, he23, rfl, hE16, hN17⟩
    have hS27 := hS9.call2 hE16 hN17
    have hB28 := hB8.trans (Ext.stp hE16 hS9.base)
    refine wl_step rfl (g_call (vs := #[.slice a19 n20 c21]) CF22 (args1 rfl) (m_spec_PlayersOk_fn (oT.vw hS27.g0 hS27.g1 he23) hm)) ?_
    rintro _ w29 ⟨r32, hm, rfl, hE30⟩
    have hB33 := hB28.trans (Ext.stp hE30 hS27.base)
    have hS34 := hS27.ext hE30
    refine wl_val (g_assign (v := .bool r32) rfl) rfl ?_
    refine wl_nil ?_
    refine hK14 _ _ ?_
    refine w_seq fun K35 hK35 => ?_
    refine w_region ?_
    refine wl_val (g_move (v := .slice a0 n0 c0) rfl) rfl ?_
    refine wl_step rfl (g_call (vs := #[.slice a0 n0 c0]) CF23 (args1 rfl) (m_laws_toPlayerS_fn ((hp0.bel hB33).up hS34) hm)) ?_
    rintro _ w36 ⟨r39, a40, n41, c42, y43, hm, he44, rfl, hE37, hN38⟩
    have hS48 := hS34.call2 hE37 hN38
    have hB49 := hB33.trans (Ext.stp hE37 hS34.base)
    refine wl_val (g_assign (v := .slice a40 n41 c42) rfl) rfl ?_
    refine wl_nil ?_
    refine hK35 _ _ ?_
    refine w_seq fun K50 hK50 => ?_
    refine w_region ?_
    refine wl_val (g_move (v := .slice a40 n41 c42) rfl) rfl ?_
    refine wl_step rfl (g_call (vs := #[.slice a40 n41 c42]) CF24 (args1 rfl) (m_impl_PlayersOk_fn (oT.vw hS48.g0 hS48.g1 he44) hm)) ?_
    rintro _ w51 ⟨r54, hm, rfl, hE52⟩
    have hB55 := hB49.trans (Ext.stp hE52 hS48.base)
    have hS56 := hS48.ext hE52
    refine wl_val (g_assign (v := .bool r54) rfl) rfl ?_
    refine wl_nil ?_
    refine hK50 _ _ ?_
    refine w_seq fun K57 hK57 => ?_
    refine w_seq fun K58 hK58 => ?_
    refine w_region ?_
    refine wl_val (g_move (v := .bool r54) rfl) rfl ?_
    refine wl_val (g_move (v := .bool r32) rfl) rfl ?_
    refine wl_val (g_neq_b (a := r54) (b := r32) UB rfl rfl) rfl ?_
    refine wl_nil ?_
    refine hK58 _ _ ?_
    refine w_condI (p := (r54) ≠ (r32)) (b := (decide ((r54) ≠ (r32)))) rfl decide_eq_true_iff (fun h59 => ?_) (fun h59 => ?_)
    · replace hm := hm.1 h59
      refine w_seq fun K60 hK60 => ?_
      refine w_region ?_
      refine wl_val (g_assign (v := .bool false) rfl) rfl ?_
      refine wl_nil ?_
      refine hK60 _ _ ?_
      refine w_ret ?_
      repeat first | with_reducible refine q_then ?_ | with_reducible refine q_block ?_
      exact ret1 rfl (by decide) ⟨_, hm, rfl, toExt hB55⟩
    · replace hm := hm.2 h59
      refine w_skip ?_
      refine hK57 _ _ ?_
      refine w_seq fun K61 hK61 => ?_
      refine w_seq fun K62 hK62 => ?_
      refine w_region ?_
      refine wl_val (g_move (v := .slice a40 n41 c42) rfl) rfl ?_
      refine wl_val (g_move (v := .slice a0 n0 c0) rfl) rfl ?_
      refine wl_step rfl (g_call (vs := #[.slice a0 n0 c0]) CF23 (args1 rfl) (m_laws_toPlayerS_fn ((hp0.bel hB55).up hS56) hm)) ?_
      rintro _ w63 ⟨r66, a67, n68, c69, y70, hm, he71, rfl, hE64, hN65⟩
      have hS75 := hS56.call2 hE64 hN65
      have hB76 := hB55.trans (Ext.stp hE64 hS56.base)
      refine wl_step rfl (g_call (vs := #[.slice a40 n41 c42, .slice a67 n68 c69]) CF25 (args2 rfl rfl) (m_laws_eqPlayerS_fn (oT.vw hS75.g2 hS75.g3 he44) (oT.vw hS75.g0 hS75.g1 he71) hm)) ?_
      rintro _ w77 ⟨r80, hm, rfl, hE78⟩
      have hB81 := hB76.trans (Ext.stp hE78 hS75.base)
      have hS82 := hS75.ext hE78
      refine wl_val (g_not (a := r80) rfl) rfl ?_
      refine wl_nil ?_
      refine hK62 _ _ ?_
      refine w_condI (p := ¬ (r80 = true)) (b := (!r80)) rfl (i_not Iff.rfl) (fun h83 => ?_) (fun h83 => ?_)
      · replace hm := hm.1 h83
        refine w_seq fun K84 hK84 => ?_
        refine w_region ?_
        refine wl_val (g_assign (v := .bool false) rfl) rfl ?_
        refine wl_nil ?_
        refine hK84 _ _ ?_
        refine w_ret ?_
        repeat first | with_reducible refine q_then ?_ | with_reducible refine q_block ?_
        exact ret1 rfl (by decide) ⟨_, hm, rfl, toExt hB81⟩
      · replace hm := hm.2 h83
        refine w_skip ?_
        refine hK61 _ _ ?_
        refine w_seq fun K85 hK85 => ?_
        refine w_region ?_
        refine wl_val (g_assign (v := .bool true) rfl) rfl ?_
        refine wl_nil ?_
        refine hK85 _ _ ?_
        refine w_ret ?_
        repeat first | with_reducible refine q_then ?_ | with_reducible refine q_block ?_
        exact ret1 rfl (by decide) ⟨_, hm, rfl, toExt hB81⟩

end Go.Proofs.Ythmlfpfebdnpcaa
