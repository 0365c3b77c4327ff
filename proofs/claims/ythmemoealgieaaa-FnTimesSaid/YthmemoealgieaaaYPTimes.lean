/- The walks: the code does what its model says. Printed by a program (gen2.py). No statement of the claim stands here. -/
import Derived.Test.YthmemoealgieaaaFacts2
import Derived.Test.YthmemoealgieaaaSop
import Derived.Test.YthmemoealgieaaaFacts
import Derived.Test.YthmemoealgieaaaMC
import Derived.Test.YthmemoealgieaaaWC1
import Derived.Test.YthmemoealgieaaaWC2
namespace Go.Proofs.Ythmemoealgieaaa
open Go Go.RowKit
set_option maxRecDepth 100000
theorem m_laws_FnTimes_fn {w : World} {a0 : Option Addr} {n0 c0 : Nat} {p0 : List Byte} {Q : Bool → Prop} (hp0 : Vw w.heap.size w a0 n0 c0 p0) (hm : m_laws_FnTimes p0 Q) :
    Fn Try.prog 8 #[.slice a0 n0 c0] w (fun v w' => ∃ (r0 : Bool), Q r0 ∧ v = .bool r0 ∧ Ext w w') := by
  unfold m_laws_FnTimes at hm
  have hB0 := Below.refl w.heap.size w
  have hS0 : Sep w w.heap.size [] := Sep.nil (Nat.le_refl _)
  refine fn_of_wp Try.func8 rfl (by kernel_rfl) (Nat.le_of_ble_eq_true rfl) ?_
  refine w_seq fun K1 hK1 => ?_
  refine w_region ?_
  refine wl_val (g_assign (v := .bool false) rfl) rfl ?_
  refine wl_nil ?_
  refine hK1 _ _ ?_
  refine w_seq fun K2 hK2 => ?_
  refine w_seq fun K3 hK3 => ?_
  refine w_region ?_
  refine wl_val (g_move (v := .slice a0 n0 c0) rfl) rfl ?_
  refine wl_step rfl (g_call (vs := #[.slice a0 n0 c0]) CF26 (args1 rfl) (m_laws_big_fn ((hp0.bel hB0).up hS0) hm)) ?_
  rintro _ w4 ⟨r7, hm, rfl, hE5⟩
  have hB8 := hB0.trans (Ext.stp hE5 hS0.base)
  have hS9 := hS0.ext hE5
  refine wl_nil ?_
  refine hK3 _ _ ?_
  refine w_condI (p := r7 = true) (b := r7) rfl Iff.rfl (fun h10 => ?_) (fun h10 => ?_)
  · replace hm := hm.1 h10
    refine w_seq fun K11 hK11 => ?_
    refine w_region ?_
    refine wl_val (g_assign (v := .bool true) rfl) rfl ?_
    refine wl_nil ?_
    refine hK11 _ _ ?_
    refine w_ret ?_
    repeat first | with_reducible refine q_then ?_ | with_reducible refine q_block ?_
    exact ret1 rfl (by decide) ⟨_, hm, rfl, toExt hB8⟩
  · replace hm := hm.2 h10
    refine w_skip ?_
    refine hK2 _ _ ?_
    refine w_seq fun K12 hK12 => ?_
    refine w_region ?_
    refine wl_val (g_move (v := .slice a0 n0 c0) rfl) rfl ?_
    refine wl_step rfl (g_call (vs := #[.slice a0 n0 c0]) CF27 (args1 rfl) (m_spec_DrawCues_fn ((hp0.bel hB8).up hS9) hm)) ?_
    rintro _ w13 ⟨r16, a17, n18, c19, y20, hm, he21, rfl, hE14, hN15⟩
    have hS25 := hS9.call2 hE14 hN15
    have hB26 := hB8.trans (Ext.stp hE14 hS9.base)
    refine wl_val (g_assign (v := .slice a17 n18 c19) rfl) rfl ?_
    refine wl_nil ?_
    refine hK12 _ _ ?_
    refine w_seq fun K27 hK27 => ?_
    refine w_region ?_
    refine wl_val (g_move (v := .slice a17 n18 c19) rfl) rfl ?_
    refine wl_step rfl (g_call (vs := #[.slice a17 n18 c19]) CF38 (args1 rfl) (m_impl_StartsOf_fn (oT.vw hS25.g0 hS25.g1 he21) hm)) ?_
    rintro _ w28 ⟨r31, a32, n33, c34, hm, rfl, hE29, hN30⟩
    have hS36 := hS25.call1 hE29 hN30
    have hB37 := hB26.trans (Ext.stp hE29 hS25.base)
    refine wl_val (g_assign (v := .slice a32 n33 c34) rfl) rfl ?_
    refine wl_nil ?_
    refine hK27 _ _ ?_
    refine w_seq fun K38 hK38 => ?_
    refine w_region ?_
    refine wl_val (g_move (v := .slice a17 n18 c19) rfl) rfl ?_
    refine wl_step rfl (g_call (vs := #[.slice a17 n18 c19]) CF39 (args1 rfl) (m_impl_LatestStarts_fn (oT.vw hS36.g1 hS36.g2 he21) hm)) ?_
    rintro _ w39 ⟨r42, a43, n44, c45, hm, rfl, hE40, hN41⟩
    have hS47 := hS36.call1 hE40 hN41
    have hB48 := hB37.trans (Ext.stp hE40 hS36.base)
    refine wl_val (g_assign (v := .slice a43 n44 c45) rfl) rfl ?_
    refine wl_nil ?_
    refine hK38 _ _ ?_
    refine w_seq fun K49 hK49 => ?_
    refine w_region ?_
    refine wl_val (g_move (v := .slice a17 n18 c19) rfl) rfl ?_
    refine wl_step rfl (g_call (vs := #[.slice a17 n18 c19]) CF40 (args1 rfl) (m_impl_PlayTime_fn (oT.vw hS47.g2 hS47.g3 he21) hm)) ?_
    rintro _ w50 ⟨r53, hm, rfl, hE51⟩
    have hB54 := hB48.trans (Ext.stp hE51 hS47.base)
    have hS55 := hS47.ext hE51
    refine wl_val (g_assign (v := .int .i64 r53) rfl) rfl ?_
    refine wl_nil ?_
    refine hK49 _ _ ?_
    refine w_seq fun K56 hK56 => ?_
    refine w_region ?_
    refine wl_val (g_move (v := .slice a17 n18 c19) rfl) rfl ?_
    refine wl_step rfl (g_call (vs := #[.slice a17 n18 c19]) CF41 (args1 rfl) (m_impl_SimplePlan_fn (oT.vw hS55.g2 hS55.g3 he21) hm)) ?_
    rintro _ w57 ⟨r60, a61, n62, c63, hm, rfl, hE58, hN59⟩
    have hS65 := hS55.call1 hE58 hN59
    have hB66 := hB54.trans (Ext.stp hE58 hS55.base)
    refine wl_val (g_assign (v := .slice a61 n62 c63) rfl) rfl ?_
    refine wl_nil ?_
    refine hK56 _ _ ?_
    refine w_seq fun K67 hK67 => ?_
    refine w_seq fun K68 hK68 => ?_
    refine w_region ?_
    refine wl_val (g_move (v := .slice a32 n33 c34) rfl) rfl ?_
    refine wl_val (q_len SL24 rfl (Vw.len (oS.vw hS65.g2))) rfl ?_
    refine wl_val (g_move (v := .slice a17 n18 c19) rfl) rfl ?_
    refine wl_val (q_len SL26 rfl (Tv.len (oT.vw hS65.g3 hS65.g4 he21))) rfl ?_
    refine wl_val (g_neq (a := (r31.length : Int)) (b := (r16.length : Int)) rfl rfl) rfl ?_
    refine wl_val (g_move (v := .bool (decide ((r31.length : Int) ≠ (r16.length : Int)))) rfl) rfl ?_
    refine wl_guard (c := (decide ((r31.length : Int) ≠ (r16.length : Int))) = false) (val := .slice a43 n44 c45) (b := ((decide ((r31.length : Int) ≠ (r16.length : Int))) == false)) (gv_some rfl rfl rfl) beq_iff_eq (fun hc69 => ?_) ?_
    · have hcq0 : ¬ ((r31.length : Int) ≠ (r16.length : Int)) := (i_neg decide_eq_true_iff hc69)
      exact g_move (v := .slice a43 n44 c45) rfl
    refine wl_guard (c := (decide ((r31.length : Int) ≠ (r16.length : Int))) = false) (val := .int .i64 (r42.length : Int)) (b := ((decide ((r31.length : Int) ≠ (r16.length : Int))) == false)) (gv_some rfl rfl rfl) beq_iff_eq (fun hc70 => ?_) ?_
    · have hcq0 : ¬ ((r31.length : Int) ≠ (r16.length : Int)) := (i_neg decide_eq_true_iff hc70)
      exact q_len SL24 (if_pos hc70) (Vw.len (oS.vw hS65.g1))
    refine wl_guard (c := (decide ((r31.length : Int) ≠ (r16.length : Int))) = false) (val := .slice a17 n18 c19) (b := ((decide ((r31.length : Int) ≠ (r16.length : Int))) == false)) (gv_some rfl rfl rfl) beq_iff_eq (fun hc71 => ?_) ?_
    · have hcq0 : ¬ ((r31.length : Int) ≠ (r16.length : Int)) := (i_neg decide_eq_true_iff hc71)
      exact g_move (v := .slice a17 n18 c19) rfl
    refine wl_guard (c := (decide ((r31.length : Int) ≠ (r16.length : Int))) = false) (val := .int .i64 (r16.length : Int)) (b := ((decide ((r31.length : Int) ≠ (r16.length : Int))) == false)) (gv_some rfl rfl rfl) beq_iff_eq (fun hc72 => ?_) ?_
    · have hcq0 : ¬ ((r31.length : Int) ≠ (r16.length : Int)) := (i_neg decide_eq_true_iff hc72)
      exact q_len SL26 (if_pos hc72) (Tv.len (oT.vw hS65.g3 hS65.g4 he21))
    refine wl_guard (c := (decide ((r31.length : Int) ≠ (r16.length : Int))) = false) (val := .bool (decide ((r42.length : Int) ≠ (r16.length : Int)))) (b := ((decide ((r31.length : Int) ≠ (r16.length : Int))) == false)) (gv_some rfl rfl rfl) beq_iff_eq (fun hc73 => ?_) ?_
    · have hcq0 : ¬ ((r31.length : Int) ≠ (r16.length : Int)) := (i_neg decide_eq_true_iff hc73)
      exact g_neq (a := (r42.length : Int)) (b := (r16.length : Int)) (if_pos hc73) (if_pos hc73)
    refine wl_val (g_pick_or (b := (decide ((r31.length : Int) ≠ (r16.length : Int)))) (q := (decide ((r42.length : Int) ≠ (r16.length : Int)))) rfl rfl) rfl ?_
    refine wl_val (g_move (v := .bool ((decide ((r31.length : Int) ≠ (r16.length : Int))) || (decide ((r42.length : Int) ≠ (r16.length : Int))))) rfl) rfl ?_
    refine wl_guard (c := ((decide ((r31.length : Int) ≠ (r16.length : Int))) || (decide ((r42.length : Int) ≠ (r16.length : Int)))) = false) (val := .slice a61 n62 c63) (b := (((decide ((r31.length : Int) ≠ (r16.length : Int))) || (decide ((r42.length : Int) ≠ (r16.length : Int)))) == false)) (gv_some rfl rfl rfl) beq_iff_eq (fun hc74 => ?_) ?_
    · have hcq1 : ¬ ((((r31.length : Int) ≠ (r16.length : Int)) ∨ ((r42.length : Int) ≠ (r16.length : Int)))) := (i_neg (i_or decide_eq_true_iff decide_eq_true_iff) hc74)
      exact g_move (v := .slice a61 n62 c63) rfl
    refine wl_guard (c := ((decide ((r31.length : Int) ≠ (r16.length : Int))) || (decide ((r42.length : Int) ≠ (r16.length : Int)))) = false) (val := .int .i64 (r60.length : Int)) (b := (((decide ((r31.length : Int) ≠ (r16.length : Int))) || (decide ((r42.length : Int) ≠ (r16.length : Int)))) == false)) (gv_some rfl rfl rfl) beq_iff_eq (fun hc75 => ?_) ?_
    · have hcq1 : ¬ ((((r31.length : Int) ≠ (r16.length : Int)) ∨ ((r42.length : Int) ≠ (r16.length : Int)))) := (i_neg (i_or decide_eq_true_iff decide_eq_true_iff) hc75)
      exact q_len SL24 (if_pos hc75) (Vw.len (oS.vw hS65.g0))
    refine wl_guard (c := ((decide ((r31.length : Int) ≠ (r16.length : Int))) || (decide ((r42.length : Int) ≠ (r16.length : Int)))) = false) (val := .slice a17 n18 c19) (b := (((decide ((r31.length : Int) ≠ (r16.length : Int))) || (decide ((r42.length : Int) ≠ (r16.length : Int)))) == false)) (gv_some rfl rfl rfl) beq_iff_eq (fun hc76 => ?_) ?_
    · have hcq1 : ¬ ((((r31.length : Int) ≠ (r16.length : Int)) ∨ ((r42.length : Int) ≠ (r16.length : Int)))) := (i_neg (i_or decide_eq_true_iff decide_eq_true_iff) hc76)
      exact g_move (v := .slice a17 n18 c19) rfl
    refine wl_guard (c := ((decide ((r31.length : Int) ≠ (r16.length : Int))) || (decide ((r42.length : Int) ≠ (r16.length : Int)))) = false) (val := .int .i64 (r16.length : Int)) (b := (((decide ((r31.length : Int) ≠ (r16.length : Int))) || (decide ((r42.length : Int) ≠ (r16.length : Int)))) == false)) (gv_some rfl rfl rfl) beq_iff_eq (fun hc77 => ?_) ?_
    · have hcq1 : ¬ ((((r31.length : Int) ≠ (r16.length : Int)) ∨ ((r42.length : Int) ≠ (r16.length : Int)))) := (i_neg (i_or decide_eq_true_iff decide_eq_true_iff) hc77)
      exact q_len SL26 (if_pos hc77) (Tv.len (oT.vw hS65.g3 hS65.g4 he21))
    refine wl_guard (c := ((decide ((r31.length : Int) ≠ (r16.length : Int))) || (decide ((r42.length : Int) ≠ (r16.length : Int)))) = false) (val := .bool (decide ((r60.length : Int) ≠ (r16.length : Int)))) (b := (((decide ((r31.length : Int) ≠ (r16.length : Int))) || (decide ((r42.length : Int) ≠ (r16.length : Int)))) == false)) (gv_some rfl rfl rfl) beq_iff_eq (fun hc78 => ?_) ?_
    · have hcq1 : ¬ ((((r31.length : Int) ≠ (r16.length : Int)) ∨ ((r42.length : Int) ≠ (r16.length : Int)))) := (i_neg (i_or decide_eq_true_iff decide_eq_true_iff) hc78)
      exact g_neq (a := (r60.length : Int)) (b := (r16.length : Int)) (if_pos hc78) (if_pos hc78)
    refine wl_val (g_pick_or (b := ((decide ((r31.length : Int) ≠ (r16.length : Int))) || (decide ((r42.length : Int) ≠ (r16.length : Int))))) (q := (decide ((r60.length : Int) ≠ (r16.length : Int)))) rfl rfl) rfl ?_
    refine wl_val (g_move (v := .bool (((decide ((r31.length : Int) ≠ (r16.length : Int))) || (decide ((r42.length : Int) ≠ (r16.length : Int)))) || (decide ((r60.length : Int) ≠ (r16.length : Int))))) rfl) rfl ?_
    refine wl_guard (c := (((decide ((r31.length : Int) ≠ (r16.length : Int))) || (decide ((r42.length : Int) ≠ (r16.length : Int)))) || (decide ((r60.length : Int) ≠ (r16.length : Int)))) = false) (val := .slice a17 n18 c19) (b := ((((decide ((r31.length : Int) ≠ (r16.length : Int))) || (decide ((r42.length : Int) ≠ (r16.length : Int)))) || (decide ((r60.length : Int) ≠ (r16.length : Int)))) == false)) (gv_some rfl rfl rfl) beq_iff_eq (fun hc79 => ?_) ?_
    · have hcq2 : ¬ ((((((r31.length : Int) ≠ (r16.length : Int)) ∨ ((r42.length : Int) ≠ (r16.length : Int)))) ∨ ((r60.length : Int) ≠ (r16.length : Int)))) := (i_neg (i_or (i_or decide_eq_true_iff decide_eq_true_iff) decide_eq_true_iff) hc79)
      exact g_move (v := .slice a17 n18 c19) rfl
    refine wl_guard (c := (((decide ((r31.length : Int) ≠ (r16.length : Int))) || (decide ((r42.length : Int) ≠ (r16.length : Int)))) || (decide ((r60.length : Int) ≠ (r16.length : Int)))) = false) (val := .slice a61 n62 c63) (b := ((((decide ((r31.length : Int) ≠ (r16.length : Int))) || (decide ((r42.length : Int) ≠ (r16.length : Int)))) || (decide ((r60.length : Int) ≠ (r16.length : Int)))) == false)) (gv_some rfl rfl rfl) beq_iff_eq (fun hc80 => ?_) ?_
    · have hcq2 : ¬ ((((((r31.length : Int) ≠ (r16.length : Int)) ∨ ((r42.length : Int) ≠ (r16.length : Int)))) ∨ ((r60.length : Int) ≠ (r16.length : Int)))) := (i_neg (i_or (i_or decide_eq_true_iff decide_eq_true_iff) decide_eq_true_iff) hc80)
      exact g_move (v := .slice a61 n62 c63) rfl
    obtain ⟨r82, hk83, hm⟩ := hm
    refine wl_guardE (X := Ext) (c := (((decide ((r31.length : Int) ≠ (r16.length : Int))) || (decide ((r42.length : Int) ≠ (r16.length : Int)))) || (decide ((r60.length : Int) ≠ (r16.length : Int)))) = false) (val := .bool r82) (Ext.refl _) (b := ((((decide ((r31.length : Int) ≠ (r16.length : Int))) || (decide ((r42.length : Int) ≠ (r16.length : Int)))) || (decide ((r60.length : Int) ≠ (r16.length : Int)))) == false)) (gv_some rfl rfl rfl) beq_iff_eq (fun hc81 => ?_) (fun w84 hE85 => ?_)
    · have hcq2 : ¬ ((((((r31.length : Int) ≠ (r16.length : Int)) ∨ ((r42.length : Int) ≠ (r16.length : Int)))) ∨ ((r60.length : Int) ≠ (r16.length : Int)))) := (i_neg (i_or (i_or decide_eq_true_iff decide_eq_true_iff) decide_eq_true_iff) hc81)
      exact (g_call (vs := #[.slice a17 n18 c19, .slice a61 n62 c63]) CF42 (args2 (if_pos hc81) (if_pos hc81)) ((m_impl_IsPlan_fn (oT.vw hS65.g3 hS65.g4 he21) (oS.vw hS65.g0) (hk83 hcq2)).mono fun _ _ ⟨_, h1, h2, h3⟩ => ⟨by rw [h2, h1], h3⟩))
    have hB86 := hB66.trans (Ext.stp hE85 hS65.base)
    have hS87 := hS65.ext hE85
    refine wl_guard (c := (((decide ((r31.length : Int) ≠ (r16.length : Int))) || (decide ((r42.length : Int) ≠ (r16.length : Int)))) || (decide ((r60.length : Int) ≠ (r16.length : Int)))) = false) (val := .bool (!r82)) (b := ((((decide ((r31.length : Int) ≠ (r16.length : Int))) || (decide ((r42.length : Int) ≠ (r16.length : Int)))) || (decide ((r60.length : Int) ≠ (r16.length : Int)))) == false)) (gv_some rfl rfl rfl) beq_iff_eq (fun hc88 => ?_) ?_
    · have hcq2 : ¬ ((((((r31.length : Int) ≠ (r16.length : Int)) ∨ ((r42.length : Int) ≠ (r16.length : Int)))) ∨ ((r60.length : Int) ≠ (r16.length : Int)))) := (i_neg (i_or (i_or decide_eq_true_iff decide_eq_true_iff) decide_eq_true_iff) hc88)
      exact g_not (a := r82) (if_pos hc88)
    refine wl_val (g_pick_or (b := (((decide ((r31.length : Int) ≠ (r16.length : Int))) || (decide ((r42.length : Int) ≠ (r16.length : Int)))) || (decide ((r60.length : Int) ≠ (r16.length : Int))))) (q := (!r82)) rfl rfl) rfl ?_
    refine wl_val (g_move (v := .bool ((((decide ((r31.length : Int) ≠ (r16.length : Int))) || (decide ((r42.length : Int) ≠ (r16.length : Int)))) || (decide ((r60.length : Int) ≠ (r16.length : Int)))) || (!r82))) rfl) rfl ?_
    by_cases hc89 : ((((decide ((r31.length : Int) ≠ (r16.length : Int))) || (decide ((r42.length : Int) ≠ (r16.length : Int)))) || (decide ((r60.length : Int) ≠ (r16.length : Int)))) || (!r82)) = false
    · replace hm := hm.1 (i_neg (i_or (i_or (i_or decide_eq_true_iff decide_eq_true_iff) decide_eq_true_iff) (i_not Iff.rfl)) hc89)
      refine wl_valT (g_move (v := .slice a17 n18 c19) rfl) (gv_T (gv_some rfl rfl rfl) hc89) ?_
      refine wl_valT (g_move (v := .slice a61 n62 c63) rfl) (gv_T (gv_some rfl rfl rfl) hc89) ?_
      refine wl_stepT (gv_T (gv_some rfl rfl rfl) hc89) (g_call (vs := #[.slice a17 n18 c19, .slice a61 n62 c63]) CF43 (args2 rfl rfl) (m_impl_ClashesIn_fn (oT.vw hS87.g3 hS87.g4 he21) (oS.vw hS87.g0) hm)) ?_
      rintro _ w90 ⟨r93, a94, n95, c96, y97, hm, he98, rfl, hE91, hN92⟩
      have hS102 := hS87.call2 hE91 hN92
      have hB103 := hB86.trans (Ext.stp hE91 hS87.base)
      refine wl_valT (q_len SL44 rfl (Tv.len (oT.vw hS102.g0 hS102.g1 he98))) (gv_T (gv_some rfl rfl rfl) hc89) ?_
      refine wl_valT (g_neq (a := (r93.length : Int)) (b := 0) rfl rfl) (gv_T (gv_some rfl rfl rfl) hc89) ?_
      refine wl_val (g_pickF (b := ((((decide ((r31.length : Int) ≠ (r16.length : Int))) || (decide ((r42.length : Int) ≠ (r16.length : Int)))) || (decide ((r60.length : Int) ≠ (r16.length : Int)))) || (!r82))) rfl hc89 rfl) rfl ?_
      refine wl_nil ?_
      refine hK68 _ _ ?_
      refine w_condI (p := (r93.length : Int) ≠ 0) (b := (decide ((r93.length : Int) ≠ 0))) rfl decide_eq_true_iff (fun h104 => ?_) (fun h104 => ?_)
      · replace hm := hm.1 h104
        refine w_seq fun K105 hK105 => ?_
        refine w_region ?_
        refine wl_val (g_assign (v := .bool false) rfl) rfl ?_
        refine wl_nil ?_
        refine hK105 _ _ ?_
        refine w_ret ?_
        repeat first | with_reducible refine q_then ?_ | with_reducible refine q_block ?_
        exact ret1 rfl (by decide) ⟨_, hm, rfl, toExt hB103⟩
      · replace hm := hm.2 h104
        refine w_skip ?_
        refine hK67 _ _ ?_
        refine w_seq fun K106 hK106 => ?_
        refine w_region ?_
        refine wl_val (g_assign (v := .int .i64 0) rfl) rfl ?_
        refine wl_nil ?_
        refine hK106 _ _ ?_
        refine w_seq fun K107 hK107 => ?_
        refine w_region ?_
        refine wl_val (g_assign (v := .int .i64 0) rfl) rfl ?_
        refine wl_nil ?_
        refine hK107 _ _ ?_
        refine w_cut (σ := Int × Int) (fun ⟨v1904, v1905⟩ => [(3, .slice a17 n18 c19), (4, .slice a32 n33 c34), (6, .int .i64 r53), (8, .int .i64 v1904), (9, .int .i64 v1905)]) (fun ⟨v1904, v1905⟩ w' => m_laws_FnTimes_K1 r16 r31 r53 Q v1904 v1905 ∧ Below w.heap.size w w' ∧ Sep w' w.heap.size [oS 39 a17 n18 c19 (y20 : List CueD), oT 3 (y20 : List CueD), oS 3 a32 n33 c34 (r31 : List Int)]) ?_ ?_
        · refine w_seq fun K1907 hK1907 => ?_
          refine w_region ?_
          refine wl_val (g_assign (v := .int .i64 0) rfl) rfl ?_
          refine wl_nil ?_
          refine hK1907 _ _ ?_
          refine w_block ?_
          have hS1911 := hS102.tail
          have hS1912 := hS1911.tail
          have hS1913 := hS1912.f1
          have hS1914 := hS1913.f2
          have hS1915 := hS1914.f4
          have hS1916 := hS1915.f4
          obtain ⟨I1917, μ1918, h01919, hr1920⟩ := hm
          refine w_for (σ := Int × Int × Int) (fun ⟨v1908, v1909, v1910⟩ => [(3, .slice a17 n18 c19), (4, .slice a32 n33 c34), (5, .slice a43 n44 c45), (6, .int .i64 r53), (7, .slice a61 n62 c63), (8, .int .i64 v1908), (9, .int .i64 v1909), (10, .int .i64 v1910)]) (fun ⟨v1908, v1909, v1910⟩ w' => I1917 v1908 v1909 v1910 ∧ Below w.heap.size w w' ∧ Sep w' w.heap.size [oS 39 a17 n18 c19 (y20 : List CueD), oT 3 (y20 : List CueD), oS 3 a32 n33 c34 (r31 : List Int), oS 3 a43 n44 c45 (r42 : List Int), oS 3 a61 n62 c63 (r60 : List Int)]) (fun ⟨v1908, v1909, v1910⟩ => μ1918 v1908 v1909 v1910) (0, 0, 0) ⟨rfl, rfl, rfl, rfl, rfl, rfl, rfl, rfl, trivial⟩ ⟨h01919, hB103, hS1916⟩ ?_
          rintro ⟨v1908, v1909, v1910⟩ b_ w1921 ⟨hi_, hB1922, hS1923⟩
          show Wp _ _ _ _ (upds b_ [(3, .slice a17 n18 c19), (4, .slice a32 n33 c34), (5, .slice a43 n44 c45), (6, .int .i64 r53), (7, .slice a61 n62 c63), (8, .int .i64 v1908), (9, .int .i64 v1909), (10, .int .i64 v1910)]) w1921
          have hm := hr1920 v1908 v1909 v1910 hi_
          refine w_seq fun K1925 hK1925 => ?_
          refine w_seq fun K1926 hK1926 => ?_
          refine w_region ?_
          refine wl_val (g_move (v := .int .i64 v1910) rfl) rfl ?_
          refine wl_val (g_move (v := .slice a17 n18 c19) rfl) rfl ?_
          refine wl_val (q_len SL26 rfl (Tv.len (oT.vw hS1923.g0 hS1923.g1 he21))) rfl ?_
          refine wl_val (g_lss (a := v1910) (b := (r16.length : Int)) rfl rfl) rfl ?_
          refine wl_nil ?_
          refine hK1926 _ _ ?_
          refine w_condI (p := v1910 < (r16.length : Int)) (b := (decide (v1910 < (r16.length : Int)))) rfl decide_eq_true_iff (fun h1927 => ?_) (fun h1927 => ?_)
          · replace hm := hm.1 h1927
            refine w_skip ?_
            refine hK1925 _ _ ?_
            refine w_cut (σ := Int × Int) (fun ⟨v1928, v1929⟩ => [(3, .slice a17 n18 c19), (4, .slice a32 n33 c34), (5, .slice a43 n44 c45), (6, .int .i64 r53), (7, .slice a61 n62 c63), (8, .int .i64 v1928), (9, .int .i64 v1929), (10, .int .i64 v1910)]) (fun ⟨v1928, v1929⟩ w' => m_laws_FnTimes_K0 v1910 (fun v1908' v1909' v1910' => I1917 v1908' v1909' v1910' ∧ μ1918 v1908' v1909' v1910' < μ1918 v1908 v1909 v1910) v1928 v1929 ∧ Below w.heap.size w w' ∧ Sep w' w.heap.size [oS 39 a17 n18 c19 (y20 : List CueD), oT 3 (y20 : List CueD), oS 3 a32 n33 c34 (r31 : List Int), oS 3 a43 n44 c45 (r42 : List Int), oS 3 a61 n62 c63 (r60 : List Int)]) ?_ ?_
            · refine w_block ?_
              refine w_seq fun K1931 hK1931 => ?_
              refine w_seq fun K1932 hK1932 => ?_
              refine w_draw (X := Ext) (Y := Ext) [] MIX (by decide +kernel) rfl Ext.refl (fun _ _ _ => Ext.trans) (fun _ _ _ => Chg.trans) (fun _ _ h => Ext.chg h _) (fun w1933 hE1934 => ?_)
              have hB1935 := hB1922.trans (Ext.stp hE1934 hS1923.base)
              have hS1936 := hS1923.ext hE1934
              refine ⟨.slice a32 n33 c34, fun w1937 hX1938 => od_plain rfl (by have hS1939 := hS1936.ext hX1938; have hB1940 := hB1935.trans (Ext.stp hX1938 hS1936.base); exact is_ext (g_move (v := .slice a32 n33 c34) rfl)), ?_⟩
              refine ⟨.int .i64 v1910, fun w1941 hX1942 => od_plain rfl (by have hS1943 := hS1936.ext hX1942; have hB1944 := hB1935.trans (Ext.stp hX1942 hS1936.base); exact is_ext (g_move (v := .int .i64 v1910) rfl)), ?_⟩
              obtain ⟨hg1949, hm⟩ := hm
              refine ⟨.pointer (some ((adr a32).add ((Int.toNat v1910) * El.m Int))), fun w1945 hX1946 => od_plain rfl (by have hS1947 := hS1936.ext hX1946; have hB1948 := hB1935.trans (Ext.stp hX1946 hS1936.base); exact is_ext (q_index (i := v1910) SL24 rfl rfl (oS.vw hS1947.g2) hg1949)), ?_⟩
              refine ⟨.int .i64 (r31[(Int.toNat v1910)]!), fun w1950 hX1951 => od_plain rfl (by have hS1952 := hS1936.ext hX1951; have hB1953 := hB1935.trans (Ext.stp hX1951 hS1936.base); exact is_ext (q_load (i := v1910) (v := .int .i64 (r31[(Int.toNat v1910)]!)) ON3 (oS.vw hS1952.g2) hg1949 rfl rfl)), ?_⟩
              refine ⟨.slice a43 n44 c45, fun w1954 hX1955 => od_plain rfl (by have hS1956 := hS1936.ext hX1955; have hB1957 := hB1935.trans (Ext.stp hX1955 hS1936.base); exact is_ext (g_move (v := .slice a43 n44 c45) rfl)), ?_⟩
              refine ⟨.int .i64 v1910, fun w1958 hX1959 => od_plain rfl (by have hS1960 := hS1936.ext hX1959; have hB1961 := hB1935.trans (Ext.stp hX1959 hS1936.base); exact is_ext (g_move (v := .int .i64 v1910) rfl)), ?_⟩
              obtain ⟨hg1966, hm⟩ := hm
              refine ⟨.pointer (some ((adr a43).add ((Int.toNat v1910) * El.m Int))), fun w1962 hX1963 => od_plain rfl (by have hS1964 := hS1936.ext hX1963; have hB1965 := hB1935.trans (Ext.stp hX1963 hS1936.base); exact is_ext (q_index (i := v1910) SL24 rfl rfl (oS.vw hS1964.g3) hg1966)), ?_⟩
              refine ⟨.int .i64 (r42[(Int.toNat v1910)]!), fun w1967 hX1968 => od_plain rfl (by have hS1969 := hS1936.ext hX1968; have hB1970 := hB1935.trans (Ext.stp hX1968 hS1936.base); exact is_ext (q_load (i := v1910) (v := .int .i64 (r42[(Int.toNat v1910)]!)) ON3 (oS.vw hS1969.g3) hg1966 rfl rfl)), ?_⟩
              refine ⟨.bool (decide (r31[(Int.toNat v1910)]! > r42[(Int.toNat v1910)]!)), fun w1971 hX1972 => od_plain rfl (by have hS1973 := hS1936.ext hX1972; have hB1974 := hB1935.trans (Ext.stp hX1972 hS1936.base); exact is_ext (g_gtr (a := r31[(Int.toNat v1910)]!) (b := r42[(Int.toNat v1910)]!) rfl rfl)), ?_⟩
              refine ⟨.bool (decide (r31[(Int.toNat v1910)]! > r42[(Int.toNat v1910)]!)), fun w1975 hX1976 => od_plain rfl (by have hS1977 := hS1936.ext hX1976; have hB1978 := hB1935.trans (Ext.stp hX1976 hS1936.base); exact is_ext (g_move (v := .bool (decide (r31[(Int.toNat v1910)]! > r42[(Int.toNat v1910)]!))) rfl)), ?_⟩
              refine ⟨if (decide (r31[(Int.toNat v1910)]! > r42[(Int.toNat v1910)]!)) = false then .slice a32 n33 c34 else undef, fun w1979 hX1980 => od_guard (c := (decide (r31[(Int.toNat v1910)]! > r42[(Int.toNat v1910)]!)) = false) (val := .slice a32 n33 c34) (b := ((decide (r31[(Int.toNat v1910)]! > r42[(Int.toNat v1910)]!)) == false)) (gv_some rfl rfl rfl) beq_iff_eq (fun hc1983 => ?_), ?_⟩
              · have hS1981 := hS1936.ext hX1980
                have hB1982 := hB1935.trans (Ext.stp hX1980 hS1936.base)
                have hcq13 : ¬ (r31[(Int.toNat v1910)]! > r42[(Int.toNat v1910)]!) := (i_neg decide_eq_true_iff hc1983)
                exact is_ext (g_move (v := .slice a32 n33 c34) rfl)
              refine ⟨if (decide (r31[(Int.toNat v1910)]! > r42[(Int.toNat v1910)]!)) = false then .int .i64 v1910 else undef, fun w1984 hX1985 => od_guard (c := (decide (r31[(Int.toNat v1910)]! > r42[(Int.toNat v1910)]!)) = false) (val := .int .i64 v1910) (b := ((decide (r31[(Int.toNat v1910)]! > r42[(Int.toNat v1910)]!)) == false)) (gv_some rfl rfl rfl) beq_iff_eq (fun hc1988 => ?_), ?_⟩
              · have hS1986 := hS1936.ext hX1985
                have hB1987 := hB1935.trans (Ext.stp hX1985 hS1936.base)
                have hcq13 : ¬ (r31[(Int.toNat v1910)]! > r42[(Int.toNat v1910)]!) := (i_neg decide_eq_true_iff hc1988)
                exact is_ext (g_move (v := .int .i64 v1910) rfl)
              obtain ⟨hg1994, hm⟩ := hm
              refine ⟨if (decide (r31[(Int.toNat v1910)]! > r42[(Int.toNat v1910)]!)) = false then .pointer (some ((adr a32).add ((Int.toNat v1910) * El.m Int))) else undef, fun w1989 hX1990 => od_guard (c := (decide (r31[(Int.toNat v1910)]! > r42[(Int.toNat v1910)]!)) = false) (val := .pointer (some ((adr a32).add ((Int.toNat v1910) * El.m Int)))) (b := ((decide (r31[(Int.toNat v1910)]! > r42[(Int.toNat v1910)]!)) == false)) (gv_some rfl rfl rfl) beq_iff_eq (fun hc1993 => ?_), ?_⟩
              · have hS1991 := hS1936.ext hX1990
                have hB1992 := hB1935.trans (Ext.stp hX1990 hS1936.base)
                have hcq13 : ¬ (r31[(Int.toNat v1910)]! > r42[(Int.toNat v1910)]!) := (i_neg decide_eq_true_iff hc1993)
                exact is_ext (q_index (i := v1910) SL24 (if_pos hc1993) (if_pos hc1993) (oS.vw hS1991.g2) (hg1994 hcq13))
              refine ⟨if (decide (r31[(Int.toNat v1910)]! > r42[(Int.toNat v1910)]!)) = false then .int .i64 (r31[(Int.toNat v1910)]!) else undef, fun w1995 hX1996 => od_guard (c := (decide (r31[(Int.toNat v1910)]! > r42[(Int.toNat v1910)]!)) = false) (val := .int .i64 (r31[(Int.toNat v1910)]!)) (b := ((decide (r31[(Int.toNat v1910)]! > r42[(Int.toNat v1910)]!)) == false)) (gv_some rfl rfl rfl) beq_iff_eq (fun hc1999 => ?_), ?_⟩
              · have hS1997 := hS1936.ext hX1996
                have hB1998 := hB1935.trans (Ext.stp hX1996 hS1936.base)
                have hcq13 : ¬ (r31[(Int.toNat v1910)]! > r42[(Int.toNat v1910)]!) := (i_neg decide_eq_true_iff hc1999)
                exact is_ext (q_load (i := v1910) (v := .int .i64 (r31[(Int.toNat v1910)]!)) ON3 (oS.vw hS1997.g2) (hg1994 hcq13) rfl (if_pos hc1999))
              refine ⟨if (decide (r31[(Int.toNat v1910)]! > r42[(Int.toNat v1910)]!)) = false then .slice a61 n62 c63 else undef, fun w2000 hX2001 => od_guard (c := (decide (r31[(Int.toNat v1910)]! > r42[(Int.toNat v1910)]!)) = false) (val := .slice a61 n62 c63) (b := ((decide (r31[(Int.toNat v1910)]! > r42[(Int.toNat v1910)]!)) == false)) (gv_some rfl rfl rfl) beq_iff_eq (fun hc2004 => ?_), ?_⟩
              · have hS2002 := hS1936.ext hX2001
                have hB2003 := hB1935.trans (Ext.stp hX2001 hS1936.base)
                have hcq13 : ¬ (r31[(Int.toNat v1910)]! > r42[(Int.toNat v1910)]!) := (i_neg decide_eq_true_iff hc2004)
                exact is_ext (g_move (v := .slice a61 n62 c63) rfl)
              refine ⟨if (decide (r31[(Int.toNat v1910)]! > r42[(Int.toNat v1910)]!)) = false then .int .i64 v1910 else undef, fun w2005 hX2006 => od_guard (c := (decide (r31[(Int.toNat v1910)]! > r42[(Int.toNat v1910)]!)) = false) (val := .int .i64 v1910) (b := ((decide (r31[(Int.toNat v1910)]! > r42[(Int.toNat v1910)]!)) == false)) (gv_some rfl rfl rfl) beq_iff_eq (fun hc2009 => ?_), ?_⟩
              · have hS2007 := hS1936.ext hX2006
                have hB2008 := hB1935.trans (Ext.stp hX2006 hS1936.base)
                have hcq13 : ¬ (r31[(Int.toNat v1910)]! > r42[(Int.toNat v1910)]!) := (i_neg decide_eq_true_iff hc2009)
                exact is_ext (g_move (v := .int .i64 v1910) rfl)
              obtain ⟨hg2015, hm⟩ := hm
              refine ⟨if (decide (r31[(Int.toNat v1910)]! > r42[(Int.toNat v1910)]!)) = false then .pointer (some ((adr a61).add ((Int.toNat v1910) * El.m Int))) else undef, fun w2010 hX2011 => od_guard (c := (decide (r31[(Int.toNat v1910)]! > r42[(Int.toNat v1910)]!)) = false) (val := .pointer (some ((adr a61).add ((Int.toNat v1910) * El.m Int)))) (b := ((decide (r31[(Int.toNat v1910)]! > r42[(Int.toNat v1910)]!)) == false)) (gv_some rfl rfl rfl) beq_iff_eq (fun hc2014 => ?_), ?_⟩
              · have hS2012 := hS1936.ext hX2011
                have hB2013 := hB1935.trans (Ext.stp hX2011 hS1936.base)
                have hcq13 : ¬ (r31[(Int.toNat v1910)]! > r42[(Int.toNat v1910)]!) := (i_neg decide_eq_true_iff hc2014)
                exact is_ext (q_index (i := v1910) SL24 (if_pos hc2014) (if_pos hc2014) (oS.vw hS2012.g4) (hg2015 hcq13))
              refine ⟨if (decide (r31[(Int.toNat v1910)]! > r42[(Int.toNat v1910)]!)) = false then .int .i64 (r60[(Int.toNat v1910)]!) else undef, fun w2016 hX2017 => od_guard (c := (decide (r31[(Int.toNat v1910)]! > r42[(Int.toNat v1910)]!)) = false) (val := .int .i64 (r60[(Int.toNat v1910)]!)) (b := ((decide (r31[(Int.toNat v1910)]! > r42[(Int.toNat v1910)]!)) == false)) (gv_some rfl rfl rfl) beq_iff_eq (fun hc2020 => ?_), ?_⟩
              · have hS2018 := hS1936.ext hX2017
                have hB2019 := hB1935.trans (Ext.stp hX2017 hS1936.base)
                have hcq13 : ¬ (r31[(Int.toNat v1910)]! > r42[(Int.toNat v1910)]!) := (i_neg decide_eq_true_iff hc2020)
                exact is_ext (q_load (i := v1910) (v := .int .i64 (r60[(Int.toNat v1910)]!)) ON3 (oS.vw hS2018.g4) (hg2015 hcq13) rfl (if_pos hc2020))
              refine ⟨if (decide (r31[(Int.toNat v1910)]! > r42[(Int.toNat v1910)]!)) = false then .bool (decide (r31[(Int.toNat v1910)]! > r60[(Int.toNat v1910)]!)) else undef, fun w2021 hX2022 => od_guard (c := (decide (r31[(Int.toNat v1910)]! > r42[(Int.toNat v1910)]!)) = false) (val := .bool (decide (r31[(Int.toNat v1910)]! > r60[(Int.toNat v1910)]!))) (b := ((decide (r31[(Int.toNat v1910)]! > r42[(Int.toNat v1910)]!)) == false)) (gv_some rfl rfl rfl) beq_iff_eq (fun hc2025 => ?_), ?_⟩
              · have hS2023 := hS1936.ext hX2022
                have hB2024 := hB1935.trans (Ext.stp hX2022 hS1936.base)
                have hcq13 : ¬ (r31[(Int.toNat v1910)]! > r42[(Int.toNat v1910)]!) := (i_neg decide_eq_true_iff hc2025)
                exact is_ext (g_gtr (a := r31[(Int.toNat v1910)]!) (b := r60[(Int.toNat v1910)]!) (if_pos hc2025) (if_pos hc2025))
              refine ⟨.bool ((decide (r31[(Int.toNat v1910)]! > r42[(Int.toNat v1910)]!)) || (decide (r31[(Int.toNat v1910)]! > r60[(Int.toNat v1910)]!))), fun w2026 hX2027 => od_plain rfl (by have hS2028 := hS1936.ext hX2027; have hB2029 := hB1935.trans (Ext.stp hX2027 hS1936.base); exact is_ext (g_pick_or (b := (decide (r31[(Int.toNat v1910)]! > r42[(Int.toNat v1910)]!))) (q := (decide (r31[(Int.toNat v1910)]! > r60[(Int.toNat v1910)]!))) rfl rfl)), ?_⟩
              refine ⟨.bool ((decide (r31[(Int.toNat v1910)]! > r42[(Int.toNat v1910)]!)) || (decide (r31[(Int.toNat v1910)]! > r60[(Int.toNat v1910)]!))), fun w2030 hX2031 => od_plain rfl (by have hS2032 := hS1936.ext hX2031; have hB2033 := hB1935.trans (Ext.stp hX2031 hS1936.base); exact is_ext (g_move (v := .bool ((decide (r31[(Int.toNat v1910)]! > r42[(Int.toNat v1910)]!)) || (decide (r31[(Int.toNat v1910)]! > r60[(Int.toNat v1910)]!)))) rfl)), ?_⟩
              refine ⟨if ((decide (r31[(Int.toNat v1910)]! > r42[(Int.toNat v1910)]!)) || (decide (r31[(Int.toNat v1910)]! > r60[(Int.toNat v1910)]!))) = false then .slice a32 n33 c34 else undef, fun w2034 hX2035 => od_guard (c := ((decide (r31[(Int.toNat v1910)]! > r42[(Int.toNat v1910)]!)) || (decide (r31[(Int.toNat v1910)]! > r60[(Int.toNat v1910)]!))) = false) (val := .slice a32 n33 c34) (b := (((decide (r31[(Int.toNat v1910)]! > r42[(Int.toNat v1910)]!)) || (decide (r31[(Int.toNat v1910)]! > r60[(Int.toNat v1910)]!))) == false)) (gv_some rfl rfl rfl) beq_iff_eq (fun hc2038 => ?_), ?_⟩
              · have hS2036 := hS1936.ext hX2035
                have hB2037 := hB1935.trans (Ext.stp hX2035 hS1936.base)
                have hcq14 : ¬ (((r31[(Int.toNat v1910)]! > r42[(Int.toNat v1910)]!) ∨ (r31[(Int.toNat v1910)]! > r60[(Int.toNat v1910)]!))) := (i_neg (i_or decide_eq_true_iff decide_eq_true_iff) hc2038)
                exact is_ext (g_move (v := .slice a32 n33 c34) rfl)
              refine ⟨if ((decide (r31[(Int.toNat v1910)]! > r42[(Int.toNat v1910)]!)) || (decide (r31[(Int.toNat v1910)]! > r60[(Int.toNat v1910)]!))) = false then .int .i64 v1910 else undef, fun w2039 hX2040 => od_guard (c := ((decide (r31[(Int.toNat v1910)]! > r42[(Int.toNat v1910)]!)) || (decide (r31[(Int.toNat v1910)]! > r60[(Int.toNat v1910)]!))) = false) (val := .int .i64 v1910) (b := (((decide (r31[(Int.toNat v1910)]! > r42[(Int.toNat v1910)]!)) || (decide (r31[(Int.toNat v1910)]! > r60[(Int.toNat v1910)]!))) == false)) (gv_some rfl rfl rfl) beq_iff_eq (fun hc2043 => ?_), ?_⟩
              · have hS2041 := hS1936.ext hX2040
                have hB2042 := hB1935.trans (Ext.stp hX2040 hS1936.base)
                have hcq14 : ¬ (((r31[(Int.toNat v1910)]! > r42[(Int.toNat v1910)]!) ∨ (r31[(Int.toNat v1910)]! > r60[(Int.toNat v1910)]!))) := (i_neg (i_or decide_eq_true_iff decide_eq_true_iff) hc2043)
                exact is_ext (g_move (v := .int .i64 v1910) rfl)
              obtain ⟨hg2049, hm⟩ := hm
              refine ⟨if ((decide (r31[(Int.toNat v1910)]! > r42[(Int.toNat v1910)]!)) || (decide (r31[(Int.toNat v1910)]! > r60[(Int.toNat v1910)]!))) = false then .pointer (some ((adr a32).add ((Int.toNat v1910) * El.m Int))) else undef, fun w2044 hX2045 => od_guard (c := ((decide (r31[(Int.toNat v1910)]! > r42[(Int.toNat v1910)]!)) || (decide (r31[(Int.toNat v1910)]! > r60[(Int.toNat v1910)]!))) = false) (val := .pointer (some ((adr a32).add ((Int.toNat v1910) * El.m Int)))) (b := (((decide (r31[(Int.toNat v1910)]! > r42[(Int.toNat v1910)]!)) || (decide (r31[(Int.toNat v1910)]! > r60[(Int.toNat v1910)]!))) == false)) (gv_some rfl rfl rfl) beq_iff_eq (fun hc2048 => ?_), ?_⟩
              · have hS2046 := hS1936.ext hX2045
                have hB2047 := hB1935.trans (Ext.stp hX2045 hS1936.base)
                have hcq14 : ¬ (((r31[(Int.toNat v1910)]! > r42[(Int.toNat v1910)]!) ∨ (r31[(Int.toNat v1910)]! > r60[(Int.toNat v1910)]!))) := (i_neg (i_or decide_eq_true_iff decide_eq_true_iff) hc2048)
                exact is_ext (q_index (i := v1910) SL24 (if_pos hc2048) (if_pos hc2048) (oS.vw hS2046.g2) (hg2049 hcq14))
              refine ⟨if ((decide (r31[(Int.toNat v1910)]! > r42[(Int.toNat v1910)]!)) || (decide (r31[(Int.toNat v1910)]! > r60[(Int.toNat v1910)]!))) = false then .int .i64 (r31[(Int.toNat v1910)]!) else undef, fun w2050 hX2051 => od_guard (c := ((decide (r31[(Int.toNat v1910)]! > r42[(Int.toNat v1910)]!)) || (decide (r31[(Int.toNat v1910)]! > r60[(Int.toNat v1910)]!))) = false) (val := .int .i64 (r31[(Int.toNat v1910)]!)) (b := (((decide (r31[(Int.toNat v1910)]! > r42[(Int.toNat v1910)]!)) || (decide (r31[(Int.toNat v1910)]! > r60[(Int.toNat v1910)]!))) == false)) (gv_some rfl rfl rfl) beq_iff_eq (fun hc2054 => ?_), ?_⟩
              · have hS2052 := hS1936.ext hX2051
                have hB2053 := hB1935.trans (Ext.stp hX2051 hS1936.base)
                have hcq14 : ¬ (((r31[(Int.toNat v1910)]! > r42[(Int.toNat v1910)]!) ∨ (r31[(Int.toNat v1910)]! > r60[(Int.toNat v1910)]!))) := (i_neg (i_or decide_eq_true_iff decide_eq_true_iff) hc2054)
                exact is_ext (q_load (i := v1910) (v := .int .i64 (r31[(Int.toNat v1910)]!)) ON3 (oS.vw hS2052.g2) (hg2049 hcq14) rfl (if_pos hc2054))
              refine ⟨if ((decide (r31[(Int.toNat v1910)]! > r42[(Int.toNat v1910)]!)) || (decide (r31[(Int.toNat v1910)]! > r60[(Int.toNat v1910)]!))) = false then .bool (decide (r31[(Int.toNat v1910)]! < 0)) else undef, fun w2055 hX2056 => od_guard (c := ((decide (r31[(Int.toNat v1910)]! > r42[(Int.toNat v1910)]!)) || (decide (r31[(Int.toNat v1910)]! > r60[(Int.toNat v1910)]!))) = false) (val := .bool (decide (r31[(Int.toNat v1910)]! < 0))) (b := (((decide (r31[(Int.toNat v1910)]! > r42[(Int.toNat v1910)]!)) || (decide (r31[(Int.toNat v1910)]! > r60[(Int.toNat v1910)]!))) == false)) (gv_some rfl rfl rfl) beq_iff_eq (fun hc2059 => ?_), ?_⟩
              · have hS2057 := hS1936.ext hX2056
                have hB2058 := hB1935.trans (Ext.stp hX2056 hS1936.base)
                have hcq14 : ¬ (((r31[(Int.toNat v1910)]! > r42[(Int.toNat v1910)]!) ∨ (r31[(Int.toNat v1910)]! > r60[(Int.toNat v1910)]!))) := (i_neg (i_or decide_eq_true_iff decide_eq_true_iff) hc2059)
                exact is_ext (g_lss (a := r31[(Int.toNat v1910)]!) (b := 0) (if_pos hc2059) rfl)
              refine ⟨.bool (((decide (r31[(Int.toNat v1910)]! > r42[(Int.toNat v1910)]!)) || (decide (r31[(Int.toNat v1910)]! > r60[(Int.toNat v1910)]!))) || (decide (r31[(Int.toNat v1910)]! < 0))), fun w2060 hX2061 => od_plain rfl (by have hS2062 := hS1936.ext hX2061; have hB2063 := hB1935.trans (Ext.stp hX2061 hS1936.base); exact is_ext (g_pick_or (b := ((decide (r31[(Int.toNat v1910)]! > r42[(Int.toNat v1910)]!)) || (decide (r31[(Int.toNat v1910)]! > r60[(Int.toNat v1910)]!)))) (q := (decide (r31[(Int.toNat v1910)]! < 0))) rfl rfl)), ?_⟩
              refine ⟨.bool (((decide (r31[(Int.toNat v1910)]! > r42[(Int.toNat v1910)]!)) || (decide (r31[(Int.toNat v1910)]! > r60[(Int.toNat v1910)]!))) || (decide (r31[(Int.toNat v1910)]! < 0))), fun w2064 hX2065 => od_plain rfl (by have hS2066 := hS1936.ext hX2065; have hB2067 := hB1935.trans (Ext.stp hX2065 hS1936.base); exact is_ext (g_move (v := .bool (((decide (r31[(Int.toNat v1910)]! > r42[(Int.toNat v1910)]!)) || (decide (r31[(Int.toNat v1910)]! > r60[(Int.toNat v1910)]!))) || (decide (r31[(Int.toNat v1910)]! < 0)))) rfl)), ?_⟩
              refine ⟨if (((decide (r31[(Int.toNat v1910)]! > r42[(Int.toNat v1910)]!)) || (decide (r31[(Int.toNat v1910)]! > r60[(Int.toNat v1910)]!))) || (decide (r31[(Int.toNat v1910)]! < 0))) = false then .slice a43 n44 c45 else undef, fun w2068 hX2069 => od_guard (c := (((decide (r31[(Int.toNat v1910)]! > r42[(Int.toNat v1910)]!)) || (decide (r31[(Int.toNat v1910)]! > r60[(Int.toNat v1910)]!))) || (decide (r31[(Int.toNat v1910)]! < 0))) = false) (val := .slice a43 n44 c45) (b := ((((decide (r31[(Int.toNat v1910)]! > r42[(Int.toNat v1910)]!)) || (decide (r31[(Int.toNat v1910)]! > r60[(Int.toNat v1910)]!))) || (decide (r31[(Int.toNat v1910)]! < 0))) == false)) (gv_some rfl rfl rfl) beq_iff_eq (fun hc2072 => ?_), ?_⟩
              · have hS2070 := hS1936.ext hX2069
                have hB2071 := hB1935.trans (Ext.stp hX2069 hS1936.base)
                have hcq15 : ¬ (((((r31[(Int.toNat v1910)]! > r42[(Int.toNat v1910)]!) ∨ (r31[(Int.toNat v1910)]! > r60[(Int.toNat v1910)]!))) ∨ (r31[(Int.toNat v1910)]! < 0))) := (i_neg (i_or (i_or decide_eq_true_iff decide_eq_true_iff) decide_eq_true_iff) hc2072)
                exact is_ext (g_move (v := .slice a43 n44 c45) rfl)
              refine ⟨if (((decide (r31[(Int.toNat v1910)]! > r42[(Int.toNat v1910)]!)) || (decide (r31[(Int.toNat v1910)]! > r60[(Int.toNat v1910)]!))) || (decide (r31[(Int.toNat v1910)]! < 0))) = false then .int .i64 v1910 else undef, fun w2073 hX2074 => od_guard (c := (((decide (r31[(Int.toNat v1910)]! > r42[(Int.toNat v1910)]!)) || (decide (r31[(Int.toNat v1910)]! > r60[(Int.toNat v1910)]!))) || (decide (r31[(Int.toNat v1910)]! < 0))) = false) (val := .int .i64 v1910) (b := ((((decide (r31[(Int.toNat v1910)]! > r42[(Int.toNat v1910)]!)) || (decide (r31[(Int.toNat v1910)]! > r60[(Int.toNat v1910)]!))) || (decide (r31[(Int.toNat v1910)]! < 0))) == false)) (gv_some rfl rfl rfl) beq_iff_eq (fun hc2077 => ?_), ?_⟩
              · have hS2075 := hS1936.ext hX2074
                have hB2076 := hB1935.trans (Ext.stp hX2074 hS1936.base)
                have hcq15 : ¬ (((((r31[(Int.toNat v1910)]! > r42[(Int.toNat v1910)]!) ∨ (r31[(Int.toNat v1910)]! > r60[(Int.toNat v1910)]!))) ∨ (r31[(Int.toNat v1910)]! < 0))) := (i_neg (i_or (i_or decide_eq_true_iff decide_eq_true_iff) decide_eq_true_iff) hc2077)
                exact is_ext (g_move (v := .int .i64 v1910) rfl)
              obtain ⟨hg2083, hm⟩ := hm
              refine ⟨if (((decide (r31[(Int.toNat v1910)]! > r42[(Int.toNat v1910)]!)) || (decide (r31[(Int.toNat v1910)]! > r60[(Int.toNat v1910)]!))) || (decide (r31[(Int.toNat v1910)]! < 0))) = false then .pointer (some ((adr a43).add ((Int.toNat v1910) * El.m Int))) else undef, fun w2078 hX2079 => od_guard (c := (((decide (r31[(Int.toNat v1910)]! > r42[(Int.toNat v1910)]!)) || (decide (r31[(Int.toNat v1910)]! > r60[(Int.toNat v1910)]!))) || (decide (r31[(Int.toNat v1910)]! < 0))) = false) (val := .pointer (some ((adr a43).add ((Int.toNat v1910) * El.m Int)))) (b := ((((decide (r31[(Int.toNat v1910)]! > r42[(Int.toNat v1910)]!)) || (decide (r31[(Int.toNat v1910)]! > r60[(Int.toNat v1910)]!))) || (decide (r31[(Int.toNat v1910)]! < 0))) == false)) (gv_some rfl rfl rfl) beq_iff_eq (fun hc2082 => ?_), ?_⟩
              · have hS2080 := hS1936.ext hX2079
                have hB2081 := hB1935.trans (Ext.stp hX2079 hS1936.base)
                have hcq15 : ¬ (((((r31[(Int.toNat v1910)]! > r42[(Int.toNat v1910)]!) ∨ (r31[(Int.toNat v1910)]! > r60[(Int.toNat v1910)]!))) ∨ (r31[(Int.toNat v1910)]! < 0))) := (i_neg (i_or (i_or decide_eq_true_iff decide_eq_true_iff) decide_eq_true_iff) hc2082)
                exact is_ext (q_index (i := v1910) SL24 (if_pos hc2082) (if_pos hc2082) (oS.vw hS2080.g3) (hg2083 hcq15))
              refine ⟨if (((decide (r31[(Int.toNat v1910)]! > r42[(Int.toNat v1910)]!)) || (decide (r31[(Int.toNat v1910)]! > r60[(Int.toNat v1910)]!))) || (decide (r31[(Int.toNat v1910)]! < 0))) = false then .int .i64 (r42[(Int.toNat v1910)]!) else undef, fun w2084 hX2085 => od_guard (c := (((decide (r31[(Int.toNat v1910)]! > r42[(Int.toNat v1910)]!)) || (decide (r31[(Int.toNat v1910)]! > r60[(Int.toNat v1910)]!))) || (decide (r31[(Int.toNat v1910)]! < 0))) = false) (val := .int .i64 (r42[(Int.toNat v1910)]!)) (b := ((((decide (r31[(Int.toNat v1910)]! > r42[(Int.toNat v1910)]!)) || (decide (r31[(Int.toNat v1910)]! > r60[(Int.toNat v1910)]!))) || (decide (r31[(Int.toNat v1910)]! < 0))) == false)) (gv_some rfl rfl rfl) beq_iff_eq (fun hc2088 => ?_), ?_⟩
              · have hS2086 := hS1936.ext hX2085
                have hB2087 := hB1935.trans (Ext.stp hX2085 hS1936.base)
                have hcq15 : ¬ (((((r31[(Int.toNat v1910)]! > r42[(Int.toNat v1910)]!) ∨ (r31[(Int.toNat v1910)]! > r60[(Int.toNat v1910)]!))) ∨ (r31[(Int.toNat v1910)]! < 0))) := (i_neg (i_or (i_or decide_eq_true_iff decide_eq_true_iff) decide_eq_true_iff) hc2088)
                exact is_ext (q_load (i := v1910) (v := .int .i64 (r42[(Int.toNat v1910)]!)) ON3 (oS.vw hS2086.g3) (hg2083 hcq15) rfl (if_pos hc2088))
              refine ⟨if (((decide (r31[(Int.toNat v1910)]! > r42[(Int.toNat v1910)]!)) || (decide (r31[(Int.toNat v1910)]! > r60[(Int.toNat v1910)]!))) || (decide (r31[(Int.toNat v1910)]! < 0))) = false then .slice a17 n18 c19 else undef, fun w2089 hX2090 => od_guard (c := (((decide (r31[(Int.toNat v1910)]! > r42[(Int.toNat v1910)]!)) || (decide (r31[(Int.toNat v1910)]! > r60[(Int.toNat v1910)]!))) || (decide (r31[(Int.toNat v1910)]! < 0))) = false) (val := .slice a17 n18 c19) (b := ((((decide (r31[(Int.toNat v1910)]! > r42[(Int.toNat v1910)]!)) || (decide (r31[(Int.toNat v1910)]! > r60[(Int.toNat v1910)]!))) || (decide (r31[(Int.toNat v1910)]! < 0))) == false)) (gv_some rfl rfl rfl) beq_iff_eq (fun hc2093 => ?_), ?_⟩
              · have hS2091 := hS1936.ext hX2090
                have hB2092 := hB1935.trans (Ext.stp hX2090 hS1936.base)
                have hcq15 : ¬ (((((r31[(Int.toNat v1910)]! > r42[(Int.toNat v1910)]!) ∨ (r31[(Int.toNat v1910)]! > r60[(Int.toNat v1910)]!))) ∨ (r31[(Int.toNat v1910)]! < 0))) := (i_neg (i_or (i_or decide_eq_true_iff decide_eq_true_iff) decide_eq_true_iff) hc2093)
                exact is_ext (g_move (v := .slice a17 n18 c19) rfl)
              refine ⟨if (((decide (r31[(Int.toNat v1910)]! > r42[(Int.toNat v1910)]!)) || (decide (r31[(Int.toNat v1910)]! > r60[(Int.toNat v1910)]!))) || (decide (r31[(Int.toNat v1910)]! < 0))) = false then .int .i64 v1910 else undef, fun w2094 hX2095 => od_guard (c := (((decide (r31[(Int.toNat v1910)]! > r42[(Int.toNat v1910)]!)) || (decide (r31[(Int.toNat v1910)]! > r60[(Int.toNat v1910)]!))) || (decide (r31[(Int.toNat v1910)]! < 0))) = false) (val := .int .i64 v1910) (b := ((((decide (r31[(Int.toNat v1910)]! > r42[(Int.toNat v1910)]!)) || (decide (r31[(Int.toNat v1910)]! > r60[(Int.toNat v1910)]!))) || (decide (r31[(Int.toNat v1910)]! < 0))) == false)) (gv_some rfl rfl rfl) beq_iff_eq (fun hc2098 => ?_), ?_⟩
              · have hS2096 := hS1936.ext hX2095
                have hB2097 := hB1935.trans (Ext.stp hX2095 hS1936.base)
                have hcq15 : ¬ (((((r31[(Int.toNat v1910)]! > r42[(Int.toNat v1910)]!) ∨ (r31[(Int.toNat v1910)]! > r60[(Int.toNat v1910)]!))) ∨ (r31[(Int.toNat v1910)]! < 0))) := (i_neg (i_or (i_or decide_eq_true_iff decide_eq_true_iff) decide_eq_true_iff) hc2098)
                exact is_ext (g_move (v := .int .i64 v1910) rfl)
              obtain ⟨hg2104, hm⟩ := hm
              refine ⟨if (((decide (r31[(Int.toNat v1910)]! > r42[(Int.toNat v1910)]!)) || (decide (r31[(Int.toNat v1910)]! > r60[(Int.toNat v1910)]!))) || (decide (r31[(Int.toNat v1910)]! < 0))) = false then .pointer (some ((adr a17).add ((Int.toNat v1910) * El.m CueD))) else undef, fun w2099 hX2100 => od_guard (c := (((decide (r31[(Int.toNat v1910)]! > r42[(Int.toNat v1910)]!)) || (decide (r31[(Int.toNat v1910)]! > r60[(Int.toNat v1910)]!))) || (decide (r31[(Int.toNat v1910)]! < 0))) = false) (val := .pointer (some ((adr a17).add ((Int.toNat v1910) * El.m CueD)))) (b := ((((decide (r31[(Int.toNat v1910)]! > r42[(Int.toNat v1910)]!)) || (decide (r31[(Int.toNat v1910)]! > r60[(Int.toNat v1910)]!))) || (decide (r31[(Int.toNat v1910)]! < 0))) == false)) (gv_some rfl rfl rfl) beq_iff_eq (fun hc2103 => ?_), ?_⟩
              · have hS2101 := hS1936.ext hX2100
                have hB2102 := hB1935.trans (Ext.stp hX2100 hS1936.base)
                have hcq15 : ¬ (((((r31[(Int.toNat v1910)]! > r42[(Int.toNat v1910)]!) ∨ (r31[(Int.toNat v1910)]! > r60[(Int.toNat v1910)]!))) ∨ (r31[(Int.toNat v1910)]! < 0))) := (i_neg (i_or (i_or decide_eq_true_iff decide_eq_true_iff) decide_eq_true_iff) hc2103)
                exact is_ext (q_index (i := v1910) SL26 (if_pos hc2103) (if_pos hc2103) (Tv.o (oT.vw hS2101.g0 hS2101.g1 he21)) (Tv.g (oT.vw hS2101.g0 hS2101.g1 he21) (hg2104 hcq15)))
              refine ⟨if (((decide (r31[(Int.toNat v1910)]! > r42[(Int.toNat v1910)]!)) || (decide (r31[(Int.toNat v1910)]! > r60[(Int.toNat v1910)]!))) || (decide (r31[(Int.toNat v1910)]! < 0))) = false then .pointer (some (((adr a17).add ((Int.toNat v1910) * El.m CueD)).add 0)) else undef, fun w2105 hX2106 => od_guard (c := (((decide (r31[(Int.toNat v1910)]! > r42[(Int.toNat v1910)]!)) || (decide (r31[(Int.toNat v1910)]! > r60[(Int.toNat v1910)]!))) || (decide (r31[(Int.toNat v1910)]! < 0))) = false) (val := .pointer (some (((adr a17).add ((Int.toNat v1910) * El.m CueD)).add 0))) (b := ((((decide (r31[(Int.toNat v1910)]! > r42[(Int.toNat v1910)]!)) || (decide (r31[(Int.toNat v1910)]! > r60[(Int.toNat v1910)]!))) || (decide (r31[(Int.toNat v1910)]! < 0))) == false)) (gv_some rfl rfl rfl) beq_iff_eq (fun hc2109 => ?_), ?_⟩
              · have hS2107 := hS1936.ext hX2106
                have hB2108 := hB1935.trans (Ext.stp hX2106 hS1936.base)
                have hcq15 : ¬ (((((r31[(Int.toNat v1910)]! > r42[(Int.toNat v1910)]!) ∨ (r31[(Int.toNat v1910)]! > r60[(Int.toNat v1910)]!))) ∨ (r31[(Int.toNat v1910)]! < 0))) := (i_neg (i_or (i_or decide_eq_true_iff decide_eq_true_iff) decide_eq_true_iff) hc2109)
                exact is_ext (g_fieldAddr (q := (adr a17).add ((Int.toNat v1910) * El.m CueD)) FL39_0 ON3 (if_pos hc2109))
              refine ⟨if (((decide (r31[(Int.toNat v1910)]! > r42[(Int.toNat v1910)]!)) || (decide (r31[(Int.toNat v1910)]! > r60[(Int.toNat v1910)]!))) || (decide (r31[(Int.toNat v1910)]! < 0))) = false then .int .i64 (r16[(Int.toNat v1910)]!.1) else undef, fun w2110 hX2111 => od_guard (c := (((decide (r31[(Int.toNat v1910)]! > r42[(Int.toNat v1910)]!)) || (decide (r31[(Int.toNat v1910)]! > r60[(Int.toNat v1910)]!))) || (decide (r31[(Int.toNat v1910)]! < 0))) = false) (val := .int .i64 (r16[(Int.toNat v1910)]!.1)) (b := ((((decide (r31[(Int.toNat v1910)]! > r42[(Int.toNat v1910)]!)) || (decide (r31[(Int.toNat v1910)]! > r60[(Int.toNat v1910)]!))) || (decide (r31[(Int.toNat v1910)]! < 0))) == false)) (gv_some rfl rfl rfl) beq_iff_eq (fun hc2114 => ?_), ?_⟩
              · have hS2112 := hS1936.ext hX2111
                have hB2113 := hB1935.trans (Ext.stp hX2111 hS1936.base)
                have hcq15 : ¬ (((((r31[(Int.toNat v1910)]! > r42[(Int.toNat v1910)]!) ∨ (r31[(Int.toNat v1910)]! > r60[(Int.toNat v1910)]!))) ∨ (r31[(Int.toNat v1910)]! < 0))) := (i_neg (i_or (i_or decide_eq_true_iff decide_eq_true_iff) decide_eq_true_iff) hc2114)
                exact is_ext (q_loadF (i := v1910) (j := 0) (v := .int .i64 (r16[(Int.toNat v1910)]!.1)) ON3 (Tv.o (oT.vw hS2112.g0 hS2112.g1 he21)) (Tv.g (oT.vw hS2112.g0 hS2112.g1 he21) (hg2104 hcq15)) (by rw [← Tv.ticks (oT.vw hS2112.g0 hS2112.g1 he21) (hg2104 hcq15)]; rfl) (if_pos hc2114))
              obtain ⟨hg2120, hm⟩ := hm
              refine ⟨if (((decide (r31[(Int.toNat v1910)]! > r42[(Int.toNat v1910)]!)) || (decide (r31[(Int.toNat v1910)]! > r60[(Int.toNat v1910)]!))) || (decide (r31[(Int.toNat v1910)]! < 0))) = false then .int .i64 (r42[(Int.toNat v1910)]! + r16[(Int.toNat v1910)]!.1) else undef, fun w2115 hX2116 => od_guard (c := (((decide (r31[(Int.toNat v1910)]! > r42[(Int.toNat v1910)]!)) || (decide (r31[(Int.toNat v1910)]! > r60[(Int.toNat v1910)]!))) || (decide (r31[(Int.toNat v1910)]! < 0))) = false) (val := .int .i64 (r42[(Int.toNat v1910)]! + r16[(Int.toNat v1910)]!.1)) (b := ((((decide (r31[(Int.toNat v1910)]! > r42[(Int.toNat v1910)]!)) || (decide (r31[(Int.toNat v1910)]! > r60[(Int.toNat v1910)]!))) || (decide (r31[(Int.toNat v1910)]! < 0))) == false)) (gv_some rfl rfl rfl) beq_iff_eq (fun hc2119 => ?_), ?_⟩
              · have hS2117 := hS1936.ext hX2116
                have hB2118 := hB1935.trans (Ext.stp hX2116 hS1936.base)
                have hcq15 : ¬ (((((r31[(Int.toNat v1910)]! > r42[(Int.toNat v1910)]!) ∨ (r31[(Int.toNat v1910)]! > r60[(Int.toNat v1910)]!))) ∨ (r31[(Int.toNat v1910)]! < 0))) := (i_neg (i_or (i_or decide_eq_true_iff decide_eq_true_iff) decide_eq_true_iff) hc2119)
                exact is_ext (g_add (a := r42[(Int.toNat v1910)]!) (b := r16[(Int.toNat v1910)]!.1) (if_pos hc2119) (if_pos hc2119) (hg2120 hcq15))
              refine ⟨if (((decide (r31[(Int.toNat v1910)]! > r42[(Int.toNat v1910)]!)) || (decide (r31[(Int.toNat v1910)]! > r60[(Int.toNat v1910)]!))) || (decide (r31[(Int.toNat v1910)]! < 0))) = false then .int .i64 r53 else undef, fun w2121 hX2122 => od_guard (c := (((decide (r31[(Int.toNat v1910)]! > r42[(Int.toNat v1910)]!)) || (decide (r31[(Int.toNat v1910)]! > r60[(Int.toNat v1910)]!))) || (decide (r31[(Int.toNat v1910)]! < 0))) = false) (val := .int .i64 r53) (b := ((((decide (r31[(Int.toNat v1910)]! > r42[(Int.toNat v1910)]!)) || (decide (r31[(Int.toNat v1910)]! > r60[(Int.toNat v1910)]!))) || (decide (r31[(Int.toNat v1910)]! < 0))) == false)) (gv_some rfl rfl rfl) beq_iff_eq (fun hc2125 => ?_), ?_⟩
              · have hS2123 := hS1936.ext hX2122
                have hB2124 := hB1935.trans (Ext.stp hX2122 hS1936.base)
                have hcq15 : ¬ (((((r31[(Int.toNat v1910)]! > r42[(Int.toNat v1910)]!) ∨ (r31[(Int.toNat v1910)]! > r60[(Int.toNat v1910)]!))) ∨ (r31[(Int.toNat v1910)]! < 0))) := (i_neg (i_or (i_or decide_eq_true_iff decide_eq_true_iff) decide_eq_true_iff) hc2125)
                exact is_ext (g_move (v := .int .i64 r53) rfl)
              refine ⟨if (((decide (r31[(Int.toNat v1910)]! > r42[(Int.toNat v1910)]!)) || (decide (r31[(Int.toNat v1910)]! > r60[(Int.toNat v1910)]!))) || (decide (r31[(Int.toNat v1910)]! < 0))) = false then .bool (decide ((r42[(Int.toNat v1910)]! + r16[(Int.toNat v1910)]!.1) > r53)) else undef, fun w2126 hX2127 => od_guard (c := (((decide (r31[(Int.toNat v1910)]! > r42[(Int.toNat v1910)]!)) || (decide (r31[(Int.toNat v1910)]! > r60[(Int.toNat v1910)]!))) || (decide (r31[(Int.toNat v1910)]! < 0))) = false) (val := .bool (decide ((r42[(Int.toNat v1910)]! + r16[(Int.toNat v1910)]!.1) > r53))) (b := ((((decide (r31[(Int.toNat v1910)]! > r42[(Int.toNat v1910)]!)) || (decide (r31[(Int.toNat v1910)]! > r60[(Int.toNat v1910)]!))) || (decide (r31[(Int.toNat v1910)]! < 0))) == false)) (gv_some rfl rfl rfl) beq_iff_eq (fun hc2130 => ?_), ?_⟩
              · have hS2128 := hS1936.ext hX2127
                have hB2129 := hB1935.trans (Ext.stp hX2127 hS1936.base)
                have hcq15 : ¬ (((((r31[(Int.toNat v1910)]! > r42[(Int.toNat v1910)]!) ∨ (r31[(Int.toNat v1910)]! > r60[(Int.toNat v1910)]!))) ∨ (r31[(Int.toNat v1910)]! < 0))) := (i_neg (i_or (i_or decide_eq_true_iff decide_eq_true_iff) decide_eq_true_iff) hc2130)
                exact is_ext (g_gtr (a := (r42[(Int.toNat v1910)]! + r16[(Int.toNat v1910)]!.1)) (b := r53) (if_pos hc2130) (if_pos hc2130))
              refine ⟨.bool ((((decide (r31[(Int.toNat v1910)]! > r42[(Int.toNat v1910)]!)) || (decide (r31[(Int.toNat v1910)]! > r60[(Int.toNat v1910)]!))) || (decide (r31[(Int.toNat v1910)]! < 0))) || (decide ((r42[(Int.toNat v1910)]! + r16[(Int.toNat v1910)]!.1) > r53))), fun w2131 hX2132 => od_plain rfl (by have hS2133 := hS1936.ext hX2132; have hB2134 := hB1935.trans (Ext.stp hX2132 hS1936.base); exact is_ext (g_pick_or (b := (((decide (r31[(Int.toNat v1910)]! > r42[(Int.toNat v1910)]!)) || (decide (r31[(Int.toNat v1910)]! > r60[(Int.toNat v1910)]!))) || (decide (r31[(Int.toNat v1910)]! < 0)))) (q := (decide ((r42[(Int.toNat v1910)]! + r16[(Int.toNat v1910)]!.1) > r53))) rfl rfl)), ?_⟩
              intro w2135 hX2136
              have hB2137 := hB1935.trans (Ext.stp hX2136 hS1936.base)
              have hS2138 := hS1936.ext hX2136
              refine hK1932 _ _ ?_
              refine w_condI (p := ((((((r31[(Int.toNat v1910)]! > r42[(Int.toNat v1910)]!) ∨ (r31[(Int.toNat v1910)]! > r60[(Int.toNat v1910)]!))) ∨ (r31[(Int.toNat v1910)]! < 0))) ∨ ((r42[(Int.toNat v1910)]! + r16[(Int.toNat v1910)]!.1) > r53))) (b := ((((decide (r31[(Int.toNat v1910)]! > r42[(Int.toNat v1910)]!)) || (decide (r31[(Int.toNat v1910)]! > r60[(Int.toNat v1910)]!))) || (decide (r31[(Int.toNat v1910)]! < 0))) || (decide ((r42[(Int.toNat v1910)]! + r16[(Int.toNat v1910)]!.1) > r53)))) rfl (i_or (i_or (i_or decide_eq_true_iff decide_eq_true_iff) decide_eq_true_iff) decide_eq_true_iff) (fun h2139 => ?_) (fun h2139 => ?_)
              · replace hm := hm.1 h2139
                refine w_seq fun K2140 hK2140 => ?_
                refine w_region ?_
                refine wl_val (g_assign (v := .bool false) rfl) rfl ?_
                refine wl_nil ?_
                refine hK2140 _ _ ?_
                refine w_ret ?_
                repeat first | with_reducible refine q_then ?_ | with_reducible refine q_block ?_
                exact ret1 rfl (by decide) ⟨_, hm, rfl, toExt hB2137⟩
              · replace hm := hm.2 h2139
                refine w_skip ?_
                refine hK1931 _ _ ?_
                refine w_seq fun K2141 hK2141 => ?_
                refine w_draw (X := Ext) (Y := Ext) [] MIX (by decide +kernel) rfl Ext.refl (fun _ _ _ => Ext.trans) (fun _ _ _ => Chg.trans) (fun _ _ h => Ext.chg h _) (fun w2142 hE2143 => ?_)
                have hB2144 := hB2137.trans (Ext.stp hE2143 hS2138.base)
                have hS2145 := hS2138.ext hE2143
                refine ⟨.int .i64 v1908, fun w2146 hX2147 => od_plain rfl (by have hS2148 := hS2145.ext hX2147; have hB2149 := hB2144.trans (Ext.stp hX2147 hS2145.base); exact is_ext (g_move (v := .int .i64 v1908) rfl)), ?_⟩
                refine ⟨.slice a32 n33 c34, fun w2150 hX2151 => od_plain rfl (by have hS2152 := hS2145.ext hX2151; have hB2153 := hB2144.trans (Ext.stp hX2151 hS2145.base); exact is_ext (g_move (v := .slice a32 n33 c34) rfl)), ?_⟩
                refine ⟨.int .i64 v1910, fun w2154 hX2155 => od_plain rfl (by have hS2156 := hS2145.ext hX2155; have hB2157 := hB2144.trans (Ext.stp hX2155 hS2145.base); exact is_ext (g_move (v := .int .i64 v1910) rfl)), ?_⟩
                obtain ⟨hg2162, hm⟩ := hm
                refine ⟨.pointer (some ((adr a32).add ((Int.toNat v1910) * El.m Int))), fun w2158 hX2159 => od_plain rfl (by have hS2160 := hS2145.ext hX2159; have hB2161 := hB2144.trans (Ext.stp hX2159 hS2145.base); exact is_ext (q_index (i := v1910) SL24 rfl rfl (oS.vw hS2160.g2) hg2162)), ?_⟩
                refine ⟨.int .i64 (r31[(Int.toNat v1910)]!), fun w2163 hX2164 => od_plain rfl (by have hS2165 := hS2145.ext hX2164; have hB2166 := hB2144.trans (Ext.stp hX2164 hS2145.base); exact is_ext (q_load (i := v1910) (v := .int .i64 (r31[(Int.toNat v1910)]!)) ON3 (oS.vw hS2165.g2) hg2162 rfl rfl)), ?_⟩
                refine ⟨.slice a43 n44 c45, fun w2167 hX2168 => od_plain rfl (by have hS2169 := hS2145.ext hX2168; have hB2170 := hB2144.trans (Ext.stp hX2168 hS2145.base); exact is_ext (g_move (v := .slice a43 n44 c45) rfl)), ?_⟩
                refine ⟨.int .i64 v1910, fun w2171 hX2172 => od_plain rfl (by have hS2173 := hS2145.ext hX2172; have hB2174 := hB2144.trans (Ext.stp hX2172 hS2145.base); exact is_ext (g_move (v := .int .i64 v1910) rfl)), ?_⟩
                obtain ⟨hg2179, hm⟩ := hm
                refine ⟨.pointer (some ((adr a43).add ((Int.toNat v1910) * El.m Int))), fun w2175 hX2176 => od_plain rfl (by have hS2177 := hS2145.ext hX2176; have hB2178 := hB2144.trans (Ext.stp hX2176 hS2145.base); exact is_ext (q_index (i := v1910) SL24 rfl rfl (oS.vw hS2177.g3) hg2179)), ?_⟩
                refine ⟨.int .i64 (r42[(Int.toNat v1910)]!), fun w2180 hX2181 => od_plain rfl (by have hS2182 := hS2145.ext hX2181; have hB2183 := hB2144.trans (Ext.stp hX2181 hS2145.base); exact is_ext (q_load (i := v1910) (v := .int .i64 (r42[(Int.toNat v1910)]!)) ON3 (oS.vw hS2182.g3) hg2179 rfl rfl)), ?_⟩
                refine ⟨.bool (decide (r31[(Int.toNat v1910)]! = r42[(Int.toNat v1910)]!)), fun w2184 hX2185 => od_plain rfl (by have hS2186 := hS2145.ext hX2185; have hB2187 := hB2144.trans (Ext.stp hX2185 hS2145.base); exact is_ext (g_eql (a := r31[(Int.toNat v1910)]!) (b := r42[(Int.toNat v1910)]!) rfl rfl)), ?_⟩
                obtain ⟨r2192, hk2193, hm⟩ := hm
                refine ⟨.int .i64 r2192, fun w2188 hX2189 => od_plain rfl (by have hS2190 := hS2145.ext hX2189; have hB2191 := hB2144.trans (Ext.stp hX2189 hS2145.base); exact (g_call (vs := #[.bool (decide (r31[(Int.toNat v1910)]! = r42[(Int.toNat v1910)]!))]) CF44 (args1 rfl) ((m_laws_btoi_fn (decide (r31[(Int.toNat v1910)]! = r42[(Int.toNat v1910)]!)) hk2193).mono fun _ _ ⟨_, h1, h2, h3⟩ => ⟨by rw [h2, h1], h3⟩))), ?_⟩
                obtain ⟨hg2198, hm⟩ := hm
                refine ⟨.int .i64 (v1908 + r2192), fun w2194 hX2195 => od_plain rfl (by have hS2196 := hS2145.ext hX2195; have hB2197 := hB2144.trans (Ext.stp hX2195 hS2145.base); exact is_ext (g_add (a := v1908) (b := r2192) rfl rfl hg2198)), ?_⟩
                refine ⟨.int .i64 (v1908 + r2192), fun w2199 hX2200 => od_plain rfl (by have hS2201 := hS2145.ext hX2200; have hB2202 := hB2144.trans (Ext.stp hX2200 hS2145.base); exact is_ext (g_assign (v := .int .i64 (v1908 + r2192)) rfl)), ?_⟩
                intro w2203 hX2204
                have hB2205 := hB2144.trans (Ext.stp hX2204 hS2145.base)
                have hS2206 := hS2145.ext hX2204
                refine hK2141 _ _ ?_
                refine w_seq fun K2207 hK2207 => ?_
                refine w_draw (X := Ext) (Y := Ext) [] MIX (by decide +kernel) rfl Ext.refl (fun _ _ _ => Ext.trans) (fun _ _ _ => Chg.trans) (fun _ _ h => Ext.chg h _) (fun w2208 hE2209 => ?_)
                have hB2210 := hB2205.trans (Ext.stp hE2209 hS2206.base)
                have hS2211 := hS2206.ext hE2209
                refine ⟨.int .i64 v1909, fun w2212 hX2213 => od_plain rfl (by have hS2214 := hS2211.ext hX2213; have hB2215 := hB2210.trans (Ext.stp hX2213 hS2211.base); exact is_ext (g_move (v := .int .i64 v1909) rfl)), ?_⟩
                refine ⟨.slice a61 n62 c63, fun w2216 hX2217 => od_plain rfl (by have hS2218 := hS2211.ext hX2217; have hB2219 := hB2210.trans (Ext.stp hX2217 hS2211.base); exact is_ext (g_move (v := .slice a61 n62 c63) rfl)), ?_⟩
                refine ⟨.int .i64 v1910, fun w2220 hX2221 => od_plain rfl (by have hS2222 := hS2211.ext hX2221; have hB2223 := hB2210.trans (Ext.stp hX2221 hS2211.base); exact is_ext (g_move (v := .int .i64 v1910) rfl)), ?_⟩
                obtain ⟨hg2228, hm⟩ := hm
                refine ⟨.pointer (some ((adr a61).add ((Int.toNat v1910) * El.m Int))), fun w2224 hX2225 => od_plain rfl (by have hS2226 := hS2211.ext hX2225; have hB2227 := hB2210.trans (Ext.stp hX2225 hS2211.base); exact is_ext (q_index (i := v1910) SL24 rfl rfl (oS.vw hS2226.g4) hg2228)), ?_⟩
                refine ⟨.int .i64 (r60[(Int.toNat v1910)]!), fun w2229 hX2230 => od_plain rfl (by have hS2231 := hS2211.ext hX2230; have hB2232 := hB2210.trans (Ext.stp hX2230 hS2211.base); exact is_ext (q_load (i := v1910) (v := .int .i64 (r60[(Int.toNat v1910)]!)) ON3 (oS.vw hS2231.g4) hg2228 rfl rfl)), ?_⟩
                refine ⟨.slice a17 n18 c19, fun w2233 hX2234 => od_plain rfl (by have hS2235 := hS2211.ext hX2234; have hB2236 := hB2210.trans (Ext.stp hX2234 hS2211.base); exact is_ext (g_move (v := .slice a17 n18 c19) rfl)), ?_⟩
                refine ⟨.int .i64 v1910, fun w2237 hX2238 => od_plain rfl (by have hS2239 := hS2211.ext hX2238; have hB2240 := hB2210.trans (Ext.stp hX2238 hS2211.base); exact is_ext (g_move (v := .int .i64 v1910) rfl)), ?_⟩
                obtain ⟨hg2245, hm⟩ := hm
                refine ⟨.pointer (some ((adr a17).add ((Int.toNat v1910) * El.m CueD))), fun w2241 hX2242 => od_plain rfl (by have hS2243 := hS2211.ext hX2242; have hB2244 := hB2210.trans (Ext.stp hX2242 hS2211.base); exact is_ext (q_index (i := v1910) SL26 rfl rfl (Tv.o (oT.vw hS2243.g0 hS2243.g1 he21)) (Tv.g (oT.vw hS2243.g0 hS2243.g1 he21) hg2245))), ?_⟩
                refine ⟨.pointer (some (((adr a17).add ((Int.toNat v1910) * El.m CueD)).add 0)), fun w2246 hX2247 => od_plain rfl (by have hS2248 := hS2211.ext hX2247; have hB2249 := hB2210.trans (Ext.stp hX2247 hS2211.base); exact is_ext (g_fieldAddr (q := (adr a17).add ((Int.toNat v1910) * El.m CueD)) FL39_0 ON3 rfl)), ?_⟩
                refine ⟨.int .i64 (r16[(Int.toNat v1910)]!.1), fun w2250 hX2251 => od_plain rfl (by have hS2252 := hS2211.ext hX2251; have hB2253 := hB2210.trans (Ext.stp hX2251 hS2211.base); exact is_ext (q_loadF (i := v1910) (j := 0) (v := .int .i64 (r16[(Int.toNat v1910)]!.1)) ON3 (Tv.o (oT.vw hS2252.g0 hS2252.g1 he21)) (Tv.g (oT.vw hS2252.g0 hS2252.g1 he21) hg2245) (by rw [← Tv.ticks (oT.vw hS2252.g0 hS2252.g1 he21) hg2245]; rfl) rfl)), ?_⟩
                obtain ⟨hg2258, hm⟩ := hm
                refine ⟨.int .i64 (r60[(Int.toNat v1910)]! + r16[(Int.toNat v1910)]!.1), fun w2254 hX2255 => od_plain rfl (by have hS2256 := hS2211.ext hX2255; have hB2257 := hB2210.trans (Ext.stp hX2255 hS2211.base); exact is_ext (g_add (a := r60[(Int.toNat v1910)]!) (b := r16[(Int.toNat v1910)]!.1) rfl rfl hg2258)), ?_⟩
                refine ⟨.int .i64 (max v1909 (r60[(Int.toNat v1910)]! + r16[(Int.toNat v1910)]!.1)), fun w2259 hX2260 => od_plain rfl (by have hS2261 := hS2211.ext hX2260; have hB2262 := hB2210.trans (Ext.stp hX2260 hS2211.base); exact is_ext (g_max (a := v1909) (b := (r60[(Int.toNat v1910)]! + r16[(Int.toNat v1910)]!.1)) rfl rfl)), ?_⟩
                refine ⟨.int .i64 (max v1909 (r60[(Int.toNat v1910)]! + r16[(Int.toNat v1910)]!.1)), fun w2263 hX2264 => od_plain rfl (by have hS2265 := hS2211.ext hX2264; have hB2266 := hB2210.trans (Ext.stp hX2264 hS2211.base); exact is_ext (g_assign (v := .int .i64 (max v1909 (r60[(Int.toNat v1910)]! + r16[(Int.toNat v1910)]!.1))) rfl)), ?_⟩
                intro w2267 hX2268
                have hB2269 := hB2210.trans (Ext.stp hX2268 hS2211.base)
                have hS2270 := hS2211.ext hX2268
                refine hK2207 _ _ ?_
                refine w_seq fun K2271 hK2271 => ?_
                refine w_region ?_
                refine wl_val (g_assign (v := .int .i64 0) rfl) rfl ?_
                refine wl_nil ?_
                refine hK2271 _ _ ?_
                refine w_block ?_
                obtain ⟨I2273, μ2274, h02275, hr2276⟩ := hm
                refine w_for (σ := Int) (fun v2272 => [(3, .slice a17 n18 c19), (4, .slice a32 n33 c34), (5, .slice a43 n44 c45), (6, .int .i64 r53), (7, .slice a61 n62 c63), (8, .int .i64 (v1908 + r2192)), (9, .int .i64 (max v1909 (r60[(Int.toNat v1910)]! + r16[(Int.toNat v1910)]!.1))), (10, .int .i64 v1910), (11, .int .i64 v2272)]) (fun v2272 w' => I2273 v2272 ∧ Below w.heap.size w w' ∧ Sep w' w.heap.size [oS 39 a17 n18 c19 (y20 : List CueD), oT 3 (y20 : List CueD), oS 3 a32 n33 c34 (r31 : List Int), oS 3 a43 n44 c45 (r42 : List Int), oS 3 a61 n62 c63 (r60 : List Int)]) (fun v2272 => μ2274 v2272) (0) ⟨rfl, rfl, rfl, rfl, rfl, rfl, rfl, rfl, rfl, trivial⟩ ⟨h02275, hB2269, hS2270⟩ ?_
                rintro v2272 b_ w2277 ⟨hi_, hB2278, hS2279⟩
                show Wp _ _ _ _ (upds b_ [(3, .slice a17 n18 c19), (4, .slice a32 n33 c34), (5, .slice a43 n44 c45), (6, .int .i64 r53), (7, .slice a61 n62 c63), (8, .int .i64 (v1908 + r2192)), (9, .int .i64 (max v1909 (r60[(Int.toNat v1910)]! + r16[(Int.toNat v1910)]!.1))), (10, .int .i64 v1910), (11, .int .i64 v2272)]) w2277
                have hm := hr2276 v2272 hi_
                refine w_seq fun K2281 hK2281 => ?_
                refine w_seq fun K2282 hK2282 => ?_
                refine w_region ?_
                refine wl_val (g_move (v := .int .i64 v2272) rfl) rfl ?_
                refine wl_val (g_move (v := .slice a17 n18 c19) rfl) rfl ?_
                refine wl_val (g_move (v := .int .i64 v1910) rfl) rfl ?_
                obtain ⟨hg2283, hm⟩ := hm
                refine wl_val (q_index (i := v1910) SL26 rfl rfl (Tv.o (oT.vw hS2279.g0 hS2279.g1 he21)) (Tv.g (oT.vw hS2279.g0 hS2279.g1 he21) hg2283)) rfl ?_
                refine wl_val (g_fieldAddr (q := (adr a17).add ((Int.toNat v1910) * El.m CueD)) FL39_1 ON24 rfl) rfl ?_
                refine wl_val (q_loadF (i := v1910) (j := 1) (v := .slice ((y20[(Int.toNat v1910)]!).2.1.1) ((y20[(Int.toNat v1910)]!).2.1.2.2.length) ((y20[(Int.toNat v1910)]!).2.1.2.1)) ON24 (Tv.o (oT.vw hS2279.g0 hS2279.g1 he21)) (Tv.g (oT.vw hS2279.g0 hS2279.g1 he21) hg2283) rfl rfl) rfl ?_
                refine wl_val (q_len SL24 rfl (Vw.len (Tv.rowC0 (oT.vw hS2279.g0 hS2279.g1 he21) hg2283))) rfl ?_
                refine wl_val (g_lss (a := v2272) (b := ((r16[(Int.toNat v1910)]!.2.1).length : Int)) rfl rfl) rfl ?_
                refine wl_nil ?_
                refine hK2282 _ _ ?_
                refine w_condI (p := v2272 < ((r16[(Int.toNat v1910)]!.2.1).length : Int)) (b := (decide (v2272 < ((r16[(Int.toNat v1910)]!.2.1).length : Int)))) rfl decide_eq_true_iff (fun h2284 => ?_) (fun h2284 => ?_)
                · replace hm := hm.1 h2284
                  refine w_skip ?_
                  refine hK2281 _ _ ?_
                  refine w_seq fun K2285 hK2285 => ?_
                  refine w_block ?_
                  refine w_seq fun K2286 hK2286 => ?_
                  refine w_region ?_
                  refine wl_val (g_move (v := .slice a17 n18 c19) rfl) rfl ?_
                  refine wl_val (g_move (v := .int .i64 v1910) rfl) rfl ?_
                  obtain ⟨hg2287, hm⟩ := hm
                  refine wl_val (q_index (i := v1910) SL26 rfl rfl (Tv.o (oT.vw hS2279.g0 hS2279.g1 he21)) (Tv.g (oT.vw hS2279.g0 hS2279.g1 he21) hg2287)) rfl ?_
                  refine wl_val (g_fieldAddr (q := (adr a17).add ((Int.toNat v1910) * El.m CueD)) FL39_1 ON24 rfl) rfl ?_
                  refine wl_val (q_loadF (i := v1910) (j := 1) (v := .slice ((y20[(Int.toNat v1910)]!).2.1.1) ((y20[(Int.toNat v1910)]!).2.1.2.2.length) ((y20[(Int.toNat v1910)]!).2.1.2.1)) ON24 (Tv.o (oT.vw hS2279.g0 hS2279.g1 he21)) (Tv.g (oT.vw hS2279.g0 hS2279.g1 he21) hg2287) rfl rfl) rfl ?_
                  refine wl_val (g_move (v := .int .i64 v2272) rfl) rfl ?_
                  obtain ⟨hg2288, hm⟩ := hm
                  refine wl_val (q_index (i := v2272) SL24 rfl rfl (Tv.rowC0 (oT.vw hS2279.g0 hS2279.g1 he21) hg2287) hg2288) rfl ?_
                  refine wl_val (q_load (i := v2272) (v := .int .i64 ((r16[(Int.toNat v1910)]!.2.1)[(Int.toNat v2272)]!)) ON3 (Tv.rowC0 (oT.vw hS2279.g0 hS2279.g1 he21) hg2287) hg2288 rfl rfl) rfl ?_
                  refine wl_val (g_assign (v := .int .i64 ((r16[(Int.toNat v1910)]!.2.1)[(Int.toNat v2272)]!)) rfl) rfl ?_
                  refine wl_nil ?_
                  refine hK2286 _ _ ?_
                  refine w_seq fun K2289 hK2289 => ?_
                  refine w_draw (X := Ext) (Y := Ext) [] MIX (by decide +kernel) rfl Ext.refl (fun _ _ _ => Ext.trans) (fun _ _ _ => Chg.trans) (fun _ _ h => Ext.chg h _) (fun w2290 hE2291 => ?_)
                  have hB2292 := hB2278.trans (Ext.stp hE2291 hS2279.base)
                  have hS2293 := hS2279.ext hE2291
                  refine ⟨.slice a32 n33 c34, fun w2294 hX2295 => od_plain rfl (by have hS2296 := hS2293.ext hX2295; have hB2297 := hB2292.trans (Ext.stp hX2295 hS2293.base); exact is_ext (g_move (v := .slice a32 n33 c34) rfl)), ?_⟩
                  refine ⟨.int .i64 ((r16[(Int.toNat v1910)]!.2.1)[(Int.toNat v2272)]!), fun w2298 hX2299 => od_plain rfl (by have hS2300 := hS2293.ext hX2299; have hB2301 := hB2292.trans (Ext.stp hX2299 hS2293.base); exact is_ext (g_move (v := .int .i64 ((r16[(Int.toNat v1910)]!.2.1)[(Int.toNat v2272)]!)) rfl)), ?_⟩
                  obtain ⟨hg2306, hm⟩ := hm
                  refine ⟨.pointer (some ((adr a32).add ((Int.toNat ((r16[(Int.toNat v1910)]!.2.1)[(Int.toNat v2272)]!)) * El.m Int))), fun w2302 hX2303 => od_plain rfl (by have hS2304 := hS2293.ext hX2303; have hB2305 := hB2292.trans (Ext.stp hX2303 hS2293.base); exact is_ext (q_index (i := (r16[(Int.toNat v1910)]!.2.1)[(Int.toNat v2272)]!) SL24 rfl rfl (oS.vw hS2304.g2) hg2306)), ?_⟩
                  refine ⟨.int .i64 (r31[(Int.toNat ((r16[(Int.toNat v1910)]!.2.1)[(Int.toNat v2272)]!))]!), fun w2307 hX2308 => od_plain rfl (by have hS2309 := hS2293.ext hX2308; have hB2310 := hB2292.trans (Ext.stp hX2308 hS2293.base); exact is_ext (q_load (i := (r16[(Int.toNat v1910)]!.2.1)[(Int.toNat v2272)]!) (v := .int .i64 (r31[(Int.toNat ((r16[(Int.toNat v1910)]!.2.1)[(Int.toNat v2272)]!))]!)) ON3 (oS.vw hS2309.g2) hg2306 rfl rfl)), ?_⟩
                  refine ⟨.slice a17 n18 c19, fun w2311 hX2312 => od_plain rfl (by have hS2313 := hS2293.ext hX2312; have hB2314 := hB2292.trans (Ext.stp hX2312 hS2293.base); exact is_ext (g_move (v := .slice a17 n18 c19) rfl)), ?_⟩
                  refine ⟨.int .i64 ((r16[(Int.toNat v1910)]!.2.1)[(Int.toNat v2272)]!), fun w2315 hX2316 => od_plain rfl (by have hS2317 := hS2293.ext hX2316; have hB2318 := hB2292.trans (Ext.stp hX2316 hS2293.base); exact is_ext (g_move (v := .int .i64 ((r16[(Int.toNat v1910)]!.2.1)[(Int.toNat v2272)]!)) rfl)), ?_⟩
                  obtain ⟨hg2323, hm⟩ := hm
                  refine ⟨.pointer (some ((adr a17).add ((Int.toNat ((r16[(Int.toNat v1910)]!.2.1)[(Int.toNat v2272)]!)) * El.m CueD))), fun w2319 hX2320 => od_plain rfl (by have hS2321 := hS2293.ext hX2320; have hB2322 := hB2292.trans (Ext.stp hX2320 hS2293.base); exact is_ext (q_index (i := (r16[(Int.toNat v1910)]!.2.1)[(Int.toNat v2272)]!) SL26 rfl rfl (Tv.o (oT.vw hS2321.g0 hS2321.g1 he21)) (Tv.g (oT.vw hS2321.g0 hS2321.g1 he21) hg2323))), ?_⟩
                  refine ⟨.pointer (some (((adr a17).add ((Int.toNat ((r16[(Int.toNat v1910)]!.2.1)[(Int.toNat v2272)]!)) * El.m CueD)).add 0)), fun w2324 hX2325 => od_plain rfl (by have hS2326 := hS2293.ext hX2325; have hB2327 := hB2292.trans (Ext.stp hX2325 hS2293.base); exact is_ext (g_fieldAddr (q := (adr a17).add ((Int.toNat ((r16[(Int.toNat v1910)]!.2.1)[(Int.toNat v2272)]!)) * El.m CueD)) FL39_0 ON3 rfl)), ?_⟩
                  refine ⟨.int .i64 (r16[(Int.toNat ((r16[(Int.toNat v1910)]!.2.1)[(Int.toNat v2272)]!))]!.1), fun w2328 hX2329 => od_plain rfl (by have hS2330 := hS2293.ext hX2329; have hB2331 := hB2292.trans (Ext.stp hX2329 hS2293.base); exact is_ext (q_loadF (i := (r16[(Int.toNat v1910)]!.2.1)[(Int.toNat v2272)]!) (j := 0) (v := .int .i64 (r16[(Int.toNat ((r16[(Int.toNat v1910)]!.2.1)[(Int.toNat v2272)]!))]!.1)) ON3 (Tv.o (oT.vw hS2330.g0 hS2330.g1 he21)) (Tv.g (oT.vw hS2330.g0 hS2330.g1 he21) hg2323) (by rw [← Tv.ticks (oT.vw hS2330.g0 hS2330.g1 he21) hg2323]; rfl) rfl)), ?_⟩
                  obtain ⟨hg2336, hm⟩ := hm
                  refine ⟨.int .i64 (r31[(Int.toNat ((r16[(Int.toNat v1910)]!.2.1)[(Int.toNat v2272)]!))]! + r16[(Int.toNat ((r16[(Int.toNat v1910)]!.2.1)[(Int.toNat v2272)]!))]!.1), fun w2332 hX2333 => od_plain rfl (by have hS2334 := hS2293.ext hX2333; have hB2335 := hB2292.trans (Ext.stp hX2333 hS2293.base); exact is_ext (g_add (a := r31[(Int.toNat ((r16[(Int.toNat v1910)]!.2.1)[(Int.toNat v2272)]!))]!) (b := r16[(Int.toNat ((r16[(Int.toNat v1910)]!.2.1)[(Int.toNat v2272)]!))]!.1) rfl rfl hg2336)), ?_⟩
                  refine ⟨.slice a32 n33 c34, fun w2337 hX2338 => od_plain rfl (by have hS2339 := hS2293.ext hX2338; have hB2340 := hB2292.trans (Ext.stp hX2338 hS2293.base); exact is_ext (g_move (v := .slice a32 n33 c34) rfl)), ?_⟩
                  refine ⟨.int .i64 v1910, fun w2341 hX2342 => od_plain rfl (by have hS2343 := hS2293.ext hX2342; have hB2344 := hB2292.trans (Ext.stp hX2342 hS2293.base); exact is_ext (g_move (v := .int .i64 v1910) rfl)), ?_⟩
                  obtain ⟨hg2349, hm⟩ := hm
                  refine ⟨.pointer (some ((adr a32).add ((Int.toNat v1910) * El.m Int))), fun w2345 hX2346 => od_plain rfl (by have hS2347 := hS2293.ext hX2346; have hB2348 := hB2292.trans (Ext.stp hX2346 hS2293.base); exact is_ext (q_index (i := v1910) SL24 rfl rfl (oS.vw hS2347.g2) hg2349)), ?_⟩
                  refine ⟨.int .i64 (r31[(Int.toNat v1910)]!), fun w2350 hX2351 => od_plain rfl (by have hS2352 := hS2293.ext hX2351; have hB2353 := hB2292.trans (Ext.stp hX2351 hS2293.base); exact is_ext (q_load (i := v1910) (v := .int .i64 (r31[(Int.toNat v1910)]!)) ON3 (oS.vw hS2352.g2) hg2349 rfl rfl)), ?_⟩
                  refine ⟨.bool (decide ((r31[(Int.toNat ((r16[(Int.toNat v1910)]!.2.1)[(Int.toNat v2272)]!))]! + r16[(Int.toNat ((r16[(Int.toNat v1910)]!.2.1)[(Int.toNat v2272)]!))]!.1) > r31[(Int.toNat v1910)]!)), fun w2354 hX2355 => od_plain rfl (by have hS2356 := hS2293.ext hX2355; have hB2357 := hB2292.trans (Ext.stp hX2355 hS2293.base); exact is_ext (g_gtr (a := (r31[(Int.toNat ((r16[(Int.toNat v1910)]!.2.1)[(Int.toNat v2272)]!))]! + r16[(Int.toNat ((r16[(Int.toNat v1910)]!.2.1)[(Int.toNat v2272)]!))]!.1)) (b := r31[(Int.toNat v1910)]!) rfl rfl)), ?_⟩
                  refine ⟨.bool (decide ((r31[(Int.toNat ((r16[(Int.toNat v1910)]!.2.1)[(Int.toNat v2272)]!))]! + r16[(Int.toNat ((r16[(Int.toNat v1910)]!.2.1)[(Int.toNat v2272)]!))]!.1) > r31[(Int.toNat v1910)]!)), fun w2358 hX2359 => od_plain rfl (by have hS2360 := hS2293.ext hX2359; have hB2361 := hB2292.trans (Ext.stp hX2359 hS2293.base); exact is_ext (g_move (v := .bool (decide ((r31[(Int.toNat ((r16[(Int.toNat v1910)]!.2.1)[(Int.toNat v2272)]!))]! + r16[(Int.toNat ((r16[(Int.toNat v1910)]!.2.1)[(Int.toNat v2272)]!))]!.1) > r31[(Int.toNat v1910)]!))) rfl)), ?_⟩
                  refine ⟨if (decide ((r31[(Int.toNat ((r16[(Int.toNat v1910)]!.2.1)[(Int.toNat v2272)]!))]! + r16[(Int.toNat ((r16[(Int.toNat v1910)]!.2.1)[(Int.toNat v2272)]!))]!.1) > r31[(Int.toNat v1910)]!)) = false then .slice a43 n44 c45 else undef, fun w2362 hX2363 => od_guard (c := (decide ((r31[(Int.toNat ((r16[(Int.toNat v1910)]!.2.1)[(Int.toNat v2272)]!))]! + r16[(Int.toNat ((r16[(Int.toNat v1910)]!.2.1)[(Int.toNat v2272)]!))]!.1) > r31[(Int.toNat v1910)]!)) = false) (val := .slice a43 n44 c45) (b := ((decide ((r31[(Int.toNat ((r16[(Int.toNat v1910)]!.2.1)[(Int.toNat v2272)]!))]! + r16[(Int.toNat ((r16[(Int.toNat v1910)]!.2.1)[(Int.toNat v2272)]!))]!.1) > r31[(Int.toNat v1910)]!)) == false)) (gv_some rfl rfl rfl) beq_iff_eq (fun hc2366 => ?_), ?_⟩
                  · have hS2364 := hS2293.ext hX2363
                    have hB2365 := hB2292.trans (Ext.stp hX2363 hS2293.base)
                    have hcq16 : ¬ ((r31[(Int.toNat ((r16[(Int.toNat v1910)]!.2.1)[(Int.toNat v2272)]!))]! + r16[(Int.toNat ((r16[(Int.toNat v1910)]!.2.1)[(Int.toNat v2272)]!))]!.1) > r31[(Int.toNat v1910)]!) := (i_neg decide_eq_true_iff hc2366)
                    exact is_ext (g_move (v := .slice a43 n44 c45) rfl)
                  refine ⟨if (decide ((r31[(Int.toNat ((r16[(Int.toNat v1910)]!.2.1)[(Int.toNat v2272)]!))]! + r16[(Int.toNat ((r16[(Int.toNat v1910)]!.2.1)[(Int.toNat v2272)]!))]!.1) > r31[(Int.toNat v1910)]!)) = false then .int .i64 ((r16[(Int.toNat v1910)]!.2.1)[(Int.toNat v2272)]!) else undef, fun w2367 hX2368 => od_guard (c := (decide ((r31[(Int.toNat ((r16[(Int.toNat v1910)]!.2.1)[(Int.toNat v2272)]!))]! + r16[(Int.toNat ((r16[(Int.toNat v1910)]!.2.1)[(Int.toNat v2272)]!))]!.1) > r31[(Int.toNat v1910)]!)) = false) (val := .int .i64 ((r16[(Int.toNat v1910)]!.2.1)[(Int.toNat v2272)]!)) (b := ((decide ((r31[(Int.toNat ((r16[(Int.toNat v1910)]!.2.1)[(Int.toNat v2272)]!))]! + r16[(Int.toNat ((r16[(Int.toNat v1910)]!.2.1)[(Int.toNat v2272)]!))]!.1) > r31[(Int.toNat v1910)]!)) == false)) (gv_some rfl rfl rfl) beq_iff_eq (fun hc2371 => ?_), ?_⟩
                  · have hS2369 := hS2293.ext hX2368
                    have hB2370 := hB2292.trans (Ext.stp hX2368 hS2293.base)
                    have hcq16 : ¬ ((r31[(Int.toNat ((r16[(Int.toNat v1910)]!.2.1)[(Int.toNat v2272)]!))]! + r16[(Int.toNat ((r16[(Int.toNat v1910)]!.2.1)[(Int.toNat v2272)]!))]!.1) > r31[(Int.toNat v1910)]!) := (i_neg decide_eq_true_iff hc2371)
                    exact is_ext (g_move (v := .int .i64 ((r16[(Int.toNat v1910)]!.2.1)[(Int.toNat v2272)]!)) rfl)
                  obtain ⟨hg2377, hm⟩ := hm
                  refine ⟨if (decide ((r31[(Int.toNat ((r16[(Int.toNat v1910)]!.2.1)[(Int.toNat v2272)]!))]! + r16[(Int.toNat ((r16[(Int.toNat v1910)]!.2.1)[(Int.toNat v2272)]!))]!.1) > r31[(Int.toNat v1910)]!)) = false then .pointer (some ((adr a43).add ((Int.toNat ((r16[(Int.toNat v1910)]!.2.1)[(Int.toNat v2272)]!)) * El.m Int))) else undef, fun w2372 hX2373 => od_guard (c := (decide ((r31[(Int.toNat ((r16[(Int.toNat v1910)]!.2.1)[(Int.toNat v2272)]!))]! + r16[(Int.toNat ((r16[(Int.toNat v1910)]!.2.1)[(Int.toNat v2272)]!))]!.1) > r31[(Int.toNat v1910)]!)) = false) (val := .pointer (some ((adr a43).add ((Int.toNat ((r16[(Int.toNat v1910)]!.2.1)[(Int.toNat v2272)]!)) * El.m Int)))) (b := ((decide ((r31[(Int.toNat ((r16[(Int.toNat v1910)]!.2.1)[(Int.toNat v2272)]!))]! + r16[(Int.toNat ((r16[(Int.toNat v1910)]!.2.1)[(Int.toNat v2272)]!))]!.1) > r31[(Int.toNat v1910)]!)) == false)) (gv_some rfl rfl rfl) beq_iff_eq (fun hc2376 => ?_), ?_⟩
                  · have hS2374 := hS2293.ext hX2373
                    have hB2375 := hB2292.trans (Ext.stp hX2373 hS2293.base)
                    have hcq16 : ¬ ((r31[(Int.toNat ((r16[(Int.toNat v1910)]!.2.1)[(Int.toNat v2272)]!))]! + r16[(Int.toNat ((r16[(Int.toNat v1910)]!.2.1)[(Int.toNat v2272)]!))]!.1) > r31[(Int.toNat v1910)]!) := (i_neg decide_eq_true_iff hc2376)
                    exact is_ext (q_index (i := (r16[(Int.toNat v1910)]!.2.1)[(Int.toNat v2272)]!) SL24 (if_pos hc2376) (if_pos hc2376) (oS.vw hS2374.g3) (hg2377 hcq16))
                  refine ⟨if (decide ((r31[(Int.toNat ((r16[(Int.toNat v1910)]!.2.1)[(Int.toNat v2272)]!))]! + r16[(Int.toNat ((r16[(Int.toNat v1910)]!.2.1)[(Int.toNat v2272)]!))]!.1) > r31[(Int.toNat v1910)]!)) = false then .int .i64 (r42[(Int.toNat ((r16[(Int.toNat v1910)]!.2.1)[(Int.toNat v2272)]!))]!) else undef, fun w2378 hX2379 => od_guard (c := (decide ((r31[(Int.toNat ((r16[(Int.toNat v1910)]!.2.1)[(Int.toNat v2272)]!))]! + r16[(Int.toNat ((r16[(Int.toNat v1910)]!.2.1)[(Int.toNat v2272)]!))]!.1) > r31[(Int.toNat v1910)]!)) = false) (val := .int .i64 (r42[(Int.toNat ((r16[(Int.toNat v1910)]!.2.1)[(Int.toNat v2272)]!))]!)) (b := ((decide ((r31[(Int.toNat ((r16[(Int.toNat v1910)]!.2.1)[(Int.toNat v2272)]!))]! + r16[(Int.toNat ((r16[(Int.toNat v1910)]!.2.1)[(Int.toNat v2272)]!))]!.1) > r31[(Int.toNat v1910)]!)) == false)) (gv_some rfl rfl rfl) beq_iff_eq (fun hc2382 => ?_), ?_⟩
                  · have hS2380 := hS2293.ext hX2379
                    have hB2381 := hB2292.trans (Ext.stp hX2379 hS2293.base)
                    have hcq16 : ¬ ((r31[(Int.toNat ((r16[(Int.toNat v1910)]!.2.1)[(Int.toNat v2272)]!))]! + r16[(Int.toNat ((r16[(Int.toNat v1910)]!.2.1)[(Int.toNat v2272)]!))]!.1) > r31[(Int.toNat v1910)]!) := (i_neg decide_eq_true_iff hc2382)
                    exact is_ext (q_load (i := (r16[(Int.toNat v1910)]!.2.1)[(Int.toNat v2272)]!) (v := .int .i64 (r42[(Int.toNat ((r16[(Int.toNat v1910)]!.2.1)[(Int.toNat v2272)]!))]!)) ON3 (oS.vw hS2380.g3) (hg2377 hcq16) rfl (if_pos hc2382))
                  refine ⟨if (decide ((r31[(Int.toNat ((r16[(Int.toNat v1910)]!.2.1)[(Int.toNat v2272)]!))]! + r16[(Int.toNat ((r16[(Int.toNat v1910)]!.2.1)[(Int.toNat v2272)]!))]!.1) > r31[(Int.toNat v1910)]!)) = false then .slice a17 n18 c19 else undef, fun w2383 hX2384 => od_guard (c := (decide ((r31[(Int.toNat ((r16[(Int.toNat v1910)]!.2.1)[(Int.toNat v2272)]!))]! + r16[(Int.toNat ((r16[(Int.toNat v1910)]!.2.1)[(Int.toNat v2272)]!))]!.1) > r31[(Int.toNat v1910)]!)) = false) (val := .slice a17 n18 c19) (b := ((decide ((r31[(Int.toNat ((r16[(Int.toNat v1910)]!.2.1)[(Int.toNat v2272)]!))]! + r16[(Int.toNat ((r16[(Int.toNat v1910)]!.2.1)[(Int.toNat v2272)]!))]!.1) > r31[(Int.toNat v1910)]!)) == false)) (gv_some rfl rfl rfl) beq_iff_eq (fun hc2387 => ?_), ?_⟩
                  · have hS2385 := hS2293.ext hX2384
                    have hB2386 := hB2292.trans (Ext.stp hX2384 hS2293.base)
                    have hcq16 : ¬ ((r31[(Int.toNat ((r16[(Int.toNat v1910)]!.2.1)[(Int.toNat v2272)]!))]! + r16[(Int.toNat ((r16[(Int.toNat v1910)]!.2.1)[(Int.toNat v2272)]!))]!.1) > r31[(Int.toNat v1910)]!) := (i_neg decide_eq_true_iff hc2387)
                    exact is_ext (g_move (v := .slice a17 n18 c19) rfl)
                  refine ⟨if (decide ((r31[(Int.toNat ((r16[(Int.toNat v1910)]!.2.1)[(Int.toNat v2272)]!))]! + r16[(Int.toNat ((r16[(Int.toNat v1910)]!.2.1)[(Int.toNat v2272)]!))]!.1) > r31[(Int.toNat v1910)]!)) = false then .int .i64 ((r16[(Int.toNat v1910)]!.2.1)[(Int.toNat v2272)]!) else undef, fun w2388 hX2389 => od_guard (c := (decide ((r31[(Int.toNat ((r16[(Int.toNat v1910)]!.2.1)[(Int.toNat v2272)]!))]! + r16[(Int.toNat ((r16[(Int.toNat v1910)]!.2.1)[(Int.toNat v2272)]!))]!.1) > r31[(Int.toNat v1910)]!)) = false) (val := .int .i64 ((r16[(Int.toNat v1910)]!.2.1)[(Int.toNat v2272)]!)) (b := ((decide ((r31[(Int.toNat ((r16[(Int.toNat v1910)]!.2.1)[(Int.toNat v2272)]!))]! + r16[(Int.toNat ((r16[(Int.toNat v1910)]!.2.1)[(Int.toNat v2272)]!))]!.1) > r31[(Int.toNat v1910)]!)) == false)) (gv_some rfl rfl rfl) beq_iff_eq (fun hc2392 => ?_), ?_⟩
                  · have hS2390 := hS2293.ext hX2389
                    have hB2391 := hB2292.trans (Ext.stp hX2389 hS2293.base)
                    have hcq16 : ¬ ((r31[(Int.toNat ((r16[(Int.toNat v1910)]!.2.1)[(Int.toNat v2272)]!))]! + r16[(Int.toNat ((r16[(Int.toNat v1910)]!.2.1)[(Int.toNat v2272)]!))]!.1) > r31[(Int.toNat v1910)]!) := (i_neg decide_eq_true_iff hc2392)
                    exact is_ext (g_move (v := .int .i64 ((r16[(Int.toNat v1910)]!.2.1)[(Int.toNat v2272)]!)) rfl)
                  obtain ⟨hg2398, hm⟩ := hm
                  refine ⟨if (decide ((r31[(Int.toNat ((r16[(Int.toNat v1910)]!.2.1)[(Int.toNat v2272)]!))]! + r16[(Int.toNat ((r16[(Int.toNat v1910)]!.2.1)[(Int.toNat v2272)]!))]!.1) > r31[(Int.toNat v1910)]!)) = false then .pointer (some ((adr a17).add ((Int.toNat ((r16[(Int.toNat v1910)]!.2.1)[(Int.toNat v2272)]!)) * El.m CueD))) else undef, fun w2393 hX2394 => od_guard (c := (decide ((r31[(Int.toNat ((r16[(Int.toNat v1910)]!.2.1)[(Int.toNat v2272)]!))]! + r16[(Int.toNat ((r16[(Int.toNat v1910)]!.2.1)[(Int.toNat v2272)]!))]!.1) > r31[(Int.toNat v1910)]!)) = false) (val := .pointer (some ((adr a17).add ((Int.toNat ((r16[(Int.toNat v1910)]!.2.1)[(Int.toNat v2272)]!)) * El.m CueD)))) (b := ((decide ((r31[(Int.toNat ((r16[(Int.toNat v1910)]!.2.1)[(Int.toNat v2272)]!))]! + r16[(Int.toNat ((r16[(Int.toNat v1910)]!.2.1)[(Int.toNat v2272)]!))]!.1) > r31[(Int.toNat v1910)]!)) == false)) (gv_some rfl rfl rfl) beq_iff_eq (fun hc2397 => ?_), ?_⟩
                  · have hS2395 := hS2293.ext hX2394
                    have hB2396 := hB2292.trans (Ext.stp hX2394 hS2293.base)
                    have hcq16 : ¬ ((r31[(Int.toNat ((r16[(Int.toNat v1910)]!.2.1)[(Int.toNat v2272)]!))]! + r16[(Int.toNat ((r16[(Int.toNat v1910)]!.2.1)[(Int.toNat v2272)]!))]!.1) > r31[(Int.toNat v1910)]!) := (i_neg decide_eq_true_iff hc2397)
                    exact is_ext (q_index (i := (r16[(Int.toNat v1910)]!.2.1)[(Int.toNat v2272)]!) SL26 (if_pos hc2397) (if_pos hc2397) (Tv.o (oT.vw hS2395.g0 hS2395.g1 he21)) (Tv.g (oT.vw hS2395.g0 hS2395.g1 he21) (hg2398 hcq16)))
                  refine ⟨if (decide ((r31[(Int.toNat ((r16[(Int.toNat v1910)]!.2.1)[(Int.toNat v2272)]!))]! + r16[(Int.toNat ((r16[(Int.toNat v1910)]!.2.1)[(Int.toNat v2272)]!))]!.1) > r31[(Int.toNat v1910)]!)) = false then .pointer (some (((adr a17).add ((Int.toNat ((r16[(Int.toNat v1910)]!.2.1)[(Int.toNat v2272)]!)) * El.m CueD)).add 0)) else undef, fun w2399 hX2400 => od_guard (c := (decide ((r31[(Int.toNat ((r16[(Int.toNat v1910)]!.2.1)[(Int.toNat v2272)]!))]! + r16[(Int.toNat ((r16[(Int.toNat v1910)]!.2.1)[(Int.toNat v2272)]!))]!.1) > r31[(Int.toNat v1910)]!)) = false) (val := .pointer (some (((adr a17).add ((Int.toNat ((r16[(Int.toNat v1910)]!.2.1)[(Int.toNat v2272)]!)) * El.m CueD)).add 0))) (b := ((decide ((r31[(Int.toNat ((r16[(Int.toNat v1910)]!.2.1)[(Int.toNat v2272)]!))]! + r16[(Int.toNat ((r16[(Int.toNat v1910)]!.2.1)[(Int.toNat v2272)]!))]!.1) > r31[(Int.toNat v1910)]!)) == false)) (gv_some rfl rfl rfl) beq_iff_eq (fun hc2403 => ?_), ?_⟩
                  · have hS2401 := hS2293.ext hX2400
                    have hB2402 := hB2292.trans (Ext.stp hX2400 hS2293.base)
                    have hcq16 : ¬ ((r31[(Int.toNat ((r16[(Int.toNat v1910)]!.2.1)[(Int.toNat v2272)]!))]! + r16[(Int.toNat ((r16[(Int.toNat v1910)]!.2.1)[(Int.toNat v2272)]!))]!.1) > r31[(Int.toNat v1910)]!) := (i_neg decide_eq_true_iff hc2403)
                    exact is_ext (g_fieldAddr (q := (adr a17).add ((Int.toNat ((r16[(Int.toNat v1910)]!.2.1)[(Int.toNat v2272)]!)) * El.m CueD)) FL39_0 ON3 (if_pos hc2403))
                  refine ⟨if (decide ((r31[(Int.toNat ((r16[(Int.toNat v1910)]!.2.1)[(Int.toNat v2272)]!))]! + r16[(Int.toNat ((r16[(Int.toNat v1910)]!.2.1)[(Int.toNat v2272)]!))]!.1) > r31[(Int.toNat v1910)]!)) = false then .int .i64 (r16[(Int.toNat ((r16[(Int.toNat v1910)]!.2.1)[(Int.toNat v2272)]!))]!.1) else undef, fun w2404 hX2405 => od_guard (c := (decide ((r31[(Int.toNat ((r16[(Int.toNat v1910)]!.2.1)[(Int.toNat v2272)]!))]! + r16[(Int.toNat ((r16[(Int.toNat v1910)]!.2.1)[(Int.toNat v2272)]!))]!.1) > r31[(Int.toNat v1910)]!)) = false) (val := .int .i64 (r16[(Int.toNat ((r16[(Int.toNat v1910)]!.2.1)[(Int.toNat v2272)]!))]!.1)) (b := ((decide ((r31[(Int.toNat ((r16[(Int.toNat v1910)]!.2.1)[(Int.toNat v2272)]!))]! + r16[(Int.toNat ((r16[(Int.toNat v1910)]!.2.1)[(Int.toNat v2272)]!))]!.1) > r31[(Int.toNat v1910)]!)) == false)) (gv_some rfl rfl rfl) beq_iff_eq (fun hc2408 => ?_), ?_⟩
                  · have hS2406 := hS2293.ext hX2405
                    have hB2407 := hB2292.trans (Ext.stp hX2405 hS2293.base)
                    have hcq16 : ¬ ((r31[(Int.toNat ((r16[(Int.toNat v1910)]!.2.1)[(Int.toNat v2272)]!))]! + r16[(Int.toNat ((r16[(Int.toNat v1910)]!.2.1)[(Int.toNat v2272)]!))]!.1) > r31[(Int.toNat v1910)]!) := (i_neg decide_eq_true_iff hc2408)
                    exact is_ext (q_loadF (i := (r16[(Int.toNat v1910)]!.2.1)[(Int.toNat v2272)]!) (j := 0) (v := .int .i64 (r16[(Int.toNat ((r16[(Int.toNat v1910)]!.2.1)[(Int.toNat v2272)]!))]!.1)) ON3 (Tv.o (oT.vw hS2406.g0 hS2406.g1 he21)) (Tv.g (oT.vw hS2406.g0 hS2406.g1 he21) (hg2398 hcq16)) (by rw [← Tv.ticks (oT.vw hS2406.g0 hS2406.g1 he21) (hg2398 hcq16)]; rfl) (if_pos hc2408))
                  obtain ⟨hg2414, hm⟩ := hm
                  refine ⟨if (decide ((r31[(Int.toNat ((r16[(Int.toNat v1910)]!.2.1)[(Int.toNat v2272)]!))]! + r16[(Int.toNat ((r16[(Int.toNat v1910)]!.2.1)[(Int.toNat v2272)]!))]!.1) > r31[(Int.toNat v1910)]!)) = false then .int .i64 (r42[(Int.toNat ((r16[(Int.toNat v1910)]!.2.1)[(Int.toNat v2272)]!))]! + r16[(Int.toNat ((r16[(Int.toNat v1910)]!.2.1)[(Int.toNat v2272)]!))]!.1) else undef, fun w2409 hX2410 => od_guard (c := (decide ((r31[(Int.toNat ((r16[(Int.toNat v1910)]!.2.1)[(Int.toNat v2272)]!))]! + r16[(Int.toNat ((r16[(Int.toNat v1910)]!.2.1)[(Int.toNat v2272)]!))]!.1) > r31[(Int.toNat v1910)]!)) = false) (val := .int .i64 (r42[(Int.toNat ((r16[(Int.toNat v1910)]!.2.1)[(Int.toNat v2272)]!))]! + r16[(Int.toNat ((r16[(Int.toNat v1910)]!.2.1)[(Int.toNat v2272)]!))]!.1)) (b := ((decide ((r31[(Int.toNat ((r16[(Int.toNat v1910)]!.2.1)[(Int.toNat v2272)]!))]! + r16[(Int.toNat ((r16[(Int.toNat v1910)]!.2.1)[(Int.toNat v2272)]!))]!.1) > r31[(Int.toNat v1910)]!)) == false)) (gv_some rfl rfl rfl) beq_iff_eq (fun hc2413 => ?_), ?_⟩
                  · have hS2411 := hS2293.ext hX2410
                    have hB2412 := hB2292.trans (Ext.stp hX2410 hS2293.base)
                    have hcq16 : ¬ ((r31[(Int.toNat ((r16[(Int.toNat v1910)]!.2.1)[(Int.toNat v2272)]!))]! + r16[(Int.toNat ((r16[(Int.toNat v1910)]!.2.1)[(Int.toNat v2272)]!))]!.1) > r31[(Int.toNat v1910)]!) := (i_neg decide_eq_true_iff hc2413)
                    exact is_ext (g_add (a := r42[(Int.toNat ((r16[(Int.toNat v1910)]!.2.1)[(Int.toNat v2272)]!))]!) (b := r16[(Int.toNat ((r16[(Int.toNat v1910)]!.2.1)[(Int.toNat v2272)]!))]!.1) (if_pos hc2413) (if_pos hc2413) (hg2414 hcq16))
                  refine ⟨if (decide ((r31[(Int.toNat ((r16[(Int.toNat v1910)]!.2.1)[(Int.toNat v2272)]!))]! + r16[(Int.toNat ((r16[(Int.toNat v1910)]!.2.1)[(Int.toNat v2272)]!))]!.1) > r31[(Int.toNat v1910)]!)) = false then .slice a43 n44 c45 else undef, fun w2415 hX2416 => od_guard (c := (decide ((r31[(Int.toNat ((r16[(Int.toNat v1910)]!.2.1)[(Int.toNat v2272)]!))]! + r16[(Int.toNat ((r16[(Int.toNat v1910)]!.2.1)[(Int.toNat v2272)]!))]!.1) > r31[(Int.toNat v1910)]!)) = false) (val := .slice a43 n44 c45) (b := ((decide ((r31[(Int.toNat ((r16[(Int.toNat v1910)]!.2.1)[(Int.toNat v2272)]!))]! + r16[(Int.toNat ((r16[(Int.toNat v1910)]!.2.1)[(Int.toNat v2272)]!))]!.1) > r31[(Int.toNat v1910)]!)) == false)) (gv_some rfl rfl rfl) beq_iff_eq (fun hc2419 => ?_), ?_⟩
                  · have hS2417 := hS2293.ext hX2416
                    have hB2418 := hB2292.trans (Ext.stp hX2416 hS2293.base)
                    have hcq16 : ¬ ((r31[(Int.toNat ((r16[(Int.toNat v1910)]!.2.1)[(Int.toNat v2272)]!))]! + r16[(Int.toNat ((r16[(Int.toNat v1910)]!.2.1)[(Int.toNat v2272)]!))]!.1) > r31[(Int.toNat v1910)]!) := (i_neg decide_eq_true_iff hc2419)
                    exact is_ext (g_move (v := .slice a43 n44 c45) rfl)
                  refine ⟨if (decide ((r31[(Int.toNat ((r16[(Int.toNat v1910)]!.2.1)[(Int.toNat v2272)]!))]! + r16[(Int.toNat ((r16[(Int.toNat v1910)]!.2.1)[(Int.toNat v2272)]!))]!.1) > r31[(Int.toNat v1910)]!)) = false then .int .i64 v1910 else undef, fun w2420 hX2421 => od_guard (c := (decide ((r31[(Int.toNat ((r16[(Int.toNat v1910)]!.2.1)[(Int.toNat v2272)]!))]! + r16[(Int.toNat ((r16[(Int.toNat v1910)]!.2.1)[(Int.toNat v2272)]!))]!.1) > r31[(Int.toNat v1910)]!)) = false) (val := .int .i64 v1910) (b := ((decide ((r31[(Int.toNat ((r16[(Int.toNat v1910)]!.2.1)[(Int.toNat v2272)]!))]! + r16[(Int.toNat ((r16[(Int.toNat v1910)]!.2.1)[(Int.toNat v2272)]!))]!.1) > r31[(Int.toNat v1910)]!)) == false)) (gv_some rfl rfl rfl) beq_iff_eq (fun hc2424 => ?_), ?_⟩
                  · have hS2422 := hS2293.ext hX2421
                    have hB2423 := hB2292.trans (Ext.stp hX2421 hS2293.base)
                    have hcq16 : ¬ ((r31[(Int.toNat ((r16[(Int.toNat v1910)]!.2.1)[(Int.toNat v2272)]!))]! + r16[(Int.toNat ((r16[(Int.toNat v1910)]!.2.1)[(Int.toNat v2272)]!))]!.1) > r31[(Int.toNat v1910)]!) := (i_neg decide_eq_true_iff hc2424)
                    exact is_ext (g_move (v := .int .i64 v1910) rfl)
                  obtain ⟨hg2430, hm⟩ := hm
                  refine ⟨if (decide ((r31[(Int.toNat ((r16[(Int.toNat v1910)]!.2.1)[(Int.toNat v2272)]!))]! + r16[(Int.toNat ((r16[(Int.toNat v1910)]!.2.1)[(Int.toNat v2272)]!))]!.1) > r31[(Int.toNat v1910)]!)) = false then .pointer (some ((adr a43).add ((Int.toNat v1910) * El.m Int))) else undef, fun w2425 hX2426 => od_guard (c := (decide ((r31[(Int.toNat ((r16[(Int.toNat v1910)]!.2.1)[(Int.toNat v2272)]!))]! + r16[(Int.toNat ((r16[(Int.toNat v1910)]!.2.1)[(Int.toNat v2272)]!))]!.1) > r31[(Int.toNat v1910)]!)) = false) (val := .pointer (some ((adr a43).add ((Int.toNat v1910) * El.m Int)))) (b := ((decide ((r31[(Int.toNat ((r16[(Int.toNat v1910)]!.2.1)[(Int.toNat v2272)]!))]! + r16[(Int.toNat ((r16[(Int.toNat v1910)]!.2.1)[(Int.toNat v2272)]!))]!.1) > r31[(Int.toNat v1910)]!)) == false)) (gv_some rfl rfl rfl) beq_iff_eq (fun hc2429 => ?_), ?_⟩
                  · have hS2427 := hS2293.ext hX2426
                    have hB2428 := hB2292.trans (Ext.stp hX2426 hS2293.base)
                    have hcq16 : ¬ ((r31[(Int.toNat ((r16[(Int.toNat v1910)]!.2.1)[(Int.toNat v2272)]!))]! + r16[(Int.toNat ((r16[(Int.toNat v1910)]!.2.1)[(Int.toNat v2272)]!))]!.1) > r31[(Int.toNat v1910)]!) := (i_neg decide_eq_true_iff hc2429)
                    exact is_ext (q_index (i := v1910) SL24 (if_pos hc2429) (if_pos hc2429) (oS.vw hS2427.g3) (hg2430 hcq16))
                  refine ⟨if (decide ((r31[(Int.toNat ((r16[(Int.toNat v1910)]!.2.1)[(Int.toNat v2272)]!))]! + r16[(Int.toNat ((r16[(Int.toNat v1910)]!.2.1)[(Int.toNat v2272)]!))]!.1) > r31[(Int.toNat v1910)]!)) = false then .int .i64 (r42[(Int.toNat v1910)]!) else undef, fun w2431 hX2432 => od_guard (c := (decide ((r31[(Int.toNat ((r16[(Int.toNat v1910)]!.2.1)[(Int.toNat v2272)]!))]! + r16[(Int.toNat ((r16[(Int.toNat v1910)]!.2.1)[(Int.toNat v2272)]!))]!.1) > r31[(Int.toNat v1910)]!)) = false) (val := .int .i64 (r42[(Int.toNat v1910)]!)) (b := ((decide ((r31[(Int.toNat ((r16[(Int.toNat v1910)]!.2.1)[(Int.toNat v2272)]!))]! + r16[(Int.toNat ((r16[(Int.toNat v1910)]!.2.1)[(Int.toNat v2272)]!))]!.1) > r31[(Int.toNat v1910)]!)) == false)) (gv_some rfl rfl rfl) beq_iff_eq (fun hc2435 => ?_), ?_⟩
                  · have hS2433 := hS2293.ext hX2432
                    have hB2434 := hB2292.trans (Ext.stp hX2432 hS2293.base)
                    have hcq16 : ¬ ((r31[(Int.toNat ((r16[(Int.toNat v1910)]!.2.1)[(Int.toNat v2272)]!))]! + r16[(Int.toNat ((r16[(Int.toNat v1910)]!.2.1)[(Int.toNat v2272)]!))]!.1) > r31[(Int.toNat v1910)]!) := (i_neg decide_eq_true_iff hc2435)
                    exact is_ext (q_load (i := v1910) (v := .int .i64 (r42[(Int.toNat v1910)]!)) ON3 (oS.vw hS2433.g3) (hg2430 hcq16) rfl (if_pos hc2435))
                  refine ⟨if (decide ((r31[(Int.toNat ((r16[(Int.toNat v1910)]!.2.1)[(Int.toNat v2272)]!))]! + r16[(Int.toNat ((r16[(Int.toNat v1910)]!.2.1)[(Int.toNat v2272)]!))]!.1) > r31[(Int.toNat v1910)]!)) = false then .bool (decide ((r42[(Int.toNat ((r16[(Int.toNat v1910)]!.2.1)[(Int.toNat v2272)]!))]! + r16[(Int.toNat ((r16[(Int.toNat v1910)]!.2.1)[(Int.toNat v2272)]!))]!.1) > r42[(Int.toNat v1910)]!)) else undef, fun w2436 hX2437 => od_guard (c := (decide ((r31[(Int.toNat ((r16[(Int.toNat v1910)]!.2.1)[(Int.toNat v2272)]!))]! + r16[(Int.toNat ((r16[(Int.toNat v1910)]!.2.1)[(Int.toNat v2272)]!))]!.1) > r31[(Int.toNat v1910)]!)) = false) (val := .bool (decide ((r42[(Int.toNat ((r16[(Int.toNat v1910)]!.2.1)[(Int.toNat v2272)]!))]! + r16[(Int.toNat ((r16[(Int.toNat v1910)]!.2.1)[(Int.toNat v2272)]!))]!.1) > r42[(Int.toNat v1910)]!))) (b := ((decide ((r31[(Int.toNat ((r16[(Int.toNat v1910)]!.2.1)[(Int.toNat v2272)]!))]! + r16[(Int.toNat ((r16[(Int.toNat v1910)]!.2.1)[(Int.toNat v2272)]!))]!.1) > r31[(Int.toNat v1910)]!)) == false)) (gv_some rfl rfl rfl) beq_iff_eq (fun hc2440 => ?_), ?_⟩
                  · have hS2438 := hS2293.ext hX2437
                    have hB2439 := hB2292.trans (Ext.stp hX2437 hS2293.base)
                    have hcq16 : ¬ ((r31[(Int.toNat ((r16[(Int.toNat v1910)]!.2.1)[(Int.toNat v2272)]!))]! + r16[(Int.toNat ((r16[(Int.toNat v1910)]!.2.1)[(Int.toNat v2272)]!))]!.1) > r31[(Int.toNat v1910)]!) := (i_neg decide_eq_true_iff hc2440)
                    exact is_ext (g_gtr (a := (r42[(Int.toNat ((r16[(Int.toNat v1910)]!.2.1)[(Int.toNat v2272)]!))]! + r16[(Int.toNat ((r16[(Int.toNat v1910)]!.2.1)[(Int.toNat v2272)]!))]!.1)) (b := r42[(Int.toNat v1910)]!) (if_pos hc2440) (if_pos hc2440))
                  refine ⟨.bool ((decide ((r31[(Int.toNat ((r16[(Int.toNat v1910)]!.2.1)[(Int.toNat v2272)]!))]! + r16[(Int.toNat ((r16[(Int.toNat v1910)]!.2.1)[(Int.toNat v2272)]!))]!.1) > r31[(Int.toNat v1910)]!)) || (decide ((r42[(Int.toNat ((r16[(Int.toNat v1910)]!.2.1)[(Int.toNat v2272)]!))]! + r16[(Int.toNat ((r16[(Int.toNat v1910)]!.2.1)[(Int.toNat v2272)]!))]!.1) > r42[(Int.toNat v1910)]!))), fun w2441 hX2442 => od_plain rfl (by have hS2443 := hS2293.ext hX2442; have hB2444 := hB2292.trans (Ext.stp hX2442 hS2293.base); exact is_ext (g_pick_or (b := (decide ((r31[(Int.toNat ((r16[(Int.toNat v1910)]!.2.1)[(Int.toNat v2272)]!))]! + r16[(Int.toNat ((r16[(Int.toNat v1910)]!.2.1)[(Int.toNat v2272)]!))]!.1) > r31[(Int.toNat v1910)]!))) (q := (decide ((r42[(Int.toNat ((r16[(Int.toNat v1910)]!.2.1)[(Int.toNat v2272)]!))]! + r16[(Int.toNat ((r16[(Int.toNat v1910)]!.2.1)[(Int.toNat v2272)]!))]!.1) > r42[(Int.toNat v1910)]!))) rfl rfl)), ?_⟩
                  intro w2445 hX2446
                  have hB2447 := hB2292.trans (Ext.stp hX2446 hS2293.base)
                  have hS2448 := hS2293.ext hX2446
                  refine hK2289 _ _ ?_
                  refine w_condI (p := (((r31[(Int.toNat ((r16[(Int.toNat v1910)]!.2.1)[(Int.toNat v2272)]!))]! + r16[(Int.toNat ((r16[(Int.toNat v1910)]!.2.1)[(Int.toNat v2272)]!))]!.1) > r31[(Int.toNat v1910)]!) ∨ ((r42[(Int.toNat ((r16[(Int.toNat v1910)]!.2.1)[(Int.toNat v2272)]!))]! + r16[(Int.toNat ((r16[(Int.toNat v1910)]!.2.1)[(Int.toNat v2272)]!))]!.1) > r42[(Int.toNat v1910)]!))) (b := ((decide ((r31[(Int.toNat ((r16[(Int.toNat v1910)]!.2.1)[(Int.toNat v2272)]!))]! + r16[(Int.toNat ((r16[(Int.toNat v1910)]!.2.1)[(Int.toNat v2272)]!))]!.1) > r31[(Int.toNat v1910)]!)) || (decide ((r42[(Int.toNat ((r16[(Int.toNat v1910)]!.2.1)[(Int.toNat v2272)]!))]! + r16[(Int.toNat ((r16[(Int.toNat v1910)]!.2.1)[(Int.toNat v2272)]!))]!.1) > r42[(Int.toNat v1910)]!)))) rfl (i_or decide_eq_true_iff decide_eq_true_iff) (fun h2449 => ?_) (fun h2449 => ?_)
                  · replace hm := hm.1 h2449
                    refine w_seq fun K2450 hK2450 => ?_
                    refine w_region ?_
                    refine wl_val (g_assign (v := .bool false) rfl) rfl ?_
                    refine wl_nil ?_
                    refine hK2450 _ _ ?_
                    refine w_ret ?_
                    repeat first | with_reducible refine q_then ?_ | with_reducible refine q_block ?_
                    exact ret1 rfl (by decide) ⟨_, hm, rfl, toExt hB2447⟩
                  · replace hm := hm.2 h2449
                    refine w_skip ?_
                    refine hK2285 _ _ ?_
                    refine w_region ?_
                    refine wl_val (g_move (v := .int .i64 v2272) rfl) rfl ?_
                    obtain ⟨hg2451, hm⟩ := hm
                    refine wl_val (g_add (a := v2272) (b := 1) rfl rfl hg2451) rfl ?_
                    refine wl_val (g_assign (v := .int .i64 (v2272 + 1)) rfl) rfl ?_
                    refine wl_nil ?_
                    exact ⟨((v2272 + 1)), hm.2, ⟨rfl, rfl, rfl, rfl, rfl, rfl, rfl, rfl, rfl, trivial⟩, ⟨hm.1, hB2447, hS2448⟩⟩
                · replace hm := hm.2 h2284
                  refine w_exit ?_
                  exact ⟨((v1908 + r2192), (max v1909 (r60[(Int.toNat v1910)]! + r16[(Int.toNat v1910)]!.1))), ⟨rfl, rfl, rfl, rfl, rfl, rfl, rfl, rfl, trivial⟩, ⟨hm, hB2278, hS2279⟩⟩
            · rintro ⟨v1928, v1929⟩ b_ w2452 ⟨hm, hB2453, hS2454⟩
              show Wp _ _ _ _ (upds b_ [(3, .slice a17 n18 c19), (4, .slice a32 n33 c34), (5, .slice a43 n44 c45), (6, .int .i64 r53), (7, .slice a61 n62 c63), (8, .int .i64 v1928), (9, .int .i64 v1929), (10, .int .i64 v1910)]) w2452
              refine w_region ?_
              refine wl_val (g_move (v := .int .i64 v1910) rfl) rfl ?_
              obtain ⟨hg2455, hm⟩ := hm
              refine wl_val (g_add (a := v1910) (b := 1) rfl rfl hg2455) rfl ?_
              refine wl_val (g_assign (v := .int .i64 (v1910 + 1)) rfl) rfl ?_
              refine wl_nil ?_
              exact ⟨(v1928, v1929, (v1910 + 1)), hm.2, ⟨rfl, rfl, rfl, rfl, rfl, rfl, rfl, rfl, trivial⟩, ⟨hm.1, hB2453, hS2454⟩⟩
          · replace hm := hm.2 h1927
            refine w_exit ?_
            have hS2456 := hS1923.f3
            have hS2457 := hS2456.tail
            have hS2458 := hS2457.f3
            have hS2459 := hS2458.tail
            exact ⟨(v1908, v1909), ⟨rfl, rfl, rfl, rfl, rfl, trivial⟩, ⟨hm, hB1922, hS2459⟩⟩
        · rintro ⟨v1904, v1905⟩ b_ w2460 ⟨hm, hB2461, hS2462⟩
          show Wp _ _ _ _ (upds b_ [(3, .slice a17 n18 c19), (4, .slice a32 n33 c34), (6, .int .i64 r53), (8, .int .i64 v1904), (9, .int .i64 v1905)]) w2460
          refine w_seq fun K2463 hK2463 => ?_
          refine w_region ?_
          refine wl_val (g_move (v := .slice a17 n18 c19) rfl) rfl ?_
          refine wl_val (g_move (v := .slice a32 n33 c34) rfl) rfl ?_
          refine wl_step rfl (g_call (vs := #[.slice a17 n18 c19, .slice a32 n33 c34]) CF43 (args2 rfl rfl) (m_impl_ClashesIn_fn (oT.vw hS2462.g0 hS2462.g1 he21) (oS.vw hS2462.g2) hm)) ?_
          rintro _ w2464 ⟨r2467, a2468, n2469, c2470, y2471, hm, he2472, rfl, hE2465, hN2466⟩
          have hS2476 := hS2462.call2 hE2465 hN2466
          have hB2477 := hB2461.trans (Ext.stp hE2465 hS2462.base)
          refine wl_val (g_assign (v := .slice a2468 n2469 c2470) rfl) rfl ?_
          refine wl_nil ?_
          refine hK2463 _ _ ?_
          refine w_seq fun K2478 hK2478 => ?_
          refine w_region ?_
          refine wl_val (g_move (v := .int .i64 v1904) rfl) rfl ?_
          refine wl_val (g_geq (a := v1904) (b := 1) rfl rfl) rfl ?_
          refine wl_val (g_move (v := .bool (decide (v1904 ≥ 1))) rfl) rfl ?_
          refine wl_guard (c := (decide (v1904 ≥ 1)) = true) (val := .int .i64 v1905) (b := ((decide (v1904 ≥ 1)) == true)) (gv_some rfl rfl rfl) beq_iff_eq (fun hc2479 => ?_) ?_
          · have hcq17 : v1904 ≥ 1 := (decide_eq_true_iff.mp hc2479)
            exact g_move (v := .int .i64 v1905) rfl
          refine wl_guard (c := (decide (v1904 ≥ 1)) = true) (val := .int .i64 r53) (b := ((decide (v1904 ≥ 1)) == true)) (gv_some rfl rfl rfl) beq_iff_eq (fun hc2480 => ?_) ?_
          · have hcq17 : v1904 ≥ 1 := (decide_eq_true_iff.mp hc2480)
            exact g_move (v := .int .i64 r53) rfl
          refine wl_guard (c := (decide (v1904 ≥ 1)) = true) (val := .bool (decide (v1905 ≥ r53))) (b := ((decide (v1904 ≥ 1)) == true)) (gv_some rfl rfl rfl) beq_iff_eq (fun hc2481 => ?_) ?_
          · have hcq17 : v1904 ≥ 1 := (decide_eq_true_iff.mp hc2481)
            exact g_geq (a := v1905) (b := r53) (if_pos hc2481) (if_pos hc2481)
          refine wl_val (g_pick_and (b := (decide (v1904 ≥ 1))) (q := (decide (v1905 ≥ r53))) rfl rfl) rfl ?_
          refine wl_val (g_move (v := .bool ((decide (v1904 ≥ 1)) && (decide (v1905 ≥ r53)))) rfl) rfl ?_
          refine wl_guard (c := ((decide (v1904 ≥ 1)) && (decide (v1905 ≥ r53))) = true) (val := .slice a17 n18 c19) (b := (((decide (v1904 ≥ 1)) && (decide (v1905 ≥ r53))) == true)) (gv_some rfl rfl rfl) beq_iff_eq (fun hc2482 => ?_) ?_
          · have hcq18 : ((v1904 ≥ 1) ∧ (v1905 ≥ r53)) := ((i_and decide_eq_true_iff decide_eq_true_iff).mp hc2482)
            exact g_move (v := .slice a17 n18 c19) rfl
          refine wl_guard (c := ((decide (v1904 ≥ 1)) && (decide (v1905 ≥ r53))) = true) (val := .slice a32 n33 c34) (b := (((decide (v1904 ≥ 1)) && (decide (v1905 ≥ r53))) == true)) (gv_some rfl rfl rfl) beq_iff_eq (fun hc2483 => ?_) ?_
          · have hcq18 : ((v1904 ≥ 1) ∧ (v1905 ≥ r53)) := ((i_and decide_eq_true_iff decide_eq_true_iff).mp hc2483)
            exact g_move (v := .slice a32 n33 c34) rfl
          obtain ⟨r2485, hk2486, hm⟩ := hm
          refine wl_guardE (X := Ext) (c := ((decide (v1904 ≥ 1)) && (decide (v1905 ≥ r53))) = true) (val := .bool r2485) (Ext.refl _) (b := (((decide (v1904 ≥ 1)) && (decide (v1905 ≥ r53))) == true)) (gv_some rfl rfl rfl) beq_iff_eq (fun hc2484 => ?_) (fun w2487 hE2488 => ?_)
          · have hcq18 : ((v1904 ≥ 1) ∧ (v1905 ≥ r53)) := ((i_and decide_eq_true_iff decide_eq_true_iff).mp hc2484)
            exact (g_call (vs := #[.slice a17 n18 c19, .slice a32 n33 c34]) CF42 (args2 (if_pos hc2484) (if_pos hc2484)) ((m_impl_IsPlan_fn (oT.vw hS2476.g2 hS2476.g3 he21) (oS.vw hS2476.g4) (hk2486 hcq18)).mono fun _ _ ⟨_, h1, h2, h3⟩ => ⟨by rw [h2, h1], h3⟩))
          have hB2489 := hB2477.trans (Ext.stp hE2488 hS2476.base)
          have hS2490 := hS2476.ext hE2488
          refine wl_guard (c := ((decide (v1904 ≥ 1)) && (decide (v1905 ≥ r53))) = true) (val := .slice a2468 n2469 c2470) (b := (((decide (v1904 ≥ 1)) && (decide (v1905 ≥ r53))) == true)) (gv_some rfl rfl rfl) beq_iff_eq (fun hc2491 => ?_) ?_
          · have hcq18 : ((v1904 ≥ 1) ∧ (v1905 ≥ r53)) := ((i_and decide_eq_true_iff decide_eq_true_iff).mp hc2491)
            exact g_move (v := .slice a2468 n2469 c2470) rfl
          refine wl_guard (c := ((decide (v1904 ≥ 1)) && (decide (v1905 ≥ r53))) = true) (val := .int .i64 (r2467.length : Int)) (b := (((decide (v1904 ≥ 1)) && (decide (v1905 ≥ r53))) == true)) (gv_some rfl rfl rfl) beq_iff_eq (fun hc2492 => ?_) ?_
          · have hcq18 : ((v1904 ≥ 1) ∧ (v1905 ≥ r53)) := ((i_and decide_eq_true_iff decide_eq_true_iff).mp hc2492)
            exact q_len SL44 (if_pos hc2492) (Tv.len (oT.vw hS2490.g0 hS2490.g1 he2472))
          refine wl_guard (c := ((decide (v1904 ≥ 1)) && (decide (v1905 ≥ r53))) = true) (val := .bool (decide ((r2467.length : Int) = 0))) (b := (((decide (v1904 ≥ 1)) && (decide (v1905 ≥ r53))) == true)) (gv_some rfl rfl rfl) beq_iff_eq (fun hc2493 => ?_) ?_
          · have hcq18 : ((v1904 ≥ 1) ∧ (v1905 ≥ r53)) := ((i_and decide_eq_true_iff decide_eq_true_iff).mp hc2493)
            exact g_eql (a := (r2467.length : Int)) (b := 0) (if_pos hc2493) rfl
          refine wl_guard (c := ((decide (v1904 ≥ 1)) && (decide (v1905 ≥ r53))) = true) (val := .bool (decide ((r2485) = (decide ((r2467.length : Int) = 0))))) (b := (((decide (v1904 ≥ 1)) && (decide (v1905 ≥ r53))) == true)) (gv_some rfl rfl rfl) beq_iff_eq (fun hc2494 => ?_) ?_
          · have hcq18 : ((v1904 ≥ 1) ∧ (v1905 ≥ r53)) := ((i_and decide_eq_true_iff decide_eq_true_iff).mp hc2494)
            exact g_eql_b (a := r2485) (b := (decide ((r2467.length : Int) = 0))) UB (if_pos hc2494) (if_pos hc2494)
          refine wl_val (g_pick_and (b := ((decide (v1904 ≥ 1)) && (decide (v1905 ≥ r53)))) (q := (decide ((r2485) = (decide ((r2467.length : Int) = 0))))) rfl rfl) rfl ?_
          refine wl_val (g_move (v := .bool (((decide (v1904 ≥ 1)) && (decide (v1905 ≥ r53))) && (decide ((r2485) = (decide ((r2467.length : Int) = 0)))))) rfl) rfl ?_
          refine wl_guard (c := (((decide (v1904 ≥ 1)) && (decide (v1905 ≥ r53))) && (decide ((r2485) = (decide ((r2467.length : Int) = 0))))) = true) (val := .int .i64 r53) (b := ((((decide (v1904 ≥ 1)) && (decide (v1905 ≥ r53))) && (decide ((r2485) = (decide ((r2467.length : Int) = 0))))) == true)) (gv_some rfl rfl rfl) beq_iff_eq (fun hc2495 => ?_) ?_
          · have hcq19 : ((((v1904 ≥ 1) ∧ (v1905 ≥ r53))) ∧ ((r2485) = (decide ((r2467.length : Int) = 0)))) := ((i_and (i_and decide_eq_true_iff decide_eq_true_iff) decide_eq_true_iff).mp hc2495)
            exact g_move (v := .int .i64 r53) rfl
          refine wl_guard (c := (((decide (v1904 ≥ 1)) && (decide (v1905 ≥ r53))) && (decide ((r2485) = (decide ((r2467.length : Int) = 0))))) = true) (val := .bool (decide (r53 ≥ 1))) (b := ((((decide (v1904 ≥ 1)) && (decide (v1905 ≥ r53))) && (decide ((r2485) = (decide ((r2467.length : Int) = 0))))) == true)) (gv_some rfl rfl rfl) beq_iff_eq (fun hc2496 => ?_) ?_
          · have hcq19 : ((((v1904 ≥ 1) ∧ (v1905 ≥ r53))) ∧ ((r2485) = (decide ((r2467.length : Int) = 0)))) := ((i_and (i_and decide_eq_true_iff decide_eq_true_iff) decide_eq_true_iff).mp hc2496)
            exact g_geq (a := r53) (b := 1) (if_pos hc2496) rfl
          refine wl_val (g_pick_and (b := (((decide (v1904 ≥ 1)) && (decide (v1905 ≥ r53))) && (decide ((r2485) = (decide ((r2467.length : Int) = 0)))))) (q := (decide (r53 ≥ 1))) rfl rfl) rfl ?_
          refine wl_val (g_assign (v := .bool ((((decide (v1904 ≥ 1)) && (decide (v1905 ≥ r53))) && (decide ((r2485) = (decide ((r2467.length : Int) = 0))))) && (decide (r53 ≥ 1)))) rfl) rfl ?_
          refine wl_nil ?_
          refine hK2478 _ _ ?_
          refine w_ret ?_
          repeat first | with_reducible refine q_then ?_ | with_reducible refine q_block ?_
          exact ret1 rfl (by decide) ⟨_, hm, rfl, toExt hB2489⟩
    · have hc89n := b_T hc89
      replace hm := hm.2 (fun hx => hx ((i_or (i_or (i_or decide_eq_true_iff decide_eq_true_iff) decide_eq_true_iff) (i_not Iff.rfl)).mp hc89n))
      refine wl_skipF (gv_F (gv_some rfl rfl rfl) hc89n) ?_
      refine wl_skipF (gv_F (gv_some rfl rfl rfl) hc89n) ?_
      refine wl_skipF (gv_F (gv_some rfl rfl rfl) hc89n) ?_
      refine wl_skipF (gv_F (gv_some rfl rfl rfl) hc89n) ?_
      refine wl_skipF (gv_F (gv_some rfl rfl rfl) hc89n) ?_
      refine wl_val (g_pickT (b := ((((decide ((r31.length : Int) ≠ (r16.length : Int))) || (decide ((r42.length : Int) ≠ (r16.length : Int)))) || (decide ((r60.length : Int) ≠ (r16.length : Int)))) || (!r82))) rfl hc89n rfl) rfl ?_
      refine wl_nil ?_
      refine hK68 _ _ ?_
      refine w_cond (b := true) rfl (fun _ => ?_) (fun h => by cases h)
      refine w_seq fun K2498 hK2498 => ?_
      refine w_region ?_
      refine wl_val (g_assign (v := .bool false) rfl) rfl ?_
      refine wl_nil ?_
      refine hK2498 _ _ ?_
      refine w_ret ?_
      repeat first | with_reducible refine q_then ?_ | with_reducible refine q_block ?_
      exact ret1 rfl (by decide) ⟨_, hm, rfl, toExt hB86⟩

end Go.Proofs.Ythmemoealgieaaa
