/- The walks: the code does what its model says. Printed by a program (gen2.py). No statement of the claim stands here. -/
import Derived.Test.YtddjkiefadiijaaFacts2
import Derived.Test.YtddjkiefadiijaaSop
import Derived.Test.YtddjkiefadiijaaFacts
import Derived.Test.YtddjkiefadiijaaMG
import Derived.Test.YtddjkiefadiijaaWG1
import Derived.Test.YtddjkiefadiijaaWG2
namespace Go.Proofs.Ytddjkiefadiijaa
open Go Go.RowKit
set_option maxRecDepth 100000
theorem m_laws_FnProofs_fn {w : World} {a0 : Option Addr} {n0 c0 : Nat} {p0 : List Byte} {Q : Bool → Prop} (hp0 : Vw w.heap.size w a0 n0 c0 p0) (hm : m_laws_FnProofs p0 Q) :
    Fn Try.prog 10 #[.slice a0 n0 c0] w (fun v w' => ∃ (r0 : Bool), Q r0 ∧ v = .bool r0 ∧ Ext w w') := by
  unfold m_laws_FnProofs at hm
  have hB0 := Below.refl w.heap.size w
  have hS0 : Sep w w.heap.size [] := Sep.nil (Nat.le_refl _)
  refine fn_of_wp Try.func10 rfl (by kernel_rfl) (Nat.le_of_ble_eq_true rfl) ?_
  refine w_seq fun K1 hK1 => ?_
  refine w_region ?_
  refine wl_val (g_assign (v := .bool false) rfl) rfl ?_
  refine wl_nil ?_
  refine hK1 _ _ ?_
  refine w_seq fun K2 hK2 => ?_
  refine w_seq fun K3 hK3 => ?_
  refine w_region ?_
  refine wl_val (g_move (v := .slice a0 n0 c0) rfl) rfl ?_
  refine wl_step rfl (g_call (vs := #[.slice a0 n0 c0]) CF37 (args1 rfl) (m_laws_big_fn ((hp0.bel hB0).up hS0) hm)) ?_
  rintro _ w4 ⟨r7, hm, rfl, hE5⟩
  have hB8 := hB0.trans (Ext.stp hE5 hS0.base)
  have hS9 := hS0.ext hE5
  refine wl_nil ?_
  refine hK3 _ _ ?_
  refine w_condI (p := r7 = true) (b := r7) rfl Iff.rfl (fun h10 => ?_) (fun h10 => ?_)
  · replace hm := hm.1 h10
    refine w_seq fun K11 hK11 => ?_
    refine w_region ?_
    refine wl_val (g_assign (v := .bool true) rfl) rfl ?_
    refine wl_nil ?_
    refine hK11 _ _ ?_
    refine w_ret ?_
    repeat first | with_reducible refine q_then ?_ | with_reducible refine q_block ?_
    exact ret1 rfl (by decide) ⟨_, hm, rfl, toExt hB8⟩
  · replace hm := hm.2 h10
    refine w_skip ?_
    refine hK2 _ _ ?_
    refine w_seq fun K12 hK12 => ?_
    refine w_region ?_
    refine wl_val (g_move (v := .slice a0 n0 c0) rfl) rfl ?_
    refine wl_step rfl (g_call (vs := #[.slice a0 n0 c0]) CF38 (args1 rfl) (m_spec_DrawPlayers_fn ((hp0.bel hB8).up hS9) hm)) ?_
    rintro _ w13 ⟨r16, a17, n18, c19, y20, r25, a26, n27, c28, hm, he21, rfl, hE14, hN15⟩
    have hS30 := hS9.call3 hE14 hN15
    have hB31 := hB8.trans (Ext.stp hE14 hS9.base)
    refine wl_val (g_move (v := .tuple #[.slice a17 n18 c19, .slice a26 n27 c28]) rfl) rfl ?_
    refine wl_val (g_extract (vs := #[.slice a17 n18 c19, .slice a26 n27 c28]) rfl rfl) rfl ?_
    refine wl_val (g_extract (vs := #[.slice a17 n18 c19, .slice a26 n27 c28]) rfl rfl) rfl ?_
    refine wl_val (g_assign (v := .slice a17 n18 c19) rfl) rfl ?_
    refine wl_val (g_assign (v := .slice a26 n27 c28) rfl) rfl ?_
    refine wl_nil ?_
    refine hK12 _ _ ?_
    refine w_seq fun K32 hK32 => ?_
    refine w_region ?_
    refine wl_val (g_move (v := .slice a17 n18 c19) rfl) rfl ?_
    refine wl_val (g_move (v := .slice a26 n27 c28) rfl) rfl ?_
    refine wl_step rfl (g_call (vs := #[.slice a17 n18 c19, .slice a26 n27 c28]) CF16 (args2 rfl rfl) (m_impl_FirstCasting_fn (oT.vw hS30.g0 hS30.g1 he21) (oS.vw hS30.g2) hm)) ?_
    rintro _ w33 ⟨r36, a37, n38, c39, r41, hm, rfl, hE34, hN35⟩
    have hS42 := hS30.call1 hE34 hN35
    have hB43 := hB31.trans (Ext.stp hE34 hS30.base)
    refine wl_val (g_move (v := .tuple #[.slice a37 n38 c39, .bool r41]) rfl) rfl ?_
    refine wl_val (g_extract (vs := #[.slice a37 n38 c39, .bool r41]) rfl rfl) rfl ?_
    refine wl_val (g_extract (vs := #[.slice a37 n38 c39, .bool r41]) rfl rfl) rfl ?_
    refine wl_val (g_assign (v := .slice a37 n38 c39) rfl) rfl ?_
    refine wl_val (g_assign (v := .bool r41) rfl) rfl ?_
    refine wl_nil ?_
    refine hK32 _ _ ?_
    refine w_seq fun K44 hK44 => ?_
    refine w_region ?_
    refine wl_val (g_move (v := .slice a17 n18 c19) rfl) rfl ?_
    refine wl_val (g_move (v := .slice a26 n27 c28) rfl) rfl ?_
    refine wl_step rfl (g_call (vs := #[.slice a17 n18 c19, .slice a26 n27 c28]) CF45 (args2 rfl rfl) (m_impl_ShortSet_fn (oT.vw hS42.g1 hS42.g2 he21) (oS.vw hS42.g3) hm)) ?_
    rintro _ w45 ⟨r48, a49, n50, c51, r53, hm, rfl, hE46, hN47⟩
    have hS54 := hS42.call1 hE46 hN47
    have hB55 := hB43.trans (Ext.stp hE46 hS42.base)
    refine wl_val (g_move (v := .tuple #[.slice a49 n50 c51, .bool r53]) rfl) rfl ?_
    refine wl_val (g_extract (vs := #[.slice a49 n50 c51, .bool r53]) rfl rfl) rfl ?_
    refine wl_val (g_extract (vs := #[.slice a49 n50 c51, .bool r53]) rfl rfl) rfl ?_
    refine wl_val (g_assign (v := .slice a49 n50 c51) rfl) rfl ?_
    refine wl_val (g_assign (v := .bool r53) rfl) rfl ?_
    refine wl_nil ?_
    refine hK44 _ _ ?_
    refine w_seq fun K56 hK56 => ?_
    refine w_region ?_
    refine wl_val (g_move (v := .slice a17 n18 c19) rfl) rfl ?_
    refine wl_val (g_move (v := .slice a26 n27 c28) rfl) rfl ?_
    refine wl_step rfl (g_call (vs := #[.slice a17 n18 c19, .slice a26 n27 c28]) CF23 (args2 rfl rfl) (m_impl_MostCast_fn (oT.vw hS54.g2 hS54.g3 he21) (oS.vw hS54.g4) hm)) ?_
    rintro _ w57 ⟨r60, hm, rfl, hE58⟩
    have hB61 := hB55.trans (Ext.stp hE58 hS54.base)
    have hS62 := hS54.ext hE58
    refine wl_val (g_assign (v := .int .i64 r60) rfl) rfl ?_
    refine wl_nil ?_
    refine hK56 _ _ ?_
    refine w_seq fun K63 hK63 => ?_
    refine w_region ?_
    refine wl_val (g_move (v := .slice a17 n18 c19) rfl) rfl ?_
    refine wl_val (g_move (v := .slice a26 n27 c28) rfl) rfl ?_
    refine wl_step rfl (g_call (vs := #[.slice a17 n18 c19, .slice a26 n27 c28]) CF46 (args2 rfl rfl) (m_impl_LackOf_fn (oT.vw hS62.g2 hS62.g3 he21) (oS.vw hS62.g4) hm)) ?_
    rintro _ w64 ⟨r67, hm, rfl, hE65⟩
    have hB68 := hB61.trans (Ext.stp hE65 hS62.base)
    have hS69 := hS62.ext hE65
    refine wl_val (g_assign (v := .int .i64 r67) rfl) rfl ?_
    refine wl_nil ?_
    refine hK63 _ _ ?_
    refine w_seq fun K70 hK70 => ?_
    refine w_seq fun K71 hK71 => ?_
    refine w_region ?_
    refine wl_val (g_move (v := .bool r53) rfl) rfl ?_
    refine wl_val (g_move (v := .bool r41) rfl) rfl ?_
    refine wl_val (g_eql_b (a := r53) (b := r41) UB rfl rfl) rfl ?_
    refine wl_val (g_move (v := .bool (decide ((r53) = (r41)))) rfl) rfl ?_
    refine wl_guard (c := (decide ((r53) = (r41))) = false) (val := .int .i64 r60) (b := ((decide ((r53) = (r41))) == false)) (gv_some rfl rfl rfl) beq_iff_eq (fun hc72 => ?_) ?_
    · have hcq0 : ¬ ((r53) = (r41)) := (i_neg decide_eq_true_iff hc72)
      exact g_move (v := .int .i64 r60) rfl
    refine wl_guard (c := (decide ((r53) = (r41))) = false) (val := .bool (decide (r60 < 0))) (b := ((decide ((r53) = (r41))) == false)) (gv_some rfl rfl rfl) beq_iff_eq (fun hc73 => ?_) ?_
    · have hcq0 : ¬ ((r53) = (r41)) := (i_neg decide_eq_true_iff hc73)
      exact g_lss (a := r60) (b := 0) (if_pos hc73) rfl
    refine wl_val (g_pick_or (b := (decide ((r53) = (r41)))) (q := (decide (r60 < 0))) rfl rfl) rfl ?_
    refine wl_val (g_move (v := .bool ((decide ((r53) = (r41))) || (decide (r60 < 0)))) rfl) rfl ?_
    refine wl_guard (c := ((decide ((r53) = (r41))) || (decide (r60 < 0))) = false) (val := .int .i64 r60) (b := (((decide ((r53) = (r41))) || (decide (r60 < 0))) == false)) (gv_some rfl rfl rfl) beq_iff_eq (fun hc74 => ?_) ?_
    · have hcq1 : ¬ ((((r53) = (r41)) ∨ (r60 < 0))) := (i_neg (i_or decide_eq_true_iff decide_eq_true_iff) hc74)
      exact g_move (v := .int .i64 r60) rfl
    refine wl_guard (c := ((decide ((r53) = (r41))) || (decide (r60 < 0))) = false) (val := .slice a26 n27 c28) (b := (((decide ((r53) = (r41))) || (decide (r60 < 0))) == false)) (gv_some rfl rfl rfl) beq_iff_eq (fun hc75 => ?_) ?_
    · have hcq1 : ¬ ((((r53) = (r41)) ∨ (r60 < 0))) := (i_neg (i_or decide_eq_true_iff decide_eq_true_iff) hc75)
      exact g_move (v := .slice a26 n27 c28) rfl
    refine wl_guard (c := ((decide ((r53) = (r41))) || (decide (r60 < 0))) = false) (val := .int .i64 (r25.length : Int)) (b := (((decide ((r53) = (r41))) || (decide (r60 < 0))) == false)) (gv_some rfl rfl rfl) beq_iff_eq (fun hc76 => ?_) ?_
    · have hcq1 : ¬ ((((r53) = (r41)) ∨ (r60 < 0))) := (i_neg (i_or decide_eq_true_iff decide_eq_true_iff) hc76)
      exact q_len SL23 (if_pos hc76) (Vw.len (oS.vw hS69.g4))
    refine wl_guard (c := ((decide ((r53) = (r41))) || (decide (r60 < 0))) = false) (val := .bool (decide (r60 > (r25.length : Int)))) (b := (((decide ((r53) = (r41))) || (decide (r60 < 0))) == false)) (gv_some rfl rfl rfl) beq_iff_eq (fun hc77 => ?_) ?_
    · have hcq1 : ¬ ((((r53) = (r41)) ∨ (r60 < 0))) := (i_neg (i_or decide_eq_true_iff decide_eq_true_iff) hc77)
      exact g_gtr (a := r60) (b := (r25.length : Int)) (if_pos hc77) (if_pos hc77)
    refine wl_val (g_pick_or (b := ((decide ((r53) = (r41))) || (decide (r60 < 0)))) (q := (decide (r60 > (r25.length : Int)))) rfl rfl) rfl ?_
    refine wl_val (g_move (v := .bool (((decide ((r53) = (r41))) || (decide (r60 < 0))) || (decide (r60 > (r25.length : Int))))) rfl) rfl ?_
    refine wl_guard (c := (((decide ((r53) = (r41))) || (decide (r60 < 0))) || (decide (r60 > (r25.length : Int)))) = false) (val := .int .i64 r67) (b := ((((decide ((r53) = (r41))) || (decide (r60 < 0))) || (decide (r60 > (r25.length : Int)))) == false)) (gv_some rfl rfl rfl) beq_iff_eq (fun hc78 => ?_) ?_
    · have hcq2 : ¬ ((((((r53) = (r41)) ∨ (r60 < 0))) ∨ (r60 > (r25.length : Int)))) := (i_neg (i_or (i_or decide_eq_true_iff decide_eq_true_iff) decide_eq_true_iff) hc78)
      exact g_move (v := .int .i64 r67) rfl
    refine wl_guard (c := (((decide ((r53) = (r41))) || (decide (r60 < 0))) || (decide (r60 > (r25.length : Int)))) = false) (val := .slice a26 n27 c28) (b := ((((decide ((r53) = (r41))) || (decide (r60 < 0))) || (decide (r60 > (r25.length : Int)))) == false)) (gv_some rfl rfl rfl) beq_iff_eq (fun hc79 => ?_) ?_
    · have hcq2 : ¬ ((((((r53) = (r41)) ∨ (r60 < 0))) ∨ (r60 > (r25.length : Int)))) := (i_neg (i_or (i_or decide_eq_true_iff decide_eq_true_iff) decide_eq_true_iff) hc79)
      exact g_move (v := .slice a26 n27 c28) rfl
    refine wl_guard (c := (((decide ((r53) = (r41))) || (decide (r60 < 0))) || (decide (r60 > (r25.length : Int)))) = false) (val := .int .i64 (r25.length : Int)) (b := ((((decide ((r53) = (r41))) || (decide (r60 < 0))) || (decide (r60 > (r25.length : Int)))) == false)) (gv_some rfl rfl rfl) beq_iff_eq (fun hc80 => ?_) ?_
    · have hcq2 : ¬ ((((((r53) = (r41)) ∨ (r60 < 0))) ∨ (r60 > (r25.length : Int)))) := (i_neg (i_or (i_or decide_eq_true_iff decide_eq_true_iff) decide_eq_true_iff) hc80)
      exact q_len SL23 (if_pos hc80) (Vw.len (oS.vw hS69.g4))
    refine wl_guard (c := (((decide ((r53) = (r41))) || (decide (r60 < 0))) || (decide (r60 > (r25.length : Int)))) = false) (val := .int .i64 r60) (b := ((((decide ((r53) = (r41))) || (decide (r60 < 0))) || (decide (r60 > (r25.length : Int)))) == false)) (gv_some rfl rfl rfl) beq_iff_eq (fun hc81 => ?_) ?_
    · have hcq2 : ¬ ((((((r53) = (r41)) ∨ (r60 < 0))) ∨ (r60 > (r25.length : Int)))) := (i_neg (i_or (i_or decide_eq_true_iff decide_eq_true_iff) decide_eq_true_iff) hc81)
      exact g_move (v := .int .i64 r60) rfl
    obtain ⟨hg83, hm⟩ := hm
    refine wl_guard (c := (((decide ((r53) = (r41))) || (decide (r60 < 0))) || (decide (r60 > (r25.length : Int)))) = false) (val := .int .i64 ((r25.length : Int) - r60)) (b := ((((decide ((r53) = (r41))) || (decide (r60 < 0))) || (decide (r60 > (r25.length : Int)))) == false)) (gv_some rfl rfl rfl) beq_iff_eq (fun hc82 => ?_) ?_
    · have hcq2 : ¬ ((((((r53) = (r41)) ∨ (r60 < 0))) ∨ (r60 > (r25.length : Int)))) := (i_neg (i_or (i_or decide_eq_true_iff decide_eq_true_iff) decide_eq_true_iff) hc82)
      exact g_sub (a := (r25.length : Int)) (b := r60) (if_pos hc82) (if_pos hc82) (hg83 hcq2)
    refine wl_guard (c := (((decide ((r53) = (r41))) || (decide (r60 < 0))) || (decide (r60 > (r25.length : Int)))) = false) (val := .bool (decide (r67 ≠ ((r25.length : Int) - r60)))) (b := ((((decide ((r53) = (r41))) || (decide (r60 < 0))) || (decide (r60 > (r25.length : Int)))) == false)) (gv_some rfl rfl rfl) beq_iff_eq (fun hc84 => ?_) ?_
    · have hcq2 : ¬ ((((((r53) = (r41)) ∨ (r60 < 0))) ∨ (r60 > (r25.length : Int)))) := (i_neg (i_or (i_or decide_eq_true_iff decide_eq_true_iff) decide_eq_true_iff) hc84)
      exact g_neq (a := r67) (b := ((r25.length : Int) - r60)) (if_pos hc84) (if_pos hc84)
    refine wl_val (g_pick_or (b := (((decide ((r53) = (r41))) || (decide (r60 < 0))) || (decide (r60 > (r25.length : Int))))) (q := (decide (r67 ≠ ((r25.length : Int) - r60)))) rfl rfl) rfl ?_
    refine wl_val (g_move (v := .bool ((((decide ((r53) = (r41))) || (decide (r60 < 0))) || (decide (r60 > (r25.length : Int)))) || (decide (r67 ≠ ((r25.length : Int) - r60))))) rfl) rfl ?_
    refine wl_guard (c := ((((decide ((r53) = (r41))) || (decide (r60 < 0))) || (decide (r60 > (r25.length : Int)))) || (decide (r67 ≠ ((r25.length : Int) - r60)))) = false) (val := .int .i64 r67) (b := (((((decide ((r53) = (r41))) || (decide (r60 < 0))) || (decide (r60 > (r25.length : Int)))) || (decide (r67 ≠ ((r25.length : Int) - r60)))) == false)) (gv_some rfl rfl rfl) beq_iff_eq (fun hc85 => ?_) ?_
    · have hcq3 : ¬ ((((((((r53) = (r41)) ∨ (r60 < 0))) ∨ (r60 > (r25.length : Int)))) ∨ (r67 ≠ ((r25.length : Int) - r60)))) := (i_neg (i_or (i_or (i_or decide_eq_true_iff decide_eq_true_iff) decide_eq_true_iff) decide_eq_true_iff) hc85)
      exact g_move (v := .int .i64 r67) rfl
    refine wl_guard (c := ((((decide ((r53) = (r41))) || (decide (r60 < 0))) || (decide (r60 > (r25.length : Int)))) || (decide (r67 ≠ ((r25.length : Int) - r60)))) = false) (val := .bool (decide (r67 = 0))) (b := (((((decide ((r53) = (r41))) || (decide (r60 < 0))) || (decide (r60 > (r25.length : Int)))) || (decide (r67 ≠ ((r25.length : Int) - r60)))) == false)) (gv_some rfl rfl rfl) beq_iff_eq (fun hc86 => ?_) ?_
    · have hcq3 : ¬ ((((((((r53) = (r41)) ∨ (r60 < 0))) ∨ (r60 > (r25.length : Int)))) ∨ (r67 ≠ ((r25.length : Int) - r60)))) := (i_neg (i_or (i_or (i_or decide_eq_true_iff decide_eq_true_iff) decide_eq_true_iff) decide_eq_true_iff) hc86)
      exact g_eql (a := r67) (b := 0) (if_pos hc86) rfl
    refine wl_guard (c := ((((decide ((r53) = (r41))) || (decide (r60 < 0))) || (decide (r60 > (r25.length : Int)))) || (decide (r67 ≠ ((r25.length : Int) - r60)))) = false) (val := .bool r41) (b := (((((decide ((r53) = (r41))) || (decide (r60 < 0))) || (decide (r60 > (r25.length : Int)))) || (decide (r67 ≠ ((r25.length : Int) - r60)))) == false)) (gv_some rfl rfl rfl) beq_iff_eq (fun hc87 => ?_) ?_
    · have hcq3 : ¬ ((((((((r53) = (r41)) ∨ (r60 < 0))) ∨ (r60 > (r25.length : Int)))) ∨ (r67 ≠ ((r25.length : Int) - r60)))) := (i_neg (i_or (i_or (i_or decide_eq_true_iff decide_eq_true_iff) decide_eq_true_iff) decide_eq_true_iff) hc87)
      exact g_move (v := .bool r41) rfl
    refine wl_guard (c := ((((decide ((r53) = (r41))) || (decide (r60 < 0))) || (decide (r60 > (r25.length : Int)))) || (decide (r67 ≠ ((r25.length : Int) - r60)))) = false) (val := .bool (decide ((decide (r67 = 0)) ≠ (r41)))) (b := (((((decide ((r53) = (r41))) || (decide (r60 < 0))) || (decide (r60 > (r25.length : Int)))) || (decide (r67 ≠ ((r25.length : Int) - r60)))) == false)) (gv_some rfl rfl rfl) beq_iff_eq (fun hc88 => ?_) ?_
    · have hcq3 : ¬ ((((((((r53) = (r41)) ∨ (r60 < 0))) ∨ (r60 > (r25.length : Int)))) ∨ (r67 ≠ ((r25.length : Int) - r60)))) := (i_neg (i_or (i_or (i_or decide_eq_true_iff decide_eq_true_iff) decide_eq_true_iff) decide_eq_true_iff) hc88)
      exact g_neq_b (a := (decide (r67 = 0))) (b := r41) UB (if_pos hc88) (if_pos hc88)
    refine wl_val (g_pick_or (b := ((((decide ((r53) = (r41))) || (decide (r60 < 0))) || (decide (r60 > (r25.length : Int)))) || (decide (r67 ≠ ((r25.length : Int) - r60))))) (q := (decide ((decide (r67 = 0)) ≠ (r41)))) rfl rfl) rfl ?_
    refine wl_val (g_move (v := .bool (((((decide ((r53) = (r41))) || (decide (r60 < 0))) || (decide (r60 > (r25.length : Int)))) || (decide (r67 ≠ ((r25.length : Int) - r60)))) || (decide ((decide (r67 = 0)) ≠ (r41))))) rfl) rfl ?_
    refine wl_guard (c := (((((decide ((r53) = (r41))) || (decide (r60 < 0))) || (decide (r60 > (r25.length : Int)))) || (decide (r67 ≠ ((r25.length : Int) - r60)))) || (decide ((decide (r67 = 0)) ≠ (r41)))) = false) (val := .bool r53) (b := ((((((decide ((r53) = (r41))) || (decide (r60 < 0))) || (decide (r60 > (r25.length : Int)))) || (decide (r67 ≠ ((r25.length : Int) - r60)))) || (decide ((decide (r67 = 0)) ≠ (r41)))) == false)) (gv_some rfl rfl rfl) beq_iff_eq (fun hc89 => ?_) ?_
    · have hcq4 : ¬ ((((((((((r53) = (r41)) ∨ (r60 < 0))) ∨ (r60 > (r25.length : Int)))) ∨ (r67 ≠ ((r25.length : Int) - r60)))) ∨ ((decide (r67 = 0)) ≠ (r41)))) := (i_neg (i_or (i_or (i_or (i_or decide_eq_true_iff decide_eq_true_iff) decide_eq_true_iff) decide_eq_true_iff) decide_eq_true_iff) hc89)
      exact g_move (v := .bool r53) rfl
    refine wl_guard (c := (((((decide ((r53) = (r41))) || (decide (r60 < 0))) || (decide (r60 > (r25.length : Int)))) || (decide (r67 ≠ ((r25.length : Int) - r60)))) || (decide ((decide (r67 = 0)) ≠ (r41)))) = false) (val := .bool r53) (b := ((((((decide ((r53) = (r41))) || (decide (r60 < 0))) || (decide (r60 > (r25.length : Int)))) || (decide (r67 ≠ ((r25.length : Int) - r60)))) || (decide ((decide (r67 = 0)) ≠ (r41)))) == false)) (gv_some rfl rfl rfl) beq_iff_eq (fun hc90 => ?_) ?_
    · have hcq4 : ¬ ((((((((((r53) = (r41)) ∨ (r60 < 0))) ∨ (r60 > (r25.length : Int)))) ∨ (r67 ≠ ((r25.length : Int) - r60)))) ∨ ((decide (r67 = 0)) ≠ (r41)))) := (i_neg (i_or (i_or (i_or (i_or decide_eq_true_iff decide_eq_true_iff) decide_eq_true_iff) decide_eq_true_iff) decide_eq_true_iff) hc90)
      exact g_move (v := .bool r53) (if_pos hc90)
    refine wl_guard (c := ((((((decide ((r53) = (r41))) || (decide (r60 < 0))) || (decide (r60 > (r25.length : Int)))) || (decide (r67 ≠ ((r25.length : Int) - r60)))) || (decide ((decide (r67 = 0)) ≠ (r41)))) = false) ∧ r53 = true) (val := .slice a17 n18 c19) (b := decide (((((((decide ((r53) = (r41))) || (decide (r60 < 0))) || (decide (r60 > (r25.length : Int)))) || (decide (r67 ≠ ((r25.length : Int) - r60)))) || (decide ((decide (r67 = 0)) ≠ (r41)))) = false) ∧ r53 = true)) (gv_gd rfl rfl rfl) decide_eq_true_iff (fun hc91 => ?_) ?_
    · have hcq5 : (¬ ((((((((((r53) = (r41)) ∨ (r60 < 0))) ∨ (r60 > (r25.length : Int)))) ∨ (r67 ≠ ((r25.length : Int) - r60)))) ∨ ((decide (r67 = 0)) ≠ (r41))))) ∧ (r53 = true) := ⟨(i_neg (i_or (i_or (i_or (i_or decide_eq_true_iff decide_eq_true_iff) decide_eq_true_iff) decide_eq_true_iff) decide_eq_true_iff) (hc91).1), Iff.rfl.mp (hc91).2⟩
      have hcq4 := (hcq5).1
      exact g_move (v := .slice a17 n18 c19) rfl
    refine wl_guard (c := ((((((decide ((r53) = (r41))) || (decide (r60 < 0))) || (decide (r60 > (r25.length : Int)))) || (decide (r67 ≠ ((r25.length : Int) - r60)))) || (decide ((decide (r67 = 0)) ≠ (r41)))) = false) ∧ r53 = true) (val := .slice a49 n50 c51) (b := decide (((((((decide ((r53) = (r41))) || (decide (r60 < 0))) || (decide (r60 > (r25.length : Int)))) || (decide (r67 ≠ ((r25.length : Int) - r60)))) || (decide ((decide (r67 = 0)) ≠ (r41)))) = false) ∧ r53 = true)) (gv_gd rfl rfl rfl) decide_eq_true_iff (fun hc92 => ?_) ?_
    · have hcq5 : (¬ ((((((((((r53) = (r41)) ∨ (r60 < 0))) ∨ (r60 > (r25.length : Int)))) ∨ (r67 ≠ ((r25.length : Int) - r60)))) ∨ ((decide (r67 = 0)) ≠ (r41))))) ∧ (r53 = true) := ⟨(i_neg (i_or (i_or (i_or (i_or decide_eq_true_iff decide_eq_true_iff) decide_eq_true_iff) decide_eq_true_iff) decide_eq_true_iff) (hc92).1), Iff.rfl.mp (hc92).2⟩
      have hcq4 := (hcq5).1
      exact g_move (v := .slice a49 n50 c51) rfl
    obtain ⟨r94, hk95, hm⟩ := hm
    refine wl_guardE (X := Ext) (c := ((((((decide ((r53) = (r41))) || (decide (r60 < 0))) || (decide (r60 > (r25.length : Int)))) || (decide (r67 ≠ ((r25.length : Int) - r60)))) || (decide ((decide (r67 = 0)) ≠ (r41)))) = false) ∧ r53 = true) (val := .bool r94) (Ext.refl _) (b := decide (((((((decide ((r53) = (r41))) || (decide (r60 < 0))) || (decide (r60 > (r25.length : Int)))) || (decide (r67 ≠ ((r25.length : Int) - r60)))) || (decide ((decide (r67 = 0)) ≠ (r41)))) = false) ∧ r53 = true)) (gv_gd rfl rfl rfl) decide_eq_true_iff (fun hc93 => ?_) (fun w96 hE97 => ?_)
    · have hcq5 : (¬ ((((((((((r53) = (r41)) ∨ (r60 < 0))) ∨ (r60 > (r25.length : Int)))) ∨ (r67 ≠ ((r25.length : Int) - r60)))) ∨ ((decide (r67 = 0)) ≠ (r41))))) ∧ (r53 = true) := ⟨(i_neg (i_or (i_or (i_or (i_or decide_eq_true_iff decide_eq_true_iff) decide_eq_true_iff) decide_eq_true_iff) decide_eq_true_iff) (hc93).1), Iff.rfl.mp (hc93).2⟩
      have hcq4 := (hcq5).1
      exact (g_call (vs := #[.slice a17 n18 c19, .slice a49 n50 c51]) CF47 (args2 (if_pos hc93) (if_pos hc93)) ((m_impl_IsShort_fn (oT.vw hS69.g2 hS69.g3 he21) (oS.vw hS69.g0) (hk95 hcq5)).mono fun _ _ ⟨_, h1, h2, h3⟩ => ⟨by rw [h2, h1], h3⟩))
    have hB98 := hB68.trans (Ext.stp hE97 hS69.base)
    have hS99 := hS69.ext hE97
    refine wl_guard (c := ((((((decide ((r53) = (r41))) || (decide (r60 < 0))) || (decide (r60 > (r25.length : Int)))) || (decide (r67 ≠ ((r25.length : Int) - r60)))) || (decide ((decide (r67 = 0)) ≠ (r41)))) = false) ∧ r53 = true) (val := .bool (!r94)) (b := decide (((((((decide ((r53) = (r41))) || (decide (r60 < 0))) || (decide (r60 > (r25.length : Int)))) || (decide (r67 ≠ ((r25.length : Int) - r60)))) || (decide ((decide (r67 = 0)) ≠ (r41)))) = false) ∧ r53 = true)) (gv_gd rfl rfl rfl) decide_eq_true_iff (fun hc100 => ?_) ?_
    · have hcq5 : (¬ ((((((((((r53) = (r41)) ∨ (r60 < 0))) ∨ (r60 > (r25.length : Int)))) ∨ (r67 ≠ ((r25.length : Int) - r60)))) ∨ ((decide (r67 = 0)) ≠ (r41))))) ∧ (r53 = true) := ⟨(i_neg (i_or (i_or (i_or (i_or decide_eq_true_iff decide_eq_true_iff) decide_eq_true_iff) decide_eq_true_iff) decide_eq_true_iff) (hc100).1), Iff.rfl.mp (hc100).2⟩
      have hcq4 := (hcq5).1
      exact g_not (a := r94) (if_pos hc100)
    refine wl_guard (c := (((((decide ((r53) = (r41))) || (decide (r60 < 0))) || (decide (r60 > (r25.length : Int)))) || (decide (r67 ≠ ((r25.length : Int) - r60)))) || (decide ((decide (r67 = 0)) ≠ (r41)))) = false) (val := .bool (r53 && (!r94))) (b := ((((((decide ((r53) = (r41))) || (decide (r60 < 0))) || (decide (r60 > (r25.length : Int)))) || (decide (r67 ≠ ((r25.length : Int) - r60)))) || (decide ((decide (r67 = 0)) ≠ (r41)))) == false)) (gv_some rfl rfl rfl) beq_iff_eq (fun hc101 => ?_) ?_
    · have hcq4 : ¬ ((((((((((r53) = (r41)) ∨ (r60 < 0))) ∨ (r60 > (r25.length : Int)))) ∨ (r67 ≠ ((r25.length : Int) - r60)))) ∨ ((decide (r67 = 0)) ≠ (r41)))) := (i_neg (i_or (i_or (i_or (i_or decide_eq_true_iff decide_eq_true_iff) decide_eq_true_iff) decide_eq_true_iff) decide_eq_true_iff) hc101)
      exact g_pick_and (b := r53) (q := (!r94)) (if_pos hc101) (gd_in hc101)
    refine wl_val (g_pick_or (b := (((((decide ((r53) = (r41))) || (decide (r60 < 0))) || (decide (r60 > (r25.length : Int)))) || (decide (r67 ≠ ((r25.length : Int) - r60)))) || (decide ((decide (r67 = 0)) ≠ (r41))))) (q := (r53 && (!r94))) rfl rfl) rfl ?_
    refine wl_nil ?_
    refine hK71 _ _ ?_
    refine w_condI (p := (((((((((((r53) = (r41)) ∨ (r60 < 0))) ∨ (r60 > (r25.length : Int)))) ∨ (r67 ≠ ((r25.length : Int) - r60)))) ∨ ((decide (r67 = 0)) ≠ (r41)))) ∨ (((r53 = true) ∧ (¬ (r94 = true)))))) (b := ((((((decide ((r53) = (r41))) || (decide (r60 < 0))) || (decide (r60 > (r25.length : Int)))) || (decide (r67 ≠ ((r25.length : Int) - r60)))) || (decide ((decide (r67 = 0)) ≠ (r41)))) || (r53 && (!r94)))) rfl (i_or (i_or (i_or (i_or (i_or decide_eq_true_iff decide_eq_true_iff) decide_eq_true_iff) decide_eq_true_iff) decide_eq_true_iff) (i_and Iff.rfl (i_not Iff.rfl))) (fun h102 => ?_) (fun h102 => ?_)
    · replace hm := hm.1 h102
      refine w_seq fun K103 hK103 => ?_
      refine w_region ?_
      refine wl_val (g_assign (v := .bool false) rfl) rfl ?_
      refine wl_nil ?_
      refine hK103 _ _ ?_
      refine w_ret ?_
      repeat first | with_reducible refine q_then ?_ | with_reducible refine q_block ?_
      exact ret1 rfl (by decide) ⟨_, hm, rfl, toExt hB98⟩
    · replace hm := hm.2 h102
      refine w_skip ?_
      refine hK70 _ _ ?_
      refine w_cut (σ := Unit) (fun _ => [(3, .slice a17 n18 c19), (4, .slice a26 n27 c28), (9, .int .i64 r60)]) (fun _ w' => m_laws_FnProofs_K0 r16 r25 r60 Q ∧ Below w.heap.size w w' ∧ Sep w' w.heap.size [oS 54 a17 n18 c19 (y20 : List PlayerD), oT 3 (y20 : List PlayerD), oS 3 a26 n27 c28 (r25 : List Int)]) ?_ ?_
      · refine w_seq fun K105 hK105 => ?_
        refine w_region ?_
        refine wl_val (g_assign (v := .int .i64 0) rfl) rfl ?_
        refine wl_nil ?_
        refine hK105 _ _ ?_
        refine w_block ?_
        have hS135 := hS99.f1
        have hS136 := hS135.tail
        have hS137 := hS136.f3
        have hS138 := hS137.f3
        have hS139 := hS138.f3
        obtain ⟨I140, μ141, h0142, hr143⟩ := hm
        refine w_for (σ := Int) (fun v134 => [(3, .slice a17 n18 c19), (4, .slice a26 n27 c28), (7, .slice a49 n50 c51), (9, .int .i64 r60), (11, .int .i64 v134)]) (fun v134 w' => I140 v134 ∧ Below w.heap.size w w' ∧ Sep w' w.heap.size [oS 54 a17 n18 c19 (y20 : List PlayerD), oT 3 (y20 : List PlayerD), oS 3 a26 n27 c28 (r25 : List Int), oS 3 a49 n50 c51 (r48 : List Int)]) (fun v134 => μ141 v134) (0) ⟨rfl, rfl, rfl, rfl, rfl, trivial⟩ ⟨h0142, hB98, hS139⟩ ?_
        rintro v134 b_ w144 ⟨hi_, hB145, hS146⟩
        show Wp _ _ _ _ (upds b_ [(3, .slice a17 n18 c19), (4, .slice a26 n27 c28), (7, .slice a49 n50 c51), (9, .int .i64 r60), (11, .int .i64 v134)]) w144
        have hm := hr143 v134 hi_
        refine w_seq fun K148 hK148 => ?_
        refine w_seq fun K149 hK149 => ?_
        refine w_region ?_
        refine wl_val (g_move (v := .int .i64 v134) rfl) rfl ?_
        refine wl_val (g_move (v := .slice a49 n50 c51) rfl) rfl ?_
        refine wl_val (q_len SL23 rfl (Vw.len (oS.vw hS146.g3))) rfl ?_
        refine wl_val (g_lss (a := v134) (b := (r48.length : Int)) rfl rfl) rfl ?_
        refine wl_nil ?_
        refine hK149 _ _ ?_
        refine w_condI (p := v134 < (r48.length : Int)) (b := (decide (v134 < (r48.length : Int)))) rfl decide_eq_true_iff (fun h150 => ?_) (fun h150 => ?_)
        · replace hm := hm.1 h150
          refine w_skip ?_
          refine hK148 _ _ ?_
          refine w_seq fun K151 hK151 => ?_
          refine w_block ?_
          refine w_seq fun K152 hK152 => ?_
          refine w_region ?_
          refine wl_val (g_move (v := .slice a26 n27 c28) rfl) rfl ?_
          refine wl_val (g_move (v := .slice a49 n50 c51) rfl) rfl ?_
          refine wl_val (g_move (v := .int .i64 v134) rfl) rfl ?_
          obtain ⟨hg153, hm⟩ := hm
          refine wl_val (q_index (i := v134) SL23 rfl rfl (oS.vw hS146.g3) hg153) rfl ?_
          refine wl_val (q_load (i := v134) (v := .int .i64 (r48[(Int.toNat v134)]!)) ON3 (oS.vw hS146.g3) hg153 rfl rfl) rfl ?_
          refine wl_step rfl (g_call (vs := #[.slice a26 n27 c28, .int .i64 (r48[(Int.toNat v134)]!)]) CF43 (args2 rfl rfl) (m_laws_has_fn (oS.vw hS146.g2) (r48[(Int.toNat v134)]!) hm)) ?_
          rintro _ w154 ⟨r157, hm, rfl, hE155⟩
          have hB158 := hB145.trans (Ext.stp hE155 hS146.base)
          have hS159 := hS146.ext hE155
          refine wl_val (g_not (a := r157) rfl) rfl ?_
          refine wl_nil ?_
          refine hK152 _ _ ?_
          refine w_condI (p := ¬ (r157 = true)) (b := (!r157)) rfl (i_not Iff.rfl) (fun h160 => ?_) (fun h160 => ?_)
          · replace hm := hm.1 h160
            refine w_seq fun K161 hK161 => ?_
            refine w_region ?_
            refine wl_val (g_assign (v := .bool false) rfl) rfl ?_
            refine wl_nil ?_
            refine hK161 _ _ ?_
            refine w_ret ?_
            repeat first | with_reducible refine q_then ?_ | with_reducible refine q_block ?_
            exact ret1 rfl (by decide) ⟨_, hm, rfl, toExt hB158⟩
          · replace hm := hm.2 h160
            refine w_skip ?_
            refine hK151 _ _ ?_
            refine w_region ?_
            refine wl_val (g_move (v := .int .i64 v134) rfl) rfl ?_
            obtain ⟨hg162, hm⟩ := hm
            refine wl_val (g_add (a := v134) (b := 1) rfl rfl hg162) rfl ?_
            refine wl_val (g_assign (v := .int .i64 (v134 + 1)) rfl) rfl ?_
            refine wl_nil ?_
            exact ⟨((v134 + 1)), hm.2, ⟨rfl, rfl, rfl, rfl, rfl, trivial⟩, ⟨hm.1, hB158, hS159⟩⟩
        · replace hm := hm.2 h150
          refine w_exit ?_
          have hS163 := hS146.f3
          have hS164 := hS163.tail
          exact ⟨(), ⟨rfl, rfl, rfl, trivial⟩, ⟨hm, hB145, hS164⟩⟩
      · rintro _ b_ w165 ⟨hm, hB166, hS167⟩
        show Wp _ _ _ _ (upds b_ [(3, .slice a17 n18 c19), (4, .slice a26 n27 c28), (9, .int .i64 r60)]) w165
        refine w_seq fun K168 hK168 => ?_
        refine w_region ?_
        refine wl_val (g_move (v := .slice a17 n18 c19) rfl) rfl ?_
        refine wl_val (g_move (v := .slice a26 n27 c28) rfl) rfl ?_
        refine wl_step rfl (g_call (vs := #[.slice a17 n18 c19, .slice a26 n27 c28]) CF48 (args2 rfl rfl) (m_impl_HandsFor_fn (oT.vw hS167.g0 hS167.g1 he21) (oS.vw hS167.g2) hm)) ?_
        rintro _ w169 ⟨r172, hm, rfl, hE170⟩
        have hB173 := hB166.trans (Ext.stp hE170 hS167.base)
        have hS174 := hS167.ext hE170
        refine wl_val (g_assign (v := .int .i64 r172) rfl) rfl ?_
        refine wl_nil ?_
        refine hK168 _ _ ?_
        refine w_seq fun K175 hK175 => ?_
        refine w_region ?_
        refine wl_val (g_move (v := .int .i64 r172) rfl) rfl ?_
        refine wl_val (g_geq (a := r172) (b := 0) rfl rfl) rfl ?_
        refine wl_val (g_move (v := .bool (decide (r172 ≥ 0))) rfl) rfl ?_
        refine wl_guard (c := (decide (r172 ≥ 0)) = true) (val := .int .i64 r172) (b := ((decide (r172 ≥ 0)) == true)) (gv_some rfl rfl rfl) beq_iff_eq (fun hc176 => ?_) ?_
        · have hcq6 : r172 ≥ 0 := (decide_eq_true_iff.mp hc176)
          exact g_move (v := .int .i64 r172) rfl
        refine wl_guard (c := (decide (r172 ≥ 0)) = true) (val := .slice a17 n18 c19) (b := ((decide (r172 ≥ 0)) == true)) (gv_some rfl rfl rfl) beq_iff_eq (fun hc177 => ?_) ?_
        · have hcq6 : r172 ≥ 0 := (decide_eq_true_iff.mp hc177)
          exact g_move (v := .slice a17 n18 c19) rfl
        obtain ⟨r179, hk180, hm⟩ := hm
        refine wl_guardE (X := Ext) (c := (decide (r172 ≥ 0)) = true) (val := .int .i64 r179) (Ext.refl _) (b := ((decide (r172 ≥ 0)) == true)) (gv_some rfl rfl rfl) beq_iff_eq (fun hc178 => ?_) (fun w181 hE182 => ?_)
        · have hcq6 : r172 ≥ 0 := (decide_eq_true_iff.mp hc178)
          exact (g_call (vs := #[.slice a17 n18 c19]) CF49 (args1 (if_pos hc178)) ((m_spec_HandsFree_fn (oT.vw hS174.g0 hS174.g1 he21) (hk180 hcq6)).mono fun _ _ ⟨_, h1, h2, h3⟩ => ⟨by rw [h2, h1], h3⟩))
        have hB183 := hB173.trans (Ext.stp hE182 hS174.base)
        have hS184 := hS174.ext hE182
        refine wl_guard (c := (decide (r172 ≥ 0)) = true) (val := .bool (decide (r172 ≤ r179))) (b := ((decide (r172 ≥ 0)) == true)) (gv_some rfl rfl rfl) beq_iff_eq (fun hc185 => ?_) ?_
        · have hcq6 : r172 ≥ 0 := (decide_eq_true_iff.mp hc185)
          exact g_leq (a := r172) (b := r179) (if_pos hc185) (if_pos hc185)
        refine wl_val (g_pick_and (b := (decide (r172 ≥ 0))) (q := (decide (r172 ≤ r179))) rfl rfl) rfl ?_
        refine wl_val (g_move (v := .bool ((decide (r172 ≥ 0)) && (decide (r172 ≤ r179)))) rfl) rfl ?_
        refine wl_guard (c := ((decide (r172 ≥ 0)) && (decide (r172 ≤ r179))) = true) (val := .int .i64 r60) (b := (((decide (r172 ≥ 0)) && (decide (r172 ≤ r179))) == true)) (gv_some rfl rfl rfl) beq_iff_eq (fun hc186 => ?_) ?_
        · have hcq7 : ((r172 ≥ 0) ∧ (r172 ≤ r179)) := ((i_and decide_eq_true_iff decide_eq_true_iff).mp hc186)
          exact g_move (v := .int .i64 r60) rfl
        refine wl_guard (c := ((decide (r172 ≥ 0)) && (decide (r172 ≤ r179))) = true) (val := .slice a17 n18 c19) (b := (((decide (r172 ≥ 0)) && (decide (r172 ≤ r179))) == true)) (gv_some rfl rfl rfl) beq_iff_eq (fun hc187 => ?_) ?_
        · have hcq7 : ((r172 ≥ 0) ∧ (r172 ≤ r179)) := ((i_and decide_eq_true_iff decide_eq_true_iff).mp hc187)
          exact g_move (v := .slice a17 n18 c19) rfl
        obtain ⟨r189, hk190, hm⟩ := hm
        refine wl_guardE (X := Ext) (c := ((decide (r172 ≥ 0)) && (decide (r172 ≤ r179))) = true) (val := .int .i64 r189) (Ext.refl _) (b := (((decide (r172 ≥ 0)) && (decide (r172 ≤ r179))) == true)) (gv_some rfl rfl rfl) beq_iff_eq (fun hc188 => ?_) (fun w191 hE192 => ?_)
        · have hcq7 : ((r172 ≥ 0) ∧ (r172 ≤ r179)) := ((i_and decide_eq_true_iff decide_eq_true_iff).mp hc188)
          exact (g_call (vs := #[.slice a17 n18 c19]) CF49 (args1 (if_pos hc188)) ((m_spec_HandsFree_fn (oT.vw hS184.g0 hS184.g1 he21) (hk190 hcq7)).mono fun _ _ ⟨_, h1, h2, h3⟩ => ⟨by rw [h2, h1], h3⟩))
        have hB193 := hB183.trans (Ext.stp hE192 hS184.base)
        have hS194 := hS184.ext hE192
        refine wl_guard (c := ((decide (r172 ≥ 0)) && (decide (r172 ≤ r179))) = true) (val := .bool (decide (r60 ≤ r189))) (b := (((decide (r172 ≥ 0)) && (decide (r172 ≤ r179))) == true)) (gv_some rfl rfl rfl) beq_iff_eq (fun hc195 => ?_) ?_
        · have hcq7 : ((r172 ≥ 0) ∧ (r172 ≤ r179)) := ((i_and decide_eq_true_iff decide_eq_true_iff).mp hc195)
          exact g_leq (a := r60) (b := r189) (if_pos hc195) (if_pos hc195)
        refine wl_val (g_pick_and (b := ((decide (r172 ≥ 0)) && (decide (r172 ≤ r179)))) (q := (decide (r60 ≤ r189))) rfl rfl) rfl ?_
        refine wl_val (g_move (v := .bool (((decide (r172 ≥ 0)) && (decide (r172 ≤ r179))) && (decide (r60 ≤ r189)))) rfl) rfl ?_
        refine wl_guard (c := (((decide (r172 ≥ 0)) && (decide (r172 ≤ r179))) && (decide (r60 ≤ r189))) = true) (val := .slice a17 n18 c19) (b := ((((decide (r172 ≥ 0)) && (decide (r172 ≤ r179))) && (decide (r60 ≤ r189))) == true)) (gv_some rfl rfl rfl) beq_iff_eq (fun hc196 => ?_) ?_
        · have hcq8 : ((((r172 ≥ 0) ∧ (r172 ≤ r179))) ∧ (r60 ≤ r189)) := ((i_and (i_and decide_eq_true_iff decide_eq_true_iff) decide_eq_true_iff).mp hc196)
          exact g_move (v := .slice a17 n18 c19) rfl
        refine wl_guard (c := (((decide (r172 ≥ 0)) && (decide (r172 ≤ r179))) && (decide (r60 ≤ r189))) = true) (val := .slice a26 n27 c28) (b := ((((decide (r172 ≥ 0)) && (decide (r172 ≤ r179))) && (decide (r60 ≤ r189))) == true)) (gv_some rfl rfl rfl) beq_iff_eq (fun hc197 => ?_) ?_
        · have hcq8 : ((((r172 ≥ 0) ∧ (r172 ≤ r179))) ∧ (r60 ≤ r189)) := ((i_and (i_and decide_eq_true_iff decide_eq_true_iff) decide_eq_true_iff).mp hc197)
          exact g_move (v := .slice a26 n27 c28) rfl
        obtain ⟨r199, hk200, hm⟩ := hm
        refine wl_guardE (X := Ext) (c := (((decide (r172 ≥ 0)) && (decide (r172 ≤ r179))) && (decide (r60 ≤ r189))) = true) (val := .bool r199) (Ext.refl _) (b := ((((decide (r172 ≥ 0)) && (decide (r172 ≤ r179))) && (decide (r60 ≤ r189))) == true)) (gv_some rfl rfl rfl) beq_iff_eq (fun hc198 => ?_) (fun w201 hE202 => ?_)
        · have hcq8 : ((((r172 ≥ 0) ∧ (r172 ≤ r179))) ∧ (r60 ≤ r189)) := ((i_and (i_and decide_eq_true_iff decide_eq_true_iff) decide_eq_true_iff).mp hc198)
          exact (g_call (vs := #[.slice a17 n18 c19, .slice a26 n27 c28]) CF47 (args2 (if_pos hc198) (if_pos hc198)) ((m_impl_IsShort_fn (oT.vw hS194.g0 hS194.g1 he21) (oS.vw hS194.g2) (hk200 hcq8)).mono fun _ _ ⟨_, h1, h2, h3⟩ => ⟨by rw [h2, h1], h3⟩))
        have hB203 := hB193.trans (Ext.stp hE202 hS194.base)
        have hS204 := hS194.ext hE202
        refine wl_guard (c := (((decide (r172 ≥ 0)) && (decide (r172 ≤ r179))) && (decide (r60 ≤ r189))) = true) (val := .int .i64 r172) (b := ((((decide (r172 ≥ 0)) && (decide (r172 ≤ r179))) && (decide (r60 ≤ r189))) == true)) (gv_some rfl rfl rfl) beq_iff_eq (fun hc205 => ?_) ?_
        · have hcq8 : ((((r172 ≥ 0) ∧ (r172 ≤ r179))) ∧ (r60 ≤ r189)) := ((i_and (i_and decide_eq_true_iff decide_eq_true_iff) decide_eq_true_iff).mp hc205)
          exact g_move (v := .int .i64 r172) rfl
        refine wl_guard (c := (((decide (r172 ≥ 0)) && (decide (r172 ≤ r179))) && (decide (r60 ≤ r189))) = true) (val := .slice a26 n27 c28) (b := ((((decide (r172 ≥ 0)) && (decide (r172 ≤ r179))) && (decide (r60 ≤ r189))) == true)) (gv_some rfl rfl rfl) beq_iff_eq (fun hc206 => ?_) ?_
        · have hcq8 : ((((r172 ≥ 0) ∧ (r172 ≤ r179))) ∧ (r60 ≤ r189)) := ((i_and (i_and decide_eq_true_iff decide_eq_true_iff) decide_eq_true_iff).mp hc206)
          exact g_move (v := .slice a26 n27 c28) rfl
        refine wl_guard (c := (((decide (r172 ≥ 0)) && (decide (r172 ≤ r179))) && (decide (r60 ≤ r189))) = true) (val := .int .i64 (r25.length : Int)) (b := ((((decide (r172 ≥ 0)) && (decide (r172 ≤ r179))) && (decide (r60 ≤ r189))) == true)) (gv_some rfl rfl rfl) beq_iff_eq (fun hc207 => ?_) ?_
        · have hcq8 : ((((r172 ≥ 0) ∧ (r172 ≤ r179))) ∧ (r60 ≤ r189)) := ((i_and (i_and decide_eq_true_iff decide_eq_true_iff) decide_eq_true_iff).mp hc207)
          exact q_len SL23 (if_pos hc207) (Vw.len (oS.vw hS204.g2))
        refine wl_guard (c := (((decide (r172 ≥ 0)) && (decide (r172 ≤ r179))) && (decide (r60 ≤ r189))) = true) (val := .bool (decide (r172 < (r25.length : Int)))) (b := ((((decide (r172 ≥ 0)) && (decide (r172 ≤ r179))) && (decide (r60 ≤ r189))) == true)) (gv_some rfl rfl rfl) beq_iff_eq (fun hc208 => ?_) ?_
        · have hcq8 : ((((r172 ≥ 0) ∧ (r172 ≤ r179))) ∧ (r60 ≤ r189)) := ((i_and (i_and decide_eq_true_iff decide_eq_true_iff) decide_eq_true_iff).mp hc208)
          exact g_lss (a := r172) (b := (r25.length : Int)) (if_pos hc208) (if_pos hc208)
        refine wl_guard (c := (((decide (r172 ≥ 0)) && (decide (r172 ≤ r179))) && (decide (r60 ≤ r189))) = true) (val := .bool (decide ((r199) = (decide (r172 < (r25.length : Int)))))) (b := ((((decide (r172 ≥ 0)) && (decide (r172 ≤ r179))) && (decide (r60 ≤ r189))) == true)) (gv_some rfl rfl rfl) beq_iff_eq (fun hc209 => ?_) ?_
        · have hcq8 : ((((r172 ≥ 0) ∧ (r172 ≤ r179))) ∧ (r60 ≤ r189)) := ((i_and (i_and decide_eq_true_iff decide_eq_true_iff) decide_eq_true_iff).mp hc209)
          exact g_eql_b (a := r199) (b := (decide (r172 < (r25.length : Int)))) UB (if_pos hc209) (if_pos hc209)
        refine wl_val (g_pick_and (b := (((decide (r172 ≥ 0)) && (decide (r172 ≤ r179))) && (decide (r60 ≤ r189)))) (q := (decide ((r199) = (decide (r172 < (r25.length : Int)))))) rfl rfl) rfl ?_
        refine wl_val (g_move (v := .bool ((((decide (r172 ≥ 0)) && (decide (r172 ≤ r179))) && (decide (r60 ≤ r189))) && (decide ((r199) = (decide (r172 < (r25.length : Int))))))) rfl) rfl ?_
        refine wl_guard (c := ((((decide (r172 ≥ 0)) && (decide (r172 ≤ r179))) && (decide (r60 ≤ r189))) && (decide ((r199) = (decide (r172 < (r25.length : Int)))))) = true) (val := .slice a17 n18 c19) (b := (((((decide (r172 ≥ 0)) && (decide (r172 ≤ r179))) && (decide (r60 ≤ r189))) && (decide ((r199) = (decide (r172 < (r25.length : Int)))))) == true)) (gv_some rfl rfl rfl) beq_iff_eq (fun hc210 => ?_) ?_
        · have hcq9 : ((((((r172 ≥ 0) ∧ (r172 ≤ r179))) ∧ (r60 ≤ r189))) ∧ ((r199) = (decide (r172 < (r25.length : Int))))) := ((i_and (i_and (i_and decide_eq_true_iff decide_eq_true_iff) decide_eq_true_iff) decide_eq_true_iff).mp hc210)
          exact g_move (v := .slice a17 n18 c19) rfl
        obtain ⟨r212, hk213, hm⟩ := hm
        refine wl_guardE (X := Ext) (c := ((((decide (r172 ≥ 0)) && (decide (r172 ≤ r179))) && (decide (r60 ≤ r189))) && (decide ((r199) = (decide (r172 < (r25.length : Int)))))) = true) (val := .int .i64 r212) (Ext.refl _) (b := (((((decide (r172 ≥ 0)) && (decide (r172 ≤ r179))) && (decide (r60 ≤ r189))) && (decide ((r199) = (decide (r172 < (r25.length : Int)))))) == true)) (gv_some rfl rfl rfl) beq_iff_eq (fun hc211 => ?_) (fun w214 hE215 => ?_)
        · have hcq9 : ((((((r172 ≥ 0) ∧ (r172 ≤ r179))) ∧ (r60 ≤ r189))) ∧ ((r199) = (decide (r172 < (r25.length : Int))))) := ((i_and (i_and (i_and decide_eq_true_iff decide_eq_true_iff) decide_eq_true_iff) decide_eq_true_iff).mp hc211)
          exact (g_call (vs := #[.slice a17 n18 c19, .slice none 0 0]) CF48 (args2 (if_pos hc211) rfl) ((m_impl_HandsFor_fn (oT.vw hS204.g0 hS204.g1 he21) (Vw.emp (α := Int)) (hk213 hcq9)).mono fun _ _ ⟨_, h1, h2, h3⟩ => ⟨by rw [h2, h1], h3⟩))
        have hB216 := hB203.trans (Ext.stp hE215 hS204.base)
        have hS217 := hS204.ext hE215
        refine wl_guard (c := ((((decide (r172 ≥ 0)) && (decide (r172 ≤ r179))) && (decide (r60 ≤ r189))) && (decide ((r199) = (decide (r172 < (r25.length : Int)))))) = true) (val := .bool (decide (r212 = 0))) (b := (((((decide (r172 ≥ 0)) && (decide (r172 ≤ r179))) && (decide (r60 ≤ r189))) && (decide ((r199) = (decide (r172 < (r25.length : Int)))))) == true)) (gv_some rfl rfl rfl) beq_iff_eq (fun hc218 => ?_) ?_
        · have hcq9 : ((((((r172 ≥ 0) ∧ (r172 ≤ r179))) ∧ (r60 ≤ r189))) ∧ ((r199) = (decide (r172 < (r25.length : Int))))) := ((i_and (i_and (i_and decide_eq_true_iff decide_eq_true_iff) decide_eq_true_iff) decide_eq_true_iff).mp hc218)
          exact g_eql (a := r212) (b := 0) (if_pos hc218) rfl
        refine wl_val (g_pick_and (b := ((((decide (r172 ≥ 0)) && (decide (r172 ≤ r179))) && (decide (r60 ≤ r189))) && (decide ((r199) = (decide (r172 < (r25.length : Int))))))) (q := (decide (r212 = 0))) rfl rfl) rfl ?_
        refine wl_val (g_assign (v := .bool (((((decide (r172 ≥ 0)) && (decide (r172 ≤ r179))) && (decide (r60 ≤ r189))) && (decide ((r199) = (decide (r172 < (r25.length : Int)))))) && (decide (r212 = 0)))) rfl) rfl ?_
        refine wl_nil ?_
        refine hK175 _ _ ?_
        refine w_ret ?_
        repeat first | with_reducible refine q_then ?_ | with_reducible refine q_block ?_
        exact ret1 rfl (by decide) ⟨_, hm, rfl, toExt hB216⟩

end Go.Proofs.Ytddjkiefadiijaa
