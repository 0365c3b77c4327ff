/- The walks: the code does what its model says. Printed by a program (gen2.py). No statement of the claim stands here. -/
import Derived.Test.YthmemoealgieaaaFacts2
import Derived.Test.YthmemoealgieaaaSop
import Derived.Test.YthmemoealgieaaaFacts
import Derived.Test.YthmemoealgieaaaMC
import Derived.Test.YthmemoealgieaaaWC1
import Derived.Test.YthmemoealgieaaaWC2
namespace Go.Proofs.Ythmemoealgieaaa
open Go Go.RowKit
set_option maxRecDepth 100000
theorem m_laws_FnCues_fn {w : World} {a0 : Option Addr} {n0 c0 : Nat} {p0 : List Byte} {Q : Bool → Prop} (hp0 : Vw w.heap.size w a0 n0 c0 p0) (hm : m_laws_FnCues p0 Q) :
    Fn Try.prog 4 #[.slice a0 n0 c0] w (fun v w' => ∃ (r0 : Bool), Q r0 ∧ v = .bool r0 ∧ Ext w w') := by
  unfold m_laws_FnCues at hm
  have hB0 := Below.refl w.heap.size w
  have hS0 : Sep w w.heap.size [] := Sep.nil (Nat.le_refl _)
  refine fn_of_wp Try.func4 rfl (by kernel_rfl) (Nat.le_of_ble_eq_true rfl) ?_
  refine w_seq fun K1 hK1 => ?_
  refine w_region ?_
  refine wl_val (g_assign (v := .bool false) rfl) rfl ?_
  refine wl_nil ?_
  refine hK1 _ _ ?_
  refine w_seq fun K2 hK2 => ?_
  refine w_seq fun K3 hK3 => ?_
  refine w_region ?_
  refine wl_val (g_move (v := .slice a0 n0 c0) rfl) rfl ?_
  refine wl_step rfl (g_call (vs := #[.slice a0 n0 c0]) CF26 (args1 rfl) (m_laws_big_fn ((hp0.bel hB0).up hS0) hm)) ?_
  rintro _ w4 ⟨r7, hm, rfl, hE5⟩
  have hB8 := hB0.trans (Ext.stp hE5 hS0.base)
  have hS9 := hS0.ext hE5
  refine wl_nil ?_
  refine hK3 _ _ ?_
  refine w_condI (p := r7 = true) (b := r7) rfl Iff.rfl (fun h10 => ?_) (fun h10 => ?_)
  · replace hm := hm.1 h10
    refine w_seq fun K11 hK11 => ?_
    refine w_region ?_
    refine wl_val (g_assign (v := .bool true) rfl) rfl ?_
    refine wl_nil ?_
    refine hK11 _ _ ?_
    refine w_ret ?_
    repeat first | with_reducible refine q_then ?_ | with_reducible refine q_block ?_
    exact ret1 rfl (by decide) ⟨_, hm, rfl, toExt hB8⟩
  · replace hm := hm.2 h10
    refine w_skip ?_
    refine hK2 _ _ ?_
    refine w_seq fun K12 hK12 => ?_
    refine w_region ?_
    refine wl_val (g_move (v := .slice a0 n0 c0) rfl) rfl ?_
    refine wl_step rfl (g_call (vs := #[.slice a0 n0 c0]) CF27 (args1 rfl) (m_spec_DrawCues_fn ((hp0.bel hB8).up hS9) hm)) ?_
    rintro _ w13 ⟨r16, a17, n18, c19, y20, hm, he21, rfl, hE14, hN15⟩
    have hS25 := hS9.call2 hE14 hN15
    have hB26 := hB8.trans (Ext.stp hE14 hS9.base)
    refine wl_val (g_assign (v := .slice a17 n18 c19) rfl) rfl ?_
    refine wl_nil ?_
    refine hK12 _ _ ?_
    refine w_seq fun K27 hK27 => ?_
    refine w_region ?_
    refine wl_val (g_move (v := .slice a17 n18 c19) rfl) rfl ?_
    refine wl_step rfl (g_call (vs := #[.slice a17 n18 c19]) CF28 (args1 rfl) (m_impl_CueOrder_fn (oT.vw hS25.g0 hS25.g1 he21) hm)) ?_
    rintro _ w28 ⟨r31, a32, n33, c34, hm, rfl, hE29, hN30⟩
    have hS36 := hS25.call1 hE29 hN30
    have hB37 := hB26.trans (Ext.stp hE29 hS25.base)
    refine wl_val (g_assign (v := .slice a32 n33 c34) rfl) rfl ?_
    refine wl_nil ?_
    refine hK27 _ _ ?_
    refine w_seq fun K38 hK38 => ?_
    refine w_region ?_
    refine wl_val (g_move (v := .slice a17 n18 c19) rfl) rfl ?_
    refine wl_val (q_len SL26 rfl (Tv.len (oT.vw hS36.g1 hS36.g2 he21))) rfl ?_
    refine wl_val (g_assign (v := .int .i64 (r16.length : Int)) rfl) rfl ?_
    refine wl_nil ?_
    refine hK38 _ _ ?_
    refine w_seq fun K39 hK39 => ?_
    refine w_seq fun K40 hK40 => ?_
    refine w_region ?_
    refine wl_val (g_move (v := .slice a17 n18 c19) rfl) rfl ?_
    refine wl_step rfl (g_call (vs := #[.slice a17 n18 c19]) CF29 (args1 rfl) (m_impl_CuesOk_fn (oT.vw hS36.g1 hS36.g2 he21) hm)) ?_
    rintro _ w41 ⟨r44, hm, rfl, hE42⟩
    have hB45 := hB37.trans (Ext.stp hE42 hS36.base)
    have hS46 := hS36.ext hE42
    refine wl_val (g_not (a := r44) rfl) rfl ?_
    refine wl_val (g_move (v := .bool (!r44)) rfl) rfl ?_
    refine wl_guard (c := (!r44) = false) (val := .slice a32 n33 c34) (b := ((!r44) == false)) (gv_some rfl rfl rfl) beq_iff_eq (fun hc47 => ?_) ?_
    · have hcq0 : ¬ (¬ (r44 = true)) := (i_neg (i_not Iff.rfl) hc47)
      exact g_move (v := .slice a32 n33 c34) rfl
    refine wl_guard (c := (!r44) = false) (val := .int .i64 (r31.length : Int)) (b := ((!r44) == false)) (gv_some rfl rfl rfl) beq_iff_eq (fun hc48 => ?_) ?_
    · have hcq0 : ¬ (¬ (r44 = true)) := (i_neg (i_not Iff.rfl) hc48)
      exact q_len SL24 (if_pos hc48) (Vw.len (oS.vw hS46.g0))
    refine wl_guard (c := (!r44) = false) (val := .int .i64 (r16.length : Int)) (b := ((!r44) == false)) (gv_some rfl rfl rfl) beq_iff_eq (fun hc49 => ?_) ?_
    · have hcq0 : ¬ (¬ (r44 = true)) := (i_neg (i_not Iff.rfl) hc49)
      exact g_move (v := .int .i64 (r16.length : Int)) rfl
    refine wl_guard (c := (!r44) = false) (val := .bool (decide ((r31.length : Int) ≠ (r16.length : Int)))) (b := ((!r44) == false)) (gv_some rfl rfl rfl) beq_iff_eq (fun hc50 => ?_) ?_
    · have hcq0 : ¬ (¬ (r44 = true)) := (i_neg (i_not Iff.rfl) hc50)
      exact g_neq (a := (r31.length : Int)) (b := (r16.length : Int)) (if_pos hc50) (if_pos hc50)
    refine wl_val (g_pick_or (b := (!r44)) (q := (decide ((r31.length : Int) ≠ (r16.length : Int)))) rfl rfl) rfl ?_
    refine wl_val (g_move (v := .bool ((!r44) || (decide ((r31.length : Int) ≠ (r16.length : Int))))) rfl) rfl ?_
    by_cases hc51 : ((!r44) || (decide ((r31.length : Int) ≠ (r16.length : Int)))) = false
    · replace hm := hm.1 (i_neg (i_or (i_not Iff.rfl) decide_eq_true_iff) hc51)
      refine wl_valT (g_move (v := .slice a17 n18 c19) rfl) (gv_T (gv_some rfl rfl rfl) hc51) ?_
      refine wl_stepT (gv_T (gv_some rfl rfl rfl) hc51) (g_call (vs := #[.slice a17 n18 c19]) CF20 (args1 rfl) (m_impl_CircleIn_fn (oT.vw hS46.g1 hS46.g2 he21) hm)) ?_
      rintro _ w52 ⟨r55, a56, n57, c58, hm, rfl, hE53, hN54⟩
      have hS60 := hS46.call1 hE53 hN54
      have hB61 := hB45.trans (Ext.stp hE53 hS46.base)
      refine wl_valT (q_len SL24 rfl (Vw.len (oS.vw hS60.g0))) (gv_T (gv_some rfl rfl rfl) hc51) ?_
      refine wl_valT (g_neq (a := (r55.length : Int)) (b := 0) rfl rfl) (gv_T (gv_some rfl rfl rfl) hc51) ?_
      refine wl_val (g_pickF (b := ((!r44) || (decide ((r31.length : Int) ≠ (r16.length : Int))))) rfl hc51 rfl) rfl ?_
      refine wl_nil ?_
      refine hK40 _ _ ?_
      refine w_condI (p := (r55.length : Int) ≠ 0) (b := (decide ((r55.length : Int) ≠ 0))) rfl decide_eq_true_iff (fun h62 => ?_) (fun h62 => ?_)
      · replace hm := hm.1 h62
        refine w_seq fun K63 hK63 => ?_
        refine w_region ?_
        refine wl_val (g_assign (v := .bool false) rfl) rfl ?_
        refine wl_nil ?_
        refine hK63 _ _ ?_
        refine w_ret ?_
        repeat first | with_reducible refine q_then ?_ | with_reducible refine q_block ?_
        exact ret1 rfl (by decide) ⟨_, hm, rfl, toExt hB61⟩
      · replace hm := hm.2 h62
        refine w_skip ?_
        refine hK39 _ _ ?_
        refine w_seq fun K64 hK64 => ?_
        refine w_region ?_
        refine wl_val (g_move (v := .int .i64 (r16.length : Int)) rfl) rfl ?_
        obtain ⟨hg65, hm⟩ := hm
        refine wl_step rfl (q_make (y := (0 : Int)) SL24 rfl rfl hg65.1 hg65.2 (by decide) hS60) ?_
        rintro _ w66 ⟨a67, rfl, hS69, hE68⟩
        have hB71 := hB61.trans (Ext.stp hE68 hS60.base)
        refine wl_val (g_assign (v := .slice a67 (Int.toNat (r16.length : Int)) (Int.toNat (r16.length : Int))) rfl) rfl ?_
        refine wl_nil ?_
        refine hK64 _ _ ?_
        refine w_seq fun K72 hK72 => ?_
        refine w_region ?_
        refine wl_val (g_assign (v := .int .i64 0) rfl) rfl ?_
        refine wl_nil ?_
        refine hK72 _ _ ?_
        refine w_cut (σ := List Int × Int) (fun ⟨x165, v166⟩ => [(3, .slice a17 n18 c19), (5, .int .i64 (r16.length : Int)), (6, .slice a67 (Int.toNat (r16.length : Int)) (Int.toNat (r16.length : Int))), (7, .int .i64 v166)]) (fun ⟨x165, v166⟩ w' => m_laws_FnCues_K4 r16 Q x165 v166 ∧ Below w.heap.size w w' ∧ Sep w' w.heap.size [oS 39 a17 n18 c19 (y20 : List CueD), oT 3 (y20 : List CueD), oS 3 a67 (Int.toNat (r16.length : Int)) (Int.toNat (r16.length : Int)) (x165 : List Int)]) ?_ ?_
        · refine w_seq fun K168 hK168 => ?_
          refine w_region ?_
          refine wl_val (g_assign (v := .int .i64 0) rfl) rfl ?_
          refine wl_nil ?_
          refine hK168 _ _ ?_
          refine w_block ?_
          have hS172 := hS69.f1
          have hS173 := hS172.tail
          have hS174 := hS173.f1
          have hS175 := hS174.f3
          have hS176 := hS175.f3
          obtain ⟨I177, μ178, h0179, hr180⟩ := hm
          refine w_for (σ := List Int × Int × Int) (fun ⟨x169, v170, v171⟩ => [(3, .slice a17 n18 c19), (4, .slice a32 n33 c34), (5, .int .i64 (r16.length : Int)), (6, .slice a67 (Int.toNat (r16.length : Int)) (Int.toNat (r16.length : Int))), (7, .int .i64 v170), (8, .int .i64 v171)]) (fun ⟨x169, v170, v171⟩ w' => I177 x169 v170 v171 ∧ Below w.heap.size w w' ∧ Sep w' w.heap.size [oS 39 a17 n18 c19 (y20 : List CueD), oT 3 (y20 : List CueD), oS 3 a32 n33 c34 (r31 : List Int), oS 3 a67 (Int.toNat (r16.length : Int)) (Int.toNat (r16.length : Int)) (x169 : List Int)]) (fun ⟨x169, v170, v171⟩ => μ178 x169 v170 v171) (List.replicate (Int.toNat (r16.length : Int)) (0 : Int), 0, 0) ⟨rfl, rfl, rfl, rfl, rfl, rfl, trivial⟩ ⟨h0179, hB71, hS176⟩ ?_
          rintro ⟨x169, v170, v171⟩ b_ w181 ⟨hi_, hB182, hS183⟩
          show Wp _ _ _ _ (upds b_ [(3, .slice a17 n18 c19), (4, .slice a32 n33 c34), (5, .int .i64 (r16.length : Int)), (6, .slice a67 (Int.toNat (r16.length : Int)) (Int.toNat (r16.length : Int))), (7, .int .i64 v170), (8, .int .i64 v171)]) w181
          have hm := hr180 x169 v170 v171 hi_
          refine w_seq fun K185 hK185 => ?_
          refine w_seq fun K186 hK186 => ?_
          refine w_region ?_
          refine wl_val (g_move (v := .int .i64 v171) rfl) rfl ?_
          refine wl_val (g_move (v := .int .i64 (r16.length : Int)) rfl) rfl ?_
          refine wl_val (g_lss (a := v171) (b := (r16.length : Int)) rfl rfl) rfl ?_
          refine wl_nil ?_
          refine hK186 _ _ ?_
          refine w_condI (p := v171 < (r16.length : Int)) (b := (decide (v171 < (r16.length : Int)))) rfl decide_eq_true_iff (fun h187 => ?_) (fun h187 => ?_)
          · replace hm := hm.1 h187
            refine w_skip ?_
            refine hK185 _ _ ?_
            refine w_seq fun K188 hK188 => ?_
            refine w_block ?_
            refine w_seq fun K189 hK189 => ?_
            refine w_seq fun K190 hK190 => ?_
            refine w_region ?_
            refine wl_val (g_move (v := .slice a32 n33 c34) rfl) rfl ?_
            refine wl_val (g_move (v := .int .i64 v171) rfl) rfl ?_
            obtain ⟨hg191, hm⟩ := hm
            refine wl_val (q_index (i := v171) SL24 rfl rfl (oS.vw hS183.g2) hg191) rfl ?_
            refine wl_val (q_load (i := v171) (v := .int .i64 (r31[(Int.toNat v171)]!)) ON3 (oS.vw hS183.g2) hg191 rfl rfl) rfl ?_
            refine wl_val (g_lss (a := r31[(Int.toNat v171)]!) (b := 0) rfl rfl) rfl ?_
            refine wl_val (g_move (v := .bool (decide (r31[(Int.toNat v171)]! < 0))) rfl) rfl ?_
            refine wl_guard (c := (decide (r31[(Int.toNat v171)]! < 0)) = false) (val := .slice a32 n33 c34) (b := ((decide (r31[(Int.toNat v171)]! < 0)) == false)) (gv_some rfl rfl rfl) beq_iff_eq (fun hc192 => ?_) ?_
            · have hcq3 : ¬ (r31[(Int.toNat v171)]! < 0) := (i_neg decide_eq_true_iff hc192)
              exact g_move (v := .slice a32 n33 c34) rfl
            refine wl_guard (c := (decide (r31[(Int.toNat v171)]! < 0)) = false) (val := .int .i64 v171) (b := ((decide (r31[(Int.toNat v171)]! < 0)) == false)) (gv_some rfl rfl rfl) beq_iff_eq (fun hc193 => ?_) ?_
            · have hcq3 : ¬ (r31[(Int.toNat v171)]! < 0) := (i_neg decide_eq_true_iff hc193)
              exact g_move (v := .int .i64 v171) rfl
            obtain ⟨hg195, hm⟩ := hm
            refine wl_guard (c := (decide (r31[(Int.toNat v171)]! < 0)) = false) (val := .pointer (some ((adr a32).add ((Int.toNat v171) * El.m Int)))) (b := ((decide (r31[(Int.toNat v171)]! < 0)) == false)) (gv_some rfl rfl rfl) beq_iff_eq (fun hc194 => ?_) ?_
            · have hcq3 : ¬ (r31[(Int.toNat v171)]! < 0) := (i_neg decide_eq_true_iff hc194)
              exact q_index (i := v171) SL24 (if_pos hc194) (if_pos hc194) (oS.vw hS183.g2) (hg195 hcq3)
            refine wl_guard (c := (decide (r31[(Int.toNat v171)]! < 0)) = false) (val := .int .i64 (r31[(Int.toNat v171)]!)) (b := ((decide (r31[(Int.toNat v171)]! < 0)) == false)) (gv_some rfl rfl rfl) beq_iff_eq (fun hc196 => ?_) ?_
            · have hcq3 : ¬ (r31[(Int.toNat v171)]! < 0) := (i_neg decide_eq_true_iff hc196)
              exact q_load (i := v171) (v := .int .i64 (r31[(Int.toNat v171)]!)) ON3 (oS.vw hS183.g2) (hg195 hcq3) rfl (if_pos hc196)
            refine wl_guard (c := (decide (r31[(Int.toNat v171)]! < 0)) = false) (val := .int .i64 (r16.length : Int)) (b := ((decide (r31[(Int.toNat v171)]! < 0)) == false)) (gv_some rfl rfl rfl) beq_iff_eq (fun hc197 => ?_) ?_
            · have hcq3 : ¬ (r31[(Int.toNat v171)]! < 0) := (i_neg decide_eq_true_iff hc197)
              exact g_move (v := .int .i64 (r16.length : Int)) rfl
            refine wl_guard (c := (decide (r31[(Int.toNat v171)]! < 0)) = false) (val := .bool (decide (r31[(Int.toNat v171)]! ≥ (r16.length : Int)))) (b := ((decide (r31[(Int.toNat v171)]! < 0)) == false)) (gv_some rfl rfl rfl) beq_iff_eq (fun hc198 => ?_) ?_
            · have hcq3 : ¬ (r31[(Int.toNat v171)]! < 0) := (i_neg decide_eq_true_iff hc198)
              exact g_geq (a := r31[(Int.toNat v171)]!) (b := (r16.length : Int)) (if_pos hc198) (if_pos hc198)
            refine wl_val (g_pick_or (b := (decide (r31[(Int.toNat v171)]! < 0))) (q := (decide (r31[(Int.toNat v171)]! ≥ (r16.length : Int)))) rfl rfl) rfl ?_
            refine wl_nil ?_
            refine hK190 _ _ ?_
            refine w_condI (p := ((r31[(Int.toNat v171)]! < 0) ∨ (r31[(Int.toNat v171)]! ≥ (r16.length : Int)))) (b := ((decide (r31[(Int.toNat v171)]! < 0)) || (decide (r31[(Int.toNat v171)]! ≥ (r16.length : Int))))) rfl (i_or decide_eq_true_iff decide_eq_true_iff) (fun h199 => ?_) (fun h199 => ?_)
            · replace hm := hm.1 h199
              refine w_seq fun K200 hK200 => ?_
              refine w_region ?_
              refine wl_val (g_assign (v := .bool false) rfl) rfl ?_
              refine wl_nil ?_
              refine hK200 _ _ ?_
              refine w_ret ?_
              repeat first | with_reducible refine q_then ?_ | with_reducible refine q_block ?_
              exact ret1 rfl (by decide) ⟨_, hm, rfl, toExt hB182⟩
            · replace hm := hm.2 h199
              refine w_skip ?_
              refine hK189 _ _ ?_
              refine w_seq fun K201 hK201 => ?_
              refine w_region ?_
              refine wl_val (g_move (v := .slice a67 (Int.toNat (r16.length : Int)) (Int.toNat (r16.length : Int))) rfl) rfl ?_
              refine wl_val (g_move (v := .slice a32 n33 c34) rfl) rfl ?_
              refine wl_val (g_move (v := .int .i64 v171) rfl) rfl ?_
              obtain ⟨hg202, hm⟩ := hm
              refine wl_val (q_index (i := v171) SL24 rfl rfl (oS.vw hS183.g2) hg202) rfl ?_
              refine wl_val (q_load (i := v171) (v := .int .i64 (r31[(Int.toNat v171)]!)) ON3 (oS.vw hS183.g2) hg202 rfl rfl) rfl ?_
              refine wl_val (g_move (v := .int .i64 v171) rfl) rfl ?_
              obtain ⟨hg203, hm⟩ := hm
              refine wl_val (q_index (i := r31[(Int.toNat v171)]!) SL24 rfl rfl (oS.vw hS183.g3) hg203) rfl ?_
              have hS207 := hS183.f3
              refine wl_step rfl (q_store (i := r31[(Int.toNat v171)]!) (v := (v171 : Int)) hS207 ON3.sz hg203 rfl rfl rfl) ?_
              rintro _ w204 ⟨rfl, hS205, hb206⟩
              have hB208 := hB182.trans hb206
              refine wl_nil ?_
              refine hK201 _ _ ?_
              refine w_region ?_
              refine wl_val (g_move (v := .int .i64 v170) rfl) rfl ?_
              refine wl_val (g_move (v := .slice a32 n33 c34) rfl) rfl ?_
              refine wl_val (g_move (v := .int .i64 v171) rfl) rfl ?_
              obtain ⟨hg209, hm⟩ := hm
              refine wl_val (q_index (i := v171) SL24 rfl rfl (oS.vw hS205.g3) hg209) rfl ?_
              refine wl_val (q_load (i := v171) (v := .int .i64 (r31[(Int.toNat v171)]!)) ON3 (oS.vw hS205.g3) hg209 rfl rfl) rfl ?_
              obtain ⟨hg210, hm⟩ := hm
              obtain ⟨hg211, hm⟩ := hm
              refine wl_val (g_shl (a := 1) (b := r31[(Int.toNat v171)]!) rfl rfl hg210 hg211) rfl ?_
              obtain ⟨hg212, hm⟩ := hm
              refine wl_val (g_bor (a := v170) (b := (sal 1 (r31[(Int.toNat v171)]!))) rfl rfl hg212) rfl ?_
              refine wl_val (g_assign (v := .int .i64 (bor v170 (sal 1 (r31[(Int.toNat v171)]!)))) rfl) rfl ?_
              refine wl_nil ?_
              refine hK188 _ _ ?_
              refine w_region ?_
              refine wl_val (g_move (v := .int .i64 v171) rfl) rfl ?_
              obtain ⟨hg213, hm⟩ := hm
              refine wl_val (g_add (a := v171) (b := 1) rfl rfl hg213) rfl ?_
              refine wl_val (g_assign (v := .int .i64 (v171 + 1)) rfl) rfl ?_
              refine wl_nil ?_
              have hS214 := hS205.f3
              have hS215 := hS214.f3
              have hS216 := hS215.f3
              exact ⟨((x169.set (Int.toNat (r31[(Int.toNat v171)]!)) v171), (bor v170 (sal 1 (r31[(Int.toNat v171)]!))), (v171 + 1)), hm.2, ⟨rfl, rfl, rfl, rfl, rfl, rfl, trivial⟩, ⟨hm.1, hB208, hS216⟩⟩
          · replace hm := hm.2 h187
            refine w_exit ?_
            have hS217 := hS183.f2
            have hS218 := hS217.tail
            exact ⟨(x169, v170), ⟨rfl, rfl, rfl, rfl, trivial⟩, ⟨hm, hB182, hS218⟩⟩
        · rintro ⟨x165, v166⟩ b_ w219 ⟨hm, hB220, hS221⟩
          show Wp _ _ _ _ (upds b_ [(3, .slice a17 n18 c19), (5, .int .i64 (r16.length : Int)), (6, .slice a67 (Int.toNat (r16.length : Int)) (Int.toNat (r16.length : Int))), (7, .int .i64 v166)]) w219
          refine w_seq fun K222 hK222 => ?_
          refine w_region ?_
          refine wl_val (g_move (v := .slice a17 n18 c19) rfl) rfl ?_
          refine wl_step rfl (g_call (vs := #[.slice a17 n18 c19]) CF30 (args1 rfl) (m_impl_FreeCues_fn (oT.vw hS221.g0 hS221.g1 he21) hm)) ?_
          rintro _ w223 ⟨r226, a227, n228, c229, hm, rfl, hE224, hN225⟩
          have hS231 := hS221.call1 hE224 hN225
          have hB232 := hB220.trans (Ext.stp hE224 hS221.base)
          refine wl_val (g_assign (v := .slice a227 n228 c229) rfl) rfl ?_
          refine wl_nil ?_
          refine hK222 _ _ ?_
          refine w_cut (σ := Unit) (fun _ => [(3, .slice a17 n18 c19), (5, .int .i64 (r16.length : Int)), (7, .int .i64 v166), (9, .slice a227 n228 c229)]) (fun _ w' => m_laws_FnCues_K3 r16 v166 r226 Q ∧ Below w.heap.size w w' ∧ Sep w' w.heap.size [oS 39 a17 n18 c19 (y20 : List CueD), oT 3 (y20 : List CueD), oS 3 a227 n228 c229 (r226 : List Int)]) ?_ ?_
          · refine w_seq fun K234 hK234 => ?_
            refine w_region ?_
            refine wl_val (g_assign (v := .int .i64 0) rfl) rfl ?_
            refine wl_nil ?_
            refine hK234 _ _ ?_
            refine w_block ?_
            have hS619 := hS231.f3
            have hS620 := hS619.f3
            have hS621 := hS620.f3
            obtain ⟨I622, μ623, h0624, hr625⟩ := hm
            refine w_for (σ := Int) (fun v618 => [(3, .slice a17 n18 c19), (5, .int .i64 (r16.length : Int)), (6, .slice a67 (Int.toNat (r16.length : Int)) (Int.toNat (r16.length : Int))), (7, .int .i64 v166), (9, .slice a227 n228 c229), (10, .int .i64 v618)]) (fun v618 w' => I622 v618 ∧ Below w.heap.size w w' ∧ Sep w' w.heap.size [oS 39 a17 n18 c19 (y20 : List CueD), oT 3 (y20 : List CueD), oS 3 a67 (Int.toNat (r16.length : Int)) (Int.toNat (r16.length : Int)) (x165 : List Int), oS 3 a227 n228 c229 (r226 : List Int)]) (fun v618 => μ623 v618) (0) ⟨rfl, rfl, rfl, rfl, rfl, rfl, trivial⟩ ⟨h0624, hB232, hS621⟩ ?_
            rintro v618 b_ w626 ⟨hi_, hB627, hS628⟩
            show Wp _ _ _ _ (upds b_ [(3, .slice a17 n18 c19), (5, .int .i64 (r16.length : Int)), (6, .slice a67 (Int.toNat (r16.length : Int)) (Int.toNat (r16.length : Int))), (7, .int .i64 v166), (9, .slice a227 n228 c229), (10, .int .i64 v618)]) w626
            have hm := hr625 v618 hi_
            refine w_seq fun K630 hK630 => ?_
            refine w_seq fun K631 hK631 => ?_
            refine w_region ?_
            refine wl_val (g_move (v := .int .i64 v618) rfl) rfl ?_
            refine wl_val (g_move (v := .int .i64 (r16.length : Int)) rfl) rfl ?_
            refine wl_val (g_lss (a := v618) (b := (r16.length : Int)) rfl rfl) rfl ?_
            refine wl_nil ?_
            refine hK631 _ _ ?_
            refine w_condI (p := v618 < (r16.length : Int)) (b := (decide (v618 < (r16.length : Int)))) rfl decide_eq_true_iff (fun h632 => ?_) (fun h632 => ?_)
            · replace hm := hm.1 h632
              refine w_skip ?_
              refine hK630 _ _ ?_
              refine w_cut (σ := Unit) (fun _ => [(3, .slice a17 n18 c19), (5, .int .i64 (r16.length : Int)), (6, .slice a67 (Int.toNat (r16.length : Int)) (Int.toNat (r16.length : Int))), (7, .int .i64 v166), (9, .slice a227 n228 c229), (10, .int .i64 v618)]) (fun _ w' => m_laws_FnCues_K2 v618 (fun v618' => I622 v618' ∧ μ623 v618' < μ623 v618) ∧ Below w.heap.size w w' ∧ Sep w' w.heap.size [oS 39 a17 n18 c19 (y20 : List CueD), oT 3 (y20 : List CueD), oS 3 a67 (Int.toNat (r16.length : Int)) (Int.toNat (r16.length : Int)) (x165 : List Int), oS 3 a227 n228 c229 (r226 : List Int)]) ?_ ?_
              · refine w_block ?_
                refine w_cut (σ := Unit) (fun _ => [(3, .slice a17 n18 c19), (5, .int .i64 (r16.length : Int)), (6, .slice a67 (Int.toNat (r16.length : Int)) (Int.toNat (r16.length : Int))), (7, .int .i64 v166), (9, .slice a227 n228 c229), (10, .int .i64 v618)]) (fun _ w' => m_laws_FnCues_K1 r16 r226 v618 Q (m_laws_FnCues_K2 v618 (fun v618' => I622 v618' ∧ μ623 v618' < μ623 v618)) ∧ Below w.heap.size w w' ∧ Sep w' w.heap.size [oS 39 a17 n18 c19 (y20 : List CueD), oT 3 (y20 : List CueD), oS 3 a67 (Int.toNat (r16.length : Int)) (Int.toNat (r16.length : Int)) (x165 : List Int), oS 3 a227 n228 c229 (r226 : List Int)]) ?_ ?_
                · refine w_seq fun K635 hK635 => ?_
                  refine w_region ?_
                  refine wl_val (g_assign (v := .int .i64 0) rfl) rfl ?_
                  refine wl_nil ?_
                  refine hK635 _ _ ?_
                  refine w_block ?_
                  obtain ⟨I637, μ638, h0639, hr640⟩ := hm
                  refine w_for (σ := Int) (fun v636 => [(3, .slice a17 n18 c19), (5, .int .i64 (r16.length : Int)), (6, .slice a67 (Int.toNat (r16.length : Int)) (Int.toNat (r16.length : Int))), (7, .int .i64 v166), (9, .slice a227 n228 c229), (10, .int .i64 v618), (11, .int .i64 v636)]) (fun v636 w' => I637 v636 ∧ Below w.heap.size w w' ∧ Sep w' w.heap.size [oS 39 a17 n18 c19 (y20 : List CueD), oT 3 (y20 : List CueD), oS 3 a67 (Int.toNat (r16.length : Int)) (Int.toNat (r16.length : Int)) (x165 : List Int), oS 3 a227 n228 c229 (r226 : List Int)]) (fun v636 => μ638 v636) (0) ⟨rfl, rfl, rfl, rfl, rfl, rfl, rfl, trivial⟩ ⟨h0639, hB627, hS628⟩ ?_
                  rintro v636 b_ w641 ⟨hi_, hB642, hS643⟩
                  show Wp _ _ _ _ (upds b_ [(3, .slice a17 n18 c19), (5, .int .i64 (r16.length : Int)), (6, .slice a67 (Int.toNat (r16.length : Int)) (Int.toNat (r16.length : Int))), (7, .int .i64 v166), (9, .slice a227 n228 c229), (10, .int .i64 v618), (11, .int .i64 v636)]) w641
                  have hm := hr640 v636 hi_
                  refine w_seq fun K645 hK645 => ?_
                  refine w_seq fun K646 hK646 => ?_
                  refine w_region ?_
                  refine wl_val (g_move (v := .int .i64 v636) rfl) rfl ?_
                  refine wl_val (g_move (v := .int .i64 (r16.length : Int)) rfl) rfl ?_
                  refine wl_val (g_lss (a := v636) (b := (r16.length : Int)) rfl rfl) rfl ?_
                  refine wl_nil ?_
                  refine hK646 _ _ ?_
                  refine w_condI (p := v636 < (r16.length : Int)) (b := (decide (v636 < (r16.length : Int)))) rfl decide_eq_true_iff (fun h647 => ?_) (fun h647 => ?_)
                  · replace hm := hm.1 h647
                    refine w_skip ?_
                    refine hK645 _ _ ?_
                    refine w_seq fun K648 hK648 => ?_
                    refine w_block ?_
                    refine w_seq fun K649 hK649 => ?_
                    refine w_region ?_
                    refine wl_val (g_move (v := .slice a17 n18 c19) rfl) rfl ?_
                    refine wl_val (g_move (v := .int .i64 v618) rfl) rfl ?_
                    refine wl_val (g_move (v := .int .i64 v636) rfl) rfl ?_
                    refine wl_step rfl (g_call (vs := #[.slice a17 n18 c19, .int .i64 v618, .int .i64 v636]) CF31 (args3 rfl rfl rfl) (m_impl_WaitsFor_fn (oT.vw hS643.g0 hS643.g1 he21) v618 v636 hm)) ?_
                    rintro _ w650 ⟨r653, hm, rfl, hE651⟩
                    have hB654 := hB642.trans (Ext.stp hE651 hS643.base)
                    have hS655 := hS643.ext hE651
                    refine wl_val (g_assign (v := .bool r653) rfl) rfl ?_
                    refine wl_nil ?_
                    refine hK649 _ _ ?_
                    refine w_seq fun K656 hK656 => ?_
                    refine w_draw (X := Ext) (Y := Ext) [] MIX (by decide +kernel) rfl Ext.refl (fun _ _ _ => Ext.trans) (fun _ _ _ => Chg.trans) (fun _ _ h => Ext.chg h _) (fun w657 hE658 => ?_)
                    have hB659 := hB654.trans (Ext.stp hE658 hS655.base)
                    have hS660 := hS655.ext hE658
                    refine ⟨.bool r653, fun w661 hX662 => od_plain rfl (by have hS663 := hS660.ext hX662; have hB664 := hB659.trans (Ext.stp hX662 hS660.base); exact is_ext (g_move (v := .bool r653) rfl)), ?_⟩
                    refine ⟨.bool r653, fun w665 hX666 => od_plain rfl (by have hS667 := hS660.ext hX666; have hB668 := hB659.trans (Ext.stp hX666 hS660.base); exact is_ext (g_move (v := .bool r653) rfl)), ?_⟩
                    refine ⟨if r653 = true then .slice a67 (Int.toNat (r16.length : Int)) (Int.toNat (r16.length : Int)) else undef, fun w669 hX670 => od_guard (c := r653 = true) (val := .slice a67 (Int.toNat (r16.length : Int)) (Int.toNat (r16.length : Int))) (b := (r653 == true)) (gv_some rfl rfl rfl) beq_iff_eq (fun hc673 => ?_), ?_⟩
                    · have hS671 := hS660.ext hX670
                      have hB672 := hB659.trans (Ext.stp hX670 hS660.base)
                      have hcq8 : r653 = true := (Iff.rfl.mp hc673)
                      exact is_ext (g_move (v := .slice a67 (Int.toNat (r16.length : Int)) (Int.toNat (r16.length : Int))) rfl)
                    refine ⟨if r653 = true then .int .i64 v636 else undef, fun w674 hX675 => od_guard (c := r653 = true) (val := .int .i64 v636) (b := (r653 == true)) (gv_some rfl rfl rfl) beq_iff_eq (fun hc678 => ?_), ?_⟩
                    · have hS676 := hS660.ext hX675
                      have hB677 := hB659.trans (Ext.stp hX675 hS660.base)
                      have hcq8 : r653 = true := (Iff.rfl.mp hc678)
                      exact is_ext (g_move (v := .int .i64 v636) rfl)
                    obtain ⟨hg684, hm⟩ := hm
                    refine ⟨if r653 = true then .pointer (some ((adr a67).add ((Int.toNat v636) * El.m Int))) else undef, fun w679 hX680 => od_guard (c := r653 = true) (val := .pointer (some ((adr a67).add ((Int.toNat v636) * El.m Int)))) (b := (r653 == true)) (gv_some rfl rfl rfl) beq_iff_eq (fun hc683 => ?_), ?_⟩
                    · have hS681 := hS660.ext hX680
                      have hB682 := hB659.trans (Ext.stp hX680 hS660.base)
                      have hcq8 : r653 = true := (Iff.rfl.mp hc683)
                      exact is_ext (q_index (i := v636) SL24 (if_pos hc683) (if_pos hc683) (oS.vw hS681.g2) (hg684 hcq8))
                    refine ⟨if r653 = true then .int .i64 (x165[(Int.toNat v636)]!) else undef, fun w685 hX686 => od_guard (c := r653 = true) (val := .int .i64 (x165[(Int.toNat v636)]!)) (b := (r653 == true)) (gv_some rfl rfl rfl) beq_iff_eq (fun hc689 => ?_), ?_⟩
                    · have hS687 := hS660.ext hX686
                      have hB688 := hB659.trans (Ext.stp hX686 hS660.base)
                      have hcq8 : r653 = true := (Iff.rfl.mp hc689)
                      exact is_ext (q_load (i := v636) (v := .int .i64 (x165[(Int.toNat v636)]!)) ON3 (oS.vw hS687.g2) (hg684 hcq8) rfl (if_pos hc689))
                    refine ⟨if r653 = true then .slice a67 (Int.toNat (r16.length : Int)) (Int.toNat (r16.length : Int)) else undef, fun w690 hX691 => od_guard (c := r653 = true) (val := .slice a67 (Int.toNat (r16.length : Int)) (Int.toNat (r16.length : Int))) (b := (r653 == true)) (gv_some rfl rfl rfl) beq_iff_eq (fun hc694 => ?_), ?_⟩
                    · have hS692 := hS660.ext hX691
                      have hB693 := hB659.trans (Ext.stp hX691 hS660.base)
                      have hcq8 : r653 = true := (Iff.rfl.mp hc694)
                      exact is_ext (g_move (v := .slice a67 (Int.toNat (r16.length : Int)) (Int.toNat (r16.length : Int))) rfl)
                    refine ⟨if r653 = true then .int .i64 v618 else undef, fun w695 hX696 => od_guard (c := r653 = true) (val := .int .i64 v618) (b := (r653 == true)) (gv_some rfl rfl rfl) beq_iff_eq (fun hc699 => ?_), ?_⟩
                    · have hS697 := hS660.ext hX696
                      have hB698 := hB659.trans (Ext.stp hX696 hS660.base)
                      have hcq8 : r653 = true := (Iff.rfl.mp hc699)
                      exact is_ext (g_move (v := .int .i64 v618) rfl)
                    obtain ⟨hg705, hm⟩ := hm
                    refine ⟨if r653 = true then .pointer (some ((adr a67).add ((Int.toNat v618) * El.m Int))) else undef, fun w700 hX701 => od_guard (c := r653 = true) (val := .pointer (some ((adr a67).add ((Int.toNat v618) * El.m Int)))) (b := (r653 == true)) (gv_some rfl rfl rfl) beq_iff_eq (fun hc704 => ?_), ?_⟩
                    · have hS702 := hS660.ext hX701
                      have hB703 := hB659.trans (Ext.stp hX701 hS660.base)
                      have hcq8 : r653 = true := (Iff.rfl.mp hc704)
                      exact is_ext (q_index (i := v618) SL24 (if_pos hc704) (if_pos hc704) (oS.vw hS702.g2) (hg705 hcq8))
                    refine ⟨if r653 = true then .int .i64 (x165[(Int.toNat v618)]!) else undef, fun w706 hX707 => od_guard (c := r653 = true) (val := .int .i64 (x165[(Int.toNat v618)]!)) (b := (r653 == true)) (gv_some rfl rfl rfl) beq_iff_eq (fun hc710 => ?_), ?_⟩
                    · have hS708 := hS660.ext hX707
                      have hB709 := hB659.trans (Ext.stp hX707 hS660.base)
                      have hcq8 : r653 = true := (Iff.rfl.mp hc710)
                      exact is_ext (q_load (i := v618) (v := .int .i64 (x165[(Int.toNat v618)]!)) ON3 (oS.vw hS708.g2) (hg705 hcq8) rfl (if_pos hc710))
                    refine ⟨if r653 = true then .bool (decide (x165[(Int.toNat v636)]! ≥ x165[(Int.toNat v618)]!)) else undef, fun w711 hX712 => od_guard (c := r653 = true) (val := .bool (decide (x165[(Int.toNat v636)]! ≥ x165[(Int.toNat v618)]!))) (b := (r653 == true)) (gv_some rfl rfl rfl) beq_iff_eq (fun hc715 => ?_), ?_⟩
                    · have hS713 := hS660.ext hX712
                      have hB714 := hB659.trans (Ext.stp hX712 hS660.base)
                      have hcq8 : r653 = true := (Iff.rfl.mp hc715)
                      exact is_ext (g_geq (a := x165[(Int.toNat v636)]!) (b := x165[(Int.toNat v618)]!) (if_pos hc715) (if_pos hc715))
                    refine ⟨if r653 = true then .bool (decide (x165[(Int.toNat v636)]! ≥ x165[(Int.toNat v618)]!)) else undef, fun w716 hX717 => od_guard (c := r653 = true) (val := .bool (decide (x165[(Int.toNat v636)]! ≥ x165[(Int.toNat v618)]!))) (b := (r653 == true)) (gv_some rfl rfl rfl) beq_iff_eq (fun hc720 => ?_), ?_⟩
                    · have hS718 := hS660.ext hX717
                      have hB719 := hB659.trans (Ext.stp hX717 hS660.base)
                      have hcq8 : r653 = true := (Iff.rfl.mp hc720)
                      exact is_ext (g_move (v := .bool (decide (x165[(Int.toNat v636)]! ≥ x165[(Int.toNat v618)]!))) (if_pos hc720))
                    refine ⟨if (r653 = true) ∧ (decide (x165[(Int.toNat v636)]! ≥ x165[(Int.toNat v618)]!)) = false then .slice a17 n18 c19 else undef, fun w721 hX722 => od_guard (c := (r653 = true) ∧ (decide (x165[(Int.toNat v636)]! ≥ x165[(Int.toNat v618)]!)) = false) (val := .slice a17 n18 c19) (b := decide ((r653 = true) ∧ (decide (x165[(Int.toNat v636)]! ≥ x165[(Int.toNat v618)]!)) = false)) (gv_gd rfl rfl rfl) decide_eq_true_iff (fun hc725 => ?_), ?_⟩
                    · have hS723 := hS660.ext hX722
                      have hB724 := hB659.trans (Ext.stp hX722 hS660.base)
                      have hcq9 : (r653 = true) ∧ (¬ (x165[(Int.toNat v636)]! ≥ x165[(Int.toNat v618)]!)) := ⟨(Iff.rfl.mp (hc725).1), i_neg decide_eq_true_iff (hc725).2⟩
                      have hcq8 := (hcq9).1
                      exact is_ext (g_move (v := .slice a17 n18 c19) rfl)
                    refine ⟨if (r653 = true) ∧ (decide (x165[(Int.toNat v636)]! ≥ x165[(Int.toNat v618)]!)) = false then .int .i64 v636 else undef, fun w726 hX727 => od_guard (c := (r653 = true) ∧ (decide (x165[(Int.toNat v636)]! ≥ x165[(Int.toNat v618)]!)) = false) (val := .int .i64 v636) (b := decide ((r653 = true) ∧ (decide (x165[(Int.toNat v636)]! ≥ x165[(Int.toNat v618)]!)) = false)) (gv_gd rfl rfl rfl) decide_eq_true_iff (fun hc730 => ?_), ?_⟩
                    · have hS728 := hS660.ext hX727
                      have hB729 := hB659.trans (Ext.stp hX727 hS660.base)
                      have hcq9 : (r653 = true) ∧ (¬ (x165[(Int.toNat v636)]! ≥ x165[(Int.toNat v618)]!)) := ⟨(Iff.rfl.mp (hc730).1), i_neg decide_eq_true_iff (hc730).2⟩
                      have hcq8 := (hcq9).1
                      exact is_ext (g_move (v := .int .i64 v636) rfl)
                    refine ⟨if (r653 = true) ∧ (decide (x165[(Int.toNat v636)]! ≥ x165[(Int.toNat v618)]!)) = false then .int .i64 v618 else undef, fun w731 hX732 => od_guard (c := (r653 = true) ∧ (decide (x165[(Int.toNat v636)]! ≥ x165[(Int.toNat v618)]!)) = false) (val := .int .i64 v618) (b := decide ((r653 = true) ∧ (decide (x165[(Int.toNat v636)]! ≥ x165[(Int.toNat v618)]!)) = false)) (gv_gd rfl rfl rfl) decide_eq_true_iff (fun hc735 => ?_), ?_⟩
                    · have hS733 := hS660.ext hX732
                      have hB734 := hB659.trans (Ext.stp hX732 hS660.base)
                      have hcq9 : (r653 = true) ∧ (¬ (x165[(Int.toNat v636)]! ≥ x165[(Int.toNat v618)]!)) := ⟨(Iff.rfl.mp (hc735).1), i_neg decide_eq_true_iff (hc735).2⟩
                      have hcq8 := (hcq9).1
                      exact is_ext (g_move (v := .int .i64 v618) rfl)
                    obtain ⟨r741, hk742, hm⟩ := hm
                    refine ⟨if (r653 = true) ∧ (decide (x165[(Int.toNat v636)]! ≥ x165[(Int.toNat v618)]!)) = false then .bool r741 else undef, fun w736 hX737 => od_guard (c := (r653 = true) ∧ (decide (x165[(Int.toNat v636)]! ≥ x165[(Int.toNat v618)]!)) = false) (val := .bool r741) (b := decide ((r653 = true) ∧ (decide (x165[(Int.toNat v636)]! ≥ x165[(Int.toNat v618)]!)) = false)) (gv_gd rfl rfl rfl) decide_eq_true_iff (fun hc740 => ?_), ?_⟩
                    · have hS738 := hS660.ext hX737
                      have hB739 := hB659.trans (Ext.stp hX737 hS660.base)
                      have hcq9 : (r653 = true) ∧ (¬ (x165[(Int.toNat v636)]! ≥ x165[(Int.toNat v618)]!)) := ⟨(Iff.rfl.mp (hc740).1), i_neg decide_eq_true_iff (hc740).2⟩
                      have hcq8 := (hcq9).1
                      exact (g_call (vs := #[.slice a17 n18 c19, .int .i64 v636, .int .i64 v618]) CF31 (args3 (if_pos hc740) (if_pos hc740) (if_pos hc740)) ((m_impl_WaitsFor_fn (oT.vw hS738.g0 hS738.g1 he21) v636 v618 (hk742 hcq9)).mono fun _ _ ⟨_, h1, h2, h3⟩ => ⟨by rw [h2, h1], h3⟩))
                    refine ⟨if r653 = true then .bool ((decide (x165[(Int.toNat v636)]! ≥ x165[(Int.toNat v618)]!)) || r741) else undef, fun w743 hX744 => od_guard (c := r653 = true) (val := .bool ((decide (x165[(Int.toNat v636)]! ≥ x165[(Int.toNat v618)]!)) || r741)) (b := (r653 == true)) (gv_some rfl rfl rfl) beq_iff_eq (fun hc747 => ?_), ?_⟩
                    · have hS745 := hS660.ext hX744
                      have hB746 := hB659.trans (Ext.stp hX744 hS660.base)
                      have hcq8 : r653 = true := (Iff.rfl.mp hc747)
                      exact is_ext (g_pick_or (b := (decide (x165[(Int.toNat v636)]! ≥ x165[(Int.toNat v618)]!))) (q := r741) (if_pos hc747) (gd_in hc747))
                    refine ⟨.bool (r653 && ((decide (x165[(Int.toNat v636)]! ≥ x165[(Int.toNat v618)]!)) || r741)), fun w748 hX749 => od_plain rfl (by have hS750 := hS660.ext hX749; have hB751 := hB659.trans (Ext.stp hX749 hS660.base); exact is_ext (g_pick_and (b := r653) (q := ((decide (x165[(Int.toNat v636)]! ≥ x165[(Int.toNat v618)]!)) || r741)) rfl rfl)), ?_⟩
                    intro w752 hX753
                    have hB754 := hB659.trans (Ext.stp hX753 hS660.base)
                    have hS755 := hS660.ext hX753
                    refine hK656 _ _ ?_
                    refine w_condI (p := ((r653 = true) ∧ (((x165[(Int.toNat v636)]! ≥ x165[(Int.toNat v618)]!) ∨ (r741 = true))))) (b := (r653 && ((decide (x165[(Int.toNat v636)]! ≥ x165[(Int.toNat v618)]!)) || r741))) rfl (i_and Iff.rfl (i_or decide_eq_true_iff Iff.rfl)) (fun h756 => ?_) (fun h756 => ?_)
                    · replace hm := hm.1 h756
                      refine w_seq fun K757 hK757 => ?_
                      refine w_region ?_
                      refine wl_val (g_assign (v := .bool false) rfl) rfl ?_
                      refine wl_nil ?_
                      refine hK757 _ _ ?_
                      refine w_ret ?_
                      repeat first | with_reducible refine q_then ?_ | with_reducible refine q_block ?_
                      exact ret1 rfl (by decide) ⟨_, hm, rfl, toExt hB754⟩
                    · replace hm := hm.2 h756
                      refine w_skip ?_
                      refine hK648 _ _ ?_
                      refine w_region ?_
                      refine wl_val (g_move (v := .int .i64 v636) rfl) rfl ?_
                      obtain ⟨hg758, hm⟩ := hm
                      refine wl_val (g_add (a := v636) (b := 1) rfl rfl hg758) rfl ?_
                      refine wl_val (g_assign (v := .int .i64 (v636 + 1)) rfl) rfl ?_
                      refine wl_nil ?_
                      exact ⟨((v636 + 1)), hm.2, ⟨rfl, rfl, rfl, rfl, rfl, rfl, rfl, trivial⟩, ⟨hm.1, hB754, hS755⟩⟩
                  · replace hm := hm.2 h647
                    refine w_exit ?_
                    exact ⟨(), ⟨rfl, rfl, rfl, rfl, rfl, rfl, trivial⟩, ⟨hm, hB642, hS643⟩⟩
                · rintro _ b_ w759 ⟨hm, hB760, hS761⟩
                  show Wp _ _ _ _ (upds b_ [(3, .slice a17 n18 c19), (5, .int .i64 (r16.length : Int)), (6, .slice a67 (Int.toNat (r16.length : Int)) (Int.toNat (r16.length : Int))), (7, .int .i64 v166), (9, .slice a227 n228 c229), (10, .int .i64 v618)]) w759
                  refine w_cut (σ := Unit) (fun _ => [(3, .slice a17 n18 c19), (5, .int .i64 (r16.length : Int)), (6, .slice a67 (Int.toNat (r16.length : Int)) (Int.toNat (r16.length : Int))), (7, .int .i64 v166), (9, .slice a227 n228 c229), (10, .int .i64 v618)]) (fun _ w' => m_laws_FnCues_K0 r16 r226 v618 Q (m_laws_FnCues_K2 v618 (fun v618' => I622 v618' ∧ μ623 v618' < μ623 v618)) ∧ Below w.heap.size w w' ∧ Sep w' w.heap.size [oS 39 a17 n18 c19 (y20 : List CueD), oT 3 (y20 : List CueD), oS 3 a67 (Int.toNat (r16.length : Int)) (Int.toNat (r16.length : Int)) (x165 : List Int), oS 3 a227 n228 c229 (r226 : List Int)]) ?_ ?_
                  · refine w_seq fun K763 hK763 => ?_
                    refine w_region ?_
                    refine wl_val (g_assign (v := .int .i64 0) rfl) rfl ?_
                    refine wl_nil ?_
                    refine hK763 _ _ ?_
                    refine w_block ?_
                    obtain ⟨I765, μ766, h0767, hr768⟩ := hm
                    refine w_for (σ := Int) (fun v764 => [(3, .slice a17 n18 c19), (5, .int .i64 (r16.length : Int)), (6, .slice a67 (Int.toNat (r16.length : Int)) (Int.toNat (r16.length : Int))), (7, .int .i64 v166), (9, .slice a227 n228 c229), (10, .int .i64 v618), (13, .int .i64 v764)]) (fun v764 w' => I765 v764 ∧ Below w.heap.size w w' ∧ Sep w' w.heap.size [oS 39 a17 n18 c19 (y20 : List CueD), oT 3 (y20 : List CueD), oS 3 a67 (Int.toNat (r16.length : Int)) (Int.toNat (r16.length : Int)) (x165 : List Int), oS 3 a227 n228 c229 (r226 : List Int)]) (fun v764 => μ766 v764) (0) ⟨rfl, rfl, rfl, rfl, rfl, rfl, rfl, trivial⟩ ⟨h0767, hB760, hS761⟩ ?_
                    rintro v764 b_ w769 ⟨hi_, hB770, hS771⟩
                    show Wp _ _ _ _ (upds b_ [(3, .slice a17 n18 c19), (5, .int .i64 (r16.length : Int)), (6, .slice a67 (Int.toNat (r16.length : Int)) (Int.toNat (r16.length : Int))), (7, .int .i64 v166), (9, .slice a227 n228 c229), (10, .int .i64 v618), (13, .int .i64 v764)]) w769
                    have hm := hr768 v764 hi_
                    refine w_seq fun K773 hK773 => ?_
                    refine w_seq fun K774 hK774 => ?_
                    refine w_region ?_
                    refine wl_val (g_move (v := .int .i64 v764) rfl) rfl ?_
                    refine wl_val (g_move (v := .slice a17 n18 c19) rfl) rfl ?_
                    refine wl_val (g_move (v := .int .i64 v618) rfl) rfl ?_
                    obtain ⟨hg775, hm⟩ := hm
                    refine wl_val (q_index (i := v618) SL26 rfl rfl (Tv.o (oT.vw hS771.g0 hS771.g1 he21)) (Tv.g (oT.vw hS771.g0 hS771.g1 he21) hg775)) rfl ?_
                    refine wl_val (g_fieldAddr (q := (adr a17).add ((Int.toNat v618) * El.m CueD)) FL39_1 ON24 rfl) rfl ?_
                    refine wl_val (q_loadF (i := v618) (j := 1) (v := .slice ((y20[(Int.toNat v618)]!).2.1.1) ((y20[(Int.toNat v618)]!).2.1.2.2.length) ((y20[(Int.toNat v618)]!).2.1.2.1)) ON24 (Tv.o (oT.vw hS771.g0 hS771.g1 he21)) (Tv.g (oT.vw hS771.g0 hS771.g1 he21) hg775) rfl rfl) rfl ?_
                    refine wl_val (q_len SL24 rfl (Vw.len (Tv.rowC0 (oT.vw hS771.g0 hS771.g1 he21) hg775))) rfl ?_
                    refine wl_val (g_lss (a := v764) (b := ((r16[(Int.toNat v618)]!.2.1).length : Int)) rfl rfl) rfl ?_
                    refine wl_nil ?_
                    refine hK774 _ _ ?_
                    refine w_condI (p := v764 < ((r16[(Int.toNat v618)]!.2.1).length : Int)) (b := (decide (v764 < ((r16[(Int.toNat v618)]!.2.1).length : Int)))) rfl decide_eq_true_iff (fun h776 => ?_) (fun h776 => ?_)
                    · replace hm := hm.1 h776
                      refine w_skip ?_
                      refine hK773 _ _ ?_
                      refine w_seq fun K777 hK777 => ?_
                      refine w_block ?_
                      refine w_seq fun K778 hK778 => ?_
                      refine w_region ?_
                      refine wl_val (g_move (v := .slice a17 n18 c19) rfl) rfl ?_
                      refine wl_val (g_move (v := .int .i64 v618) rfl) rfl ?_
                      refine wl_val (g_move (v := .slice a17 n18 c19) rfl) rfl ?_
                      refine wl_val (g_move (v := .int .i64 v618) rfl) rfl ?_
                      obtain ⟨hg779, hm⟩ := hm
                      refine wl_val (q_index (i := v618) SL26 rfl rfl (Tv.o (oT.vw hS771.g0 hS771.g1 he21)) (Tv.g (oT.vw hS771.g0 hS771.g1 he21) hg779)) rfl ?_
                      refine wl_val (g_fieldAddr (q := (adr a17).add ((Int.toNat v618) * El.m CueD)) FL39_1 ON24 rfl) rfl ?_
                      refine wl_val (q_loadF (i := v618) (j := 1) (v := .slice ((y20[(Int.toNat v618)]!).2.1.1) ((y20[(Int.toNat v618)]!).2.1.2.2.length) ((y20[(Int.toNat v618)]!).2.1.2.1)) ON24 (Tv.o (oT.vw hS771.g0 hS771.g1 he21)) (Tv.g (oT.vw hS771.g0 hS771.g1 he21) hg779) rfl rfl) rfl ?_
                      refine wl_val (g_move (v := .int .i64 v764) rfl) rfl ?_
                      obtain ⟨hg780, hm⟩ := hm
                      refine wl_val (q_index (i := v764) SL24 rfl rfl (Tv.rowC0 (oT.vw hS771.g0 hS771.g1 he21) hg779) hg780) rfl ?_
                      refine wl_val (q_load (i := v764) (v := .int .i64 ((r16[(Int.toNat v618)]!.2.1)[(Int.toNat v764)]!)) ON3 (Tv.rowC0 (oT.vw hS771.g0 hS771.g1 he21) hg779) hg780 rfl rfl) rfl ?_
                      refine wl_step rfl (g_call (vs := #[.slice a17 n18 c19, .int .i64 v618, .int .i64 ((r16[(Int.toNat v618)]!.2.1)[(Int.toNat v764)]!)]) CF31 (args3 rfl rfl rfl) (m_impl_WaitsFor_fn (oT.vw hS771.g0 hS771.g1 he21) v618 ((r16[(Int.toNat v618)]!.2.1)[(Int.toNat v764)]!) hm)) ?_
                      rintro _ w781 ⟨r784, hm, rfl, hE782⟩
                      have hB785 := hB770.trans (Ext.stp hE782 hS771.base)
                      have hS786 := hS771.ext hE782
                      refine wl_val (g_not (a := r784) rfl) rfl ?_
                      refine wl_nil ?_
                      refine hK778 _ _ ?_
                      refine w_condI (p := ¬ (r784 = true)) (b := (!r784)) rfl (i_not Iff.rfl) (fun h787 => ?_) (fun h787 => ?_)
                      · replace hm := hm.1 h787
                        refine w_seq fun K788 hK788 => ?_
                        refine w_region ?_
                        refine wl_val (g_assign (v := .bool false) rfl) rfl ?_
                        refine wl_nil ?_
                        refine hK788 _ _ ?_
                        refine w_ret ?_
                        repeat first | with_reducible refine q_then ?_ | with_reducible refine q_block ?_
                        exact ret1 rfl (by decide) ⟨_, hm, rfl, toExt hB785⟩
                      · replace hm := hm.2 h787
                        refine w_skip ?_
                        refine hK777 _ _ ?_
                        refine w_region ?_
                        refine wl_val (g_move (v := .int .i64 v764) rfl) rfl ?_
                        obtain ⟨hg789, hm⟩ := hm
                        refine wl_val (g_add (a := v764) (b := 1) rfl rfl hg789) rfl ?_
                        refine wl_val (g_assign (v := .int .i64 (v764 + 1)) rfl) rfl ?_
                        refine wl_nil ?_
                        exact ⟨((v764 + 1)), hm.2, ⟨rfl, rfl, rfl, rfl, rfl, rfl, rfl, trivial⟩, ⟨hm.1, hB785, hS786⟩⟩
                    · replace hm := hm.2 h776
                      refine w_exit ?_
                      exact ⟨(), ⟨rfl, rfl, rfl, rfl, rfl, rfl, trivial⟩, ⟨hm, hB770, hS771⟩⟩
                  · rintro _ b_ w790 ⟨hm, hB791, hS792⟩
                    show Wp _ _ _ _ (upds b_ [(3, .slice a17 n18 c19), (5, .int .i64 (r16.length : Int)), (6, .slice a67 (Int.toNat (r16.length : Int)) (Int.toNat (r16.length : Int))), (7, .int .i64 v166), (9, .slice a227 n228 c229), (10, .int .i64 v618)]) w790
                    refine w_seq fun K793 hK793 => ?_
                    refine w_draw (X := Ext) (Y := Ext) [] MIX (by decide +kernel) rfl Ext.refl (fun _ _ _ => Ext.trans) (fun _ _ _ => Chg.trans) (fun _ _ h => Ext.chg h _) (fun w794 hE795 => ?_)
                    have hB796 := hB791.trans (Ext.stp hE795 hS792.base)
                    have hS797 := hS792.ext hE795
                    refine ⟨.slice a227 n228 c229, fun w798 hX799 => od_plain rfl (by have hS800 := hS797.ext hX799; have hB801 := hB796.trans (Ext.stp hX799 hS797.base); exact is_ext (g_move (v := .slice a227 n228 c229) rfl)), ?_⟩
                    refine ⟨.int .i64 v618, fun w802 hX803 => od_plain rfl (by have hS804 := hS797.ext hX803; have hB805 := hB796.trans (Ext.stp hX803 hS797.base); exact is_ext (g_move (v := .int .i64 v618) rfl)), ?_⟩
                    obtain ⟨r810, hk811, hm⟩ := hm
                    refine ⟨.bool r810, fun w806 hX807 => od_plain rfl (by have hS808 := hS797.ext hX807; have hB809 := hB796.trans (Ext.stp hX807 hS797.base); exact (g_call (vs := #[.slice a227 n228 c229, .int .i64 v618]) CF32 (args2 rfl rfl) ((m_laws_has_fn (oS.vw hS808.g3) v618 hk811).mono fun _ _ ⟨_, h1, h2, h3⟩ => ⟨by rw [h2, h1], h3⟩))), ?_⟩
                    refine ⟨.slice a17 n18 c19, fun w812 hX813 => od_plain rfl (by have hS814 := hS797.ext hX813; have hB815 := hB796.trans (Ext.stp hX813 hS797.base); exact is_ext (g_move (v := .slice a17 n18 c19) rfl)), ?_⟩
                    refine ⟨.int .i64 v618, fun w816 hX817 => od_plain rfl (by have hS818 := hS797.ext hX817; have hB819 := hB796.trans (Ext.stp hX817 hS797.base); exact is_ext (g_move (v := .int .i64 v618) rfl)), ?_⟩
                    obtain ⟨hg824, hm⟩ := hm
                    refine ⟨.pointer (some ((adr a17).add ((Int.toNat v618) * El.m CueD))), fun w820 hX821 => od_plain rfl (by have hS822 := hS797.ext hX821; have hB823 := hB796.trans (Ext.stp hX821 hS797.base); exact is_ext (q_index (i := v618) SL26 rfl rfl (Tv.o (oT.vw hS822.g0 hS822.g1 he21)) (Tv.g (oT.vw hS822.g0 hS822.g1 he21) hg824))), ?_⟩
                    refine ⟨.pointer (some (((adr a17).add ((Int.toNat v618) * El.m CueD)).add 1)), fun w825 hX826 => od_plain rfl (by have hS827 := hS797.ext hX826; have hB828 := hB796.trans (Ext.stp hX826 hS797.base); exact is_ext (g_fieldAddr (q := (adr a17).add ((Int.toNat v618) * El.m CueD)) FL39_1 ON24 rfl)), ?_⟩
                    refine ⟨.slice ((y20[(Int.toNat v618)]!).2.1.1) ((y20[(Int.toNat v618)]!).2.1.2.2.length) ((y20[(Int.toNat v618)]!).2.1.2.1), fun w829 hX830 => od_plain rfl (by have hS831 := hS797.ext hX830; have hB832 := hB796.trans (Ext.stp hX830 hS797.base); exact is_ext (q_loadF (i := v618) (j := 1) (v := .slice ((y20[(Int.toNat v618)]!).2.1.1) ((y20[(Int.toNat v618)]!).2.1.2.2.length) ((y20[(Int.toNat v618)]!).2.1.2.1)) ON24 (Tv.o (oT.vw hS831.g0 hS831.g1 he21)) (Tv.g (oT.vw hS831.g0 hS831.g1 he21) hg824) rfl rfl)), ?_⟩
                    refine ⟨.int .i64 ((r16[(Int.toNat v618)]!.2.1).length : Int), fun w833 hX834 => od_plain rfl (by have hS835 := hS797.ext hX834; have hB836 := hB796.trans (Ext.stp hX834 hS797.base); exact is_ext (q_len SL24 rfl (Vw.len (Tv.rowC0 (oT.vw hS835.g0 hS835.g1 he21) hg824)))), ?_⟩
                    refine ⟨.bool (decide (((r16[(Int.toNat v618)]!.2.1).length : Int) = 0)), fun w837 hX838 => od_plain rfl (by have hS839 := hS797.ext hX838; have hB840 := hB796.trans (Ext.stp hX838 hS797.base); exact is_ext (g_eql (a := ((r16[(Int.toNat v618)]!.2.1).length : Int)) (b := 0) rfl rfl)), ?_⟩
                    refine ⟨.bool (decide ((r810) ≠ (decide (((r16[(Int.toNat v618)]!.2.1).length : Int) = 0)))), fun w841 hX842 => od_plain rfl (by have hS843 := hS797.ext hX842; have hB844 := hB796.trans (Ext.stp hX842 hS797.base); exact is_ext (g_neq_b (a := r810) (b := (decide (((r16[(Int.toNat v618)]!.2.1).length : Int) = 0))) UB rfl rfl)), ?_⟩
                    intro w845 hX846
                    have hB847 := hB796.trans (Ext.stp hX846 hS797.base)
                    have hS848 := hS797.ext hX846
                    refine hK793 _ _ ?_
                    refine w_condI (p := (r810) ≠ (decide (((r16[(Int.toNat v618)]!.2.1).length : Int) = 0))) (b := (decide ((r810) ≠ (decide (((r16[(Int.toNat v618)]!.2.1).length : Int) = 0))))) rfl decide_eq_true_iff (fun h849 => ?_) (fun h849 => ?_)
                    · replace hm := hm.1 h849
                      refine w_seq fun K850 hK850 => ?_
                      refine w_region ?_
                      refine wl_val (g_assign (v := .bool false) rfl) rfl ?_
                      refine wl_nil ?_
                      refine hK850 _ _ ?_
                      refine w_ret ?_
                      repeat first | with_reducible refine q_then ?_ | with_reducible refine q_block ?_
                      exact ret1 rfl (by decide) ⟨_, hm, rfl, toExt hB847⟩
                    · replace hm := hm.2 h849
                      refine w_skip ?_
                      exact ⟨(), ⟨rfl, rfl, rfl, rfl, rfl, rfl, trivial⟩, ⟨hm, hB847, hS848⟩⟩
              · rintro _ b_ w851 ⟨hm, hB852, hS853⟩
                show Wp _ _ _ _ (upds b_ [(3, .slice a17 n18 c19), (5, .int .i64 (r16.length : Int)), (6, .slice a67 (Int.toNat (r16.length : Int)) (Int.toNat (r16.length : Int))), (7, .int .i64 v166), (9, .slice a227 n228 c229), (10, .int .i64 v618)]) w851
                refine w_region ?_
                refine wl_val (g_move (v := .int .i64 v618) rfl) rfl ?_
                obtain ⟨hg854, hm⟩ := hm
                refine wl_val (g_add (a := v618) (b := 1) rfl rfl hg854) rfl ?_
                refine wl_val (g_assign (v := .int .i64 (v618 + 1)) rfl) rfl ?_
                refine wl_nil ?_
                exact ⟨((v618 + 1)), hm.2, ⟨rfl, rfl, rfl, rfl, rfl, rfl, trivial⟩, ⟨hm.1, hB852, hS853⟩⟩
            · replace hm := hm.2 h632
              refine w_exit ?_
              have hS855 := hS628.f2
              have hS856 := hS855.tail
              exact ⟨(), ⟨rfl, rfl, rfl, rfl, trivial⟩, ⟨hm, hB627, hS856⟩⟩
          · rintro _ b_ w857 ⟨hm, hB858, hS859⟩
            show Wp _ _ _ _ (upds b_ [(3, .slice a17 n18 c19), (5, .int .i64 (r16.length : Int)), (7, .int .i64 v166), (9, .slice a227 n228 c229)]) w857
            refine w_seq fun K860 hK860 => ?_
            refine w_region ?_
            refine wl_val (g_move (v := .slice a17 n18 c19) rfl) rfl ?_
            refine wl_step rfl (g_call (vs := #[.slice a17 n18 c19]) CF33 (args1 rfl) (m_impl_CountOrders_fn (oT.vw hS859.g0 hS859.g1 he21) hm)) ?_
            rintro _ w861 ⟨r864, hm, rfl, hE862⟩
            have hB865 := hB858.trans (Ext.stp hE862 hS859.base)
            have hS866 := hS859.ext hE862
            refine wl_val (g_assign (v := .int .i64 r864) rfl) rfl ?_
            refine wl_nil ?_
            refine hK860 _ _ ?_
            refine w_seq fun K867 hK867 => ?_
            refine w_region ?_
            refine wl_step rfl (q_lit1 (y := (1 : Int)) SL24 rfl rfl (by decide) hS866) ?_
            rintro _ w868 ⟨a869, rfl, hS871, hE870⟩
            have hB873 := hB865.trans (Ext.stp hE870 hS866.base)
            refine wl_val (g_build (v := .agg #[.int .i64 1, .slice a869 1 1, .slice none 0 0]) (parts2 rfl rfl) (BD39_01 1 a869 1 1)) rfl ?_
            refine wl_step rfl (q_lit1 (y := (0 : Int)) SL24 rfl rfl (by decide) hS871) ?_
            rintro _ w874 ⟨a875, rfl, hS877, hE876⟩
            have hB879 := hB873.trans (Ext.stp hE876 hS871.base)
            refine wl_val (g_build (v := .agg #[.int .i64 1, .slice a875 1 1, .slice none 0 0]) (parts2 rfl rfl) (BD39_01 1 a875 1 1)) rfl ?_
            have hS885 := hS877.nilS (α := Int) (E := 3)
            have hS887 := hS885.f2
            have hn888 := oS.len hS887.g0
            have hn889 := oS.len hS887.g1
            have hS890 := hS887.rowsCue 1
            have he884 : ers [((1, (a869, 1, [1]), (none, 0, [])) : CueD)] = [(1, [1], [])] := rfl
            have hS893 := hS890.nilS (α := Int) (E := 3)
            have hS895 := hS893.f2
            have hn896 := oS.len hS895.g0
            have hn897 := oS.len hS895.g1
            have hS898 := hS895.rowsCue 1
            have he892 : ers [((1, (a875, 1, [0]), (none, 0, [])) : CueD)] = [(1, [0], [])] := rfl
            refine wl_step rfl (q_lit2 (y := (((1, (a869, 1, [1]), (none, 0, [])) : CueD) : CueD)) (y' := (((1, (a875, 1, [0]), (none, 0, [])) : CueD) : CueD)) SL26 rfl rfl (by rw [hn888, hn889]; rfl) (by rw [hn896, hn897]; rfl) (by decide) hS898) ?_
            rintro _ w880 ⟨a881, rfl, hS883, hE882⟩
            have hB901 := hB879.trans (Ext.stp hE882 hS898.base)
            have hS902 := hS883.f2
            have hS903 := hS902.f2
            have hS904 : Sep w880 w.heap.size [oT 3 ([((1, (a869, 1, [1]), (none, 0, [])) : CueD), ((1, (a875, 1, [0]), (none, 0, [])) : CueD)] : List CueD), oS 39 a881 2 2 ([((1, (a869, 1, [1]), (none, 0, [])) : CueD), ((1, (a875, 1, [0]), (none, 0, [])) : CueD)] : List CueD), oS 39 a17 n18 c19 (y20 : List CueD), oT 3 (y20 : List CueD), oS 3 a227 n228 c229 (r226 : List Int)] := hS903.catRows
            have he905 : ers ([((1, (a869, 1, [1]), (none, 0, [])) : CueD), ((1, (a875, 1, [0]), (none, 0, [])) : CueD)] : List CueD) = [(1, [1], []), (1, [0], [])] := rfl
            refine wl_val (g_assign (v := .slice a881 2 2) rfl) rfl ?_
            refine wl_nil ?_
            refine hK867 _ _ ?_
            refine w_seq fun K907 hK907 => ?_
            refine w_region ?_
            refine wl_val (g_move (v := .int .i64 v166) rfl) rfl ?_
            refine wl_val (g_move (v := .int .i64 (r16.length : Int)) rfl) rfl ?_
            obtain ⟨hg908, hm⟩ := hm
            obtain ⟨hg909, hm⟩ := hm
            refine wl_val (g_shl (a := 1) (b := (r16.length : Int)) rfl rfl hg908 hg909) rfl ?_
            obtain ⟨hg910, hm⟩ := hm
            refine wl_val (g_sub (a := (sal 1 (r16.length : Int))) (b := 1) rfl rfl hg910) rfl ?_
            refine wl_val (g_eql (a := v166) (b := ((sal 1 (r16.length : Int)) - 1)) rfl rfl) rfl ?_
            refine wl_val (g_move (v := .bool (decide (v166 = ((sal 1 (r16.length : Int)) - 1)))) rfl) rfl ?_
            refine wl_guard (c := (decide (v166 = ((sal 1 (r16.length : Int)) - 1))) = true) (val := .int .i64 r864) (b := ((decide (v166 = ((sal 1 (r16.length : Int)) - 1))) == true)) (gv_some rfl rfl rfl) beq_iff_eq (fun hc911 => ?_) ?_
            · have hcq10 : v166 = ((sal 1 (r16.length : Int)) - 1) := (decide_eq_true_iff.mp hc911)
              exact g_move (v := .int .i64 r864) rfl
            refine wl_guard (c := (decide (v166 = ((sal 1 (r16.length : Int)) - 1))) = true) (val := .bool (decide (r864 ≥ 1))) (b := ((decide (v166 = ((sal 1 (r16.length : Int)) - 1))) == true)) (gv_some rfl rfl rfl) beq_iff_eq (fun hc912 => ?_) ?_
            · have hcq10 : v166 = ((sal 1 (r16.length : Int)) - 1) := (decide_eq_true_iff.mp hc912)
              exact g_geq (a := r864) (b := 1) (if_pos hc912) rfl
            refine wl_val (g_pick_and (b := (decide (v166 = ((sal 1 (r16.length : Int)) - 1)))) (q := (decide (r864 ≥ 1))) rfl rfl) rfl ?_
            refine wl_val (g_move (v := .bool ((decide (v166 = ((sal 1 (r16.length : Int)) - 1))) && (decide (r864 ≥ 1)))) rfl) rfl ?_
            refine wl_guard (c := ((decide (v166 = ((sal 1 (r16.length : Int)) - 1))) && (decide (r864 ≥ 1))) = true) (val := .slice a227 n228 c229) (b := (((decide (v166 = ((sal 1 (r16.length : Int)) - 1))) && (decide (r864 ≥ 1))) == true)) (gv_some rfl rfl rfl) beq_iff_eq (fun hc913 => ?_) ?_
            · have hcq11 : ((v166 = ((sal 1 (r16.length : Int)) - 1)) ∧ (r864 ≥ 1)) := ((i_and decide_eq_true_iff decide_eq_true_iff).mp hc913)
              exact g_move (v := .slice a227 n228 c229) rfl
            refine wl_guard (c := ((decide (v166 = ((sal 1 (r16.length : Int)) - 1))) && (decide (r864 ≥ 1))) = true) (val := .int .i64 (r226.length : Int)) (b := (((decide (v166 = ((sal 1 (r16.length : Int)) - 1))) && (decide (r864 ≥ 1))) == true)) (gv_some rfl rfl rfl) beq_iff_eq (fun hc914 => ?_) ?_
            · have hcq11 : ((v166 = ((sal 1 (r16.length : Int)) - 1)) ∧ (r864 ≥ 1)) := ((i_and decide_eq_true_iff decide_eq_true_iff).mp hc914)
              exact q_len SL24 (if_pos hc914) (Vw.len (oS.vw hS904.g4))
            refine wl_guard (c := ((decide (v166 = ((sal 1 (r16.length : Int)) - 1))) && (decide (r864 ≥ 1))) = true) (val := .bool (decide ((r226.length : Int) ≥ 1))) (b := (((decide (v166 = ((sal 1 (r16.length : Int)) - 1))) && (decide (r864 ≥ 1))) == true)) (gv_some rfl rfl rfl) beq_iff_eq (fun hc915 => ?_) ?_
            · have hcq11 : ((v166 = ((sal 1 (r16.length : Int)) - 1)) ∧ (r864 ≥ 1)) := ((i_and decide_eq_true_iff decide_eq_true_iff).mp hc915)
              exact g_geq (a := (r226.length : Int)) (b := 1) (if_pos hc915) rfl
            refine wl_val (g_pick_and (b := ((decide (v166 = ((sal 1 (r16.length : Int)) - 1))) && (decide (r864 ≥ 1)))) (q := (decide ((r226.length : Int) ≥ 1))) rfl rfl) rfl ?_
            refine wl_val (g_move (v := .bool (((decide (v166 = ((sal 1 (r16.length : Int)) - 1))) && (decide (r864 ≥ 1))) && (decide ((r226.length : Int) ≥ 1)))) rfl) rfl ?_
            by_cases hc916 : (((decide (v166 = ((sal 1 (r16.length : Int)) - 1))) && (decide (r864 ≥ 1))) && (decide ((r226.length : Int) ≥ 1))) = true
            · replace hm := hm.1 ((i_and (i_and decide_eq_true_iff decide_eq_true_iff) decide_eq_true_iff).mp hc916)
              refine wl_valT (g_move (v := .slice a881 2 2) rfl) (gv_T (gv_some rfl rfl rfl) hc916) ?_
              refine wl_stepT (gv_T (gv_some rfl rfl rfl) hc916) (g_call (vs := #[.slice a881 2 2]) CF20 (args1 rfl) (m_impl_CircleIn_fn (oT.vw hS904.g1 hS904.g0 he905) hm)) ?_
              rintro _ w917 ⟨r920, a921, n922, c923, hm, rfl, hE918, hN919⟩
              have hS925 := hS904.call1 hE918 hN919
              have hB926 := hB901.trans (Ext.stp hE918 hS904.base)
              refine wl_stepT (gv_T (gv_some rfl rfl rfl) hc916) (q_lit2 (y := (0 : Int)) (y' := (1 : Int)) SL24 rfl rfl rfl rfl (by decide) hS925) ?_
              rintro _ w927 ⟨a928, rfl, hS930, hE929⟩
              have hB932 := hB926.trans (Ext.stp hE929 hS925.base)
              refine wl_stepT (gv_T (gv_some rfl rfl rfl) hc916) (g_call (vs := #[.slice a921 n922 c923, .slice a928 2 2]) CF34 (args2 rfl rfl) (m_laws_sameInts_fn (oS.vw hS930.g1) (oS.vw hS930.g0) hm)) ?_
              rintro _ w933 ⟨r936, hm, rfl, hE934⟩
              have hB937 := hB932.trans (Ext.stp hE934 hS930.base)
              have hS938 := hS930.ext hE934
              refine wl_val (g_pickT (b := (((decide (v166 = ((sal 1 (r16.length : Int)) - 1))) && (decide (r864 ≥ 1))) && (decide ((r226.length : Int) ≥ 1)))) rfl hc916 rfl) rfl ?_
              refine wl_val (g_move (v := .bool r936) rfl) rfl ?_
              refine wl_guard (c := r936 = true) (val := .slice a881 2 2) (b := (r936 == true)) (gv_some rfl rfl rfl) beq_iff_eq (fun hc939 => ?_) ?_
              · have hcq12 : r936 = true := (Iff.rfl.mp hc939)
                exact g_move (v := .slice a881 2 2) rfl
              obtain ⟨r941, hk942, hm⟩ := hm
              refine wl_guardE (X := Ext) (c := r936 = true) (val := .bool r941) (Ext.refl _) (b := (r936 == true)) (gv_some rfl rfl rfl) beq_iff_eq (fun hc940 => ?_) (fun w943 hE944 => ?_)
              · have hcq12 : r936 = true := (Iff.rfl.mp hc940)
                exact (g_call (vs := #[.slice a881 2 2]) CF29 (args1 (if_pos hc940)) ((m_impl_CuesOk_fn (oT.vw hS938.g3 hS938.g2 he905) (hk942 hcq12)).mono fun _ _ ⟨_, h1, h2, h3⟩ => ⟨by rw [h2, h1], h3⟩))
              have hB945 := hB937.trans (Ext.stp hE944 hS938.base)
              have hS946 := hS938.ext hE944
              refine wl_guard (c := r936 = true) (val := .bool (!r941)) (b := (r936 == true)) (gv_some rfl rfl rfl) beq_iff_eq (fun hc947 => ?_) ?_
              · have hcq12 : r936 = true := (Iff.rfl.mp hc947)
                exact g_not (a := r941) (if_pos hc947)
              refine wl_val (g_pick_and (b := r936) (q := (!r941)) rfl rfl) rfl ?_
              refine wl_val (g_assign (v := .bool (r936 && (!r941))) rfl) rfl ?_
              refine wl_nil ?_
              refine hK907 _ _ ?_
              refine w_ret ?_
              repeat first | with_reducible refine q_then ?_ | with_reducible refine q_block ?_
              exact ret1 rfl (by decide) ⟨_, hm, rfl, toExt hB945⟩
            · have hc916n := b_F hc916
              replace hm := hm.2 (i_neg (i_and (i_and decide_eq_true_iff decide_eq_true_iff) decide_eq_true_iff) hc916n)
              refine wl_skipF (gv_F (gv_some rfl rfl rfl) hc916n) ?_
              refine wl_skipF (gv_F (gv_some rfl rfl rfl) hc916n) ?_
              refine wl_skipF (gv_F (gv_some rfl rfl rfl) hc916n) ?_
              refine wl_skipF (gv_F (gv_some rfl rfl rfl) hc916n) ?_
              refine wl_val (g_pickF (b := (((decide (v166 = ((sal 1 (r16.length : Int)) - 1))) && (decide (r864 ≥ 1))) && (decide ((r226.length : Int) ≥ 1)))) rfl hc916n rfl) rfl ?_
              refine wl_val (g_move (v := .bool false) rfl) rfl ?_
              refine wl_skipF (gv_F (gv_some rfl rfl rfl) rfl) ?_
              refine wl_skipF (gv_F (gv_some rfl rfl rfl) rfl) ?_
              refine wl_skipF (gv_F (gv_some rfl rfl rfl) rfl) ?_
              refine wl_val (g_pickF (b := false) rfl rfl rfl) rfl ?_
              refine wl_val (g_assign (v := .bool false) rfl) rfl ?_
              refine wl_nil ?_
              refine hK907 _ _ ?_
              refine w_ret ?_
              repeat first | with_reducible refine q_then ?_ | with_reducible refine q_block ?_
              exact ret1 rfl (by decide) ⟨_, hm, rfl, toExt hB901⟩
    · have hc51n := b_T hc51
      replace hm := hm.2 (fun hx => hx ((i_or (i_not Iff.rfl) decide_eq_true_iff).mp hc51n))
      refine wl_skipF (gv_F (gv_some rfl rfl rfl) hc51n) ?_
      refine wl_skipF (gv_F (gv_some rfl rfl rfl) hc51n) ?_
      refine wl_skipF (gv_F (gv_some rfl rfl rfl) hc51n) ?_
      refine wl_skipF (gv_F (gv_some rfl rfl rfl) hc51n) ?_
      refine wl_val (g_pickT (b := ((!r44) || (decide ((r31.length : Int) ≠ (r16.length : Int))))) rfl hc51n rfl) rfl ?_
      refine wl_nil ?_
      refine hK40 _ _ ?_
      refine w_cond (b := true) rfl (fun _ => ?_) (fun h => by cases h)
      refine w_seq fun K949 hK949 => ?_
      refine w_region ?_
      refine wl_val (g_assign (v := .bool false) rfl) rfl ?_
      refine wl_nil ?_
      refine hK949 _ _ ?_
      refine w_ret ?_
      repeat first | with_reducible refine q_then ?_ | with_reducible refine q_block ?_
      exact ret1 rfl (by decide) ⟨_, hm, rfl, toExt hB45⟩

end Go.Proofs.Ythmemoealgieaaa
