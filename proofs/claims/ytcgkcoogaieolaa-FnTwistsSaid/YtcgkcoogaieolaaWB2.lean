/- The walks: the code does what its model says. Printed by a program (gen2.py). No statement of the claim stands here. -/
import Derived.Test.YtcgkcoogaieolaaSop
import Derived.Test.YtcgkcoogaieolaaFacts
import Derived.Test.YtcgkcoogaieolaaMB
import Derived.Test.YtcgkcoogaieolaaWB1
namespace Go.Proofs.Ytcgkcoogaieolaa
open Go Go.RowKit
set_option maxRecDepth 100000
theorem m_spec_Reduced_fn {w : World} {a1 : Option Addr} {n1 c1 : Nat} {p1 : List Cross} {Q : (List Cross) → Prop} (p0 : Int) (hp1 : Vw w.heap.size w a1 n1 c1 p1) (hm : m_spec_Reduced p0 p1 Q) :
    Fn Try.prog 31 #[.int .i64 p0, .slice a1 n1 c1] w (fun v w' => ∃ (r0 : List Cross) (a0 : Option Addr) (n0 c0 : Nat), Q r0 ∧ v = .slice a0 n0 c0 ∧ Ext w w' ∧ Sep w' w.heap.size [oS 56 a0 n0 c0 r0]) := by
  unfold m_spec_Reduced at hm
  have hB0 := Below.refl w.heap.size w
  have hS0 : Sep w w.heap.size [] := Sep.nil (Nat.le_refl _)
  refine fn_of_wp Try.func31 rfl (by kernel_rfl) (Nat.le_of_ble_eq_true rfl) ?_
  refine w_seq fun K1 hK1 => ?_
  refine w_region ?_
  refine wl_val (g_assign (v := .slice none 0 0) rfl) rfl ?_
  refine wl_nil ?_
  refine hK1 _ _ ?_
  refine w_seq fun K2 hK2 => ?_
  refine w_region ?_
  refine wl_step rfl (q_lit0 (α := Cross) rfl SL24 hS0) ?_
  rintro _ w3 ⟨a4, rfl, hS6, hE5⟩
  have hB8 := hB0.trans (Ext.stp hE5 hS0.base)
  refine wl_val (g_assign (v := .slice a4 0 0) rfl) rfl ?_
  refine wl_nil ?_
  refine hK2 _ _ ?_
  refine w_cut (σ := List Cross × Option Addr × Nat × Nat) (fun ⟨x406, a407, n408, c409⟩ => [(5, .slice a407 n408 c409)]) (fun ⟨x406, a407, n408, c409⟩ w' => m_spec_Reduced_K0 Q x406 ∧ Below w.heap.size w w' ∧ Sep w' w.heap.size [oS 56 a407 n408 c409 (x406 : List Cross)]) ?_ ?_
  · refine w_seq fun K411 hK411 => ?_
    refine w_region ?_
    refine wl_val (g_assign (v := .int .i64 0) rfl) rfl ?_
    refine wl_nil ?_
    refine hK411 _ _ ?_
    refine w_block ?_
    obtain ⟨I417, μ418, h0419, hr420⟩ := hm
    refine w_for (σ := List Cross × Option Addr × Nat × Nat × Int) (fun ⟨x412, a413, n414, c415, v416⟩ => [(0, .int .i64 p0), (1, .slice a1 n1 c1), (5, .slice a413 n414 c415), (6, .int .i64 v416)]) (fun ⟨x412, a413, n414, c415, v416⟩ w' => I417 x412 v416 ∧ Below w.heap.size w w' ∧ Sep w' w.heap.size [oS 56 a413 n414 c415 (x412 : List Cross)]) (fun ⟨x412, a413, n414, c415, v416⟩ => μ418 x412 v416) ([], a4, 0, 0, 0) ⟨rfl, rfl, rfl, rfl, trivial⟩ ⟨h0419, hB8, hS6⟩ ?_
    rintro ⟨x412, a413, n414, c415, v416⟩ b_ w421 ⟨hi_, hB422, hS423⟩
    show Wp _ _ _ _ (upds b_ [(0, .int .i64 p0), (1, .slice a1 n1 c1), (5, .slice a413 n414 c415), (6, .int .i64 v416)]) w421
    have hm := hr420 x412 v416 hi_
    refine w_seq fun K425 hK425 => ?_
    refine w_seq fun K426 hK426 => ?_
    refine w_region ?_
    refine wl_val (g_move (v := .int .i64 v416) rfl) rfl ?_
    refine wl_val (g_move (v := .slice a1 n1 c1) rfl) rfl ?_
    refine wl_val (q_len SL24 rfl (Vw.len (hp1.bel hB422))) rfl ?_
    refine wl_val (g_lss (a := v416) (b := (p1.length : Int)) rfl rfl) rfl ?_
    refine wl_val (g_move (v := .bool (decide (v416 < (p1.length : Int)))) rfl) rfl ?_
    refine wl_guard (c := (decide (v416 < (p1.length : Int))) = true) (val := .int .i64 p0) (b := ((decide (v416 < (p1.length : Int))) == true)) (gv_some rfl rfl rfl) beq_iff_eq (fun hc427 => ?_) ?_
    · have hcq6 : v416 < (p1.length : Int) := (decide_eq_true_iff.mp hc427)
      exact g_move (v := .int .i64 p0) rfl
    refine wl_guard (c := (decide (v416 < (p1.length : Int))) = true) (val := .slice a1 n1 c1) (b := ((decide (v416 < (p1.length : Int))) == true)) (gv_some rfl rfl rfl) beq_iff_eq (fun hc428 => ?_) ?_
    · have hcq6 : v416 < (p1.length : Int) := (decide_eq_true_iff.mp hc428)
      exact g_move (v := .slice a1 n1 c1) rfl
    obtain ⟨r430, hk431, hm⟩ := hm
    refine wl_guardE (X := Ext) (c := (decide (v416 < (p1.length : Int))) = true) (val := .bool r430) (Ext.refl _) (b := ((decide (v416 < (p1.length : Int))) == true)) (gv_some rfl rfl rfl) beq_iff_eq (fun hc429 => ?_) (fun w432 hE433 => ?_)
    · have hcq6 : v416 < (p1.length : Int) := (decide_eq_true_iff.mp hc429)
      exact (g_call (vs := #[.int .i64 p0, .slice a1 n1 c1]) CF59 (args2 (if_pos hc429) (if_pos hc429)) ((m_spec_CrossesOk_fn p0 ((hp1.bel hB422).up hS423) (hk431 hcq6)).mono fun _ _ ⟨_, h1, h2, h3⟩ => ⟨by rw [h2, h1], h3⟩))
    have hB434 := hB422.trans (Ext.stp hE433 hS423.base)
    have hS435 := hS423.ext hE433
    refine wl_val (g_pick_and (b := (decide (v416 < (p1.length : Int)))) (q := r430) rfl rfl) rfl ?_
    refine wl_nil ?_
    refine hK426 _ _ ?_
    refine w_condI (p := ((v416 < (p1.length : Int)) ∧ (r430 = true))) (b := ((decide (v416 < (p1.length : Int))) && r430)) rfl (i_and decide_eq_true_iff Iff.rfl) (fun h436 => ?_) (fun h436 => ?_)
    · replace hm := hm.1 h436
      refine w_skip ?_
      refine hK425 _ _ ?_
      refine w_seq fun K437 hK437 => ?_
      refine w_block ?_
      refine w_seq fun K438 hK438 => ?_
      refine w_region ?_
      refine wl_val (g_move (v := .slice a413 n414 c415) rfl) rfl ?_
      refine wl_val (q_len SL24 rfl (Vw.len (oS.vw hS435.g0))) rfl ?_
      refine wl_val (g_assign (v := .int .i64 (x412.length : Int)) rfl) rfl ?_
      refine wl_nil ?_
      refine hK438 _ _ ?_
      refine w_seq fun K439 hK439 => ?_
      refine w_draw (X := Ext) (Y := Ext) [] MIX (by decide +kernel) rfl Ext.refl (fun _ _ _ => Ext.trans) (fun _ _ _ => Chg.trans) (fun _ _ h => Ext.chg h _) (fun w440 hE441 => ?_)
      have hB442 := hB434.trans (Ext.stp hE441 hS435.base)
      have hS443 := hS435.ext hE441
      refine ⟨.int .i64 (x412.length : Int), fun w444 hX445 => od_plain rfl (by have hS446 := hS443.ext hX445; have hB447 := hB442.trans (Ext.stp hX445 hS443.base); exact is_ext (g_move (v := .int .i64 (x412.length : Int)) rfl)), ?_⟩
      refine ⟨.bool (decide ((x412.length : Int) > 0)), fun w448 hX449 => od_plain rfl (by have hS450 := hS443.ext hX449; have hB451 := hB442.trans (Ext.stp hX449 hS443.base); exact is_ext (g_gtr (a := (x412.length : Int)) (b := 0) rfl rfl)), ?_⟩
      refine ⟨.bool (decide ((x412.length : Int) > 0)), fun w452 hX453 => od_plain rfl (by have hS454 := hS443.ext hX453; have hB455 := hB442.trans (Ext.stp hX453 hS443.base); exact is_ext (g_move (v := .bool (decide ((x412.length : Int) > 0))) rfl)), ?_⟩
      refine ⟨if (decide ((x412.length : Int) > 0)) = true then .slice a413 n414 c415 else undef, fun w456 hX457 => od_guard (c := (decide ((x412.length : Int) > 0)) = true) (val := .slice a413 n414 c415) (b := ((decide ((x412.length : Int) > 0)) == true)) (gv_some rfl rfl rfl) beq_iff_eq (fun hc460 => ?_), ?_⟩
      · have hS458 := hS443.ext hX457
        have hB459 := hB442.trans (Ext.stp hX457 hS443.base)
        have hcq7 : (x412.length : Int) > 0 := (decide_eq_true_iff.mp hc460)
        exact is_ext (g_move (v := .slice a413 n414 c415) rfl)
      refine ⟨if (decide ((x412.length : Int) > 0)) = true then .int .i64 (x412.length : Int) else undef, fun w461 hX462 => od_guard (c := (decide ((x412.length : Int) > 0)) = true) (val := .int .i64 (x412.length : Int)) (b := ((decide ((x412.length : Int) > 0)) == true)) (gv_some rfl rfl rfl) beq_iff_eq (fun hc465 => ?_), ?_⟩
      · have hS463 := hS443.ext hX462
        have hB464 := hB442.trans (Ext.stp hX462 hS443.base)
        have hcq7 : (x412.length : Int) > 0 := (decide_eq_true_iff.mp hc465)
        exact is_ext (g_move (v := .int .i64 (x412.length : Int)) rfl)
      obtain ⟨hg471, hm⟩ := hm
      refine ⟨if (decide ((x412.length : Int) > 0)) = true then .int .i64 ((x412.length : Int) - 1) else undef, fun w466 hX467 => od_guard (c := (decide ((x412.length : Int) > 0)) = true) (val := .int .i64 ((x412.length : Int) - 1)) (b := ((decide ((x412.length : Int) > 0)) == true)) (gv_some rfl rfl rfl) beq_iff_eq (fun hc470 => ?_), ?_⟩
      · have hS468 := hS443.ext hX467
        have hB469 := hB442.trans (Ext.stp hX467 hS443.base)
        have hcq7 : (x412.length : Int) > 0 := (decide_eq_true_iff.mp hc470)
        exact is_ext (g_sub (a := (x412.length : Int)) (b := 1) (if_pos hc470) rfl (hg471 hcq7))
      obtain ⟨hg477, hm⟩ := hm
      refine ⟨if (decide ((x412.length : Int) > 0)) = true then .pointer (some ((adr a413).add ((Int.toNat ((x412.length : Int) - 1)) * El.m Cross))) else undef, fun w472 hX473 => od_guard (c := (decide ((x412.length : Int) > 0)) = true) (val := .pointer (some ((adr a413).add ((Int.toNat ((x412.length : Int) - 1)) * El.m Cross)))) (b := ((decide ((x412.length : Int) > 0)) == true)) (gv_some rfl rfl rfl) beq_iff_eq (fun hc476 => ?_), ?_⟩
      · have hS474 := hS443.ext hX473
        have hB475 := hB442.trans (Ext.stp hX473 hS443.base)
        have hcq7 : (x412.length : Int) > 0 := (decide_eq_true_iff.mp hc476)
        exact is_ext (q_index (i := ((x412.length : Int) - 1)) SL24 (if_pos hc476) (if_pos hc476) (oS.vw hS474.g0) (hg477 hcq7))
      refine ⟨if (decide ((x412.length : Int) > 0)) = true then .pointer (some (((adr a413).add ((Int.toNat ((x412.length : Int) - 1)) * El.m Cross)).add 0)) else undef, fun w478 hX479 => od_guard (c := (decide ((x412.length : Int) > 0)) = true) (val := .pointer (some (((adr a413).add ((Int.toNat ((x412.length : Int) - 1)) * El.m Cross)).add 0))) (b := ((decide ((x412.length : Int) > 0)) == true)) (gv_some rfl rfl rfl) beq_iff_eq (fun hc482 => ?_), ?_⟩
      · have hS480 := hS443.ext hX479
        have hB481 := hB442.trans (Ext.stp hX479 hS443.base)
        have hcq7 : (x412.length : Int) > 0 := (decide_eq_true_iff.mp hc482)
        exact is_ext (g_fieldAddr (q := (adr a413).add ((Int.toNat ((x412.length : Int) - 1)) * El.m Cross)) FL56_0 ON3 (if_pos hc482))
      refine ⟨if (decide ((x412.length : Int) > 0)) = true then .int .i64 (x412[(Int.toNat ((x412.length : Int) - 1))]!.1) else undef, fun w483 hX484 => od_guard (c := (decide ((x412.length : Int) > 0)) = true) (val := .int .i64 (x412[(Int.toNat ((x412.length : Int) - 1))]!.1)) (b := ((decide ((x412.length : Int) > 0)) == true)) (gv_some rfl rfl rfl) beq_iff_eq (fun hc487 => ?_), ?_⟩
      · have hS485 := hS443.ext hX484
        have hB486 := hB442.trans (Ext.stp hX484 hS443.base)
        have hcq7 : (x412.length : Int) > 0 := (decide_eq_true_iff.mp hc487)
        exact is_ext (q_loadF (i := ((x412.length : Int) - 1)) (j := 0) (v := .int .i64 (x412[(Int.toNat ((x412.length : Int) - 1))]!.1)) ON3 (oS.vw hS485.g0) (hg477 hcq7) rfl (if_pos hc487))
      refine ⟨if (decide ((x412.length : Int) > 0)) = true then .slice a1 n1 c1 else undef, fun w488 hX489 => od_guard (c := (decide ((x412.length : Int) > 0)) = true) (val := .slice a1 n1 c1) (b := ((decide ((x412.length : Int) > 0)) == true)) (gv_some rfl rfl rfl) beq_iff_eq (fun hc492 => ?_), ?_⟩
      · have hS490 := hS443.ext hX489
        have hB491 := hB442.trans (Ext.stp hX489 hS443.base)
        have hcq7 : (x412.length : Int) > 0 := (decide_eq_true_iff.mp hc492)
        exact is_ext (g_move (v := .slice a1 n1 c1) rfl)
      refine ⟨if (decide ((x412.length : Int) > 0)) = true then .int .i64 v416 else undef, fun w493 hX494 => od_guard (c := (decide ((x412.length : Int) > 0)) = true) (val := .int .i64 v416) (b := ((decide ((x412.length : Int) > 0)) == true)) (gv_some rfl rfl rfl) beq_iff_eq (fun hc497 => ?_), ?_⟩
      · have hS495 := hS443.ext hX494
        have hB496 := hB442.trans (Ext.stp hX494 hS443.base)
        have hcq7 : (x412.length : Int) > 0 := (decide_eq_true_iff.mp hc497)
        exact is_ext (g_move (v := .int .i64 v416) rfl)
      obtain ⟨hg503, hm⟩ := hm
      refine ⟨if (decide ((x412.length : Int) > 0)) = true then .pointer (some ((adr a1).add ((Int.toNat v416) * El.m Cross))) else undef, fun w498 hX499 => od_guard (c := (decide ((x412.length : Int) > 0)) = true) (val := .pointer (some ((adr a1).add ((Int.toNat v416) * El.m Cross)))) (b := ((decide ((x412.length : Int) > 0)) == true)) (gv_some rfl rfl rfl) beq_iff_eq (fun hc502 => ?_), ?_⟩
      · have hS500 := hS443.ext hX499
        have hB501 := hB442.trans (Ext.stp hX499 hS443.base)
        have hcq7 : (x412.length : Int) > 0 := (decide_eq_true_iff.mp hc502)
        exact is_ext (q_index (i := v416) SL24 (if_pos hc502) (if_pos hc502) (hp1.bel hB501) (hg503 hcq7))
      refine ⟨if (decide ((x412.length : Int) > 0)) = true then .pointer (some (((adr a1).add ((Int.toNat v416) * El.m Cross)).add 0)) else undef, fun w504 hX505 => od_guard (c := (decide ((x412.length : Int) > 0)) = true) (val := .pointer (some (((adr a1).add ((Int.toNat v416) * El.m Cross)).add 0))) (b := ((decide ((x412.length : Int) > 0)) == true)) (gv_some rfl rfl rfl) beq_iff_eq (fun hc508 => ?_), ?_⟩
      · have hS506 := hS443.ext hX505
        have hB507 := hB442.trans (Ext.stp hX505 hS443.base)
        have hcq7 : (x412.length : Int) > 0 := (decide_eq_true_iff.mp hc508)
        exact is_ext (g_fieldAddr (q := (adr a1).add ((Int.toNat v416) * El.m Cross)) FL56_0 ON3 (if_pos hc508))
      refine ⟨if (decide ((x412.length : Int) > 0)) = true then .int .i64 (p1[(Int.toNat v416)]!.1) else undef, fun w509 hX510 => od_guard (c := (decide ((x412.length : Int) > 0)) = true) (val := .int .i64 (p1[(Int.toNat v416)]!.1)) (b := ((decide ((x412.length : Int) > 0)) == true)) (gv_some rfl rfl rfl) beq_iff_eq (fun hc513 => ?_), ?_⟩
      · have hS511 := hS443.ext hX510
        have hB512 := hB442.trans (Ext.stp hX510 hS443.base)
        have hcq7 : (x412.length : Int) > 0 := (decide_eq_true_iff.mp hc513)
        exact is_ext (q_loadF (i := v416) (j := 0) (v := .int .i64 (p1[(Int.toNat v416)]!.1)) ON3 (hp1.bel hB512) (hg503 hcq7) rfl (if_pos hc513))
      refine ⟨if (decide ((x412.length : Int) > 0)) = true then .bool (decide (x412[(Int.toNat ((x412.length : Int) - 1))]!.1 = p1[(Int.toNat v416)]!.1)) else undef, fun w514 hX515 => od_guard (c := (decide ((x412.length : Int) > 0)) = true) (val := .bool (decide (x412[(Int.toNat ((x412.length : Int) - 1))]!.1 = p1[(Int.toNat v416)]!.1))) (b := ((decide ((x412.length : Int) > 0)) == true)) (gv_some rfl rfl rfl) beq_iff_eq (fun hc518 => ?_), ?_⟩
      · have hS516 := hS443.ext hX515
        have hB517 := hB442.trans (Ext.stp hX515 hS443.base)
        have hcq7 : (x412.length : Int) > 0 := (decide_eq_true_iff.mp hc518)
        exact is_ext (g_eql (a := x412[(Int.toNat ((x412.length : Int) - 1))]!.1) (b := p1[(Int.toNat v416)]!.1) (if_pos hc518) (if_pos hc518))
      refine ⟨.bool ((decide ((x412.length : Int) > 0)) && (decide (x412[(Int.toNat ((x412.length : Int) - 1))]!.1 = p1[(Int.toNat v416)]!.1))), fun w519 hX520 => od_plain rfl (by have hS521 := hS443.ext hX520; have hB522 := hB442.trans (Ext.stp hX520 hS443.base); exact is_ext (g_pick_and (b := (decide ((x412.length : Int) > 0))) (q := (decide (x412[(Int.toNat ((x412.length : Int) - 1))]!.1 = p1[(Int.toNat v416)]!.1))) rfl rfl)), ?_⟩
      refine ⟨.bool ((decide ((x412.length : Int) > 0)) && (decide (x412[(Int.toNat ((x412.length : Int) - 1))]!.1 = p1[(Int.toNat v416)]!.1))), fun w523 hX524 => od_plain rfl (by have hS525 := hS443.ext hX524; have hB526 := hB442.trans (Ext.stp hX524 hS443.base); exact is_ext (g_move (v := .bool ((decide ((x412.length : Int) > 0)) && (decide (x412[(Int.toNat ((x412.length : Int) - 1))]!.1 = p1[(Int.toNat v416)]!.1)))) rfl)), ?_⟩
      refine ⟨if ((decide ((x412.length : Int) > 0)) && (decide (x412[(Int.toNat ((x412.length : Int) - 1))]!.1 = p1[(Int.toNat v416)]!.1))) = true then .slice a413 n414 c415 else undef, fun w527 hX528 => od_guard (c := ((decide ((x412.length : Int) > 0)) && (decide (x412[(Int.toNat ((x412.length : Int) - 1))]!.1 = p1[(Int.toNat v416)]!.1))) = true) (val := .slice a413 n414 c415) (b := (((decide ((x412.length : Int) > 0)) && (decide (x412[(Int.toNat ((x412.length : Int) - 1))]!.1 = p1[(Int.toNat v416)]!.1))) == true)) (gv_some rfl rfl rfl) beq_iff_eq (fun hc531 => ?_), ?_⟩
      · have hS529 := hS443.ext hX528
        have hB530 := hB442.trans (Ext.stp hX528 hS443.base)
        have hcq8 : (((x412.length : Int) > 0) ∧ (x412[(Int.toNat ((x412.length : Int) - 1))]!.1 = p1[(Int.toNat v416)]!.1)) := ((i_and decide_eq_true_iff decide_eq_true_iff).mp hc531)
        exact is_ext (g_move (v := .slice a413 n414 c415) rfl)
      refine ⟨if ((decide ((x412.length : Int) > 0)) && (decide (x412[(Int.toNat ((x412.length : Int) - 1))]!.1 = p1[(Int.toNat v416)]!.1))) = true then .int .i64 (x412.length : Int) else undef, fun w532 hX533 => od_guard (c := ((decide ((x412.length : Int) > 0)) && (decide (x412[(Int.toNat ((x412.length : Int) - 1))]!.1 = p1[(Int.toNat v416)]!.1))) = true) (val := .int .i64 (x412.length : Int)) (b := (((decide ((x412.length : Int) > 0)) && (decide (x412[(Int.toNat ((x412.length : Int) - 1))]!.1 = p1[(Int.toNat v416)]!.1))) == true)) (gv_some rfl rfl rfl) beq_iff_eq (fun hc536 => ?_), ?_⟩
      · have hS534 := hS443.ext hX533
        have hB535 := hB442.trans (Ext.stp hX533 hS443.base)
        have hcq8 : (((x412.length : Int) > 0) ∧ (x412[(Int.toNat ((x412.length : Int) - 1))]!.1 = p1[(Int.toNat v416)]!.1)) := ((i_and decide_eq_true_iff decide_eq_true_iff).mp hc536)
        exact is_ext (g_move (v := .int .i64 (x412.length : Int)) rfl)
      obtain ⟨hg542, hm⟩ := hm
      refine ⟨if ((decide ((x412.length : Int) > 0)) && (decide (x412[(Int.toNat ((x412.length : Int) - 1))]!.1 = p1[(Int.toNat v416)]!.1))) = true then .int .i64 ((x412.length : Int) - 1) else undef, fun w537 hX538 => od_guard (c := ((decide ((x412.length : Int) > 0)) && (decide (x412[(Int.toNat ((x412.length : Int) - 1))]!.1 = p1[(Int.toNat v416)]!.1))) = true) (val := .int .i64 ((x412.length : Int) - 1)) (b := (((decide ((x412.length : Int) > 0)) && (decide (x412[(Int.toNat ((x412.length : Int) - 1))]!.1 = p1[(Int.toNat v416)]!.1))) == true)) (gv_some rfl rfl rfl) beq_iff_eq (fun hc541 => ?_), ?_⟩
      · have hS539 := hS443.ext hX538
        have hB540 := hB442.trans (Ext.stp hX538 hS443.base)
        have hcq8 : (((x412.length : Int) > 0) ∧ (x412[(Int.toNat ((x412.length : Int) - 1))]!.1 = p1[(Int.toNat v416)]!.1)) := ((i_and decide_eq_true_iff decide_eq_true_iff).mp hc541)
        exact is_ext (g_sub (a := (x412.length : Int)) (b := 1) (if_pos hc541) rfl (hg542 hcq8))
      obtain ⟨hg548, hm⟩ := hm
      refine ⟨if ((decide ((x412.length : Int) > 0)) && (decide (x412[(Int.toNat ((x412.length : Int) - 1))]!.1 = p1[(Int.toNat v416)]!.1))) = true then .pointer (some ((adr a413).add ((Int.toNat ((x412.length : Int) - 1)) * El.m Cross))) else undef, fun w543 hX544 => od_guard (c := ((decide ((x412.length : Int) > 0)) && (decide (x412[(Int.toNat ((x412.length : Int) - 1))]!.1 = p1[(Int.toNat v416)]!.1))) = true) (val := .pointer (some ((adr a413).add ((Int.toNat ((x412.length : Int) - 1)) * El.m Cross)))) (b := (((decide ((x412.length : Int) > 0)) && (decide (x412[(Int.toNat ((x412.length : Int) - 1))]!.1 = p1[(Int.toNat v416)]!.1))) == true)) (gv_some rfl rfl rfl) beq_iff_eq (fun hc547 => ?_), ?_⟩
      · have hS545 := hS443.ext hX544
        have hB546 := hB442.trans (Ext.stp hX544 hS443.base)
        have hcq8 : (((x412.length : Int) > 0) ∧ (x412[(Int.toNat ((x412.length : Int) - 1))]!.1 = p1[(Int.toNat v416)]!.1)) := ((i_and decide_eq_true_iff decide_eq_true_iff).mp hc547)
        exact is_ext (q_index (i := ((x412.length : Int) - 1)) SL24 (if_pos hc547) (if_pos hc547) (oS.vw hS545.g0) (hg548 hcq8))
      refine ⟨if ((decide ((x412.length : Int) > 0)) && (decide (x412[(Int.toNat ((x412.length : Int) - 1))]!.1 = p1[(Int.toNat v416)]!.1))) = true then .pointer (some (((adr a413).add ((Int.toNat ((x412.length : Int) - 1)) * El.m Cross)).add 1)) else undef, fun w549 hX550 => od_guard (c := ((decide ((x412.length : Int) > 0)) && (decide (x412[(Int.toNat ((x412.length : Int) - 1))]!.1 = p1[(Int.toNat v416)]!.1))) = true) (val := .pointer (some (((adr a413).add ((Int.toNat ((x412.length : Int) - 1)) * El.m Cross)).add 1))) (b := (((decide ((x412.length : Int) > 0)) && (decide (x412[(Int.toNat ((x412.length : Int) - 1))]!.1 = p1[(Int.toNat v416)]!.1))) == true)) (gv_some rfl rfl rfl) beq_iff_eq (fun hc553 => ?_), ?_⟩
      · have hS551 := hS443.ext hX550
        have hB552 := hB442.trans (Ext.stp hX550 hS443.base)
        have hcq8 : (((x412.length : Int) > 0) ∧ (x412[(Int.toNat ((x412.length : Int) - 1))]!.1 = p1[(Int.toNat v416)]!.1)) := ((i_and decide_eq_true_iff decide_eq_true_iff).mp hc553)
        exact is_ext (g_fieldAddr (q := (adr a413).add ((Int.toNat ((x412.length : Int) - 1)) * El.m Cross)) FL56_1 ON4 (if_pos hc553))
      refine ⟨if ((decide ((x412.length : Int) > 0)) && (decide (x412[(Int.toNat ((x412.length : Int) - 1))]!.1 = p1[(Int.toNat v416)]!.1))) = true then .bool (x412[(Int.toNat ((x412.length : Int) - 1))]!.2) else undef, fun w554 hX555 => od_guard (c := ((decide ((x412.length : Int) > 0)) && (decide (x412[(Int.toNat ((x412.length : Int) - 1))]!.1 = p1[(Int.toNat v416)]!.1))) = true) (val := .bool (x412[(Int.toNat ((x412.length : Int) - 1))]!.2)) (b := (((decide ((x412.length : Int) > 0)) && (decide (x412[(Int.toNat ((x412.length : Int) - 1))]!.1 = p1[(Int.toNat v416)]!.1))) == true)) (gv_some rfl rfl rfl) beq_iff_eq (fun hc558 => ?_), ?_⟩
      · have hS556 := hS443.ext hX555
        have hB557 := hB442.trans (Ext.stp hX555 hS443.base)
        have hcq8 : (((x412.length : Int) > 0) ∧ (x412[(Int.toNat ((x412.length : Int) - 1))]!.1 = p1[(Int.toNat v416)]!.1)) := ((i_and decide_eq_true_iff decide_eq_true_iff).mp hc558)
        exact is_ext (q_loadF (i := ((x412.length : Int) - 1)) (j := 1) (v := .bool (x412[(Int.toNat ((x412.length : Int) - 1))]!.2)) ON4 (oS.vw hS556.g0) (hg548 hcq8) rfl (if_pos hc558))
      refine ⟨if ((decide ((x412.length : Int) > 0)) && (decide (x412[(Int.toNat ((x412.length : Int) - 1))]!.1 = p1[(Int.toNat v416)]!.1))) = true then .slice a1 n1 c1 else undef, fun w559 hX560 => od_guard (c := ((decide ((x412.length : Int) > 0)) && (decide (x412[(Int.toNat ((x412.length : Int) - 1))]!.1 = p1[(Int.toNat v416)]!.1))) = true) (val := .slice a1 n1 c1) (b := (((decide ((x412.length : Int) > 0)) && (decide (x412[(Int.toNat ((x412.length : Int) - 1))]!.1 = p1[(Int.toNat v416)]!.1))) == true)) (gv_some rfl rfl rfl) beq_iff_eq (fun hc563 => ?_), ?_⟩
      · have hS561 := hS443.ext hX560
        have hB562 := hB442.trans (Ext.stp hX560 hS443.base)
        have hcq8 : (((x412.length : Int) > 0) ∧ (x412[(Int.toNat ((x412.length : Int) - 1))]!.1 = p1[(Int.toNat v416)]!.1)) := ((i_and decide_eq_true_iff decide_eq_true_iff).mp hc563)
        exact is_ext (g_move (v := .slice a1 n1 c1) rfl)
      refine ⟨if ((decide ((x412.length : Int) > 0)) && (decide (x412[(Int.toNat ((x412.length : Int) - 1))]!.1 = p1[(Int.toNat v416)]!.1))) = true then .int .i64 v416 else undef, fun w564 hX565 => od_guard (c := ((decide ((x412.length : Int) > 0)) && (decide (x412[(Int.toNat ((x412.length : Int) - 1))]!.1 = p1[(Int.toNat v416)]!.1))) = true) (val := .int .i64 v416) (b := (((decide ((x412.length : Int) > 0)) && (decide (x412[(Int.toNat ((x412.length : Int) - 1))]!.1 = p1[(Int.toNat v416)]!.1))) == true)) (gv_some rfl rfl rfl) beq_iff_eq (fun hc568 => ?_), ?_⟩
      · have hS566 := hS443.ext hX565
        have hB567 := hB442.trans (Ext.stp hX565 hS443.base)
        have hcq8 : (((x412.length : Int) > 0) ∧ (x412[(Int.toNat ((x412.length : Int) - 1))]!.1 = p1[(Int.toNat v416)]!.1)) := ((i_and decide_eq_true_iff decide_eq_true_iff).mp hc568)
        exact is_ext (g_move (v := .int .i64 v416) rfl)
      obtain ⟨hg574, hm⟩ := hm
      refine ⟨if ((decide ((x412.length : Int) > 0)) && (decide (x412[(Int.toNat ((x412.length : Int) - 1))]!.1 = p1[(Int.toNat v416)]!.1))) = true then .pointer (some ((adr a1).add ((Int.toNat v416) * El.m Cross))) else undef, fun w569 hX570 => od_guard (c := ((decide ((x412.length : Int) > 0)) && (decide (x412[(Int.toNat ((x412.length : Int) - 1))]!.1 = p1[(Int.toNat v416)]!.1))) = true) (val := .pointer (some ((adr a1).add ((Int.toNat v416) * El.m Cross)))) (b := (((decide ((x412.length : Int) > 0)) && (decide (x412[(Int.toNat ((x412.length : Int) - 1))]!.1 = p1[(Int.toNat v416)]!.1))) == true)) (gv_some rfl rfl rfl) beq_iff_eq (fun hc573 => ?_), ?_⟩
      · have hS571 := hS443.ext hX570
        have hB572 := hB442.trans (Ext.stp hX570 hS443.base)
        have hcq8 : (((x412.length : Int) > 0) ∧ (x412[(Int.toNat ((x412.length : Int) - 1))]!.1 = p1[(Int.toNat v416)]!.1)) := ((i_and decide_eq_true_iff decide_eq_true_iff).mp hc573)
        exact is_ext (q_index (i := v416) SL24 (if_pos hc573) (if_pos hc573) (hp1.bel hB572) (hg574 hcq8))
      refine ⟨if ((decide ((x412.length : Int) > 0)) && (decide (x412[(Int.toNat ((x412.length : Int) - 1))]!.1 = p1[(Int.toNat v416)]!.1))) = true then .pointer (some (((adr a1).add ((Int.toNat v416) * El.m Cross)).add 1)) else undef, fun w575 hX576 => od_guard (c := ((decide ((x412.length : Int) > 0)) && (decide (x412[(Int.toNat ((x412.length : Int) - 1))]!.1 = p1[(Int.toNat v416)]!.1))) = true) (val := .pointer (some (((adr a1).add ((Int.toNat v416) * El.m Cross)).add 1))) (b := (((decide ((x412.length : Int) > 0)) && (decide (x412[(Int.toNat ((x412.length : Int) - 1))]!.1 = p1[(Int.toNat v416)]!.1))) == true)) (gv_some rfl rfl rfl) beq_iff_eq (fun hc579 => ?_), ?_⟩
      · have hS577 := hS443.ext hX576
        have hB578 := hB442.trans (Ext.stp hX576 hS443.base)
        have hcq8 : (((x412.length : Int) > 0) ∧ (x412[(Int.toNat ((x412.length : Int) - 1))]!.1 = p1[(Int.toNat v416)]!.1)) := ((i_and decide_eq_true_iff decide_eq_true_iff).mp hc579)
        exact is_ext (g_fieldAddr (q := (adr a1).add ((Int.toNat v416) * El.m Cross)) FL56_1 ON4 (if_pos hc579))
      refine ⟨if ((decide ((x412.length : Int) > 0)) && (decide (x412[(Int.toNat ((x412.length : Int) - 1))]!.1 = p1[(Int.toNat v416)]!.1))) = true then .bool (p1[(Int.toNat v416)]!.2) else undef, fun w580 hX581 => od_guard (c := ((decide ((x412.length : Int) > 0)) && (decide (x412[(Int.toNat ((x412.length : Int) - 1))]!.1 = p1[(Int.toNat v416)]!.1))) = true) (val := .bool (p1[(Int.toNat v416)]!.2)) (b := (((decide ((x412.length : Int) > 0)) && (decide (x412[(Int.toNat ((x412.length : Int) - 1))]!.1 = p1[(Int.toNat v416)]!.1))) == true)) (gv_some rfl rfl rfl) beq_iff_eq (fun hc584 => ?_), ?_⟩
      · have hS582 := hS443.ext hX581
        have hB583 := hB442.trans (Ext.stp hX581 hS443.base)
        have hcq8 : (((x412.length : Int) > 0) ∧ (x412[(Int.toNat ((x412.length : Int) - 1))]!.1 = p1[(Int.toNat v416)]!.1)) := ((i_and decide_eq_true_iff decide_eq_true_iff).mp hc584)
        exact is_ext (q_loadF (i := v416) (j := 1) (v := .bool (p1[(Int.toNat v416)]!.2)) ON4 (hp1.bel hB583) (hg574 hcq8) rfl (if_pos hc584))
      refine ⟨if ((decide ((x412.length : Int) > 0)) && (decide (x412[(Int.toNat ((x412.length : Int) - 1))]!.1 = p1[(Int.toNat v416)]!.1))) = true then .bool (decide ((x412[(Int.toNat ((x412.length : Int) - 1))]!.2) ≠ (p1[(Int.toNat v416)]!.2))) else undef, fun w585 hX586 => od_guard (c := ((decide ((x412.length : Int) > 0)) && (decide (x412[(Int.toNat ((x412.length : Int) - 1))]!.1 = p1[(Int.toNat v416)]!.1))) = true) (val := .bool (decide ((x412[(Int.toNat ((x412.length : Int) - 1))]!.2) ≠ (p1[(Int.toNat v416)]!.2)))) (b := (((decide ((x412.length : Int) > 0)) && (decide (x412[(Int.toNat ((x412.length : Int) - 1))]!.1 = p1[(Int.toNat v416)]!.1))) == true)) (gv_some rfl rfl rfl) beq_iff_eq (fun hc589 => ?_), ?_⟩
      · have hS587 := hS443.ext hX586
        have hB588 := hB442.trans (Ext.stp hX586 hS443.base)
        have hcq8 : (((x412.length : Int) > 0) ∧ (x412[(Int.toNat ((x412.length : Int) - 1))]!.1 = p1[(Int.toNat v416)]!.1)) := ((i_and decide_eq_true_iff decide_eq_true_iff).mp hc589)
        exact is_ext (g_neq_b (a := (x412[(Int.toNat ((x412.length : Int) - 1))]!.2)) (b := (p1[(Int.toNat v416)]!.2)) UB (if_pos hc589) (if_pos hc589))
      refine ⟨.bool (((decide ((x412.length : Int) > 0)) && (decide (x412[(Int.toNat ((x412.length : Int) - 1))]!.1 = p1[(Int.toNat v416)]!.1))) && (decide ((x412[(Int.toNat ((x412.length : Int) - 1))]!.2) ≠ (p1[(Int.toNat v416)]!.2)))), fun w590 hX591 => od_plain rfl (by have hS592 := hS443.ext hX591; have hB593 := hB442.trans (Ext.stp hX591 hS443.base); exact is_ext (g_pick_and (b := ((decide ((x412.length : Int) > 0)) && (decide (x412[(Int.toNat ((x412.length : Int) - 1))]!.1 = p1[(Int.toNat v416)]!.1)))) (q := (decide ((x412[(Int.toNat ((x412.length : Int) - 1))]!.2) ≠ (p1[(Int.toNat v416)]!.2)))) rfl rfl)), ?_⟩
      intro w594 hX595
      have hB596 := hB442.trans (Ext.stp hX595 hS443.base)
      have hS597 := hS443.ext hX595
      refine hK439 _ _ ?_
      refine w_condI (p := (((((x412.length : Int) > 0) ∧ (x412[(Int.toNat ((x412.length : Int) - 1))]!.1 = p1[(Int.toNat v416)]!.1))) ∧ ((x412[(Int.toNat ((x412.length : Int) - 1))]!.2) ≠ (p1[(Int.toNat v416)]!.2)))) (b := (((decide ((x412.length : Int) > 0)) && (decide (x412[(Int.toNat ((x412.length : Int) - 1))]!.1 = p1[(Int.toNat v416)]!.1))) && (decide ((x412[(Int.toNat ((x412.length : Int) - 1))]!.2) ≠ (p1[(Int.toNat v416)]!.2))))) rfl (i_and (i_and decide_eq_true_iff decide_eq_true_iff) decide_eq_true_iff) (fun h598 => ?_) (fun h598 => ?_)
      · replace hm := hm.1 h598
        refine w_region ?_
        refine wl_val (g_move (v := .slice a413 n414 c415) rfl) rfl ?_
        refine wl_val (g_move (v := .int .i64 (x412.length : Int)) rfl) rfl ?_
        obtain ⟨hg599, hm⟩ := hm
        refine wl_val (g_sub (a := (x412.length : Int)) (b := 1) rfl rfl hg599) rfl ?_
        obtain ⟨hg600, hm⟩ := hm
        refine wl_val (q_sliceH (h := ((x412.length : Int) - 1)) SL24 rfl rfl (oS.vw hS597.g0) hg600) rfl ?_
        refine wl_val (g_assign (v := .slice a413 (Int.toNat ((x412.length : Int) - 1)) c415) rfl) rfl ?_
        refine wl_nil ?_
        refine hK437 _ _ ?_
        refine w_region ?_
        refine wl_val (g_move (v := .int .i64 v416) rfl) rfl ?_
        obtain ⟨hg601, hm⟩ := hm
        refine wl_val (g_add (a := v416) (b := 1) rfl rfl hg601) rfl ?_
        refine wl_val (g_assign (v := .int .i64 (v416 + 1)) rfl) rfl ?_
        refine wl_nil ?_
        have hS602 := hS597.cut (Int.toNat ((x412.length : Int) - 1)) (tn_le hg600)
        exact ⟨((x412.take (Int.toNat ((x412.length : Int) - 1))), a413, (Int.toNat ((x412.length : Int) - 1)), c415, (v416 + 1)), hm.2, ⟨rfl, rfl, rfl, rfl, trivial⟩, ⟨hm.1, hB596, hS602⟩⟩
      · replace hm := hm.2 h598
        refine w_region ?_
        refine wl_val (g_move (v := .slice a413 n414 c415) rfl) rfl ?_
        refine wl_val (g_move (v := .slice a1 n1 c1) rfl) rfl ?_
        refine wl_val (g_move (v := .int .i64 v416) rfl) rfl ?_
        obtain ⟨hg603, hm⟩ := hm
        refine wl_val (q_index (i := v416) SL24 rfl rfl (hp1.bel hB596) hg603) rfl ?_
        refine wl_val (q_loadS (i := v416) (cs := [.int .i64 (p1[(Int.toNat v416)]!.1), .bool (p1[(Int.toNat v416)]!.2)]) AG56 (hp1.bel hB596) hg603 rfl rfl) rfl ?_
        refine wl_step rfl (q_lit1 (y := (p1[(Int.toNat v416)]! : Cross)) SL24 rfl rfl (by decide) hS597) ?_
        rintro _ w604 ⟨a605, rfl, hS607, hE606⟩
        have hB609 := hB596.trans (Ext.stp hE606 hS597.base)
        have hS615 := hS607.f1
        obtain ⟨hg616, hm⟩ := hm
        refine wl_step rfl (q_append SL24 rfl rfl hS615 (oS.vw hS615.g1) hg616 (by decide)) ?_
        rintro _ w610 ⟨a611, c612, rfl, hS614, hb613⟩
        have hB617 := hB609.trans hb613
        refine wl_val (g_assign (v := .slice a611 (n414 + 1) c612) rfl) rfl ?_
        refine wl_nil ?_
        refine hK437 _ _ ?_
        refine w_region ?_
        refine wl_val (g_move (v := .int .i64 v416) rfl) rfl ?_
        obtain ⟨hg618, hm⟩ := hm
        refine wl_val (g_add (a := v416) (b := 1) rfl rfl hg618) rfl ?_
        refine wl_val (g_assign (v := .int .i64 (v416 + 1)) rfl) rfl ?_
        refine wl_nil ?_
        have hS619 := hS614.f1
        have hS620 := hS619.tail
        exact ⟨((x412 ++ ([p1[(Int.toNat v416)]!])), a611, (n414 + 1), c612, (v416 + 1)), hm.2, ⟨rfl, rfl, rfl, rfl, trivial⟩, ⟨hm.1, hB617, hS620⟩⟩
    · replace hm := hm.2 h436
      refine w_exit ?_
      exact ⟨(x412, a413, n414, c415), ⟨rfl, trivial⟩, ⟨hm, hB434, hS435⟩⟩
  · rintro ⟨x406, a407, n408, c409⟩ b_ w621 ⟨hm, hB622, hS623⟩
    show Wp _ _ _ _ (upds b_ [(5, .slice a407 n408 c409)]) w621
    refine w_seq fun K624 hK624 => ?_
    refine w_region ?_
    refine wl_val (g_move (v := .slice a407 n408 c409) rfl) rfl ?_
    refine wl_val (g_assign (v := .slice a407 n408 c409) rfl) rfl ?_
    refine wl_nil ?_
    refine hK624 _ _ ?_
    refine w_ret ?_
    repeat first | with_reducible refine q_then ?_ | with_reducible refine q_block ?_
    exact ret1 rfl (by decide) ⟨_, _, _, _, hm, rfl, toExt hB622, hS623⟩

theorem m_impl_TotalTwist_fn {w : World} {a1 : Option Addr} {n1 c1 : Nat} {p1 : List Cross} {Q : Int → Prop} (p0 : Int) (hp1 : Vw w.heap.size w a1 n1 c1 p1) (hm : m_impl_TotalTwist p0 p1 Q) :
    Fn Try.prog 32 #[.int .i64 p0, .slice a1 n1 c1] w (fun v w' => ∃ (r0 : Int), Q r0 ∧ v = .int .i64 r0 ∧ Ext w w') := by
  unfold m_impl_TotalTwist at hm
  have hB0 := Below.refl w.heap.size w
  have hS0 : Sep w w.heap.size [] := Sep.nil (Nat.le_refl _)
  refine fn_of_wp Try.func32 rfl (by kernel_rfl) (Nat.le_of_ble_eq_true rfl) ?_
  refine w_seq fun K1 hK1 => ?_
  refine w_region ?_
  refine wl_val (g_assign (v := .int .i64 0) rfl) rfl ?_
  refine wl_nil ?_
  refine hK1 _ _ ?_
  refine w_seq fun K2 hK2 => ?_
  refine w_seq fun K3 hK3 => ?_
  refine w_region ?_
  refine wl_val (g_move (v := .int .i64 p0) rfl) rfl ?_
  refine wl_val (g_move (v := .slice a1 n1 c1) rfl) rfl ?_
  refine wl_step rfl (g_call (vs := #[.int .i64 p0, .slice a1 n1 c1]) CF57 (args2 rfl rfl) (m_impl_CrossesOk_fn p0 ((hp1.bel hB0).up hS0) hm)) ?_
  rintro _ w4 ⟨r7, hm, rfl, hE5⟩
  have hB8 := hB0.trans (Ext.stp hE5 hS0.base)
  have hS9 := hS0.ext hE5
  refine wl_val (g_not (a := r7) rfl) rfl ?_
  refine wl_nil ?_
  refine hK3 _ _ ?_
  refine w_condI (p := ¬ (r7 = true)) (b := (!r7)) rfl (i_not Iff.rfl) (fun h10 => ?_) (fun h10 => ?_)
  · replace hm := hm.1 h10
    refine w_seq fun K11 hK11 => ?_
    refine w_region ?_
    refine wl_val (g_assign (v := .int .i64 0) rfl) rfl ?_
    refine wl_nil ?_
    refine hK11 _ _ ?_
    refine w_ret ?_
    repeat first | with_reducible refine q_then ?_ | with_reducible refine q_block ?_
    exact ret1 rfl (by decide) ⟨_, hm, rfl, toExt hB8⟩
  · replace hm := hm.2 h10
    refine w_skip ?_
    refine hK2 _ _ ?_
    refine w_seq fun K12 hK12 => ?_
    refine w_region ?_
    refine wl_val (g_assign (v := .int .i64 0) rfl) rfl ?_
    refine wl_nil ?_
    refine hK12 _ _ ?_
    refine w_cut (σ := Int) (fun v77 => [(5, .int .i64 v77)]) (fun v77 w' => m_impl_TotalTwist_K0 Q v77 ∧ Below w.heap.size w w' ∧ Sep w' w.heap.size []) ?_ ?_
    · refine w_seq fun K79 hK79 => ?_
      refine w_region ?_
      refine wl_val (g_move (v := .slice a1 n1 c1) rfl) rfl ?_
      refine wl_val (q_len SL24 rfl (Vw.len (hp1.bel hB8))) rfl ?_
      refine wl_val (g_move (v := .int .i64 0) rfl) rfl ?_
      refine wl_nil ?_
      refine hK79 _ _ ?_
      refine w_block ?_
      obtain ⟨I82, μ83, h084, hr85⟩ := hm
      refine w_for (σ := Int × Int) (fun ⟨v80, v81⟩ => [(5, .int .i64 v80), (12, .slice a1 n1 c1), (13, .int .i64 (p1.length : Int)), (14, .int .i64 v81)]) (fun ⟨v80, v81⟩ w' => I82 v80 v81 ∧ Below w.heap.size w w' ∧ Sep w' w.heap.size []) (fun ⟨v80, v81⟩ => μ83 v80 v81) (0, 0) ⟨rfl, rfl, rfl, rfl, trivial⟩ ⟨h084, hB8, hS9⟩ ?_
      rintro ⟨v80, v81⟩ b_ w86 ⟨hi_, hB87, hS88⟩
      show Wp _ _ _ _ (upds b_ [(5, .int .i64 v80), (12, .slice a1 n1 c1), (13, .int .i64 (p1.length : Int)), (14, .int .i64 v81)]) w86
      have hm := hr85 v80 v81 hi_
      refine w_seq fun K90 hK90 => ?_
      refine w_region ?_
      refine wl_val (g_lss (a := v81) (b := (p1.length : Int)) rfl rfl) rfl ?_
      refine wl_nil ?_
      refine hK90 _ _ ?_
      refine w_seq fun K91 hK91 => ?_
      refine w_condI (p := v81 < (p1.length : Int)) (b := (decide (v81 < (p1.length : Int)))) rfl decide_eq_true_iff (fun h92 => ?_) (fun h92 => ?_)
      · replace hm := hm.1 h92
        refine w_skip ?_
        refine hK91 _ _ ?_
        refine w_seq fun K93 hK93 => ?_
        refine w_block ?_
        refine w_seq fun K94 hK94 => ?_
        refine w_region ?_
        obtain ⟨hg95, hm⟩ := hm
        refine wl_val (q_index (i := v81) SL24 rfl rfl (hp1.bel hB87) hg95) rfl ?_
        refine wl_val (q_loadS (i := v81) (cs := [.int .i64 (p1[(Int.toNat v81)]!.1), .bool (p1[(Int.toNat v81)]!.2)]) AG56 (hp1.bel hB87) hg95 rfl rfl) rfl ?_
        refine wl_step rfl (q_alloc (cs := #[.int .i64 0, .bool false]) ZR56 rfl hS88) ?_
        rintro _ w96 ⟨g97, rfl, hS99, hE98⟩
        have hB101 := hB87.trans (Ext.stp hE98 hS88.base)
        refine wl_step rfl (q_storeB (i := 0) (bs' := #[.int .i64 (p1[(Int.toNat v81)]!.1), .bool (p1[(Int.toNat v81)]!.2)]) (vs := [.int .i64 (p1[(Int.toNat v81)]!.1), .bool (p1[(Int.toNat v81)]!.2)]) hS99 AG56.sz rfl rfl rfl (by simp [Value.oneCell']) (Nat.le_of_ble_eq_true rfl) rfl) ?_
        rintro _ w102 ⟨rfl, hS103, hb104⟩
        have hB105 := hB101.trans hb104
        refine wl_nil ?_
        refine hK94 _ _ ?_
        refine w_seq fun K106 hK106 => ?_
        refine w_region ?_
        refine wl_val (g_fieldAddr (q := (⟨g97, 0, none⟩ : Addr)) FL56_1 ON4 rfl) rfl ?_
        refine wl_val (q_loadB (i := 1) (bs := #[.int .i64 (p1[(Int.toNat v81)]!.1), .bool (p1[(Int.toNat v81)]!.2)]) hS103.g0 ON4 rfl rfl) rfl ?_
        refine wl_nil ?_
        refine hK106 _ _ ?_
        refine w_condI (p := (p1[(Int.toNat v81)]!.2) = true) (b := (p1[(Int.toNat v81)]!.2)) rfl Iff.rfl (fun h107 => ?_) (fun h107 => ?_)
        · replace hm := hm.1 h107
          refine w_region ?_
          refine wl_val (g_move (v := .int .i64 v80) rfl) rfl ?_
          obtain ⟨hg108, hm⟩ := hm
          refine wl_val (g_add (a := v80) (b := 1) rfl rfl hg108) rfl ?_
          refine wl_val (g_assign (v := .int .i64 (v80 + 1)) rfl) rfl ?_
          refine wl_nil ?_
          refine hK93 _ _ ?_
          refine w_region ?_
          obtain ⟨hg109, hm⟩ := hm
          refine wl_val (g_add (a := v81) (b := 1) rfl rfl hg109) rfl ?_
          refine wl_val (g_move (v := .int .i64 (v81 + 1)) rfl) rfl ?_
          refine wl_nil ?_
          have hS110 := hS103.tail
          exact ⟨((v80 + 1), (v81 + 1)), hm.2, ⟨rfl, rfl, rfl, rfl, trivial⟩, ⟨hm.1, hB105, hS110⟩⟩
        · replace hm := hm.2 h107
          refine w_region ?_
          refine wl_val (g_move (v := .int .i64 v80) rfl) rfl ?_
          obtain ⟨hg111, hm⟩ := hm
          refine wl_val (g_sub (a := v80) (b := 1) rfl rfl hg111) rfl ?_
          refine wl_val (g_assign (v := .int .i64 (v80 - 1)) rfl) rfl ?_
          refine wl_nil ?_
          refine hK93 _ _ ?_
          refine w_region ?_
          obtain ⟨hg112, hm⟩ := hm
          refine wl_val (g_add (a := v81) (b := 1) rfl rfl hg112) rfl ?_
          refine wl_val (g_move (v := .int .i64 (v81 + 1)) rfl) rfl ?_
          refine wl_nil ?_
          have hS113 := hS103.tail
          exact ⟨((v80 - 1), (v81 + 1)), hm.2, ⟨rfl, rfl, rfl, rfl, trivial⟩, ⟨hm.1, hB105, hS113⟩⟩
      · replace hm := hm.2 h92
        refine w_exit ?_
        exact ⟨(v80), ⟨rfl, trivial⟩, ⟨hm, hB87, hS88⟩⟩
    · rintro v77 b_ w114 ⟨hm, hB115, hS116⟩
      show Wp _ _ _ _ (upds b_ [(5, .int .i64 v77)]) w114
      refine w_seq fun K117 hK117 => ?_
      refine w_region ?_
      refine wl_val (g_move (v := .int .i64 v77) rfl) rfl ?_
      refine wl_val (g_assign (v := .int .i64 v77) rfl) rfl ?_
      refine wl_nil ?_
      refine hK117 _ _ ?_
      refine w_ret ?_
      repeat first | with_reducible refine q_then ?_ | with_reducible refine q_block ?_
      exact ret1 rfl (by decide) ⟨_, hm, rfl, toExt hB115⟩

theorem m_impl_size_fn {w : World}  {Q : Int → Prop} (p0 : Int) (hm : m_impl_size p0 Q) :
    Fn Try.prog 63 #[.int .i64 p0] w (fun v w' => ∃ (r0 : Int), Q r0 ∧ v = .int .i64 r0 ∧ Ext w w') := by
  unfold m_impl_size at hm
  have hB0 := Below.refl w.heap.size w
  have hS0 : Sep w w.heap.size [] := Sep.nil (Nat.le_refl _)
  refine fn_of_wp Try.func63 rfl (by kernel_rfl) (Nat.le_of_ble_eq_true rfl) ?_
  refine w_seq fun K1 hK1 => ?_
  refine w_region ?_
  refine wl_val (g_assign (v := .int .i64 0) rfl) rfl ?_
  refine wl_nil ?_
  refine hK1 _ _ ?_
  refine w_seq fun K2 hK2 => ?_
  refine w_region ?_
  refine wl_val (g_move (v := .int .i64 p0) rfl) rfl ?_
  refine wl_val (g_move (v := .int .i64 p0) rfl) rfl ?_
  obtain ⟨hg3, hm⟩ := hm
  refine wl_val (g_neg (a := p0) rfl hg3) rfl ?_
  refine wl_val (g_max (a := p0) (b := (-p0)) rfl rfl) rfl ?_
  refine wl_val (g_assign (v := .int .i64 (max p0 (-p0))) rfl) rfl ?_
  refine wl_nil ?_
  refine hK2 _ _ ?_
  refine w_ret ?_
  repeat first | with_reducible refine q_then ?_ | with_reducible refine q_block ?_
  exact ret1 rfl (by decide) ⟨_, hm, rfl, toExt hB0⟩

theorem m_impl_LeastUndoing_fn {w : World} {a1 : Option Addr} {n1 c1 : Nat} {p1 : List Cross} {Q : Int → Prop} (p0 : Int) (hp1 : Vw w.heap.size w a1 n1 c1 p1) (hm : m_impl_LeastUndoing p0 p1 Q) :
    Fn Try.prog 33 #[.int .i64 p0, .slice a1 n1 c1] w (fun v w' => ∃ (r0 : Int), Q r0 ∧ v = .int .i64 r0 ∧ Ext w w') := by
  unfold m_impl_LeastUndoing at hm
  have hB0 := Below.refl w.heap.size w
  have hS0 : Sep w w.heap.size [] := Sep.nil (Nat.le_refl _)
  refine fn_of_wp Try.func33 rfl (by kernel_rfl) (Nat.le_of_ble_eq_true rfl) ?_
  refine w_seq fun K1 hK1 => ?_
  refine w_region ?_
  refine wl_val (g_assign (v := .int .i64 0) rfl) rfl ?_
  refine wl_nil ?_
  refine hK1 _ _ ?_
  refine w_seq fun K2 hK2 => ?_
  refine w_seq fun K3 hK3 => ?_
  refine w_region ?_
  refine wl_val (g_move (v := .int .i64 p0) rfl) rfl ?_
  refine wl_val (g_move (v := .slice a1 n1 c1) rfl) rfl ?_
  refine wl_step rfl (g_call (vs := #[.int .i64 p0, .slice a1 n1 c1]) CF57 (args2 rfl rfl) (m_impl_CrossesOk_fn p0 ((hp1.bel hB0).up hS0) hm)) ?_
  rintro _ w4 ⟨r7, hm, rfl, hE5⟩
  have hB8 := hB0.trans (Ext.stp hE5 hS0.base)
  have hS9 := hS0.ext hE5
  refine wl_val (g_not (a := r7) rfl) rfl ?_
  refine wl_nil ?_
  refine hK3 _ _ ?_
  refine w_condI (p := ¬ (r7 = true)) (b := (!r7)) rfl (i_not Iff.rfl) (fun h10 => ?_) (fun h10 => ?_)
  · replace hm := hm.1 h10
    refine w_seq fun K11 hK11 => ?_
    refine w_region ?_
    refine wl_val (g_assign (v := .int .i64 (-1)) rfl) rfl ?_
    refine wl_nil ?_
    refine hK11 _ _ ?_
    refine w_ret ?_
    repeat first | with_reducible refine q_then ?_ | with_reducible refine q_block ?_
    exact ret1 rfl (by decide) ⟨_, hm, rfl, toExt hB8⟩
  · replace hm := hm.2 h10
    refine w_skip ?_
    refine hK2 _ _ ?_
    refine w_seq fun K12 hK12 => ?_
    refine w_region ?_
    refine wl_val (g_move (v := .int .i64 p0) rfl) rfl ?_
    refine wl_val (g_move (v := .slice a1 n1 c1) rfl) rfl ?_
    refine wl_step rfl (g_call (vs := #[.int .i64 p0, .slice a1 n1 c1]) CF58 (args2 rfl rfl) (m_impl_twists_fn p0 ((hp1.bel hB8).up hS9) hm)) ?_
    rintro _ w13 ⟨r16, a17, n18, c19, y20, hm, he21, rfl, hE14, hN15⟩
    have hS25 := hS9.call2 hE14 hN15
    have hB26 := hB8.trans (Ext.stp hE14 hS9.base)
    refine wl_val (g_assign (v := .slice a17 n18 c19) rfl) rfl ?_
    refine wl_val (g_assign (v := .int .i64 0) rfl) rfl ?_
    refine wl_nil ?_
    refine hK12 _ _ ?_
    refine w_cut (σ := Int) (fun v169 => [(6, .int .i64 v169)]) (fun v169 w' => m_impl_LeastUndoing_K1 Q v169 ∧ Below w.heap.size w w' ∧ Sep w' w.heap.size []) ?_ ?_
    · refine w_seq fun K171 hK171 => ?_
      refine w_region ?_
      refine wl_val (g_move (v := .int .i64 p0) rfl) rfl ?_
      refine wl_val (g_move (v := .int .i64 0) rfl) rfl ?_
      refine wl_nil ?_
      refine hK171 _ _ ?_
      refine w_block ?_
      obtain ⟨I174, μ175, h0176, hr177⟩ := hm
      refine w_for (σ := Int × Int) (fun ⟨v172, v173⟩ => [(0, .int .i64 p0), (5, .slice a17 n18 c19), (6, .int .i64 v172), (16, .int .i64 p0), (17, .int .i64 v173)]) (fun ⟨v172, v173⟩ w' => I174 v172 v173 ∧ Below w.heap.size w w' ∧ Sep w' w.heap.size [oS 39 a17 n18 c19 (y20 : List (Hd Int)), oT 3 (y20 : List (Hd Int))]) (fun ⟨v172, v173⟩ => μ175 v172 v173) (0, 0) ⟨rfl, rfl, rfl, rfl, rfl, trivial⟩ ⟨h0176, hB26, hS25⟩ ?_
      rintro ⟨v172, v173⟩ b_ w178 ⟨hi_, hB179, hS180⟩
      show Wp _ _ _ _ (upds b_ [(0, .int .i64 p0), (5, .slice a17 n18 c19), (6, .int .i64 v172), (16, .int .i64 p0), (17, .int .i64 v173)]) w178
      have hm := hr177 v172 v173 hi_
      refine w_seq fun K182 hK182 => ?_
      refine w_region ?_
      refine wl_val (g_lss (a := v173) (b := p0) rfl rfl) rfl ?_
      refine wl_nil ?_
      refine hK182 _ _ ?_
      refine w_seq fun K183 hK183 => ?_
      refine w_condI (p := v173 < p0) (b := (decide (v173 < p0))) rfl decide_eq_true_iff (fun h184 => ?_) (fun h184 => ?_)
      · replace hm := hm.1 h184
        refine w_skip ?_
        refine hK183 _ _ ?_
        refine w_cut (σ := Int) (fun v185 => [(0, .int .i64 p0), (5, .slice a17 n18 c19), (6, .int .i64 v185), (16, .int .i64 p0), (17, .int .i64 v173)]) (fun v185 w' => m_impl_LeastUndoing_K0 v173 (fun v172' v173' => I174 v172' v173' ∧ μ175 v172' v173' < μ175 v172 v173) v185 ∧ Below w.heap.size w w' ∧ Sep w' w.heap.size [oS 39 a17 n18 c19 (y20 : List (Hd Int)), oT 3 (y20 : List (Hd Int))]) ?_ ?_
        · refine w_block ?_
          refine w_seq fun K187 hK187 => ?_
          refine w_region ?_
          refine wl_val (g_move (v := .int .i64 v173) rfl) rfl ?_
          refine wl_val (g_assign (v := .int .i64 v173) rfl) rfl ?_
          refine wl_nil ?_
          refine hK187 _ _ ?_
          refine w_seq fun K188 hK188 => ?_
          refine w_region ?_
          refine wl_val (g_move (v := .int .i64 v173) rfl) rfl ?_
          obtain ⟨hg189, hm⟩ := hm
          refine wl_val (g_add (a := v173) (b := 1) rfl rfl hg189) rfl ?_
          refine wl_val (g_assign (v := .int .i64 (v173 + 1)) rfl) rfl ?_
          refine wl_nil ?_
          refine hK188 _ _ ?_
          refine w_block ?_
          obtain ⟨I192, μ193, h0194, hr195⟩ := hm
          refine w_for (σ := Int × Int) (fun ⟨v190, v191⟩ => [(0, .int .i64 p0), (5, .slice a17 n18 c19), (6, .int .i64 v190), (7, .int .i64 v173), (8, .int .i64 v191), (16, .int .i64 p0), (17, .int .i64 v173)]) (fun ⟨v190, v191⟩ w' => I192 v190 v191 ∧ Below w.heap.size w w' ∧ Sep w' w.heap.size [oS 39 a17 n18 c19 (y20 : List (Hd Int)), oT 3 (y20 : List (Hd Int))]) (fun ⟨v190, v191⟩ => μ193 v190 v191) (v172, (v173 + 1)) ⟨rfl, rfl, rfl, rfl, rfl, rfl, rfl, trivial⟩ ⟨h0194, hB179, hS180⟩ ?_
          rintro ⟨v190, v191⟩ b_ w196 ⟨hi_, hB197, hS198⟩
          show Wp _ _ _ _ (upds b_ [(0, .int .i64 p0), (5, .slice a17 n18 c19), (6, .int .i64 v190), (7, .int .i64 v173), (8, .int .i64 v191), (16, .int .i64 p0), (17, .int .i64 v173)]) w196
          have hm := hr195 v190 v191 hi_
          refine w_seq fun K200 hK200 => ?_
          refine w_seq fun K201 hK201 => ?_
          refine w_region ?_
          refine wl_val (g_move (v := .int .i64 v191) rfl) rfl ?_
          refine wl_val (g_move (v := .int .i64 p0) rfl) rfl ?_
          refine wl_val (g_lss (a := v191) (b := p0) rfl rfl) rfl ?_
          refine wl_nil ?_
          refine hK201 _ _ ?_
          refine w_condI (p := v191 < p0) (b := (decide (v191 < p0))) rfl decide_eq_true_iff (fun h202 => ?_) (fun h202 => ?_)
          · replace hm := hm.1 h202
            refine w_skip ?_
            refine hK200 _ _ ?_
            refine w_seq fun K203 hK203 => ?_
            refine w_block ?_
            refine w_region ?_
            refine wl_val (g_move (v := .int .i64 v190) rfl) rfl ?_
            refine wl_val (g_move (v := .slice a17 n18 c19) rfl) rfl ?_
            refine wl_val (g_move (v := .int .i64 v173) rfl) rfl ?_
            obtain ⟨hg204, hm⟩ := hm
            refine wl_val (q_index (i := v173) SL37 rfl rfl (Tv.o (oT.vw hS198.g0 hS198.g1 he21)) (Tv.g (oT.vw hS198.g0 hS198.g1 he21) hg204)) rfl ?_
            refine wl_val (q_load (i := v173) (v := .slice ((y20[(Int.toNat v173)]!).1) ((y20[(Int.toNat v173)]!).2.2.length) ((y20[(Int.toNat v173)]!).2.1)) ON39 (Tv.o (oT.vw hS198.g0 hS198.g1 he21)) (Tv.g (oT.vw hS198.g0 hS198.g1 he21) hg204) rfl rfl) rfl ?_
            refine wl_val (g_move (v := .int .i64 v191) rfl) rfl ?_
            obtain ⟨hg205, hm⟩ := hm
            refine wl_val (q_index (i := v191) SL39 rfl rfl (Tv.row (oT.vw hS198.g0 hS198.g1 he21) hg204) hg205) rfl ?_
            refine wl_val (q_load (i := v191) (v := .int .i64 ((r16[(Int.toNat v173)]!)[(Int.toNat v191)]!)) ON3 (Tv.row (oT.vw hS198.g0 hS198.g1 he21) hg204) hg205 rfl rfl) rfl ?_
            refine wl_step rfl (g_call (vs := #[.int .i64 ((r16[(Int.toNat v173)]!)[(Int.toNat v191)]!)]) CF63 (args1 rfl) (m_impl_size_fn ((r16[(Int.toNat v173)]!)[(Int.toNat v191)]!) hm)) ?_
            rintro _ w206 ⟨r209, hm, rfl, hE207⟩
            have hB210 := hB197.trans (Ext.stp hE207 hS198.base)
            have hS211 := hS198.ext hE207
            obtain ⟨hg212, hm⟩ := hm
            refine wl_val (g_add (a := v190) (b := r209) rfl rfl hg212) rfl ?_
            refine wl_val (g_assign (v := .int .i64 (v190 + r209)) rfl) rfl ?_
            refine wl_nil ?_
            refine hK203 _ _ ?_
            refine w_region ?_
            refine wl_val (g_move (v := .int .i64 v191) rfl) rfl ?_
            obtain ⟨hg213, hm⟩ := hm
            refine wl_val (g_add (a := v191) (b := 1) rfl rfl hg213) rfl ?_
            refine wl_val (g_assign (v := .int .i64 (v191 + 1)) rfl) rfl ?_
            refine wl_nil ?_
            exact ⟨((v190 + r209), (v191 + 1)), hm.2, ⟨rfl, rfl, rfl, rfl, rfl, rfl, rfl, trivial⟩, ⟨hm.1, hB210, hS211⟩⟩
          · replace hm := hm.2 h202
            refine w_exit ?_
            exact ⟨(v190), ⟨rfl, rfl, rfl, rfl, rfl, trivial⟩, ⟨hm, hB197, hS198⟩⟩
        · rintro v185 b_ w214 ⟨hm, hB215, hS216⟩
          show Wp _ _ _ _ (upds b_ [(0, .int .i64 p0), (5, .slice a17 n18 c19), (6, .int .i64 v185), (16, .int .i64 p0), (17, .int .i64 v173)]) w214
          refine w_region ?_
          obtain ⟨hg217, hm⟩ := hm
          refine wl_val (g_add (a := v173) (b := 1) rfl rfl hg217) rfl ?_
          refine wl_val (g_move (v := .int .i64 (v173 + 1)) rfl) rfl ?_
          refine wl_nil ?_
          exact ⟨(v185, (v173 + 1)), hm.2, ⟨rfl, rfl, rfl, rfl, rfl, trivial⟩, ⟨hm.1, hB215, hS216⟩⟩
      · replace hm := hm.2 h184
        refine w_exit ?_
        have hS218 := hS180.tail
        have hS219 := hS218.tail
        exact ⟨(v172), ⟨rfl, trivial⟩, ⟨hm, hB179, hS219⟩⟩
    · rintro v169 b_ w220 ⟨hm, hB221, hS222⟩
      show Wp _ _ _ _ (upds b_ [(6, .int .i64 v169)]) w220
      refine w_seq fun K223 hK223 => ?_
      refine w_region ?_
      refine wl_val (g_move (v := .int .i64 v169) rfl) rfl ?_
      refine wl_val (g_assign (v := .int .i64 v169) rfl) rfl ?_
      refine wl_nil ?_
      refine hK223 _ _ ?_
      refine w_ret ?_
      repeat first | with_reducible refine q_then ?_ | with_reducible refine q_block ?_
      exact ret1 rfl (by decide) ⟨_, hm, rfl, toExt hB221⟩

theorem m_impl_WoundPairs_fn {w : World} {a1 : Option Addr} {n1 c1 : Nat} {p1 : List Cross} {Q : (List (List Int)) → Prop} (p0 : Int) (hp1 : Vw w.heap.size w a1 n1 c1 p1) (hm : m_impl_WoundPairs p0 p1 Q) :
    Fn Try.prog 34 #[.int .i64 p0, .slice a1 n1 c1] w (fun v w' => ∃ (r0 : List (List Int)) (a0 : Option Addr) (n0 c0 : Nat) (y0 : List (Hd Int)), Q r0 ∧ ers y0 = r0 ∧ v = .slice a0 n0 c0 ∧ Ext w w' ∧ Sep w' w.heap.size [oS 39 a0 n0 c0 y0, oT 3 y0]) := by
  unfold m_impl_WoundPairs at hm
  have hB0 := Below.refl w.heap.size w
  have hS0 : Sep w w.heap.size [] := Sep.nil (Nat.le_refl _)
  refine fn_of_wp Try.func34 rfl (by kernel_rfl) (Nat.le_of_ble_eq_true rfl) ?_
  refine w_seq fun K1 hK1 => ?_
  refine w_region ?_
  refine wl_val (g_assign (v := .slice none 0 0) rfl) rfl ?_
  refine wl_nil ?_
  refine hK1 _ _ ?_
  refine w_seq fun K2 hK2 => ?_
  refine w_seq fun K3 hK3 => ?_
  refine w_region ?_
  refine wl_val (g_move (v := .int .i64 p0) rfl) rfl ?_
  refine wl_val (g_move (v := .slice a1 n1 c1) rfl) rfl ?_
  refine wl_step rfl (g_call (vs := #[.int .i64 p0, .slice a1 n1 c1]) CF57 (args2 rfl rfl) (m_impl_CrossesOk_fn p0 ((hp1.bel hB0).up hS0) hm)) ?_
  rintro _ w4 ⟨r7, hm, rfl, hE5⟩
  have hB8 := hB0.trans (Ext.stp hE5 hS0.base)
  have hS9 := hS0.ext hE5
  refine wl_val (g_not (a := r7) rfl) rfl ?_
  refine wl_nil ?_
  refine hK3 _ _ ?_
  refine w_condI (p := ¬ (r7 = true)) (b := (!r7)) rfl (i_not Iff.rfl) (fun h10 => ?_) (fun h10 => ?_)
  · replace hm := hm.1 h10
    refine w_seq fun K11 hK11 => ?_
    refine w_region ?_
    refine wl_val (g_assign (v := .slice none 0 0) rfl) rfl ?_
    refine wl_nil ?_
    refine hK11 _ _ ?_
    refine w_ret ?_
    have hS12 := hS9.nilS (α := (Hd Int)) (E := 39)
    have hS14 := hS12.noRows (δ := Hd Int) (E := 3)
    have he16 : ers ([] : List (Hd Int)) = ([] : List (List Int)) := rfl
    have hS18 := hS14.f1
    repeat first | with_reducible refine q_then ?_ | with_reducible refine q_block ?_
    exact ret1 rfl (by decide) ⟨_, _, _, _, _, hm, he16, rfl, toExt hB8, hS18⟩
  · replace hm := hm.2 h10
    refine w_skip ?_
    refine hK2 _ _ ?_
    refine w_seq fun K19 hK19 => ?_
    refine w_region ?_
    refine wl_val (g_move (v := .int .i64 p0) rfl) rfl ?_
    refine wl_val (g_move (v := .slice a1 n1 c1) rfl) rfl ?_
    refine wl_step rfl (g_call (vs := #[.int .i64 p0, .slice a1 n1 c1]) CF58 (args2 rfl rfl) (m_impl_twists_fn p0 ((hp1.bel hB8).up hS9) hm)) ?_
    rintro _ w20 ⟨r23, a24, n25, c26, y27, hm, he28, rfl, hE21, hN22⟩
    have hS32 := hS9.call2 hE21 hN22
    have hB33 := hB8.trans (Ext.stp hE21 hS9.base)
    refine wl_step rfl (q_lit0 (α := (Hd Int)) rfl SL37 hS32) ?_
    rintro _ w34 ⟨a35, rfl, hS37, hE36⟩
    have hB39 := hB33.trans (Ext.stp hE36 hS32.base)
    have hS40 := hS37.noRows (δ := Hd Int) (E := 3)
    have he42 : ers ([] : List (Hd Int)) = ([] : List (List Int)) := rfl
    refine wl_val (g_assign (v := .slice a24 n25 c26) rfl) rfl ?_
    refine wl_val (g_assign (v := .slice a35 0 0) rfl) rfl ?_
    refine wl_nil ?_
    refine hK19 _ _ ?_
    refine w_cut (σ := List (List Int) × Option Addr × Nat × Nat × List (Hd Int)) (fun ⟨x342, a343, n344, c345, y346⟩ => [(6, .slice a343 n344 c345)]) (fun ⟨x342, a343, n344, c345, y346⟩ w' => m_impl_WoundPairs_K1 Q x342 ∧ ers y346 = x342 ∧ Below w.heap.size w w' ∧ Sep w' w.heap.size [oS 39 a343 n344 c345 (y346 : List (Hd Int)), oT 3 (y346 : List (Hd Int))]) ?_ ?_
    · refine w_seq fun K349 hK349 => ?_
      refine w_region ?_
      refine wl_val (g_move (v := .int .i64 p0) rfl) rfl ?_
      refine wl_val (g_move (v := .int .i64 0) rfl) rfl ?_
      refine wl_nil ?_
      refine hK349 _ _ ?_
      refine w_block ?_
      have hS357 := hS40.f1
      have hS358 := hS357.f3
      have hS359 := hS358.f3
      obtain ⟨I360, μ361, h0362, hr363⟩ := hm
      refine w_for (σ := List (List Int) × Option Addr × Nat × Nat × List (Hd Int) × Int) (fun ⟨x350, a351, n352, c353, y354, v356⟩ => [(0, .int .i64 p0), (5, .slice a24 n25 c26), (6, .slice a351 n352 c353), (17, .int .i64 p0), (18, .int .i64 v356)]) (fun ⟨x350, a351, n352, c353, y354, v356⟩ w' => I360 x350 v356 ∧ ers y354 = x350 ∧ Below w.heap.size w w' ∧ Sep w' w.heap.size [oS 39 a24 n25 c26 (y27 : List (Hd Int)), oT 3 (y27 : List (Hd Int)), oS 39 a351 n352 c353 (y354 : List (Hd Int)), oT 3 (y354 : List (Hd Int))]) (fun ⟨x350, a351, n352, c353, y354, v356⟩ => μ361 x350 v356) ([], a35, 0, 0, [], 0) ⟨rfl, rfl, rfl, rfl, rfl, trivial⟩ ⟨h0362, he42, hB39, hS359⟩ ?_
      rintro ⟨x350, a351, n352, c353, y354, v356⟩ b_ w364 ⟨hi_, he355, hB365, hS366⟩
      show Wp _ _ _ _ (upds b_ [(0, .int .i64 p0), (5, .slice a24 n25 c26), (6, .slice a351 n352 c353), (17, .int .i64 p0), (18, .int .i64 v356)]) w364
      have hm := hr363 x350 v356 hi_
      refine w_seq fun K368 hK368 => ?_
      refine w_region ?_
      refine wl_val (g_lss (a := v356) (b := p0) rfl rfl) rfl ?_
      refine wl_nil ?_
      refine hK368 _ _ ?_
      refine w_seq fun K369 hK369 => ?_
      refine w_condI (p := v356 < p0) (b := (decide (v356 < p0))) rfl decide_eq_true_iff (fun h370 => ?_) (fun h370 => ?_)
      · replace hm := hm.1 h370
        refine w_skip ?_
        refine hK369 _ _ ?_
        refine w_cut (σ := List (List Int) × Option Addr × Nat × Nat × List (Hd Int)) (fun ⟨x371, a372, n373, c374, y375⟩ => [(0, .int .i64 p0), (5, .slice a24 n25 c26), (6, .slice a372 n373 c374), (17, .int .i64 p0), (18, .int .i64 v356)]) (fun ⟨x371, a372, n373, c374, y375⟩ w' => m_impl_WoundPairs_K0 v356 (fun x350' v356' => I360 x350' v356' ∧ μ361 x350' v356' < μ361 x350 v356) x371 ∧ ers y375 = x371 ∧ Below w.heap.size w w' ∧ Sep w' w.heap.size [oS 39 a24 n25 c26 (y27 : List (Hd Int)), oT 3 (y27 : List (Hd Int)), oS 39 a372 n373 c374 (y375 : List (Hd Int)), oT 3 (y375 : List (Hd Int))]) ?_ ?_
        · refine w_block ?_
          refine w_seq fun K378 hK378 => ?_
          refine w_region ?_
          refine wl_val (g_move (v := .int .i64 v356) rfl) rfl ?_
          refine wl_val (g_assign (v := .int .i64 v356) rfl) rfl ?_
          refine wl_nil ?_
          refine hK378 _ _ ?_
          refine w_seq fun K379 hK379 => ?_
          refine w_region ?_
          refine wl_val (g_move (v := .int .i64 v356) rfl) rfl ?_
          obtain ⟨hg380, hm⟩ := hm
          refine wl_val (g_add (a := v356) (b := 1) rfl rfl hg380) rfl ?_
          refine wl_val (g_assign (v := .int .i64 (v356 + 1)) rfl) rfl ?_
          refine wl_nil ?_
          refine hK379 _ _ ?_
          refine w_block ?_
          obtain ⟨I388, μ389, h0390, hr391⟩ := hm
          refine w_for (σ := List (List Int) × Option Addr × Nat × Nat × List (Hd Int) × Int) (fun ⟨x381, a382, n383, c384, y385, v387⟩ => [(0, .int .i64 p0), (5, .slice a24 n25 c26), (6, .slice a382 n383 c384), (7, .int .i64 v356), (8, .int .i64 v387), (17, .int .i64 p0), (18, .int .i64 v356)]) (fun ⟨x381, a382, n383, c384, y385, v387⟩ w' => I388 x381 v387 ∧ ers y385 = x381 ∧ Below w.heap.size w w' ∧ Sep w' w.heap.size [oS 39 a24 n25 c26 (y27 : List (Hd Int)), oT 3 (y27 : List (Hd Int)), oS 39 a382 n383 c384 (y385 : List (Hd Int)), oT 3 (y385 : List (Hd Int))]) (fun ⟨x381, a382, n383, c384, y385, v387⟩ => μ389 x381 v387) (x350, a351, n352, c353, y354, (v356 + 1)) ⟨rfl, rfl, rfl, rfl, rfl, rfl, rfl, trivial⟩ ⟨h0390, he355, hB365, hS366⟩ ?_
          rintro ⟨x381, a382, n383, c384, y385, v387⟩ b_ w392 ⟨hi_, he386, hB393, hS394⟩
          show Wp _ _ _ _ (upds b_ [(0, .int .i64 p0), (5, .slice a24 n25 c26), (6, .slice a382 n383 c384), (7, .int .i64 v356), (8, .int .i64 v387), (17, .int .i64 p0), (18, .int .i64 v356)]) w392
          have hm := hr391 x381 v387 hi_
          refine w_seq fun K396 hK396 => ?_
          refine w_seq fun K397 hK397 => ?_
          refine w_region ?_
          refine wl_val (g_move (v := .int .i64 v387) rfl) rfl ?_
          refine wl_val (g_move (v := .int .i64 p0) rfl) rfl ?_
          refine wl_val (g_lss (a := v387) (b := p0) rfl rfl) rfl ?_
          refine wl_nil ?_
          refine hK397 _ _ ?_
          refine w_condI (p := v387 < p0) (b := (decide (v387 < p0))) rfl decide_eq_true_iff (fun h398 => ?_) (fun h398 => ?_)
          · replace hm := hm.1 h398
            refine w_skip ?_
            refine hK396 _ _ ?_
            refine w_seq fun K399 hK399 => ?_
            refine w_block ?_
            refine w_seq fun K400 hK400 => ?_
            refine w_region ?_
            refine wl_val (g_move (v := .slice a24 n25 c26) rfl) rfl ?_
            refine wl_val (g_move (v := .int .i64 v356) rfl) rfl ?_
            obtain ⟨hg401, hm⟩ := hm
            refine wl_val (q_index (i := v356) SL37 rfl rfl (Tv.o (oT.vw hS394.g0 hS394.g1 he28)) (Tv.g (oT.vw hS394.g0 hS394.g1 he28) hg401)) rfl ?_
            refine wl_val (q_load (i := v356) (v := .slice ((y27[(Int.toNat v356)]!).1) ((y27[(Int.toNat v356)]!).2.2.length) ((y27[(Int.toNat v356)]!).2.1)) ON39 (Tv.o (oT.vw hS394.g0 hS394.g1 he28)) (Tv.g (oT.vw hS394.g0 hS394.g1 he28) hg401) rfl rfl) rfl ?_
            refine wl_val (g_move (v := .int .i64 v387) rfl) rfl ?_
            obtain ⟨hg402, hm⟩ := hm
            refine wl_val (q_index (i := v387) SL39 rfl rfl (Tv.row (oT.vw hS394.g0 hS394.g1 he28) hg401) hg402) rfl ?_
            refine wl_val (q_load (i := v387) (v := .int .i64 ((r23[(Int.toNat v356)]!)[(Int.toNat v387)]!)) ON3 (Tv.row (oT.vw hS394.g0 hS394.g1 he28) hg401) hg402 rfl rfl) rfl ?_
            refine wl_val (g_neq (a := (r23[(Int.toNat v356)]!)[(Int.toNat v387)]!) (b := 0) rfl rfl) rfl ?_
            refine wl_nil ?_
            refine hK400 _ _ ?_
            refine w_condI (p := (r23[(Int.toNat v356)]!)[(Int.toNat v387)]! ≠ 0) (b := (decide ((r23[(Int.toNat v356)]!)[(Int.toNat v387)]! ≠ 0))) rfl decide_eq_true_iff (fun h403 => ?_) (fun h403 => ?_)
            · replace hm := hm.1 h403
              refine w_region ?_
              refine wl_val (g_move (v := .slice a382 n383 c384) rfl) rfl ?_
              refine wl_val (g_move (v := .int .i64 v356) rfl) rfl ?_
              refine wl_val (g_move (v := .int .i64 v387) rfl) rfl ?_
              refine wl_step rfl (q_lit2 (y := (v356 : Int)) (y' := (v387 : Int)) SL39 rfl rfl rfl rfl (by decide) hS394) ?_
              rintro _ w404 ⟨a405, rfl, hS407, hE406⟩
              have hB409 := hB393.trans (Ext.stp hE406 hS394.base)
              have hn415 := oS.len hS407.g0
              have hS416 := hS407.oneRow
              have he414 : ers [((a405, 2, [v356, v387]) : Hd Int)] = [[v356, v387]] := rfl
              refine wl_step rfl (q_lit1 (y := ((a405, 2, [v356, v387]) : Hd Int)) SL37 rfl (hd_cells hn415) (by decide) hS416) ?_
              rintro _ w410 ⟨a411, rfl, hS413, hE412⟩
              have hB419 := hB409.trans (Ext.stp hE412 hS416.base)
              have hS426 := hS413.f4
              obtain ⟨hg427, hm⟩ := hm
              have hl428 : (y385).length + ([(a405, 2, [v356, v387])]).length ≤ 1099511627776 := by have h1 := congrArg List.length he386; have h2 := congrArg List.length he414; have h3 := hg427; simp only [ers, List.length_map, List.length_append, List.length_cons, List.length_nil, List.length_replicate, List.length_set] at h1 h2 h3 ⊢; omega
              refine wl_step rfl (q_append SL37 rfl rfl hS426 (oS.vw hS426.g1) hl428 (by decide)) ?_
              rintro _ w421 ⟨a422, c423, rfl, hS425, hb424⟩
              have hB429 := hB419.trans hb424
              have hS430 := hS425.f1
              have hS431 := hS430.tail
              have hS432 := hS431.f4
              have hS433 := hS432.f2
              have hS434 := hS433.catRows
              have he435 : ers (y385 ++ ([(a405, 2, [v356, v387])])) = (x381 ++ ([[v356, v387]])) := by rw [← he386, ← he414]; exact List.map_append
              refine wl_val (g_assign (v := .slice a422 (n383 + 1) c423) rfl) rfl ?_
              refine wl_nil ?_
              refine hK399 _ _ ?_
              refine w_region ?_
              refine wl_val (g_move (v := .int .i64 v387) rfl) rfl ?_
              obtain ⟨hg436, hm⟩ := hm
              refine wl_val (g_add (a := v387) (b := 1) rfl rfl hg436) rfl ?_
              refine wl_val (g_assign (v := .int .i64 (v387 + 1)) rfl) rfl ?_
              refine wl_nil ?_
              have hS437 := hS434.f1
              have hS438 := hS437.f3
              have hS439 := hS438.f3
              exact ⟨((x381 ++ ([[v356, v387]])), a422, (n383 + 1), c423, (y385 ++ ([(a405, 2, [v356, v387])])), (v387 + 1)), hm.2, ⟨rfl, rfl, rfl, rfl, rfl, rfl, rfl, trivial⟩, ⟨hm.1, he435, hB429, hS439⟩⟩
            · replace hm := hm.2 h403
              refine w_skip ?_
              refine hK399 _ _ ?_
              refine w_region ?_
              refine wl_val (g_move (v := .int .i64 v387) rfl) rfl ?_
              obtain ⟨hg440, hm⟩ := hm
              refine wl_val (g_add (a := v387) (b := 1) rfl rfl hg440) rfl ?_
              refine wl_val (g_assign (v := .int .i64 (v387 + 1)) rfl) rfl ?_
              refine wl_nil ?_
              exact ⟨(x381, a382, n383, c384, y385, (v387 + 1)), hm.2, ⟨rfl, rfl, rfl, rfl, rfl, rfl, rfl, trivial⟩, ⟨hm.1, he386, hB393, hS394⟩⟩
          · replace hm := hm.2 h398
            refine w_exit ?_
            exact ⟨(x381, a382, n383, c384, y385), ⟨rfl, rfl, rfl, rfl, rfl, trivial⟩, ⟨hm, he386, hB393, hS394⟩⟩
        · rintro ⟨x371, a372, n373, c374, y375⟩ b_ w441 ⟨hm, he376, hB442, hS443⟩
          show Wp _ _ _ _ (upds b_ [(0, .int .i64 p0), (5, .slice a24 n25 c26), (6, .slice a372 n373 c374), (17, .int .i64 p0), (18, .int .i64 v356)]) w441
          refine w_region ?_
          obtain ⟨hg444, hm⟩ := hm
          refine wl_val (g_add (a := v356) (b := 1) rfl rfl hg444) rfl ?_
          refine wl_val (g_move (v := .int .i64 (v356 + 1)) rfl) rfl ?_
          refine wl_nil ?_
          exact ⟨(x371, a372, n373, c374, y375, (v356 + 1)), hm.2, ⟨rfl, rfl, rfl, rfl, rfl, trivial⟩, ⟨hm.1, he376, hB442, hS443⟩⟩
      · replace hm := hm.2 h370
        refine w_exit ?_
        have hS445 := hS366.tail
        have hS446 := hS445.tail
        exact ⟨(x350, a351, n352, c353, y354), ⟨rfl, trivial⟩, ⟨hm, he355, hB365, hS446⟩⟩
    · rintro ⟨x342, a343, n344, c345, y346⟩ b_ w447 ⟨hm, he347, hB448, hS449⟩
      show Wp _ _ _ _ (upds b_ [(6, .slice a343 n344 c345)]) w447
      refine w_seq fun K450 hK450 => ?_
      refine w_region ?_
      refine wl_val (g_move (v := .slice a343 n344 c345) rfl) rfl ?_
      refine wl_val (g_assign (v := .slice a343 n344 c345) rfl) rfl ?_
      refine wl_nil ?_
      refine hK450 _ _ ?_
      refine w_ret ?_
      repeat first | with_reducible refine q_then ?_ | with_reducible refine q_block ?_
      exact ret1 rfl (by decide) ⟨_, _, _, _, _, hm, he347, rfl, toExt hB448, hS449⟩

theorem m_impl_OrderAfter_1_fn {w : World}  {Q : Prop} (p0 : Cross) (p1 : Int) (p2 : Int) (hm : m_impl_OrderAfter_1 p0 p1 p2 Q) :
    Fn Try.prog 80 #[.agg #[.int .i64 p0.1, .bool p0.2], .int .i64 p1, .int .i64 p2] w (fun v w' => Q ∧ v = .tuple #[] ∧ Ext w w') := by
  unfold m_impl_OrderAfter_1 at hm
  have hB0 := Below.refl w.heap.size w
  have hS0 : Sep w w.heap.size [] := Sep.nil (Nat.le_refl _)
  refine fn_of_wp Try.func80 rfl (by kernel_rfl) (Nat.le_of_ble_eq_true rfl) ?_
  refine w_region ?_
  refine wl_step rfl (q_box (cs := #[.int .i64 p0.1, .bool p0.2]) rfl rfl hS0) ?_
  rintro _ w1 ⟨g2, rfl, hS4, hE3⟩
  have hB6 := hB0.trans (Ext.stp hE3 hS0.base)
  refine wl_nil ?_
  repeat first | with_reducible refine q_then ?_ | with_reducible refine q_block ?_
  exact ret0n rfl ⟨hm, rfl, toExt hB6⟩

theorem m_impl_follow_OrderAfter_1_fn {w : World} {a1 : Option Addr} {n1 c1 : Nat} {p1 : List Cross} {Q : (List Int) → Prop} (p0 : Int) (hp1 : Vw w.heap.size w a1 n1 c1 p1) (hm : m_impl_follow_OrderAfter_1 p0 p1 Q) :
    Fn Try.prog 74 #[.int .i64 p0, .slice a1 n1 c1, .func (.func 80) #[] #[]] w (fun v w' => ∃ (r0 : List Int) (a0 : Option Addr) (n0 c0 : Nat), Q r0 ∧ v = .slice a0 n0 c0 ∧ Ext w w' ∧ Sep w' w.heap.size [oS 3 a0 n0 c0 r0]) := by
  unfold m_impl_follow_OrderAfter_1 at hm
  have hB0 := Below.refl w.heap.size w
  have hS0 : Sep w w.heap.size [] := Sep.nil (Nat.le_refl _)
  refine fn_of_wp Try.func74 rfl (by kernel_rfl) (Nat.le_of_ble_eq_true rfl) ?_
  refine w_seq fun K1 hK1 => ?_
  refine w_region ?_
  refine wl_val (g_assign (v := .slice none 0 0) rfl) rfl ?_
  refine wl_nil ?_
  refine hK1 _ _ ?_
  refine w_seq fun K2 hK2 => ?_
  refine w_region ?_
  refine wl_val (g_move (v := .int .i64 p0) rfl) rfl ?_
  refine wl_step rfl (g_call (vs := #[.int .i64 p0]) CF77 (args1 rfl) (m_impl_upTo_fn p0 hm)) ?_
  rintro _ w3 ⟨r6, a7, n8, c9, hm, rfl, hE4, hN5⟩
  have hS11 := hS0.call1 hE4 hN5
  have hB12 := hB0.trans (Ext.stp hE4 hS0.base)
  refine wl_val (g_assign (v := .slice a7 n8 c9) rfl) rfl ?_
  refine wl_nil ?_
  refine hK2 _ _ ?_
  refine w_cut (σ := List Int) (fun x449 => [(7, .slice a7 n8 c9)]) (fun x449 w' => m_impl_follow_OrderAfter_1_K0 Q x449 ∧ Below w.heap.size w w' ∧ Sep w' w.heap.size [oS 3 a7 n8 c9 (x449 : List Int)]) ?_ ?_
  · refine w_seq fun K451 hK451 => ?_
    refine w_region ?_
    refine wl_val (g_move (v := .slice a1 n1 c1) rfl) rfl ?_
    refine wl_val (q_len SL24 rfl (Vw.len (hp1.bel hB12))) rfl ?_
    refine wl_val (g_move (v := .int .i64 0) rfl) rfl ?_
    refine wl_nil ?_
    refine hK451 _ _ ?_
    refine w_block ?_
    obtain ⟨I454, μ455, h0456, hr457⟩ := hm
    refine w_for (σ := List Int × Int) (fun ⟨x452, v453⟩ => [(2, .func (.func 80) #[] #[]), (7, .slice a7 n8 c9), (12, .slice a1 n1 c1), (13, .int .i64 (p1.length : Int)), (14, .int .i64 v453)]) (fun ⟨x452, v453⟩ w' => I454 x452 v453 ∧ Below w.heap.size w w' ∧ Sep w' w.heap.size [oS 3 a7 n8 c9 (x452 : List Int)]) (fun ⟨x452, v453⟩ => μ455 x452 v453) (r6, 0) ⟨rfl, rfl, rfl, rfl, rfl, trivial⟩ ⟨h0456, hB12, hS11⟩ ?_
    rintro ⟨x452, v453⟩ b_ w458 ⟨hi_, hB459, hS460⟩
    show Wp _ _ _ _ (upds b_ [(2, .func (.func 80) #[] #[]), (7, .slice a7 n8 c9), (12, .slice a1 n1 c1), (13, .int .i64 (p1.length : Int)), (14, .int .i64 v453)]) w458
    have hm := hr457 x452 v453 hi_
    refine w_seq fun K462 hK462 => ?_
    refine w_region ?_
    refine wl_val (g_lss (a := v453) (b := (p1.length : Int)) rfl rfl) rfl ?_
    refine wl_nil ?_
    refine hK462 _ _ ?_
    refine w_seq fun K463 hK463 => ?_
    refine w_condI (p := v453 < (p1.length : Int)) (b := (decide (v453 < (p1.length : Int)))) rfl decide_eq_true_iff (fun h464 => ?_) (fun h464 => ?_)
    · replace hm := hm.1 h464
      refine w_skip ?_
      refine hK463 _ _ ?_
      refine w_seq fun K465 hK465 => ?_
      refine w_block ?_
      refine w_seq fun K466 hK466 => ?_
      refine w_region ?_
      obtain ⟨hg467, hm⟩ := hm
      refine wl_val (q_index (i := v453) SL24 rfl rfl (hp1.bel hB459) hg467) rfl ?_
      refine wl_val (q_loadS (i := v453) (cs := [.int .i64 (p1[(Int.toNat v453)]!.1), .bool (p1[(Int.toNat v453)]!.2)]) AG56 (hp1.bel hB459) hg467 rfl rfl) rfl ?_
      refine wl_step rfl (q_alloc (cs := #[.int .i64 0, .bool false]) ZR56 rfl hS460) ?_
      rintro _ w468 ⟨g469, rfl, hS471, hE470⟩
      have hB473 := hB459.trans (Ext.stp hE470 hS460.base)
      refine wl_step rfl (q_storeB (i := 0) (bs' := #[.int .i64 (p1[(Int.toNat v453)]!.1), .bool (p1[(Int.toNat v453)]!.2)]) (vs := [.int .i64 (p1[(Int.toNat v453)]!.1), .bool (p1[(Int.toNat v453)]!.2)]) hS471 AG56.sz rfl rfl rfl (by simp [Value.oneCell']) (Nat.le_of_ble_eq_true rfl) rfl) ?_
      rintro _ w474 ⟨rfl, hS475, hb476⟩
      have hB477 := hB473.trans hb476
      refine wl_nil ?_
      refine hK466 _ _ ?_
      refine w_seq fun K478 hK478 => ?_
      refine w_draw (X := Ext) (Y := Ext) [0, 0, 0, 0, 0, 0, 0, 0, 0, 0, 0, 0, 0, 1] MIX (by decide +kernel) rfl Ext.refl (fun _ _ _ => Ext.trans) (fun _ _ _ => Chg.trans) (fun _ _ h => Ext.chg h _) (fun w479 hE480 => ?_)
      have hB481 := hB477.trans (Ext.stp hE480 hS475.base)
      have hS482 := hS475.ext hE480
      refine ⟨.func (.func 80) #[] #[], fun w483 hX484 => od_plain rfl (by have hS485 := hS482.ext hX484; have hB486 := hB481.trans (Ext.stp hX484 hS482.base); exact is_ext (g_move (v := .func (.func 80) #[] #[]) rfl)), ?_⟩
      refine ⟨.agg #[.int .i64 (p1[(Int.toNat v453)]!.1), .bool (p1[(Int.toNat v453)]!.2)], fun w487 hX488 => od_plain rfl (by have hS489 := hS482.ext hX488; have hB490 := hB481.trans (Ext.stp hX488 hS482.base); exact is_ext (q_loadBS (bs := #[.int .i64 (p1[(Int.toNat v453)]!.1), .bool (p1[(Int.toNat v453)]!.2)]) hS489.g0 AG56 rfl)), ?_⟩
      refine ⟨.slice a7 n8 c9, fun w491 hX492 => od_plain rfl (by have hS493 := hS482.ext hX492; have hB494 := hB481.trans (Ext.stp hX492 hS482.base); exact is_ext (g_move (v := .slice a7 n8 c9) rfl)), ?_⟩
      refine ⟨.pointer (some (((⟨g469, 0, none⟩ : Addr)).add 0)), fun w495 hX496 => od_plain rfl (by have hS497 := hS482.ext hX496; have hB498 := hB481.trans (Ext.stp hX496 hS482.base); exact is_ext (g_fieldAddr (q := (⟨g469, 0, none⟩ : Addr)) FL56_0 ON3 rfl)), ?_⟩
      refine ⟨.int .i64 (p1[(Int.toNat v453)]!.1), fun w499 hX500 => od_plain rfl (by have hS501 := hS482.ext hX500; have hB502 := hB481.trans (Ext.stp hX500 hS482.base); exact is_ext (q_loadB (i := 0) (bs := #[.int .i64 (p1[(Int.toNat v453)]!.1), .bool (p1[(Int.toNat v453)]!.2)]) hS501.g0 ON3 rfl rfl)), ?_⟩
      obtain ⟨hg507, hm⟩ := hm
      refine ⟨.pointer (some ((adr a7).add ((Int.toNat (p1[(Int.toNat v453)]!.1)) * El.m Int))), fun w503 hX504 => od_plain rfl (by have hS505 := hS482.ext hX504; have hB506 := hB481.trans (Ext.stp hX504 hS482.base); exact is_ext (q_index (i := p1[(Int.toNat v453)]!.1) SL39 rfl rfl (oS.vw hS505.g1) hg507)), ?_⟩
      refine ⟨.int .i64 (x452[(Int.toNat (p1[(Int.toNat v453)]!.1))]!), fun w508 hX509 => od_plain rfl (by have hS510 := hS482.ext hX509; have hB511 := hB481.trans (Ext.stp hX509 hS482.base); exact is_ext (q_load (i := p1[(Int.toNat v453)]!.1) (v := .int .i64 (x452[(Int.toNat (p1[(Int.toNat v453)]!.1))]!)) ON3 (oS.vw hS510.g1) hg507 rfl rfl)), ?_⟩
      refine ⟨.slice a7 n8 c9, fun w512 hX513 => od_plain rfl (by have hS514 := hS482.ext hX513; have hB515 := hB481.trans (Ext.stp hX513 hS482.base); exact is_ext (g_move (v := .slice a7 n8 c9) rfl)), ?_⟩
      refine ⟨.pointer (some (((⟨g469, 0, none⟩ : Addr)).add 0)), fun w516 hX517 => od_plain rfl (by have hS518 := hS482.ext hX517; have hB519 := hB481.trans (Ext.stp hX517 hS482.base); exact is_ext (g_fieldAddr (q := (⟨g469, 0, none⟩ : Addr)) FL56_0 ON3 rfl)), ?_⟩
      refine ⟨.int .i64 (p1[(Int.toNat v453)]!.1), fun w520 hX521 => od_plain rfl (by have hS522 := hS482.ext hX521; have hB523 := hB481.trans (Ext.stp hX521 hS482.base); exact is_ext (q_loadB (i := 0) (bs := #[.int .i64 (p1[(Int.toNat v453)]!.1), .bool (p1[(Int.toNat v453)]!.2)]) hS522.g0 ON3 rfl rfl)), ?_⟩
      obtain ⟨hg528, hm⟩ := hm
      refine ⟨.int .i64 (p1[(Int.toNat v453)]!.1 + 1), fun w524 hX525 => od_plain rfl (by have hS526 := hS482.ext hX525; have hB527 := hB481.trans (Ext.stp hX525 hS482.base); exact is_ext (g_add (a := p1[(Int.toNat v453)]!.1) (b := 1) rfl rfl hg528)), ?_⟩
      obtain ⟨hg533, hm⟩ := hm
      refine ⟨.pointer (some ((adr a7).add ((Int.toNat (p1[(Int.toNat v453)]!.1 + 1)) * El.m Int))), fun w529 hX530 => od_plain rfl (by have hS531 := hS482.ext hX530; have hB532 := hB481.trans (Ext.stp hX530 hS482.base); exact is_ext (q_index (i := (p1[(Int.toNat v453)]!.1 + 1)) SL39 rfl rfl (oS.vw hS531.g1) hg533)), ?_⟩
      refine ⟨.int .i64 (x452[(Int.toNat (p1[(Int.toNat v453)]!.1 + 1))]!), fun w534 hX535 => od_plain rfl (by have hS536 := hS482.ext hX535; have hB537 := hB481.trans (Ext.stp hX535 hS482.base); exact is_ext (q_load (i := (p1[(Int.toNat v453)]!.1 + 1)) (v := .int .i64 (x452[(Int.toNat (p1[(Int.toNat v453)]!.1 + 1))]!)) ON3 (oS.vw hS536.g1) hg533 rfl rfl)), ?_⟩
      intro w538 hX539
      have hB540 := hB481.trans (Ext.stp hX539 hS482.base)
      have hS541 := hS482.ext hX539
      refine ⟨_, od_plain rfl (g_callvc (f := 80) (va := #[.agg #[.int .i64 (p1[(Int.toNat v453)]!.1), .bool (p1[(Int.toNat v453)]!.2)], .int .i64 (x452[(Int.toNat (p1[(Int.toNat v453)]!.1))]!), .int .i64 (x452[(Int.toNat (p1[(Int.toNat v453)]!.1 + 1))]!)]) (cap := #[]) (vs := #[.agg #[.int .i64 (p1[(Int.toNat v453)]!.1), .bool (p1[(Int.toNat v453)]!.2)], .int .i64 (x452[(Int.toNat (p1[(Int.toNat v453)]!.1))]!), .int .i64 (x452[(Int.toNat (p1[(Int.toNat v453)]!.1 + 1))]!)]) CF80 rfl (args3 rfl rfl rfl) rfl (m_impl_OrderAfter_1_fn (p1[(Int.toNat v453)]!.1, p1[(Int.toNat v453)]!.2) (x452[(Int.toNat (p1[(Int.toNat v453)]!.1))]!) (x452[(Int.toNat (p1[(Int.toNat v453)]!.1 + 1))]!) hm)), ?_⟩
      rintro _ w542 ⟨hm, rfl, hE543⟩
      have hB545 := hB540.trans (Ext.stp hE543 hS541.base)
      have hS546 := hS541.ext hE543
      intro w547 hX548
      have hB549 := hB545.trans (Ext.stp hX548 hS546.base)
      have hS550 := hS546.ext hX548
      refine hK478 _ _ ?_
      have hS556 := hS550.f1
      refine w_draw (X := Ext) (Y := (fun w_ w_' => Chg w_ w_' (blk a7))) [0, 0, 0, 3, 3, 3, 3, 0, 0, 0, 0, 0, 0, 0, 0, 0, 0, 0, 0, 4, 0, 1] MIX (by decide +kernel) rfl Ext.refl (fun _ _ _ => Ext.trans) (fun _ _ _ => Chg.trans) (fun _ _ h => Ext.chg h _) (fun w557 hE558 => ?_)
      have hB559 := hB549.trans (Ext.stp hE558 hS556.base)
      have hS560 := hS556.ext hE558
      refine ⟨.slice a7 n8 c9, fun w561 hX562 => od_plain rfl (by have hS563 := hS560.ext hX562; have hB564 := hB559.trans (Ext.stp hX562 hS560.base); exact is_ext (g_move (v := .slice a7 n8 c9) rfl)), ?_⟩
      refine ⟨.pointer (some (((⟨g469, 0, none⟩ : Addr)).add 0)), fun w565 hX566 => od_plain rfl (by have hS567 := hS560.ext hX566; have hB568 := hB559.trans (Ext.stp hX566 hS560.base); exact is_ext (g_fieldAddr (q := (⟨g469, 0, none⟩ : Addr)) FL56_0 ON3 rfl)), ?_⟩
      refine ⟨.int .i64 (p1[(Int.toNat v453)]!.1), fun w569 hX570 => od_plain rfl (by have hS571 := hS560.ext hX570; have hB572 := hB559.trans (Ext.stp hX570 hS560.base); exact is_ext (q_loadB (i := 0) (bs := #[.int .i64 (p1[(Int.toNat v453)]!.1), .bool (p1[(Int.toNat v453)]!.2)]) hS571.g1 ON3 rfl rfl)), ?_⟩
      refine ⟨.slice a7 n8 c9, fun w573 hX574 => od_plain rfl (by have hS575 := Sep.chgT hS560 hX574 (fun k hk => hk); have hB576 := hB559.trans (Sep.stp hS560 hX574 (fun k hk => hk)); exact is_ext (g_move (v := .slice a7 n8 c9) rfl)), ?_⟩
      refine ⟨.pointer (some (((⟨g469, 0, none⟩ : Addr)).add 0)), fun w577 hX578 => od_plain rfl (by have hS579 := Sep.chgT hS560 hX578 (fun k hk => hk); have hB580 := hB559.trans (Sep.stp hS560 hX578 (fun k hk => hk)); exact is_ext (g_fieldAddr (q := (⟨g469, 0, none⟩ : Addr)) FL56_0 ON3 rfl)), ?_⟩
      refine ⟨.int .i64 (p1[(Int.toNat v453)]!.1), fun w581 hX582 => od_plain rfl (by have hS583 := Sep.chgT hS560 hX582 (fun k hk => hk); have hB584 := hB559.trans (Sep.stp hS560 hX582 (fun k hk => hk)); exact is_ext (q_loadB (i := 0) (bs := #[.int .i64 (p1[(Int.toNat v453)]!.1), .bool (p1[(Int.toNat v453)]!.2)]) hS583.g0 ON3 rfl rfl)), ?_⟩
      obtain ⟨hg589, hm⟩ := hm
      refine ⟨.int .i64 (p1[(Int.toNat v453)]!.1 + 1), fun w585 hX586 => od_plain rfl (by have hS587 := Sep.chgT hS560 hX586 (fun k hk => hk); have hB588 := hB559.trans (Sep.stp hS560 hX586 (fun k hk => hk)); exact is_ext (g_add (a := p1[(Int.toNat v453)]!.1) (b := 1) rfl rfl hg589)), ?_⟩
      refine ⟨.slice a7 n8 c9, fun w590 hX591 => od_plain rfl (by have hS592 := hS560.ext hX591; have hB593 := hB559.trans (Ext.stp hX591 hS560.base); exact is_ext (g_move (v := .slice a7 n8 c9) rfl)), ?_⟩
      refine ⟨.pointer (some (((⟨g469, 0, none⟩ : Addr)).add 0)), fun w594 hX595 => od_plain rfl (by have hS596 := hS560.ext hX595; have hB597 := hB559.trans (Ext.stp hX595 hS560.base); exact is_ext (g_fieldAddr (q := (⟨g469, 0, none⟩ : Addr)) FL56_0 ON3 rfl)), ?_⟩
      refine ⟨.int .i64 (p1[(Int.toNat v453)]!.1), fun w598 hX599 => od_plain rfl (by have hS600 := hS560.ext hX599; have hB601 := hB559.trans (Ext.stp hX599 hS560.base); exact is_ext (q_loadB (i := 0) (bs := #[.int .i64 (p1[(Int.toNat v453)]!.1), .bool (p1[(Int.toNat v453)]!.2)]) hS600.g1 ON3 rfl rfl)), ?_⟩
      obtain ⟨hg606, hm⟩ := hm
      refine ⟨.int .i64 (p1[(Int.toNat v453)]!.1 + 1), fun w602 hX603 => od_plain rfl (by have hS604 := hS560.ext hX603; have hB605 := hB559.trans (Ext.stp hX603 hS560.base); exact is_ext (g_add (a := p1[(Int.toNat v453)]!.1) (b := 1) rfl rfl hg606)), ?_⟩
      obtain ⟨hg611, hm⟩ := hm
      refine ⟨.pointer (some ((adr a7).add ((Int.toNat (p1[(Int.toNat v453)]!.1 + 1)) * El.m Int))), fun w607 hX608 => od_plain rfl (by have hS609 := hS560.ext hX608; have hB610 := hB559.trans (Ext.stp hX608 hS560.base); exact is_ext (q_index (i := (p1[(Int.toNat v453)]!.1 + 1)) SL39 rfl rfl (oS.vw hS609.g0) hg611)), ?_⟩
      refine ⟨.int .i64 (x452[(Int.toNat (p1[(Int.toNat v453)]!.1 + 1))]!), fun w612 hX613 => od_plain rfl (by have hS614 := hS560.ext hX613; have hB615 := hB559.trans (Ext.stp hX613 hS560.base); exact is_ext (q_load (i := (p1[(Int.toNat v453)]!.1 + 1)) (v := .int .i64 (x452[(Int.toNat (p1[(Int.toNat v453)]!.1 + 1))]!)) ON3 (oS.vw hS614.g0) hg611 rfl rfl)), ?_⟩
      refine ⟨.slice a7 n8 c9, fun w616 hX617 => od_plain rfl (by have hS618 := hS560.ext hX617; have hB619 := hB559.trans (Ext.stp hX617 hS560.base); exact is_ext (g_move (v := .slice a7 n8 c9) rfl)), ?_⟩
      refine ⟨.pointer (some (((⟨g469, 0, none⟩ : Addr)).add 0)), fun w620 hX621 => od_plain rfl (by have hS622 := hS560.ext hX621; have hB623 := hB559.trans (Ext.stp hX621 hS560.base); exact is_ext (g_fieldAddr (q := (⟨g469, 0, none⟩ : Addr)) FL56_0 ON3 rfl)), ?_⟩
      refine ⟨.int .i64 (p1[(Int.toNat v453)]!.1), fun w624 hX625 => od_plain rfl (by have hS626 := hS560.ext hX625; have hB627 := hB559.trans (Ext.stp hX625 hS560.base); exact is_ext (q_loadB (i := 0) (bs := #[.int .i64 (p1[(Int.toNat v453)]!.1), .bool (p1[(Int.toNat v453)]!.2)]) hS626.g1 ON3 rfl rfl)), ?_⟩
      obtain ⟨hg632, hm⟩ := hm
      refine ⟨.pointer (some ((adr a7).add ((Int.toNat (p1[(Int.toNat v453)]!.1)) * El.m Int))), fun w628 hX629 => od_plain rfl (by have hS630 := hS560.ext hX629; have hB631 := hB559.trans (Ext.stp hX629 hS560.base); exact is_ext (q_index (i := p1[(Int.toNat v453)]!.1) SL39 rfl rfl (oS.vw hS630.g0) hg632)), ?_⟩
      refine ⟨.int .i64 (x452[(Int.toNat (p1[(Int.toNat v453)]!.1))]!), fun w633 hX634 => od_plain rfl (by have hS635 := hS560.ext hX634; have hB636 := hB559.trans (Ext.stp hX634 hS560.base); exact is_ext (q_load (i := p1[(Int.toNat v453)]!.1) (v := .int .i64 (x452[(Int.toNat (p1[(Int.toNat v453)]!.1))]!)) ON3 (oS.vw hS635.g0) hg632 rfl rfl)), ?_⟩
      obtain ⟨hg641, hm⟩ := hm
      refine ⟨.pointer (some ((adr a7).add ((Int.toNat (p1[(Int.toNat v453)]!.1)) * El.m Int))), fun w637 hX638 => od_plain rfl (by have hS639 := hS560.ext hX638; have hB640 := hB559.trans (Ext.stp hX638 hS560.base); exact is_ext (q_index (i := p1[(Int.toNat v453)]!.1) SL39 rfl rfl (oS.vw hS639.g0) hg641)), ?_⟩
      intro w642 hX643
      have hB644 := hB559.trans (Ext.stp hX643 hS560.base)
      have hS645 := hS560.ext hX643
      refine ⟨_, od_plain rfl (q_storeC (i := p1[(Int.toNat v453)]!.1) (v := (x452[(Int.toNat (p1[(Int.toNat v453)]!.1 + 1))]! : Int)) hS645 ON3.sz hg641 rfl rfl rfl), ?_⟩
      rintro _ w646 ⟨rfl, hS647, hb648, hC649⟩
      refine ⟨hC649, ?_⟩
      have hB650 := hB644.trans hb648
      obtain ⟨hg655, hm⟩ := hm
      refine ⟨.pointer (some ((adr a7).add ((Int.toNat (p1[(Int.toNat v453)]!.1 + 1)) * El.m Int))), fun w651 hX652 => od_plain rfl (by have hS653 := hS647.ext hX652; have hB654 := hB650.trans (Ext.stp hX652 hS647.base); exact is_ext (q_index (i := (p1[(Int.toNat v453)]!.1 + 1)) SL39 rfl rfl (oS.vw hS653.g0) hg655)), ?_⟩
      intro w656 hX657
      have hB658 := hB650.trans (Ext.stp hX657 hS647.base)
      have hS659 := hS647.ext hX657
      refine ⟨_, od_plain rfl (q_store (i := (p1[(Int.toNat v453)]!.1 + 1)) (v := (x452[(Int.toNat (p1[(Int.toNat v453)]!.1))]! : Int)) hS659 ON3.sz hg655 rfl rfl rfl), ?_⟩
      rintro _ w660 ⟨rfl, hS661, hb662⟩
      have hB663 := hB658.trans hb662
      intro w664 hX665
      have hB666 := hB663.trans (Ext.stp hX665 hS661.base)
      have hS667 := hS661.ext hX665
      refine hK465 _ _ ?_
      refine w_region ?_
      obtain ⟨hg668, hm⟩ := hm
      refine wl_val (g_add (a := v453) (b := 1) rfl rfl hg668) rfl ?_
      refine wl_val (g_move (v := .int .i64 (v453 + 1)) rfl) rfl ?_
      refine wl_nil ?_
      have hS669 := hS667.f1
      have hS670 := hS669.tail
      exact ⟨(((x452.set (Int.toNat (p1[(Int.toNat v453)]!.1)) (x452[(Int.toNat (p1[(Int.toNat v453)]!.1 + 1))]!)).set (Int.toNat (p1[(Int.toNat v453)]!.1 + 1)) (x452[(Int.toNat (p1[(Int.toNat v453)]!.1))]!)), (v453 + 1)), hm.2, ⟨rfl, rfl, rfl, rfl, rfl, trivial⟩, ⟨hm.1, hB666, hS670⟩⟩
    · replace hm := hm.2 h464
      refine w_exit ?_
      exact ⟨(x452), ⟨rfl, trivial⟩, ⟨hm, hB459, hS460⟩⟩
  · rintro x449 b_ w671 ⟨hm, hB672, hS673⟩
    show Wp _ _ _ _ (upds b_ [(7, .slice a7 n8 c9)]) w671
    refine w_seq fun K674 hK674 => ?_
    refine w_region ?_
    refine wl_val (g_move (v := .slice a7 n8 c9) rfl) rfl ?_
    refine wl_val (g_assign (v := .slice a7 n8 c9) rfl) rfl ?_
    refine wl_nil ?_
    refine hK674 _ _ ?_
    refine w_ret ?_
    repeat first | with_reducible refine q_then ?_ | with_reducible refine q_block ?_
    exact ret1 rfl (by decide) ⟨_, _, _, _, hm, rfl, toExt hB672, hS673⟩

theorem m_impl_OrderAfter_fn {w : World} {a1 : Option Addr} {n1 c1 : Nat} {p1 : List Cross} {Q : (List Int) → Prop} (p0 : Int) (hp1 : Vw w.heap.size w a1 n1 c1 p1) (hm : m_impl_OrderAfter p0 p1 Q) :
    Fn Try.prog 71 #[.int .i64 p0, .slice a1 n1 c1] w (fun v w' => ∃ (r0 : List Int) (a0 : Option Addr) (n0 c0 : Nat), Q r0 ∧ v = .slice a0 n0 c0 ∧ Ext w w' ∧ Sep w' w.heap.size [oS 3 a0 n0 c0 r0]) := by
  unfold m_impl_OrderAfter at hm
  have hB0 := Below.refl w.heap.size w
  have hS0 : Sep w w.heap.size [] := Sep.nil (Nat.le_refl _)
  refine fn_of_wp Try.func71 rfl (by kernel_rfl) (Nat.le_of_ble_eq_true rfl) ?_
  refine w_seq fun K1 hK1 => ?_
  refine w_region ?_
  refine wl_val (g_assign (v := .slice none 0 0) rfl) rfl ?_
  refine wl_nil ?_
  refine hK1 _ _ ?_
  refine w_seq fun K2 hK2 => ?_
  refine w_seq fun K3 hK3 => ?_
  refine w_region ?_
  refine wl_val (g_move (v := .int .i64 p0) rfl) rfl ?_
  refine wl_val (g_move (v := .slice a1 n1 c1) rfl) rfl ?_
  refine wl_step rfl (g_call (vs := #[.int .i64 p0, .slice a1 n1 c1]) CF57 (args2 rfl rfl) (m_impl_CrossesOk_fn p0 ((hp1.bel hB0).up hS0) hm)) ?_
  rintro _ w4 ⟨r7, hm, rfl, hE5⟩
  have hB8 := hB0.trans (Ext.stp hE5 hS0.base)
  have hS9 := hS0.ext hE5
  refine wl_val (g_not (a := r7) rfl) rfl ?_
  refine wl_nil ?_
  refine hK3 _ _ ?_
  refine w_condI (p := ¬ (r7 = true)) (b := (!r7)) rfl (i_not Iff.rfl) (fun h10 => ?_) (fun h10 => ?_)
  · replace hm := hm.1 h10
    refine w_seq fun K11 hK11 => ?_
    refine w_region ?_
    refine wl_val (g_assign (v := .slice none 0 0) rfl) rfl ?_
    refine wl_nil ?_
    refine hK11 _ _ ?_
    refine w_ret ?_
    have hS12 := hS9.nilS (α := Int) (E := 3)
    repeat first | with_reducible refine q_then ?_ | with_reducible refine q_block ?_
    exact ret1 rfl (by decide) ⟨_, _, _, _, hm, rfl, toExt hB8, hS12⟩
  · replace hm := hm.2 h10
    refine w_skip ?_
    refine hK2 _ _ ?_
    refine w_seq fun K14 hK14 => ?_
    refine w_region ?_
    refine wl_val (g_move (v := .int .i64 p0) rfl) rfl ?_
    refine wl_val (g_move (v := .slice a1 n1 c1) rfl) rfl ?_
    refine wl_step rfl (g_call (vs := #[.int .i64 p0, .slice a1 n1 c1, .func (.func 80) #[] #[]]) CF74 (args3 rfl rfl rfl) (m_impl_follow_OrderAfter_1_fn p0 ((hp1.bel hB8).up hS9) hm)) ?_
    rintro _ w15 ⟨r18, a19, n20, c21, hm, rfl, hE16, hN17⟩
    have hS23 := hS9.call1 hE16 hN17
    have hB24 := hB8.trans (Ext.stp hE16 hS9.base)
    refine wl_val (g_assign (v := .slice a19 n20 c21) rfl) rfl ?_
    refine wl_nil ?_
    refine hK14 _ _ ?_
    refine w_ret ?_
    repeat first | with_reducible refine q_then ?_ | with_reducible refine q_block ?_
    exact ret1 rfl (by decide) ⟨_, _, _, _, hm, rfl, toExt hB24, hS23⟩

theorem m_impl_sameInts_fn {w : World} {a0 : Option Addr} {n0 c0 : Nat} {p0 : List Int} {a1 : Option Addr} {n1 c1 : Nat} {p1 : List Int} {Q : Bool → Prop} (hp0 : Vw w.heap.size w a0 n0 c0 p0) (hp1 : Vw w.heap.size w a1 n1 c1 p1) (hm : m_impl_sameInts p0 p1 Q) :
    Fn Try.prog 76 #[.slice a0 n0 c0, .slice a1 n1 c1] w (fun v w' => ∃ (r0 : Bool), Q r0 ∧ v = .bool r0 ∧ Ext w w') := by
  unfold m_impl_sameInts at hm
  have hB0 := Below.refl w.heap.size w
  have hS0 : Sep w w.heap.size [] := Sep.nil (Nat.le_refl _)
  refine fn_of_wp Try.func76 rfl (by kernel_rfl) (Nat.le_of_ble_eq_true rfl) ?_
  refine w_seq fun K1 hK1 => ?_
  refine w_region ?_
  refine wl_val (g_assign (v := .bool false) rfl) rfl ?_
  refine wl_nil ?_
  refine hK1 _ _ ?_
  refine w_seq fun K2 hK2 => ?_
  refine w_seq fun K3 hK3 => ?_
  refine w_region ?_
  refine wl_val (g_move (v := .slice a0 n0 c0) rfl) rfl ?_
  refine wl_val (q_len SL39 rfl (Vw.len (hp0.bel hB0))) rfl ?_
  refine wl_val (g_move (v := .slice a1 n1 c1) rfl) rfl ?_
  refine wl_val (q_len SL39 rfl (Vw.len (hp1.bel hB0))) rfl ?_
  refine wl_val (g_neq (a := (p0.length : Int)) (b := (p1.length : Int)) rfl rfl) rfl ?_
  refine wl_nil ?_
  refine hK3 _ _ ?_
  refine w_condI (p := (p0.length : Int) ≠ (p1.length : Int)) (b := (decide ((p0.length : Int) ≠ (p1.length : Int)))) rfl decide_eq_true_iff (fun h4 => ?_) (fun h4 => ?_)
  · replace hm := hm.1 h4
    refine w_seq fun K5 hK5 => ?_
    refine w_region ?_
    refine wl_val (g_assign (v := .bool false) rfl) rfl ?_
    refine wl_nil ?_
    refine hK5 _ _ ?_
    refine w_ret ?_
    repeat first | with_reducible refine q_then ?_ | with_reducible refine q_block ?_
    exact ret1 rfl (by decide) ⟨_, hm, rfl, toExt hB0⟩
  · replace hm := hm.2 h4
    refine w_skip ?_
    refine hK2 _ _ ?_
    refine w_cut (σ := Unit) (fun _ => []) (fun _ w' => m_impl_sameInts_K0 Q ∧ Below w.heap.size w w' ∧ Sep w' w.heap.size []) ?_ ?_
    · refine w_seq fun K7 hK7 => ?_
      refine w_region ?_
      refine wl_val (g_move (v := .slice a0 n0 c0) rfl) rfl ?_
      refine wl_val (q_len SL39 rfl (Vw.len (hp0.bel hB0))) rfl ?_
      refine wl_val (g_move (v := .int .i64 0) rfl) rfl ?_
      refine wl_nil ?_
      refine hK7 _ _ ?_
      refine w_block ?_
      obtain ⟨I72, μ73, h074, hr75⟩ := hm
      refine w_for (σ := Int) (fun v71 => [(0, .slice a0 n0 c0), (1, .slice a1 n1 c1), (12, .int .i64 (p0.length : Int)), (13, .int .i64 v71)]) (fun v71 w' => I72 v71 ∧ Below w.heap.size w w' ∧ Sep w' w.heap.size []) (fun v71 => μ73 v71) (0) ⟨rfl, rfl, rfl, rfl, trivial⟩ ⟨h074, hB0, hS0⟩ ?_
      rintro v71 b_ w76 ⟨hi_, hB77, hS78⟩
      show Wp _ _ _ _ (upds b_ [(0, .slice a0 n0 c0), (1, .slice a1 n1 c1), (12, .int .i64 (p0.length : Int)), (13, .int .i64 v71)]) w76
      have hm := hr75 v71 hi_
      refine w_seq fun K80 hK80 => ?_
      refine w_region ?_
      refine wl_val (g_lss (a := v71) (b := (p0.length : Int)) rfl rfl) rfl ?_
      refine wl_nil ?_
      refine hK80 _ _ ?_
      refine w_seq fun K81 hK81 => ?_
      refine w_condI (p := v71 < (p0.length : Int)) (b := (decide (v71 < (p0.length : Int)))) rfl decide_eq_true_iff (fun h82 => ?_) (fun h82 => ?_)
      · replace hm := hm.1 h82
        refine w_skip ?_
        refine hK81 _ _ ?_
        refine w_seq fun K83 hK83 => ?_
        refine w_block ?_
        refine w_seq fun K84 hK84 => ?_
        refine w_region ?_
        refine wl_val (g_move (v := .int .i64 v71) rfl) rfl ?_
        refine wl_val (g_assign (v := .int .i64 v71) rfl) rfl ?_
        refine wl_nil ?_
        refine hK84 _ _ ?_
        refine w_seq fun K85 hK85 => ?_
        refine w_draw (X := Ext) (Y := Ext) [] MIX (by decide +kernel) rfl Ext.refl (fun _ _ _ => Ext.trans) (fun _ _ _ => Chg.trans) (fun _ _ h => Ext.chg h _) (fun w86 hE87 => ?_)
        have hB88 := hB77.trans (Ext.stp hE87 hS78.base)
        have hS89 := hS78.ext hE87
        refine ⟨.slice a0 n0 c0, fun w90 hX91 => od_plain rfl (by have hS92 := hS89.ext hX91; have hB93 := hB88.trans (Ext.stp hX91 hS89.base); exact is_ext (g_move (v := .slice a0 n0 c0) rfl)), ?_⟩
        refine ⟨.int .i64 v71, fun w94 hX95 => od_plain rfl (by have hS96 := hS89.ext hX95; have hB97 := hB88.trans (Ext.stp hX95 hS89.base); exact is_ext (g_move (v := .int .i64 v71) rfl)), ?_⟩
        obtain ⟨hg102, hm⟩ := hm
        refine ⟨.pointer (some ((adr a0).add ((Int.toNat v71) * El.m Int))), fun w98 hX99 => od_plain rfl (by have hS100 := hS89.ext hX99; have hB101 := hB88.trans (Ext.stp hX99 hS89.base); exact is_ext (q_index (i := v71) SL39 rfl rfl (hp0.bel hB101) hg102)), ?_⟩
        refine ⟨.int .i64 (p0[(Int.toNat v71)]!), fun w103 hX104 => od_plain rfl (by have hS105 := hS89.ext hX104; have hB106 := hB88.trans (Ext.stp hX104 hS89.base); exact is_ext (q_load (i := v71) (v := .int .i64 (p0[(Int.toNat v71)]!)) ON3 (hp0.bel hB106) hg102 rfl rfl)), ?_⟩
        refine ⟨.slice a1 n1 c1, fun w107 hX108 => od_plain rfl (by have hS109 := hS89.ext hX108; have hB110 := hB88.trans (Ext.stp hX108 hS89.base); exact is_ext (g_move (v := .slice a1 n1 c1) rfl)), ?_⟩
        refine ⟨.int .i64 v71, fun w111 hX112 => od_plain rfl (by have hS113 := hS89.ext hX112; have hB114 := hB88.trans (Ext.stp hX112 hS89.base); exact is_ext (g_move (v := .int .i64 v71) rfl)), ?_⟩
        obtain ⟨hg119, hm⟩ := hm
        refine ⟨.pointer (some ((adr a1).add ((Int.toNat v71) * El.m Int))), fun w115 hX116 => od_plain rfl (by have hS117 := hS89.ext hX116; have hB118 := hB88.trans (Ext.stp hX116 hS89.base); exact is_ext (q_index (i := v71) SL39 rfl rfl (hp1.bel hB118) hg119)), ?_⟩
        refine ⟨.int .i64 (p1[(Int.toNat v71)]!), fun w120 hX121 => od_plain rfl (by have hS122 := hS89.ext hX121; have hB123 := hB88.trans (Ext.stp hX121 hS89.base); exact is_ext (q_load (i := v71) (v := .int .i64 (p1[(Int.toNat v71)]!)) ON3 (hp1.bel hB123) hg119 rfl rfl)), ?_⟩
        refine ⟨.bool (decide (p0[(Int.toNat v71)]! ≠ p1[(Int.toNat v71)]!)), fun w124 hX125 => od_plain rfl (by have hS126 := hS89.ext hX125; have hB127 := hB88.trans (Ext.stp hX125 hS89.base); exact is_ext (g_neq (a := p0[(Int.toNat v71)]!) (b := p1[(Int.toNat v71)]!) rfl rfl)), ?_⟩
        intro w128 hX129
        have hB130 := hB88.trans (Ext.stp hX129 hS89.base)
        have hS131 := hS89.ext hX129
        refine hK85 _ _ ?_
        refine w_condI (p := p0[(Int.toNat v71)]! ≠ p1[(Int.toNat v71)]!) (b := (decide (p0[(Int.toNat v71)]! ≠ p1[(Int.toNat v71)]!))) rfl decide_eq_true_iff (fun h132 => ?_) (fun h132 => ?_)
        · replace hm := hm.1 h132
          refine w_seq fun K133 hK133 => ?_
          refine w_region ?_
          refine wl_val (g_assign (v := .bool false) rfl) rfl ?_
          refine wl_nil ?_
          refine hK133 _ _ ?_
          refine w_ret ?_
          repeat first | with_reducible refine q_then ?_ | with_reducible refine q_block ?_
          exact ret1 rfl (by decide) ⟨_, hm, rfl, toExt hB130⟩
        · replace hm := hm.2 h132
          refine w_skip ?_
          refine hK83 _ _ ?_
          refine w_region ?_
          obtain ⟨hg134, hm⟩ := hm
          refine wl_val (g_add (a := v71) (b := 1) rfl rfl hg134) rfl ?_
          refine wl_val (g_move (v := .int .i64 (v71 + 1)) rfl) rfl ?_
          refine wl_nil ?_
          exact ⟨((v71 + 1)), hm.2, ⟨rfl, rfl, rfl, rfl, trivial⟩, ⟨hm.1, hB130, hS131⟩⟩
      · replace hm := hm.2 h82
        refine w_exit ?_
        exact ⟨(), trivial, ⟨hm, hB77, hS78⟩⟩
    · rintro _ b_ w135 ⟨hm, hB136, hS137⟩
      show Wp _ _ _ _ (upds b_ []) w135
      refine w_seq fun K138 hK138 => ?_
      refine w_region ?_
      refine wl_val (g_assign (v := .bool true) rfl) rfl ?_
      refine wl_nil ?_
      refine hK138 _ _ ?_
      refine w_ret ?_
      repeat first | with_reducible refine q_then ?_ | with_reducible refine q_block ?_
      exact ret1 rfl (by decide) ⟨_, hm, rfl, toExt hB136⟩

theorem m_impl_isHome_fn {w : World} {a1 : Option Addr} {n1 c1 : Nat} {p1 : List Cross} {Q : Bool → Prop} (p0 : Int) (hp1 : Vw w.heap.size w a1 n1 c1 p1) (hm : m_impl_isHome p0 p1 Q) :
    Fn Try.prog 64 #[.int .i64 p0, .slice a1 n1 c1] w (fun v w' => ∃ (r0 : Bool), Q r0 ∧ v = .bool r0 ∧ Ext w w') := by
  unfold m_impl_isHome at hm
  have hB0 := Below.refl w.heap.size w
  have hS0 : Sep w w.heap.size [] := Sep.nil (Nat.le_refl _)
  refine fn_of_wp Try.func64 rfl (by kernel_rfl) (Nat.le_of_ble_eq_true rfl) ?_
  refine w_seq fun K1 hK1 => ?_
  refine w_region ?_
  refine wl_val (g_assign (v := .bool false) rfl) rfl ?_
  refine wl_nil ?_
  refine hK1 _ _ ?_
  refine w_seq fun K2 hK2 => ?_
  refine w_region ?_
  refine wl_val (g_move (v := .int .i64 p0) rfl) rfl ?_
  refine wl_val (g_move (v := .slice a1 n1 c1) rfl) rfl ?_
  refine wl_step rfl (g_call (vs := #[.int .i64 p0, .slice a1 n1 c1]) CF71 (args2 rfl rfl) (m_impl_OrderAfter_fn p0 ((hp1.bel hB0).up hS0) hm)) ?_
  rintro _ w3 ⟨r6, a7, n8, c9, hm, rfl, hE4, hN5⟩
  have hS11 := hS0.call1 hE4 hN5
  have hB12 := hB0.trans (Ext.stp hE4 hS0.base)
  refine wl_val (g_move (v := .int .i64 p0) rfl) rfl ?_
  refine wl_step rfl (g_call (vs := #[.int .i64 p0]) CF77 (args1 rfl) (m_impl_upTo_fn p0 hm)) ?_
  rintro _ w13 ⟨r16, a17, n18, c19, hm, rfl, hE14, hN15⟩
  have hS21 := hS11.call1 hE14 hN15
  have hB22 := hB12.trans (Ext.stp hE14 hS11.base)
  refine wl_step rfl (g_call (vs := #[.slice a7 n8 c9, .slice a17 n18 c19]) CF76 (args2 rfl rfl) (m_impl_sameInts_fn (oS.vw hS21.g1) (oS.vw hS21.g0) hm)) ?_
  rintro _ w23 ⟨r26, hm, rfl, hE24⟩
  have hB27 := hB22.trans (Ext.stp hE24 hS21.base)
  have hS28 := hS21.ext hE24
  refine wl_val (g_assign (v := .bool r26) rfl) rfl ?_
  refine wl_nil ?_
  refine hK2 _ _ ?_
  refine w_ret ?_
  repeat first | with_reducible refine q_then ?_ | with_reducible refine q_block ?_
  exact ret1 rfl (by decide) ⟨_, hm, rfl, toExt hB27⟩

theorem m_impl_IsUntwisted_fn {w : World} {a1 : Option Addr} {n1 c1 : Nat} {p1 : List Cross} {Q : Bool → Prop} (p0 : Int) (hp1 : Vw w.heap.size w a1 n1 c1 p1) (hm : m_impl_IsUntwisted p0 p1 Q) :
    Fn Try.prog 35 #[.int .i64 p0, .slice a1 n1 c1] w (fun v w' => ∃ (r0 : Bool), Q r0 ∧ v = .bool r0 ∧ Ext w w') := by
  unfold m_impl_IsUntwisted at hm
  have hB0 := Below.refl w.heap.size w
  have hS0 : Sep w w.heap.size [] := Sep.nil (Nat.le_refl _)
  refine fn_of_wp Try.func35 rfl (by kernel_rfl) (Nat.le_of_ble_eq_true rfl) ?_
  refine w_seq fun K1 hK1 => ?_
  refine w_region ?_
  refine wl_val (g_assign (v := .bool false) rfl) rfl ?_
  refine wl_nil ?_
  refine hK1 _ _ ?_
  refine w_seq fun K2 hK2 => ?_
  refine w_region ?_
  refine wl_val (g_move (v := .int .i64 p0) rfl) rfl ?_
  refine wl_val (g_move (v := .slice a1 n1 c1) rfl) rfl ?_
  refine wl_step rfl (g_call (vs := #[.int .i64 p0, .slice a1 n1 c1]) CF57 (args2 rfl rfl) (m_impl_CrossesOk_fn p0 ((hp1.bel hB0).up hS0) hm)) ?_
  rintro _ w3 ⟨r6, hm, rfl, hE4⟩
  have hB7 := hB0.trans (Ext.stp hE4 hS0.base)
  have hS8 := hS0.ext hE4
  refine wl_val (g_move (v := .bool r6) rfl) rfl ?_
  refine wl_guard (c := r6 = true) (val := .int .i64 p0) (b := (r6 == true)) (gv_some rfl rfl rfl) beq_iff_eq (fun hc9 => ?_) ?_
  · have hcq0 : r6 = true := (Iff.rfl.mp hc9)
    exact g_move (v := .int .i64 p0) rfl
  refine wl_guard (c := r6 = true) (val := .slice a1 n1 c1) (b := (r6 == true)) (gv_some rfl rfl rfl) beq_iff_eq (fun hc10 => ?_) ?_
  · have hcq0 : r6 = true := (Iff.rfl.mp hc10)
    exact g_move (v := .slice a1 n1 c1) rfl
  obtain ⟨r12, hk13, hm⟩ := hm
  refine wl_guardE (X := Ext) (c := r6 = true) (val := .bool r12) (Ext.refl _) (b := (r6 == true)) (gv_some rfl rfl rfl) beq_iff_eq (fun hc11 => ?_) (fun w14 hE15 => ?_)
  · have hcq0 : r6 = true := (Iff.rfl.mp hc11)
    exact (g_call (vs := #[.int .i64 p0, .slice a1 n1 c1]) CF64 (args2 (if_pos hc11) (if_pos hc11)) ((m_impl_isHome_fn p0 ((hp1.bel hB7).up hS8) (hk13 hcq0)).mono fun _ _ ⟨_, h1, h2, h3⟩ => ⟨by rw [h2, h1], h3⟩))
  have hB16 := hB7.trans (Ext.stp hE15 hS8.base)
  have hS17 := hS8.ext hE15
  refine wl_val (g_pick_and (b := r6) (q := r12) rfl rfl) rfl ?_
  refine wl_val (g_move (v := .bool (r6 && r12)) rfl) rfl ?_
  by_cases hc18 : (r6 && r12) = true
  · replace hm := hm.1 ((i_and Iff.rfl Iff.rfl).mp hc18)
    refine wl_valT (g_move (v := .int .i64 p0) rfl) (gv_T (gv_some rfl rfl rfl) hc18) ?_
    refine wl_valT (g_move (v := .slice a1 n1 c1) rfl) (gv_T (gv_some rfl rfl rfl) hc18) ?_
    refine wl_stepT (gv_T (gv_some rfl rfl rfl) hc18) (g_call (vs := #[.int .i64 p0, .slice a1 n1 c1]) CF34 (args2 rfl rfl) (m_impl_WoundPairs_fn p0 ((hp1.bel hB16).up hS17) hm)) ?_
    rintro _ w19 ⟨r22, a23, n24, c25, y26, hm, he27, rfl, hE20, hN21⟩
    have hS31 := hS17.call2 hE20 hN21
    have hB32 := hB16.trans (Ext.stp hE20 hS17.base)
    refine wl_valT (q_len SL37 rfl (Tv.len (oT.vw hS31.g0 hS31.g1 he27))) (gv_T (gv_some rfl rfl rfl) hc18) ?_
    refine wl_valT (g_eql (a := (r22.length : Int)) (b := 0) rfl rfl) (gv_T (gv_some rfl rfl rfl) hc18) ?_
    refine wl_val (g_pickT (b := (r6 && r12)) rfl hc18 rfl) rfl ?_
    refine wl_val (g_assign (v := .bool (decide ((r22.length : Int) = 0))) rfl) rfl ?_
    refine wl_nil ?_
    refine hK2 _ _ ?_
    refine w_ret ?_
    repeat first | with_reducible refine q_then ?_ | with_reducible refine q_block ?_
    exact ret1 rfl (by decide) ⟨_, hm, rfl, toExt hB32⟩
  · have hc18n := b_F hc18
    replace hm := hm.2 (i_neg (i_and Iff.rfl Iff.rfl) hc18n)
    refine wl_skipF (gv_F (gv_some rfl rfl rfl) hc18n) ?_
    refine wl_skipF (gv_F (gv_some rfl rfl rfl) hc18n) ?_
    refine wl_skipF (gv_F (gv_some rfl rfl rfl) hc18n) ?_
    refine wl_skipF (gv_F (gv_some rfl rfl rfl) hc18n) ?_
    refine wl_skipF (gv_F (gv_some rfl rfl rfl) hc18n) ?_
    refine wl_val (g_pickF (b := (r6 && r12)) rfl hc18n rfl) rfl ?_
    refine wl_val (g_assign (v := .bool false) rfl) rfl ?_
    refine wl_nil ?_
    refine hK2 _ _ ?_
    refine w_ret ?_
    repeat first | with_reducible refine q_then ?_ | with_reducible refine q_block ?_
    exact ret1 rfl (by decide) ⟨_, hm, rfl, toExt hB16⟩

theorem m_spec_CountInversions_fn {w : World} {a0 : Option Addr} {n0 c0 : Nat} {p0 : List Int} {Q : Int → Prop} (hp0 : Vw w.heap.size w a0 n0 c0 p0) (hm : m_spec_CountInversions p0 Q) :
    Fn Try.prog 36 #[.slice a0 n0 c0] w (fun v w' => ∃ (r0 : Int), Q r0 ∧ v = .int .i64 r0 ∧ Ext w w') := by
  unfold m_spec_CountInversions at hm
  have hB0 := Below.refl w.heap.size w
  have hS0 : Sep w w.heap.size [] := Sep.nil (Nat.le_refl _)
  refine fn_of_wp Try.func36 rfl (by kernel_rfl) (Nat.le_of_ble_eq_true rfl) ?_
  refine w_seq fun K1 hK1 => ?_
  refine w_region ?_
  refine wl_val (g_assign (v := .int .i64 0) rfl) rfl ?_
  refine wl_nil ?_
  refine hK1 _ _ ?_
  refine w_seq fun K2 hK2 => ?_
  refine w_seq fun K3 hK3 => ?_
  refine w_region ?_
  refine wl_val (g_move (v := .slice a0 n0 c0) rfl) rfl ?_
  refine wl_step rfl (g_call (vs := #[.slice a0 n0 c0]) CF62 (args1 rfl) (m_spec_OrderOk_fn ((hp0.bel hB0).up hS0) hm)) ?_
  rintro _ w4 ⟨r7, hm, rfl, hE5⟩
  have hB8 := hB0.trans (Ext.stp hE5 hS0.base)
  have hS9 := hS0.ext hE5
  refine wl_val (g_not (a := r7) rfl) rfl ?_
  refine wl_nil ?_
  refine hK3 _ _ ?_
  refine w_condI (p := ¬ (r7 = true)) (b := (!r7)) rfl (i_not Iff.rfl) (fun h10 => ?_) (fun h10 => ?_)
  · replace hm := hm.1 h10
    refine w_seq fun K11 hK11 => ?_
    refine w_region ?_
    refine wl_val (g_assign (v := .int .i64 (-1)) rfl) rfl ?_
    refine wl_nil ?_
    refine hK11 _ _ ?_
    refine w_ret ?_
    repeat first | with_reducible refine q_then ?_ | with_reducible refine q_block ?_
    exact ret1 rfl (by decide) ⟨_, hm, rfl, toExt hB8⟩
  · replace hm := hm.2 h10
    refine w_skip ?_
    refine hK2 _ _ ?_
    refine w_seq fun K12 hK12 => ?_
    refine w_region ?_
    refine wl_val (g_assign (v := .int .i64 0) rfl) rfl ?_
    refine wl_nil ?_
    refine hK12 _ _ ?_
    refine w_cut (σ := Int) (fun v312 => [(3, .int .i64 v312)]) (fun v312 w' => m_spec_CountInversions_K1 Q v312 ∧ Below w.heap.size w w' ∧ Sep w' w.heap.size []) ?_ ?_
    · refine w_seq fun K314 hK314 => ?_
      refine w_region ?_
      refine wl_val (g_assign (v := .int .i64 0) rfl) rfl ?_
      refine wl_nil ?_
      refine hK314 _ _ ?_
      refine w_block ?_
      obtain ⟨I317, μ318, h0319, hr320⟩ := hm
      refine w_for (σ := Int × Int) (fun ⟨v315, v316⟩ => [(0, .slice a0 n0 c0), (3, .int .i64 v315), (4, .int .i64 v316)]) (fun ⟨v315, v316⟩ w' => I317 v315 v316 ∧ Below w.heap.size w w' ∧ Sep w' w.heap.size []) (fun ⟨v315, v316⟩ => μ318 v315 v316) (0, 0) ⟨rfl, rfl, rfl, trivial⟩ ⟨h0319, hB8, hS9⟩ ?_
      rintro ⟨v315, v316⟩ b_ w321 ⟨hi_, hB322, hS323⟩
      show Wp _ _ _ _ (upds b_ [(0, .slice a0 n0 c0), (3, .int .i64 v315), (4, .int .i64 v316)]) w321
      have hm := hr320 v315 v316 hi_
      refine w_seq fun K325 hK325 => ?_
      refine w_seq fun K326 hK326 => ?_
      refine w_region ?_
      refine wl_val (g_move (v := .int .i64 v316) rfl) rfl ?_
      refine wl_val (g_move (v := .slice a0 n0 c0) rfl) rfl ?_
      refine wl_val (q_len SL39 rfl (Vw.len (hp0.bel hB322))) rfl ?_
      refine wl_val (g_lss (a := v316) (b := (p0.length : Int)) rfl rfl) rfl ?_
      refine wl_nil ?_
      refine hK326 _ _ ?_
      refine w_condI (p := v316 < (p0.length : Int)) (b := (decide (v316 < (p0.length : Int)))) rfl decide_eq_true_iff (fun h327 => ?_) (fun h327 => ?_)
      · replace hm := hm.1 h327
        refine w_skip ?_
        refine hK325 _ _ ?_
        refine w_cut (σ := Int) (fun v328 => [(0, .slice a0 n0 c0), (3, .int .i64 v328), (4, .int .i64 v316)]) (fun v328 w' => m_spec_CountInversions_K0 v316 (fun v315' v316' => I317 v315' v316' ∧ μ318 v315' v316' < μ318 v315 v316) v328 ∧ Below w.heap.size w w' ∧ Sep w' w.heap.size []) ?_ ?_
        · refine w_block ?_
          refine w_seq fun K330 hK330 => ?_
          refine w_region ?_
          refine wl_val (g_assign (v := .int .i64 0) rfl) rfl ?_
          refine wl_nil ?_
          refine hK330 _ _ ?_
          refine w_block ?_
          obtain ⟨I333, μ334, h0335, hr336⟩ := hm
          refine w_for (σ := Int × Int) (fun ⟨v331, v332⟩ => [(0, .slice a0 n0 c0), (3, .int .i64 v331), (4, .int .i64 v316), (5, .int .i64 v332)]) (fun ⟨v331, v332⟩ w' => I333 v331 v332 ∧ Below w.heap.size w w' ∧ Sep w' w.heap.size []) (fun ⟨v331, v332⟩ => μ334 v331 v332) (v315, 0) ⟨rfl, rfl, rfl, rfl, trivial⟩ ⟨h0335, hB322, hS323⟩ ?_
          rintro ⟨v331, v332⟩ b_ w337 ⟨hi_, hB338, hS339⟩
          show Wp _ _ _ _ (upds b_ [(0, .slice a0 n0 c0), (3, .int .i64 v331), (4, .int .i64 v316), (5, .int .i64 v332)]) w337
          have hm := hr336 v331 v332 hi_
          refine w_seq fun K341 hK341 => ?_
          refine w_seq fun K342 hK342 => ?_
          refine w_region ?_
          refine wl_val (g_move (v := .int .i64 v332) rfl) rfl ?_
          refine wl_val (g_move (v := .int .i64 v316) rfl) rfl ?_
          refine wl_val (g_lss (a := v332) (b := v316) rfl rfl) rfl ?_
          refine wl_nil ?_
          refine hK342 _ _ ?_
          refine w_condI (p := v332 < v316) (b := (decide (v332 < v316))) rfl decide_eq_true_iff (fun h343 => ?_) (fun h343 => ?_)
          · replace hm := hm.1 h343
            refine w_skip ?_
            refine hK341 _ _ ?_
            refine w_seq fun K344 hK344 => ?_
            refine w_block ?_
            refine w_seq fun K345 hK345 => ?_
            refine w_draw (X := Ext) (Y := Ext) [] MIX (by decide +kernel) rfl Ext.refl (fun _ _ _ => Ext.trans) (fun _ _ _ => Chg.trans) (fun _ _ h => Ext.chg h _) (fun w346 hE347 => ?_)
            have hB348 := hB338.trans (Ext.stp hE347 hS339.base)
            have hS349 := hS339.ext hE347
            refine ⟨.slice a0 n0 c0, fun w350 hX351 => od_plain rfl (by have hS352 := hS349.ext hX351; have hB353 := hB348.trans (Ext.stp hX351 hS349.base); exact is_ext (g_move (v := .slice a0 n0 c0) rfl)), ?_⟩
            refine ⟨.int .i64 v332, fun w354 hX355 => od_plain rfl (by have hS356 := hS349.ext hX355; have hB357 := hB348.trans (Ext.stp hX355 hS349.base); exact is_ext (g_move (v := .int .i64 v332) rfl)), ?_⟩
            obtain ⟨hg362, hm⟩ := hm
            refine ⟨.pointer (some ((adr a0).add ((Int.toNat v332) * El.m Int))), fun w358 hX359 => od_plain rfl (by have hS360 := hS349.ext hX359; have hB361 := hB348.trans (Ext.stp hX359 hS349.base); exact is_ext (q_index (i := v332) SL39 rfl rfl (hp0.bel hB361) hg362)), ?_⟩
            refine ⟨.int .i64 (p0[(Int.toNat v332)]!), fun w363 hX364 => od_plain rfl (by have hS365 := hS349.ext hX364; have hB366 := hB348.trans (Ext.stp hX364 hS349.base); exact is_ext (q_load (i := v332) (v := .int .i64 (p0[(Int.toNat v332)]!)) ON3 (hp0.bel hB366) hg362 rfl rfl)), ?_⟩
            refine ⟨.slice a0 n0 c0, fun w367 hX368 => od_plain rfl (by have hS369 := hS349.ext hX368; have hB370 := hB348.trans (Ext.stp hX368 hS349.base); exact is_ext (g_move (v := .slice a0 n0 c0) rfl)), ?_⟩
            refine ⟨.int .i64 v316, fun w371 hX372 => od_plain rfl (by have hS373 := hS349.ext hX372; have hB374 := hB348.trans (Ext.stp hX372 hS349.base); exact is_ext (g_move (v := .int .i64 v316) rfl)), ?_⟩
            obtain ⟨hg379, hm⟩ := hm
            refine ⟨.pointer (some ((adr a0).add ((Int.toNat v316) * El.m Int))), fun w375 hX376 => od_plain rfl (by have hS377 := hS349.ext hX376; have hB378 := hB348.trans (Ext.stp hX376 hS349.base); exact is_ext (q_index (i := v316) SL39 rfl rfl (hp0.bel hB378) hg379)), ?_⟩
            refine ⟨.int .i64 (p0[(Int.toNat v316)]!), fun w380 hX381 => od_plain rfl (by have hS382 := hS349.ext hX381; have hB383 := hB348.trans (Ext.stp hX381 hS349.base); exact is_ext (q_load (i := v316) (v := .int .i64 (p0[(Int.toNat v316)]!)) ON3 (hp0.bel hB383) hg379 rfl rfl)), ?_⟩
            refine ⟨.bool (decide (p0[(Int.toNat v332)]! > p0[(Int.toNat v316)]!)), fun w384 hX385 => od_plain rfl (by have hS386 := hS349.ext hX385; have hB387 := hB348.trans (Ext.stp hX385 hS349.base); exact is_ext (g_gtr (a := p0[(Int.toNat v332)]!) (b := p0[(Int.toNat v316)]!) rfl rfl)), ?_⟩
            intro w388 hX389
            have hB390 := hB348.trans (Ext.stp hX389 hS349.base)
            have hS391 := hS349.ext hX389
            refine hK345 _ _ ?_
            refine w_condI (p := p0[(Int.toNat v332)]! > p0[(Int.toNat v316)]!) (b := (decide (p0[(Int.toNat v332)]! > p0[(Int.toNat v316)]!))) rfl decide_eq_true_iff (fun h392 => ?_) (fun h392 => ?_)
            · replace hm := hm.1 h392
              refine w_region ?_
              refine wl_val (g_move (v := .int .i64 v331) rfl) rfl ?_
              obtain ⟨hg393, hm⟩ := hm
              refine wl_val (g_add (a := v331) (b := 1) rfl rfl hg393) rfl ?_
              refine wl_val (g_assign (v := .int .i64 (v331 + 1)) rfl) rfl ?_
              refine wl_nil ?_
              refine hK344 _ _ ?_
              refine w_region ?_
              refine wl_val (g_move (v := .int .i64 v332) rfl) rfl ?_
              obtain ⟨hg394, hm⟩ := hm
              refine wl_val (g_add (a := v332) (b := 1) rfl rfl hg394) rfl ?_
              refine wl_val (g_assign (v := .int .i64 (v332 + 1)) rfl) rfl ?_
              refine wl_nil ?_
              exact ⟨((v331 + 1), (v332 + 1)), hm.2, ⟨rfl, rfl, rfl, rfl, trivial⟩, ⟨hm.1, hB390, hS391⟩⟩
            · replace hm := hm.2 h392
              refine w_skip ?_
              refine hK344 _ _ ?_
              refine w_region ?_
              refine wl_val (g_move (v := .int .i64 v332) rfl) rfl ?_
              obtain ⟨hg395, hm⟩ := hm
              refine wl_val (g_add (a := v332) (b := 1) rfl rfl hg395) rfl ?_
              refine wl_val (g_assign (v := .int .i64 (v332 + 1)) rfl) rfl ?_
              refine wl_nil ?_
              exact ⟨(v331, (v332 + 1)), hm.2, ⟨rfl, rfl, rfl, rfl, trivial⟩, ⟨hm.1, hB390, hS391⟩⟩
          · replace hm := hm.2 h343
            refine w_exit ?_
            exact ⟨(v331), ⟨rfl, rfl, rfl, trivial⟩, ⟨hm, hB338, hS339⟩⟩
        · rintro v328 b_ w396 ⟨hm, hB397, hS398⟩
          show Wp _ _ _ _ (upds b_ [(0, .slice a0 n0 c0), (3, .int .i64 v328), (4, .int .i64 v316)]) w396
          refine w_region ?_
          refine wl_val (g_move (v := .int .i64 v316) rfl) rfl ?_
          obtain ⟨hg399, hm⟩ := hm
          refine wl_val (g_add (a := v316) (b := 1) rfl rfl hg399) rfl ?_
          refine wl_val (g_assign (v := .int .i64 (v316 + 1)) rfl) rfl ?_
          refine wl_nil ?_
          exact ⟨(v328, (v316 + 1)), hm.2, ⟨rfl, rfl, rfl, trivial⟩, ⟨hm.1, hB397, hS398⟩⟩
      · replace hm := hm.2 h327
        refine w_exit ?_
        exact ⟨(v315), ⟨rfl, trivial⟩, ⟨hm, hB322, hS323⟩⟩
    · rintro v312 b_ w400 ⟨hm, hB401, hS402⟩
      show Wp _ _ _ _ (upds b_ [(3, .int .i64 v312)]) w400
      refine w_seq fun K403 hK403 => ?_
      refine w_region ?_
      refine wl_val (g_move (v := .int .i64 v312) rfl) rfl ?_
      refine wl_val (g_assign (v := .int .i64 v312) rfl) rfl ?_
      refine wl_nil ?_
      refine hK403 _ _ ?_
      refine w_ret ?_
      repeat first | with_reducible refine q_then ?_ | with_reducible refine q_block ?_
      exact ret1 rfl (by decide) ⟨_, hm, rfl, toExt hB401⟩

end Go.Proofs.Ytcgkcoogaieolaa
