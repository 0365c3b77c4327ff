/- The walks: the code does what its model says. Printed by a program (gen2.py). No statement of the claim stands here. -/
import Derived.Test.YtcgkcoogaieolaaFacts2
import Derived.Test.YtcgkcoogaieolaaSop
import Derived.Test.YtcgkcoogaieolaaFacts
import Derived.Test.YtcgkcoogaieolaaMB
import Derived.Test.YtcgkcoogaieolaaWB1
namespace Go.Proofs.Ytcgkcoogaieolaa
open Go Go.RowKit
set_option maxRecDepth 100000
theorem m_impl_follow_twists_1_fn {w : World} {B_ : Nat} {L_ : List Ob} {a1 : Option Addr} {n1 c1 : Nat} {p1 : List Cross} {gp2_0 : Nat} {ap2_0 : Option Addr} {np2_0 cp2_0 : Nat} {p2_0 : List (List Int)} {yp2_0 : List (Hd Int)} {Q : (List Int) → (List (List Int)) → Prop} (hS0 : Sep w B_ (oB gp2_0 37 #[.slice ap2_0 np2_0 cp2_0] :: oS 39 ap2_0 np2_0 cp2_0 (yp2_0 : List (Hd Int)) :: oT 3 (yp2_0 : List (Hd Int)) :: L_)) (p0 : Int) (hp1 : Vw B_ w a1 n1 c1 p1) (hep2_0 : ers yp2_0 = p2_0) (hm : m_impl_follow_twists_1 p0 p1 p2_0 Q) :
    Fn Try.prog 74 #[.int .i64 p0, .slice a1 n1 c1, .func (.func 75) #[] #[.pointer (some (⟨gp2_0, 0, none⟩ : Addr))]] w (fun v w' => ∃ (r0 : List Int) (a0 : Option Addr) (n0 c0 : Nat) (x0 : List (List Int)) (aa0 : Option Addr) (nn0 cc0 : Nat) (yy0 : List (Hd Int)), Q r0 x0 ∧ ers yy0 = x0 ∧ v = .slice a0 n0 c0 ∧ Below B_ w w' ∧ Sep w' B_ (oS 3 a0 n0 c0 r0 :: oB gp2_0 37 #[.slice aa0 nn0 cc0] :: oS 39 aa0 nn0 cc0 yy0 :: oT 3 yy0 :: L_)) := by
  unfold m_impl_follow_twists_1 at hm
  have hB0 := Below.refl B_ w
  refine fn_of_wp Try.func74 rfl (by kernel_rfl) (Nat.le_of_ble_eq_true rfl) ?_
  refine w_seq fun K5 hK5 => ?_
  refine w_region ?_
  refine wl_val (g_assign (v := .slice none 0 0) rfl) rfl ?_
  refine wl_nil ?_
  refine hK5 _ _ ?_
  refine w_seq fun K6 hK6 => ?_
  refine w_region ?_
  refine wl_val (g_move (v := .int .i64 p0) rfl) rfl ?_
  refine wl_step rfl (g_call (vs := #[.int .i64 p0]) CF77 (args1 rfl) (m_impl_upTo_fn p0 hm)) ?_
  rintro _ w7 ⟨r10, a11, n12, c13, hm, rfl, hE8, hN9⟩
  have hS15 := hS0.call1 hE8 hN9
  have hB16 := hB0.trans (Ext.stp hE8 hS0.base)
  refine wl_val (g_assign (v := .slice a11 n12 c13) rfl) rfl ?_
  refine wl_nil ?_
  refine hK6 _ _ ?_
  refine w_cut (σ := List Int × List (List Int) × Option Addr × Nat × Nat × List (Hd Int)) (fun ⟨x487, x488, a489, n490, c491, y492⟩ => [(7, .slice a11 n12 c13)]) (fun ⟨x487, x488, a489, n490, c491, y492⟩ w' => m_impl_follow_twists_1_K0 Q x487 x488 ∧ ers y492 = x488 ∧ Below B_ w w' ∧ Sep w' B_ (oB gp2_0 37 #[.slice a489 n490 c491] :: oS 3 a11 n12 c13 (x487 : List Int) :: oS 39 a489 n490 c491 (y492 : List (Hd Int)) :: oT 3 (y492 : List (Hd Int)) :: L_)) ?_ ?_
  · refine w_seq fun K495 hK495 => ?_
    refine w_region ?_
    refine wl_val (g_move (v := .slice a1 n1 c1) rfl) rfl ?_
    refine wl_val (q_len SL24 rfl (Vw.len (hp1.bel hB16))) rfl ?_
    refine wl_val (g_move (v := .int .i64 0) rfl) rfl ?_
    refine wl_nil ?_
    refine hK495 _ _ ?_
    refine w_block ?_
    have hS504 := hS15.f3
    have hS505 := hS504.f3
    have hS506 := hS505.f2
    have hS507 := hS506.f3
    obtain ⟨I508, μ509, h0510, hr511⟩ := hm
    refine w_for (σ := List Int × Int × List (List Int) × Option Addr × Nat × Nat × List (Hd Int)) (fun ⟨x496, v497, x498, a499, n500, c501, y502⟩ => [(2, .func (.func 75) #[] #[.pointer (some (⟨gp2_0, 0, none⟩ : Addr))]), (7, .slice a11 n12 c13), (12, .slice a1 n1 c1), (13, .int .i64 (p1.length : Int)), (14, .int .i64 v497)]) (fun ⟨x496, v497, x498, a499, n500, c501, y502⟩ w' => I508 x496 v497 x498 ∧ ers y502 = x498 ∧ Below B_ w w' ∧ Sep w' B_ (oB gp2_0 37 #[.slice a499 n500 c501] :: oS 3 a11 n12 c13 (x496 : List Int) :: oS 39 a499 n500 c501 (y502 : List (Hd Int)) :: oT 3 (y502 : List (Hd Int)) :: L_)) (fun ⟨x496, v497, x498, a499, n500, c501, y502⟩ => μ509 x496 v497 x498) (r10, 0, p2_0, ap2_0, np2_0, cp2_0, yp2_0) ⟨rfl, rfl, rfl, rfl, rfl, trivial⟩ ⟨h0510, hep2_0, hB16, hS507⟩ ?_
    rintro ⟨x496, v497, x498, a499, n500, c501, y502⟩ b_ w512 ⟨hi_, he503, hB513, hS514⟩
    show Wp _ _ _ _ (upds b_ [(2, .func (.func 75) #[] #[.pointer (some (⟨gp2_0, 0, none⟩ : Addr))]), (7, .slice a11 n12 c13), (12, .slice a1 n1 c1), (13, .int .i64 (p1.length : Int)), (14, .int .i64 v497)]) w512
    have hm := hr511 x496 v497 x498 hi_
    refine w_seq fun K516 hK516 => ?_
    refine w_region ?_
    refine wl_val (g_lss (a := v497) (b := (p1.length : Int)) rfl rfl) rfl ?_
    refine wl_nil ?_
    refine hK516 _ _ ?_
    refine w_seq fun K517 hK517 => ?_
    refine w_condI (p := v497 < (p1.length : Int)) (b := (decide (v497 < (p1.length : Int)))) rfl decide_eq_true_iff (fun h518 => ?_) (fun h518 => ?_)
    · replace hm := hm.1 h518
      refine w_skip ?_
      refine hK517 _ _ ?_
      refine w_seq fun K519 hK519 => ?_
      refine w_block ?_
      refine w_seq fun K520 hK520 => ?_
      refine w_region ?_
      obtain ⟨hg521, hm⟩ := hm
      refine wl_val (q_index (i := v497) SL24 rfl rfl (hp1.bel hB513) hg521) rfl ?_
      refine wl_val (q_loadS (i := v497) (cs := [.int .i64 (p1[(Int.toNat v497)]!.1), .bool (p1[(Int.toNat v497)]!.2)]) AG56 (hp1.bel hB513) hg521 rfl rfl) rfl ?_
      refine wl_step rfl (q_alloc (cs := #[.int .i64 0, .bool false]) ZR56 rfl hS514) ?_
      rintro _ w522 ⟨g523, rfl, hS525, hE524⟩
      have hB527 := hB513.trans (Ext.stp hE524 hS514.base)
      refine wl_step rfl (q_storeB (i := 0) (bs' := #[.int .i64 (p1[(Int.toNat v497)]!.1), .bool (p1[(Int.toNat v497)]!.2)]) (vs := [.int .i64 (p1[(Int.toNat v497)]!.1), .bool (p1[(Int.toNat v497)]!.2)]) hS525 AG56.sz rfl rfl rfl (by simp [Value.oneCell']) (Nat.le_of_ble_eq_true rfl) rfl) ?_
      rintro _ w528 ⟨rfl, hS529, hb530⟩
      have hB531 := hB527.trans hb530
      refine wl_nil ?_
      refine hK520 _ _ ?_
      refine w_seq fun K532 hK532 => ?_
      refine w_draw (X := Ext) (Y := Ext) [0, 0, 0, 0, 0, 0, 0, 0, 0, 0, 0, 0, 0, 1] MIX (by decide +kernel) rfl Ext.refl (fun _ _ _ => Ext.trans) (fun _ _ _ => Chg.trans) (fun _ _ h => Ext.chg h _) (fun w533 hE534 => ?_)
      have hB535 := hB531.trans (Ext.stp hE534 hS529.base)
      have hS536 := hS529.ext hE534
      refine ⟨.func (.func 75) #[] #[.pointer (some (⟨gp2_0, 0, none⟩ : Addr))], fun w537 hX538 => od_plain rfl (by have hS539 := hS536.ext hX538; have hB540 := hB535.trans (Ext.stp hX538 hS536.base); exact is_ext (g_move (v := .func (.func 75) #[] #[.pointer (some (⟨gp2_0, 0, none⟩ : Addr))]) rfl)), ?_⟩
      refine ⟨.agg #[.int .i64 (p1[(Int.toNat v497)]!.1), .bool (p1[(Int.toNat v497)]!.2)], fun w541 hX542 => od_plain rfl (by have hS543 := hS536.ext hX542; have hB544 := hB535.trans (Ext.stp hX542 hS536.base); exact is_ext (q_loadBS (bs := #[.int .i64 (p1[(Int.toNat v497)]!.1), .bool (p1[(Int.toNat v497)]!.2)]) hS543.g0 AG56 rfl)), ?_⟩
      refine ⟨.slice a11 n12 c13, fun w545 hX546 => od_plain rfl (by have hS547 := hS536.ext hX546; have hB548 := hB535.trans (Ext.stp hX546 hS536.base); exact is_ext (g_move (v := .slice a11 n12 c13) rfl)), ?_⟩
      refine ⟨.pointer (some (((⟨g523, 0, none⟩ : Addr)).add 0)), fun w549 hX550 => od_plain rfl (by have hS551 := hS536.ext hX550; have hB552 := hB535.trans (Ext.stp hX550 hS536.base); exact is_ext (g_fieldAddr (q := (⟨g523, 0, none⟩ : Addr)) FL56_0 ON3 rfl)), ?_⟩
      refine ⟨.int .i64 (p1[(Int.toNat v497)]!.1), fun w553 hX554 => od_plain rfl (by have hS555 := hS536.ext hX554; have hB556 := hB535.trans (Ext.stp hX554 hS536.base); exact is_ext (q_loadB (i := 0) (bs := #[.int .i64 (p1[(Int.toNat v497)]!.1), .bool (p1[(Int.toNat v497)]!.2)]) hS555.g0 ON3 rfl rfl)), ?_⟩
      obtain ⟨hg561, hm⟩ := hm
      refine ⟨.pointer (some ((adr a11).add ((Int.toNat (p1[(Int.toNat v497)]!.1)) * El.m Int))), fun w557 hX558 => od_plain rfl (by have hS559 := hS536.ext hX558; have hB560 := hB535.trans (Ext.stp hX558 hS536.base); exact is_ext (q_index (i := p1[(Int.toNat v497)]!.1) SL39 rfl rfl (oS.vw hS559.g2) hg561)), ?_⟩
      refine ⟨.int .i64 (x496[(Int.toNat (p1[(Int.toNat v497)]!.1))]!), fun w562 hX563 => od_plain rfl (by have hS564 := hS536.ext hX563; have hB565 := hB535.trans (Ext.stp hX563 hS536.base); exact is_ext (q_load (i := p1[(Int.toNat v497)]!.1) (v := .int .i64 (x496[(Int.toNat (p1[(Int.toNat v497)]!.1))]!)) ON3 (oS.vw hS564.g2) hg561 rfl rfl)), ?_⟩
      refine ⟨.slice a11 n12 c13, fun w566 hX567 => od_plain rfl (by have hS568 := hS536.ext hX567; have hB569 := hB535.trans (Ext.stp hX567 hS536.base); exact is_ext (g_move (v := .slice a11 n12 c13) rfl)), ?_⟩
      refine ⟨.pointer (some (((⟨g523, 0, none⟩ : Addr)).add 0)), fun w570 hX571 => od_plain rfl (by have hS572 := hS536.ext hX571; have hB573 := hB535.trans (Ext.stp hX571 hS536.base); exact is_ext (g_fieldAddr (q := (⟨g523, 0, none⟩ : Addr)) FL56_0 ON3 rfl)), ?_⟩
      refine ⟨.int .i64 (p1[(Int.toNat v497)]!.1), fun w574 hX575 => od_plain rfl (by have hS576 := hS536.ext hX575; have hB577 := hB535.trans (Ext.stp hX575 hS536.base); exact is_ext (q_loadB (i := 0) (bs := #[.int .i64 (p1[(Int.toNat v497)]!.1), .bool (p1[(Int.toNat v497)]!.2)]) hS576.g0 ON3 rfl rfl)), ?_⟩
      obtain ⟨hg582, hm⟩ := hm
      refine ⟨.int .i64 (p1[(Int.toNat v497)]!.1 + 1), fun w578 hX579 => od_plain rfl (by have hS580 := hS536.ext hX579; have hB581 := hB535.trans (Ext.stp hX579 hS536.base); exact is_ext (g_add (a := p1[(Int.toNat v497)]!.1) (b := 1) rfl rfl hg582)), ?_⟩
      obtain ⟨hg587, hm⟩ := hm
      refine ⟨.pointer (some ((adr a11).add ((Int.toNat (p1[(Int.toNat v497)]!.1 + 1)) * El.m Int))), fun w583 hX584 => od_plain rfl (by have hS585 := hS536.ext hX584; have hB586 := hB535.trans (Ext.stp hX584 hS536.base); exact is_ext (q_index (i := (p1[(Int.toNat v497)]!.1 + 1)) SL39 rfl rfl (oS.vw hS585.g2) hg587)), ?_⟩
      refine ⟨.int .i64 (x496[(Int.toNat (p1[(Int.toNat v497)]!.1 + 1))]!), fun w588 hX589 => od_plain rfl (by have hS590 := hS536.ext hX589; have hB591 := hB535.trans (Ext.stp hX589 hS536.base); exact is_ext (q_load (i := (p1[(Int.toNat v497)]!.1 + 1)) (v := .int .i64 (x496[(Int.toNat (p1[(Int.toNat v497)]!.1 + 1))]!)) ON3 (oS.vw hS590.g2) hg587 rfl rfl)), ?_⟩
      intro w592 hX593
      have hB594 := hB535.trans (Ext.stp hX593 hS536.base)
      have hS595 := hS536.ext hX593
      have hS596 := hS595.f4
      have hS597 := hS596.f4
      have hS598 := hS597.f3
      refine ⟨_, od_plain rfl (g_callvc (f := 75) (va := #[.agg #[.int .i64 (p1[(Int.toNat v497)]!.1), .bool (p1[(Int.toNat v497)]!.2)], .int .i64 (x496[(Int.toNat (p1[(Int.toNat v497)]!.1))]!), .int .i64 (x496[(Int.toNat (p1[(Int.toNat v497)]!.1 + 1))]!)]) (cap := #[.pointer (some (⟨gp2_0, 0, none⟩ : Addr))]) (vs := #[.agg #[.int .i64 (p1[(Int.toNat v497)]!.1), .bool (p1[(Int.toNat v497)]!.2)], .int .i64 (x496[(Int.toNat (p1[(Int.toNat v497)]!.1))]!), .int .i64 (x496[(Int.toNat (p1[(Int.toNat v497)]!.1 + 1))]!), .pointer (some (⟨gp2_0, 0, none⟩ : Addr))]) CF75 rfl (args3 rfl rfl rfl) rfl (m_impl_twists_1_fn hS598 (p1[(Int.toNat v497)]!.1, p1[(Int.toNat v497)]!.2) (x496[(Int.toNat (p1[(Int.toNat v497)]!.1))]!) (x496[(Int.toNat (p1[(Int.toNat v497)]!.1 + 1))]!) he503 hm)), ?_⟩
      rintro _ w599 ⟨x602, a603, n604, c605, y606, hm, he607, rfl, hb600, hS601⟩
      have hB608 := hB594.trans hb600
      intro w609 hX610
      have hB611 := hB608.trans (Ext.stp hX610 hS601.base)
      have hS612 := hS601.ext hX610
      refine hK532 _ _ ?_
      have hS618 := hS612.f4
      refine w_draw (X := Ext) (Y := (fun w_ w_' => Chg w_ w_' (blk a11))) [0, 0, 0, 3, 3, 3, 3, 0, 0, 0, 0, 0, 0, 0, 0, 0, 0, 0, 0, 4, 0, 1] MIX (by decide +kernel) rfl Ext.refl (fun _ _ _ => Ext.trans) (fun _ _ _ => Chg.trans) (fun _ _ h => Ext.chg h _) (fun w619 hE620 => ?_)
      have hB621 := hB611.trans (Ext.stp hE620 hS618.base)
      have hS622 := hS618.ext hE620
      refine ⟨.slice a11 n12 c13, fun w623 hX624 => od_plain rfl (by have hS625 := hS622.ext hX624; have hB626 := hB621.trans (Ext.stp hX624 hS622.base); exact is_ext (g_move (v := .slice a11 n12 c13) rfl)), ?_⟩
      refine ⟨.pointer (some (((⟨g523, 0, none⟩ : Addr)).add 0)), fun w627 hX628 => od_plain rfl (by have hS629 := hS622.ext hX628; have hB630 := hB621.trans (Ext.stp hX628 hS622.base); exact is_ext (g_fieldAddr (q := (⟨g523, 0, none⟩ : Addr)) FL56_0 ON3 rfl)), ?_⟩
      refine ⟨.int .i64 (p1[(Int.toNat v497)]!.1), fun w631 hX632 => od_plain rfl (by have hS633 := hS622.ext hX632; have hB634 := hB621.trans (Ext.stp hX632 hS622.base); exact is_ext (q_loadB (i := 0) (bs := #[.int .i64 (p1[(Int.toNat v497)]!.1), .bool (p1[(Int.toNat v497)]!.2)]) hS633.g4 ON3 rfl rfl)), ?_⟩
      refine ⟨.slice a11 n12 c13, fun w635 hX636 => od_plain rfl (by have hS637 := Sep.chgT hS622 hX636 (fun k hk => hk); have hB638 := hB621.trans (Sep.stp hS622 hX636 (fun k hk => hk)); exact is_ext (g_move (v := .slice a11 n12 c13) rfl)), ?_⟩
      refine ⟨.pointer (some (((⟨g523, 0, none⟩ : Addr)).add 0)), fun w639 hX640 => od_plain rfl (by have hS641 := Sep.chgT hS622 hX640 (fun k hk => hk); have hB642 := hB621.trans (Sep.stp hS622 hX640 (fun k hk => hk)); exact is_ext (g_fieldAddr (q := (⟨g523, 0, none⟩ : Addr)) FL56_0 ON3 rfl)), ?_⟩
      refine ⟨.int .i64 (p1[(Int.toNat v497)]!.1), fun w643 hX644 => od_plain rfl (by have hS645 := Sep.chgT hS622 hX644 (fun k hk => hk); have hB646 := hB621.trans (Sep.stp hS622 hX644 (fun k hk => hk)); exact is_ext (q_loadB (i := 0) (bs := #[.int .i64 (p1[(Int.toNat v497)]!.1), .bool (p1[(Int.toNat v497)]!.2)]) hS645.g3 ON3 rfl rfl)), ?_⟩
      obtain ⟨hg651, hm⟩ := hm
      refine ⟨.int .i64 (p1[(Int.toNat v497)]!.1 + 1), fun w647 hX648 => od_plain rfl (by have hS649 := Sep.chgT hS622 hX648 (fun k hk => hk); have hB650 := hB621.trans (Sep.stp hS622 hX648 (fun k hk => hk)); exact is_ext (g_add (a := p1[(Int.toNat v497)]!.1) (b := 1) rfl rfl hg651)), ?_⟩
      refine ⟨.slice a11 n12 c13, fun w652 hX653 => od_plain rfl (by have hS654 := hS622.ext hX653; have hB655 := hB621.trans (Ext.stp hX653 hS622.base); exact is_ext (g_move (v := .slice a11 n12 c13) rfl)), ?_⟩
      refine ⟨.pointer (some (((⟨g523, 0, none⟩ : Addr)).add 0)), fun w656 hX657 => od_plain rfl (by have hS658 := hS622.ext hX657; have hB659 := hB621.trans (Ext.stp hX657 hS622.base); exact is_ext (g_fieldAddr (q := (⟨g523, 0, none⟩ : Addr)) FL56_0 ON3 rfl)), ?_⟩
      refine ⟨.int .i64 (p1[(Int.toNat v497)]!.1), fun w660 hX661 => od_plain rfl (by have hS662 := hS622.ext hX661; have hB663 := hB621.trans (Ext.stp hX661 hS622.base); exact is_ext (q_loadB (i := 0) (bs := #[.int .i64 (p1[(Int.toNat v497)]!.1), .bool (p1[(Int.toNat v497)]!.2)]) hS662.g4 ON3 rfl rfl)), ?_⟩
      obtain ⟨hg668, hm⟩ := hm
      refine ⟨.int .i64 (p1[(Int.toNat v497)]!.1 + 1), fun w664 hX665 => od_plain rfl (by have hS666 := hS622.ext hX665; have hB667 := hB621.trans (Ext.stp hX665 hS622.base); exact is_ext (g_add (a := p1[(Int.toNat v497)]!.1) (b := 1) rfl rfl hg668)), ?_⟩
      obtain ⟨hg673, hm⟩ := hm
      refine ⟨.pointer (some ((adr a11).add ((Int.toNat (p1[(Int.toNat v497)]!.1 + 1)) * El.m Int))), fun w669 hX670 => od_plain rfl (by have hS671 := hS622.ext hX670; have hB672 := hB621.trans (Ext.stp hX670 hS622.base); exact is_ext (q_index (i := (p1[(Int.toNat v497)]!.1 + 1)) SL39 rfl rfl (oS.vw hS671.g0) hg673)), ?_⟩
      refine ⟨.int .i64 (x496[(Int.toNat (p1[(Int.toNat v497)]!.1 + 1))]!), fun w674 hX675 => od_plain rfl (by have hS676 := hS622.ext hX675; have hB677 := hB621.trans (Ext.stp hX675 hS622.base); exact is_ext (q_load (i := (p1[(Int.toNat v497)]!.1 + 1)) (v := .int .i64 (x496[(Int.toNat (p1[(Int.toNat v497)]!.1 + 1))]!)) ON3 (oS.vw hS676.g0) hg673 rfl rfl)), ?_⟩
      refine ⟨.slice a11 n12 c13, fun w678 hX679 => od_plain rfl (by have hS680 := hS622.ext hX679; have hB681 := hB621.trans (Ext.stp hX679 hS622.base); exact is_ext (g_move (v := .slice a11 n12 c13) rfl)), ?_⟩
      refine ⟨.pointer (some (((⟨g523, 0, none⟩ : Addr)).add 0)), fun w682 hX683 => od_plain rfl (by have hS684 := hS622.ext hX683; have hB685 := hB621.trans (Ext.stp hX683 hS622.base); exact is_ext (g_fieldAddr (q := (⟨g523, 0, none⟩ : Addr)) FL56_0 ON3 rfl)), ?_⟩
      refine ⟨.int .i64 (p1[(Int.toNat v497)]!.1), fun w686 hX687 => od_plain rfl (by have hS688 := hS622.ext hX687; have hB689 := hB621.trans (Ext.stp hX687 hS622.base); exact is_ext (q_loadB (i := 0) (bs := #[.int .i64 (p1[(Int.toNat v497)]!.1), .bool (p1[(Int.toNat v497)]!.2)]) hS688.g4 ON3 rfl rfl)), ?_⟩
      obtain ⟨hg694, hm⟩ := hm
      refine ⟨.pointer (some ((adr a11).add ((Int.toNat (p1[(Int.toNat v497)]!.1)) * El.m Int))), fun w690 hX691 => od_plain rfl (by have hS692 := hS622.ext hX691; have hB693 := hB621.trans (Ext.stp hX691 hS622.base); exact is_ext (q_index (i := p1[(Int.toNat v497)]!.1) SL39 rfl rfl (oS.vw hS692.g0) hg694)), ?_⟩
      refine ⟨.int .i64 (x496[(Int.toNat (p1[(Int.toNat v497)]!.1))]!), fun w695 hX696 => od_plain rfl (by have hS697 := hS622.ext hX696; have hB698 := hB621.trans (Ext.stp hX696 hS622.base); exact is_ext (q_load (i := p1[(Int.toNat v497)]!.1) (v := .int .i64 (x496[(Int.toNat (p1[(Int.toNat v497)]!.1))]!)) ON3 (oS.vw hS697.g0) hg694 rfl rfl)), ?_⟩
      obtain ⟨hg703, hm⟩ := hm
      refine ⟨.pointer (some ((adr a11).add ((Int.toNat (p1[(Int.toNat v497)]!.1)) * El.m Int))), fun w699 hX700 => od_plain rfl (by have hS701 := hS622.ext hX700; have hB702 := hB621.trans (Ext.stp hX700 hS622.base); exact is_ext (q_index (i := p1[(Int.toNat v497)]!.1) SL39 rfl rfl (oS.vw hS701.g0) hg703)), ?_⟩
      intro w704 hX705
      have hB706 := hB621.trans (Ext.stp hX705 hS622.base)
      have hS707 := hS622.ext hX705
      refine ⟨_, od_plain rfl (q_storeC (i := p1[(Int.toNat v497)]!.1) (v := (x496[(Int.toNat (p1[(Int.toNat v497)]!.1 + 1))]! : Int)) hS707 ON3.sz hg703 rfl rfl rfl), ?_⟩
      rintro _ w708 ⟨rfl, hS709, hb710, hC711⟩
      refine ⟨hC711, ?_⟩
      have hB712 := hB706.trans hb710
      obtain ⟨hg717, hm⟩ := hm
      refine ⟨.pointer (some ((adr a11).add ((Int.toNat (p1[(Int.toNat v497)]!.1 + 1)) * El.m Int))), fun w713 hX714 => od_plain rfl (by have hS715 := hS709.ext hX714; have hB716 := hB712.trans (Ext.stp hX714 hS709.base); exact is_ext (q_index (i := (p1[(Int.toNat v497)]!.1 + 1)) SL39 rfl rfl (oS.vw hS715.g0) hg717)), ?_⟩
      intro w718 hX719
      have hB720 := hB712.trans (Ext.stp hX719 hS709.base)
      have hS721 := hS709.ext hX719
      refine ⟨_, od_plain rfl (q_store (i := (p1[(Int.toNat v497)]!.1 + 1)) (v := (x496[(Int.toNat (p1[(Int.toNat v497)]!.1))]! : Int)) hS721 ON3.sz hg717 rfl rfl rfl), ?_⟩
      rintro _ w722 ⟨rfl, hS723, hb724⟩
      have hB725 := hB720.trans hb724
      intro w726 hX727
      have hB728 := hB725.trans (Ext.stp hX727 hS723.base)
      have hS729 := hS723.ext hX727
      refine hK519 _ _ ?_
      refine w_region ?_
      obtain ⟨hg730, hm⟩ := hm
      refine wl_val (g_add (a := v497) (b := 1) rfl rfl hg730) rfl ?_
      refine wl_val (g_move (v := .int .i64 (v497 + 1)) rfl) rfl ?_
      refine wl_nil ?_
      have hS731 := hS729.f4
      have hS732 := hS731.tail
      have hS733 := hS732.f3
      have hS734 := hS733.f3
      have hS735 := hS734.f2
      have hS736 := hS735.f3
      exact ⟨(((x496.set (Int.toNat (p1[(Int.toNat v497)]!.1)) (x496[(Int.toNat (p1[(Int.toNat v497)]!.1 + 1))]!)).set (Int.toNat (p1[(Int.toNat v497)]!.1 + 1)) (x496[(Int.toNat (p1[(Int.toNat v497)]!.1))]!)), (v497 + 1), x602, a603, n604, c605, y606), hm.2, ⟨rfl, rfl, rfl, rfl, rfl, trivial⟩, ⟨hm.1, he607, hB728, hS736⟩⟩
    · replace hm := hm.2 h518
      refine w_exit ?_
      exact ⟨(x496, x498, a499, n500, c501, y502), ⟨rfl, trivial⟩, ⟨hm, he503, hB513, hS514⟩⟩
  · rintro ⟨x487, x488, a489, n490, c491, y492⟩ b_ w737 ⟨hm, he493, hB738, hS739⟩
    show Wp _ _ _ _ (upds b_ [(7, .slice a11 n12 c13)]) w737
    refine w_seq fun K740 hK740 => ?_
    refine w_region ?_
    refine wl_val (g_move (v := .slice a11 n12 c13) rfl) rfl ?_
    refine wl_val (g_assign (v := .slice a11 n12 c13) rfl) rfl ?_
    refine wl_nil ?_
    refine hK740 _ _ ?_
    refine w_ret ?_
    have hS741 := hS739.f3
    have hS742 := hS741.f3
    have hS743 := hS742.f2
    have hS744 := hS743.f3
    repeat first | with_reducible refine q_then ?_ | with_reducible refine q_block ?_
    exact ret1 rfl (by decide) ⟨_, _, _, _, _, _, _, _, _, hm, he493, rfl, hB738, hS744⟩

theorem m_impl_twists_fn {w : World} {a1 : Option Addr} {n1 c1 : Nat} {p1 : List Cross} {Q : (List (List Int)) → Prop} (p0 : Int) (hp1 : Vw w.heap.size w a1 n1 c1 p1) (hm : m_impl_twists p0 p1 Q) :
    Fn Try.prog 58 #[.int .i64 p0, .slice a1 n1 c1] w (fun v w' => ∃ (r0 : List (List Int)) (a0 : Option Addr) (n0 c0 : Nat) (y0 : List (Hd Int)), Q r0 ∧ ers y0 = r0 ∧ v = .slice a0 n0 c0 ∧ Ext w w' ∧ Sep w' w.heap.size [oS 39 a0 n0 c0 y0, oT 3 y0]) := by
  unfold m_impl_twists at hm
  have hB0 := Below.refl w.heap.size w
  have hS0 : Sep w w.heap.size [] := Sep.nil (Nat.le_refl _)
  refine fn_of_wp Try.func58 rfl (by kernel_rfl) (Nat.le_of_ble_eq_true rfl) ?_
  refine w_seq fun K1 hK1 => ?_
  refine w_region ?_
  refine wl_val (g_assign (v := .slice none 0 0) rfl) rfl ?_
  refine wl_nil ?_
  refine hK1 _ _ ?_
  refine w_seq fun K2 hK2 => ?_
  refine w_region ?_
  refine wl_val (g_move (v := .int .i64 p0) rfl) rfl ?_
  obtain ⟨hg3, hm⟩ := hm
  refine wl_step rfl (q_make (y := ((none, 0, []) : Hd Int)) SL37 rfl rfl hg3.1 hg3.2 (by decide) hS0) ?_
  rintro _ w4 ⟨a5, rfl, hS7, hE6⟩
  have hB9 := hB0.trans (Ext.stp hE6 hS0.base)
  have hS10 := hS7.nilRows (y := ((none, 0, []) : Hd Int)) (E := 3) (fun j hj => by first | rfl | (show (if j = 0 then _ else _) = _; split <;> rfl)) (Int.toNat p0)
  have he12 : ers (List.replicate (Int.toNat p0) ((none, 0, []) : Hd Int)) = List.replicate (Int.toNat p0) ([] : List Int) := by simp only [ers, List.map_replicate]; rfl
  refine wl_step rfl (q_alloc (cs := #[.slice none 0 0]) ZR37 rfl hS10) ?_
  rintro _ w14 ⟨g15, rfl, hS17, hE16⟩
  have hB19 := hB9.trans (Ext.stp hE16 hS10.base)
  refine wl_step rfl (q_storeB (i := 0) (bs' := #[.slice a5 (Int.toNat p0) (Int.toNat p0)]) (vs := [.slice a5 (Int.toNat p0) (Int.toNat p0)]) hS17 ON37.sz rfl rfl rfl (by simp [Value.oneCell']) (Nat.le_of_ble_eq_true rfl) rfl) ?_
  rintro _ w20 ⟨rfl, hS21, hb22⟩
  have hB23 := hB19.trans hb22
  refine wl_nil ?_
  refine hK2 _ _ ?_
  refine w_cut (σ := List (List Int) × List (Hd Int)) (fun ⟨x175, y176⟩ => [(0, .int .i64 p0), (1, .slice a1 n1 c1), (5, .pointer (some (⟨g15, 0, none⟩ : Addr)))]) (fun ⟨x175, y176⟩ w' => m_impl_twists_K0 p0 p1 Q x175 ∧ ers y176 = x175 ∧ Below w.heap.size w w' ∧ Sep w' w.heap.size [oB g15 37 #[.slice a5 (Int.toNat p0) (Int.toNat p0)], oS 39 a5 (Int.toNat p0) (Int.toNat p0) (y176 : List (Hd Int)), oT 3 (y176 : List (Hd Int))]) ?_ ?_
  · refine w_seq fun K179 hK179 => ?_
    refine w_region ?_
    refine wl_val (q_loadB (i := 0) (bs := #[.slice a5 (Int.toNat p0) (Int.toNat p0)]) hS21.g0 ON37 rfl rfl) rfl ?_
    refine wl_val (q_len SL37 rfl (Tv.len (oT.vw hS21.g2 hS21.g1 he12))) rfl ?_
    refine wl_val (g_move (v := .int .i64 0) rfl) rfl ?_
    refine wl_nil ?_
    refine hK179 _ _ ?_
    refine w_block ?_
    have hS184 := hS21.f1
    have hS185 := hS184.f2
    have hS186 := hS185.f2
    obtain ⟨I187, μ188, h0189, hr190⟩ := hm
    refine w_for (σ := Int × List (List Int) × List (Hd Int)) (fun ⟨v180, x181, y182⟩ => [(0, .int .i64 p0), (1, .slice a1 n1 c1), (5, .pointer (some (⟨g15, 0, none⟩ : Addr))), (10, .int .i64 ((List.replicate (Int.toNat p0) ([] : List Int)).length : Int)), (11, .int .i64 v180)]) (fun ⟨v180, x181, y182⟩ w' => I187 v180 x181 ∧ ers y182 = x181 ∧ Below w.heap.size w w' ∧ Sep w' w.heap.size [oB g15 37 #[.slice a5 (Int.toNat p0) (Int.toNat p0)], oS 39 a5 (Int.toNat p0) (Int.toNat p0) (y182 : List (Hd Int)), oT 3 (y182 : List (Hd Int))]) (fun ⟨v180, x181, y182⟩ => μ188 v180 x181) (0, List.replicate (Int.toNat p0) ([] : List Int), List.replicate (Int.toNat p0) ((none, 0, []) : Hd Int)) ⟨rfl, rfl, rfl, rfl, rfl, trivial⟩ ⟨h0189, he12, hB23, hS186⟩ ?_
    rintro ⟨v180, x181, y182⟩ b_ w191 ⟨hi_, he183, hB192, hS193⟩
    show Wp _ _ _ _ (upds b_ [(0, .int .i64 p0), (1, .slice a1 n1 c1), (5, .pointer (some (⟨g15, 0, none⟩ : Addr))), (10, .int .i64 ((List.replicate (Int.toNat p0) ([] : List Int)).length : Int)), (11, .int .i64 v180)]) w191
    have hm := hr190 v180 x181 hi_
    refine w_seq fun K195 hK195 => ?_
    refine w_region ?_
    refine wl_val (g_lss (a := v180) (b := ((List.replicate (Int.toNat p0) ([] : List Int)).length : Int)) rfl rfl) rfl ?_
    refine wl_nil ?_
    refine hK195 _ _ ?_
    refine w_seq fun K196 hK196 => ?_
    refine w_condI (p := v180 < ((List.replicate (Int.toNat p0) ([] : List Int)).length : Int)) (b := (decide (v180 < ((List.replicate (Int.toNat p0) ([] : List Int)).length : Int)))) rfl decide_eq_true_iff (fun h197 => ?_) (fun h197 => ?_)
    · replace hm := hm.1 h197
      refine w_skip ?_
      refine hK196 _ _ ?_
      refine w_seq fun K198 hK198 => ?_
      refine w_block ?_
      refine w_seq fun K199 hK199 => ?_
      refine w_region ?_
      refine wl_val (g_move (v := .int .i64 v180) rfl) rfl ?_
      refine wl_val (g_assign (v := .int .i64 v180) rfl) rfl ?_
      refine wl_nil ?_
      refine hK199 _ _ ?_
      refine w_draw (X := Ext) (Y := Ext) [0, 0, 0, 2, 0, 1] MIX (by decide +kernel) rfl Ext.refl (fun _ _ _ => Ext.trans) (fun _ _ _ => Chg.trans) (fun _ _ h => Ext.chg h _) (fun w200 hE201 => ?_)
      have hB202 := hB192.trans (Ext.stp hE201 hS193.base)
      have hS203 := hS193.ext hE201
      refine ⟨.slice a5 (Int.toNat p0) (Int.toNat p0), fun w204 hX205 => od_plain rfl (by have hS206 := hS203.ext hX205; have hB207 := hB202.trans (Ext.stp hX205 hS203.base); exact is_ext (q_loadB (i := 0) (bs := #[.slice a5 (Int.toNat p0) (Int.toNat p0)]) hS206.g0 ON37 rfl rfl)), ?_⟩
      refine ⟨.int .i64 v180, fun w208 hX209 => od_plain rfl (by have hS210 := hS203.ext hX209; have hB211 := hB202.trans (Ext.stp hX209 hS203.base); exact is_ext (g_move (v := .int .i64 v180) rfl)), ?_⟩
      refine ⟨.int .i64 p0, fun w212 hX213 => od_plain rfl (by have hS214 := hS203.ext hX213; have hB215 := hB202.trans (Ext.stp hX213 hS203.base); exact is_ext (g_move (v := .int .i64 p0) rfl)), ?_⟩
      intro w216 hX217
      have hB218 := hB202.trans (Ext.stp hX217 hS203.base)
      have hS219 := hS203.ext hX217
      obtain ⟨hg220, hm⟩ := hm
      refine ⟨_, od_plain rfl (q_make (y := (0 : Int)) SL39 rfl rfl hg220.1 hg220.2 (by decide) hS219), ?_⟩
      rintro _ w221 ⟨a222, rfl, hS224, hE223⟩
      refine ⟨hE223, ?_⟩
      have hB226 := hB218.trans (Ext.stp hE223 hS219.base)
      obtain ⟨hg231, hm⟩ := hm
      refine ⟨.pointer (some ((adr a5).add ((Int.toNat v180) * El.m (Hd Int)))), fun w227 hX228 => od_plain rfl (by have hS229 := hS224.ext hX228; have hB230 := hB226.trans (Ext.stp hX228 hS224.base); exact is_ext (q_index (i := v180) SL37 rfl rfl (Tv.o (oT.vw hS229.g2 hS229.g3 he183)) (Tv.g (oT.vw hS229.g2 hS229.g3 he183) hg231))), ?_⟩
      intro w232 hX233
      have hB234 := hB226.trans (Ext.stp hX233 hS224.base)
      have hS235 := hS224.ext hX233
      have hn240 := oS.len hS235.g0
      have hS241 := hS235.oneRow
      have he239 : ers [((a222, (Int.toNat p0), List.replicate (Int.toNat p0) (0 : Int)) : Hd Int)] = [List.replicate (Int.toNat p0) (0 : Int)] := rfl
      have hS243 := hS241.f3
      have hS244 := hS243.f3
      have hS245 := hS244.f2
      refine ⟨_, od_plain rfl (q_setT (i := v180) hS245 he183 hg231 ON39.sz rfl rfl (hd_cells hn240)), ?_⟩
      rintro _ w236 ⟨rfl, y246, he247, hS237, hb238⟩
      have he248 := he247.trans (congrArg (List.set _ _) (ers_one he239))
      have hB249 := hB234.trans hb238
      intro w250 hX251
      have hB252 := hB249.trans (Ext.stp hX251 hS237.base)
      have hS253 := hS237.ext hX251
      refine hK198 _ _ ?_
      refine w_region ?_
      obtain ⟨hg254, hm⟩ := hm
      refine wl_val (g_add (a := v180) (b := 1) rfl rfl hg254) rfl ?_
      refine wl_val (g_move (v := .int .i64 (v180 + 1)) rfl) rfl ?_
      refine wl_nil ?_
      have hS255 := hS253.f1
      have hS256 := hS255.f1
      have hS257 := hS256.f2
      exact ⟨((v180 + 1), (x181.set (Int.toNat v180) (List.replicate (Int.toNat p0) (0 : Int))), y246), hm.2, ⟨rfl, rfl, rfl, rfl, rfl, trivial⟩, ⟨hm.1, he248, hB252, hS257⟩⟩
    · replace hm := hm.2 h197
      refine w_exit ?_
      exact ⟨(x181, y182), ⟨rfl, rfl, rfl, trivial⟩, ⟨hm, he183, hB192, hS193⟩⟩
  · rintro ⟨x175, y176⟩ b_ w258 ⟨hm, he177, hB259, hS260⟩
    show Wp _ _ _ _ (upds b_ [(0, .int .i64 p0), (1, .slice a1 n1 c1), (5, .pointer (some (⟨g15, 0, none⟩ : Addr)))]) w258
    refine w_seq fun K261 hK261 => ?_
    refine w_region ?_
    refine wl_val (g_move (v := .int .i64 p0) rfl) rfl ?_
    refine wl_val (g_move (v := .slice a1 n1 c1) rfl) rfl ?_
    refine wl_val (g_makeFunc (vs := #[.pointer (some (⟨g15, 0, none⟩ : Addr))]) (args1 rfl)) rfl ?_
    have hS262 := hS260.f2
    have hS263 := hS262.f2
    have hS264 := hS263.f2
    refine wl_step rfl (g_call (vs := #[.int .i64 p0, .slice a1 n1 c1, .func (.func 75) #[] #[.pointer (some (⟨g15, 0, none⟩ : Addr))]]) CF74 (args3 rfl rfl rfl) (m_impl_follow_twists_1_fn hS264 p0 (hp1.bel hB259) he177 hm)) ?_
    rintro _ w265 ⟨r268, a269, n270, c271, x273, a274, n275, c276, y277, hm, he278, rfl, hb266, hS267⟩
    have hB279 := hB259.trans hb266
    refine wl_nil ?_
    refine hK261 _ _ ?_
    refine w_seq fun K280 hK280 => ?_
    refine w_region ?_
    refine wl_val (q_loadB (i := 0) (bs := #[.slice a274 n275 c276]) hS267.g1 ON37 rfl rfl) rfl ?_
    refine wl_val (g_assign (v := .slice a274 n275 c276) rfl) rfl ?_
    refine wl_nil ?_
    refine hK280 _ _ ?_
    refine w_ret ?_
    have hS281 := hS267.tail
    have hS282 := hS281.tail
    repeat first | with_reducible refine q_then ?_ | with_reducible refine q_block ?_
    exact ret1 rfl (by decide) ⟨_, _, _, _, _, hm, he278, rfl, toExt hB279, hS282⟩

theorem m_impl_WoundPairs_fn {w : World} {a1 : Option Addr} {n1 c1 : Nat} {p1 : List Cross} {Q : (List (List Int)) → Prop} (p0 : Int) (hp1 : Vw w.heap.size w a1 n1 c1 p1) (hm : m_impl_WoundPairs p0 p1 Q) :
    Fn Try.prog 34 #[.int .i64 p0, .slice a1 n1 c1] w (fun v w' => ∃ (r0 : List (List Int)) (a0 : Option Addr) (n0 c0 : Nat) (y0 : List (Hd Int)), Q r0 ∧ ers y0 = r0 ∧ v = .slice a0 n0 c0 ∧ Ext w w' ∧ Sep w' w.heap.size [oS 39 a0 n0 c0 y0, oT 3 y0]) := by
  unfold m_impl_WoundPairs at hm
  have hB0 := Below.refl w.heap.size w
  have hS0 : Sep w w.heap.size [] := Sep.nil (Nat.le_refl _)
  refine fn_of_wp Try.func34 rfl (by kernel_rfl) (Nat.le_of_ble_eq_true rfl) ?_
  refine w_seq fun K1 hK1 => ?_
  refine w_region ?_
  refine wl_val (g_assign (v := .slice none 0 0) rfl) rfl ?_
  refine wl_nil ?_
  refine hK1 _ _ ?_
  refine w_seq fun K2 hK2 => ?_
  refine w_seq fun K3 hK3 => ?_
  refine w_region ?_
  refine wl_val (g_move (v := .int .i64 p0) rfl) rfl ?_
  refine wl_val (g_move (v := .slice a1 n1 c1) rfl) rfl ?_
  refine wl_step rfl (g_call (vs := #[.int .i64 p0, .slice a1 n1 c1]) CF57 (args2 rfl rfl) (m_impl_CrossesOk_fn p0 ((hp1.bel hB0).up hS0) hm)) ?_
  rintro _ w4 ⟨r7, hm, rfl, hE5⟩
  have hB8 := hB0.trans (Ext.stp hE5 hS0.base)
  have hS9 := hS0.ext hE5
  refine wl_val (g_not (a := r7) rfl) rfl ?_
  refine wl_nil ?_
  refine hK3 _ _ ?_
  refine w_condI (p := ¬ (r7 = true)) (b := (!r7)) rfl (i_not Iff.rfl) (fun h10 => ?_) (fun h10 => ?_)
  · replace hm := hm.1 h10
    refine w_seq fun K11 hK11 => ?_
    refine w_region ?_
    refine wl_val (g_assign (v := .slice none 0 0) rfl) rfl ?_
    refine wl_nil ?_
    refine hK11 _ _ ?_
    refine w_ret ?_
    have hS12 := hS9.nilS (α := (Hd Int)) (E := 39)
    have hS14 := hS12.noRows (δ := Hd Int) (E := 3)
    have he16 : ers ([] : List (Hd Int)) = ([] : List (List Int)) := rfl
    have hS18 := hS14.f1
    repeat first | with_reducible refine q_then ?_ | with_reducible refine q_block ?_
    exact ret1 rfl (by decide) ⟨_, _, _, _, _, hm, he16, rfl, toExt hB8, hS18⟩
  · replace hm := hm.2 h10
    refine w_skip ?_
    refine hK2 _ _ ?_
    refine w_seq fun K19 hK19 => ?_
    refine w_region ?_
    refine wl_val (g_move (v := .int .i64 p0) rfl) rfl ?_
    refine wl_val (g_move (v := .slice a1 n1 c1) rfl) rfl ?_
    refine wl_step rfl (g_call (vs := #[.int .i64 p0, .slice a1 n1 c1]) CF58 (args2 rfl rfl) (m_impl_twists_fn p0 ((hp1.bel hB8).up hS9) hm)) ?_
    rintro _ w20 ⟨r23, a24, n25, c26, y27, hm, he28, rfl, hE21, hN22⟩
    have hS32 := hS9.call2 hE21 hN22
    have hB33 := hB8.trans (Ext.stp hE21 hS9.base)
    refine wl_step rfl (q_lit0 (α := (Hd Int)) rfl SL37 hS32) ?_
    rintro _ w34 ⟨a35, rfl, hS37, hE36⟩
    have hB39 := hB33.trans (Ext.stp hE36 hS32.base)
    have hS40 := hS37.noRows (δ := Hd Int) (E := 3)
    have he42 : ers ([] : List (Hd Int)) = ([] : List (List Int)) := rfl
    refine wl_val (g_assign (v := .slice a24 n25 c26) rfl) rfl ?_
    refine wl_val (g_assign (v := .slice a35 0 0) rfl) rfl ?_
    refine wl_nil ?_
    refine hK19 _ _ ?_
    refine w_cut (σ := List (List Int) × Option Addr × Nat × Nat × List (Hd Int)) (fun ⟨x342, a343, n344, c345, y346⟩ => [(6, .slice a343 n344 c345)]) (fun ⟨x342, a343, n344, c345, y346⟩ w' => m_impl_WoundPairs_K1 Q x342 ∧ ers y346 = x342 ∧ Below w.heap.size w w' ∧ Sep w' w.heap.size [oS 39 a343 n344 c345 (y346 : List (Hd Int)), oT 3 (y346 : List (Hd Int))]) ?_ ?_
    · refine w_seq fun K349 hK349 => ?_
      refine w_region ?_
      refine wl_val (g_move (v := .int .i64 p0) rfl) rfl ?_
      refine wl_val (g_move (v := .int .i64 0) rfl) rfl ?_
      refine wl_nil ?_
      refine hK349 _ _ ?_
      refine w_block ?_
      have hS357 := hS40.f1
      have hS358 := hS357.f3
      have hS359 := hS358.f3
      obtain ⟨I360, μ361, h0362, hr363⟩ := hm
      refine w_for (σ := List (List Int) × Option Addr × Nat × Nat × List (Hd Int) × Int) (fun ⟨x350, a351, n352, c353, y354, v356⟩ => [(0, .int .i64 p0), (5, .slice a24 n25 c26), (6, .slice a351 n352 c353), (17, .int .i64 p0), (18, .int .i64 v356)]) (fun ⟨x350, a351, n352, c353, y354, v356⟩ w' => I360 x350 v356 ∧ ers y354 = x350 ∧ Below w.heap.size w w' ∧ Sep w' w.heap.size [oS 39 a24 n25 c26 (y27 : List (Hd Int)), oT 3 (y27 : List (Hd Int)), oS 39 a351 n352 c353 (y354 : List (Hd Int)), oT 3 (y354 : List (Hd Int))]) (fun ⟨x350, a351, n352, c353, y354, v356⟩ => μ361 x350 v356) ([], a35, 0, 0, [], 0) ⟨rfl, rfl, rfl, rfl, rfl, trivial⟩ ⟨h0362, he42, hB39, hS359⟩ ?_
      rintro ⟨x350, a351, n352, c353, y354, v356⟩ b_ w364 ⟨hi_, he355, hB365, hS366⟩
      show Wp _ _ _ _ (upds b_ [(0, .int .i64 p0), (5, .slice a24 n25 c26), (6, .slice a351 n352 c353), (17, .int .i64 p0), (18, .int .i64 v356)]) w364
      have hm := hr363 x350 v356 hi_
      refine w_seq fun K368 hK368 => ?_
      refine w_region ?_
      refine wl_val (g_lss (a := v356) (b := p0) rfl rfl) rfl ?_
      refine wl_nil ?_
      refine hK368 _ _ ?_
      refine w_seq fun K369 hK369 => ?_
      refine w_condI (p := v356 < p0) (b := (decide (v356 < p0))) rfl decide_eq_true_iff (fun h370 => ?_) (fun h370 => ?_)
      · replace hm := hm.1 h370
        refine w_skip ?_
        refine hK369 _ _ ?_
        refine w_cut (σ := List (List Int) × Option Addr × Nat × Nat × List (Hd Int)) (fun ⟨x371, a372, n373, c374, y375⟩ => [(0, .int .i64 p0), (5, .slice a24 n25 c26), (6, .slice a372 n373 c374), (17, .int .i64 p0), (18, .int .i64 v356)]) (fun ⟨x371, a372, n373, c374, y375⟩ w' => m_impl_WoundPairs_K0 v356 (fun x350' v356' => I360 x350' v356' ∧ μ361 x350' v356' < μ361 x350 v356) x371 ∧ ers y375 = x371 ∧ Below w.heap.size w w' ∧ Sep w' w.heap.size [oS 39 a24 n25 c26 (y27 : List (Hd Int)), oT 3 (y27 : List (Hd Int)), oS 39 a372 n373 c374 (y375 : List (Hd Int)), oT 3 (y375 : List (Hd Int))]) ?_ ?_
        · refine w_block ?_
          refine w_seq fun K378 hK378 => ?_
          refine w_region ?_
          refine wl_val (g_move (v := .int .i64 v356) rfl) rfl ?_
          refine wl_val (g_assign (v := .int .i64 v356) rfl) rfl ?_
          refine wl_nil ?_
          refine hK378 _ _ ?_
          refine w_seq fun K379 hK379 => ?_
          refine w_region ?_
          refine wl_val (g_move (v := .int .i64 v356) rfl) rfl ?_
          obtain ⟨hg380, hm⟩ := hm
          refine wl_val (g_add (a := v356) (b := 1) rfl rfl hg380) rfl ?_
          refine wl_val (g_assign (v := .int .i64 (v356 + 1)) rfl) rfl ?_
          refine wl_nil ?_
          refine hK379 _ _ ?_
          refine w_block ?_
          obtain ⟨I388, μ389, h0390, hr391⟩ := hm
          refine w_for (σ := List (List Int) × Option Addr × Nat × Nat × List (Hd Int) × Int) (fun ⟨x381, a382, n383, c384, y385, v387⟩ => [(0, .int .i64 p0), (5, .slice a24 n25 c26), (6, .slice a382 n383 c384), (7, .int .i64 v356), (8, .int .i64 v387), (17, .int .i64 p0), (18, .int .i64 v356)]) (fun ⟨x381, a382, n383, c384, y385, v387⟩ w' => I388 x381 v387 ∧ ers y385 = x381 ∧ Below w.heap.size w w' ∧ Sep w' w.heap.size [oS 39 a24 n25 c26 (y27 : List (Hd Int)), oT 3 (y27 : List (Hd Int)), oS 39 a382 n383 c384 (y385 : List (Hd Int)), oT 3 (y385 : List (Hd Int))]) (fun ⟨x381, a382, n383, c384, y385, v387⟩ => μ389 x381 v387) (x350, a351, n352, c353, y354, (v356 + 1)) ⟨rfl, rfl, rfl, rfl, rfl, rfl, rfl, trivial⟩ ⟨h0390, he355, hB365, hS366⟩ ?_
          rintro ⟨x381, a382, n383, c384, y385, v387⟩ b_ w392 ⟨hi_, he386, hB393, hS394⟩
          show Wp _ _ _ _ (upds b_ [(0, .int .i64 p0), (5, .slice a24 n25 c26), (6, .slice a382 n383 c384), (7, .int .i64 v356), (8, .int .i64 v387), (17, .int .i64 p0), (18, .int .i64 v356)]) w392
          have hm := hr391 x381 v387 hi_
          refine w_seq fun K396 hK396 => ?_
          refine w_seq fun K397 hK397 => ?_
          refine w_region ?_
          refine wl_val (g_move (v := .int .i64 v387) rfl) rfl ?_
          refine wl_val (g_move (v := .int .i64 p0) rfl) rfl ?_
          refine wl_val (g_lss (a := v387) (b := p0) rfl rfl) rfl ?_
          refine wl_nil ?_
          refine hK397 _ _ ?_
          refine w_condI (p := v387 < p0) (b := (decide (v387 < p0))) rfl decide_eq_true_iff (fun h398 => ?_) (fun h398 => ?_)
          · replace hm := hm.1 h398
            refine w_skip ?_
            refine hK396 _ _ ?_
            refine w_seq fun K399 hK399 => ?_
            refine w_block ?_
            refine w_seq fun K400 hK400 => ?_
            refine w_region ?_
            refine wl_val (g_move (v := .slice a24 n25 c26) rfl) rfl ?_
            refine wl_val (g_move (v := .int .i64 v356) rfl) rfl ?_
            obtain ⟨hg401, hm⟩ := hm
            refine wl_val (q_index (i := v356) SL37 rfl rfl (Tv.o (oT.vw hS394.g0 hS394.g1 he28)) (Tv.g (oT.vw hS394.g0 hS394.g1 he28) hg401)) rfl ?_
            refine wl_val (q_load (i := v356) (v := .slice ((y27[(Int.toNat v356)]!).1) ((y27[(Int.toNat v356)]!).2.2.length) ((y27[(Int.toNat v356)]!).2.1)) ON39 (Tv.o (oT.vw hS394.g0 hS394.g1 he28)) (Tv.g (oT.vw hS394.g0 hS394.g1 he28) hg401) rfl rfl) rfl ?_
            refine wl_val (g_move (v := .int .i64 v387) rfl) rfl ?_
            obtain ⟨hg402, hm⟩ := hm
            refine wl_val (q_index (i := v387) SL39 rfl rfl (Tv.row (oT.vw hS394.g0 hS394.g1 he28) hg401) hg402) rfl ?_
            refine wl_val (q_load (i := v387) (v := .int .i64 ((r23[(Int.toNat v356)]!)[(Int.toNat v387)]!)) ON3 (Tv.row (oT.vw hS394.g0 hS394.g1 he28) hg401) hg402 rfl rfl) rfl ?_
            refine wl_val (g_neq (a := (r23[(Int.toNat v356)]!)[(Int.toNat v387)]!) (b := 0) rfl rfl) rfl ?_
            refine wl_nil ?_
            refine hK400 _ _ ?_
            refine w_condI (p := (r23[(Int.toNat v356)]!)[(Int.toNat v387)]! ≠ 0) (b := (decide ((r23[(Int.toNat v356)]!)[(Int.toNat v387)]! ≠ 0))) rfl decide_eq_true_iff (fun h403 => ?_) (fun h403 => ?_)
            · replace hm := hm.1 h403
              refine w_region ?_
              refine wl_val (g_move (v := .slice a382 n383 c384) rfl) rfl ?_
              refine wl_val (g_move (v := .int .i64 v356) rfl) rfl ?_
              refine wl_val (g_move (v := .int .i64 v387) rfl) rfl ?_
              refine wl_step rfl (q_lit2 (y := (v356 : Int)) (y' := (v387 : Int)) SL39 rfl rfl rfl rfl (by decide) hS394) ?_
              rintro _ w404 ⟨a405, rfl, hS407, hE406⟩
              have hB409 := hB393.trans (Ext.stp hE406 hS394.base)
              have hn415 := oS.len hS407.g0
              have hS416 := hS407.oneRow
              have he414 : ers [((a405, 2, [v356, v387]) : Hd Int)] = [[v356, v387]] := rfl
              refine wl_step rfl (q_lit1 (y := ((a405, 2, [v356, v387]) : Hd Int)) SL37 rfl (hd_cells hn415) (by decide) hS416) ?_
              rintro _ w410 ⟨a411, rfl, hS413, hE412⟩
              have hB419 := hB409.trans (Ext.stp hE412 hS416.base)
              have hS426 := hS413.f4
              obtain ⟨hg427, hm⟩ := hm
              have hl428 : (y385).length + ([(a405, 2, [v356, v387])]).length ≤ 1099511627776 := by have h1 := congrArg List.length he386; have h2 := congrArg List.length he414; have h3 := hg427; simp only [ers, List.length_map, List.length_append, List.length_cons, List.length_nil, List.length_replicate, List.length_set] at h1 h2 h3 ⊢; omega
              refine wl_step rfl (q_append SL37 rfl rfl hS426 (oS.vw hS426.g1) hl428 (by decide)) ?_
              rintro _ w421 ⟨a422, c423, rfl, hS425, hb424⟩
              have hB429 := hB419.trans hb424
              have hS430 := hS425.f1
              have hS431 := hS430.tail
              have hS432 := hS431.f4
              have hS433 := hS432.f2
              have hS434 := hS433.catRows
              have he435 : ers (y385 ++ ([(a405, 2, [v356, v387])])) = (x381 ++ ([[v356, v387]])) := by rw [← he386, ← he414]; exact List.map_append
              refine wl_val (g_assign (v := .slice a422 (n383 + 1) c423) rfl) rfl ?_
              refine wl_nil ?_
              refine hK399 _ _ ?_
              refine w_region ?_
              refine wl_val (g_move (v := .int .i64 v387) rfl) rfl ?_
              obtain ⟨hg436, hm⟩ := hm
              refine wl_val (g_add (a := v387) (b := 1) rfl rfl hg436) rfl ?_
              refine wl_val (g_assign (v := .int .i64 (v387 + 1)) rfl) rfl ?_
              refine wl_nil ?_
              have hS437 := hS434.f1
              have hS438 := hS437.f3
              have hS439 := hS438.f3
              exact ⟨((x381 ++ ([[v356, v387]])), a422, (n383 + 1), c423, (y385 ++ ([(a405, 2, [v356, v387])])), (v387 + 1)), hm.2, ⟨rfl, rfl, rfl, rfl, rfl, rfl, rfl, trivial⟩, ⟨hm.1, he435, hB429, hS439⟩⟩
            · replace hm := hm.2 h403
              refine w_skip ?_
              refine hK399 _ _ ?_
              refine w_region ?_
              refine wl_val (g_move (v := .int .i64 v387) rfl) rfl ?_
              obtain ⟨hg440, hm⟩ := hm
              refine wl_val (g_add (a := v387) (b := 1) rfl rfl hg440) rfl ?_
              refine wl_val (g_assign (v := .int .i64 (v387 + 1)) rfl) rfl ?_
              refine wl_nil ?_
              exact ⟨(x381, a382, n383, c384, y385, (v387 + 1)), hm.2, ⟨rfl, rfl, rfl, rfl, rfl, rfl, rfl, trivial⟩, ⟨hm.1, he386, hB393, hS394⟩⟩
          · replace hm := hm.2 h398
            refine w_exit ?_
            exact ⟨(x381, a382, n383, c384, y385), ⟨rfl, rfl, rfl, rfl, rfl, trivial⟩, ⟨hm, he386, hB393, hS394⟩⟩
        · rintro ⟨x371, a372, n373, c374, y375⟩ b_ w441 ⟨hm, he376, hB442, hS443⟩
          show Wp _ _ _ _ (upds b_ [(0, .int .i64 p0), (5, .slice a24 n25 c26), (6, .slice a372 n373 c374), (17, .int .i64 p0), (18, .int .i64 v356)]) w441
          refine w_region ?_
          obtain ⟨hg444, hm⟩ := hm
          refine wl_val (g_add (a := v356) (b := 1) rfl rfl hg444) rfl ?_
          refine wl_val (g_move (v := .int .i64 (v356 + 1)) rfl) rfl ?_
          refine wl_nil ?_
          exact ⟨(x371, a372, n373, c374, y375, (v356 + 1)), hm.2, ⟨rfl, rfl, rfl, rfl, rfl, trivial⟩, ⟨hm.1, he376, hB442, hS443⟩⟩
      · replace hm := hm.2 h370
        refine w_exit ?_
        have hS445 := hS366.tail
        have hS446 := hS445.tail
        exact ⟨(x350, a351, n352, c353, y354), ⟨rfl, trivial⟩, ⟨hm, he355, hB365, hS446⟩⟩
    · rintro ⟨x342, a343, n344, c345, y346⟩ b_ w447 ⟨hm, he347, hB448, hS449⟩
      show Wp _ _ _ _ (upds b_ [(6, .slice a343 n344 c345)]) w447
      refine w_seq fun K450 hK450 => ?_
      refine w_region ?_
      refine wl_val (g_move (v := .slice a343 n344 c345) rfl) rfl ?_
      refine wl_val (g_assign (v := .slice a343 n344 c345) rfl) rfl ?_
      refine wl_nil ?_
      refine hK450 _ _ ?_
      refine w_ret ?_
      repeat first | with_reducible refine q_then ?_ | with_reducible refine q_block ?_
      exact ret1 rfl (by decide) ⟨_, _, _, _, _, hm, he347, rfl, toExt hB448, hS449⟩

theorem m_impl_size_fn {w : World}  {Q : Int → Prop} (p0 : Int) (hm : m_impl_size p0 Q) :
    Fn Try.prog 63 #[.int .i64 p0] w (fun v w' => ∃ (r0 : Int), Q r0 ∧ v = .int .i64 r0 ∧ Ext w w') := by
  unfold m_impl_size at hm
  have hB0 := Below.refl w.heap.size w
  have hS0 : Sep w w.heap.size [] := Sep.nil (Nat.le_refl _)
  refine fn_of_wp Try.func63 rfl (by kernel_rfl) (Nat.le_of_ble_eq_true rfl) ?_
  refine w_seq fun K1 hK1 => ?_
  refine w_region ?_
  refine wl_val (g_assign (v := .int .i64 0) rfl) rfl ?_
  refine wl_nil ?_
  refine hK1 _ _ ?_
  refine w_seq fun K2 hK2 => ?_
  refine w_region ?_
  refine wl_val (g_move (v := .int .i64 p0) rfl) rfl ?_
  refine wl_val (g_move (v := .int .i64 p0) rfl) rfl ?_
  obtain ⟨hg3, hm⟩ := hm
  refine wl_val (g_neg (a := p0) rfl hg3) rfl ?_
  refine wl_val (g_max (a := p0) (b := (-p0)) rfl rfl) rfl ?_
  refine wl_val (g_assign (v := .int .i64 (max p0 (-p0))) rfl) rfl ?_
  refine wl_nil ?_
  refine hK2 _ _ ?_
  refine w_ret ?_
  repeat first | with_reducible refine q_then ?_ | with_reducible refine q_block ?_
  exact ret1 rfl (by decide) ⟨_, hm, rfl, toExt hB0⟩

theorem m_impl_FullTurn_fn {w : World}  {Q : (List Cross) → Bool → Prop} (p0 : Int) (p1 : Int) (p2 : Int) (p3 : Bool) (hm : m_impl_FullTurn p0 p1 p2 p3 Q) :
    Fn Try.prog 22 #[.int .i64 p0, .int .i64 p1, .int .i64 p2, .bool p3] w (fun v w' => ∃ (r0 : List Cross) (a0 : Option Addr) (n0 c0 : Nat) (r1 : Bool), Q r0 r1 ∧ v = .tuple #[.slice a0 n0 c0, .bool r1] ∧ Ext w w' ∧ Sep w' w.heap.size [oS 56 a0 n0 c0 r0]) := by
  unfold m_impl_FullTurn at hm
  have hB0 := Below.refl w.heap.size w
  have hS0 : Sep w w.heap.size [] := Sep.nil (Nat.le_refl _)
  refine fn_of_wp Try.func22 rfl (by kernel_rfl) (Nat.le_of_ble_eq_true rfl) ?_
  refine w_seq fun K1 hK1 => ?_
  refine w_region ?_
  refine wl_val (g_assign (v := .slice none 0 0) rfl) rfl ?_
  refine wl_val (g_assign (v := .bool false) rfl) rfl ?_
  refine wl_nil ?_
  refine hK1 _ _ ?_
  refine w_seq fun K2 hK2 => ?_
  refine w_seq fun K3 hK3 => ?_
  refine w_region ?_
  refine wl_val (g_move (v := .int .i64 p0) rfl) rfl ?_
  refine wl_step rfl (g_call (vs := #[.int .i64 p0, .int .i64 2, .int .i64 7]) CF54 (args3 rfl rfl rfl) (m_impl_within_fn p0 2 7 hm)) ?_
  rintro _ w4 ⟨r7, hm, rfl, hE5⟩
  have hB8 := hB0.trans (Ext.stp hE5 hS0.base)
  have hS9 := hS0.ext hE5
  refine wl_val (g_not (a := r7) rfl) rfl ?_
  refine wl_val (g_move (v := .bool (!r7)) rfl) rfl ?_
  refine wl_guard (c := (!r7) = false) (val := .int .i64 p1) (b := ((!r7) == false)) (gv_some rfl rfl rfl) beq_iff_eq (fun hc10 => ?_) ?_
  · have hcq0 : ¬ (¬ (r7 = true)) := (i_neg (i_not Iff.rfl) hc10)
    exact g_move (v := .int .i64 p1) rfl
  refine wl_guard (c := (!r7) = false) (val := .bool (decide (p1 < 0))) (b := ((!r7) == false)) (gv_some rfl rfl rfl) beq_iff_eq (fun hc11 => ?_) ?_
  · have hcq0 : ¬ (¬ (r7 = true)) := (i_neg (i_not Iff.rfl) hc11)
    exact g_lss (a := p1) (b := 0) (if_pos hc11) rfl
  refine wl_val (g_pick_or (b := (!r7)) (q := (decide (p1 < 0))) rfl rfl) rfl ?_
  refine wl_val (g_move (v := .bool ((!r7) || (decide (p1 < 0)))) rfl) rfl ?_
  refine wl_guard (c := ((!r7) || (decide (p1 < 0))) = false) (val := .int .i64 p1) (b := (((!r7) || (decide (p1 < 0))) == false)) (gv_some rfl rfl rfl) beq_iff_eq (fun hc12 => ?_) ?_
  · have hcq1 : ¬ (((¬ (r7 = true)) ∨ (p1 < 0))) := (i_neg (i_or (i_not Iff.rfl) decide_eq_true_iff) hc12)
    exact g_move (v := .int .i64 p1) rfl
  refine wl_guard (c := ((!r7) || (decide (p1 < 0))) = false) (val := .int .i64 p2) (b := (((!r7) || (decide (p1 < 0))) == false)) (gv_some rfl rfl rfl) beq_iff_eq (fun hc13 => ?_) ?_
  · have hcq1 : ¬ (((¬ (r7 = true)) ∨ (p1 < 0))) := (i_neg (i_or (i_not Iff.rfl) decide_eq_true_iff) hc13)
    exact g_move (v := .int .i64 p2) rfl
  refine wl_guard (c := ((!r7) || (decide (p1 < 0))) = false) (val := .bool (decide (p1 ≥ p2))) (b := (((!r7) || (decide (p1 < 0))) == false)) (gv_some rfl rfl rfl) beq_iff_eq (fun hc14 => ?_) ?_
  · have hcq1 : ¬ (((¬ (r7 = true)) ∨ (p1 < 0))) := (i_neg (i_or (i_not Iff.rfl) decide_eq_true_iff) hc14)
    exact g_geq (a := p1) (b := p2) (if_pos hc14) (if_pos hc14)
  refine wl_val (g_pick_or (b := ((!r7) || (decide (p1 < 0)))) (q := (decide (p1 ≥ p2))) rfl rfl) rfl ?_
  refine wl_val (g_move (v := .bool (((!r7) || (decide (p1 < 0))) || (decide (p1 ≥ p2)))) rfl) rfl ?_
  refine wl_guard (c := (((!r7) || (decide (p1 < 0))) || (decide (p1 ≥ p2))) = false) (val := .int .i64 p2) (b := ((((!r7) || (decide (p1 < 0))) || (decide (p1 ≥ p2))) == false)) (gv_some rfl rfl rfl) beq_iff_eq (fun hc15 => ?_) ?_
  · have hcq2 : ¬ (((((¬ (r7 = true)) ∨ (p1 < 0))) ∨ (p1 ≥ p2))) := (i_neg (i_or (i_or (i_not Iff.rfl) decide_eq_true_iff) decide_eq_true_iff) hc15)
    exact g_move (v := .int .i64 p2) rfl
  refine wl_guard (c := (((!r7) || (decide (p1 < 0))) || (decide (p1 ≥ p2))) = false) (val := .int .i64 p0) (b := ((((!r7) || (decide (p1 < 0))) || (decide (p1 ≥ p2))) == false)) (gv_some rfl rfl rfl) beq_iff_eq (fun hc16 => ?_) ?_
  · have hcq2 : ¬ (((((¬ (r7 = true)) ∨ (p1 < 0))) ∨ (p1 ≥ p2))) := (i_neg (i_or (i_or (i_not Iff.rfl) decide_eq_true_iff) decide_eq_true_iff) hc16)
    exact g_move (v := .int .i64 p0) rfl
  refine wl_guard (c := (((!r7) || (decide (p1 < 0))) || (decide (p1 ≥ p2))) = false) (val := .bool (decide (p2 ≥ p0))) (b := ((((!r7) || (decide (p1 < 0))) || (decide (p1 ≥ p2))) == false)) (gv_some rfl rfl rfl) beq_iff_eq (fun hc17 => ?_) ?_
  · have hcq2 : ¬ (((((¬ (r7 = true)) ∨ (p1 < 0))) ∨ (p1 ≥ p2))) := (i_neg (i_or (i_or (i_not Iff.rfl) decide_eq_true_iff) decide_eq_true_iff) hc17)
    exact g_geq (a := p2) (b := p0) (if_pos hc17) (if_pos hc17)
  refine wl_val (g_pick_or (b := (((!r7) || (decide (p1 < 0))) || (decide (p1 ≥ p2)))) (q := (decide (p2 ≥ p0))) rfl rfl) rfl ?_
  refine wl_nil ?_
  refine hK3 _ _ ?_
  refine w_condI (p := ((((((¬ (r7 = true)) ∨ (p1 < 0))) ∨ (p1 ≥ p2))) ∨ (p2 ≥ p0))) (b := ((((!r7) || (decide (p1 < 0))) || (decide (p1 ≥ p2))) || (decide (p2 ≥ p0)))) rfl (i_or (i_or (i_or (i_not Iff.rfl) decide_eq_true_iff) decide_eq_true_iff) decide_eq_true_iff) (fun h18 => ?_) (fun h18 => ?_)
  · replace hm := hm.1 h18
    refine w_seq fun K19 hK19 => ?_
    refine w_region ?_
    refine wl_val (g_assign (v := .slice none 0 0) rfl) rfl ?_
    refine wl_val (g_assign (v := .bool false) rfl) rfl ?_
    refine wl_nil ?_
    refine hK19 _ _ ?_
    refine w_ret ?_
    have hS20 := hS9.nilS (α := Cross) (E := 56)
    repeat first | with_reducible refine q_then ?_ | with_reducible refine q_block ?_
    exact ret2 rfl (by decide) (by decide) ⟨_, _, _, _, _, hm, rfl, toExt hB8, hS20⟩
  · replace hm := hm.2 h18
    refine w_skip ?_
    refine hK2 _ _ ?_
    refine w_seq fun K22 hK22 => ?_
    refine w_region ?_
    refine wl_step rfl (q_lit0 (α := Cross) rfl SL24 hS9) ?_
    rintro _ w23 ⟨a24, rfl, hS26, hE25⟩
    have hB28 := hB8.trans (Ext.stp hE25 hS9.base)
    refine wl_val (g_assign (v := .slice a24 0 0) rfl) rfl ?_
    refine wl_nil ?_
    refine hK22 _ _ ?_
    refine w_cut (σ := List Cross × Option Addr × Nat × Nat) (fun ⟨x93, a94, n95, c96⟩ => [(1, .int .i64 p1), (2, .int .i64 p2), (3, .bool p3), (10, .slice a94 n95 c96)]) (fun ⟨x93, a94, n95, c96⟩ w' => m_impl_FullTurn_K1 p1 p2 p3 Q x93 ∧ Below w.heap.size w w' ∧ Sep w' w.heap.size [oS 56 a94 n95 c96 (x93 : List Cross)]) ?_ ?_
    · refine w_seq fun K98 hK98 => ?_
      refine w_region ?_
      refine wl_val (g_move (v := .int .i64 p2) rfl) rfl ?_
      obtain ⟨hg99, hm⟩ := hm
      refine wl_val (g_sub (a := p2) (b := 1) rfl rfl hg99) rfl ?_
      refine wl_val (g_assign (v := .int .i64 (p2 - 1)) rfl) rfl ?_
      refine wl_nil ?_
      refine hK98 _ _ ?_
      refine w_block ?_
      obtain ⟨I105, μ106, h0107, hr108⟩ := hm
      refine w_for (σ := List Cross × Option Addr × Nat × Nat × Int) (fun ⟨x100, a101, n102, c103, v104⟩ => [(1, .int .i64 p1), (2, .int .i64 p2), (3, .bool p3), (10, .slice a101 n102 c103), (11, .int .i64 v104)]) (fun ⟨x100, a101, n102, c103, v104⟩ w' => I105 x100 v104 ∧ Below w.heap.size w w' ∧ Sep w' w.heap.size [oS 56 a101 n102 c103 (x100 : List Cross)]) (fun ⟨x100, a101, n102, c103, v104⟩ => μ106 x100 v104) ([], a24, 0, 0, (p2 - 1)) ⟨rfl, rfl, rfl, rfl, rfl, trivial⟩ ⟨h0107, hB28, hS26⟩ ?_
      rintro ⟨x100, a101, n102, c103, v104⟩ b_ w109 ⟨hi_, hB110, hS111⟩
      show Wp _ _ _ _ (upds b_ [(1, .int .i64 p1), (2, .int .i64 p2), (3, .bool p3), (10, .slice a101 n102 c103), (11, .int .i64 v104)]) w109
      have hm := hr108 x100 v104 hi_
      refine w_seq fun K113 hK113 => ?_
      refine w_seq fun K114 hK114 => ?_
      refine w_region ?_
      refine wl_val (g_move (v := .int .i64 v104) rfl) rfl ?_
      refine wl_val (g_move (v := .int .i64 p1) rfl) rfl ?_
      refine wl_val (g_gtr (a := v104) (b := p1) rfl rfl) rfl ?_
      refine wl_nil ?_
      refine hK114 _ _ ?_
      refine w_condI (p := v104 > p1) (b := (decide (v104 > p1))) rfl decide_eq_true_iff (fun h115 => ?_) (fun h115 => ?_)
      · replace hm := hm.1 h115
        refine w_skip ?_
        refine hK113 _ _ ?_
        refine w_seq fun K116 hK116 => ?_
        refine w_block ?_
        refine w_region ?_
        refine wl_val (g_move (v := .slice a101 n102 c103) rfl) rfl ?_
        refine wl_val (g_move (v := .int .i64 v104) rfl) rfl ?_
        refine wl_val (g_build (v := .agg #[.int .i64 v104, .bool false]) (parts1 rfl) (BD56_0 v104)) rfl ?_
        refine wl_step rfl (q_lit1 (y := ((v104, false) : Cross)) SL24 rfl rfl (by decide) hS111) ?_
        rintro _ w117 ⟨a118, rfl, hS120, hE119⟩
        have hB122 := hB110.trans (Ext.stp hE119 hS111.base)
        have hS128 := hS120.f1
        obtain ⟨hg129, hm⟩ := hm
        refine wl_step rfl (q_append SL24 rfl rfl hS128 (oS.vw hS128.g1) hg129 (by decide)) ?_
        rintro _ w123 ⟨a124, c125, rfl, hS127, hb126⟩
        have hB130 := hB122.trans hb126
        refine wl_val (g_assign (v := .slice a124 (n102 + 1) c125) rfl) rfl ?_
        refine wl_nil ?_
        refine hK116 _ _ ?_
        refine w_region ?_
        refine wl_val (g_move (v := .int .i64 v104) rfl) rfl ?_
        obtain ⟨hg131, hm⟩ := hm
        refine wl_val (g_sub (a := v104) (b := 1) rfl rfl hg131) rfl ?_
        refine wl_val (g_assign (v := .int .i64 (v104 - 1)) rfl) rfl ?_
        refine wl_nil ?_
        have hS132 := hS127.f1
        have hS133 := hS132.tail
        exact ⟨((x100 ++ ([(v104, false)])), a124, (n102 + 1), c125, (v104 - 1)), hm.2, ⟨rfl, rfl, rfl, rfl, rfl, trivial⟩, ⟨hm.1, hB130, hS133⟩⟩
      · replace hm := hm.2 h115
        refine w_exit ?_
        exact ⟨(x100, a101, n102, c103), ⟨rfl, rfl, rfl, rfl, trivial⟩, ⟨hm, hB110, hS111⟩⟩
    · rintro ⟨x93, a94, n95, c96⟩ b_ w134 ⟨hm, hB135, hS136⟩
      show Wp _ _ _ _ (upds b_ [(1, .int .i64 p1), (2, .int .i64 p2), (3, .bool p3), (10, .slice a94 n95 c96)]) w134
      refine w_seq fun K137 hK137 => ?_
      refine w_region ?_
      refine wl_val (g_move (v := .slice a94 n95 c96) rfl) rfl ?_
      refine wl_val (g_move (v := .int .i64 p1) rfl) rfl ?_
      refine wl_val (g_move (v := .bool p3) rfl) rfl ?_
      refine wl_val (g_build (v := .agg #[.int .i64 p1, .bool p3]) (parts2 rfl rfl) (BD56_01 p1 p3)) rfl ?_
      refine wl_val (g_move (v := .int .i64 p1) rfl) rfl ?_
      refine wl_val (g_move (v := .bool p3) rfl) rfl ?_
      refine wl_val (g_build (v := .agg #[.int .i64 p1, .bool p3]) (parts2 rfl rfl) (BD56_01 p1 p3)) rfl ?_
      refine wl_step rfl (q_lit2 (y := ((p1, p3) : Cross)) (y' := ((p1, p3) : Cross)) SL24 rfl rfl rfl rfl (by decide) hS136) ?_
      rintro _ w138 ⟨a139, rfl, hS141, hE140⟩
      have hB143 := hB135.trans (Ext.stp hE140 hS136.base)
      have hS149 := hS141.f1
      obtain ⟨hg150, hm⟩ := hm
      refine wl_step rfl (q_append SL24 rfl rfl hS149 (oS.vw hS149.g1) hg150 (by decide)) ?_
      rintro _ w144 ⟨a145, c146, rfl, hS148, hb147⟩
      have hB151 := hB143.trans hb147
      refine wl_val (g_assign (v := .slice a145 (n95 + 2) c146) rfl) rfl ?_
      refine wl_nil ?_
      refine hK137 _ _ ?_
      refine w_cut (σ := List Cross × Option Addr × Nat × Nat) (fun ⟨x220, a221, n222, c223⟩ => [(10, .slice a221 n222 c223)]) (fun ⟨x220, a221, n222, c223⟩ w' => m_impl_FullTurn_K0 Q x220 ∧ Below w.heap.size w w' ∧ Sep w' w.heap.size [oS 56 a221 n222 c223 (x220 : List Cross)]) ?_ ?_
      · refine w_seq fun K225 hK225 => ?_
        refine w_region ?_
        refine wl_val (g_move (v := .int .i64 p1) rfl) rfl ?_
        obtain ⟨hg226, hm⟩ := hm
        refine wl_val (g_add (a := p1) (b := 1) rfl rfl hg226) rfl ?_
        refine wl_val (g_assign (v := .int .i64 (p1 + 1)) rfl) rfl ?_
        refine wl_nil ?_
        refine hK225 _ _ ?_
        refine w_block ?_
        have hS232 := hS148.f1
        have hS233 := hS232.tail
        obtain ⟨I234, μ235, h0236, hr237⟩ := hm
        refine w_for (σ := List Cross × Option Addr × Nat × Nat × Int) (fun ⟨x227, a228, n229, c230, v231⟩ => [(2, .int .i64 p2), (10, .slice a228 n229 c230), (12, .int .i64 v231)]) (fun ⟨x227, a228, n229, c230, v231⟩ w' => I234 x227 v231 ∧ Below w.heap.size w w' ∧ Sep w' w.heap.size [oS 56 a228 n229 c230 (x227 : List Cross)]) (fun ⟨x227, a228, n229, c230, v231⟩ => μ235 x227 v231) ((x93 ++ ([(p1, p3), (p1, p3)])), a145, (n95 + 2), c146, (p1 + 1)) ⟨rfl, rfl, rfl, trivial⟩ ⟨h0236, hB151, hS233⟩ ?_
        rintro ⟨x227, a228, n229, c230, v231⟩ b_ w238 ⟨hi_, hB239, hS240⟩
        show Wp _ _ _ _ (upds b_ [(2, .int .i64 p2), (10, .slice a228 n229 c230), (12, .int .i64 v231)]) w238
        have hm := hr237 x227 v231 hi_
        refine w_seq fun K242 hK242 => ?_
        refine w_seq fun K243 hK243 => ?_
        refine w_region ?_
        refine wl_val (g_move (v := .int .i64 v231) rfl) rfl ?_
        refine wl_val (g_move (v := .int .i64 p2) rfl) rfl ?_
        refine wl_val (g_lss (a := v231) (b := p2) rfl rfl) rfl ?_
        refine wl_nil ?_
        refine hK243 _ _ ?_
        refine w_condI (p := v231 < p2) (b := (decide (v231 < p2))) rfl decide_eq_true_iff (fun h244 => ?_) (fun h244 => ?_)
        · replace hm := hm.1 h244
          refine w_skip ?_
          refine hK242 _ _ ?_
          refine w_seq fun K245 hK245 => ?_
          refine w_block ?_
          refine w_region ?_
          refine wl_val (g_move (v := .slice a228 n229 c230) rfl) rfl ?_
          refine wl_val (g_move (v := .int .i64 v231) rfl) rfl ?_
          refine wl_val (g_build (v := .agg #[.int .i64 v231, .bool true]) (parts2 rfl rfl) (BD56_01 v231 true)) rfl ?_
          refine wl_step rfl (q_lit1 (y := ((v231, true) : Cross)) SL24 rfl rfl (by decide) hS240) ?_
          rintro _ w246 ⟨a247, rfl, hS249, hE248⟩
          have hB251 := hB239.trans (Ext.stp hE248 hS240.base)
          have hS257 := hS249.f1
          obtain ⟨hg258, hm⟩ := hm
          refine wl_step rfl (q_append SL24 rfl rfl hS257 (oS.vw hS257.g1) hg258 (by decide)) ?_
          rintro _ w252 ⟨a253, c254, rfl, hS256, hb255⟩
          have hB259 := hB251.trans hb255
          refine wl_val (g_assign (v := .slice a253 (n229 + 1) c254) rfl) rfl ?_
          refine wl_nil ?_
          refine hK245 _ _ ?_
          refine w_region ?_
          refine wl_val (g_move (v := .int .i64 v231) rfl) rfl ?_
          obtain ⟨hg260, hm⟩ := hm
          refine wl_val (g_add (a := v231) (b := 1) rfl rfl hg260) rfl ?_
          refine wl_val (g_assign (v := .int .i64 (v231 + 1)) rfl) rfl ?_
          refine wl_nil ?_
          have hS261 := hS256.f1
          have hS262 := hS261.tail
          exact ⟨((x227 ++ ([(v231, true)])), a253, (n229 + 1), c254, (v231 + 1)), hm.2, ⟨rfl, rfl, rfl, trivial⟩, ⟨hm.1, hB259, hS262⟩⟩
        · replace hm := hm.2 h244
          refine w_exit ?_
          exact ⟨(x227, a228, n229, c230), ⟨rfl, trivial⟩, ⟨hm, hB239, hS240⟩⟩
      · rintro ⟨x220, a221, n222, c223⟩ b_ w263 ⟨hm, hB264, hS265⟩
        show Wp _ _ _ _ (upds b_ [(10, .slice a221 n222 c223)]) w263
        refine w_seq fun K266 hK266 => ?_
        refine w_region ?_
        refine wl_val (g_move (v := .slice a221 n222 c223) rfl) rfl ?_
        refine wl_val (g_assign (v := .slice a221 n222 c223) rfl) rfl ?_
        refine wl_val (g_assign (v := .bool true) rfl) rfl ?_
        refine wl_nil ?_
        refine hK266 _ _ ?_
        refine w_ret ?_
        repeat first | with_reducible refine q_then ?_ | with_reducible refine q_block ?_
        exact ret2 rfl (by decide) (by decide) ⟨_, _, _, _, _, hm, rfl, toExt hB264, hS265⟩

theorem m_impl_UnwindAll_fn {w : World} {a1 : Option Addr} {n1 c1 : Nat} {p1 : List Cross} {Q : (List Cross) → Bool → Prop} (p0 : Int) (hp1 : Vw w.heap.size w a1 n1 c1 p1) (hm : m_impl_UnwindAll p0 p1 Q) :
    Fn Try.prog 48 #[.int .i64 p0, .slice a1 n1 c1] w (fun v w' => ∃ (r0 : List Cross) (a0 : Option Addr) (n0 c0 : Nat) (r1 : Bool), Q r0 r1 ∧ v = .tuple #[.slice a0 n0 c0, .bool r1] ∧ Ext w w' ∧ Sep w' w.heap.size [oS 56 a0 n0 c0 r0]) := by
  unfold m_impl_UnwindAll at hm
  have hB0 := Below.refl w.heap.size w
  have hS0 : Sep w w.heap.size [] := Sep.nil (Nat.le_refl _)
  refine fn_of_wp Try.func48 rfl (by kernel_rfl) (Nat.le_of_ble_eq_true rfl) ?_
  refine w_seq fun K1 hK1 => ?_
  refine w_region ?_
  refine wl_val (g_assign (v := .slice none 0 0) rfl) rfl ?_
  refine wl_val (g_assign (v := .bool false) rfl) rfl ?_
  refine wl_nil ?_
  refine hK1 _ _ ?_
  refine w_seq fun K2 hK2 => ?_
  refine w_seq fun K3 hK3 => ?_
  refine w_region ?_
  refine wl_val (g_move (v := .int .i64 p0) rfl) rfl ?_
  refine wl_val (g_move (v := .slice a1 n1 c1) rfl) rfl ?_
  refine wl_step rfl (g_call (vs := #[.int .i64 p0, .slice a1 n1 c1]) CF57 (args2 rfl rfl) (m_impl_CrossesOk_fn p0 ((hp1.bel hB0).up hS0) hm)) ?_
  rintro _ w4 ⟨r7, hm, rfl, hE5⟩
  have hB8 := hB0.trans (Ext.stp hE5 hS0.base)
  have hS9 := hS0.ext hE5
  refine wl_val (g_not (a := r7) rfl) rfl ?_
  refine wl_val (g_move (v := .bool (!r7)) rfl) rfl ?_
  refine wl_guard (c := (!r7) = false) (val := .int .i64 p0) (b := ((!r7) == false)) (gv_some rfl rfl rfl) beq_iff_eq (fun hc10 => ?_) ?_
  · have hcq0 : ¬ (¬ (r7 = true)) := (i_neg (i_not Iff.rfl) hc10)
    exact g_move (v := .int .i64 p0) rfl
  refine wl_guard (c := (!r7) = false) (val := .slice a1 n1 c1) (b := ((!r7) == false)) (gv_some rfl rfl rfl) beq_iff_eq (fun hc11 => ?_) ?_
  · have hcq0 : ¬ (¬ (r7 = true)) := (i_neg (i_not Iff.rfl) hc11)
    exact g_move (v := .slice a1 n1 c1) rfl
  obtain ⟨r13, hk14, hm⟩ := hm
  refine wl_guardE (X := Ext) (c := (!r7) = false) (val := .bool r13) (Ext.refl _) (b := ((!r7) == false)) (gv_some rfl rfl rfl) beq_iff_eq (fun hc12 => ?_) (fun w15 hE16 => ?_)
  · have hcq0 : ¬ (¬ (r7 = true)) := (i_neg (i_not Iff.rfl) hc12)
    exact (g_call (vs := #[.int .i64 p0, .slice a1 n1 c1]) CF64 (args2 (if_pos hc12) (if_pos hc12)) ((m_impl_isHome_fn p0 ((hp1.bel hB8).up hS9) (hk14 hcq0)).mono fun _ _ ⟨_, h1, h2, h3⟩ => ⟨by rw [h2, h1], h3⟩))
  have hB17 := hB8.trans (Ext.stp hE16 hS9.base)
  have hS18 := hS9.ext hE16
  refine wl_guard (c := (!r7) = false) (val := .bool (!r13)) (b := ((!r7) == false)) (gv_some rfl rfl rfl) beq_iff_eq (fun hc19 => ?_) ?_
  · have hcq0 : ¬ (¬ (r7 = true)) := (i_neg (i_not Iff.rfl) hc19)
    exact g_not (a := r13) (if_pos hc19)
  refine wl_val (g_pick_or (b := (!r7)) (q := (!r13)) rfl rfl) rfl ?_
  refine wl_nil ?_
  refine hK3 _ _ ?_
  refine w_condI (p := ((¬ (r7 = true)) ∨ (¬ (r13 = true)))) (b := ((!r7) || (!r13))) rfl (i_or (i_not Iff.rfl) (i_not Iff.rfl)) (fun h20 => ?_) (fun h20 => ?_)
  · replace hm := hm.1 h20
    refine w_seq fun K21 hK21 => ?_
    refine w_region ?_
    refine wl_val (g_assign (v := .slice none 0 0) rfl) rfl ?_
    refine wl_val (g_assign (v := .bool false) rfl) rfl ?_
    refine wl_nil ?_
    refine hK21 _ _ ?_
    refine w_ret ?_
    have hS22 := hS18.nilS (α := Cross) (E := 56)
    repeat first | with_reducible refine q_then ?_ | with_reducible refine q_block ?_
    exact ret2 rfl (by decide) (by decide) ⟨_, _, _, _, _, hm, rfl, toExt hB17, hS22⟩
  · replace hm := hm.2 h20
    refine w_skip ?_
    refine hK2 _ _ ?_
    refine w_seq fun K24 hK24 => ?_
    refine w_region ?_
    refine wl_val (g_move (v := .int .i64 p0) rfl) rfl ?_
    refine wl_val (g_move (v := .slice a1 n1 c1) rfl) rfl ?_
    refine wl_step rfl (g_call (vs := #[.int .i64 p0, .slice a1 n1 c1]) CF58 (args2 rfl rfl) (m_impl_twists_fn p0 ((hp1.bel hB17).up hS18) hm)) ?_
    rintro _ w25 ⟨r28, a29, n30, c31, y32, hm, he33, rfl, hE26, hN27⟩
    have hS37 := hS18.call2 hE26 hN27
    have hB38 := hB17.trans (Ext.stp hE26 hS18.base)
    refine wl_step rfl (q_lit0 (α := Cross) rfl SL24 hS37) ?_
    rintro _ w39 ⟨a40, rfl, hS42, hE41⟩
    have hB44 := hB38.trans (Ext.stp hE41 hS37.base)
    refine wl_val (g_assign (v := .slice a29 n30 c31) rfl) rfl ?_
    refine wl_val (g_assign (v := .slice a40 0 0) rfl) rfl ?_
    refine wl_nil ?_
    refine hK24 _ _ ?_
    refine w_cut (σ := List Cross × Option Addr × Nat × Nat) (fun ⟨x778, a779, n780, c781⟩ => [(7, .slice a779 n780 c781)]) (fun ⟨x778, a779, n780, c781⟩ w' => m_impl_UnwindAll_K1 Q x778 ∧ Below w.heap.size w w' ∧ Sep w' w.heap.size [oS 56 a779 n780 c781 (x778 : List Cross)]) ?_ ?_
    · refine w_seq fun K783 hK783 => ?_
      refine w_region ?_
      refine wl_val (g_move (v := .int .i64 p0) rfl) rfl ?_
      refine wl_val (g_move (v := .slice a1 n1 c1) rfl) rfl ?_
      refine wl_step rfl (g_call (vs := #[.int .i64 p0, .slice a1 n1 c1]) CF34 (args2 rfl rfl) (m_impl_WoundPairs_fn p0 ((hp1.bel hB44).up hS42) hm)) ?_
      rintro _ w784 ⟨r787, a788, n789, c790, y791, hm, he792, rfl, hE785, hN786⟩
      have hS796 := hS42.call2 hE785 hN786
      have hB797 := hB44.trans (Ext.stp hE785 hS42.base)
      refine wl_val (q_len SL37 rfl (Tv.len (oT.vw hS796.g0 hS796.g1 he792))) rfl ?_
      refine wl_val (g_move (v := .int .i64 0) rfl) rfl ?_
      refine wl_nil ?_
      refine hK783 _ _ ?_
      refine w_block ?_
      have hS803 := hS796.f1
      have hS804 := hS803.f1
      have hS805 := hS804.f2
      have hS806 := hS805.f4
      have hS807 := hS806.f4
      obtain ⟨I808, μ809, h0810, hr811⟩ := hm
      refine w_for (σ := List Cross × Option Addr × Nat × Nat × Int) (fun ⟨x798, a799, n800, c801, v802⟩ => [(0, .int .i64 p0), (6, .slice a29 n30 c31), (7, .slice a799 n800 c801), (29, .slice a788 n789 c790), (30, .int .i64 (r787.length : Int)), (31, .int .i64 v802)]) (fun ⟨x798, a799, n800, c801, v802⟩ w' => I808 x798 v802 ∧ Below w.heap.size w w' ∧ Sep w' w.heap.size [oS 39 a29 n30 c31 (y32 : List (Hd Int)), oT 3 (y32 : List (Hd Int)), oS 56 a799 n800 c801 (x798 : List Cross), oS 39 a788 n789 c790 (y791 : List (Hd Int)), oT 3 (y791 : List (Hd Int))]) (fun ⟨x798, a799, n800, c801, v802⟩ => μ809 x798 v802) ([], a40, 0, 0, 0) ⟨rfl, rfl, rfl, rfl, rfl, rfl, trivial⟩ ⟨h0810, hB797, hS807⟩ ?_
      rintro ⟨x798, a799, n800, c801, v802⟩ b_ w812 ⟨hi_, hB813, hS814⟩
      show Wp _ _ _ _ (upds b_ [(0, .int .i64 p0), (6, .slice a29 n30 c31), (7, .slice a799 n800 c801), (29, .slice a788 n789 c790), (30, .int .i64 (r787.length : Int)), (31, .int .i64 v802)]) w812
      have hm := hr811 x798 v802 hi_
      refine w_seq fun K816 hK816 => ?_
      refine w_region ?_
      refine wl_val (g_lss (a := v802) (b := (r787.length : Int)) rfl rfl) rfl ?_
      refine wl_nil ?_
      refine hK816 _ _ ?_
      refine w_seq fun K817 hK817 => ?_
      refine w_condI (p := v802 < (r787.length : Int)) (b := (decide (v802 < (r787.length : Int)))) rfl decide_eq_true_iff (fun h818 => ?_) (fun h818 => ?_)
      · replace hm := hm.1 h818
        refine w_skip ?_
        refine hK817 _ _ ?_
        refine w_cut (σ := List Cross × Option Addr × Nat × Nat) (fun ⟨x819, a820, n821, c822⟩ => [(0, .int .i64 p0), (6, .slice a29 n30 c31), (7, .slice a820 n821 c822), (29, .slice a788 n789 c790), (30, .int .i64 (r787.length : Int)), (31, .int .i64 v802)]) (fun ⟨x819, a820, n821, c822⟩ w' => m_impl_UnwindAll_K0 v802 (fun x798' v802' => I808 x798' v802' ∧ μ809 x798' v802' < μ809 x798 v802) x819 ∧ Below w.heap.size w w' ∧ Sep w' w.heap.size [oS 39 a29 n30 c31 (y32 : List (Hd Int)), oT 3 (y32 : List (Hd Int)), oS 56 a820 n821 c822 (x819 : List Cross), oS 39 a788 n789 c790 (y791 : List (Hd Int)), oT 3 (y791 : List (Hd Int))]) ?_ ?_
        · refine w_block ?_
          refine w_seq fun K824 hK824 => ?_
          refine w_region ?_
          obtain ⟨hg825, hm⟩ := hm
          refine wl_val (q_index (i := v802) SL37 rfl rfl (Tv.o (oT.vw hS814.g3 hS814.g4 he792)) (Tv.g (oT.vw hS814.g3 hS814.g4 he792) hg825)) rfl ?_
          refine wl_val (q_load (i := v802) (v := .slice ((y791[(Int.toNat v802)]!).1) ((y791[(Int.toNat v802)]!).2.2.length) ((y791[(Int.toNat v802)]!).2.1)) ON39 (Tv.o (oT.vw hS814.g3 hS814.g4 he792)) (Tv.g (oT.vw hS814.g3 hS814.g4 he792) hg825) rfl rfl) rfl ?_
          refine wl_val (g_assign (v := .slice ((y791[(Int.toNat v802)]!).1) ((y791[(Int.toNat v802)]!).2.2.length) ((y791[(Int.toNat v802)]!).2.1)) rfl) rfl ?_
          refine wl_nil ?_
          refine hK824 _ _ ?_
          refine w_seq fun K826 hK826 => ?_
          refine w_draw (X := Ext) (Y := Ext) [] MIX (by decide +kernel) rfl Ext.refl (fun _ _ _ => Ext.trans) (fun _ _ _ => Chg.trans) (fun _ _ h => Ext.chg h _) (fun w827 hE828 => ?_)
          have hB829 := hB813.trans (Ext.stp hE828 hS814.base)
          have hS830 := hS814.ext hE828
          refine ⟨.slice a29 n30 c31, fun w831 hX832 => od_plain rfl (by have hS833 := hS830.ext hX832; have hB834 := hB829.trans (Ext.stp hX832 hS830.base); exact is_ext (g_move (v := .slice a29 n30 c31) rfl)), ?_⟩
          refine ⟨.slice ((y791[(Int.toNat v802)]!).1) ((y791[(Int.toNat v802)]!).2.2.length) ((y791[(Int.toNat v802)]!).2.1), fun w835 hX836 => od_plain rfl (by have hS837 := hS830.ext hX836; have hB838 := hB829.trans (Ext.stp hX836 hS830.base); exact is_ext (g_move (v := .slice ((y791[(Int.toNat v802)]!).1) ((y791[(Int.toNat v802)]!).2.2.length) ((y791[(Int.toNat v802)]!).2.1)) rfl)), ?_⟩
          obtain ⟨hg843, hm⟩ := hm
          refine ⟨.pointer (some ((adr ((y791[(Int.toNat v802)]!).1)).add (0 * El.m Int))), fun w839 hX840 => od_plain rfl (by have hS841 := hS830.ext hX840; have hB842 := hB829.trans (Ext.stp hX840 hS830.base); exact is_ext (q_index (i := 0) SL39 rfl rfl (Tv.row (oT.vw hS841.g3 hS841.g4 he792) hg825) hg843)), ?_⟩
          refine ⟨.int .i64 ((r787[(Int.toNat v802)]!)[0]!), fun w844 hX845 => od_plain rfl (by have hS846 := hS830.ext hX845; have hB847 := hB829.trans (Ext.stp hX845 hS830.base); exact is_ext (q_load (i := 0) (v := .int .i64 ((r787[(Int.toNat v802)]!)[0]!)) ON3 (Tv.row (oT.vw hS846.g3 hS846.g4 he792) hg825) hg843 rfl rfl)), ?_⟩
          obtain ⟨hg852, hm⟩ := hm
          refine ⟨.pointer (some ((adr a29).add ((Int.toNat ((r787[(Int.toNat v802)]!)[0]!)) * El.m (Hd Int)))), fun w848 hX849 => od_plain rfl (by have hS850 := hS830.ext hX849; have hB851 := hB829.trans (Ext.stp hX849 hS830.base); exact is_ext (q_index (i := (r787[(Int.toNat v802)]!)[0]!) SL37 rfl rfl (Tv.o (oT.vw hS850.g0 hS850.g1 he33)) (Tv.g (oT.vw hS850.g0 hS850.g1 he33) hg852))), ?_⟩
          refine ⟨.slice ((y32[(Int.toNat ((r787[(Int.toNat v802)]!)[0]!))]!).1) ((y32[(Int.toNat ((r787[(Int.toNat v802)]!)[0]!))]!).2.2.length) ((y32[(Int.toNat ((r787[(Int.toNat v802)]!)[0]!))]!).2.1), fun w853 hX854 => od_plain rfl (by have hS855 := hS830.ext hX854; have hB856 := hB829.trans (Ext.stp hX854 hS830.base); exact is_ext (q_load (i := (r787[(Int.toNat v802)]!)[0]!) (v := .slice ((y32[(Int.toNat ((r787[(Int.toNat v802)]!)[0]!))]!).1) ((y32[(Int.toNat ((r787[(Int.toNat v802)]!)[0]!))]!).2.2.length) ((y32[(Int.toNat ((r787[(Int.toNat v802)]!)[0]!))]!).2.1)) ON39 (Tv.o (oT.vw hS855.g0 hS855.g1 he33)) (Tv.g (oT.vw hS855.g0 hS855.g1 he33) hg852) rfl rfl)), ?_⟩
          refine ⟨.slice ((y791[(Int.toNat v802)]!).1) ((y791[(Int.toNat v802)]!).2.2.length) ((y791[(Int.toNat v802)]!).2.1), fun w857 hX858 => od_plain rfl (by have hS859 := hS830.ext hX858; have hB860 := hB829.trans (Ext.stp hX858 hS830.base); exact is_ext (g_move (v := .slice ((y791[(Int.toNat v802)]!).1) ((y791[(Int.toNat v802)]!).2.2.length) ((y791[(Int.toNat v802)]!).2.1)) rfl)), ?_⟩
          obtain ⟨hg865, hm⟩ := hm
          refine ⟨.pointer (some ((adr ((y791[(Int.toNat v802)]!).1)).add (1 * El.m Int))), fun w861 hX862 => od_plain rfl (by have hS863 := hS830.ext hX862; have hB864 := hB829.trans (Ext.stp hX862 hS830.base); exact is_ext (q_index (i := 1) SL39 rfl rfl (Tv.row (oT.vw hS863.g3 hS863.g4 he792) hg825) hg865)), ?_⟩
          refine ⟨.int .i64 ((r787[(Int.toNat v802)]!)[1]!), fun w866 hX867 => od_plain rfl (by have hS868 := hS830.ext hX867; have hB869 := hB829.trans (Ext.stp hX867 hS830.base); exact is_ext (q_load (i := 1) (v := .int .i64 ((r787[(Int.toNat v802)]!)[1]!)) ON3 (Tv.row (oT.vw hS868.g3 hS868.g4 he792) hg825) hg865 rfl rfl)), ?_⟩
          obtain ⟨hg874, hm⟩ := hm
          refine ⟨.pointer (some ((adr ((y32[(Int.toNat ((r787[(Int.toNat v802)]!)[0]!))]!).1)).add ((Int.toNat ((r787[(Int.toNat v802)]!)[1]!)) * El.m Int))), fun w870 hX871 => od_plain rfl (by have hS872 := hS830.ext hX871; have hB873 := hB829.trans (Ext.stp hX871 hS830.base); exact is_ext (q_index (i := (r787[(Int.toNat v802)]!)[1]!) SL39 rfl rfl (Tv.row (oT.vw hS872.g0 hS872.g1 he33) hg852) hg874)), ?_⟩
          refine ⟨.int .i64 ((r28[(Int.toNat ((r787[(Int.toNat v802)]!)[0]!))]!)[(Int.toNat ((r787[(Int.toNat v802)]!)[1]!))]!), fun w875 hX876 => od_plain rfl (by have hS877 := hS830.ext hX876; have hB878 := hB829.trans (Ext.stp hX876 hS830.base); exact is_ext (q_load (i := (r787[(Int.toNat v802)]!)[1]!) (v := .int .i64 ((r28[(Int.toNat ((r787[(Int.toNat v802)]!)[0]!))]!)[(Int.toNat ((r787[(Int.toNat v802)]!)[1]!))]!)) ON3 (Tv.row (oT.vw hS877.g0 hS877.g1 he33) hg852) hg874 rfl rfl)), ?_⟩
          refine ⟨.int .i64 ((r28[(Int.toNat ((r787[(Int.toNat v802)]!)[0]!))]!)[(Int.toNat ((r787[(Int.toNat v802)]!)[1]!))]!), fun w879 hX880 => od_plain rfl (by have hS881 := hS830.ext hX880; have hB882 := hB829.trans (Ext.stp hX880 hS830.base); exact is_ext (g_assign (v := .int .i64 ((r28[(Int.toNat ((r787[(Int.toNat v802)]!)[0]!))]!)[(Int.toNat ((r787[(Int.toNat v802)]!)[1]!))]!)) rfl)), ?_⟩
          intro w883 hX884
          have hB885 := hB829.trans (Ext.stp hX884 hS830.base)
          have hS886 := hS830.ext hX884
          refine hK826 _ _ ?_
          refine w_seq fun K887 hK887 => ?_
          refine w_region ?_
          refine wl_val (g_move (v := .int .i64 ((r28[(Int.toNat ((r787[(Int.toNat v802)]!)[0]!))]!)[(Int.toNat ((r787[(Int.toNat v802)]!)[1]!))]!)) rfl) rfl ?_
          refine wl_step rfl (g_call (vs := #[.int .i64 ((r28[(Int.toNat ((r787[(Int.toNat v802)]!)[0]!))]!)[(Int.toNat ((r787[(Int.toNat v802)]!)[1]!))]!)]) CF63 (args1 rfl) (m_impl_size_fn ((r28[(Int.toNat ((r787[(Int.toNat v802)]!)[0]!))]!)[(Int.toNat ((r787[(Int.toNat v802)]!)[1]!))]!) hm)) ?_
          rintro _ w888 ⟨r891, hm, rfl, hE889⟩
          have hB892 := hB885.trans (Ext.stp hE889 hS886.base)
          have hS893 := hS886.ext hE889
          obtain ⟨hg894, hm⟩ := hm
          refine wl_val (g_quo (a := r891) (b := 2) rfl rfl (by decide) hg894) rfl ?_
          refine wl_val (g_move (v := .int .i64 0) rfl) rfl ?_
          refine wl_nil ?_
          refine hK887 _ _ ?_
          refine w_block ?_
          obtain ⟨I900, μ901, h0902, hr903⟩ := hm
          refine w_for (σ := List Cross × Option Addr × Nat × Nat × Int) (fun ⟨x895, a896, n897, c898, v899⟩ => [(0, .int .i64 p0), (6, .slice a29 n30 c31), (7, .slice a896 n897 c898), (9, .slice ((y791[(Int.toNat v802)]!).1) ((y791[(Int.toNat v802)]!).2.2.length) ((y791[(Int.toNat v802)]!).2.1)), (10, .int .i64 ((r28[(Int.toNat ((r787[(Int.toNat v802)]!)[0]!))]!)[(Int.toNat ((r787[(Int.toNat v802)]!)[1]!))]!)), (29, .slice a788 n789 c790), (30, .int .i64 (r787.length : Int)), (31, .int .i64 v802), (48, .int .i64 (Int.tdiv r891 2)), (49, .int .i64 v899)]) (fun ⟨x895, a896, n897, c898, v899⟩ w' => I900 x895 v899 ∧ Below w.heap.size w w' ∧ Sep w' w.heap.size [oS 39 a29 n30 c31 (y32 : List (Hd Int)), oT 3 (y32 : List (Hd Int)), oS 56 a896 n897 c898 (x895 : List Cross), oS 39 a788 n789 c790 (y791 : List (Hd Int)), oT 3 (y791 : List (Hd Int))]) (fun ⟨x895, a896, n897, c898, v899⟩ => μ901 x895 v899) (x798, a799, n800, c801, 0) ⟨rfl, rfl, rfl, rfl, rfl, rfl, rfl, rfl, rfl, rfl, trivial⟩ ⟨h0902, hB892, hS893⟩ ?_
          rintro ⟨x895, a896, n897, c898, v899⟩ b_ w904 ⟨hi_, hB905, hS906⟩
          show Wp _ _ _ _ (upds b_ [(0, .int .i64 p0), (6, .slice a29 n30 c31), (7, .slice a896 n897 c898), (9, .slice ((y791[(Int.toNat v802)]!).1) ((y791[(Int.toNat v802)]!).2.2.length) ((y791[(Int.toNat v802)]!).2.1)), (10, .int .i64 ((r28[(Int.toNat ((r787[(Int.toNat v802)]!)[0]!))]!)[(Int.toNat ((r787[(Int.toNat v802)]!)[1]!))]!)), (29, .slice a788 n789 c790), (30, .int .i64 (r787.length : Int)), (31, .int .i64 v802), (48, .int .i64 (Int.tdiv r891 2)), (49, .int .i64 v899)]) w904
          have hm := hr903 x895 v899 hi_
          refine w_seq fun K908 hK908 => ?_
          refine w_region ?_
          refine wl_val (g_lss (a := v899) (b := (Int.tdiv r891 2)) rfl rfl) rfl ?_
          refine wl_nil ?_
          refine hK908 _ _ ?_
          refine w_seq fun K909 hK909 => ?_
          refine w_condI (p := v899 < (Int.tdiv r891 2)) (b := (decide (v899 < (Int.tdiv r891 2)))) rfl decide_eq_true_iff (fun h910 => ?_) (fun h910 => ?_)
          · replace hm := hm.1 h910
            refine w_skip ?_
            refine hK909 _ _ ?_
            refine w_seq fun K911 hK911 => ?_
            refine w_block ?_
            refine w_seq fun K912 hK912 => ?_
            refine w_draw (X := Ext) (Y := Ext) [0, 0, 0, 0, 0, 0, 0, 0, 0, 1, 0, 0, 0, 0, 0] MIX (by decide +kernel) rfl Ext.refl (fun _ _ _ => Ext.trans) (fun _ _ _ => Chg.trans) (fun _ _ h => Ext.chg h _) (fun w913 hE914 => ?_)
            have hB915 := hB905.trans (Ext.stp hE914 hS906.base)
            have hS916 := hS906.ext hE914
            refine ⟨.int .i64 p0, fun w917 hX918 => od_plain rfl (by have hS919 := hS916.ext hX918; have hB920 := hB915.trans (Ext.stp hX918 hS916.base); exact is_ext (g_move (v := .int .i64 p0) rfl)), ?_⟩
            refine ⟨.slice ((y791[(Int.toNat v802)]!).1) ((y791[(Int.toNat v802)]!).2.2.length) ((y791[(Int.toNat v802)]!).2.1), fun w921 hX922 => od_plain rfl (by have hS923 := hS916.ext hX922; have hB924 := hB915.trans (Ext.stp hX922 hS916.base); exact is_ext (g_move (v := .slice ((y791[(Int.toNat v802)]!).1) ((y791[(Int.toNat v802)]!).2.2.length) ((y791[(Int.toNat v802)]!).2.1)) rfl)), ?_⟩
            obtain ⟨hg929, hm⟩ := hm
            refine ⟨.pointer (some ((adr ((y791[(Int.toNat v802)]!).1)).add (0 * El.m Int))), fun w925 hX926 => od_plain rfl (by have hS927 := hS916.ext hX926; have hB928 := hB915.trans (Ext.stp hX926 hS916.base); exact is_ext (q_index (i := 0) SL39 rfl rfl (Tv.row (oT.vw hS927.g3 hS927.g4 he792) hg825) hg929)), ?_⟩
            refine ⟨.int .i64 ((r787[(Int.toNat v802)]!)[0]!), fun w930 hX931 => od_plain rfl (by have hS932 := hS916.ext hX931; have hB933 := hB915.trans (Ext.stp hX931 hS916.base); exact is_ext (q_load (i := 0) (v := .int .i64 ((r787[(Int.toNat v802)]!)[0]!)) ON3 (Tv.row (oT.vw hS932.g3 hS932.g4 he792) hg825) hg929 rfl rfl)), ?_⟩
            refine ⟨.slice ((y791[(Int.toNat v802)]!).1) ((y791[(Int.toNat v802)]!).2.2.length) ((y791[(Int.toNat v802)]!).2.1), fun w934 hX935 => od_plain rfl (by have hS936 := hS916.ext hX935; have hB937 := hB915.trans (Ext.stp hX935 hS916.base); exact is_ext (g_move (v := .slice ((y791[(Int.toNat v802)]!).1) ((y791[(Int.toNat v802)]!).2.2.length) ((y791[(Int.toNat v802)]!).2.1)) rfl)), ?_⟩
            obtain ⟨hg942, hm⟩ := hm
            refine ⟨.pointer (some ((adr ((y791[(Int.toNat v802)]!).1)).add (1 * El.m Int))), fun w938 hX939 => od_plain rfl (by have hS940 := hS916.ext hX939; have hB941 := hB915.trans (Ext.stp hX939 hS916.base); exact is_ext (q_index (i := 1) SL39 rfl rfl (Tv.row (oT.vw hS940.g3 hS940.g4 he792) hg825) hg942)), ?_⟩
            refine ⟨.int .i64 ((r787[(Int.toNat v802)]!)[1]!), fun w943 hX944 => od_plain rfl (by have hS945 := hS916.ext hX944; have hB946 := hB915.trans (Ext.stp hX944 hS916.base); exact is_ext (q_load (i := 1) (v := .int .i64 ((r787[(Int.toNat v802)]!)[1]!)) ON3 (Tv.row (oT.vw hS945.g3 hS945.g4 he792) hg825) hg942 rfl rfl)), ?_⟩
            refine ⟨.int .i64 ((r28[(Int.toNat ((r787[(Int.toNat v802)]!)[0]!))]!)[(Int.toNat ((r787[(Int.toNat v802)]!)[1]!))]!), fun w947 hX948 => od_plain rfl (by have hS949 := hS916.ext hX948; have hB950 := hB915.trans (Ext.stp hX948 hS916.base); exact is_ext (g_move (v := .int .i64 ((r28[(Int.toNat ((r787[(Int.toNat v802)]!)[0]!))]!)[(Int.toNat ((r787[(Int.toNat v802)]!)[1]!))]!)) rfl)), ?_⟩
            refine ⟨.bool (decide ((r28[(Int.toNat ((r787[(Int.toNat v802)]!)[0]!))]!)[(Int.toNat ((r787[(Int.toNat v802)]!)[1]!))]! < 0)), fun w951 hX952 => od_plain rfl (by have hS953 := hS916.ext hX952; have hB954 := hB915.trans (Ext.stp hX952 hS916.base); exact is_ext (g_lss (a := (r28[(Int.toNat ((r787[(Int.toNat v802)]!)[0]!))]!)[(Int.toNat ((r787[(Int.toNat v802)]!)[1]!))]!) (b := 0) rfl rfl)), ?_⟩
            intro w955 hX956
            have hB957 := hB915.trans (Ext.stp hX956 hS916.base)
            have hS958 := hS916.ext hX956
            refine ⟨_, od_plain rfl (g_call (vs := #[.int .i64 p0, .int .i64 ((r787[(Int.toNat v802)]!)[0]!), .int .i64 ((r787[(Int.toNat v802)]!)[1]!), .bool (decide ((r28[(Int.toNat ((r787[(Int.toNat v802)]!)[0]!))]!)[(Int.toNat ((r787[(Int.toNat v802)]!)[1]!))]! < 0))]) CF22 (args4 rfl rfl rfl rfl) (m_impl_FullTurn_fn p0 ((r787[(Int.toNat v802)]!)[0]!) ((r787[(Int.toNat v802)]!)[1]!) (decide ((r28[(Int.toNat ((r787[(Int.toNat v802)]!)[0]!))]!)[(Int.toNat ((r787[(Int.toNat v802)]!)[1]!))]! < 0)) hm)), ?_⟩
            rintro _ w959 ⟨r962, a963, n964, c965, r967, hm, rfl, hE960, hN961⟩
            have hS968 := hS958.call1 hE960 hN961
            have hB969 := hB957.trans (Ext.stp hE960 hS958.base)
            refine ⟨.tuple #[.slice a963 n964 c965, .bool r967], fun w970 hX971 => od_plain rfl (by have hS972 := hS968.ext hX971; have hB973 := hB969.trans (Ext.stp hX971 hS968.base); exact is_ext (g_move (v := .tuple #[.slice a963 n964 c965, .bool r967]) rfl)), ?_⟩
            refine ⟨.slice a963 n964 c965, fun w974 hX975 => od_plain rfl (by have hS976 := hS968.ext hX975; have hB977 := hB969.trans (Ext.stp hX975 hS968.base); exact is_ext (g_extract (vs := #[.slice a963 n964 c965, .bool r967]) rfl rfl)), ?_⟩
            refine ⟨.bool r967, fun w978 hX979 => od_plain rfl (by have hS980 := hS968.ext hX979; have hB981 := hB969.trans (Ext.stp hX979 hS968.base); exact is_ext (g_extract (vs := #[.slice a963 n964 c965, .bool r967]) rfl rfl)), ?_⟩
            refine ⟨.slice a963 n964 c965, fun w982 hX983 => od_plain rfl (by have hS984 := hS968.ext hX983; have hB985 := hB969.trans (Ext.stp hX983 hS968.base); exact is_ext (g_assign (v := .slice a963 n964 c965) rfl)), ?_⟩
            refine ⟨.bool r967, fun w986 hX987 => od_plain rfl (by have hS988 := hS968.ext hX987; have hB989 := hB969.trans (Ext.stp hX987 hS968.base); exact is_ext (g_assign (v := .bool r967) rfl)), ?_⟩
            intro w990 hX991
            have hB992 := hB969.trans (Ext.stp hX991 hS968.base)
            have hS993 := hS968.ext hX991
            refine hK912 _ _ ?_
            refine w_region ?_
            refine wl_val (g_move (v := .slice a896 n897 c898) rfl) rfl ?_
            refine wl_val (g_move (v := .slice a963 n964 c965) rfl) rfl ?_
            have hS999 := hS993.f3
            obtain ⟨hg1000, hm⟩ := hm
            refine wl_step rfl (q_append SL24 rfl rfl hS999 (oS.vw hS999.g1) hg1000 (by decide)) ?_
            rintro _ w994 ⟨a995, c996, rfl, hS998, hb997⟩
            have hB1001 := hB992.trans hb997
            refine wl_val (g_assign (v := .slice a995 (n897 + n964) c996) rfl) rfl ?_
            refine wl_nil ?_
            refine hK911 _ _ ?_
            refine w_region ?_
            obtain ⟨hg1002, hm⟩ := hm
            refine wl_val (g_add (a := v899) (b := 1) rfl rfl hg1002) rfl ?_
            refine wl_val (g_move (v := .int .i64 (v899 + 1)) rfl) rfl ?_
            refine wl_nil ?_
            have hS1003 := hS998.f1
            have hS1004 := hS1003.tail
            have hS1005 := hS1004.f4
            have hS1006 := hS1005.f4
            have hS1007 := hS1006.f2
            have hS1008 := hS1007.f4
            have hS1009 := hS1008.f4
            exact ⟨((x895 ++ r962), a995, (n897 + n964), c996, (v899 + 1)), hm.2, ⟨rfl, rfl, rfl, rfl, rfl, rfl, rfl, rfl, rfl, rfl, trivial⟩, ⟨hm.1, hB1001, hS1009⟩⟩
          · replace hm := hm.2 h910
            refine w_exit ?_
            exact ⟨(x895, a896, n897, c898), ⟨rfl, rfl, rfl, rfl, rfl, rfl, trivial⟩, ⟨hm, hB905, hS906⟩⟩
        · rintro ⟨x819, a820, n821, c822⟩ b_ w1010 ⟨hm, hB1011, hS1012⟩
          show Wp _ _ _ _ (upds b_ [(0, .int .i64 p0), (6, .slice a29 n30 c31), (7, .slice a820 n821 c822), (29, .slice a788 n789 c790), (30, .int .i64 (r787.length : Int)), (31, .int .i64 v802)]) w1010
          refine w_region ?_
          obtain ⟨hg1013, hm⟩ := hm
          refine wl_val (g_add (a := v802) (b := 1) rfl rfl hg1013) rfl ?_
          refine wl_val (g_move (v := .int .i64 (v802 + 1)) rfl) rfl ?_
          refine wl_nil ?_
          exact ⟨(x819, a820, n821, c822, (v802 + 1)), hm.2, ⟨rfl, rfl, rfl, rfl, rfl, rfl, trivial⟩, ⟨hm.1, hB1011, hS1012⟩⟩
      · replace hm := hm.2 h818
        refine w_exit ?_
        have hS1014 := hS814.tail
        have hS1015 := hS1014.tail
        have hS1016 := hS1015.f1
        have hS1017 := hS1016.tail
        have hS1018 := hS1017.f1
        have hS1019 := hS1018.tail
        exact ⟨(x798, a799, n800, c801), ⟨rfl, trivial⟩, ⟨hm, hB813, hS1019⟩⟩
    · rintro ⟨x778, a779, n780, c781⟩ b_ w1020 ⟨hm, hB1021, hS1022⟩
      show Wp _ _ _ _ (upds b_ [(7, .slice a779 n780 c781)]) w1020
      refine w_seq fun K1023 hK1023 => ?_
      refine w_region ?_
      refine wl_val (g_move (v := .slice a779 n780 c781) rfl) rfl ?_
      refine wl_val (g_assign (v := .slice a779 n780 c781) rfl) rfl ?_
      refine wl_val (g_assign (v := .bool true) rfl) rfl ?_
      refine wl_nil ?_
      refine hK1023 _ _ ?_
      refine w_ret ?_
      repeat first | with_reducible refine q_then ?_ | with_reducible refine q_block ?_
      exact ret2 rfl (by decide) (by decide) ⟨_, _, _, _, _, hm, rfl, toExt hB1021, hS1022⟩

theorem m_impl_JoinCrosses_fn {w : World} {a0 : Option Addr} {n0 c0 : Nat} {p0 : List Cross} {a1 : Option Addr} {n1 c1 : Nat} {p1 : List Cross} {Q : (List Cross) → Prop} (hp0 : Vw w.heap.size w a0 n0 c0 p0) (hp1 : Vw w.heap.size w a1 n1 c1 p1) (hm : m_impl_JoinCrosses p0 p1 Q) :
    Fn Try.prog 17 #[.slice a0 n0 c0, .slice a1 n1 c1] w (fun v w' => ∃ (r0 : List Cross) (a0 : Option Addr) (n0 c0 : Nat), Q r0 ∧ v = .slice a0 n0 c0 ∧ Ext w w' ∧ Sep w' w.heap.size [oS 56 a0 n0 c0 r0]) := by
  unfold m_impl_JoinCrosses at hm
  have hB0 := Below.refl w.heap.size w
  have hS0 : Sep w w.heap.size [] := Sep.nil (Nat.le_refl _)
  refine fn_of_wp Try.func17 rfl (by kernel_rfl) (Nat.le_of_ble_eq_true rfl) ?_
  refine w_seq fun K1 hK1 => ?_
  refine w_region ?_
  refine wl_val (g_assign (v := .slice none 0 0) rfl) rfl ?_
  refine wl_nil ?_
  refine hK1 _ _ ?_
  refine w_seq fun K2 hK2 => ?_
  refine w_region ?_
  refine wl_step rfl (q_lit0 (α := Cross) rfl SL24 hS0) ?_
  rintro _ w3 ⟨a4, rfl, hS6, hE5⟩
  have hB8 := hB0.trans (Ext.stp hE5 hS0.base)
  refine wl_val (g_move (v := .slice a0 n0 c0) rfl) rfl ?_
  obtain ⟨hg14, hm⟩ := hm
  refine wl_step rfl (q_append SL24 rfl rfl hS6 (hp0.bel hB8) hg14 (by decide)) ?_
  rintro _ w9 ⟨a10, c11, rfl, hS13, hb12⟩
  have hB15 := hB8.trans hb12
  refine wl_val (g_move (v := .slice a1 n1 c1) rfl) rfl ?_
  obtain ⟨hg21, hm⟩ := hm
  refine wl_step rfl (q_append SL24 rfl rfl hS13 (hp1.bel hB15) hg21 (by decide)) ?_
  rintro _ w16 ⟨a17, c18, rfl, hS20, hb19⟩
  have hB22 := hB15.trans hb19
  refine wl_val (g_assign (v := .slice a17 ((0 + n0) + n1) c18) rfl) rfl ?_
  refine wl_nil ?_
  refine hK2 _ _ ?_
  refine w_ret ?_
  repeat first | with_reducible refine q_then ?_ | with_reducible refine q_block ?_
  exact ret1 rfl (by decide) ⟨_, _, _, _, hm, rfl, toExt hB22, hS20⟩

theorem m_spec_PairsOf_fn {w : World} {a1 : Option Addr} {n1 c1 : Nat} {p1 : List Cross} {Q : (List (List Int)) → Prop} (p0 : Int) (hp1 : Vw w.heap.size w a1 n1 c1 p1) (hm : m_spec_PairsOf p0 p1 Q) :
    Fn Try.prog 65 #[.int .i64 p0, .slice a1 n1 c1] w (fun v w' => ∃ (r0 : List (List Int)) (a0 : Option Addr) (n0 c0 : Nat) (y0 : List (Hd Int)), Q r0 ∧ ers y0 = r0 ∧ v = .slice a0 n0 c0 ∧ Ext w w' ∧ Sep w' w.heap.size [oS 39 a0 n0 c0 y0, oT 3 y0]) := by
  unfold m_spec_PairsOf at hm
  have hB0 := Below.refl w.heap.size w
  have hS0 : Sep w w.heap.size [] := Sep.nil (Nat.le_refl _)
  refine fn_of_wp Try.func65 rfl (by kernel_rfl) (Nat.le_of_ble_eq_true rfl) ?_
  refine w_seq fun K1 hK1 => ?_
  refine w_region ?_
  refine wl_val (g_assign (v := .slice none 0 0) rfl) rfl ?_
  refine wl_nil ?_
  refine hK1 _ _ ?_
  refine w_seq fun K2 hK2 => ?_
  refine w_region ?_
  refine wl_step rfl (q_lit0 (α := (Hd Int)) rfl SL37 hS0) ?_
  rintro _ w3 ⟨a4, rfl, hS6, hE5⟩
  have hB8 := hB0.trans (Ext.stp hE5 hS0.base)
  have hS9 := hS6.noRows (δ := Hd Int) (E := 3)
  have he11 : ers ([] : List (Hd Int)) = ([] : List (List Int)) := rfl
  refine wl_val (g_assign (v := .slice a4 0 0) rfl) rfl ?_
  refine wl_nil ?_
  refine hK2 _ _ ?_
  refine w_seq fun K13 hK13 => ?_
  refine w_seq fun K14 hK14 => ?_
  refine w_region ?_
  refine wl_val (g_move (v := .int .i64 p0) rfl) rfl ?_
  refine wl_val (g_move (v := .slice a1 n1 c1) rfl) rfl ?_
  refine wl_step rfl (g_call (vs := #[.int .i64 p0, .slice a1 n1 c1]) CF59 (args2 rfl rfl) (m_spec_CrossesOk_fn p0 ((hp1.bel hB8).up hS9) hm)) ?_
  rintro _ w15 ⟨r18, hm, rfl, hE16⟩
  have hB19 := hB8.trans (Ext.stp hE16 hS9.base)
  have hS20 := hS9.ext hE16
  refine wl_val (g_not (a := r18) rfl) rfl ?_
  refine wl_nil ?_
  refine hK14 _ _ ?_
  refine w_condI (p := ¬ (r18 = true)) (b := (!r18)) rfl (i_not Iff.rfl) (fun h21 => ?_) (fun h21 => ?_)
  · replace hm := hm.1 h21
    refine w_seq fun K22 hK22 => ?_
    refine w_region ?_
    refine wl_val (g_move (v := .slice a4 0 0) rfl) rfl ?_
    refine wl_val (g_assign (v := .slice a4 0 0) rfl) rfl ?_
    refine wl_nil ?_
    refine hK22 _ _ ?_
    refine w_ret ?_
    have hS23 := hS20.f1
    repeat first | with_reducible refine q_then ?_ | with_reducible refine q_block ?_
    exact ret1 rfl (by decide) ⟨_, _, _, _, _, hm, he11, rfl, toExt hB19, hS23⟩
  · replace hm := hm.2 h21
    refine w_skip ?_
    refine hK13 _ _ ?_
    refine w_seq fun K24 hK24 => ?_
    refine w_region ?_
    refine wl_val (g_move (v := .int .i64 p0) rfl) rfl ?_
    refine wl_step rfl (g_call (vs := #[.int .i64 p0]) CF60 (args1 rfl) (m_spec_l08Start_fn p0 hm)) ?_
    rintro _ w25 ⟨r28, a29, n30, c31, hm, rfl, hE26, hN27⟩
    have hS33 := hS20.call1 hE26 hN27
    have hB34 := hB19.trans (Ext.stp hE26 hS20.base)
    refine wl_val (g_assign (v := .slice a29 n30 c31) rfl) rfl ?_
    refine wl_nil ?_
    refine hK24 _ _ ?_
    refine w_cut (σ := List (List Int) × Option Addr × Nat × Nat × List (Hd Int)) (fun ⟨x208, a209, n210, c211, y212⟩ => [(5, .slice a209 n210 c211)]) (fun ⟨x208, a209, n210, c211, y212⟩ w' => m_spec_PairsOf_K1 Q x208 ∧ ers y212 = x208 ∧ Below w.heap.size w w' ∧ Sep w' w.heap.size [oS 39 a209 n210 c211 (y212 : List (Hd Int)), oT 3 (y212 : List (Hd Int))]) ?_ ?_
    · refine w_seq fun K215 hK215 => ?_
      refine w_region ?_
      refine wl_val (g_assign (v := .int .i64 0) rfl) rfl ?_
      refine wl_nil ?_
      refine hK215 _ _ ?_
      refine w_block ?_
      have hS227 := hS33.f1
      have hS228 := hS227.f2
      obtain ⟨I229, μ230, h0231, hr232⟩ := hm
      refine w_for (σ := List (List Int) × Option Addr × Nat × Nat × List (Hd Int) × List Int × Option Addr × Nat × Nat × Int) (fun ⟨x216, a217, n218, c219, y220, x222, a223, n224, c225, v226⟩ => [(1, .slice a1 n1 c1), (5, .slice a217 n218 c219), (6, .slice a223 n224 c225), (7, .int .i64 v226)]) (fun ⟨x216, a217, n218, c219, y220, x222, a223, n224, c225, v226⟩ w' => I229 x216 x222 v226 ∧ ers y220 = x216 ∧ Below w.heap.size w w' ∧ Sep w' w.heap.size [oS 39 a217 n218 c219 (y220 : List (Hd Int)), oT 3 (y220 : List (Hd Int)), oS 3 a223 n224 c225 (x222 : List Int)]) (fun ⟨x216, a217, n218, c219, y220, x222, a223, n224, c225, v226⟩ => μ230 x216 x222 v226) ([], a4, 0, 0, [], r28, a29, n30, c31, 0) ⟨rfl, rfl, rfl, rfl, trivial⟩ ⟨h0231, he11, hB34, hS228⟩ ?_
      rintro ⟨x216, a217, n218, c219, y220, x222, a223, n224, c225, v226⟩ b_ w233 ⟨hi_, he221, hB234, hS235⟩
      show Wp _ _ _ _ (upds b_ [(1, .slice a1 n1 c1), (5, .slice a217 n218 c219), (6, .slice a223 n224 c225), (7, .int .i64 v226)]) w233
      have hm := hr232 x216 x222 v226 hi_
      refine w_seq fun K237 hK237 => ?_
      refine w_seq fun K238 hK238 => ?_
      refine w_region ?_
      refine wl_val (g_move (v := .int .i64 v226) rfl) rfl ?_
      refine wl_val (g_move (v := .slice a1 n1 c1) rfl) rfl ?_
      refine wl_val (q_len SL24 rfl (Vw.len (hp1.bel hB234))) rfl ?_
      refine wl_val (g_lss (a := v226) (b := (p1.length : Int)) rfl rfl) rfl ?_
      refine wl_nil ?_
      refine hK238 _ _ ?_
      refine w_condI (p := v226 < (p1.length : Int)) (b := (decide (v226 < (p1.length : Int)))) rfl decide_eq_true_iff (fun h239 => ?_) (fun h239 => ?_)
      · replace hm := hm.1 h239
        refine w_skip ?_
        refine hK237 _ _ ?_
        refine w_seq fun K240 hK240 => ?_
        refine w_block ?_
        refine w_seq fun K241 hK241 => ?_
        refine w_region ?_
        refine wl_val (g_move (v := .slice a223 n224 c225) rfl) rfl ?_
        refine wl_val (g_move (v := .slice a1 n1 c1) rfl) rfl ?_
        refine wl_val (g_move (v := .int .i64 v226) rfl) rfl ?_
        obtain ⟨hg242, hm⟩ := hm
        refine wl_val (q_index (i := v226) SL24 rfl rfl (hp1.bel hB234) hg242) rfl ?_
        refine wl_val (g_fieldAddr (q := (adr a1).add ((Int.toNat v226) * El.m Cross)) FL56_0 ON3 rfl) rfl ?_
        refine wl_val (q_loadF (i := v226) (j := 0) (v := .int .i64 (p1[(Int.toNat v226)]!.1)) ON3 (hp1.bel hB234) hg242 rfl rfl) rfl ?_
        obtain ⟨hg243, hm⟩ := hm
        refine wl_val (q_index (i := p1[(Int.toNat v226)]!.1) SL39 rfl rfl (oS.vw hS235.g2) hg243) rfl ?_
        refine wl_val (q_load (i := p1[(Int.toNat v226)]!.1) (v := .int .i64 (x222[(Int.toNat (p1[(Int.toNat v226)]!.1))]!)) ON3 (oS.vw hS235.g2) hg243 rfl rfl) rfl ?_
        refine wl_val (g_assign (v := .int .i64 (x222[(Int.toNat (p1[(Int.toNat v226)]!.1))]!)) rfl) rfl ?_
        refine wl_nil ?_
        refine hK241 _ _ ?_
        refine w_seq fun K244 hK244 => ?_
        refine w_region ?_
        refine wl_val (g_move (v := .slice a223 n224 c225) rfl) rfl ?_
        refine wl_val (g_move (v := .slice a1 n1 c1) rfl) rfl ?_
        refine wl_val (g_move (v := .int .i64 v226) rfl) rfl ?_
        obtain ⟨hg245, hm⟩ := hm
        refine wl_val (q_index (i := v226) SL24 rfl rfl (hp1.bel hB234) hg245) rfl ?_
        refine wl_val (g_fieldAddr (q := (adr a1).add ((Int.toNat v226) * El.m Cross)) FL56_0 ON3 rfl) rfl ?_
        refine wl_val (q_loadF (i := v226) (j := 0) (v := .int .i64 (p1[(Int.toNat v226)]!.1)) ON3 (hp1.bel hB234) hg245 rfl rfl) rfl ?_
        obtain ⟨hg246, hm⟩ := hm
        refine wl_val (g_add (a := p1[(Int.toNat v226)]!.1) (b := 1) rfl rfl hg246) rfl ?_
        obtain ⟨hg247, hm⟩ := hm
        refine wl_val (q_index (i := (p1[(Int.toNat v226)]!.1 + 1)) SL39 rfl rfl (oS.vw hS235.g2) hg247) rfl ?_
        refine wl_val (q_load (i := (p1[(Int.toNat v226)]!.1 + 1)) (v := .int .i64 (x222[(Int.toNat (p1[(Int.toNat v226)]!.1 + 1))]!)) ON3 (oS.vw hS235.g2) hg247 rfl rfl) rfl ?_
        refine wl_val (g_assign (v := .int .i64 (x222[(Int.toNat (p1[(Int.toNat v226)]!.1 + 1))]!)) rfl) rfl ?_
        refine wl_nil ?_
        refine hK244 _ _ ?_
        refine w_cut (σ := Int × Int) (fun ⟨v248, v249⟩ => [(1, .slice a1 n1 c1), (5, .slice a217 n218 c219), (6, .slice a223 n224 c225), (7, .int .i64 v226), (8, .int .i64 v248), (9, .int .i64 v249)]) (fun ⟨v248, v249⟩ w' => m_spec_PairsOf_K0 p1 x216 x222 v226 (fun x216' x222' v226' => I229 x216' x222' v226' ∧ μ230 x216' x222' v226' < μ230 x216 x222 v226) v248 v249 ∧ Below w.heap.size w w' ∧ Sep w' w.heap.size [oS 39 a217 n218 c219 (y220 : List (Hd Int)), oT 3 (y220 : List (Hd Int)), oS 3 a223 n224 c225 (x222 : List Int)]) ?_ ?_
        · refine w_seq fun K251 hK251 => ?_
          refine w_region ?_
          refine wl_val (g_move (v := .slice a1 n1 c1) rfl) rfl ?_
          refine wl_val (g_move (v := .int .i64 v226) rfl) rfl ?_
          obtain ⟨hg252, hm⟩ := hm
          refine wl_val (q_index (i := v226) SL24 rfl rfl (hp1.bel hB234) hg252) rfl ?_
          refine wl_val (g_fieldAddr (q := (adr a1).add ((Int.toNat v226) * El.m Cross)) FL56_1 ON4 rfl) rfl ?_
          refine wl_val (q_loadF (i := v226) (j := 1) (v := .bool (p1[(Int.toNat v226)]!.2)) ON4 (hp1.bel hB234) hg252 rfl rfl) rfl ?_
          refine wl_val (g_not (a := (p1[(Int.toNat v226)]!.2)) rfl) rfl ?_
          refine wl_nil ?_
          refine hK251 _ _ ?_
          refine w_condI (p := ¬ ((p1[(Int.toNat v226)]!.2) = true)) (b := (!(p1[(Int.toNat v226)]!.2))) rfl (i_not Iff.rfl) (fun h253 => ?_) (fun h253 => ?_)
          · replace hm := hm.1 h253
            refine w_region ?_
            refine wl_val (g_move (v := .int .i64 (x222[(Int.toNat (p1[(Int.toNat v226)]!.1 + 1))]!)) rfl) rfl ?_
            refine wl_val (g_move (v := .int .i64 (x222[(Int.toNat (p1[(Int.toNat v226)]!.1))]!)) rfl) rfl ?_
            refine wl_val (g_assign (v := .int .i64 (x222[(Int.toNat (p1[(Int.toNat v226)]!.1 + 1))]!)) rfl) rfl ?_
            refine wl_val (g_assign (v := .int .i64 (x222[(Int.toNat (p1[(Int.toNat v226)]!.1))]!)) rfl) rfl ?_
            refine wl_nil ?_
            exact ⟨(x222[(Int.toNat (p1[(Int.toNat v226)]!.1 + 1))]!, x222[(Int.toNat (p1[(Int.toNat v226)]!.1))]!), ⟨rfl, rfl, rfl, rfl, rfl, rfl, trivial⟩, ⟨hm, hB234, hS235⟩⟩
          · replace hm := hm.2 h253
            refine w_skip ?_
            exact ⟨(x222[(Int.toNat (p1[(Int.toNat v226)]!.1))]!, x222[(Int.toNat (p1[(Int.toNat v226)]!.1 + 1))]!), ⟨rfl, rfl, rfl, rfl, rfl, rfl, trivial⟩, ⟨hm, hB234, hS235⟩⟩
        · rintro ⟨v248, v249⟩ b_ w254 ⟨hm, hB255, hS256⟩
          show Wp _ _ _ _ (upds b_ [(1, .slice a1 n1 c1), (5, .slice a217 n218 c219), (6, .slice a223 n224 c225), (7, .int .i64 v226), (8, .int .i64 v248), (9, .int .i64 v249)]) w254
          refine w_seq fun K257 hK257 => ?_
          refine w_region ?_
          refine wl_val (g_move (v := .slice a217 n218 c219) rfl) rfl ?_
          refine wl_val (g_move (v := .int .i64 v248) rfl) rfl ?_
          refine wl_val (g_move (v := .int .i64 v249) rfl) rfl ?_
          refine wl_step rfl (q_lit2 (y := (v248 : Int)) (y' := (v249 : Int)) SL39 rfl rfl rfl rfl (by decide) hS256) ?_
          rintro _ w258 ⟨a259, rfl, hS261, hE260⟩
          have hB263 := hB255.trans (Ext.stp hE260 hS256.base)
          have hn269 := oS.len hS261.g0
          have hS270 := hS261.oneRow
          have he268 : ers [((a259, 2, [v248, v249]) : Hd Int)] = [[v248, v249]] := rfl
          refine wl_step rfl (q_lit1 (y := ((a259, 2, [v248, v249]) : Hd Int)) SL37 rfl (hd_cells hn269) (by decide) hS270) ?_
          rintro _ w264 ⟨a265, rfl, hS267, hE266⟩
          have hB273 := hB263.trans (Ext.stp hE266 hS270.base)
          have hS280 := hS267.f2
          obtain ⟨hg281, hm⟩ := hm
          have hl282 : (y220).length + ([(a259, 2, [v248, v249])]).length ≤ 1099511627776 := by have h1 := congrArg List.length he221; have h2 := congrArg List.length he268; have h3 := hg281; simp only [ers, List.length_map, List.length_append, List.length_cons, List.length_nil, List.length_replicate, List.length_set] at h1 h2 h3 ⊢; omega
          refine wl_step rfl (q_append SL37 rfl rfl hS280 (oS.vw hS280.g1) hl282 (by decide)) ?_
          rintro _ w275 ⟨a276, c277, rfl, hS279, hb278⟩
          have hB283 := hB273.trans hb278
          have hS284 := hS279.f1
          have hS285 := hS284.tail
          have hS286 := hS285.f2
          have hS287 := hS286.f2
          have hS288 := hS287.catRows
          have he289 : ers (y220 ++ ([(a259, 2, [v248, v249])])) = (x216 ++ ([[v248, v249]])) := by rw [← he221, ← he268]; exact List.map_append
          refine wl_val (g_assign (v := .slice a276 (n218 + 1) c277) rfl) rfl ?_
          refine wl_nil ?_
          refine hK257 _ _ ?_
          refine w_region ?_
          refine wl_val (g_move (v := .slice a223 n224 c225) rfl) rfl ?_
          refine wl_val (g_move (v := .slice a1 n1 c1) rfl) rfl ?_
          refine wl_val (g_move (v := .int .i64 v226) rfl) rfl ?_
          obtain ⟨hg290, hm⟩ := hm
          refine wl_val (q_index (i := v226) SL24 rfl rfl (hp1.bel hB283) hg290) rfl ?_
          refine wl_val (g_fieldAddr (q := (adr a1).add ((Int.toNat v226) * El.m Cross)) FL56_0 ON3 rfl) rfl ?_
          refine wl_val (q_loadF (i := v226) (j := 0) (v := .int .i64 (p1[(Int.toNat v226)]!.1)) ON3 (hp1.bel hB283) hg290 rfl rfl) rfl ?_
          refine wl_step rfl (g_call (vs := #[.slice a223 n224 c225, .int .i64 (p1[(Int.toNat v226)]!.1)]) CF61 (args2 rfl rfl) (m_spec_SwapAt_fn (oS.vw hS288.g2) (p1[(Int.toNat v226)]!.1) hm)) ?_
          rintro _ w291 ⟨r294, a295, n296, c297, r299, hm, rfl, hE292, hN293⟩
          have hS300 := hS288.call1 hE292 hN293
          have hB301 := hB283.trans (Ext.stp hE292 hS288.base)
          refine wl_val (g_move (v := .tuple #[.slice a295 n296 c297, .bool r299]) rfl) rfl ?_
          refine wl_val (g_extract (vs := #[.slice a295 n296 c297, .bool r299]) rfl rfl) rfl ?_
          refine wl_val (g_extract (vs := #[.slice a295 n296 c297, .bool r299]) rfl rfl) rfl ?_
          refine wl_val (g_assign (v := .slice a295 n296 c297) rfl) rfl ?_
          refine wl_nil ?_
          refine hK240 _ _ ?_
          refine w_region ?_
          refine wl_val (g_move (v := .int .i64 v226) rfl) rfl ?_
          obtain ⟨hg302, hm⟩ := hm
          refine wl_val (g_add (a := v226) (b := 1) rfl rfl hg302) rfl ?_
          refine wl_val (g_assign (v := .int .i64 (v226 + 1)) rfl) rfl ?_
          refine wl_nil ?_
          have hS303 := hS300.f3
          have hS304 := hS303.tail
          have hS305 := hS304.f1
          have hS306 := hS305.f2
          exact ⟨((x216 ++ ([[v248, v249]])), a276, (n218 + 1), c277, (y220 ++ ([(a259, 2, [v248, v249])])), r294, a295, n296, c297, (v226 + 1)), hm.2, ⟨rfl, rfl, rfl, rfl, trivial⟩, ⟨hm.1, he289, hB301, hS306⟩⟩
      · replace hm := hm.2 h239
        refine w_exit ?_
        have hS307 := hS235.f2
        have hS308 := hS307.tail
        exact ⟨(x216, a217, n218, c219, y220), ⟨rfl, trivial⟩, ⟨hm, he221, hB234, hS308⟩⟩
    · rintro ⟨x208, a209, n210, c211, y212⟩ b_ w309 ⟨hm, he213, hB310, hS311⟩
      show Wp _ _ _ _ (upds b_ [(5, .slice a209 n210 c211)]) w309
      refine w_seq fun K312 hK312 => ?_
      refine w_region ?_
      refine wl_val (g_move (v := .slice a209 n210 c211) rfl) rfl ?_
      refine wl_val (g_assign (v := .slice a209 n210 c211) rfl) rfl ?_
      refine wl_nil ?_
      refine hK312 _ _ ?_
      refine w_ret ?_
      repeat first | with_reducible refine q_then ?_ | with_reducible refine q_block ?_
      exact ret1 rfl (by decide) ⟨_, _, _, _, _, hm, he213, rfl, toExt hB310, hS311⟩

theorem m_spec_TwistTable_fn {w : World} {a1 : Option Addr} {n1 c1 : Nat} {p1 : List Cross} {Q : (List (List Int)) → Prop} (p0 : Int) (hp1 : Vw w.heap.size w a1 n1 c1 p1) (hm : m_spec_TwistTable p0 p1 Q) :
    Fn Try.prog 39 #[.int .i64 p0, .slice a1 n1 c1] w (fun v w' => ∃ (r0 : List (List Int)) (a0 : Option Addr) (n0 c0 : Nat) (y0 : List (Hd Int)), Q r0 ∧ ers y0 = r0 ∧ v = .slice a0 n0 c0 ∧ Ext w w' ∧ Sep w' w.heap.size [oS 39 a0 n0 c0 y0, oT 3 y0]) := by
  unfold m_spec_TwistTable at hm
  have hB0 := Below.refl w.heap.size w
  have hS0 : Sep w w.heap.size [] := Sep.nil (Nat.le_refl _)
  refine fn_of_wp Try.func39 rfl (by kernel_rfl) (Nat.le_of_ble_eq_true rfl) ?_
  refine w_seq fun K1 hK1 => ?_
  refine w_region ?_
  refine wl_val (g_assign (v := .slice none 0 0) rfl) rfl ?_
  refine wl_nil ?_
  refine hK1 _ _ ?_
  refine w_seq fun K2 hK2 => ?_
  refine w_region ?_
  refine wl_step rfl (q_lit0 (α := (Hd Int)) rfl SL37 hS0) ?_
  rintro _ w3 ⟨a4, rfl, hS6, hE5⟩
  have hB8 := hB0.trans (Ext.stp hE5 hS0.base)
  have hS9 := hS6.noRows (δ := Hd Int) (E := 3)
  have he11 : ers ([] : List (Hd Int)) = ([] : List (List Int)) := rfl
  refine wl_val (g_assign (v := .slice a4 0 0) rfl) rfl ?_
  refine wl_nil ?_
  refine hK2 _ _ ?_
  refine w_seq fun K13 hK13 => ?_
  refine w_seq fun K14 hK14 => ?_
  refine w_region ?_
  refine wl_val (g_move (v := .int .i64 p0) rfl) rfl ?_
  refine wl_val (g_move (v := .slice a1 n1 c1) rfl) rfl ?_
  refine wl_step rfl (g_call (vs := #[.int .i64 p0, .slice a1 n1 c1]) CF59 (args2 rfl rfl) (m_spec_CrossesOk_fn p0 ((hp1.bel hB8).up hS9) hm)) ?_
  rintro _ w15 ⟨r18, hm, rfl, hE16⟩
  have hB19 := hB8.trans (Ext.stp hE16 hS9.base)
  have hS20 := hS9.ext hE16
  refine wl_val (g_not (a := r18) rfl) rfl ?_
  refine wl_nil ?_
  refine hK14 _ _ ?_
  refine w_condI (p := ¬ (r18 = true)) (b := (!r18)) rfl (i_not Iff.rfl) (fun h21 => ?_) (fun h21 => ?_)
  · replace hm := hm.1 h21
    refine w_seq fun K22 hK22 => ?_
    refine w_region ?_
    refine wl_val (g_move (v := .slice a4 0 0) rfl) rfl ?_
    refine wl_val (g_assign (v := .slice a4 0 0) rfl) rfl ?_
    refine wl_nil ?_
    refine hK22 _ _ ?_
    refine w_ret ?_
    have hS23 := hS20.f1
    repeat first | with_reducible refine q_then ?_ | with_reducible refine q_block ?_
    exact ret1 rfl (by decide) ⟨_, _, _, _, _, hm, he11, rfl, toExt hB19, hS23⟩
  · replace hm := hm.2 h21
    refine w_skip ?_
    refine hK13 _ _ ?_
    refine w_cut (σ := List (List Int) × Option Addr × Nat × Nat × List (Hd Int)) (fun ⟨x128, a129, n130, c131, y132⟩ => [(0, .int .i64 p0), (1, .slice a1 n1 c1), (5, .slice a129 n130 c131)]) (fun ⟨x128, a129, n130, c131, y132⟩ w' => m_spec_TwistTable_K2 p0 p1 Q x128 ∧ ers y132 = x128 ∧ Below w.heap.size w w' ∧ Sep w' w.heap.size [oS 39 a129 n130 c131 (y132 : List (Hd Int)), oT 3 (y132 : List (Hd Int))]) ?_ ?_
    · refine w_seq fun K135 hK135 => ?_
      refine w_region ?_
      refine wl_val (g_assign (v := .int .i64 0) rfl) rfl ?_
      refine wl_nil ?_
      refine hK135 _ _ ?_
      refine w_block ?_
      have hS143 := hS20.f1
      obtain ⟨I144, μ145, h0146, hr147⟩ := hm
      refine w_for (σ := List (List Int) × Option Addr × Nat × Nat × List (Hd Int) × Int) (fun ⟨x136, a137, n138, c139, y140, v142⟩ => [(0, .int .i64 p0), (1, .slice a1 n1 c1), (5, .slice a137 n138 c139), (6, .int .i64 v142)]) (fun ⟨x136, a137, n138, c139, y140, v142⟩ w' => I144 x136 v142 ∧ ers y140 = x136 ∧ Below w.heap.size w w' ∧ Sep w' w.heap.size [oS 39 a137 n138 c139 (y140 : List (Hd Int)), oT 3 (y140 : List (Hd Int))]) (fun ⟨x136, a137, n138, c139, y140, v142⟩ => μ145 x136 v142) ([], a4, 0, 0, [], 0) ⟨rfl, rfl, rfl, rfl, trivial⟩ ⟨h0146, he11, hB19, hS143⟩ ?_
      rintro ⟨x136, a137, n138, c139, y140, v142⟩ b_ w148 ⟨hi_, he141, hB149, hS150⟩
      show Wp _ _ _ _ (upds b_ [(0, .int .i64 p0), (1, .slice a1 n1 c1), (5, .slice a137 n138 c139), (6, .int .i64 v142)]) w148
      have hm := hr147 x136 v142 hi_
      refine w_seq fun K152 hK152 => ?_
      refine w_seq fun K153 hK153 => ?_
      refine w_region ?_
      refine wl_val (g_move (v := .int .i64 v142) rfl) rfl ?_
      refine wl_val (g_move (v := .int .i64 p0) rfl) rfl ?_
      refine wl_val (g_lss (a := v142) (b := p0) rfl rfl) rfl ?_
      refine wl_nil ?_
      refine hK153 _ _ ?_
      refine w_condI (p := v142 < p0) (b := (decide (v142 < p0))) rfl decide_eq_true_iff (fun h154 => ?_) (fun h154 => ?_)
      · replace hm := hm.1 h154
        refine w_skip ?_
        refine hK152 _ _ ?_
        refine w_seq fun K155 hK155 => ?_
        refine w_block ?_
        refine w_region ?_
        refine wl_val (g_move (v := .slice a137 n138 c139) rfl) rfl ?_
        refine wl_val (g_move (v := .int .i64 p0) rfl) rfl ?_
        obtain ⟨hg156, hm⟩ := hm
        refine wl_step rfl (q_make (y := (0 : Int)) SL39 rfl rfl hg156.1 hg156.2 (by decide) hS150) ?_
        rintro _ w157 ⟨a158, rfl, hS160, hE159⟩
        have hB162 := hB149.trans (Ext.stp hE159 hS150.base)
        have hn168 := oS.len hS160.g0
        have hS169 := hS160.oneRow
        have he167 : ers [((a158, (Int.toNat p0), List.replicate (Int.toNat p0) (0 : Int)) : Hd Int)] = [List.replicate (Int.toNat p0) (0 : Int)] := rfl
        refine wl_step rfl (q_lit1 (y := ((a158, (Int.toNat p0), List.replicate (Int.toNat p0) (0 : Int)) : Hd Int)) SL37 rfl (hd_cells hn168) (by decide) hS169) ?_
        rintro _ w163 ⟨a164, rfl, hS166, hE165⟩
        have hB172 := hB162.trans (Ext.stp hE165 hS169.base)
        have hS179 := hS166.f2
        obtain ⟨hg180, hm⟩ := hm
        have hl181 : (y140).length + ([(a158, (Int.toNat p0), List.replicate (Int.toNat p0) (0 : Int))]).length ≤ 1099511627776 := by have h1 := congrArg List.length he141; have h2 := congrArg List.length he167; have h3 := hg180; simp only [ers, List.length_map, List.length_append, List.length_cons, List.length_nil, List.length_replicate, List.length_set] at h1 h2 h3 ⊢; omega
        refine wl_step rfl (q_append SL37 rfl rfl hS179 (oS.vw hS179.g1) hl181 (by decide)) ?_
        rintro _ w174 ⟨a175, c176, rfl, hS178, hb177⟩
        have hB182 := hB172.trans hb177
        have hS183 := hS178.f1
        have hS184 := hS183.tail
        have hS185 := hS184.f2
        have hS186 := hS185.f2
        have hS187 := hS186.catRows
        have he188 : ers (y140 ++ ([(a158, (Int.toNat p0), List.replicate (Int.toNat p0) (0 : Int))])) = (x136 ++ ([List.replicate (Int.toNat p0) (0 : Int)])) := by rw [← he141, ← he167]; exact List.map_append
        refine wl_val (g_assign (v := .slice a175 (n138 + 1) c176) rfl) rfl ?_
        refine wl_nil ?_
        refine hK155 _ _ ?_
        refine w_region ?_
        refine wl_val (g_move (v := .int .i64 v142) rfl) rfl ?_
        obtain ⟨hg189, hm⟩ := hm
        refine wl_val (g_add (a := v142) (b := 1) rfl rfl hg189) rfl ?_
        refine wl_val (g_assign (v := .int .i64 (v142 + 1)) rfl) rfl ?_
        refine wl_nil ?_
        have hS190 := hS187.f1
        exact ⟨((x136 ++ ([List.replicate (Int.toNat p0) (0 : Int)])), a175, (n138 + 1), c176, (y140 ++ ([(a158, (Int.toNat p0), List.replicate (Int.toNat p0) (0 : Int))])), (v142 + 1)), hm.2, ⟨rfl, rfl, rfl, rfl, trivial⟩, ⟨hm.1, he188, hB182, hS190⟩⟩
      · replace hm := hm.2 h154
        refine w_exit ?_
        exact ⟨(x136, a137, n138, c139, y140), ⟨rfl, rfl, rfl, trivial⟩, ⟨hm, he141, hB149, hS150⟩⟩
    · rintro ⟨x128, a129, n130, c131, y132⟩ b_ w191 ⟨hm, he133, hB192, hS193⟩
      show Wp _ _ _ _ (upds b_ [(0, .int .i64 p0), (1, .slice a1 n1 c1), (5, .slice a129 n130 c131)]) w191
      refine w_seq fun K194 hK194 => ?_
      refine w_region ?_
      refine wl_val (g_move (v := .int .i64 p0) rfl) rfl ?_
      refine wl_val (g_move (v := .slice a1 n1 c1) rfl) rfl ?_
      refine wl_step rfl (g_call (vs := #[.int .i64 p0, .slice a1 n1 c1]) CF65 (args2 rfl rfl) (m_spec_PairsOf_fn p0 ((hp1.bel hB192).up hS193) hm)) ?_
      rintro _ w195 ⟨r198, a199, n200, c201, y202, hm, he203, rfl, hE196, hN197⟩
      have hS207 := hS193.call2 hE196 hN197
      have hB208 := hB192.trans (Ext.stp hE196 hS193.base)
      refine wl_val (g_assign (v := .slice a199 n200 c201) rfl) rfl ?_
      refine wl_nil ?_
      refine hK194 _ _ ?_
      refine w_cut (σ := List (List Int) × List (Hd Int)) (fun ⟨x965, y966⟩ => [(5, .slice a129 n130 c131)]) (fun ⟨x965, y966⟩ w' => m_spec_TwistTable_K1 Q x965 ∧ ers y966 = x965 ∧ Below w.heap.size w w' ∧ Sep w' w.heap.size [oS 39 a129 n130 c131 (y966 : List (Hd Int)), oT 3 (y966 : List (Hd Int))]) ?_ ?_
      · refine w_seq fun K969 hK969 => ?_
        refine w_region ?_
        refine wl_val (g_assign (v := .int .i64 0) rfl) rfl ?_
        refine wl_nil ?_
        refine hK969 _ _ ?_
        refine w_block ?_
        have hS974 := hS207.f1
        have hS975 := hS974.f1
        have hS976 := hS975.f3
        have hS977 := hS976.f3
        obtain ⟨I978, μ979, h0980, hr981⟩ := hm
        refine w_for (σ := List (List Int) × List (Hd Int) × Int) (fun ⟨x970, y971, v973⟩ => [(1, .slice a1 n1 c1), (5, .slice a129 n130 c131), (7, .slice a199 n200 c201), (8, .int .i64 v973)]) (fun ⟨x970, y971, v973⟩ w' => I978 x970 v973 ∧ ers y971 = x970 ∧ Below w.heap.size w w' ∧ Sep w' w.heap.size [oS 39 a129 n130 c131 (y971 : List (Hd Int)), oT 3 (y971 : List (Hd Int)), oS 39 a199 n200 c201 (y202 : List (Hd Int)), oT 3 (y202 : List (Hd Int))]) (fun ⟨x970, y971, v973⟩ => μ979 x970 v973) (x128, y132, 0) ⟨rfl, rfl, rfl, rfl, trivial⟩ ⟨h0980, he133, hB208, hS977⟩ ?_
        rintro ⟨x970, y971, v973⟩ b_ w982 ⟨hi_, he972, hB983, hS984⟩
        show Wp _ _ _ _ (upds b_ [(1, .slice a1 n1 c1), (5, .slice a129 n130 c131), (7, .slice a199 n200 c201), (8, .int .i64 v973)]) w982
        have hm := hr981 x970 v973 hi_
        refine w_seq fun K986 hK986 => ?_
        refine w_seq fun K987 hK987 => ?_
        refine w_region ?_
        refine wl_val (g_move (v := .int .i64 v973) rfl) rfl ?_
        refine wl_val (g_move (v := .slice a199 n200 c201) rfl) rfl ?_
        refine wl_val (q_len SL37 rfl (Tv.len (oT.vw hS984.g2 hS984.g3 he203))) rfl ?_
        refine wl_val (g_lss (a := v973) (b := (r198.length : Int)) rfl rfl) rfl ?_
        refine wl_nil ?_
        refine hK987 _ _ ?_
        refine w_condI (p := v973 < (r198.length : Int)) (b := (decide (v973 < (r198.length : Int)))) rfl decide_eq_true_iff (fun h988 => ?_) (fun h988 => ?_)
        · replace hm := hm.1 h988
          refine w_skip ?_
          refine hK986 _ _ ?_
          refine w_seq fun K989 hK989 => ?_
          refine w_block ?_
          refine w_seq fun K990 hK990 => ?_
          refine w_region ?_
          refine wl_val (g_assign (v := .int .i64 (-1)) rfl) rfl ?_
          refine wl_nil ?_
          refine hK990 _ _ ?_
          refine w_cut (σ := Int) (fun v991 => [(1, .slice a1 n1 c1), (5, .slice a129 n130 c131), (7, .slice a199 n200 c201), (8, .int .i64 v973), (9, .int .i64 v991)]) (fun v991 w' => m_spec_TwistTable_K0 r198 x970 v973 (fun x970' v973' => I978 x970' v973' ∧ μ979 x970' v973' < μ979 x970 v973) v991 ∧ Below w.heap.size w w' ∧ Sep w' w.heap.size [oS 39 a129 n130 c131 (y971 : List (Hd Int)), oT 3 (y971 : List (Hd Int)), oS 39 a199 n200 c201 (y202 : List (Hd Int)), oT 3 (y202 : List (Hd Int))]) ?_ ?_
          · refine w_seq fun K993 hK993 => ?_
            refine w_region ?_
            refine wl_val (g_move (v := .slice a1 n1 c1) rfl) rfl ?_
            refine wl_val (g_move (v := .int .i64 v973) rfl) rfl ?_
            obtain ⟨hg994, hm⟩ := hm
            refine wl_val (q_index (i := v973) SL24 rfl rfl (hp1.bel hB983) hg994) rfl ?_
            refine wl_val (g_fieldAddr (q := (adr a1).add ((Int.toNat v973) * El.m Cross)) FL56_1 ON4 rfl) rfl ?_
            refine wl_val (q_loadF (i := v973) (j := 1) (v := .bool (p1[(Int.toNat v973)]!.2)) ON4 (hp1.bel hB983) hg994 rfl rfl) rfl ?_
            refine wl_nil ?_
            refine hK993 _ _ ?_
            refine w_condI (p := (p1[(Int.toNat v973)]!.2) = true) (b := (p1[(Int.toNat v973)]!.2)) rfl Iff.rfl (fun h995 => ?_) (fun h995 => ?_)
            · replace hm := hm.1 h995
              refine w_region ?_
              refine wl_val (g_assign (v := .int .i64 1) rfl) rfl ?_
              refine wl_nil ?_
              exact ⟨(1), ⟨rfl, rfl, rfl, rfl, rfl, trivial⟩, ⟨hm, hB983, hS984⟩⟩
            · replace hm := hm.2 h995
              refine w_skip ?_
              exact ⟨((-1)), ⟨rfl, rfl, rfl, rfl, rfl, trivial⟩, ⟨hm, hB983, hS984⟩⟩
          · rintro v991 b_ w996 ⟨hm, hB997, hS998⟩
            show Wp _ _ _ _ (upds b_ [(1, .slice a1 n1 c1), (5, .slice a129 n130 c131), (7, .slice a199 n200 c201), (8, .int .i64 v973), (9, .int .i64 v991)]) w996
            refine w_seq fun K999 hK999 => ?_
            refine w_draw (X := Ext) (Y := Ext) [0, 0, 0, 0, 0, 0, 0, 0, 0, 0, 0, 0, 0, 0, 0, 0, 0, 0, 0, 0, 0, 0, 0, 0, 0, 0, 0, 0, 0, 0, 0, 0, 0, 0, 0, 1] MIX (by decide +kernel) rfl Ext.refl (fun _ _ _ => Ext.trans) (fun _ _ _ => Chg.trans) (fun _ _ h => Ext.chg h _) (fun w1000 hE1001 => ?_)
            have hB1002 := hB997.trans (Ext.stp hE1001 hS998.base)
            have hS1003 := hS998.ext hE1001
            refine ⟨.slice a129 n130 c131, fun w1004 hX1005 => od_plain rfl (by have hS1006 := hS1003.ext hX1005; have hB1007 := hB1002.trans (Ext.stp hX1005 hS1003.base); exact is_ext (g_move (v := .slice a129 n130 c131) rfl)), ?_⟩
            refine ⟨.slice a199 n200 c201, fun w1008 hX1009 => od_plain rfl (by have hS1010 := hS1003.ext hX1009; have hB1011 := hB1002.trans (Ext.stp hX1009 hS1003.base); exact is_ext (g_move (v := .slice a199 n200 c201) rfl)), ?_⟩
            refine ⟨.int .i64 v973, fun w1012 hX1013 => od_plain rfl (by have hS1014 := hS1003.ext hX1013; have hB1015 := hB1002.trans (Ext.stp hX1013 hS1003.base); exact is_ext (g_move (v := .int .i64 v973) rfl)), ?_⟩
            obtain ⟨hg1020, hm⟩ := hm
            refine ⟨.pointer (some ((adr a199).add ((Int.toNat v973) * El.m (Hd Int)))), fun w1016 hX1017 => od_plain rfl (by have hS1018 := hS1003.ext hX1017; have hB1019 := hB1002.trans (Ext.stp hX1017 hS1003.base); exact is_ext (q_index (i := v973) SL37 rfl rfl (Tv.o (oT.vw hS1018.g2 hS1018.g3 he203)) (Tv.g (oT.vw hS1018.g2 hS1018.g3 he203) hg1020))), ?_⟩
            refine ⟨.slice ((y202[(Int.toNat v973)]!).1) ((y202[(Int.toNat v973)]!).2.2.length) ((y202[(Int.toNat v973)]!).2.1), fun w1021 hX1022 => od_plain rfl (by have hS1023 := hS1003.ext hX1022; have hB1024 := hB1002.trans (Ext.stp hX1022 hS1003.base); exact is_ext (q_load (i := v973) (v := .slice ((y202[(Int.toNat v973)]!).1) ((y202[(Int.toNat v973)]!).2.2.length) ((y202[(Int.toNat v973)]!).2.1)) ON39 (Tv.o (oT.vw hS1023.g2 hS1023.g3 he203)) (Tv.g (oT.vw hS1023.g2 hS1023.g3 he203) hg1020) rfl rfl)), ?_⟩
            obtain ⟨hg1029, hm⟩ := hm
            refine ⟨.pointer (some ((adr ((y202[(Int.toNat v973)]!).1)).add (0 * El.m Int))), fun w1025 hX1026 => od_plain rfl (by have hS1027 := hS1003.ext hX1026; have hB1028 := hB1002.trans (Ext.stp hX1026 hS1003.base); exact is_ext (q_index (i := 0) SL39 rfl rfl (Tv.row (oT.vw hS1027.g2 hS1027.g3 he203) hg1020) hg1029)), ?_⟩
            refine ⟨.int .i64 ((r198[(Int.toNat v973)]!)[0]!), fun w1030 hX1031 => od_plain rfl (by have hS1032 := hS1003.ext hX1031; have hB1033 := hB1002.trans (Ext.stp hX1031 hS1003.base); exact is_ext (q_load (i := 0) (v := .int .i64 ((r198[(Int.toNat v973)]!)[0]!)) ON3 (Tv.row (oT.vw hS1032.g2 hS1032.g3 he203) hg1020) hg1029 rfl rfl)), ?_⟩
            obtain ⟨hg1038, hm⟩ := hm
            refine ⟨.pointer (some ((adr a129).add ((Int.toNat ((r198[(Int.toNat v973)]!)[0]!)) * El.m (Hd Int)))), fun w1034 hX1035 => od_plain rfl (by have hS1036 := hS1003.ext hX1035; have hB1037 := hB1002.trans (Ext.stp hX1035 hS1003.base); exact is_ext (q_index (i := (r198[(Int.toNat v973)]!)[0]!) SL37 rfl rfl (Tv.o (oT.vw hS1036.g0 hS1036.g1 he972)) (Tv.g (oT.vw hS1036.g0 hS1036.g1 he972) hg1038))), ?_⟩
            refine ⟨.slice ((y971[(Int.toNat ((r198[(Int.toNat v973)]!)[0]!))]!).1) ((y971[(Int.toNat ((r198[(Int.toNat v973)]!)[0]!))]!).2.2.length) ((y971[(Int.toNat ((r198[(Int.toNat v973)]!)[0]!))]!).2.1), fun w1039 hX1040 => od_plain rfl (by have hS1041 := hS1003.ext hX1040; have hB1042 := hB1002.trans (Ext.stp hX1040 hS1003.base); exact is_ext (q_load (i := (r198[(Int.toNat v973)]!)[0]!) (v := .slice ((y971[(Int.toNat ((r198[(Int.toNat v973)]!)[0]!))]!).1) ((y971[(Int.toNat ((r198[(Int.toNat v973)]!)[0]!))]!).2.2.length) ((y971[(Int.toNat ((r198[(Int.toNat v973)]!)[0]!))]!).2.1)) ON39 (Tv.o (oT.vw hS1041.g0 hS1041.g1 he972)) (Tv.g (oT.vw hS1041.g0 hS1041.g1 he972) hg1038) rfl rfl)), ?_⟩
            refine ⟨.slice a199 n200 c201, fun w1043 hX1044 => od_plain rfl (by have hS1045 := hS1003.ext hX1044; have hB1046 := hB1002.trans (Ext.stp hX1044 hS1003.base); exact is_ext (g_move (v := .slice a199 n200 c201) rfl)), ?_⟩
            refine ⟨.int .i64 v973, fun w1047 hX1048 => od_plain rfl (by have hS1049 := hS1003.ext hX1048; have hB1050 := hB1002.trans (Ext.stp hX1048 hS1003.base); exact is_ext (g_move (v := .int .i64 v973) rfl)), ?_⟩
            obtain ⟨hg1055, hm⟩ := hm
            refine ⟨.pointer (some ((adr a199).add ((Int.toNat v973) * El.m (Hd Int)))), fun w1051 hX1052 => od_plain rfl (by have hS1053 := hS1003.ext hX1052; have hB1054 := hB1002.trans (Ext.stp hX1052 hS1003.base); exact is_ext (q_index (i := v973) SL37 rfl rfl (Tv.o (oT.vw hS1053.g2 hS1053.g3 he203)) (Tv.g (oT.vw hS1053.g2 hS1053.g3 he203) hg1055))), ?_⟩
            refine ⟨.slice ((y202[(Int.toNat v973)]!).1) ((y202[(Int.toNat v973)]!).2.2.length) ((y202[(Int.toNat v973)]!).2.1), fun w1056 hX1057 => od_plain rfl (by have hS1058 := hS1003.ext hX1057; have hB1059 := hB1002.trans (Ext.stp hX1057 hS1003.base); exact is_ext (q_load (i := v973) (v := .slice ((y202[(Int.toNat v973)]!).1) ((y202[(Int.toNat v973)]!).2.2.length) ((y202[(Int.toNat v973)]!).2.1)) ON39 (Tv.o (oT.vw hS1058.g2 hS1058.g3 he203)) (Tv.g (oT.vw hS1058.g2 hS1058.g3 he203) hg1055) rfl rfl)), ?_⟩
            obtain ⟨hg1064, hm⟩ := hm
            refine ⟨.pointer (some ((adr ((y202[(Int.toNat v973)]!).1)).add (1 * El.m Int))), fun w1060 hX1061 => od_plain rfl (by have hS1062 := hS1003.ext hX1061; have hB1063 := hB1002.trans (Ext.stp hX1061 hS1003.base); exact is_ext (q_index (i := 1) SL39 rfl rfl (Tv.row (oT.vw hS1062.g2 hS1062.g3 he203) hg1055) hg1064)), ?_⟩
            refine ⟨.int .i64 ((r198[(Int.toNat v973)]!)[1]!), fun w1065 hX1066 => od_plain rfl (by have hS1067 := hS1003.ext hX1066; have hB1068 := hB1002.trans (Ext.stp hX1066 hS1003.base); exact is_ext (q_load (i := 1) (v := .int .i64 ((r198[(Int.toNat v973)]!)[1]!)) ON3 (Tv.row (oT.vw hS1067.g2 hS1067.g3 he203) hg1055) hg1064 rfl rfl)), ?_⟩
            refine ⟨.slice a129 n130 c131, fun w1069 hX1070 => od_plain rfl (by have hS1071 := hS1003.ext hX1070; have hB1072 := hB1002.trans (Ext.stp hX1070 hS1003.base); exact is_ext (g_move (v := .slice a129 n130 c131) rfl)), ?_⟩
            refine ⟨.slice a199 n200 c201, fun w1073 hX1074 => od_plain rfl (by have hS1075 := hS1003.ext hX1074; have hB1076 := hB1002.trans (Ext.stp hX1074 hS1003.base); exact is_ext (g_move (v := .slice a199 n200 c201) rfl)), ?_⟩
            refine ⟨.int .i64 v973, fun w1077 hX1078 => od_plain rfl (by have hS1079 := hS1003.ext hX1078; have hB1080 := hB1002.trans (Ext.stp hX1078 hS1003.base); exact is_ext (g_move (v := .int .i64 v973) rfl)), ?_⟩
            obtain ⟨hg1085, hm⟩ := hm
            refine ⟨.pointer (some ((adr a199).add ((Int.toNat v973) * El.m (Hd Int)))), fun w1081 hX1082 => od_plain rfl (by have hS1083 := hS1003.ext hX1082; have hB1084 := hB1002.trans (Ext.stp hX1082 hS1003.base); exact is_ext (q_index (i := v973) SL37 rfl rfl (Tv.o (oT.vw hS1083.g2 hS1083.g3 he203)) (Tv.g (oT.vw hS1083.g2 hS1083.g3 he203) hg1085))), ?_⟩
            refine ⟨.slice ((y202[(Int.toNat v973)]!).1) ((y202[(Int.toNat v973)]!).2.2.length) ((y202[(Int.toNat v973)]!).2.1), fun w1086 hX1087 => od_plain rfl (by have hS1088 := hS1003.ext hX1087; have hB1089 := hB1002.trans (Ext.stp hX1087 hS1003.base); exact is_ext (q_load (i := v973) (v := .slice ((y202[(Int.toNat v973)]!).1) ((y202[(Int.toNat v973)]!).2.2.length) ((y202[(Int.toNat v973)]!).2.1)) ON39 (Tv.o (oT.vw hS1088.g2 hS1088.g3 he203)) (Tv.g (oT.vw hS1088.g2 hS1088.g3 he203) hg1085) rfl rfl)), ?_⟩
            obtain ⟨hg1094, hm⟩ := hm
            refine ⟨.pointer (some ((adr ((y202[(Int.toNat v973)]!).1)).add (0 * El.m Int))), fun w1090 hX1091 => od_plain rfl (by have hS1092 := hS1003.ext hX1091; have hB1093 := hB1002.trans (Ext.stp hX1091 hS1003.base); exact is_ext (q_index (i := 0) SL39 rfl rfl (Tv.row (oT.vw hS1092.g2 hS1092.g3 he203) hg1085) hg1094)), ?_⟩
            refine ⟨.int .i64 ((r198[(Int.toNat v973)]!)[0]!), fun w1095 hX1096 => od_plain rfl (by have hS1097 := hS1003.ext hX1096; have hB1098 := hB1002.trans (Ext.stp hX1096 hS1003.base); exact is_ext (q_load (i := 0) (v := .int .i64 ((r198[(Int.toNat v973)]!)[0]!)) ON3 (Tv.row (oT.vw hS1097.g2 hS1097.g3 he203) hg1085) hg1094 rfl rfl)), ?_⟩
            obtain ⟨hg1103, hm⟩ := hm
            refine ⟨.pointer (some ((adr a129).add ((Int.toNat ((r198[(Int.toNat v973)]!)[0]!)) * El.m (Hd Int)))), fun w1099 hX1100 => od_plain rfl (by have hS1101 := hS1003.ext hX1100; have hB1102 := hB1002.trans (Ext.stp hX1100 hS1003.base); exact is_ext (q_index (i := (r198[(Int.toNat v973)]!)[0]!) SL37 rfl rfl (Tv.o (oT.vw hS1101.g0 hS1101.g1 he972)) (Tv.g (oT.vw hS1101.g0 hS1101.g1 he972) hg1103))), ?_⟩
            refine ⟨.slice ((y971[(Int.toNat ((r198[(Int.toNat v973)]!)[0]!))]!).1) ((y971[(Int.toNat ((r198[(Int.toNat v973)]!)[0]!))]!).2.2.length) ((y971[(Int.toNat ((r198[(Int.toNat v973)]!)[0]!))]!).2.1), fun w1104 hX1105 => od_plain rfl (by have hS1106 := hS1003.ext hX1105; have hB1107 := hB1002.trans (Ext.stp hX1105 hS1003.base); exact is_ext (q_load (i := (r198[(Int.toNat v973)]!)[0]!) (v := .slice ((y971[(Int.toNat ((r198[(Int.toNat v973)]!)[0]!))]!).1) ((y971[(Int.toNat ((r198[(Int.toNat v973)]!)[0]!))]!).2.2.length) ((y971[(Int.toNat ((r198[(Int.toNat v973)]!)[0]!))]!).2.1)) ON39 (Tv.o (oT.vw hS1106.g0 hS1106.g1 he972)) (Tv.g (oT.vw hS1106.g0 hS1106.g1 he972) hg1103) rfl rfl)), ?_⟩
            refine ⟨.slice a199 n200 c201, fun w1108 hX1109 => od_plain rfl (by have hS1110 := hS1003.ext hX1109; have hB1111 := hB1002.trans (Ext.stp hX1109 hS1003.base); exact is_ext (g_move (v := .slice a199 n200 c201) rfl)), ?_⟩
            refine ⟨.int .i64 v973, fun w1112 hX1113 => od_plain rfl (by have hS1114 := hS1003.ext hX1113; have hB1115 := hB1002.trans (Ext.stp hX1113 hS1003.base); exact is_ext (g_move (v := .int .i64 v973) rfl)), ?_⟩
            obtain ⟨hg1120, hm⟩ := hm
            refine ⟨.pointer (some ((adr a199).add ((Int.toNat v973) * El.m (Hd Int)))), fun w1116 hX1117 => od_plain rfl (by have hS1118 := hS1003.ext hX1117; have hB1119 := hB1002.trans (Ext.stp hX1117 hS1003.base); exact is_ext (q_index (i := v973) SL37 rfl rfl (Tv.o (oT.vw hS1118.g2 hS1118.g3 he203)) (Tv.g (oT.vw hS1118.g2 hS1118.g3 he203) hg1120))), ?_⟩
            refine ⟨.slice ((y202[(Int.toNat v973)]!).1) ((y202[(Int.toNat v973)]!).2.2.length) ((y202[(Int.toNat v973)]!).2.1), fun w1121 hX1122 => od_plain rfl (by have hS1123 := hS1003.ext hX1122; have hB1124 := hB1002.trans (Ext.stp hX1122 hS1003.base); exact is_ext (q_load (i := v973) (v := .slice ((y202[(Int.toNat v973)]!).1) ((y202[(Int.toNat v973)]!).2.2.length) ((y202[(Int.toNat v973)]!).2.1)) ON39 (Tv.o (oT.vw hS1123.g2 hS1123.g3 he203)) (Tv.g (oT.vw hS1123.g2 hS1123.g3 he203) hg1120) rfl rfl)), ?_⟩
            obtain ⟨hg1129, hm⟩ := hm
            refine ⟨.pointer (some ((adr ((y202[(Int.toNat v973)]!).1)).add (1 * El.m Int))), fun w1125 hX1126 => od_plain rfl (by have hS1127 := hS1003.ext hX1126; have hB1128 := hB1002.trans (Ext.stp hX1126 hS1003.base); exact is_ext (q_index (i := 1) SL39 rfl rfl (Tv.row (oT.vw hS1127.g2 hS1127.g3 he203) hg1120) hg1129)), ?_⟩
            refine ⟨.int .i64 ((r198[(Int.toNat v973)]!)[1]!), fun w1130 hX1131 => od_plain rfl (by have hS1132 := hS1003.ext hX1131; have hB1133 := hB1002.trans (Ext.stp hX1131 hS1003.base); exact is_ext (q_load (i := 1) (v := .int .i64 ((r198[(Int.toNat v973)]!)[1]!)) ON3 (Tv.row (oT.vw hS1132.g2 hS1132.g3 he203) hg1120) hg1129 rfl rfl)), ?_⟩
            obtain ⟨hg1138, hm⟩ := hm
            refine ⟨.pointer (some ((adr ((y971[(Int.toNat ((r198[(Int.toNat v973)]!)[0]!))]!).1)).add ((Int.toNat ((r198[(Int.toNat v973)]!)[1]!)) * El.m Int))), fun w1134 hX1135 => od_plain rfl (by have hS1136 := hS1003.ext hX1135; have hB1137 := hB1002.trans (Ext.stp hX1135 hS1003.base); exact is_ext (q_index (i := (r198[(Int.toNat v973)]!)[1]!) SL39 rfl rfl (Tv.row (oT.vw hS1136.g0 hS1136.g1 he972) hg1103) hg1138)), ?_⟩
            refine ⟨.int .i64 ((x970[(Int.toNat ((r198[(Int.toNat v973)]!)[0]!))]!)[(Int.toNat ((r198[(Int.toNat v973)]!)[1]!))]!), fun w1139 hX1140 => od_plain rfl (by have hS1141 := hS1003.ext hX1140; have hB1142 := hB1002.trans (Ext.stp hX1140 hS1003.base); exact is_ext (q_load (i := (r198[(Int.toNat v973)]!)[1]!) (v := .int .i64 ((x970[(Int.toNat ((r198[(Int.toNat v973)]!)[0]!))]!)[(Int.toNat ((r198[(Int.toNat v973)]!)[1]!))]!)) ON3 (Tv.row (oT.vw hS1141.g0 hS1141.g1 he972) hg1103) hg1138 rfl rfl)), ?_⟩
            refine ⟨.int .i64 v991, fun w1143 hX1144 => od_plain rfl (by have hS1145 := hS1003.ext hX1144; have hB1146 := hB1002.trans (Ext.stp hX1144 hS1003.base); exact is_ext (g_move (v := .int .i64 v991) rfl)), ?_⟩
            obtain ⟨hg1151, hm⟩ := hm
            refine ⟨.int .i64 ((x970[(Int.toNat ((r198[(Int.toNat v973)]!)[0]!))]!)[(Int.toNat ((r198[(Int.toNat v973)]!)[1]!))]! + v991), fun w1147 hX1148 => od_plain rfl (by have hS1149 := hS1003.ext hX1148; have hB1150 := hB1002.trans (Ext.stp hX1148 hS1003.base); exact is_ext (g_add (a := (x970[(Int.toNat ((r198[(Int.toNat v973)]!)[0]!))]!)[(Int.toNat ((r198[(Int.toNat v973)]!)[1]!))]!) (b := v991) rfl rfl hg1151)), ?_⟩
            obtain ⟨hg1156, hm⟩ := hm
            refine ⟨.pointer (some ((adr ((y971[(Int.toNat ((r198[(Int.toNat v973)]!)[0]!))]!).1)).add ((Int.toNat ((r198[(Int.toNat v973)]!)[1]!)) * El.m Int))), fun w1152 hX1153 => od_plain rfl (by have hS1154 := hS1003.ext hX1153; have hB1155 := hB1002.trans (Ext.stp hX1153 hS1003.base); exact is_ext (q_index (i := (r198[(Int.toNat v973)]!)[1]!) SL39 rfl rfl (Tv.row (oT.vw hS1154.g0 hS1154.g1 he972) hg1038) hg1156)), ?_⟩
            intro w1157 hX1158
            have hB1159 := hB1002.trans (Ext.stp hX1158 hS1003.base)
            have hS1160 := hS1003.ext hX1158
            have hS1164 := hS1160.f1
            have hS1165 := hS1164.f1
            refine ⟨_, od_plain rfl (q_row (i := (r198[(Int.toNat v973)]!)[0]!) (k := (r198[(Int.toNat v973)]!)[1]!) (v := (((x970[(Int.toNat ((r198[(Int.toNat v973)]!)[0]!))]!)[(Int.toNat ((r198[(Int.toNat v973)]!)[1]!))]! + v991) : Int)) hS1165 he972 hg1038 hg1156 ON3.sz rfl rfl rfl), ?_⟩
            rintro _ w1161 ⟨rfl, y1166, he1167, hS1162, hb1163⟩
            have hB1168 := hB1159.trans hb1163
            intro w1169 hX1170
            have hB1171 := hB1168.trans (Ext.stp hX1170 hS1162.base)
            have hS1172 := hS1162.ext hX1170
            refine hK999 _ _ ?_
            refine w_draw (X := Ext) (Y := Ext) [0, 0, 0, 0, 0, 0, 0, 0, 0, 0, 0, 0, 0, 0, 0, 0, 0, 0, 0, 0, 0, 0, 0, 0, 0, 0, 0, 0, 0, 0, 0, 0, 0, 0, 0, 1] MIX (by decide +kernel) rfl Ext.refl (fun _ _ _ => Ext.trans) (fun _ _ _ => Chg.trans) (fun _ _ h => Ext.chg h _) (fun w1173 hE1174 => ?_)
            have hB1175 := hB1171.trans (Ext.stp hE1174 hS1172.base)
            have hS1176 := hS1172.ext hE1174
            refine ⟨.slice a129 n130 c131, fun w1177 hX1178 => od_plain rfl (by have hS1179 := hS1176.ext hX1178; have hB1180 := hB1175.trans (Ext.stp hX1178 hS1176.base); exact is_ext (g_move (v := .slice a129 n130 c131) rfl)), ?_⟩
            refine ⟨.slice a199 n200 c201, fun w1181 hX1182 => od_plain rfl (by have hS1183 := hS1176.ext hX1182; have hB1184 := hB1175.trans (Ext.stp hX1182 hS1176.base); exact is_ext (g_move (v := .slice a199 n200 c201) rfl)), ?_⟩
            refine ⟨.int .i64 v973, fun w1185 hX1186 => od_plain rfl (by have hS1187 := hS1176.ext hX1186; have hB1188 := hB1175.trans (Ext.stp hX1186 hS1176.base); exact is_ext (g_move (v := .int .i64 v973) rfl)), ?_⟩
            obtain ⟨hg1193, hm⟩ := hm
            refine ⟨.pointer (some ((adr a199).add ((Int.toNat v973) * El.m (Hd Int)))), fun w1189 hX1190 => od_plain rfl (by have hS1191 := hS1176.ext hX1190; have hB1192 := hB1175.trans (Ext.stp hX1190 hS1176.base); exact is_ext (q_index (i := v973) SL37 rfl rfl (Tv.o (oT.vw hS1191.g2 hS1191.g3 he203)) (Tv.g (oT.vw hS1191.g2 hS1191.g3 he203) hg1193))), ?_⟩
            refine ⟨.slice ((y202[(Int.toNat v973)]!).1) ((y202[(Int.toNat v973)]!).2.2.length) ((y202[(Int.toNat v973)]!).2.1), fun w1194 hX1195 => od_plain rfl (by have hS1196 := hS1176.ext hX1195; have hB1197 := hB1175.trans (Ext.stp hX1195 hS1176.base); exact is_ext (q_load (i := v973) (v := .slice ((y202[(Int.toNat v973)]!).1) ((y202[(Int.toNat v973)]!).2.2.length) ((y202[(Int.toNat v973)]!).2.1)) ON39 (Tv.o (oT.vw hS1196.g2 hS1196.g3 he203)) (Tv.g (oT.vw hS1196.g2 hS1196.g3 he203) hg1193) rfl rfl)), ?_⟩
            obtain ⟨hg1202, hm⟩ := hm
            refine ⟨.pointer (some ((adr ((y202[(Int.toNat v973)]!).1)).add (1 * El.m Int))), fun w1198 hX1199 => od_plain rfl (by have hS1200 := hS1176.ext hX1199; have hB1201 := hB1175.trans (Ext.stp hX1199 hS1176.base); exact is_ext (q_index (i := 1) SL39 rfl rfl (Tv.row (oT.vw hS1200.g2 hS1200.g3 he203) hg1193) hg1202)), ?_⟩
            refine ⟨.int .i64 ((r198[(Int.toNat v973)]!)[1]!), fun w1203 hX1204 => od_plain rfl (by have hS1205 := hS1176.ext hX1204; have hB1206 := hB1175.trans (Ext.stp hX1204 hS1176.base); exact is_ext (q_load (i := 1) (v := .int .i64 ((r198[(Int.toNat v973)]!)[1]!)) ON3 (Tv.row (oT.vw hS1205.g2 hS1205.g3 he203) hg1193) hg1202 rfl rfl)), ?_⟩
            obtain ⟨hg1211, hm⟩ := hm
            refine ⟨.pointer (some ((adr a129).add ((Int.toNat ((r198[(Int.toNat v973)]!)[1]!)) * El.m (Hd Int)))), fun w1207 hX1208 => od_plain rfl (by have hS1209 := hS1176.ext hX1208; have hB1210 := hB1175.trans (Ext.stp hX1208 hS1176.base); exact is_ext (q_index (i := (r198[(Int.toNat v973)]!)[1]!) SL37 rfl rfl (Tv.o (oT.vw hS1209.g0 hS1209.g1 he1167)) (Tv.g (oT.vw hS1209.g0 hS1209.g1 he1167) hg1211))), ?_⟩
            refine ⟨.slice ((y1166[(Int.toNat ((r198[(Int.toNat v973)]!)[1]!))]!).1) ((y1166[(Int.toNat ((r198[(Int.toNat v973)]!)[1]!))]!).2.2.length) ((y1166[(Int.toNat ((r198[(Int.toNat v973)]!)[1]!))]!).2.1), fun w1212 hX1213 => od_plain rfl (by have hS1214 := hS1176.ext hX1213; have hB1215 := hB1175.trans (Ext.stp hX1213 hS1176.base); exact is_ext (q_load (i := (r198[(Int.toNat v973)]!)[1]!) (v := .slice ((y1166[(Int.toNat ((r198[(Int.toNat v973)]!)[1]!))]!).1) ((y1166[(Int.toNat ((r198[(Int.toNat v973)]!)[1]!))]!).2.2.length) ((y1166[(Int.toNat ((r198[(Int.toNat v973)]!)[1]!))]!).2.1)) ON39 (Tv.o (oT.vw hS1214.g0 hS1214.g1 he1167)) (Tv.g (oT.vw hS1214.g0 hS1214.g1 he1167) hg1211) rfl rfl)), ?_⟩
            refine ⟨.slice a199 n200 c201, fun w1216 hX1217 => od_plain rfl (by have hS1218 := hS1176.ext hX1217; have hB1219 := hB1175.trans (Ext.stp hX1217 hS1176.base); exact is_ext (g_move (v := .slice a199 n200 c201) rfl)), ?_⟩
            refine ⟨.int .i64 v973, fun w1220 hX1221 => od_plain rfl (by have hS1222 := hS1176.ext hX1221; have hB1223 := hB1175.trans (Ext.stp hX1221 hS1176.base); exact is_ext (g_move (v := .int .i64 v973) rfl)), ?_⟩
            obtain ⟨hg1228, hm⟩ := hm
            refine ⟨.pointer (some ((adr a199).add ((Int.toNat v973) * El.m (Hd Int)))), fun w1224 hX1225 => od_plain rfl (by have hS1226 := hS1176.ext hX1225; have hB1227 := hB1175.trans (Ext.stp hX1225 hS1176.base); exact is_ext (q_index (i := v973) SL37 rfl rfl (Tv.o (oT.vw hS1226.g2 hS1226.g3 he203)) (Tv.g (oT.vw hS1226.g2 hS1226.g3 he203) hg1228))), ?_⟩
            refine ⟨.slice ((y202[(Int.toNat v973)]!).1) ((y202[(Int.toNat v973)]!).2.2.length) ((y202[(Int.toNat v973)]!).2.1), fun w1229 hX1230 => od_plain rfl (by have hS1231 := hS1176.ext hX1230; have hB1232 := hB1175.trans (Ext.stp hX1230 hS1176.base); exact is_ext (q_load (i := v973) (v := .slice ((y202[(Int.toNat v973)]!).1) ((y202[(Int.toNat v973)]!).2.2.length) ((y202[(Int.toNat v973)]!).2.1)) ON39 (Tv.o (oT.vw hS1231.g2 hS1231.g3 he203)) (Tv.g (oT.vw hS1231.g2 hS1231.g3 he203) hg1228) rfl rfl)), ?_⟩
            obtain ⟨hg1237, hm⟩ := hm
            refine ⟨.pointer (some ((adr ((y202[(Int.toNat v973)]!).1)).add (0 * El.m Int))), fun w1233 hX1234 => od_plain rfl (by have hS1235 := hS1176.ext hX1234; have hB1236 := hB1175.trans (Ext.stp hX1234 hS1176.base); exact is_ext (q_index (i := 0) SL39 rfl rfl (Tv.row (oT.vw hS1235.g2 hS1235.g3 he203) hg1228) hg1237)), ?_⟩
            refine ⟨.int .i64 ((r198[(Int.toNat v973)]!)[0]!), fun w1238 hX1239 => od_plain rfl (by have hS1240 := hS1176.ext hX1239; have hB1241 := hB1175.trans (Ext.stp hX1239 hS1176.base); exact is_ext (q_load (i := 0) (v := .int .i64 ((r198[(Int.toNat v973)]!)[0]!)) ON3 (Tv.row (oT.vw hS1240.g2 hS1240.g3 he203) hg1228) hg1237 rfl rfl)), ?_⟩
            refine ⟨.slice a129 n130 c131, fun w1242 hX1243 => od_plain rfl (by have hS1244 := hS1176.ext hX1243; have hB1245 := hB1175.trans (Ext.stp hX1243 hS1176.base); exact is_ext (g_move (v := .slice a129 n130 c131) rfl)), ?_⟩
            refine ⟨.slice a199 n200 c201, fun w1246 hX1247 => od_plain rfl (by have hS1248 := hS1176.ext hX1247; have hB1249 := hB1175.trans (Ext.stp hX1247 hS1176.base); exact is_ext (g_move (v := .slice a199 n200 c201) rfl)), ?_⟩
            refine ⟨.int .i64 v973, fun w1250 hX1251 => od_plain rfl (by have hS1252 := hS1176.ext hX1251; have hB1253 := hB1175.trans (Ext.stp hX1251 hS1176.base); exact is_ext (g_move (v := .int .i64 v973) rfl)), ?_⟩
            obtain ⟨hg1258, hm⟩ := hm
            refine ⟨.pointer (some ((adr a199).add ((Int.toNat v973) * El.m (Hd Int)))), fun w1254 hX1255 => od_plain rfl (by have hS1256 := hS1176.ext hX1255; have hB1257 := hB1175.trans (Ext.stp hX1255 hS1176.base); exact is_ext (q_index (i := v973) SL37 rfl rfl (Tv.o (oT.vw hS1256.g2 hS1256.g3 he203)) (Tv.g (oT.vw hS1256.g2 hS1256.g3 he203) hg1258))), ?_⟩
            refine ⟨.slice ((y202[(Int.toNat v973)]!).1) ((y202[(Int.toNat v973)]!).2.2.length) ((y202[(Int.toNat v973)]!).2.1), fun w1259 hX1260 => od_plain rfl (by have hS1261 := hS1176.ext hX1260; have hB1262 := hB1175.trans (Ext.stp hX1260 hS1176.base); exact is_ext (q_load (i := v973) (v := .slice ((y202[(Int.toNat v973)]!).1) ((y202[(Int.toNat v973)]!).2.2.length) ((y202[(Int.toNat v973)]!).2.1)) ON39 (Tv.o (oT.vw hS1261.g2 hS1261.g3 he203)) (Tv.g (oT.vw hS1261.g2 hS1261.g3 he203) hg1258) rfl rfl)), ?_⟩
            obtain ⟨hg1267, hm⟩ := hm
            refine ⟨.pointer (some ((adr ((y202[(Int.toNat v973)]!).1)).add (1 * El.m Int))), fun w1263 hX1264 => od_plain rfl (by have hS1265 := hS1176.ext hX1264; have hB1266 := hB1175.trans (Ext.stp hX1264 hS1176.base); exact is_ext (q_index (i := 1) SL39 rfl rfl (Tv.row (oT.vw hS1265.g2 hS1265.g3 he203) hg1258) hg1267)), ?_⟩
            refine ⟨.int .i64 ((r198[(Int.toNat v973)]!)[1]!), fun w1268 hX1269 => od_plain rfl (by have hS1270 := hS1176.ext hX1269; have hB1271 := hB1175.trans (Ext.stp hX1269 hS1176.base); exact is_ext (q_load (i := 1) (v := .int .i64 ((r198[(Int.toNat v973)]!)[1]!)) ON3 (Tv.row (oT.vw hS1270.g2 hS1270.g3 he203) hg1258) hg1267 rfl rfl)), ?_⟩
            obtain ⟨hg1276, hm⟩ := hm
            refine ⟨.pointer (some ((adr a129).add ((Int.toNat ((r198[(Int.toNat v973)]!)[1]!)) * El.m (Hd Int)))), fun w1272 hX1273 => od_plain rfl (by have hS1274 := hS1176.ext hX1273; have hB1275 := hB1175.trans (Ext.stp hX1273 hS1176.base); exact is_ext (q_index (i := (r198[(Int.toNat v973)]!)[1]!) SL37 rfl rfl (Tv.o (oT.vw hS1274.g0 hS1274.g1 he1167)) (Tv.g (oT.vw hS1274.g0 hS1274.g1 he1167) hg1276))), ?_⟩
            refine ⟨.slice ((y1166[(Int.toNat ((r198[(Int.toNat v973)]!)[1]!))]!).1) ((y1166[(Int.toNat ((r198[(Int.toNat v973)]!)[1]!))]!).2.2.length) ((y1166[(Int.toNat ((r198[(Int.toNat v973)]!)[1]!))]!).2.1), fun w1277 hX1278 => od_plain rfl (by have hS1279 := hS1176.ext hX1278; have hB1280 := hB1175.trans (Ext.stp hX1278 hS1176.base); exact is_ext (q_load (i := (r198[(Int.toNat v973)]!)[1]!) (v := .slice ((y1166[(Int.toNat ((r198[(Int.toNat v973)]!)[1]!))]!).1) ((y1166[(Int.toNat ((r198[(Int.toNat v973)]!)[1]!))]!).2.2.length) ((y1166[(Int.toNat ((r198[(Int.toNat v973)]!)[1]!))]!).2.1)) ON39 (Tv.o (oT.vw hS1279.g0 hS1279.g1 he1167)) (Tv.g (oT.vw hS1279.g0 hS1279.g1 he1167) hg1276) rfl rfl)), ?_⟩
            refine ⟨.slice a199 n200 c201, fun w1281 hX1282 => od_plain rfl (by have hS1283 := hS1176.ext hX1282; have hB1284 := hB1175.trans (Ext.stp hX1282 hS1176.base); exact is_ext (g_move (v := .slice a199 n200 c201) rfl)), ?_⟩
            refine ⟨.int .i64 v973, fun w1285 hX1286 => od_plain rfl (by have hS1287 := hS1176.ext hX1286; have hB1288 := hB1175.trans (Ext.stp hX1286 hS1176.base); exact is_ext (g_move (v := .int .i64 v973) rfl)), ?_⟩
            obtain ⟨hg1293, hm⟩ := hm
            refine ⟨.pointer (some ((adr a199).add ((Int.toNat v973) * El.m (Hd Int)))), fun w1289 hX1290 => od_plain rfl (by have hS1291 := hS1176.ext hX1290; have hB1292 := hB1175.trans (Ext.stp hX1290 hS1176.base); exact is_ext (q_index (i := v973) SL37 rfl rfl (Tv.o (oT.vw hS1291.g2 hS1291.g3 he203)) (Tv.g (oT.vw hS1291.g2 hS1291.g3 he203) hg1293))), ?_⟩
            refine ⟨.slice ((y202[(Int.toNat v973)]!).1) ((y202[(Int.toNat v973)]!).2.2.length) ((y202[(Int.toNat v973)]!).2.1), fun w1294 hX1295 => od_plain rfl (by have hS1296 := hS1176.ext hX1295; have hB1297 := hB1175.trans (Ext.stp hX1295 hS1176.base); exact is_ext (q_load (i := v973) (v := .slice ((y202[(Int.toNat v973)]!).1) ((y202[(Int.toNat v973)]!).2.2.length) ((y202[(Int.toNat v973)]!).2.1)) ON39 (Tv.o (oT.vw hS1296.g2 hS1296.g3 he203)) (Tv.g (oT.vw hS1296.g2 hS1296.g3 he203) hg1293) rfl rfl)), ?_⟩
            obtain ⟨hg1302, hm⟩ := hm
            refine ⟨.pointer (some ((adr ((y202[(Int.toNat v973)]!).1)).add (0 * El.m Int))), fun w1298 hX1299 => od_plain rfl (by have hS1300 := hS1176.ext hX1299; have hB1301 := hB1175.trans (Ext.stp hX1299 hS1176.base); exact is_ext (q_index (i := 0) SL39 rfl rfl (Tv.row (oT.vw hS1300.g2 hS1300.g3 he203) hg1293) hg1302)), ?_⟩
            refine ⟨.int .i64 ((r198[(Int.toNat v973)]!)[0]!), fun w1303 hX1304 => od_plain rfl (by have hS1305 := hS1176.ext hX1304; have hB1306 := hB1175.trans (Ext.stp hX1304 hS1176.base); exact is_ext (q_load (i := 0) (v := .int .i64 ((r198[(Int.toNat v973)]!)[0]!)) ON3 (Tv.row (oT.vw hS1305.g2 hS1305.g3 he203) hg1293) hg1302 rfl rfl)), ?_⟩
            obtain ⟨hg1311, hm⟩ := hm
            refine ⟨.pointer (some ((adr ((y1166[(Int.toNat ((r198[(Int.toNat v973)]!)[1]!))]!).1)).add ((Int.toNat ((r198[(Int.toNat v973)]!)[0]!)) * El.m Int))), fun w1307 hX1308 => od_plain rfl (by have hS1309 := hS1176.ext hX1308; have hB1310 := hB1175.trans (Ext.stp hX1308 hS1176.base); exact is_ext (q_index (i := (r198[(Int.toNat v973)]!)[0]!) SL39 rfl rfl (Tv.row (oT.vw hS1309.g0 hS1309.g1 he1167) hg1276) hg1311)), ?_⟩
            refine ⟨.int .i64 (((x970.set (Int.toNat ((r198[(Int.toNat v973)]!)[0]!)) (x970[(Int.toNat ((r198[(Int.toNat v973)]!)[0]!))]!.set (Int.toNat ((r198[(Int.toNat v973)]!)[1]!)) ((x970[(Int.toNat ((r198[(Int.toNat v973)]!)[0]!))]!)[(Int.toNat ((r198[(Int.toNat v973)]!)[1]!))]! + v991)))[(Int.toNat ((r198[(Int.toNat v973)]!)[1]!))]!)[(Int.toNat ((r198[(Int.toNat v973)]!)[0]!))]!), fun w1312 hX1313 => od_plain rfl (by have hS1314 := hS1176.ext hX1313; have hB1315 := hB1175.trans (Ext.stp hX1313 hS1176.base); exact is_ext (q_load (i := (r198[(Int.toNat v973)]!)[0]!) (v := .int .i64 (((x970.set (Int.toNat ((r198[(Int.toNat v973)]!)[0]!)) (x970[(Int.toNat ((r198[(Int.toNat v973)]!)[0]!))]!.set (Int.toNat ((r198[(Int.toNat v973)]!)[1]!)) ((x970[(Int.toNat ((r198[(Int.toNat v973)]!)[0]!))]!)[(Int.toNat ((r198[(Int.toNat v973)]!)[1]!))]! + v991)))[(Int.toNat ((r198[(Int.toNat v973)]!)[1]!))]!)[(Int.toNat ((r198[(Int.toNat v973)]!)[0]!))]!)) ON3 (Tv.row (oT.vw hS1314.g0 hS1314.g1 he1167) hg1276) hg1311 rfl rfl)), ?_⟩
            refine ⟨.int .i64 v991, fun w1316 hX1317 => od_plain rfl (by have hS1318 := hS1176.ext hX1317; have hB1319 := hB1175.trans (Ext.stp hX1317 hS1176.base); exact is_ext (g_move (v := .int .i64 v991) rfl)), ?_⟩
            obtain ⟨hg1324, hm⟩ := hm
            refine ⟨.int .i64 (((x970.set (Int.toNat ((r198[(Int.toNat v973)]!)[0]!)) (x970[(Int.toNat ((r198[(Int.toNat v973)]!)[0]!))]!.set (Int.toNat ((r198[(Int.toNat v973)]!)[1]!)) ((x970[(Int.toNat ((r198[(Int.toNat v973)]!)[0]!))]!)[(Int.toNat ((r198[(Int.toNat v973)]!)[1]!))]! + v991)))[(Int.toNat ((r198[(Int.toNat v973)]!)[1]!))]!)[(Int.toNat ((r198[(Int.toNat v973)]!)[0]!))]! + v991), fun w1320 hX1321 => od_plain rfl (by have hS1322 := hS1176.ext hX1321; have hB1323 := hB1175.trans (Ext.stp hX1321 hS1176.base); exact is_ext (g_add (a := ((x970.set (Int.toNat ((r198[(Int.toNat v973)]!)[0]!)) (x970[(Int.toNat ((r198[(Int.toNat v973)]!)[0]!))]!.set (Int.toNat ((r198[(Int.toNat v973)]!)[1]!)) ((x970[(Int.toNat ((r198[(Int.toNat v973)]!)[0]!))]!)[(Int.toNat ((r198[(Int.toNat v973)]!)[1]!))]! + v991)))[(Int.toNat ((r198[(Int.toNat v973)]!)[1]!))]!)[(Int.toNat ((r198[(Int.toNat v973)]!)[0]!))]!) (b := v991) rfl rfl hg1324)), ?_⟩
            obtain ⟨hg1329, hm⟩ := hm
            refine ⟨.pointer (some ((adr ((y1166[(Int.toNat ((r198[(Int.toNat v973)]!)[1]!))]!).1)).add ((Int.toNat ((r198[(Int.toNat v973)]!)[0]!)) * El.m Int))), fun w1325 hX1326 => od_plain rfl (by have hS1327 := hS1176.ext hX1326; have hB1328 := hB1175.trans (Ext.stp hX1326 hS1176.base); exact is_ext (q_index (i := (r198[(Int.toNat v973)]!)[0]!) SL39 rfl rfl (Tv.row (oT.vw hS1327.g0 hS1327.g1 he1167) hg1211) hg1329)), ?_⟩
            intro w1330 hX1331
            have hB1332 := hB1175.trans (Ext.stp hX1331 hS1176.base)
            have hS1333 := hS1176.ext hX1331
            have hS1337 := hS1333.f1
            have hS1338 := hS1337.f1
            refine ⟨_, od_plain rfl (q_row (i := (r198[(Int.toNat v973)]!)[1]!) (k := (r198[(Int.toNat v973)]!)[0]!) (v := ((((x970.set (Int.toNat ((r198[(Int.toNat v973)]!)[0]!)) (x970[(Int.toNat ((r198[(Int.toNat v973)]!)[0]!))]!.set (Int.toNat ((r198[(Int.toNat v973)]!)[1]!)) ((x970[(Int.toNat ((r198[(Int.toNat v973)]!)[0]!))]!)[(Int.toNat ((r198[(Int.toNat v973)]!)[1]!))]! + v991)))[(Int.toNat ((r198[(Int.toNat v973)]!)[1]!))]!)[(Int.toNat ((r198[(Int.toNat v973)]!)[0]!))]! + v991) : Int)) hS1338 he1167 hg1211 hg1329 ON3.sz rfl rfl rfl), ?_⟩
            rintro _ w1334 ⟨rfl, y1339, he1340, hS1335, hb1336⟩
            have hB1341 := hB1332.trans hb1336
            intro w1342 hX1343
            have hB1344 := hB1341.trans (Ext.stp hX1343 hS1335.base)
            have hS1345 := hS1335.ext hX1343
            refine hK989 _ _ ?_
            refine w_region ?_
            refine wl_val (g_move (v := .int .i64 v973) rfl) rfl ?_
            obtain ⟨hg1346, hm⟩ := hm
            refine wl_val (g_add (a := v973) (b := 1) rfl rfl hg1346) rfl ?_
            refine wl_val (g_assign (v := .int .i64 (v973 + 1)) rfl) rfl ?_
            refine wl_nil ?_
            exact ⟨(((x970.set (Int.toNat ((r198[(Int.toNat v973)]!)[0]!)) (x970[(Int.toNat ((r198[(Int.toNat v973)]!)[0]!))]!.set (Int.toNat ((r198[(Int.toNat v973)]!)[1]!)) ((x970[(Int.toNat ((r198[(Int.toNat v973)]!)[0]!))]!)[(Int.toNat ((r198[(Int.toNat v973)]!)[1]!))]! + v991))).set (Int.toNat ((r198[(Int.toNat v973)]!)[1]!)) ((x970.set (Int.toNat ((r198[(Int.toNat v973)]!)[0]!)) (x970[(Int.toNat ((r198[(Int.toNat v973)]!)[0]!))]!.set (Int.toNat ((r198[(Int.toNat v973)]!)[1]!)) ((x970[(Int.toNat ((r198[(Int.toNat v973)]!)[0]!))]!)[(Int.toNat ((r198[(Int.toNat v973)]!)[1]!))]! + v991)))[(Int.toNat ((r198[(Int.toNat v973)]!)[1]!))]!.set (Int.toNat ((r198[(Int.toNat v973)]!)[0]!)) (((x970.set (Int.toNat ((r198[(Int.toNat v973)]!)[0]!)) (x970[(Int.toNat ((r198[(Int.toNat v973)]!)[0]!))]!.set (Int.toNat ((r198[(Int.toNat v973)]!)[1]!)) ((x970[(Int.toNat ((r198[(Int.toNat v973)]!)[0]!))]!)[(Int.toNat ((r198[(Int.toNat v973)]!)[1]!))]! + v991)))[(Int.toNat ((r198[(Int.toNat v973)]!)[1]!))]!)[(Int.toNat ((r198[(Int.toNat v973)]!)[0]!))]! + v991))), y1339, (v973 + 1)), hm.2, ⟨rfl, rfl, rfl, rfl, trivial⟩, ⟨hm.1, he1340, hB1344, hS1345⟩⟩
        · replace hm := hm.2 h988
          refine w_exit ?_
          have hS1347 := hS984.f2
          have hS1348 := hS1347.tail
          have hS1349 := hS1348.f2
          have hS1350 := hS1349.tail
          exact ⟨(x970, y971), ⟨rfl, trivial⟩, ⟨hm, he972, hB983, hS1350⟩⟩
      · rintro ⟨x965, y966⟩ b_ w1351 ⟨hm, he967, hB1352, hS1353⟩
        show Wp _ _ _ _ (upds b_ [(5, .slice a129 n130 c131)]) w1351
        refine w_seq fun K1354 hK1354 => ?_
        refine w_region ?_
        refine wl_val (g_move (v := .slice a129 n130 c131) rfl) rfl ?_
        refine wl_val (g_assign (v := .slice a129 n130 c131) rfl) rfl ?_
        refine wl_nil ?_
        refine hK1354 _ _ ?_
        refine w_ret ?_
        repeat first | with_reducible refine q_then ?_ | with_reducible refine q_block ?_
        exact ret1 rfl (by decide) ⟨_, _, _, _, _, hm, he967, rfl, toExt hB1352, hS1353⟩

theorem m_spec_WoundPairs_fn {w : World} {a1 : Option Addr} {n1 c1 : Nat} {p1 : List Cross} {Q : (List (List Int)) → Prop} (p0 : Int) (hp1 : Vw w.heap.size w a1 n1 c1 p1) (hm : m_spec_WoundPairs p0 p1 Q) :
    Fn Try.prog 44 #[.int .i64 p0, .slice a1 n1 c1] w (fun v w' => ∃ (r0 : List (List Int)) (a0 : Option Addr) (n0 c0 : Nat) (y0 : List (Hd Int)), Q r0 ∧ ers y0 = r0 ∧ v = .slice a0 n0 c0 ∧ Ext w w' ∧ Sep w' w.heap.size [oS 39 a0 n0 c0 y0, oT 3 y0]) := by
  unfold m_spec_WoundPairs at hm
  have hB0 := Below.refl w.heap.size w
  have hS0 : Sep w w.heap.size [] := Sep.nil (Nat.le_refl _)
  refine fn_of_wp Try.func44 rfl (by kernel_rfl) (Nat.le_of_ble_eq_true rfl) ?_
  refine w_seq fun K1 hK1 => ?_
  refine w_region ?_
  refine wl_val (g_assign (v := .slice none 0 0) rfl) rfl ?_
  refine wl_nil ?_
  refine hK1 _ _ ?_
  refine w_seq fun K2 hK2 => ?_
  refine w_region ?_
  refine wl_step rfl (q_lit0 (α := (Hd Int)) rfl SL37 hS0) ?_
  rintro _ w3 ⟨a4, rfl, hS6, hE5⟩
  have hB8 := hB0.trans (Ext.stp hE5 hS0.base)
  have hS9 := hS6.noRows (δ := Hd Int) (E := 3)
  have he11 : ers ([] : List (Hd Int)) = ([] : List (List Int)) := rfl
  refine wl_val (g_assign (v := .slice a4 0 0) rfl) rfl ?_
  refine wl_nil ?_
  refine hK2 _ _ ?_
  refine w_seq fun K13 hK13 => ?_
  refine w_region ?_
  refine wl_val (g_move (v := .int .i64 p0) rfl) rfl ?_
  refine wl_val (g_move (v := .slice a1 n1 c1) rfl) rfl ?_
  refine wl_step rfl (g_call (vs := #[.int .i64 p0, .slice a1 n1 c1]) CF39 (args2 rfl rfl) (m_spec_TwistTable_fn p0 ((hp1.bel hB8).up hS9) hm)) ?_
  rintro _ w14 ⟨r17, a18, n19, c20, y21, hm, he22, rfl, hE15, hN16⟩
  have hS26 := hS9.call2 hE15 hN16
  have hB27 := hB8.trans (Ext.stp hE15 hS9.base)
  refine wl_val (g_assign (v := .slice a18 n19 c20) rfl) rfl ?_
  refine wl_nil ?_
  refine hK13 _ _ ?_
  refine w_cut (σ := List (List Int) × Option Addr × Nat × Nat × List (Hd Int)) (fun ⟨x328, a329, n330, c331, y332⟩ => [(5, .slice a329 n330 c331)]) (fun ⟨x328, a329, n330, c331, y332⟩ w' => m_spec_WoundPairs_K1 Q x328 ∧ ers y332 = x328 ∧ Below w.heap.size w w' ∧ Sep w' w.heap.size [oS 39 a329 n330 c331 (y332 : List (Hd Int)), oT 3 (y332 : List (Hd Int))]) ?_ ?_
  · refine w_seq fun K335 hK335 => ?_
    refine w_region ?_
    refine wl_val (g_assign (v := .int .i64 0) rfl) rfl ?_
    refine wl_nil ?_
    refine hK335 _ _ ?_
    refine w_block ?_
    have hS343 := hS26.f1
    have hS344 := hS343.f1
    have hS345 := hS344.f2
    have hS346 := hS345.f3
    obtain ⟨I347, μ348, h0349, hr350⟩ := hm
    refine w_for (σ := List (List Int) × Option Addr × Nat × Nat × List (Hd Int) × Int) (fun ⟨x336, a337, n338, c339, y340, v342⟩ => [(5, .slice a337 n338 c339), (6, .slice a18 n19 c20), (7, .int .i64 v342)]) (fun ⟨x336, a337, n338, c339, y340, v342⟩ w' => I347 x336 v342 ∧ ers y340 = x336 ∧ Below w.heap.size w w' ∧ Sep w' w.heap.size [oS 39 a337 n338 c339 (y340 : List (Hd Int)), oT 3 (y340 : List (Hd Int)), oS 39 a18 n19 c20 (y21 : List (Hd Int)), oT 3 (y21 : List (Hd Int))]) (fun ⟨x336, a337, n338, c339, y340, v342⟩ => μ348 x336 v342) ([], a4, 0, 0, [], 0) ⟨rfl, rfl, rfl, trivial⟩ ⟨h0349, he11, hB27, hS346⟩ ?_
    rintro ⟨x336, a337, n338, c339, y340, v342⟩ b_ w351 ⟨hi_, he341, hB352, hS353⟩
    show Wp _ _ _ _ (upds b_ [(5, .slice a337 n338 c339), (6, .slice a18 n19 c20), (7, .int .i64 v342)]) w351
    have hm := hr350 x336 v342 hi_
    refine w_seq fun K355 hK355 => ?_
    refine w_seq fun K356 hK356 => ?_
    refine w_region ?_
    refine wl_val (g_move (v := .int .i64 v342) rfl) rfl ?_
    refine wl_val (g_move (v := .slice a18 n19 c20) rfl) rfl ?_
    refine wl_val (q_len SL37 rfl (Tv.len (oT.vw hS353.g2 hS353.g3 he22))) rfl ?_
    refine wl_val (g_lss (a := v342) (b := (r17.length : Int)) rfl rfl) rfl ?_
    refine wl_nil ?_
    refine hK356 _ _ ?_
    refine w_condI (p := v342 < (r17.length : Int)) (b := (decide (v342 < (r17.length : Int)))) rfl decide_eq_true_iff (fun h357 => ?_) (fun h357 => ?_)
    · replace hm := hm.1 h357
      refine w_skip ?_
      refine hK355 _ _ ?_
      refine w_cut (σ := List (List Int) × Option Addr × Nat × Nat × List (Hd Int)) (fun ⟨x358, a359, n360, c361, y362⟩ => [(5, .slice a359 n360 c361), (6, .slice a18 n19 c20), (7, .int .i64 v342)]) (fun ⟨x358, a359, n360, c361, y362⟩ w' => m_spec_WoundPairs_K0 v342 (fun x336' v342' => I347 x336' v342' ∧ μ348 x336' v342' < μ348 x336 v342) x358 ∧ ers y362 = x358 ∧ Below w.heap.size w w' ∧ Sep w' w.heap.size [oS 39 a359 n360 c361 (y362 : List (Hd Int)), oT 3 (y362 : List (Hd Int)), oS 39 a18 n19 c20 (y21 : List (Hd Int)), oT 3 (y21 : List (Hd Int))]) ?_ ?_
      · refine w_block ?_
        refine w_seq fun K365 hK365 => ?_
        refine w_region ?_
        refine wl_val (g_move (v := .int .i64 v342) rfl) rfl ?_
        obtain ⟨hg366, hm⟩ := hm
        refine wl_val (g_add (a := v342) (b := 1) rfl rfl hg366) rfl ?_
        refine wl_val (g_assign (v := .int .i64 (v342 + 1)) rfl) rfl ?_
        refine wl_nil ?_
        refine hK365 _ _ ?_
        refine w_block ?_
        obtain ⟨I374, μ375, h0376, hr377⟩ := hm
        refine w_for (σ := List (List Int) × Option Addr × Nat × Nat × List (Hd Int) × Int) (fun ⟨x367, a368, n369, c370, y371, v373⟩ => [(5, .slice a368 n369 c370), (6, .slice a18 n19 c20), (7, .int .i64 v342), (8, .int .i64 v373)]) (fun ⟨x367, a368, n369, c370, y371, v373⟩ w' => I374 x367 v373 ∧ ers y371 = x367 ∧ Below w.heap.size w w' ∧ Sep w' w.heap.size [oS 39 a368 n369 c370 (y371 : List (Hd Int)), oT 3 (y371 : List (Hd Int)), oS 39 a18 n19 c20 (y21 : List (Hd Int)), oT 3 (y21 : List (Hd Int))]) (fun ⟨x367, a368, n369, c370, y371, v373⟩ => μ375 x367 v373) (x336, a337, n338, c339, y340, (v342 + 1)) ⟨rfl, rfl, rfl, rfl, trivial⟩ ⟨h0376, he341, hB352, hS353⟩ ?_
        rintro ⟨x367, a368, n369, c370, y371, v373⟩ b_ w378 ⟨hi_, he372, hB379, hS380⟩
        show Wp _ _ _ _ (upds b_ [(5, .slice a368 n369 c370), (6, .slice a18 n19 c20), (7, .int .i64 v342), (8, .int .i64 v373)]) w378
        have hm := hr377 x367 v373 hi_
        refine w_seq fun K382 hK382 => ?_
        refine w_seq fun K383 hK383 => ?_
        refine w_region ?_
        refine wl_val (g_move (v := .int .i64 v373) rfl) rfl ?_
        refine wl_val (g_move (v := .slice a18 n19 c20) rfl) rfl ?_
        refine wl_val (q_len SL37 rfl (Tv.len (oT.vw hS380.g2 hS380.g3 he22))) rfl ?_
        refine wl_val (g_lss (a := v373) (b := (r17.length : Int)) rfl rfl) rfl ?_
        refine wl_nil ?_
        refine hK383 _ _ ?_
        refine w_condI (p := v373 < (r17.length : Int)) (b := (decide (v373 < (r17.length : Int)))) rfl decide_eq_true_iff (fun h384 => ?_) (fun h384 => ?_)
        · replace hm := hm.1 h384
          refine w_skip ?_
          refine hK382 _ _ ?_
          refine w_seq fun K385 hK385 => ?_
          refine w_block ?_
          refine w_seq fun K386 hK386 => ?_
          refine w_region ?_
          refine wl_val (g_move (v := .slice a18 n19 c20) rfl) rfl ?_
          refine wl_val (g_move (v := .int .i64 v342) rfl) rfl ?_
          obtain ⟨hg387, hm⟩ := hm
          refine wl_val (q_index (i := v342) SL37 rfl rfl (Tv.o (oT.vw hS380.g2 hS380.g3 he22)) (Tv.g (oT.vw hS380.g2 hS380.g3 he22) hg387)) rfl ?_
          refine wl_val (q_load (i := v342) (v := .slice ((y21[(Int.toNat v342)]!).1) ((y21[(Int.toNat v342)]!).2.2.length) ((y21[(Int.toNat v342)]!).2.1)) ON39 (Tv.o (oT.vw hS380.g2 hS380.g3 he22)) (Tv.g (oT.vw hS380.g2 hS380.g3 he22) hg387) rfl rfl) rfl ?_
          refine wl_val (g_move (v := .int .i64 v373) rfl) rfl ?_
          obtain ⟨hg388, hm⟩ := hm
          refine wl_val (q_index (i := v373) SL39 rfl rfl (Tv.row (oT.vw hS380.g2 hS380.g3 he22) hg387) hg388) rfl ?_
          refine wl_val (q_load (i := v373) (v := .int .i64 ((r17[(Int.toNat v342)]!)[(Int.toNat v373)]!)) ON3 (Tv.row (oT.vw hS380.g2 hS380.g3 he22) hg387) hg388 rfl rfl) rfl ?_
          refine wl_val (g_neq (a := (r17[(Int.toNat v342)]!)[(Int.toNat v373)]!) (b := 0) rfl rfl) rfl ?_
          refine wl_nil ?_
          refine hK386 _ _ ?_
          refine w_condI (p := (r17[(Int.toNat v342)]!)[(Int.toNat v373)]! ≠ 0) (b := (decide ((r17[(Int.toNat v342)]!)[(Int.toNat v373)]! ≠ 0))) rfl decide_eq_true_iff (fun h389 => ?_) (fun h389 => ?_)
          · replace hm := hm.1 h389
            refine w_region ?_
            refine wl_val (g_move (v := .slice a368 n369 c370) rfl) rfl ?_
            refine wl_val (g_move (v := .int .i64 v342) rfl) rfl ?_
            refine wl_val (g_move (v := .int .i64 v373) rfl) rfl ?_
            refine wl_step rfl (q_lit2 (y := (v342 : Int)) (y' := (v373 : Int)) SL39 rfl rfl rfl rfl (by decide) hS380) ?_
            rintro _ w390 ⟨a391, rfl, hS393, hE392⟩
            have hB395 := hB379.trans (Ext.stp hE392 hS380.base)
            have hn401 := oS.len hS393.g0
            have hS402 := hS393.oneRow
            have he400 : ers [((a391, 2, [v342, v373]) : Hd Int)] = [[v342, v373]] := rfl
            refine wl_step rfl (q_lit1 (y := ((a391, 2, [v342, v373]) : Hd Int)) SL37 rfl (hd_cells hn401) (by decide) hS402) ?_
            rintro _ w396 ⟨a397, rfl, hS399, hE398⟩
            have hB405 := hB395.trans (Ext.stp hE398 hS402.base)
            have hS412 := hS399.f2
            obtain ⟨hg413, hm⟩ := hm
            have hl414 : (y371).length + ([(a391, 2, [v342, v373])]).length ≤ 1099511627776 := by have h1 := congrArg List.length he372; have h2 := congrArg List.length he400; have h3 := hg413; simp only [ers, List.length_map, List.length_append, List.length_cons, List.length_nil, List.length_replicate, List.length_set] at h1 h2 h3 ⊢; omega
            refine wl_step rfl (q_append SL37 rfl rfl hS412 (oS.vw hS412.g1) hl414 (by decide)) ?_
            rintro _ w407 ⟨a408, c409, rfl, hS411, hb410⟩
            have hB415 := hB405.trans hb410
            have hS416 := hS411.f1
            have hS417 := hS416.tail
            have hS418 := hS417.f2
            have hS419 := hS418.f2
            have hS420 := hS419.catRows
            have he421 : ers (y371 ++ ([(a391, 2, [v342, v373])])) = (x367 ++ ([[v342, v373]])) := by rw [← he372, ← he400]; exact List.map_append
            refine wl_val (g_assign (v := .slice a408 (n369 + 1) c409) rfl) rfl ?_
            refine wl_nil ?_
            refine hK385 _ _ ?_
            refine w_region ?_
            refine wl_val (g_move (v := .int .i64 v373) rfl) rfl ?_
            obtain ⟨hg422, hm⟩ := hm
            refine wl_val (g_add (a := v373) (b := 1) rfl rfl hg422) rfl ?_
            refine wl_val (g_assign (v := .int .i64 (v373 + 1)) rfl) rfl ?_
            refine wl_nil ?_
            have hS423 := hS420.f3
            have hS424 := hS423.f3
            have hS425 := hS424.f2
            have hS426 := hS425.f3
            exact ⟨((x367 ++ ([[v342, v373]])), a408, (n369 + 1), c409, (y371 ++ ([(a391, 2, [v342, v373])])), (v373 + 1)), hm.2, ⟨rfl, rfl, rfl, rfl, trivial⟩, ⟨hm.1, he421, hB415, hS426⟩⟩
          · replace hm := hm.2 h389
            refine w_skip ?_
            refine hK385 _ _ ?_
            refine w_region ?_
            refine wl_val (g_move (v := .int .i64 v373) rfl) rfl ?_
            obtain ⟨hg427, hm⟩ := hm
            refine wl_val (g_add (a := v373) (b := 1) rfl rfl hg427) rfl ?_
            refine wl_val (g_assign (v := .int .i64 (v373 + 1)) rfl) rfl ?_
            refine wl_nil ?_
            exact ⟨(x367, a368, n369, c370, y371, (v373 + 1)), hm.2, ⟨rfl, rfl, rfl, rfl, trivial⟩, ⟨hm.1, he372, hB379, hS380⟩⟩
        · replace hm := hm.2 h384
          refine w_exit ?_
          exact ⟨(x367, a368, n369, c370, y371), ⟨rfl, rfl, rfl, trivial⟩, ⟨hm, he372, hB379, hS380⟩⟩
      · rintro ⟨x358, a359, n360, c361, y362⟩ b_ w428 ⟨hm, he363, hB429, hS430⟩
        show Wp _ _ _ _ (upds b_ [(5, .slice a359 n360 c361), (6, .slice a18 n19 c20), (7, .int .i64 v342)]) w428
        refine w_region ?_
        refine wl_val (g_move (v := .int .i64 v342) rfl) rfl ?_
        obtain ⟨hg431, hm⟩ := hm
        refine wl_val (g_add (a := v342) (b := 1) rfl rfl hg431) rfl ?_
        refine wl_val (g_assign (v := .int .i64 (v342 + 1)) rfl) rfl ?_
        refine wl_nil ?_
        exact ⟨(x358, a359, n360, c361, y362, (v342 + 1)), hm.2, ⟨rfl, rfl, rfl, trivial⟩, ⟨hm.1, he363, hB429, hS430⟩⟩
    · replace hm := hm.2 h357
      refine w_exit ?_
      have hS432 := hS353.f2
      have hS433 := hS432.tail
      have hS434 := hS433.f2
      have hS435 := hS434.tail
      exact ⟨(x336, a337, n338, c339, y340), ⟨rfl, trivial⟩, ⟨hm, he341, hB352, hS435⟩⟩
  · rintro ⟨x328, a329, n330, c331, y332⟩ b_ w436 ⟨hm, he333, hB437, hS438⟩
    show Wp _ _ _ _ (upds b_ [(5, .slice a329 n330 c331)]) w436
    refine w_seq fun K439 hK439 => ?_
    refine w_region ?_
    refine wl_val (g_move (v := .slice a329 n330 c331) rfl) rfl ?_
    refine wl_val (g_assign (v := .slice a329 n330 c331) rfl) rfl ?_
    refine wl_nil ?_
    refine hK439 _ _ ?_
    refine w_ret ?_
    repeat first | with_reducible refine q_then ?_ | with_reducible refine q_block ?_
    exact ret1 rfl (by decide) ⟨_, _, _, _, _, hm, he333, rfl, toExt hB437, hS438⟩

theorem m_spec_IsUntwisted_fn {w : World} {a1 : Option Addr} {n1 c1 : Nat} {p1 : List Cross} {Q : Bool → Prop} (p0 : Int) (hp1 : Vw w.heap.size w a1 n1 c1 p1) (hm : m_spec_IsUntwisted p0 p1 Q) :
    Fn Try.prog 43 #[.int .i64 p0, .slice a1 n1 c1] w (fun v w' => ∃ (r0 : Bool), Q r0 ∧ v = .bool r0 ∧ Ext w w') := by
  unfold m_spec_IsUntwisted at hm
  have hB0 := Below.refl w.heap.size w
  have hS0 : Sep w w.heap.size [] := Sep.nil (Nat.le_refl _)
  refine fn_of_wp Try.func43 rfl (by kernel_rfl) (Nat.le_of_ble_eq_true rfl) ?_
  refine w_seq fun K1 hK1 => ?_
  refine w_region ?_
  refine wl_val (g_assign (v := .bool false) rfl) rfl ?_
  refine wl_nil ?_
  refine hK1 _ _ ?_
  refine w_seq fun K2 hK2 => ?_
  refine w_region ?_
  refine wl_val (g_move (v := .int .i64 p0) rfl) rfl ?_
  refine wl_val (g_move (v := .slice a1 n1 c1) rfl) rfl ?_
  refine wl_step rfl (g_call (vs := #[.int .i64 p0, .slice a1 n1 c1]) CF59 (args2 rfl rfl) (m_spec_CrossesOk_fn p0 ((hp1.bel hB0).up hS0) hm)) ?_
  rintro _ w3 ⟨r6, hm, rfl, hE4⟩
  have hB7 := hB0.trans (Ext.stp hE4 hS0.base)
  have hS8 := hS0.ext hE4
  refine wl_val (g_move (v := .bool r6) rfl) rfl ?_
  by_cases hc9 : r6 = true
  · replace hm := hm.1 (Iff.rfl.mp hc9)
    refine wl_valT (g_move (v := .int .i64 p0) rfl) (gv_T (gv_some rfl rfl rfl) hc9) ?_
    refine wl_valT (g_move (v := .slice a1 n1 c1) rfl) (gv_T (gv_some rfl rfl rfl) hc9) ?_
    refine wl_stepT (gv_T (gv_some rfl rfl rfl) hc9) (g_call (vs := #[.int .i64 p0, .slice a1 n1 c1]) CF26 (args2 rfl rfl) (m_spec_OrderAfter_fn p0 ((hp1.bel hB7).up hS8) hm)) ?_
    rintro _ w10 ⟨r13, a14, n15, c16, hm, rfl, hE11, hN12⟩
    have hS18 := hS8.call1 hE11 hN12
    have hB19 := hB7.trans (Ext.stp hE11 hS8.base)
    refine wl_stepT (gv_T (gv_some rfl rfl rfl) hc9) (g_call (vs := #[.slice a14 n15 c16]) CF36 (args1 rfl) (m_spec_CountInversions_fn (oS.vw hS18.g0) hm)) ?_
    rintro _ w20 ⟨r23, hm, rfl, hE21⟩
    have hB24 := hB19.trans (Ext.stp hE21 hS18.base)
    have hS25 := hS18.ext hE21
    refine wl_valT (g_eql (a := r23) (b := 0) rfl rfl) (gv_T (gv_some rfl rfl rfl) hc9) ?_
    refine wl_val (g_pickT (b := r6) rfl hc9 rfl) rfl ?_
    refine wl_val (g_move (v := .bool (decide (r23 = 0))) rfl) rfl ?_
    by_cases hc26 : (decide (r23 = 0)) = true
    · replace hm := hm.1 (decide_eq_true_iff.mp hc26)
      refine wl_valT (g_move (v := .int .i64 p0) rfl) (gv_T (gv_some rfl rfl rfl) hc26) ?_
      refine wl_valT (g_move (v := .slice a1 n1 c1) rfl) (gv_T (gv_some rfl rfl rfl) hc26) ?_
      refine wl_stepT (gv_T (gv_some rfl rfl rfl) hc26) (g_call (vs := #[.int .i64 p0, .slice a1 n1 c1]) CF44 (args2 rfl rfl) (m_spec_WoundPairs_fn p0 ((hp1.bel hB24).up hS25) hm)) ?_
      rintro _ w27 ⟨r30, a31, n32, c33, y34, hm, he35, rfl, hE28, hN29⟩
      have hS39 := hS25.call2 hE28 hN29
      have hB40 := hB24.trans (Ext.stp hE28 hS25.base)
      refine wl_valT (q_len SL37 rfl (Tv.len (oT.vw hS39.g0 hS39.g1 he35))) (gv_T (gv_some rfl rfl rfl) hc26) ?_
      refine wl_valT (g_eql (a := (r30.length : Int)) (b := 0) rfl rfl) (gv_T (gv_some rfl rfl rfl) hc26) ?_
      refine wl_val (g_pickT (b := (decide (r23 = 0))) rfl hc26 rfl) rfl ?_
      refine wl_val (g_assign (v := .bool (decide ((r30.length : Int) = 0))) rfl) rfl ?_
      refine wl_nil ?_
      refine hK2 _ _ ?_
      refine w_ret ?_
      repeat first | with_reducible refine q_then ?_ | with_reducible refine q_block ?_
      exact ret1 rfl (by decide) ⟨_, hm, rfl, toExt hB40⟩
    · have hc26n := b_F hc26
      replace hm := hm.2 (i_neg decide_eq_true_iff hc26n)
      refine wl_skipF (gv_F (gv_some rfl rfl rfl) hc26n) ?_
      refine wl_skipF (gv_F (gv_some rfl rfl rfl) hc26n) ?_
      refine wl_skipF (gv_F (gv_some rfl rfl rfl) hc26n) ?_
      refine wl_skipF (gv_F (gv_some rfl rfl rfl) hc26n) ?_
      refine wl_skipF (gv_F (gv_some rfl rfl rfl) hc26n) ?_
      refine wl_val (g_pickF (b := (decide (r23 = 0))) rfl hc26n rfl) rfl ?_
      refine wl_val (g_assign (v := .bool false) rfl) rfl ?_
      refine wl_nil ?_
      refine hK2 _ _ ?_
      refine w_ret ?_
      repeat first | with_reducible refine q_then ?_ | with_reducible refine q_block ?_
      exact ret1 rfl (by decide) ⟨_, hm, rfl, toExt hB24⟩
  · have hc9n := b_F hc9
    replace hm := hm.2 (i_neg Iff.rfl hc9n)
    refine wl_skipF (gv_F (gv_some rfl rfl rfl) hc9n) ?_
    refine wl_skipF (gv_F (gv_some rfl rfl rfl) hc9n) ?_
    refine wl_skipF (gv_F (gv_some rfl rfl rfl) hc9n) ?_
    refine wl_skipF (gv_F (gv_some rfl rfl rfl) hc9n) ?_
    refine wl_skipF (gv_F (gv_some rfl rfl rfl) hc9n) ?_
    refine wl_val (g_pickF (b := r6) rfl hc9n rfl) rfl ?_
    refine wl_val (g_move (v := .bool false) rfl) rfl ?_
    refine wl_skipF (gv_F (gv_some rfl rfl rfl) rfl) ?_
    refine wl_skipF (gv_F (gv_some rfl rfl rfl) rfl) ?_
    refine wl_skipF (gv_F (gv_some rfl rfl rfl) rfl) ?_
    refine wl_skipF (gv_F (gv_some rfl rfl rfl) rfl) ?_
    refine wl_skipF (gv_F (gv_some rfl rfl rfl) rfl) ?_
    refine wl_val (g_pickF (b := false) rfl rfl rfl) rfl ?_
    refine wl_val (g_assign (v := .bool false) rfl) rfl ?_
    refine wl_nil ?_
    refine hK2 _ _ ?_
    refine w_ret ?_
    repeat first | with_reducible refine q_then ?_ | with_reducible refine q_block ?_
    exact ret1 rfl (by decide) ⟨_, hm, rfl, toExt hB7⟩

theorem m_laws_at_fn {w : World} {a0 : Option Addr} {n0 c0 : Nat} {p0 : List Byte} {Q : Int → Prop} (hp0 : Vw w.heap.size w a0 n0 c0 p0) (p1 : Int) (hm : m_laws_at p0 p1 Q) :
    Fn Try.prog 50 #[.slice a0 n0 c0, .int .i64 p1] w (fun v w' => ∃ (r0 : Int), Q r0 ∧ v = .int .i64 r0 ∧ Ext w w') := by
  unfold m_laws_at at hm
  have hB0 := Below.refl w.heap.size w
  have hS0 : Sep w w.heap.size [] := Sep.nil (Nat.le_refl _)
  refine fn_of_wp Try.func50 rfl (by kernel_rfl) (Nat.le_of_ble_eq_true rfl) ?_
  refine w_seq fun K1 hK1 => ?_
  refine w_region ?_
  refine wl_val (g_assign (v := .int .i64 0) rfl) rfl ?_
  refine wl_nil ?_
  refine hK1 _ _ ?_
  refine w_seq fun K2 hK2 => ?_
  refine w_seq fun K3 hK3 => ?_
  refine w_region ?_
  refine wl_val (g_move (v := .slice a0 n0 c0) rfl) rfl ?_
  refine wl_val (q_len SL33 rfl (Vw.len (hp0.bel hB0))) rfl ?_
  refine wl_val (g_eql (a := (p0.length : Int)) (b := 0) rfl rfl) rfl ?_
  refine wl_nil ?_
  refine hK3 _ _ ?_
  refine w_condI (p := (p0.length : Int) = 0) (b := (decide ((p0.length : Int) = 0))) rfl decide_eq_true_iff (fun h4 => ?_) (fun h4 => ?_)
  · replace hm := hm.1 h4
    refine w_seq fun K5 hK5 => ?_
    refine w_region ?_
    refine wl_val (g_assign (v := .int .i64 0) rfl) rfl ?_
    refine wl_nil ?_
    refine hK5 _ _ ?_
    refine w_ret ?_
    repeat first | with_reducible refine q_then ?_ | with_reducible refine q_block ?_
    exact ret1 rfl (by decide) ⟨_, hm, rfl, toExt hB0⟩
  · replace hm := hm.2 h4
    refine w_skip ?_
    refine hK2 _ _ ?_
    refine w_seq fun K6 hK6 => ?_
    refine w_region ?_
    refine wl_val (g_move (v := .slice a0 n0 c0) rfl) rfl ?_
    refine wl_val (g_move (v := .int .i64 p1) rfl) rfl ?_
    obtain ⟨hg7, hm⟩ := hm
    refine wl_val (g_mul (a := p1) (b := 5) rfl rfl hg7) rfl ?_
    obtain ⟨hg8, hm⟩ := hm
    refine wl_val (g_add (a := (p1 * 5)) (b := 1) rfl rfl hg8) rfl ?_
    refine wl_val (g_move (v := .slice a0 n0 c0) rfl) rfl ?_
    refine wl_val (q_len SL33 rfl (Vw.len (hp0.bel hB0))) rfl ?_
    obtain ⟨hg9, hm⟩ := hm
    refine wl_val (g_rem (a := ((p1 * 5) + 1)) (b := (p0.length : Int)) rfl rfl hg9) rfl ?_
    obtain ⟨hg10, hm⟩ := hm
    refine wl_val (q_index (i := (Int.tmod ((p1 * 5) + 1) (p0.length : Int))) SL33 rfl rfl (hp0.bel hB0) hg10) rfl ?_
    refine wl_val (q_load (i := (Int.tmod ((p1 * 5) + 1) (p0.length : Int))) (v := .int .u8 ((p0[(Int.toNat (Int.tmod ((p1 * 5) + 1) (p0.length : Int)))]!).val : Int)) ON5 (hp0.bel hB0) hg10 rfl rfl) rfl ?_
    refine wl_val (g_conv8 (v := p0[(Int.toNat (Int.tmod ((p1 * 5) + 1) (p0.length : Int)))]!) CV5_3 rfl) rfl ?_
    refine wl_val (g_assign (v := .int .i64 ((p0[(Int.toNat (Int.tmod ((p1 * 5) + 1) (p0.length : Int)))]!).val : Int)) rfl) rfl ?_
    refine wl_nil ?_
    refine hK6 _ _ ?_
    refine w_ret ?_
    repeat first | with_reducible refine q_then ?_ | with_reducible refine q_block ?_
    exact ret1 rfl (by decide) ⟨_, hm, rfl, toExt hB0⟩

theorem m_laws_btoi_fn {w : World}  {Q : Int → Prop} (p0 : Bool) (hm : m_laws_btoi p0 Q) :
    Fn Try.prog 29 #[.bool p0] w (fun v w' => ∃ (r0 : Int), Q r0 ∧ v = .int .i64 r0 ∧ Ext w w') := by
  unfold m_laws_btoi at hm
  have hB0 := Below.refl w.heap.size w
  have hS0 : Sep w w.heap.size [] := Sep.nil (Nat.le_refl _)
  refine fn_of_wp Try.func29 rfl (by kernel_rfl) (Nat.le_of_ble_eq_true rfl) ?_
  refine w_seq fun K1 hK1 => ?_
  refine w_region ?_
  refine wl_val (g_assign (v := .int .i64 0) rfl) rfl ?_
  refine wl_nil ?_
  refine hK1 _ _ ?_
  refine w_seq fun K2 hK2 => ?_
  refine w_seq fun K3 hK3 => ?_
  refine w_region ?_
  refine wl_val (g_move (v := .bool p0) rfl) rfl ?_
  refine wl_nil ?_
  refine hK3 _ _ ?_
  refine w_condI (p := p0 = true) (b := p0) rfl Iff.rfl (fun h4 => ?_) (fun h4 => ?_)
  · replace hm := hm.1 h4
    refine w_seq fun K5 hK5 => ?_
    refine w_region ?_
    refine wl_val (g_assign (v := .int .i64 1) rfl) rfl ?_
    refine wl_nil ?_
    refine hK5 _ _ ?_
    refine w_ret ?_
    repeat first | with_reducible refine q_then ?_ | with_reducible refine q_block ?_
    exact ret1 rfl (by decide) ⟨_, hm, rfl, toExt hB0⟩
  · replace hm := hm.2 h4
    refine w_skip ?_
    refine hK2 _ _ ?_
    refine w_seq fun K6 hK6 => ?_
    refine w_region ?_
    refine wl_val (g_assign (v := .int .i64 0) rfl) rfl ?_
    refine wl_nil ?_
    refine hK6 _ _ ?_
    refine w_ret ?_
    repeat first | with_reducible refine q_then ?_ | with_reducible refine q_block ?_
    exact ret1 rfl (by decide) ⟨_, hm, rfl, toExt hB0⟩

theorem m_impl_put_fn {w : World} {a0 : Option Addr} {n0 c0 : Nat} {p0 : List Int} {Q : (List Int) → Prop} (hp0 : Vw w.heap.size w a0 n0 c0 p0) (p1 : Int) (hm : m_impl_put p0 p1 Q) :
    Fn Try.prog 85 #[.slice a0 n0 c0, .int .i64 p1] w (fun v w' => ∃ (r0 : List Int) (a0 : Option Addr) (n0 c0 : Nat), Q r0 ∧ v = .slice a0 n0 c0 ∧ Ext w w' ∧ Sep w' w.heap.size [oS 3 a0 n0 c0 r0]) := by
  unfold m_impl_put at hm
  have hB0 := Below.refl w.heap.size w
  have hS0 : Sep w w.heap.size [] := Sep.nil (Nat.le_refl _)
  refine fn_of_wp Try.func85 rfl (by kernel_rfl) (Nat.le_of_ble_eq_true rfl) ?_
  refine w_seq fun K1 hK1 => ?_
  refine w_region ?_
  refine wl_val (g_assign (v := .slice none 0 0) rfl) rfl ?_
  refine wl_nil ?_
  refine hK1 _ _ ?_
  refine w_seq fun K2 hK2 => ?_
  refine w_region ?_
  refine wl_step rfl (q_lit0 (α := Int) rfl SL39 hS0) ?_
  rintro _ w3 ⟨a4, rfl, hS6, hE5⟩
  have hB8 := hB0.trans (Ext.stp hE5 hS0.base)
  refine wl_val (g_assign (v := .slice a4 0 0) rfl) rfl ?_
  refine wl_val (g_assign (v := .bool false) rfl) rfl ?_
  refine wl_nil ?_
  refine hK2 _ _ ?_
  refine w_cut (σ := List Int × Option Addr × Nat × Nat × Bool) (fun ⟨x160, a161, n162, c163, v164⟩ => [(1, .int .i64 p1), (5, .slice a161 n162 c163), (6, .bool v164)]) (fun ⟨x160, a161, n162, c163, v164⟩ w' => m_impl_put_K1 p1 Q x160 v164 ∧ Below w.heap.size w w' ∧ Sep w' w.heap.size [oS 3 a161 n162 c163 (x160 : List Int)]) ?_ ?_
  · refine w_seq fun K166 hK166 => ?_
    refine w_region ?_
    refine wl_val (g_move (v := .slice a0 n0 c0) rfl) rfl ?_
    refine wl_val (q_len SL39 rfl (Vw.len (hp0.bel hB8))) rfl ?_
    refine wl_val (g_move (v := .int .i64 0) rfl) rfl ?_
    refine wl_nil ?_
    refine hK166 _ _ ?_
    refine w_block ?_
    obtain ⟨I173, μ174, h0175, hr176⟩ := hm
    refine w_for (σ := List Int × Option Addr × Nat × Nat × Bool × Int) (fun ⟨x167, a168, n169, c170, v171, v172⟩ => [(1, .int .i64 p1), (5, .slice a168 n169 c170), (6, .bool v171), (10, .slice a0 n0 c0), (11, .int .i64 (p0.length : Int)), (12, .int .i64 v172)]) (fun ⟨x167, a168, n169, c170, v171, v172⟩ w' => I173 x167 v171 v172 ∧ Below w.heap.size w w' ∧ Sep w' w.heap.size [oS 3 a168 n169 c170 (x167 : List Int)]) (fun ⟨x167, a168, n169, c170, v171, v172⟩ => μ174 x167 v171 v172) ([], a4, 0, 0, false, 0) ⟨rfl, rfl, rfl, rfl, rfl, rfl, trivial⟩ ⟨h0175, hB8, hS6⟩ ?_
    rintro ⟨x167, a168, n169, c170, v171, v172⟩ b_ w177 ⟨hi_, hB178, hS179⟩
    show Wp _ _ _ _ (upds b_ [(1, .int .i64 p1), (5, .slice a168 n169 c170), (6, .bool v171), (10, .slice a0 n0 c0), (11, .int .i64 (p0.length : Int)), (12, .int .i64 v172)]) w177
    have hm := hr176 x167 v171 v172 hi_
    refine w_seq fun K181 hK181 => ?_
    refine w_region ?_
    refine wl_val (g_lss (a := v172) (b := (p0.length : Int)) rfl rfl) rfl ?_
    refine wl_nil ?_
    refine hK181 _ _ ?_
    refine w_seq fun K182 hK182 => ?_
    refine w_condI (p := v172 < (p0.length : Int)) (b := (decide (v172 < (p0.length : Int)))) rfl decide_eq_true_iff (fun h183 => ?_) (fun h183 => ?_)
    · replace hm := hm.1 h183
      refine w_skip ?_
      refine hK182 _ _ ?_
      refine w_seq fun K184 hK184 => ?_
      refine w_block ?_
      refine w_seq fun K185 hK185 => ?_
      refine w_region ?_
      obtain ⟨hg186, hm⟩ := hm
      refine wl_val (q_index (i := v172) SL39 rfl rfl (hp0.bel hB178) hg186) rfl ?_
      refine wl_val (q_load (i := v172) (v := .int .i64 (p0[(Int.toNat v172)]!)) ON3 (hp0.bel hB178) hg186 rfl rfl) rfl ?_
      refine wl_val (g_assign (v := .int .i64 (p0[(Int.toNat v172)]!)) rfl) rfl ?_
      refine wl_nil ?_
      refine hK185 _ _ ?_
      refine w_cut (σ := List Int × Option Addr × Nat × Nat × Bool) (fun ⟨x187, a188, n189, c190, v191⟩ => [(1, .int .i64 p1), (5, .slice a188 n189 c190), (6, .bool v191), (8, .int .i64 (p0[(Int.toNat v172)]!)), (10, .slice a0 n0 c0), (11, .int .i64 (p0.length : Int)), (12, .int .i64 v172)]) (fun ⟨x187, a188, n189, c190, v191⟩ w' => m_impl_put_K0 p0 v172 (fun x167' v171' v172' => I173 x167' v171' v172' ∧ μ174 x167' v171' v172' < μ174 x167 v171 v172) x187 v191 ∧ Below w.heap.size w w' ∧ Sep w' w.heap.size [oS 3 a188 n189 c190 (x187 : List Int)]) ?_ ?_
      · refine w_seq fun K193 hK193 => ?_
        refine w_region ?_
        refine wl_val (g_move (v := .bool v171) rfl) rfl ?_
        refine wl_val (g_not (a := v171) rfl) rfl ?_
        refine wl_val (g_move (v := .bool (!v171)) rfl) rfl ?_
        refine wl_guard (c := (!v171) = true) (val := .int .i64 p1) (b := ((!v171) == true)) (gv_some rfl rfl rfl) beq_iff_eq (fun hc194 => ?_) ?_
        · have hcq2 : ¬ (v171 = true) := ((i_not Iff.rfl).mp hc194)
          exact g_move (v := .int .i64 p1) rfl
        refine wl_guard (c := (!v171) = true) (val := .int .i64 (p0[(Int.toNat v172)]!)) (b := ((!v171) == true)) (gv_some rfl rfl rfl) beq_iff_eq (fun hc195 => ?_) ?_
        · have hcq2 : ¬ (v171 = true) := ((i_not Iff.rfl).mp hc195)
          exact g_move (v := .int .i64 (p0[(Int.toNat v172)]!)) rfl
        refine wl_guard (c := (!v171) = true) (val := .bool (decide (p1 ≤ p0[(Int.toNat v172)]!))) (b := ((!v171) == true)) (gv_some rfl rfl rfl) beq_iff_eq (fun hc196 => ?_) ?_
        · have hcq2 : ¬ (v171 = true) := ((i_not Iff.rfl).mp hc196)
          exact g_leq (a := p1) (b := p0[(Int.toNat v172)]!) (if_pos hc196) (if_pos hc196)
        refine wl_val (g_pick_and (b := (!v171)) (q := (decide (p1 ≤ p0[(Int.toNat v172)]!))) rfl rfl) rfl ?_
        refine wl_nil ?_
        refine hK193 _ _ ?_
        refine w_condI (p := ((¬ (v171 = true)) ∧ (p1 ≤ p0[(Int.toNat v172)]!))) (b := ((!v171) && (decide (p1 ≤ p0[(Int.toNat v172)]!)))) rfl (i_and (i_not Iff.rfl) decide_eq_true_iff) (fun h197 => ?_) (fun h197 => ?_)
        · replace hm := hm.1 h197
          refine w_seq fun K198 hK198 => ?_
          refine w_region ?_
          refine wl_val (g_move (v := .slice a168 n169 c170) rfl) rfl ?_
          refine wl_val (g_move (v := .int .i64 p1) rfl) rfl ?_
          refine wl_step rfl (q_lit1 (y := (p1 : Int)) SL39 rfl rfl (by decide) hS179) ?_
          rintro _ w199 ⟨a200, rfl, hS202, hE201⟩
          have hB204 := hB178.trans (Ext.stp hE201 hS179.base)
          have hS210 := hS202.f1
          obtain ⟨hg211, hm⟩ := hm
          refine wl_step rfl (q_append SL39 rfl rfl hS210 (oS.vw hS210.g1) hg211 (by decide)) ?_
          rintro _ w205 ⟨a206, c207, rfl, hS209, hb208⟩
          have hB212 := hB204.trans hb208
          refine wl_val (g_assign (v := .slice a206 (n169 + 1) c207) rfl) rfl ?_
          refine wl_nil ?_
          refine hK198 _ _ ?_
          refine w_region ?_
          refine wl_val (g_assign (v := .bool true) rfl) rfl ?_
          refine wl_nil ?_
          have hS213 := hS209.f1
          have hS214 := hS213.tail
          exact ⟨((x167 ++ ([p1])), a206, (n169 + 1), c207, true), ⟨rfl, rfl, rfl, rfl, rfl, rfl, rfl, trivial⟩, ⟨hm, hB212, hS214⟩⟩
        · replace hm := hm.2 h197
          refine w_skip ?_
          exact ⟨(x167, a168, n169, c170, v171), ⟨rfl, rfl, rfl, rfl, rfl, rfl, rfl, trivial⟩, ⟨hm, hB178, hS179⟩⟩
      · rintro ⟨x187, a188, n189, c190, v191⟩ b_ w215 ⟨hm, hB216, hS217⟩
        show Wp _ _ _ _ (upds b_ [(1, .int .i64 p1), (5, .slice a188 n189 c190), (6, .bool v191), (8, .int .i64 (p0[(Int.toNat v172)]!)), (10, .slice a0 n0 c0), (11, .int .i64 (p0.length : Int)), (12, .int .i64 v172)]) w215
        refine w_region ?_
        refine wl_val (g_move (v := .slice a188 n189 c190) rfl) rfl ?_
        refine wl_val (g_move (v := .int .i64 (p0[(Int.toNat v172)]!)) rfl) rfl ?_
        refine wl_step rfl (q_lit1 (y := (p0[(Int.toNat v172)]! : Int)) SL39 rfl rfl (by decide) hS217) ?_
        rintro _ w218 ⟨a219, rfl, hS221, hE220⟩
        have hB223 := hB216.trans (Ext.stp hE220 hS217.base)
        have hS229 := hS221.f1
        obtain ⟨hg230, hm⟩ := hm
        refine wl_step rfl (q_append SL39 rfl rfl hS229 (oS.vw hS229.g1) hg230 (by decide)) ?_
        rintro _ w224 ⟨a225, c226, rfl, hS228, hb227⟩
        have hB231 := hB223.trans hb227
        refine wl_val (g_assign (v := .slice a225 (n189 + 1) c226) rfl) rfl ?_
        refine wl_nil ?_
        refine hK184 _ _ ?_
        refine w_region ?_
        obtain ⟨hg232, hm⟩ := hm
        refine wl_val (g_add (a := v172) (b := 1) rfl rfl hg232) rfl ?_
        refine wl_val (g_move (v := .int .i64 (v172 + 1)) rfl) rfl ?_
        refine wl_nil ?_
        have hS233 := hS228.f1
        have hS234 := hS233.tail
        exact ⟨((x187 ++ ([p0[(Int.toNat v172)]!])), a225, (n189 + 1), c226, v191, (v172 + 1)), hm.2, ⟨rfl, rfl, rfl, rfl, rfl, rfl, trivial⟩, ⟨hm.1, hB231, hS234⟩⟩
    · replace hm := hm.2 h183
      refine w_exit ?_
      exact ⟨(x167, a168, n169, c170, v171), ⟨rfl, rfl, rfl, trivial⟩, ⟨hm, hB178, hS179⟩⟩
  · rintro ⟨x160, a161, n162, c163, v164⟩ b_ w235 ⟨hm, hB236, hS237⟩
    show Wp _ _ _ _ (upds b_ [(1, .int .i64 p1), (5, .slice a161 n162 c163), (6, .bool v164)]) w235
    refine w_seq fun K238 hK238 => ?_
    refine w_seq fun K239 hK239 => ?_
    refine w_region ?_
    refine wl_val (g_move (v := .bool v164) rfl) rfl ?_
    refine wl_val (g_not (a := v164) rfl) rfl ?_
    refine wl_nil ?_
    refine hK239 _ _ ?_
    refine w_condI (p := ¬ (v164 = true)) (b := (!v164)) rfl (i_not Iff.rfl) (fun h240 => ?_) (fun h240 => ?_)
    · replace hm := hm.1 h240
      refine w_region ?_
      refine wl_val (g_move (v := .slice a161 n162 c163) rfl) rfl ?_
      refine wl_val (g_move (v := .int .i64 p1) rfl) rfl ?_
      refine wl_step rfl (q_lit1 (y := (p1 : Int)) SL39 rfl rfl (by decide) hS237) ?_
      rintro _ w241 ⟨a242, rfl, hS244, hE243⟩
      have hB246 := hB236.trans (Ext.stp hE243 hS237.base)
      have hS252 := hS244.f1
      obtain ⟨hg253, hm⟩ := hm
      refine wl_step rfl (q_append SL39 rfl rfl hS252 (oS.vw hS252.g1) hg253 (by decide)) ?_
      rintro _ w247 ⟨a248, c249, rfl, hS251, hb250⟩
      have hB254 := hB246.trans hb250
      refine wl_val (g_assign (v := .slice a248 (n162 + 1) c249) rfl) rfl ?_
      refine wl_nil ?_
      refine hK238 _ _ ?_
      refine w_seq fun K255 hK255 => ?_
      refine w_region ?_
      refine wl_val (g_move (v := .slice a248 (n162 + 1) c249) rfl) rfl ?_
      refine wl_val (g_assign (v := .slice a248 (n162 + 1) c249) rfl) rfl ?_
      refine wl_nil ?_
      refine hK255 _ _ ?_
      refine w_ret ?_
      have hS256 := hS251.f1
      have hS257 := hS256.tail
      repeat first | with_reducible refine q_then ?_ | with_reducible refine q_block ?_
      exact ret1 rfl (by decide) ⟨_, _, _, _, hm, rfl, toExt hB254, hS257⟩
    · replace hm := hm.2 h240
      refine w_skip ?_
      refine hK238 _ _ ?_
      refine w_seq fun K258 hK258 => ?_
      refine w_region ?_
      refine wl_val (g_move (v := .slice a161 n162 c163) rfl) rfl ?_
      refine wl_val (g_assign (v := .slice a161 n162 c163) rfl) rfl ?_
      refine wl_nil ?_
      refine hK258 _ _ ?_
      refine w_ret ?_
      repeat first | with_reducible refine q_then ?_ | with_reducible refine q_block ?_
      exact ret1 rfl (by decide) ⟨_, _, _, _, hm, rfl, toExt hB236, hS237⟩

theorem m_impl_sorted_fn {w : World} {a0 : Option Addr} {n0 c0 : Nat} {p0 : List Int} {Q : (List Int) → Prop} (hp0 : Vw w.heap.size w a0 n0 c0 p0) (hm : m_impl_sorted p0 Q) :
    Fn Try.prog 83 #[.slice a0 n0 c0] w (fun v w' => ∃ (r0 : List Int) (a0 : Option Addr) (n0 c0 : Nat), Q r0 ∧ v = .slice a0 n0 c0 ∧ Ext w w' ∧ Sep w' w.heap.size [oS 3 a0 n0 c0 r0]) := by
  unfold m_impl_sorted at hm
  have hB0 := Below.refl w.heap.size w
  have hS0 : Sep w w.heap.size [] := Sep.nil (Nat.le_refl _)
  refine fn_of_wp Try.func83 rfl (by kernel_rfl) (Nat.le_of_ble_eq_true rfl) ?_
  refine w_seq fun K1 hK1 => ?_
  refine w_region ?_
  refine wl_val (g_assign (v := .slice none 0 0) rfl) rfl ?_
  refine wl_nil ?_
  refine hK1 _ _ ?_
  refine w_seq fun K2 hK2 => ?_
  refine w_region ?_
  refine wl_step rfl (q_lit0 (α := Int) rfl SL39 hS0) ?_
  rintro _ w3 ⟨a4, rfl, hS6, hE5⟩
  have hB8 := hB0.trans (Ext.stp hE5 hS0.base)
  refine wl_val (g_assign (v := .slice a4 0 0) rfl) rfl ?_
  refine wl_nil ?_
  refine hK2 _ _ ?_
  refine w_cut (σ := List Int × Option Addr × Nat × Nat) (fun ⟨x68, a69, n70, c71⟩ => [(3, .slice a69 n70 c71)]) (fun ⟨x68, a69, n70, c71⟩ w' => m_impl_sorted_K0 Q x68 ∧ Below w.heap.size w w' ∧ Sep w' w.heap.size [oS 3 a69 n70 c71 (x68 : List Int)]) ?_ ?_
  · refine w_seq fun K73 hK73 => ?_
    refine w_region ?_
    refine wl_val (g_move (v := .slice a0 n0 c0) rfl) rfl ?_
    refine wl_val (q_len SL39 rfl (Vw.len (hp0.bel hB8))) rfl ?_
    refine wl_val (g_move (v := .int .i64 0) rfl) rfl ?_
    refine wl_nil ?_
    refine hK73 _ _ ?_
    refine w_block ?_
    obtain ⟨I79, μ80, h081, hr82⟩ := hm
    refine w_for (σ := List Int × Option Addr × Nat × Nat × Int) (fun ⟨x74, a75, n76, c77, v78⟩ => [(3, .slice a75 n76 c77), (7, .slice a0 n0 c0), (8, .int .i64 (p0.length : Int)), (9, .int .i64 v78)]) (fun ⟨x74, a75, n76, c77, v78⟩ w' => I79 x74 v78 ∧ Below w.heap.size w w' ∧ Sep w' w.heap.size [oS 3 a75 n76 c77 (x74 : List Int)]) (fun ⟨x74, a75, n76, c77, v78⟩ => μ80 x74 v78) ([], a4, 0, 0, 0) ⟨rfl, rfl, rfl, rfl, trivial⟩ ⟨h081, hB8, hS6⟩ ?_
    rintro ⟨x74, a75, n76, c77, v78⟩ b_ w83 ⟨hi_, hB84, hS85⟩
    show Wp _ _ _ _ (upds b_ [(3, .slice a75 n76 c77), (7, .slice a0 n0 c0), (8, .int .i64 (p0.length : Int)), (9, .int .i64 v78)]) w83
    have hm := hr82 x74 v78 hi_
    refine w_seq fun K87 hK87 => ?_
    refine w_region ?_
    refine wl_val (g_lss (a := v78) (b := (p0.length : Int)) rfl rfl) rfl ?_
    refine wl_nil ?_
    refine hK87 _ _ ?_
    refine w_seq fun K88 hK88 => ?_
    refine w_condI (p := v78 < (p0.length : Int)) (b := (decide (v78 < (p0.length : Int)))) rfl decide_eq_true_iff (fun h89 => ?_) (fun h89 => ?_)
    · replace hm := hm.1 h89
      refine w_skip ?_
      refine hK88 _ _ ?_
      refine w_seq fun K90 hK90 => ?_
      refine w_block ?_
      refine w_seq fun K91 hK91 => ?_
      refine w_region ?_
      obtain ⟨hg92, hm⟩ := hm
      refine wl_val (q_index (i := v78) SL39 rfl rfl (hp0.bel hB84) hg92) rfl ?_
      refine wl_val (q_load (i := v78) (v := .int .i64 (p0[(Int.toNat v78)]!)) ON3 (hp0.bel hB84) hg92 rfl rfl) rfl ?_
      refine wl_val (g_assign (v := .int .i64 (p0[(Int.toNat v78)]!)) rfl) rfl ?_
      refine wl_nil ?_
      refine hK91 _ _ ?_
      refine w_region ?_
      refine wl_val (g_move (v := .slice a75 n76 c77) rfl) rfl ?_
      refine wl_val (g_move (v := .int .i64 (p0[(Int.toNat v78)]!)) rfl) rfl ?_
      refine wl_step rfl (g_call (vs := #[.slice a75 n76 c77, .int .i64 (p0[(Int.toNat v78)]!)]) CF85 (args2 rfl rfl) (m_impl_put_fn (oS.vw hS85.g0) (p0[(Int.toNat v78)]!) hm)) ?_
      rintro _ w93 ⟨r96, a97, n98, c99, hm, rfl, hE94, hN95⟩
      have hS101 := hS85.call1 hE94 hN95
      have hB102 := hB84.trans (Ext.stp hE94 hS85.base)
      refine wl_val (g_assign (v := .slice a97 n98 c99) rfl) rfl ?_
      refine wl_nil ?_
      refine hK90 _ _ ?_
      refine w_region ?_
      obtain ⟨hg103, hm⟩ := hm
      refine wl_val (g_add (a := v78) (b := 1) rfl rfl hg103) rfl ?_
      refine wl_val (g_move (v := .int .i64 (v78 + 1)) rfl) rfl ?_
      refine wl_nil ?_
      have hS104 := hS101.f1
      have hS105 := hS104.tail
      exact ⟨(r96, a97, n98, c99, (v78 + 1)), hm.2, ⟨rfl, rfl, rfl, rfl, trivial⟩, ⟨hm.1, hB102, hS105⟩⟩
    · replace hm := hm.2 h89
      refine w_exit ?_
      exact ⟨(x74, a75, n76, c77), ⟨rfl, trivial⟩, ⟨hm, hB84, hS85⟩⟩
  · rintro ⟨x68, a69, n70, c71⟩ b_ w106 ⟨hm, hB107, hS108⟩
    show Wp _ _ _ _ (upds b_ [(3, .slice a69 n70 c71)]) w106
    refine w_seq fun K109 hK109 => ?_
    refine w_region ?_
    refine wl_val (g_move (v := .slice a69 n70 c71) rfl) rfl ?_
    refine wl_val (g_assign (v := .slice a69 n70 c71) rfl) rfl ?_
    refine wl_nil ?_
    refine hK109 _ _ ?_
    refine w_ret ?_
    repeat first | with_reducible refine q_then ?_ | with_reducible refine q_block ?_
    exact ret1 rfl (by decide) ⟨_, _, _, _, hm, rfl, toExt hB107, hS108⟩

theorem m_impl_allWithin_fn {w : World} {a0 : Option Addr} {n0 c0 : Nat} {p0 : List Int} {Q : Bool → Prop} (hp0 : Vw w.heap.size w a0 n0 c0 p0) (p1 : Int) (p2 : Int) (hm : m_impl_allWithin p0 p1 p2 Q) :
    Fn Try.prog 84 #[.slice a0 n0 c0, .int .i64 p1, .int .i64 p2] w (fun v w' => ∃ (r0 : Bool), Q r0 ∧ v = .bool r0 ∧ Ext w w') := by
  unfold m_impl_allWithin at hm
  have hB0 := Below.refl w.heap.size w
  have hS0 : Sep w w.heap.size [] := Sep.nil (Nat.le_refl _)
  refine fn_of_wp Try.func84 rfl (by kernel_rfl) (Nat.le_of_ble_eq_true rfl) ?_
  refine w_seq fun K1 hK1 => ?_
  refine w_region ?_
  refine wl_val (g_assign (v := .bool false) rfl) rfl ?_
  refine wl_nil ?_
  refine hK1 _ _ ?_
  refine w_cut (σ := Unit) (fun _ => []) (fun _ w' => m_impl_allWithin_K0 Q ∧ Below w.heap.size w w' ∧ Sep w' w.heap.size []) ?_ ?_
  · refine w_seq fun K3 hK3 => ?_
    refine w_region ?_
    refine wl_val (g_move (v := .slice a0 n0 c0) rfl) rfl ?_
    refine wl_val (q_len SL39 rfl (Vw.len (hp0.bel hB0))) rfl ?_
    refine wl_val (g_move (v := .int .i64 0) rfl) rfl ?_
    refine wl_nil ?_
    refine hK3 _ _ ?_
    refine w_block ?_
    obtain ⟨I29, μ30, h031, hr32⟩ := hm
    refine w_for (σ := Int) (fun v28 => [(1, .int .i64 p1), (2, .int .i64 p2), (9, .slice a0 n0 c0), (10, .int .i64 (p0.length : Int)), (11, .int .i64 v28)]) (fun v28 w' => I29 v28 ∧ Below w.heap.size w w' ∧ Sep w' w.heap.size []) (fun v28 => μ30 v28) (0) ⟨rfl, rfl, rfl, rfl, rfl, trivial⟩ ⟨h031, hB0, hS0⟩ ?_
    rintro v28 b_ w33 ⟨hi_, hB34, hS35⟩
    show Wp _ _ _ _ (upds b_ [(1, .int .i64 p1), (2, .int .i64 p2), (9, .slice a0 n0 c0), (10, .int .i64 (p0.length : Int)), (11, .int .i64 v28)]) w33
    have hm := hr32 v28 hi_
    refine w_seq fun K37 hK37 => ?_
    refine w_region ?_
    refine wl_val (g_lss (a := v28) (b := (p0.length : Int)) rfl rfl) rfl ?_
    refine wl_nil ?_
    refine hK37 _ _ ?_
    refine w_seq fun K38 hK38 => ?_
    refine w_condI (p := v28 < (p0.length : Int)) (b := (decide (v28 < (p0.length : Int)))) rfl decide_eq_true_iff (fun h39 => ?_) (fun h39 => ?_)
    · replace hm := hm.1 h39
      refine w_skip ?_
      refine hK38 _ _ ?_
      refine w_seq fun K40 hK40 => ?_
      refine w_block ?_
      refine w_seq fun K41 hK41 => ?_
      refine w_region ?_
      obtain ⟨hg42, hm⟩ := hm
      refine wl_val (q_index (i := v28) SL39 rfl rfl (hp0.bel hB34) hg42) rfl ?_
      refine wl_val (q_load (i := v28) (v := .int .i64 (p0[(Int.toNat v28)]!)) ON3 (hp0.bel hB34) hg42 rfl rfl) rfl ?_
      refine wl_val (g_assign (v := .int .i64 (p0[(Int.toNat v28)]!)) rfl) rfl ?_
      refine wl_nil ?_
      refine hK41 _ _ ?_
      refine w_seq fun K43 hK43 => ?_
      refine w_region ?_
      refine wl_val (g_move (v := .int .i64 (p0[(Int.toNat v28)]!)) rfl) rfl ?_
      refine wl_val (g_move (v := .int .i64 p1) rfl) rfl ?_
      refine wl_val (g_move (v := .int .i64 p2) rfl) rfl ?_
      refine wl_step rfl (g_call (vs := #[.int .i64 (p0[(Int.toNat v28)]!), .int .i64 p1, .int .i64 p2]) CF54 (args3 rfl rfl rfl) (m_impl_within_fn (p0[(Int.toNat v28)]!) p1 p2 hm)) ?_
      rintro _ w44 ⟨r47, hm, rfl, hE45⟩
      have hB48 := hB34.trans (Ext.stp hE45 hS35.base)
      have hS49 := hS35.ext hE45
      refine wl_val (g_not (a := r47) rfl) rfl ?_
      refine wl_nil ?_
      refine hK43 _ _ ?_
      refine w_condI (p := ¬ (r47 = true)) (b := (!r47)) rfl (i_not Iff.rfl) (fun h50 => ?_) (fun h50 => ?_)
      · replace hm := hm.1 h50
        refine w_seq fun K51 hK51 => ?_
        refine w_region ?_
        refine wl_val (g_assign (v := .bool false) rfl) rfl ?_
        refine wl_nil ?_
        refine hK51 _ _ ?_
        refine w_ret ?_
        repeat first | with_reducible refine q_then ?_ | with_reducible refine q_block ?_
        exact ret1 rfl (by decide) ⟨_, hm, rfl, toExt hB48⟩
      · replace hm := hm.2 h50
        refine w_skip ?_
        refine hK40 _ _ ?_
        refine w_region ?_
        obtain ⟨hg52, hm⟩ := hm
        refine wl_val (g_add (a := v28) (b := 1) rfl rfl hg52) rfl ?_
        refine wl_val (g_move (v := .int .i64 (v28 + 1)) rfl) rfl ?_
        refine wl_nil ?_
        exact ⟨((v28 + 1)), hm.2, ⟨rfl, rfl, rfl, rfl, rfl, trivial⟩, ⟨hm.1, hB48, hS49⟩⟩
    · replace hm := hm.2 h39
      refine w_exit ?_
      exact ⟨(), trivial, ⟨hm, hB34, hS35⟩⟩
  · rintro _ b_ w53 ⟨hm, hB54, hS55⟩
    show Wp _ _ _ _ (upds b_ []) w53
    refine w_seq fun K56 hK56 => ?_
    refine w_region ?_
    refine wl_val (g_assign (v := .bool true) rfl) rfl ?_
    refine wl_nil ?_
    refine hK56 _ _ ?_
    refine w_ret ?_
    repeat first | with_reducible refine q_then ?_ | with_reducible refine q_block ?_
    exact ret1 rfl (by decide) ⟨_, hm, rfl, toExt hB54⟩

end Go.Proofs.Ytcgkcoogaieolaa
