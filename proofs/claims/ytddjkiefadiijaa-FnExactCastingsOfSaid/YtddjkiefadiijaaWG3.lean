/- The walks: the code does what its model says. Printed by a program (gen2.py). No statement of the claim stands here. -/
import Derived.Test.YtddjkiefadiijaaSop
import Derived.Test.YtddjkiefadiijaaFacts
import Derived.Test.YtddjkiefadiijaaMG
import Derived.Test.YtddjkiefadiijaaWG1
import Derived.Test.YtddjkiefadiijaaWG2
namespace Go.Proofs.Ytddjkiefadiijaa
open Go Go.RowKit
set_option maxRecDepth 100000
theorem m_impl_castings_1_CastingsOf_1_step_fn {rec_ : (List Int) → (List Int) → (List PlayerC) → (List Int) → (List (List Int)) → (Bool → (List Int) → (List Int) → (List (List Int)) → Prop) → Prop} (ih : ∀ {w : World} {B_ : Nat} {L_ : List Ob} {gq0 : Nat} {aq0 : Option Addr} {nq0 cq0 : Nat} {q0 : List Int} {gq1 : Nat} {aq1 : Option Addr} {nq1 cq1 : Nat} {q1 : List Int} {gq2 : Nat} {gq3 : Nat} {aq3 : Option Addr} {nq3 cq3 : Nat} {yq3 : List PlayerD} {q3 : List PlayerC} {gq4 : Nat} {aq4 : Option Addr} {nq4 cq4 : Nat} {q4 : List Int} {gq5 : Nat} {gq2_0 : Nat} {aq2_0 : Option Addr} {nq2_0 cq2_0 : Nat} {q2_0 : List (List Int)} {yq2_0 : List (Hd Int)} {Q : Bool → (List Int) → (List Int) → (List (List Int)) → Prop} (hS0 : Sep w B_ (oB gq0 23 #[.slice aq0 nq0 cq0] :: oS 3 aq0 nq0 cq0 (q0 : List Int) :: oB gq1 23 #[.slice aq1 nq1 cq1] :: oB gq2 67 #[.func (.func 72) #[] #[.pointer (some (⟨gq2_0, 0, none⟩ : Addr))]] :: oB gq3 27 #[.slice aq3 nq3 cq3] :: oB gq4 23 #[.slice aq4 nq4 cq4] :: oS 3 aq4 nq4 cq4 (q4 : List Int) :: oB gq5 86 #[.func (.func 91) #[] #[.pointer (some (⟨gq0, 0, none⟩ : Addr)), .pointer (some (⟨gq1, 0, none⟩ : Addr)), .pointer (some (⟨gq2, 0, none⟩ : Addr)), .pointer (some (⟨gq3, 0, none⟩ : Addr)), .pointer (some (⟨gq4, 0, none⟩ : Addr)), .pointer (some (⟨gq5, 0, none⟩ : Addr))]] :: oB gq2_0 37 #[.slice aq2_0 nq2_0 cq2_0] :: oS 23 aq2_0 nq2_0 cq2_0 (yq2_0 : List (Hd Int)) :: oT 3 (yq2_0 : List (Hd Int)) :: L_)) (hq1 : Vw B_ w aq1 nq1 cq1 q1) (hq3 : Tv B_ w aq3 nq3 cq3 yq3 q3) (heq2_0 : ers yq2_0 = q2_0) (hm : rec_ q0 q1 q3 q4 q2_0 Q), Fn Try.prog 91 #[.pointer (some (⟨gq0, 0, none⟩ : Addr)), .pointer (some (⟨gq1, 0, none⟩ : Addr)), .pointer (some (⟨gq2, 0, none⟩ : Addr)), .pointer (some (⟨gq3, 0, none⟩ : Addr)), .pointer (some (⟨gq4, 0, none⟩ : Addr)), .pointer (some (⟨gq5, 0, none⟩ : Addr))] w (fun v w' => ∃ (r0 : Bool) (x0 : List Int) (aa0 : Option Addr) (nn0 cc0 : Nat) (x1 : List Int) (aa1 : Option Addr) (nn1 cc1 : Nat) (x2 : List (List Int)) (aa2 : Option Addr) (nn2 cc2 : Nat) (yy2 : List (Hd Int)), Q r0 x0 x1 x2 ∧ ers yy2 = x2 ∧ v = .bool r0 ∧ Below B_ w w' ∧ Sep w' B_ (oB gq0 23 #[.slice aa0 nn0 cc0] :: oS 3 aa0 nn0 cc0 x0 :: oB gq1 23 #[.slice aq1 nq1 cq1] :: oB gq2 67 #[.func (.func 72) #[] #[.pointer (some (⟨gq2_0, 0, none⟩ : Addr))]] :: oB gq3 27 #[.slice aq3 nq3 cq3] :: oB gq4 23 #[.slice aa1 nn1 cc1] :: oS 3 aa1 nn1 cc1 x1 :: oB gq5 86 #[.func (.func 91) #[] #[.pointer (some (⟨gq0, 0, none⟩ : Addr)), .pointer (some (⟨gq1, 0, none⟩ : Addr)), .pointer (some (⟨gq2, 0, none⟩ : Addr)), .pointer (some (⟨gq3, 0, none⟩ : Addr)), .pointer (some (⟨gq4, 0, none⟩ : Addr)), .pointer (some (⟨gq5, 0, none⟩ : Addr))]] :: oB gq2_0 37 #[.slice aa2 nn2 cc2] :: oS 23 aa2 nn2 cc2 yy2 :: oT 3 yy2 :: L_))) {w : World} {B_ : Nat} {L_ : List Ob} {gq0 : Nat} {aq0 : Option Addr} {nq0 cq0 : Nat} {q0 : List Int} {gq1 : Nat} {aq1 : Option Addr} {nq1 cq1 : Nat} {q1 : List Int} {gq2 : Nat} {gq3 : Nat} {aq3 : Option Addr} {nq3 cq3 : Nat} {yq3 : List PlayerD} {q3 : List PlayerC} {gq4 : Nat} {aq4 : Option Addr} {nq4 cq4 : Nat} {q4 : List Int} {gq5 : Nat} {gq2_0 : Nat} {aq2_0 : Option Addr} {nq2_0 cq2_0 : Nat} {q2_0 : List (List Int)} {yq2_0 : List (Hd Int)} {Q : Bool → (List Int) → (List Int) → (List (List Int)) → Prop} (hS0 : Sep w B_ (oB gq0 23 #[.slice aq0 nq0 cq0] :: oS 3 aq0 nq0 cq0 (q0 : List Int) :: oB gq1 23 #[.slice aq1 nq1 cq1] :: oB gq2 67 #[.func (.func 72) #[] #[.pointer (some (⟨gq2_0, 0, none⟩ : Addr))]] :: oB gq3 27 #[.slice aq3 nq3 cq3] :: oB gq4 23 #[.slice aq4 nq4 cq4] :: oS 3 aq4 nq4 cq4 (q4 : List Int) :: oB gq5 86 #[.func (.func 91) #[] #[.pointer (some (⟨gq0, 0, none⟩ : Addr)), .pointer (some (⟨gq1, 0, none⟩ : Addr)), .pointer (some (⟨gq2, 0, none⟩ : Addr)), .pointer (some (⟨gq3, 0, none⟩ : Addr)), .pointer (some (⟨gq4, 0, none⟩ : Addr)), .pointer (some (⟨gq5, 0, none⟩ : Addr))]] :: oB gq2_0 37 #[.slice aq2_0 nq2_0 cq2_0] :: oS 23 aq2_0 nq2_0 cq2_0 (yq2_0 : List (Hd Int)) :: oT 3 (yq2_0 : List (Hd Int)) :: L_)) (hq1 : Vw B_ w aq1 nq1 cq1 q1) (hq3 : Tv B_ w aq3 nq3 cq3 yq3 q3) (heq2_0 : ers yq2_0 = q2_0) (hm : m_impl_castings_1_CastingsOf_1_step rec_ q0 q1 q3 q4 q2_0 Q) :
    Fn Try.prog 91 #[.pointer (some (⟨gq0, 0, none⟩ : Addr)), .pointer (some (⟨gq1, 0, none⟩ : Addr)), .pointer (some (⟨gq2, 0, none⟩ : Addr)), .pointer (some (⟨gq3, 0, none⟩ : Addr)), .pointer (some (⟨gq4, 0, none⟩ : Addr)), .pointer (some (⟨gq5, 0, none⟩ : Addr))] w (fun v w' => ∃ (r0 : Bool) (x0 : List Int) (aa0 : Option Addr) (nn0 cc0 : Nat) (x1 : List Int) (aa1 : Option Addr) (nn1 cc1 : Nat) (x2 : List (List Int)) (aa2 : Option Addr) (nn2 cc2 : Nat) (yy2 : List (Hd Int)), Q r0 x0 x1 x2 ∧ ers yy2 = x2 ∧ v = .bool r0 ∧ Below B_ w w' ∧ Sep w' B_ (oB gq0 23 #[.slice aa0 nn0 cc0] :: oS 3 aa0 nn0 cc0 x0 :: oB gq1 23 #[.slice aq1 nq1 cq1] :: oB gq2 67 #[.func (.func 72) #[] #[.pointer (some (⟨gq2_0, 0, none⟩ : Addr))]] :: oB gq3 27 #[.slice aq3 nq3 cq3] :: oB gq4 23 #[.slice aa1 nn1 cc1] :: oS 3 aa1 nn1 cc1 x1 :: oB gq5 86 #[.func (.func 91) #[] #[.pointer (some (⟨gq0, 0, none⟩ : Addr)), .pointer (some (⟨gq1, 0, none⟩ : Addr)), .pointer (some (⟨gq2, 0, none⟩ : Addr)), .pointer (some (⟨gq3, 0, none⟩ : Addr)), .pointer (some (⟨gq4, 0, none⟩ : Addr)), .pointer (some (⟨gq5, 0, none⟩ : Addr))]] :: oB gq2_0 37 #[.slice aa2 nn2 cc2] :: oS 23 aa2 nn2 cc2 yy2 :: oT 3 yy2 :: L_)) := by
  unfold m_impl_castings_1_CastingsOf_1_step at hm
  have hB0 := Below.refl B_ w
  refine fn_of_wp Try.func91 rfl (by kernel_rfl) (Nat.le_of_ble_eq_true rfl) ?_
  refine w_seq fun K13 hK13 => ?_
  refine w_region ?_
  refine wl_val (g_assign (v := .bool false) rfl) rfl ?_
  refine wl_nil ?_
  refine hK13 _ _ ?_
  refine w_seq fun K14 hK14 => ?_
  refine w_seq fun K15 hK15 => ?_
  refine w_region ?_
  refine wl_val (q_loadB (i := 0) (bs := #[.slice aq0 nq0 cq0]) hS0.g0 ON23 rfl rfl) rfl ?_
  refine wl_val (q_len SL23 rfl (Vw.len (oS.vw hS0.g1))) rfl ?_
  refine wl_val (q_loadB (i := 0) (bs := #[.slice aq1 nq1 cq1]) hS0.g2 ON23 rfl rfl) rfl ?_
  refine wl_val (q_len SL23 rfl (Vw.len (hq1.bel hB0))) rfl ?_
  refine wl_val (g_eql (a := (q0.length : Int)) (b := (q1.length : Int)) rfl rfl) rfl ?_
  refine wl_nil ?_
  refine hK15 _ _ ?_
  refine w_condI (p := (q0.length : Int) = (q1.length : Int)) (b := (decide ((q0.length : Int) = (q1.length : Int)))) rfl decide_eq_true_iff (fun h16 => ?_) (fun h16 => ?_)
  · replace hm := hm.1 h16
    refine w_seq fun K17 hK17 => ?_
    refine w_draw (X := Ext) (Y := Ext) [0, 0, 2, 1, 0] MIX (by decide +kernel) rfl Ext.refl (fun _ _ _ => Ext.trans) (fun _ _ _ => Chg.trans) (fun _ _ h => Ext.chg h _) (fun w18 hE19 => ?_)
    have hB20 := hB0.trans (Ext.stp hE19 hS0.base)
    have hS21 := hS0.ext hE19
    refine ⟨.func (.func 72) #[] #[.pointer (some (⟨gq2_0, 0, none⟩ : Addr))], fun w22 hX23 => od_plain rfl (by have hS24 := hS21.ext hX23; have hB25 := hB20.trans (Ext.stp hX23 hS21.base); exact is_ext (q_loadB (i := 0) (bs := #[.func (.func 72) #[] #[.pointer (some (⟨gq2_0, 0, none⟩ : Addr))]]) hS24.g3 ON67 rfl rfl)), ?_⟩
    refine ⟨.slice aq0 nq0 cq0, fun w26 hX27 => od_plain rfl (by have hS28 := hS21.ext hX27; have hB29 := hB20.trans (Ext.stp hX27 hS21.base); exact is_ext (q_loadB (i := 0) (bs := #[.slice aq0 nq0 cq0]) hS28.g0 ON23 rfl rfl)), ?_⟩
    intro w30 hX31
    have hB32 := hB20.trans (Ext.stp hX31 hS21.base)
    have hS33 := hS21.ext hX31
    refine ⟨_, od_plain rfl (g_call (vs := #[.slice aq0 nq0 cq0]) CF79 (args1 rfl) (m_impl_copyOf_fn (oS.vw hS33.g1) hm)), ?_⟩
    rintro _ w34 ⟨r37, a38, n39, c40, hm, rfl, hE35, hN36⟩
    have hS42 := hS33.call1 hE35 hN36
    refine ⟨hE35, ?_⟩
    have hB43 := hB32.trans (Ext.stp hE35 hS33.base)
    intro w44 hX45
    have hB46 := hB43.trans (Ext.stp hX45 hS42.base)
    have hS47 := hS42.ext hX45
    have hS48 := hS47.f11
    have hS49 := hS48.f11
    have hS50 := hS49.f11
    have hS51 := hS50.f3
    refine ⟨_, od_plain rfl (g_callvc (f := 72) (va := #[.slice a38 n39 c40]) (cap := #[.pointer (some (⟨gq2_0, 0, none⟩ : Addr))]) (vs := #[.slice a38 n39 c40, .pointer (some (⟨gq2_0, 0, none⟩ : Addr))]) CF72 rfl (args1 rfl) rfl (m_impl_CastingsOf_1_fn hS51 heq2_0 hm)), ?_⟩
    rintro _ w52 ⟨r55, x56, a57, n58, c59, y60, hm, he61, rfl, hb53, hS54⟩
    have hB62 := hB46.trans hb53
    refine ⟨.bool r55, fun w63 hX64 => od_plain rfl (by have hS65 := hS54.ext hX64; have hB66 := hB62.trans (Ext.stp hX64 hS54.base); exact is_ext (g_assign (v := .bool r55) rfl)), ?_⟩
    intro w67 hX68
    have hB69 := hB62.trans (Ext.stp hX68 hS54.base)
    have hS70 := hS54.ext hX68
    refine hK17 _ _ ?_
    refine w_ret ?_
    have hS71 := hS70.f2
    have hS72 := hS71.f2
    have hS73 := hS72.f2
    have hS74 := hS73.f10
    have hS75 := hS74.f10
    have hS76 := hS75.f10
    have hS77 := hS76.f10
    have hS78 := hS77.f10
    have hS79 := hS78.f10
    have hS80 := hS79.f10
    have hS81 := hS80.f10
    repeat first | with_reducible refine q_then ?_ | with_reducible refine q_block ?_
    exact ret1 rfl (by decide) ⟨_, _, _, _, _, _, _, _, _, _, _, _, _, _, hm, he61, rfl, hB69, hS81⟩
  · replace hm := hm.2 h16
    refine w_skip ?_
    refine hK14 _ _ ?_
    refine w_cut (σ := List (List Int) × Option Addr × Nat × Nat × List (Hd Int) × List Int × Option Addr × Nat × Nat × List Int × Option Addr × Nat × Nat) (fun ⟨x685, a686, n687, c688, y689, x691, a692, n693, c694, x695, a696, n697, c698⟩ => []) (fun ⟨x685, a686, n687, c688, y689, x691, a692, n693, c694, x695, a696, n697, c698⟩ w' => m_impl_castings_1_CastingsOf_1_K0 Q x685 x691 x695 ∧ ers y689 = x685 ∧ Below B_ w w' ∧ Sep w' B_ (oB gq2_0 37 #[.slice a686 n687 c688] :: oB gq5 86 #[.func (.func 91) #[] #[.pointer (some (⟨gq0, 0, none⟩ : Addr)), .pointer (some (⟨gq1, 0, none⟩ : Addr)), .pointer (some (⟨gq2, 0, none⟩ : Addr)), .pointer (some (⟨gq3, 0, none⟩ : Addr)), .pointer (some (⟨gq4, 0, none⟩ : Addr)), .pointer (some (⟨gq5, 0, none⟩ : Addr))]] :: oB gq4 23 #[.slice a692 n693 c694] :: oB gq3 27 #[.slice aq3 nq3 cq3] :: oB gq2 67 #[.func (.func 72) #[] #[.pointer (some (⟨gq2_0, 0, none⟩ : Addr))]] :: oB gq1 23 #[.slice aq1 nq1 cq1] :: oB gq0 23 #[.slice a696 n697 c698] :: oS 23 a686 n687 c688 (y689 : List (Hd Int)) :: oT 3 (y689 : List (Hd Int)) :: oS 3 a692 n693 c694 (x691 : List Int) :: oS 3 a696 n697 c698 (x695 : List Int) :: L_)) ?_ ?_
    · refine w_seq fun K700 hK700 => ?_
      refine w_region ?_
      refine wl_val (q_loadB (i := 0) (bs := #[.slice aq3 nq3 cq3]) hS0.g4 ON27 rfl rfl) rfl ?_
      refine wl_val (q_len SL27 rfl (Tv.len (hq3.bel hB0))) rfl ?_
      refine wl_val (g_move (v := .int .i64 0) rfl) rfl ?_
      refine wl_nil ?_
      refine hK700 _ _ ?_
      refine w_block ?_
      have hS716 := hS0.f1
      have hS717 := hS716.f6
      have hS718 := hS717.f10
      have hS719 := hS718.f10
      have hS720 := hS719.f4
      have hS721 := hS720.f5
      have hS722 := hS721.f6
      have hS723 := hS722.f7
      have hS724 := hS723.f8
      have hS725 := hS724.f9
      have hS726 := hS725.f10
      obtain ⟨I727, μ728, h0729, hr730⟩ := hm
      refine w_for (σ := Int × List (List Int) × Option Addr × Nat × Nat × List (Hd Int) × List Int × Option Addr × Nat × Nat × List Int × Option Addr × Nat × Nat) (fun ⟨v701, x702, a703, n704, c705, y706, x708, a709, n710, c711, x712, a713, n714, c715⟩ => [(0, .pointer (some (⟨gq0, 0, none⟩ : Addr))), (1, .pointer (some (⟨gq1, 0, none⟩ : Addr))), (4, .pointer (some (⟨gq4, 0, none⟩ : Addr))), (5, .pointer (some (⟨gq5, 0, none⟩ : Addr))), (19, .slice aq3 nq3 cq3), (20, .int .i64 (q3.length : Int)), (21, .int .i64 v701)]) (fun ⟨v701, x702, a703, n704, c705, y706, x708, a709, n710, c711, x712, a713, n714, c715⟩ w' => I727 v701 x702 x708 x712 ∧ ers y706 = x702 ∧ Below B_ w w' ∧ Sep w' B_ (oB gq2_0 37 #[.slice a703 n704 c705] :: oB gq5 86 #[.func (.func 91) #[] #[.pointer (some (⟨gq0, 0, none⟩ : Addr)), .pointer (some (⟨gq1, 0, none⟩ : Addr)), .pointer (some (⟨gq2, 0, none⟩ : Addr)), .pointer (some (⟨gq3, 0, none⟩ : Addr)), .pointer (some (⟨gq4, 0, none⟩ : Addr)), .pointer (some (⟨gq5, 0, none⟩ : Addr))]] :: oB gq4 23 #[.slice a709 n710 c711] :: oB gq3 27 #[.slice aq3 nq3 cq3] :: oB gq2 67 #[.func (.func 72) #[] #[.pointer (some (⟨gq2_0, 0, none⟩ : Addr))]] :: oB gq1 23 #[.slice aq1 nq1 cq1] :: oB gq0 23 #[.slice a713 n714 c715] :: oS 23 a703 n704 c705 (y706 : List (Hd Int)) :: oT 3 (y706 : List (Hd Int)) :: oS 3 a709 n710 c711 (x708 : List Int) :: oS 3 a713 n714 c715 (x712 : List Int) :: L_)) (fun ⟨v701, x702, a703, n704, c705, y706, x708, a709, n710, c711, x712, a713, n714, c715⟩ => μ728 v701 x702 x708 x712) (0, q2_0, aq2_0, nq2_0, cq2_0, yq2_0, q4, aq4, nq4, cq4, q0, aq0, nq0, cq0) ⟨rfl, rfl, rfl, rfl, rfl, rfl, rfl, trivial⟩ ⟨h0729, heq2_0, hB0, hS726⟩ ?_
      rintro ⟨v701, x702, a703, n704, c705, y706, x708, a709, n710, c711, x712, a713, n714, c715⟩ b_ w731 ⟨hi_, he707, hB732, hS733⟩
      show Wp _ _ _ _ (upds b_ [(0, .pointer (some (⟨gq0, 0, none⟩ : Addr))), (1, .pointer (some (⟨gq1, 0, none⟩ : Addr))), (4, .pointer (some (⟨gq4, 0, none⟩ : Addr))), (5, .pointer (some (⟨gq5, 0, none⟩ : Addr))), (19, .slice aq3 nq3 cq3), (20, .int .i64 (q3.length : Int)), (21, .int .i64 v701)]) w731
      have hm := hr730 v701 x702 x708 x712 hi_
      refine w_seq fun K735 hK735 => ?_
      refine w_region ?_
      refine wl_val (g_lss (a := v701) (b := (q3.length : Int)) rfl rfl) rfl ?_
      refine wl_nil ?_
      refine hK735 _ _ ?_
      refine w_seq fun K736 hK736 => ?_
      refine w_condI (p := v701 < (q3.length : Int)) (b := (decide (v701 < (q3.length : Int)))) rfl decide_eq_true_iff (fun h737 => ?_) (fun h737 => ?_)
      · replace hm := hm.1 h737
        refine w_skip ?_
        refine hK736 _ _ ?_
        refine w_seq fun K738 hK738 => ?_
        refine w_block ?_
        refine w_seq fun K739 hK739 => ?_
        refine w_region ?_
        refine wl_val (g_move (v := .int .i64 v701) rfl) rfl ?_
        obtain ⟨hg740, hm⟩ := hm
        refine wl_val (q_index (i := v701) SL27 rfl rfl (Tv.o (hq3.bel hB732)) (Tv.g (hq3.bel hB732) hg740)) rfl ?_
        refine wl_val (q_loadS (i := v701) (cs := [.slice ((yq3[(Int.toNat v701)]!).1.1) ((yq3[(Int.toNat v701)]!).1.2.2.length) ((yq3[(Int.toNat v701)]!).1.2.1), .int .i64 (q3[(Int.toNat v701)]!.2)]) AG54 (Tv.o (hq3.bel hB732)) (Tv.g (hq3.bel hB732) hg740) (by rw [← Tv.free (hq3.bel hB732) hg740]; rfl) rfl) rfl ?_
        refine wl_step rfl (q_alloc (cs := #[.slice none 0 0, .int .i64 0]) ZR54 rfl hS733) ?_
        rintro _ w741 ⟨g742, rfl, hS744, hE743⟩
        have hB746 := hB732.trans (Ext.stp hE743 hS733.base)
        refine wl_val (g_assign (v := .int .i64 v701) rfl) rfl ?_
        refine wl_step rfl (q_storeB (i := 0) (bs' := #[.slice ((yq3[(Int.toNat v701)]!).1.1) ((yq3[(Int.toNat v701)]!).1.2.2.length) ((yq3[(Int.toNat v701)]!).1.2.1), .int .i64 (q3[(Int.toNat v701)]!.2)]) (vs := [.slice ((yq3[(Int.toNat v701)]!).1.1) ((yq3[(Int.toNat v701)]!).1.2.2.length) ((yq3[(Int.toNat v701)]!).1.2.1), .int .i64 (q3[(Int.toNat v701)]!.2)]) hS744 AG54.sz rfl rfl rfl (by simp [Value.oneCell']) (Nat.le_of_ble_eq_true rfl) rfl) ?_
        rintro _ w747 ⟨rfl, hS748, hb749⟩
        have hB750 := hB746.trans hb749
        refine wl_nil ?_
        refine hK739 _ _ ?_
        refine w_seq fun K751 hK751 => ?_
        refine w_seq fun K752 hK752 => ?_
        refine w_draw (X := Ext) (Y := Ext) [] MIX (by decide +kernel) rfl Ext.refl (fun _ _ _ => Ext.trans) (fun _ _ _ => Chg.trans) (fun _ _ h => Ext.chg h _) (fun w753 hE754 => ?_)
        have hB755 := hB750.trans (Ext.stp hE754 hS748.base)
        have hS756 := hS748.ext hE754
        refine ⟨.slice a709 n710 c711, fun w757 hX758 => od_plain rfl (by have hS759 := hS756.ext hX758; have hB760 := hB755.trans (Ext.stp hX758 hS756.base); exact is_ext (q_loadB (i := 0) (bs := #[.slice a709 n710 c711]) hS759.g3 ON23 rfl rfl)), ?_⟩
        refine ⟨.int .i64 v701, fun w761 hX762 => od_plain rfl (by have hS763 := hS756.ext hX762; have hB764 := hB755.trans (Ext.stp hX762 hS756.base); exact is_ext (g_move (v := .int .i64 v701) rfl)), ?_⟩
        obtain ⟨hg769, hm⟩ := hm
        refine ⟨.pointer (some ((adr a709).add ((Int.toNat v701) * El.m Int))), fun w765 hX766 => od_plain rfl (by have hS767 := hS756.ext hX766; have hB768 := hB755.trans (Ext.stp hX766 hS756.base); exact is_ext (q_index (i := v701) SL23 rfl rfl (oS.vw hS767.g10) hg769)), ?_⟩
        refine ⟨.int .i64 (x708[(Int.toNat v701)]!), fun w770 hX771 => od_plain rfl (by have hS772 := hS756.ext hX771; have hB773 := hB755.trans (Ext.stp hX771 hS756.base); exact is_ext (q_load (i := v701) (v := .int .i64 (x708[(Int.toNat v701)]!)) ON3 (oS.vw hS772.g10) hg769 rfl rfl)), ?_⟩
        refine ⟨.bool (decide (x708[(Int.toNat v701)]! = 0)), fun w774 hX775 => od_plain rfl (by have hS776 := hS756.ext hX775; have hB777 := hB755.trans (Ext.stp hX775 hS756.base); exact is_ext (g_eql (a := x708[(Int.toNat v701)]!) (b := 0) rfl rfl)), ?_⟩
        refine ⟨.bool (decide (x708[(Int.toNat v701)]! = 0)), fun w778 hX779 => od_plain rfl (by have hS780 := hS756.ext hX779; have hB781 := hB755.trans (Ext.stp hX779 hS756.base); exact is_ext (g_move (v := .bool (decide (x708[(Int.toNat v701)]! = 0))) rfl)), ?_⟩
        refine ⟨if (decide (x708[(Int.toNat v701)]! = 0)) = false then .pointer (some (((⟨g742, 0, none⟩ : Addr)).add 0)) else undef, fun w782 hX783 => od_guard (c := (decide (x708[(Int.toNat v701)]! = 0)) = false) (val := .pointer (some (((⟨g742, 0, none⟩ : Addr)).add 0))) (b := ((decide (x708[(Int.toNat v701)]! = 0)) == false)) (gv_some rfl rfl rfl) beq_iff_eq (fun hc786 => ?_), ?_⟩
        · have hS784 := hS756.ext hX783
          have hB785 := hB755.trans (Ext.stp hX783 hS756.base)
          have hcq3 : ¬ (x708[(Int.toNat v701)]! = 0) := (i_neg decide_eq_true_iff hc786)
          exact is_ext (g_fieldAddr (q := (⟨g742, 0, none⟩ : Addr)) FL54_0 ON23 rfl)
        refine ⟨if (decide (x708[(Int.toNat v701)]! = 0)) = false then .slice ((yq3[(Int.toNat v701)]!).1.1) ((yq3[(Int.toNat v701)]!).1.2.2.length) ((yq3[(Int.toNat v701)]!).1.2.1) else undef, fun w787 hX788 => od_guard (c := (decide (x708[(Int.toNat v701)]! = 0)) = false) (val := .slice ((yq3[(Int.toNat v701)]!).1.1) ((yq3[(Int.toNat v701)]!).1.2.2.length) ((yq3[(Int.toNat v701)]!).1.2.1)) (b := ((decide (x708[(Int.toNat v701)]! = 0)) == false)) (gv_some rfl rfl rfl) beq_iff_eq (fun hc791 => ?_), ?_⟩
        · have hS789 := hS756.ext hX788
          have hB790 := hB755.trans (Ext.stp hX788 hS756.base)
          have hcq3 : ¬ (x708[(Int.toNat v701)]! = 0) := (i_neg decide_eq_true_iff hc791)
          exact is_ext (q_loadB (i := 0) (bs := #[.slice ((yq3[(Int.toNat v701)]!).1.1) ((yq3[(Int.toNat v701)]!).1.2.2.length) ((yq3[(Int.toNat v701)]!).1.2.1), .int .i64 (q3[(Int.toNat v701)]!.2)]) hS789.g0 ON23 (if_pos hc791) rfl)
        refine ⟨if (decide (x708[(Int.toNat v701)]! = 0)) = false then .slice aq1 nq1 cq1 else undef, fun w792 hX793 => od_guard (c := (decide (x708[(Int.toNat v701)]! = 0)) = false) (val := .slice aq1 nq1 cq1) (b := ((decide (x708[(Int.toNat v701)]! = 0)) == false)) (gv_some rfl rfl rfl) beq_iff_eq (fun hc796 => ?_), ?_⟩
        · have hS794 := hS756.ext hX793
          have hB795 := hB755.trans (Ext.stp hX793 hS756.base)
          have hcq3 : ¬ (x708[(Int.toNat v701)]! = 0) := (i_neg decide_eq_true_iff hc796)
          exact is_ext (q_loadB (i := 0) (bs := #[.slice aq1 nq1 cq1]) hS794.g6 ON23 rfl rfl)
        refine ⟨if (decide (x708[(Int.toNat v701)]! = 0)) = false then .slice a713 n714 c715 else undef, fun w797 hX798 => od_guard (c := (decide (x708[(Int.toNat v701)]! = 0)) = false) (val := .slice a713 n714 c715) (b := ((decide (x708[(Int.toNat v701)]! = 0)) == false)) (gv_some rfl rfl rfl) beq_iff_eq (fun hc801 => ?_), ?_⟩
        · have hS799 := hS756.ext hX798
          have hB800 := hB755.trans (Ext.stp hX798 hS756.base)
          have hcq3 : ¬ (x708[(Int.toNat v701)]! = 0) := (i_neg decide_eq_true_iff hc801)
          exact is_ext (q_loadB (i := 0) (bs := #[.slice a713 n714 c715]) hS799.g7 ON23 rfl rfl)
        refine ⟨if (decide (x708[(Int.toNat v701)]! = 0)) = false then .int .i64 (x712.length : Int) else undef, fun w802 hX803 => od_guard (c := (decide (x708[(Int.toNat v701)]! = 0)) = false) (val := .int .i64 (x712.length : Int)) (b := ((decide (x708[(Int.toNat v701)]! = 0)) == false)) (gv_some rfl rfl rfl) beq_iff_eq (fun hc806 => ?_), ?_⟩
        · have hS804 := hS756.ext hX803
          have hB805 := hB755.trans (Ext.stp hX803 hS756.base)
          have hcq3 : ¬ (x708[(Int.toNat v701)]! = 0) := (i_neg decide_eq_true_iff hc806)
          exact is_ext (q_len SL23 (if_pos hc806) (Vw.len (oS.vw hS804.g11)))
        obtain ⟨hg812, hm⟩ := hm
        refine ⟨if (decide (x708[(Int.toNat v701)]! = 0)) = false then .pointer (some ((adr aq1).add ((Int.toNat (x712.length : Int)) * El.m Int))) else undef, fun w807 hX808 => od_guard (c := (decide (x708[(Int.toNat v701)]! = 0)) = false) (val := .pointer (some ((adr aq1).add ((Int.toNat (x712.length : Int)) * El.m Int)))) (b := ((decide (x708[(Int.toNat v701)]! = 0)) == false)) (gv_some rfl rfl rfl) beq_iff_eq (fun hc811 => ?_), ?_⟩
        · have hS809 := hS756.ext hX808
          have hB810 := hB755.trans (Ext.stp hX808 hS756.base)
          have hcq3 : ¬ (x708[(Int.toNat v701)]! = 0) := (i_neg decide_eq_true_iff hc811)
          exact is_ext (q_index (i := (x712.length : Int)) SL23 (if_pos hc811) (if_pos hc811) (hq1.bel hB810) (hg812 hcq3))
        refine ⟨if (decide (x708[(Int.toNat v701)]! = 0)) = false then .int .i64 (q1[(Int.toNat (x712.length : Int))]!) else undef, fun w813 hX814 => od_guard (c := (decide (x708[(Int.toNat v701)]! = 0)) = false) (val := .int .i64 (q1[(Int.toNat (x712.length : Int))]!)) (b := ((decide (x708[(Int.toNat v701)]! = 0)) == false)) (gv_some rfl rfl rfl) beq_iff_eq (fun hc817 => ?_), ?_⟩
        · have hS815 := hS756.ext hX814
          have hB816 := hB755.trans (Ext.stp hX814 hS756.base)
          have hcq3 : ¬ (x708[(Int.toNat v701)]! = 0) := (i_neg decide_eq_true_iff hc817)
          exact is_ext (q_load (i := (x712.length : Int)) (v := .int .i64 (q1[(Int.toNat (x712.length : Int))]!)) ON3 (hq1.bel hB816) (hg812 hcq3) rfl (if_pos hc817))
        obtain ⟨r823, hk824, hm⟩ := hm
        refine ⟨if (decide (x708[(Int.toNat v701)]! = 0)) = false then .int .i64 r823 else undef, fun w818 hX819 => od_guard (c := (decide (x708[(Int.toNat v701)]! = 0)) = false) (val := .int .i64 r823) (b := ((decide (x708[(Int.toNat v701)]! = 0)) == false)) (gv_some rfl rfl rfl) beq_iff_eq (fun hc822 => ?_), ?_⟩
        · have hS820 := hS756.ext hX819
          have hB821 := hB755.trans (Ext.stp hX819 hS756.base)
          have hcq3 : ¬ (x708[(Int.toNat v701)]! = 0) := (i_neg decide_eq_true_iff hc822)
          exact (g_call (vs := #[.slice ((yq3[(Int.toNat v701)]!).1.1) ((yq3[(Int.toNat v701)]!).1.2.2.length) ((yq3[(Int.toNat v701)]!).1.2.1), .int .i64 (q1[(Int.toNat (x712.length : Int))]!)]) CF84 (args2 (if_pos hc822) (if_pos hc822)) ((m_impl_indexOf_fn ((Tv.rowP (hq3.bel hB821) hg740).up hS820) (q1[(Int.toNat (x712.length : Int))]!) (hk824 hcq3)).mono fun _ _ ⟨_, h1, h2, h3⟩ => ⟨by rw [h2, h1], h3⟩))
        refine ⟨if (decide (x708[(Int.toNat v701)]! = 0)) = false then .bool (decide (r823 < 0)) else undef, fun w825 hX826 => od_guard (c := (decide (x708[(Int.toNat v701)]! = 0)) = false) (val := .bool (decide (r823 < 0))) (b := ((decide (x708[(Int.toNat v701)]! = 0)) == false)) (gv_some rfl rfl rfl) beq_iff_eq (fun hc829 => ?_), ?_⟩
        · have hS827 := hS756.ext hX826
          have hB828 := hB755.trans (Ext.stp hX826 hS756.base)
          have hcq3 : ¬ (x708[(Int.toNat v701)]! = 0) := (i_neg decide_eq_true_iff hc829)
          exact is_ext (g_lss (a := r823) (b := 0) (if_pos hc829) rfl)
        refine ⟨.bool ((decide (x708[(Int.toNat v701)]! = 0)) || (decide (r823 < 0))), fun w830 hX831 => od_plain rfl (by have hS832 := hS756.ext hX831; have hB833 := hB755.trans (Ext.stp hX831 hS756.base); exact is_ext (g_pick_or (b := (decide (x708[(Int.toNat v701)]! = 0))) (q := (decide (r823 < 0))) rfl rfl)), ?_⟩
        intro w834 hX835
        have hB836 := hB755.trans (Ext.stp hX835 hS756.base)
        have hS837 := hS756.ext hX835
        refine hK752 _ _ ?_
        refine w_condI (p := ((x708[(Int.toNat v701)]! = 0) ∨ (r823 < 0))) (b := ((decide (x708[(Int.toNat v701)]! = 0)) || (decide (r823 < 0)))) rfl (i_or decide_eq_true_iff decide_eq_true_iff) (fun h838 => ?_) (fun h838 => ?_)
        · replace hm := hm.1 h838
          refine w_exit ?_
          refine hK738 _ _ ?_
          refine w_region ?_
          obtain ⟨hg839, hm⟩ := hm
          refine wl_val (g_add (a := v701) (b := 1) rfl rfl hg839) rfl ?_
          refine wl_val (g_move (v := .int .i64 (v701 + 1)) rfl) rfl ?_
          refine wl_nil ?_
          have hS840 := hS837.tail
          exact ⟨((v701 + 1), x702, a703, n704, c705, y706, x708, a709, n710, c711, x712, a713, n714, c715), hm.2, ⟨rfl, rfl, rfl, rfl, rfl, rfl, rfl, trivial⟩, ⟨hm.1, he707, hB836, hS840⟩⟩
        · replace hm := hm.2 h838
          refine w_skip ?_
          refine hK751 _ _ ?_
          refine w_seq fun K841 hK841 => ?_
          refine w_region ?_
          refine wl_val (q_loadB (i := 0) (bs := #[.slice a709 n710 c711]) hS837.g3 ON23 rfl rfl) rfl ?_
          refine wl_val (g_move (v := .int .i64 v701) rfl) rfl ?_
          obtain ⟨hg842, hm⟩ := hm
          refine wl_val (q_index (i := v701) SL23 rfl rfl (oS.vw hS837.g10) hg842) rfl ?_
          refine wl_val (q_load (i := v701) (v := .int .i64 (x708[(Int.toNat v701)]!)) ON3 (oS.vw hS837.g10) hg842 rfl rfl) rfl ?_
          obtain ⟨hg843, hm⟩ := hm
          refine wl_val (g_sub (a := x708[(Int.toNat v701)]!) (b := 1) rfl rfl hg843) rfl ?_
          obtain ⟨hg844, hm⟩ := hm
          refine wl_val (q_index (i := v701) SL23 rfl rfl (oS.vw hS837.g10) hg844) rfl ?_
          have hS848 := hS837.f10
          refine wl_step rfl (q_store (i := v701) (v := ((x708[(Int.toNat v701)]! - 1) : Int)) hS848 ON3.sz hg844 rfl rfl rfl) ?_
          rintro _ w845 ⟨rfl, hS846, hb847⟩
          have hB849 := hB836.trans hb847
          refine wl_nil ?_
          refine hK841 _ _ ?_
          refine w_seq fun K850 hK850 => ?_
          refine w_region ?_
          refine wl_val (q_loadB (i := 0) (bs := #[.slice a713 n714 c715]) hS846.g8 ON23 rfl rfl) rfl ?_
          refine wl_val (g_move (v := .int .i64 v701) rfl) rfl ?_
          refine wl_step rfl (q_lit1 (y := (v701 : Int)) SL23 rfl rfl (by decide) hS846) ?_
          rintro _ w851 ⟨a852, rfl, hS854, hE853⟩
          have hB856 := hB849.trans (Ext.stp hE853 hS846.base)
          have hS862 := hS854.f12
          obtain ⟨hg863, hm⟩ := hm
          refine wl_step rfl (q_append SL23 rfl rfl hS862 (oS.vw hS862.g1) hg863 (by decide)) ?_
          rintro _ w857 ⟨a858, c859, rfl, hS861, hb860⟩
          have hB864 := hB856.trans hb860
          have hS868 := hS861.f10
          refine wl_step rfl (q_storeB (i := 0) (bs' := #[.slice a858 (n714 + 1) c859]) (vs := [.slice a858 (n714 + 1) c859]) hS868 ON23.sz rfl rfl rfl (by simp [Value.oneCell']) (Nat.le_of_ble_eq_true rfl) rfl) ?_
          rintro _ w865 ⟨rfl, hS866, hb867⟩
          have hB869 := hB864.trans hb867
          refine wl_nil ?_
          refine hK850 _ _ ?_
          refine w_seq fun K870 hK870 => ?_
          refine w_region ?_
          refine wl_val (q_loadB (i := 0) (bs := #[.func (.func 91) #[] #[.pointer (some (⟨gq0, 0, none⟩ : Addr)), .pointer (some (⟨gq1, 0, none⟩ : Addr)), .pointer (some (⟨gq2, 0, none⟩ : Addr)), .pointer (some (⟨gq3, 0, none⟩ : Addr)), .pointer (some (⟨gq4, 0, none⟩ : Addr)), .pointer (some (⟨gq5, 0, none⟩ : Addr))]]) hS866.g6 ON86 rfl rfl) rfl ?_
          have hS871 := hS866.f12
          have hS872 := hS871.f12
          have hS873 := hS872.f7
          have hS874 := hS873.f8
          have hS875 := hS874.f7
          have hS876 := hS875.f9
          have hS877 := hS876.f10
          have hS878 := hS877.f11
          have hS879 := hS878.f12
          have hS880 := hS879.f10
          have hS881 := hS880.f10
          refine wl_step rfl (g_callvc (f := 91) (va := #[]) (cap := #[.pointer (some (⟨gq0, 0, none⟩ : Addr)), .pointer (some (⟨gq1, 0, none⟩ : Addr)), .pointer (some (⟨gq2, 0, none⟩ : Addr)), .pointer (some (⟨gq3, 0, none⟩ : Addr)), .pointer (some (⟨gq4, 0, none⟩ : Addr)), .pointer (some (⟨gq5, 0, none⟩ : Addr))]) (vs := #[.pointer (some (⟨gq0, 0, none⟩ : Addr)), .pointer (some (⟨gq1, 0, none⟩ : Addr)), .pointer (some (⟨gq2, 0, none⟩ : Addr)), .pointer (some (⟨gq3, 0, none⟩ : Addr)), .pointer (some (⟨gq4, 0, none⟩ : Addr)), .pointer (some (⟨gq5, 0, none⟩ : Addr))]) CF91 rfl args0 rfl (ih hS881 (hq1.bel hB869) (hq3.bel hB869) he707 hm)) ?_
          rintro _ w882 ⟨r885, x886, a887, n888, c889, x890, a891, n892, c893, x894, a895, n896, c897, y898, hm, he899, rfl, hb883, hS884⟩
          have hB900 := hB869.trans hb883
          refine wl_val (g_assign (v := .bool r885) rfl) rfl ?_
          refine wl_nil ?_
          refine hK870 _ _ ?_
          refine w_seq fun K901 hK901 => ?_
          refine w_region ?_
          refine wl_val (q_loadB (i := 0) (bs := #[.slice a887 n888 c889]) hS884.g0 ON23 rfl rfl) rfl ?_
          refine wl_val (q_loadB (i := 0) (bs := #[.slice a887 n888 c889]) hS884.g0 ON23 rfl rfl) rfl ?_
          refine wl_val (q_len SL23 rfl (Vw.len (oS.vw hS884.g1))) rfl ?_
          obtain ⟨hg902, hm⟩ := hm
          refine wl_val (g_sub (a := (x886.length : Int)) (b := 1) rfl rfl hg902) rfl ?_
          obtain ⟨hg903, hm⟩ := hm
          refine wl_val (q_sliceH (h := ((x886.length : Int) - 1)) SL23 rfl rfl (oS.vw hS884.g1) hg903) rfl ?_
          have hS907 := hS884.f1
          have hS908 := hS907.cut (Int.toNat ((x886.length : Int) - 1)) (tn_le hg903)
          have hS909 := hS908.f1
          refine wl_step rfl (q_storeB (i := 0) (bs' := #[.slice a887 (Int.toNat ((x886.length : Int) - 1)) c889]) (vs := [.slice a887 (Int.toNat ((x886.length : Int) - 1)) c889]) hS909 ON23.sz rfl rfl rfl (by simp [Value.oneCell']) (Nat.le_of_ble_eq_true rfl) rfl) ?_
          rintro _ w904 ⟨rfl, hS905, hb906⟩
          have hB910 := hB900.trans hb906
          refine wl_nil ?_
          refine hK901 _ _ ?_
          refine w_seq fun K911 hK911 => ?_
          refine w_region ?_
          refine wl_val (q_loadB (i := 0) (bs := #[.slice a891 n892 c893]) hS905.g5 ON23 rfl rfl) rfl ?_
          refine wl_val (g_move (v := .int .i64 v701) rfl) rfl ?_
          obtain ⟨hg912, hm⟩ := hm
          refine wl_val (q_index (i := v701) SL23 rfl rfl (oS.vw hS905.g6) hg912) rfl ?_
          refine wl_val (q_load (i := v701) (v := .int .i64 (x890[(Int.toNat v701)]!)) ON3 (oS.vw hS905.g6) hg912 rfl rfl) rfl ?_
          obtain ⟨hg913, hm⟩ := hm
          refine wl_val (g_add (a := x890[(Int.toNat v701)]!) (b := 1) rfl rfl hg913) rfl ?_
          obtain ⟨hg914, hm⟩ := hm
          refine wl_val (q_index (i := v701) SL23 rfl rfl (oS.vw hS905.g6) hg914) rfl ?_
          have hS918 := hS905.f6
          refine wl_step rfl (q_store (i := v701) (v := ((x890[(Int.toNat v701)]! + 1) : Int)) hS918 ON3.sz hg914 rfl rfl rfl) ?_
          rintro _ w915 ⟨rfl, hS916, hb917⟩
          have hB919 := hB910.trans hb917
          refine wl_nil ?_
          refine hK911 _ _ ?_
          refine w_seq fun K920 hK920 => ?_
          refine w_region ?_
          refine wl_val (g_move (v := .bool r885) rfl) rfl ?_
          refine wl_val (g_not (a := r885) rfl) rfl ?_
          refine wl_nil ?_
          refine hK920 _ _ ?_
          refine w_condI (p := ¬ (r885 = true)) (b := (!r885)) rfl (i_not Iff.rfl) (fun h921 => ?_) (fun h921 => ?_)
          · replace hm := hm.1 h921
            refine w_seq fun K922 hK922 => ?_
            refine w_region ?_
            refine wl_val (g_assign (v := .bool false) rfl) rfl ?_
            refine wl_nil ?_
            refine hK922 _ _ ?_
            refine w_ret ?_
            have hS923 := hS916.f11
            have hS924 := hS923.tail
            have hS925 := hS924.f11
            have hS926 := hS925.tail
            have hS927 := hS926.f10
            have hS928 := hS927.f10
            have hS929 := hS928.f10
            have hS930 := hS929.f10
            have hS931 := hS930.f4
            have hS932 := hS931.f10
            have hS933 := hS932.f10
            have hS934 := hS933.f10
            have hS935 := hS934.f10
            have hS936 := hS935.f10
            have hS937 := hS936.f10
            repeat first | with_reducible refine q_then ?_ | with_reducible refine q_block ?_
            exact ret1 rfl (by decide) ⟨_, _, _, _, _, _, _, _, _, _, _, _, _, _, hm, he899, rfl, hB919, hS937⟩
          · replace hm := hm.2 h921
            refine w_skip ?_
            refine hK738 _ _ ?_
            refine w_region ?_
            obtain ⟨hg938, hm⟩ := hm
            refine wl_val (g_add (a := v701) (b := 1) rfl rfl hg938) rfl ?_
            refine wl_val (g_move (v := .int .i64 (v701 + 1)) rfl) rfl ?_
            refine wl_nil ?_
            have hS939 := hS916.f11
            have hS940 := hS939.tail
            have hS941 := hS940.f11
            have hS942 := hS941.tail
            have hS943 := hS942.f2
            have hS944 := hS943.f1
            have hS945 := hS944.f10
            have hS946 := hS945.f10
            have hS947 := hS946.f4
            have hS948 := hS947.f5
            have hS949 := hS948.f6
            have hS950 := hS949.f7
            have hS951 := hS950.f8
            have hS952 := hS951.f9
            have hS953 := hS952.f10
            exact ⟨((v701 + 1), x894, a895, n896, c897, y898, (x890.set (Int.toNat v701) (x890[(Int.toNat v701)]! + 1)), a891, n892, c893, (x886.take (Int.toNat ((x886.length : Int) - 1))), a887, (Int.toNat ((x886.length : Int) - 1)), c889), hm.2, ⟨rfl, rfl, rfl, rfl, rfl, rfl, rfl, trivial⟩, ⟨hm.1, he899, hB919, hS953⟩⟩
      · replace hm := hm.2 h737
        refine w_exit ?_
        exact ⟨(x702, a703, n704, c705, y706, x708, a709, n710, c711, x712, a713, n714, c715), trivial, ⟨hm, he707, hB732, hS733⟩⟩
    · rintro ⟨x685, a686, n687, c688, y689, x691, a692, n693, c694, x695, a696, n697, c698⟩ b_ w954 ⟨hm, he690, hB955, hS956⟩
      show Wp _ _ _ _ (upds b_ []) w954
      refine w_seq fun K957 hK957 => ?_
      refine w_region ?_
      refine wl_val (g_assign (v := .bool true) rfl) rfl ?_
      refine wl_nil ?_
      refine hK957 _ _ ?_
      refine w_ret ?_
      have hS958 := hS956.f8
      have hS959 := hS958.f8
      have hS960 := hS959.f2
      have hS961 := hS960.f3
      have hS962 := hS961.f9
      have hS963 := hS962.f5
      have hS964 := hS963.f6
      have hS965 := hS964.f7
      have hS966 := hS965.f8
      have hS967 := hS966.f10
      have hS968 := hS967.f10
      repeat first | with_reducible refine q_then ?_ | with_reducible refine q_block ?_
      exact ret1 rfl (by decide) ⟨_, _, _, _, _, _, _, _, _, _, _, _, _, _, hm, he690, rfl, hB955, hS968⟩
theorem m_impl_castings_1_CastingsOf_1_fn : ∀ (f_ : Nat) {w : World} {B_ : Nat} {L_ : List Ob} {gq0 : Nat} {aq0 : Option Addr} {nq0 cq0 : Nat} {q0 : List Int} {gq1 : Nat} {aq1 : Option Addr} {nq1 cq1 : Nat} {q1 : List Int} {gq2 : Nat} {gq3 : Nat} {aq3 : Option Addr} {nq3 cq3 : Nat} {yq3 : List PlayerD} {q3 : List PlayerC} {gq4 : Nat} {aq4 : Option Addr} {nq4 cq4 : Nat} {q4 : List Int} {gq5 : Nat} {gq2_0 : Nat} {aq2_0 : Option Addr} {nq2_0 cq2_0 : Nat} {q2_0 : List (List Int)} {yq2_0 : List (Hd Int)} {Q : Bool → (List Int) → (List Int) → (List (List Int)) → Prop} (hS0 : Sep w B_ (oB gq0 23 #[.slice aq0 nq0 cq0] :: oS 3 aq0 nq0 cq0 (q0 : List Int) :: oB gq1 23 #[.slice aq1 nq1 cq1] :: oB gq2 67 #[.func (.func 72) #[] #[.pointer (some (⟨gq2_0, 0, none⟩ : Addr))]] :: oB gq3 27 #[.slice aq3 nq3 cq3] :: oB gq4 23 #[.slice aq4 nq4 cq4] :: oS 3 aq4 nq4 cq4 (q4 : List Int) :: oB gq5 86 #[.func (.func 91) #[] #[.pointer (some (⟨gq0, 0, none⟩ : Addr)), .pointer (some (⟨gq1, 0, none⟩ : Addr)), .pointer (some (⟨gq2, 0, none⟩ : Addr)), .pointer (some (⟨gq3, 0, none⟩ : Addr)), .pointer (some (⟨gq4, 0, none⟩ : Addr)), .pointer (some (⟨gq5, 0, none⟩ : Addr))]] :: oB gq2_0 37 #[.slice aq2_0 nq2_0 cq2_0] :: oS 23 aq2_0 nq2_0 cq2_0 (yq2_0 : List (Hd Int)) :: oT 3 (yq2_0 : List (Hd Int)) :: L_)) (hq1 : Vw B_ w aq1 nq1 cq1 q1) (hq3 : Tv B_ w aq3 nq3 cq3 yq3 q3) (heq2_0 : ers yq2_0 = q2_0) (hm : m_impl_castings_1_CastingsOf_1 f_ q0 q1 q3 q4 q2_0 Q), Fn Try.prog 91 #[.pointer (some (⟨gq0, 0, none⟩ : Addr)), .pointer (some (⟨gq1, 0, none⟩ : Addr)), .pointer (some (⟨gq2, 0, none⟩ : Addr)), .pointer (some (⟨gq3, 0, none⟩ : Addr)), .pointer (some (⟨gq4, 0, none⟩ : Addr)), .pointer (some (⟨gq5, 0, none⟩ : Addr))] w (fun v w' => ∃ (r0 : Bool) (x0 : List Int) (aa0 : Option Addr) (nn0 cc0 : Nat) (x1 : List Int) (aa1 : Option Addr) (nn1 cc1 : Nat) (x2 : List (List Int)) (aa2 : Option Addr) (nn2 cc2 : Nat) (yy2 : List (Hd Int)), Q r0 x0 x1 x2 ∧ ers yy2 = x2 ∧ v = .bool r0 ∧ Below B_ w w' ∧ Sep w' B_ (oB gq0 23 #[.slice aa0 nn0 cc0] :: oS 3 aa0 nn0 cc0 x0 :: oB gq1 23 #[.slice aq1 nq1 cq1] :: oB gq2 67 #[.func (.func 72) #[] #[.pointer (some (⟨gq2_0, 0, none⟩ : Addr))]] :: oB gq3 27 #[.slice aq3 nq3 cq3] :: oB gq4 23 #[.slice aa1 nn1 cc1] :: oS 3 aa1 nn1 cc1 x1 :: oB gq5 86 #[.func (.func 91) #[] #[.pointer (some (⟨gq0, 0, none⟩ : Addr)), .pointer (some (⟨gq1, 0, none⟩ : Addr)), .pointer (some (⟨gq2, 0, none⟩ : Addr)), .pointer (some (⟨gq3, 0, none⟩ : Addr)), .pointer (some (⟨gq4, 0, none⟩ : Addr)), .pointer (some (⟨gq5, 0, none⟩ : Addr))]] :: oB gq2_0 37 #[.slice aa2 nn2 cc2] :: oS 23 aa2 nn2 cc2 yy2 :: oT 3 yy2 :: L_)) := by
  intro f_
  induction f_ with
  | zero =>
    intro w B_ L_ gq0 aq0 nq0 cq0 q0 gq1 aq1 nq1 cq1 q1 gq2 gq3 aq3 nq3 cq3 yq3 q3 gq4 aq4 nq4 cq4 q4 gq5 gq2_0 aq2_0 nq2_0 cq2_0 q2_0 yq2_0 Q hS0 hq1 hq3 heq2_0 hm
    exact False.elim hm
  | succ f_ ih =>
    intro w B_ L_ gq0 aq0 nq0 cq0 q0 gq1 aq1 nq1 cq1 q1 gq2 gq3 aq3 nq3 cq3 yq3 q3 gq4 aq4 nq4 cq4 q4 gq5 gq2_0 aq2_0 nq2_0 cq2_0 q2_0 yq2_0 Q hS0 hq1 hq3 heq2_0 hm
    exact m_impl_castings_1_CastingsOf_1_step_fn @ih hS0 hq1 hq3 heq2_0 hm

theorem m_impl_castings_CastingsOf_1_fn {w : World} {B_ : Nat} {L_ : List Ob} {a0 : Option Addr} {n0 c0 : Nat} {y0 : List PlayerD} {p0 : List PlayerC} {a1 : Option Addr} {n1 c1 : Nat} {p1 : List Int} {gp2_0 : Nat} {ap2_0 : Option Addr} {np2_0 cp2_0 : Nat} {p2_0 : List (List Int)} {yp2_0 : List (Hd Int)} {Q : (List (List Int)) → Prop} (hS0 : Sep w B_ (oB gp2_0 37 #[.slice ap2_0 np2_0 cp2_0] :: oS 23 ap2_0 np2_0 cp2_0 (yp2_0 : List (Hd Int)) :: oT 3 (yp2_0 : List (Hd Int)) :: L_)) (hp0 : Tv B_ w a0 n0 c0 y0 p0) (hp1 : Vw B_ w a1 n1 c1 p1) (hep2_0 : ers yp2_0 = p2_0) (hm : m_impl_castings_CastingsOf_1 p0 p1 p2_0 Q) :
    Fn Try.prog 62 #[.slice a0 n0 c0, .slice a1 n1 c1, .func (.func 72) #[] #[.pointer (some (⟨gp2_0, 0, none⟩ : Addr))]] w (fun v w' => ∃ (x0 : List (List Int)) (aa0 : Option Addr) (nn0 cc0 : Nat) (yy0 : List (Hd Int)), Q x0 ∧ ers yy0 = x0 ∧ v = .tuple #[] ∧ Below B_ w w' ∧ Sep w' B_ (oB gp2_0 37 #[.slice aa0 nn0 cc0] :: oS 23 aa0 nn0 cc0 yy0 :: oT 3 yy0 :: L_)) := by
  unfold m_impl_castings_CastingsOf_1 at hm
  have hB0 := Below.refl B_ w
  refine fn_of_wp Try.func62 rfl (by kernel_rfl) (Nat.le_of_ble_eq_true rfl) ?_
  refine w_seq fun K5 hK5 => ?_
  refine w_region ?_
  refine wl_step rfl (q_box (cs := #[.slice a0 n0 c0]) rfl rfl hS0) ?_
  rintro _ w6 ⟨g7, rfl, hS9, hE8⟩
  have hB11 := hB0.trans (Ext.stp hE8 hS0.base)
  refine wl_step rfl (q_box (cs := #[.slice a1 n1 c1]) rfl rfl hS9) ?_
  rintro _ w12 ⟨g13, rfl, hS15, hE14⟩
  have hB17 := hB11.trans (Ext.stp hE14 hS9.base)
  refine wl_step rfl (q_box (cs := #[.func (.func 72) #[] #[.pointer (some (⟨gp2_0, 0, none⟩ : Addr))]]) rfl rfl hS15) ?_
  rintro _ w18 ⟨g19, rfl, hS21, hE20⟩
  have hB23 := hB17.trans (Ext.stp hE20 hS15.base)
  refine wl_nil ?_
  refine hK5 _ _ ?_
  refine w_seq fun K24 hK24 => ?_
  refine w_region ?_
  refine wl_step rfl (q_lit0 (α := Int) rfl SL23 hS21) ?_
  rintro _ w25 ⟨a26, rfl, hS28, hE27⟩
  have hB30 := hB23.trans (Ext.stp hE27 hS21.base)
  refine wl_step rfl (q_lit0 (α := Int) rfl SL23 hS28) ?_
  rintro _ w31 ⟨a32, rfl, hS34, hE33⟩
  have hB36 := hB30.trans (Ext.stp hE33 hS28.base)
  refine wl_step rfl (q_alloc (cs := #[.slice none 0 0]) ZR23 rfl hS34) ?_
  rintro _ w37 ⟨g38, rfl, hS40, hE39⟩
  have hB42 := hB36.trans (Ext.stp hE39 hS34.base)
  refine wl_step rfl (q_alloc (cs := #[.slice none 0 0]) ZR23 rfl hS40) ?_
  rintro _ w43 ⟨g44, rfl, hS46, hE45⟩
  have hB48 := hB42.trans (Ext.stp hE45 hS40.base)
  have hS52 := hS46.f1
  refine wl_step rfl (q_storeB (i := 0) (bs' := #[.slice a26 0 0]) (vs := [.slice a26 0 0]) hS52 ON23.sz rfl rfl rfl (by simp [Value.oneCell']) (Nat.le_of_ble_eq_true rfl) rfl) ?_
  rintro _ w49 ⟨rfl, hS50, hb51⟩
  have hB53 := hB48.trans hb51
  have hS57 := hS50.f1
  refine wl_step rfl (q_storeB (i := 0) (bs' := #[.slice a32 0 0]) (vs := [.slice a32 0 0]) hS57 ON23.sz rfl rfl rfl (by simp [Value.oneCell']) (Nat.le_of_ble_eq_true rfl) rfl) ?_
  rintro _ w54 ⟨rfl, hS55, hb56⟩
  have hB58 := hB53.trans hb56
  refine wl_nil ?_
  refine hK24 _ _ ?_
  refine w_cut (σ := List Int × Option Addr × Nat × Nat) (fun ⟨x188, a189, n190, c191⟩ => [(3, .pointer (some (⟨g7, 0, none⟩ : Addr))), (4, .pointer (some (⟨g13, 0, none⟩ : Addr))), (5, .pointer (some (⟨g19, 0, none⟩ : Addr))), (6, .pointer (some (⟨g38, 0, none⟩ : Addr))), (7, .pointer (some (⟨g44, 0, none⟩ : Addr)))]) (fun ⟨x188, a189, n190, c191⟩ w' => m_impl_castings_CastingsOf_1_K0 p0 p1 p2_0 Q x188 ∧ Below B_ w w' ∧ Sep w' B_ (oB gp2_0 37 #[.slice ap2_0 np2_0 cp2_0] :: oB g7 27 #[.slice a0 n0 c0] :: oB g13 23 #[.slice a1 n1 c1] :: oB g19 67 #[.func (.func 72) #[] #[.pointer (some (⟨gp2_0, 0, none⟩ : Addr))]] :: oB g38 23 #[.slice a189 n190 c191] :: oB g44 23 #[.slice a32 0 0] :: oS 23 ap2_0 np2_0 cp2_0 (yp2_0 : List (Hd Int)) :: oT 3 (yp2_0 : List (Hd Int)) :: oS 3 a189 n190 c191 (x188 : List Int) :: oS 3 a32 0 0 ([] : List Int) :: L_)) ?_ ?_
  · refine w_seq fun K193 hK193 => ?_
    refine w_region ?_
    refine wl_val (q_loadB (i := 0) (bs := #[.slice a0 n0 c0]) hS55.g6 ON27 rfl rfl) rfl ?_
    refine wl_val (q_len SL27 rfl (Tv.len (hp0.bel hB58))) rfl ?_
    refine wl_val (g_move (v := .int .i64 0) rfl) rfl ?_
    refine wl_nil ?_
    refine hK193 _ _ ?_
    refine w_block ?_
    have hS199 := hS55.f2
    have hS200 := hS199.f3
    have hS201 := hS200.f9
    have hS202 := hS201.f9
    have hS203 := hS202.f4
    have hS204 := hS203.f5
    have hS205 := hS204.f6
    have hS206 := hS205.f7
    have hS207 := hS206.f8
    have hS208 := hS207.f9
    obtain ⟨I209, μ210, h0211, hr212⟩ := hm
    refine w_for (σ := Int × List Int × Option Addr × Nat × Nat) (fun ⟨v194, x195, a196, n197, c198⟩ => [(3, .pointer (some (⟨g7, 0, none⟩ : Addr))), (4, .pointer (some (⟨g13, 0, none⟩ : Addr))), (5, .pointer (some (⟨g19, 0, none⟩ : Addr))), (6, .pointer (some (⟨g38, 0, none⟩ : Addr))), (7, .pointer (some (⟨g44, 0, none⟩ : Addr))), (13, .slice a0 n0 c0), (14, .int .i64 (p0.length : Int)), (15, .int .i64 v194)]) (fun ⟨v194, x195, a196, n197, c198⟩ w' => I209 v194 x195 ∧ Below B_ w w' ∧ Sep w' B_ (oB gp2_0 37 #[.slice ap2_0 np2_0 cp2_0] :: oB g7 27 #[.slice a0 n0 c0] :: oB g13 23 #[.slice a1 n1 c1] :: oB g19 67 #[.func (.func 72) #[] #[.pointer (some (⟨gp2_0, 0, none⟩ : Addr))]] :: oB g38 23 #[.slice a196 n197 c198] :: oB g44 23 #[.slice a32 0 0] :: oS 23 ap2_0 np2_0 cp2_0 (yp2_0 : List (Hd Int)) :: oT 3 (yp2_0 : List (Hd Int)) :: oS 3 a196 n197 c198 (x195 : List Int) :: oS 3 a32 0 0 ([] : List Int) :: L_)) (fun ⟨v194, x195, a196, n197, c198⟩ => μ210 v194 x195) (0, [], a26, 0, 0) ⟨rfl, rfl, rfl, rfl, rfl, rfl, rfl, rfl, trivial⟩ ⟨h0211, hB58, hS208⟩ ?_
    rintro ⟨v194, x195, a196, n197, c198⟩ b_ w213 ⟨hi_, hB214, hS215⟩
    show Wp _ _ _ _ (upds b_ [(3, .pointer (some (⟨g7, 0, none⟩ : Addr))), (4, .pointer (some (⟨g13, 0, none⟩ : Addr))), (5, .pointer (some (⟨g19, 0, none⟩ : Addr))), (6, .pointer (some (⟨g38, 0, none⟩ : Addr))), (7, .pointer (some (⟨g44, 0, none⟩ : Addr))), (13, .slice a0 n0 c0), (14, .int .i64 (p0.length : Int)), (15, .int .i64 v194)]) w213
    have hm := hr212 v194 x195 hi_
    refine w_seq fun K217 hK217 => ?_
    refine w_region ?_
    refine wl_val (g_lss (a := v194) (b := (p0.length : Int)) rfl rfl) rfl ?_
    refine wl_nil ?_
    refine hK217 _ _ ?_
    refine w_seq fun K218 hK218 => ?_
    refine w_condI (p := v194 < (p0.length : Int)) (b := (decide (v194 < (p0.length : Int)))) rfl decide_eq_true_iff (fun h219 => ?_) (fun h219 => ?_)
    · replace hm := hm.1 h219
      refine w_skip ?_
      refine hK218 _ _ ?_
      refine w_seq fun K220 hK220 => ?_
      refine w_block ?_
      refine w_seq fun K221 hK221 => ?_
      refine w_region ?_
      obtain ⟨hg222, hm⟩ := hm
      refine wl_val (q_index (i := v194) SL27 rfl rfl (Tv.o (hp0.bel hB214)) (Tv.g (hp0.bel hB214) hg222)) rfl ?_
      refine wl_val (q_loadS (i := v194) (cs := [.slice ((y0[(Int.toNat v194)]!).1.1) ((y0[(Int.toNat v194)]!).1.2.2.length) ((y0[(Int.toNat v194)]!).1.2.1), .int .i64 (p0[(Int.toNat v194)]!.2)]) AG54 (Tv.o (hp0.bel hB214)) (Tv.g (hp0.bel hB214) hg222) (by rw [← Tv.free (hp0.bel hB214) hg222]; rfl) rfl) rfl ?_
      refine wl_step rfl (q_alloc (cs := #[.slice none 0 0, .int .i64 0]) ZR54 rfl hS215) ?_
      rintro _ w223 ⟨g224, rfl, hS226, hE225⟩
      have hB228 := hB214.trans (Ext.stp hE225 hS215.base)
      refine wl_step rfl (q_storeB (i := 0) (bs' := #[.slice ((y0[(Int.toNat v194)]!).1.1) ((y0[(Int.toNat v194)]!).1.2.2.length) ((y0[(Int.toNat v194)]!).1.2.1), .int .i64 (p0[(Int.toNat v194)]!.2)]) (vs := [.slice ((y0[(Int.toNat v194)]!).1.1) ((y0[(Int.toNat v194)]!).1.2.2.length) ((y0[(Int.toNat v194)]!).1.2.1), .int .i64 (p0[(Int.toNat v194)]!.2)]) hS226 AG54.sz rfl rfl rfl (by simp [Value.oneCell']) (Nat.le_of_ble_eq_true rfl) rfl) ?_
      rintro _ w229 ⟨rfl, hS230, hb231⟩
      have hB232 := hB228.trans hb231
      refine wl_nil ?_
      refine hK221 _ _ ?_
      refine w_region ?_
      refine wl_val (q_loadB (i := 0) (bs := #[.slice a196 n197 c198]) hS230.g5 ON23 rfl rfl) rfl ?_
      refine wl_val (g_fieldAddr (q := (⟨g224, 0, none⟩ : Addr)) FL54_1 ON3 rfl) rfl ?_
      refine wl_val (q_loadB (i := 1) (bs := #[.slice ((y0[(Int.toNat v194)]!).1.1) ((y0[(Int.toNat v194)]!).1.2.2.length) ((y0[(Int.toNat v194)]!).1.2.1), .int .i64 (p0[(Int.toNat v194)]!.2)]) hS230.g0 ON3 rfl rfl) rfl ?_
      refine wl_step rfl (q_lit1 (y := (p0[(Int.toNat v194)]!.2 : Int)) SL23 rfl rfl (by decide) hS230) ?_
      rintro _ w233 ⟨a234, rfl, hS236, hE235⟩
      have hB238 := hB232.trans (Ext.stp hE235 hS230.base)
      have hS244 := hS236.f10
      obtain ⟨hg245, hm⟩ := hm
      refine wl_step rfl (q_append SL23 rfl rfl hS244 (oS.vw hS244.g1) hg245 (by decide)) ?_
      rintro _ w239 ⟨a240, c241, rfl, hS243, hb242⟩
      have hB246 := hB238.trans hb242
      have hS250 := hS243.f7
      refine wl_step rfl (q_storeB (i := 0) (bs' := #[.slice a240 (n197 + 1) c241]) (vs := [.slice a240 (n197 + 1) c241]) hS250 ON23.sz rfl rfl rfl (by simp [Value.oneCell']) (Nat.le_of_ble_eq_true rfl) rfl) ?_
      rintro _ w247 ⟨rfl, hS248, hb249⟩
      have hB251 := hB246.trans hb249
      refine wl_nil ?_
      refine hK220 _ _ ?_
      refine w_region ?_
      obtain ⟨hg252, hm⟩ := hm
      refine wl_val (g_add (a := v194) (b := 1) rfl rfl hg252) rfl ?_
      refine wl_val (g_move (v := .int .i64 (v194 + 1)) rfl) rfl ?_
      refine wl_nil ?_
      have hS253 := hS248.f2
      have hS254 := hS253.tail
      have hS255 := hS254.f2
      have hS256 := hS255.tail
      have hS257 := hS256.f9
      have hS258 := hS257.f2
      have hS259 := hS258.f9
      have hS260 := hS259.f9
      have hS261 := hS260.f9
      have hS262 := hS261.f5
      have hS263 := hS262.f9
      have hS264 := hS263.f9
      have hS265 := hS264.f9
      have hS266 := hS265.f9
      exact ⟨((v194 + 1), (x195 ++ ([p0[(Int.toNat v194)]!.2])), a240, (n197 + 1), c241), hm.2, ⟨rfl, rfl, rfl, rfl, rfl, rfl, rfl, rfl, trivial⟩, ⟨hm.1, hB251, hS266⟩⟩
    · replace hm := hm.2 h219
      refine w_exit ?_
      exact ⟨(x195, a196, n197, c198), ⟨rfl, rfl, rfl, rfl, rfl, trivial⟩, ⟨hm, hB214, hS215⟩⟩
  · rintro ⟨x188, a189, n190, c191⟩ b_ w267 ⟨hm, hB268, hS269⟩
    show Wp _ _ _ _ (upds b_ [(3, .pointer (some (⟨g7, 0, none⟩ : Addr))), (4, .pointer (some (⟨g13, 0, none⟩ : Addr))), (5, .pointer (some (⟨g19, 0, none⟩ : Addr))), (6, .pointer (some (⟨g38, 0, none⟩ : Addr))), (7, .pointer (some (⟨g44, 0, none⟩ : Addr)))]) w267
    refine w_seq fun K270 hK270 => ?_
    refine w_region ?_
    refine wl_step rfl (q_alloc (cs := #[.nilFunc]) ZR86 rfl hS269) ?_
    rintro _ w271 ⟨g272, rfl, hS274, hE273⟩
    have hB276 := hB268.trans (Ext.stp hE273 hS269.base)
    refine wl_nil ?_
    refine hK270 _ _ ?_
    refine w_seq fun K277 hK277 => ?_
    refine w_region ?_
    refine wl_val (g_makeFunc (vs := #[.pointer (some (⟨g44, 0, none⟩ : Addr)), .pointer (some (⟨g13, 0, none⟩ : Addr)), .pointer (some (⟨g19, 0, none⟩ : Addr)), .pointer (some (⟨g7, 0, none⟩ : Addr)), .pointer (some (⟨g38, 0, none⟩ : Addr)), .pointer (some (⟨g272, 0, none⟩ : Addr))]) (args6 rfl rfl rfl rfl rfl rfl)) rfl ?_
    refine wl_step rfl (q_storeB (i := 0) (bs' := #[.func (.func 91) #[] #[.pointer (some (⟨g44, 0, none⟩ : Addr)), .pointer (some (⟨g13, 0, none⟩ : Addr)), .pointer (some (⟨g19, 0, none⟩ : Addr)), .pointer (some (⟨g7, 0, none⟩ : Addr)), .pointer (some (⟨g38, 0, none⟩ : Addr)), .pointer (some (⟨g272, 0, none⟩ : Addr))]]) (vs := [.func (.func 91) #[] #[.pointer (some (⟨g44, 0, none⟩ : Addr)), .pointer (some (⟨g13, 0, none⟩ : Addr)), .pointer (some (⟨g19, 0, none⟩ : Addr)), .pointer (some (⟨g7, 0, none⟩ : Addr)), .pointer (some (⟨g38, 0, none⟩ : Addr)), .pointer (some (⟨g272, 0, none⟩ : Addr))]]) hS274 ON86.sz rfl rfl rfl (by simp [Value.oneCell']) (Nat.le_of_ble_eq_true rfl) rfl) ?_
    rintro _ w278 ⟨rfl, hS279, hb280⟩
    have hB281 := hB276.trans hb280
    refine wl_nil ?_
    refine hK277 _ _ ?_
    refine w_region ?_
    refine wl_val (q_loadB (i := 0) (bs := #[.func (.func 91) #[] #[.pointer (some (⟨g44, 0, none⟩ : Addr)), .pointer (some (⟨g13, 0, none⟩ : Addr)), .pointer (some (⟨g19, 0, none⟩ : Addr)), .pointer (some (⟨g7, 0, none⟩ : Addr)), .pointer (some (⟨g38, 0, none⟩ : Addr)), .pointer (some (⟨g272, 0, none⟩ : Addr))]]) hS279.g0 ON86 rfl rfl) rfl ?_
    have hS282 := hS279.f8
    have hS283 := hS282.f8
    have hS284 := hS283.f3
    have hS285 := hS284.f3
    have hS286 := hS285.f9
    have hS287 := hS286.f8
    have hS288 := hS287.f6
    have hS289 := hS288.f8
    have hS290 := hS289.f8
    have hS291 := hS290.f10
    have hS292 := hS291.f10
    obtain ⟨f293, hm⟩ := hm
    refine wl_step rfl (g_callvc (f := 91) (va := #[]) (cap := #[.pointer (some (⟨g44, 0, none⟩ : Addr)), .pointer (some (⟨g13, 0, none⟩ : Addr)), .pointer (some (⟨g19, 0, none⟩ : Addr)), .pointer (some (⟨g7, 0, none⟩ : Addr)), .pointer (some (⟨g38, 0, none⟩ : Addr)), .pointer (some (⟨g272, 0, none⟩ : Addr))]) (vs := #[.pointer (some (⟨g44, 0, none⟩ : Addr)), .pointer (some (⟨g13, 0, none⟩ : Addr)), .pointer (some (⟨g19, 0, none⟩ : Addr)), .pointer (some (⟨g7, 0, none⟩ : Addr)), .pointer (some (⟨g38, 0, none⟩ : Addr)), .pointer (some (⟨g272, 0, none⟩ : Addr))]) CF91 rfl args0 rfl (m_impl_castings_1_CastingsOf_1_fn f293 hS292 (hp1.bel hB281) (hp0.bel hB281) hep2_0 hm)) ?_
    rintro _ w294 ⟨r297, x298, a299, n300, c301, x302, a303, n304, c305, x306, a307, n308, c309, y310, hm, he311, rfl, hb295, hS296⟩
    have hB312 := hB281.trans hb295
    refine wl_nil ?_
    have hS313 := hS296.tail
    have hS314 := hS313.tail
    have hS315 := hS314.tail
    have hS316 := hS315.tail
    have hS317 := hS316.tail
    have hS318 := hS317.tail
    have hS319 := hS318.tail
    have hS320 := hS319.tail
    repeat first | with_reducible refine q_then ?_ | with_reducible refine q_block ?_
    exact ret0n rfl ⟨_, _, _, _, _, hm, he311, rfl, hB312, hS320⟩

theorem m_impl_CastingsOf_fn {w : World} {a0 : Option Addr} {n0 c0 : Nat} {y0 : List PlayerD} {p0 : List PlayerC} {a1 : Option Addr} {n1 c1 : Nat} {p1 : List Int} {Q : (List (List Int)) → Prop} (hp0 : Tv w.heap.size w a0 n0 c0 y0 p0) (hp1 : Vw w.heap.size w a1 n1 c1 p1) (hm : m_impl_CastingsOf p0 p1 Q) :
    Fn Try.prog 27 #[.slice a0 n0 c0, .slice a1 n1 c1] w (fun v w' => ∃ (r0 : List (List Int)) (a0 : Option Addr) (n0 c0 : Nat) (y0 : List (Hd Int)), Q r0 ∧ ers y0 = r0 ∧ v = .slice a0 n0 c0 ∧ Ext w w' ∧ Sep w' w.heap.size [oS 23 a0 n0 c0 y0, oT 3 y0]) := by
  unfold m_impl_CastingsOf at hm
  have hB0 := Below.refl w.heap.size w
  have hS0 : Sep w w.heap.size [] := Sep.nil (Nat.le_refl _)
  refine fn_of_wp Try.func27 rfl (by kernel_rfl) (Nat.le_of_ble_eq_true rfl) ?_
  refine w_seq fun K1 hK1 => ?_
  refine w_region ?_
  refine wl_val (g_assign (v := .slice none 0 0) rfl) rfl ?_
  refine wl_nil ?_
  refine hK1 _ _ ?_
  refine w_seq fun K2 hK2 => ?_
  refine w_seq fun K3 hK3 => ?_
  refine w_region ?_
  refine wl_val (g_move (v := .slice a0 n0 c0) rfl) rfl ?_
  refine wl_step rfl (g_call (vs := #[.slice a0 n0 c0]) CF44 (args1 rfl) (m_impl_PlayersOk_fn ((hp0.bel hB0).up hS0) hm)) ?_
  rintro _ w4 ⟨r7, hm, rfl, hE5⟩
  have hB8 := hB0.trans (Ext.stp hE5 hS0.base)
  have hS9 := hS0.ext hE5
  refine wl_val (g_not (a := r7) rfl) rfl ?_
  refine wl_val (g_move (v := .bool (!r7)) rfl) rfl ?_
  refine wl_guard (c := (!r7) = false) (val := .slice a1 n1 c1) (b := ((!r7) == false)) (gv_some rfl rfl rfl) beq_iff_eq (fun hc10 => ?_) ?_
  · have hcq0 : ¬ (¬ (r7 = true)) := (i_neg (i_not Iff.rfl) hc10)
    exact g_move (v := .slice a1 n1 c1) rfl
  obtain ⟨r12, hk13, hm⟩ := hm
  refine wl_guardE (X := Ext) (c := (!r7) = false) (val := .bool r12) (Ext.refl _) (b := ((!r7) == false)) (gv_some rfl rfl rfl) beq_iff_eq (fun hc11 => ?_) (fun w14 hE15 => ?_)
  · have hcq0 : ¬ (¬ (r7 = true)) := (i_neg (i_not Iff.rfl) hc11)
    exact (g_call (vs := #[.slice a1 n1 c1]) CF61 (args1 (if_pos hc11)) ((m_impl_arePuppets_fn ((hp1.bel hB8).up hS9) (hk13 hcq0)).mono fun _ _ ⟨_, h1, h2, h3⟩ => ⟨by rw [h2, h1], h3⟩))
  have hB16 := hB8.trans (Ext.stp hE15 hS9.base)
  have hS17 := hS9.ext hE15
  refine wl_guard (c := (!r7) = false) (val := .bool (!r12)) (b := ((!r7) == false)) (gv_some rfl rfl rfl) beq_iff_eq (fun hc18 => ?_) ?_
  · have hcq0 : ¬ (¬ (r7 = true)) := (i_neg (i_not Iff.rfl) hc18)
    exact g_not (a := r12) (if_pos hc18)
  refine wl_val (g_pick_or (b := (!r7)) (q := (!r12)) rfl rfl) rfl ?_
  refine wl_val (g_move (v := .bool ((!r7) || (!r12))) rfl) rfl ?_
  refine wl_guard (c := ((!r7) || (!r12)) = false) (val := .slice a1 n1 c1) (b := (((!r7) || (!r12)) == false)) (gv_some rfl rfl rfl) beq_iff_eq (fun hc19 => ?_) ?_
  · have hcq1 : ¬ (((¬ (r7 = true)) ∨ (¬ (r12 = true)))) := (i_neg (i_or (i_not Iff.rfl) (i_not Iff.rfl)) hc19)
    exact g_move (v := .slice a1 n1 c1) rfl
  refine wl_guard (c := ((!r7) || (!r12)) = false) (val := .int .i64 (p1.length : Int)) (b := (((!r7) || (!r12)) == false)) (gv_some rfl rfl rfl) beq_iff_eq (fun hc20 => ?_) ?_
  · have hcq1 : ¬ (((¬ (r7 = true)) ∨ (¬ (r12 = true)))) := (i_neg (i_or (i_not Iff.rfl) (i_not Iff.rfl)) hc20)
    exact q_len SL23 (if_pos hc20) (Vw.len (hp1.bel hB16))
  refine wl_guard (c := ((!r7) || (!r12)) = false) (val := .bool (decide ((p1.length : Int) > 4))) (b := (((!r7) || (!r12)) == false)) (gv_some rfl rfl rfl) beq_iff_eq (fun hc21 => ?_) ?_
  · have hcq1 : ¬ (((¬ (r7 = true)) ∨ (¬ (r12 = true)))) := (i_neg (i_or (i_not Iff.rfl) (i_not Iff.rfl)) hc21)
    exact g_gtr (a := (p1.length : Int)) (b := 4) (if_pos hc21) rfl
  refine wl_val (g_pick_or (b := ((!r7) || (!r12))) (q := (decide ((p1.length : Int) > 4))) rfl rfl) rfl ?_
  refine wl_nil ?_
  refine hK3 _ _ ?_
  refine w_condI (p := ((((¬ (r7 = true)) ∨ (¬ (r12 = true)))) ∨ ((p1.length : Int) > 4))) (b := (((!r7) || (!r12)) || (decide ((p1.length : Int) > 4)))) rfl (i_or (i_or (i_not Iff.rfl) (i_not Iff.rfl)) decide_eq_true_iff) (fun h22 => ?_) (fun h22 => ?_)
  · replace hm := hm.1 h22
    refine w_seq fun K23 hK23 => ?_
    refine w_region ?_
    refine wl_val (g_assign (v := .slice none 0 0) rfl) rfl ?_
    refine wl_nil ?_
    refine hK23 _ _ ?_
    refine w_ret ?_
    have hS24 := hS17.nilS (α := (Hd Int)) (E := 23)
    have hS26 := hS24.noRows (δ := Hd Int) (E := 3)
    have he28 : ers ([] : List (Hd Int)) = ([] : List (List Int)) := rfl
    have hS30 := hS26.f1
    repeat first | with_reducible refine q_then ?_ | with_reducible refine q_block ?_
    exact ret1 rfl (by decide) ⟨_, _, _, _, _, hm, he28, rfl, toExt hB16, hS30⟩
  · replace hm := hm.2 h22
    refine w_skip ?_
    refine hK2 _ _ ?_
    refine w_seq fun K31 hK31 => ?_
    refine w_region ?_
    refine wl_step rfl (q_lit0 (α := (Hd Int)) rfl SL37 hS17) ?_
    rintro _ w32 ⟨a33, rfl, hS35, hE34⟩
    have hB37 := hB16.trans (Ext.stp hE34 hS17.base)
    have hS38 := hS35.noRows (δ := Hd Int) (E := 3)
    have he40 : ers ([] : List (Hd Int)) = ([] : List (List Int)) := rfl
    refine wl_step rfl (q_alloc (cs := #[.slice none 0 0]) ZR37 rfl hS38) ?_
    rintro _ w42 ⟨g43, rfl, hS45, hE44⟩
    have hB47 := hB37.trans (Ext.stp hE44 hS38.base)
    refine wl_step rfl (q_storeB (i := 0) (bs' := #[.slice a33 0 0]) (vs := [.slice a33 0 0]) hS45 ON37.sz rfl rfl rfl (by simp [Value.oneCell']) (Nat.le_of_ble_eq_true rfl) rfl) ?_
    rintro _ w48 ⟨rfl, hS49, hb50⟩
    have hB51 := hB47.trans hb50
    refine wl_nil ?_
    refine hK31 _ _ ?_
    refine w_seq fun K52 hK52 => ?_
    refine w_region ?_
    refine wl_val (g_move (v := .slice a0 n0 c0) rfl) rfl ?_
    refine wl_val (g_move (v := .slice a1 n1 c1) rfl) rfl ?_
    refine wl_val (g_makeFunc (vs := #[.pointer (some (⟨g43, 0, none⟩ : Addr))]) (args1 rfl)) rfl ?_
    have hS53 := hS49.f1
    have hS54 := hS53.f2
    have hS55 := hS54.f2
    refine wl_step rfl (g_call (vs := #[.slice a0 n0 c0, .slice a1 n1 c1, .func (.func 72) #[] #[.pointer (some (⟨g43, 0, none⟩ : Addr))]]) CF62 (args3 rfl rfl rfl) (m_impl_castings_CastingsOf_1_fn hS55 (hp0.bel hB51) (hp1.bel hB51) he40 hm)) ?_
    rintro _ w56 ⟨x59, a60, n61, c62, y63, hm, he64, rfl, hb57, hS58⟩
    have hB65 := hB51.trans hb57
    refine wl_nil ?_
    refine hK52 _ _ ?_
    refine w_seq fun K66 hK66 => ?_
    refine w_region ?_
    refine wl_val (q_loadB (i := 0) (bs := #[.slice a60 n61 c62]) hS58.g0 ON37 rfl rfl) rfl ?_
    refine wl_val (g_assign (v := .slice a60 n61 c62) rfl) rfl ?_
    refine wl_nil ?_
    refine hK66 _ _ ?_
    refine w_ret ?_
    have hS67 := hS58.tail
    repeat first | with_reducible refine q_then ?_ | with_reducible refine q_block ?_
    exact ret1 rfl (by decide) ⟨_, _, _, _, _, hm, he64, rfl, toExt hB65, hS67⟩

theorem m_laws_eqIntSS_fn {w : World} {a0 : Option Addr} {n0 c0 : Nat} {y0 : List (Hd Int)} {p0 : List (List Int)} {a1 : Option Addr} {n1 c1 : Nat} {y1 : List (Hd Int)} {p1 : List (List Int)} {Q : Bool → Prop} (hp0 : Tv w.heap.size w a0 n0 c0 y0 p0) (hp1 : Tv w.heap.size w a1 n1 c1 y1 p1) (hm : m_laws_eqIntSS p0 p1 Q) :
    Fn Try.prog 28 #[.slice a0 n0 c0, .slice a1 n1 c1] w (fun v w' => ∃ (r0 : Bool), Q r0 ∧ v = .bool r0 ∧ Ext w w') := by
  unfold m_laws_eqIntSS at hm
  have hB0 := Below.refl w.heap.size w
  have hS0 : Sep w w.heap.size [] := Sep.nil (Nat.le_refl _)
  refine fn_of_wp Try.func28 rfl (by kernel_rfl) (Nat.le_of_ble_eq_true rfl) ?_
  refine w_seq fun K1 hK1 => ?_
  refine w_region ?_
  refine wl_val (g_assign (v := .bool false) rfl) rfl ?_
  refine wl_nil ?_
  refine hK1 _ _ ?_
  refine w_seq fun K2 hK2 => ?_
  refine w_seq fun K3 hK3 => ?_
  refine w_region ?_
  refine wl_val (g_move (v := .slice a0 n0 c0) rfl) rfl ?_
  refine wl_val (q_len SL37 rfl (Tv.len (hp0.bel hB0))) rfl ?_
  refine wl_val (g_move (v := .slice a1 n1 c1) rfl) rfl ?_
  refine wl_val (q_len SL37 rfl (Tv.len (hp1.bel hB0))) rfl ?_
  refine wl_val (g_neq (a := (p0.length : Int)) (b := (p1.length : Int)) rfl rfl) rfl ?_
  refine wl_nil ?_
  refine hK3 _ _ ?_
  refine w_condI (p := (p0.length : Int) ≠ (p1.length : Int)) (b := (decide ((p0.length : Int) ≠ (p1.length : Int)))) rfl decide_eq_true_iff (fun h4 => ?_) (fun h4 => ?_)
  · replace hm := hm.1 h4
    refine w_seq fun K5 hK5 => ?_
    refine w_region ?_
    refine wl_val (g_assign (v := .bool false) rfl) rfl ?_
    refine wl_nil ?_
    refine hK5 _ _ ?_
    refine w_ret ?_
    repeat first | with_reducible refine q_then ?_ | with_reducible refine q_block ?_
    exact ret1 rfl (by decide) ⟨_, hm, rfl, toExt hB0⟩
  · replace hm := hm.2 h4
    refine w_skip ?_
    refine hK2 _ _ ?_
    refine w_cut (σ := Unit) (fun _ => []) (fun _ w' => m_laws_eqIntSS_K0 Q ∧ Below w.heap.size w w' ∧ Sep w' w.heap.size []) ?_ ?_
    · refine w_seq fun K7 hK7 => ?_
      refine w_region ?_
      refine wl_val (g_assign (v := .int .i64 0) rfl) rfl ?_
      refine wl_nil ?_
      refine hK7 _ _ ?_
      refine w_block ?_
      obtain ⟨I77, μ78, h079, hr80⟩ := hm
      refine w_for (σ := Int) (fun v76 => [(0, .slice a0 n0 c0), (1, .slice a1 n1 c1), (5, .int .i64 v76)]) (fun v76 w' => I77 v76 ∧ Below w.heap.size w w' ∧ Sep w' w.heap.size []) (fun v76 => μ78 v76) (0) ⟨rfl, rfl, rfl, trivial⟩ ⟨h079, hB0, hS0⟩ ?_
      rintro v76 b_ w81 ⟨hi_, hB82, hS83⟩
      show Wp _ _ _ _ (upds b_ [(0, .slice a0 n0 c0), (1, .slice a1 n1 c1), (5, .int .i64 v76)]) w81
      have hm := hr80 v76 hi_
      refine w_seq fun K85 hK85 => ?_
      refine w_seq fun K86 hK86 => ?_
      refine w_region ?_
      refine wl_val (g_move (v := .int .i64 v76) rfl) rfl ?_
      refine wl_val (g_move (v := .slice a0 n0 c0) rfl) rfl ?_
      refine wl_val (q_len SL37 rfl (Tv.len (hp0.bel hB82))) rfl ?_
      refine wl_val (g_lss (a := v76) (b := (p0.length : Int)) rfl rfl) rfl ?_
      refine wl_nil ?_
      refine hK86 _ _ ?_
      refine w_condI (p := v76 < (p0.length : Int)) (b := (decide (v76 < (p0.length : Int)))) rfl decide_eq_true_iff (fun h87 => ?_) (fun h87 => ?_)
      · replace hm := hm.1 h87
        refine w_skip ?_
        refine hK85 _ _ ?_
        refine w_seq fun K88 hK88 => ?_
        refine w_block ?_
        refine w_seq fun K89 hK89 => ?_
        refine w_draw (X := Ext) (Y := Ext) [] MIX (by decide +kernel) rfl Ext.refl (fun _ _ _ => Ext.trans) (fun _ _ _ => Chg.trans) (fun _ _ h => Ext.chg h _) (fun w90 hE91 => ?_)
        have hB92 := hB82.trans (Ext.stp hE91 hS83.base)
        have hS93 := hS83.ext hE91
        refine ⟨.slice a0 n0 c0, fun w94 hX95 => od_plain rfl (by have hS96 := hS93.ext hX95; have hB97 := hB92.trans (Ext.stp hX95 hS93.base); exact is_ext (g_move (v := .slice a0 n0 c0) rfl)), ?_⟩
        refine ⟨.int .i64 v76, fun w98 hX99 => od_plain rfl (by have hS100 := hS93.ext hX99; have hB101 := hB92.trans (Ext.stp hX99 hS93.base); exact is_ext (g_move (v := .int .i64 v76) rfl)), ?_⟩
        obtain ⟨hg106, hm⟩ := hm
        refine ⟨.pointer (some ((adr a0).add ((Int.toNat v76) * El.m (Hd Int)))), fun w102 hX103 => od_plain rfl (by have hS104 := hS93.ext hX103; have hB105 := hB92.trans (Ext.stp hX103 hS93.base); exact is_ext (q_index (i := v76) SL37 rfl rfl (Tv.o (hp0.bel hB105)) (Tv.g (hp0.bel hB105) hg106))), ?_⟩
        refine ⟨.slice ((y0[(Int.toNat v76)]!).1) ((y0[(Int.toNat v76)]!).2.2.length) ((y0[(Int.toNat v76)]!).2.1), fun w107 hX108 => od_plain rfl (by have hS109 := hS93.ext hX108; have hB110 := hB92.trans (Ext.stp hX108 hS93.base); exact is_ext (q_load (i := v76) (v := .slice ((y0[(Int.toNat v76)]!).1) ((y0[(Int.toNat v76)]!).2.2.length) ((y0[(Int.toNat v76)]!).2.1)) ON23 (Tv.o (hp0.bel hB110)) (Tv.g (hp0.bel hB110) hg106) rfl rfl)), ?_⟩
        refine ⟨.slice a1 n1 c1, fun w111 hX112 => od_plain rfl (by have hS113 := hS93.ext hX112; have hB114 := hB92.trans (Ext.stp hX112 hS93.base); exact is_ext (g_move (v := .slice a1 n1 c1) rfl)), ?_⟩
        refine ⟨.int .i64 v76, fun w115 hX116 => od_plain rfl (by have hS117 := hS93.ext hX116; have hB118 := hB92.trans (Ext.stp hX116 hS93.base); exact is_ext (g_move (v := .int .i64 v76) rfl)), ?_⟩
        obtain ⟨hg123, hm⟩ := hm
        refine ⟨.pointer (some ((adr a1).add ((Int.toNat v76) * El.m (Hd Int)))), fun w119 hX120 => od_plain rfl (by have hS121 := hS93.ext hX120; have hB122 := hB92.trans (Ext.stp hX120 hS93.base); exact is_ext (q_index (i := v76) SL37 rfl rfl (Tv.o (hp1.bel hB122)) (Tv.g (hp1.bel hB122) hg123))), ?_⟩
        refine ⟨.slice ((y1[(Int.toNat v76)]!).1) ((y1[(Int.toNat v76)]!).2.2.length) ((y1[(Int.toNat v76)]!).2.1), fun w124 hX125 => od_plain rfl (by have hS126 := hS93.ext hX125; have hB127 := hB92.trans (Ext.stp hX125 hS93.base); exact is_ext (q_load (i := v76) (v := .slice ((y1[(Int.toNat v76)]!).1) ((y1[(Int.toNat v76)]!).2.2.length) ((y1[(Int.toNat v76)]!).2.1)) ON23 (Tv.o (hp1.bel hB127)) (Tv.g (hp1.bel hB127) hg123) rfl rfl)), ?_⟩
        obtain ⟨r132, hk133, hm⟩ := hm
        refine ⟨.bool r132, fun w128 hX129 => od_plain rfl (by have hS130 := hS93.ext hX129; have hB131 := hB92.trans (Ext.stp hX129 hS93.base); exact (g_call (vs := #[.slice ((y0[(Int.toNat v76)]!).1) ((y0[(Int.toNat v76)]!).2.2.length) ((y0[(Int.toNat v76)]!).2.1), .slice ((y1[(Int.toNat v76)]!).1) ((y1[(Int.toNat v76)]!).2.2.length) ((y1[(Int.toNat v76)]!).2.1)]) CF17 (args2 rfl rfl) ((m_laws_eqIntS_fn ((Tv.row (hp0.bel hB131) hg106).up hS130) ((Tv.row (hp1.bel hB131) hg123).up hS130) hk133).mono fun _ _ ⟨_, h1, h2, h3⟩ => ⟨by rw [h2, h1], h3⟩))), ?_⟩
        refine ⟨.bool (!r132), fun w134 hX135 => od_plain rfl (by have hS136 := hS93.ext hX135; have hB137 := hB92.trans (Ext.stp hX135 hS93.base); exact is_ext (g_not (a := r132) rfl)), ?_⟩
        intro w138 hX139
        have hB140 := hB92.trans (Ext.stp hX139 hS93.base)
        have hS141 := hS93.ext hX139
        refine hK89 _ _ ?_
        refine w_condI (p := ¬ (r132 = true)) (b := (!r132)) rfl (i_not Iff.rfl) (fun h142 => ?_) (fun h142 => ?_)
        · replace hm := hm.1 h142
          refine w_seq fun K143 hK143 => ?_
          refine w_region ?_
          refine wl_val (g_assign (v := .bool false) rfl) rfl ?_
          refine wl_nil ?_
          refine hK143 _ _ ?_
          refine w_ret ?_
          repeat first | with_reducible refine q_then ?_ | with_reducible refine q_block ?_
          exact ret1 rfl (by decide) ⟨_, hm, rfl, toExt hB140⟩
        · replace hm := hm.2 h142
          refine w_skip ?_
          refine hK88 _ _ ?_
          refine w_region ?_
          refine wl_val (g_move (v := .int .i64 v76) rfl) rfl ?_
          obtain ⟨hg144, hm⟩ := hm
          refine wl_val (g_add (a := v76) (b := 1) rfl rfl hg144) rfl ?_
          refine wl_val (g_assign (v := .int .i64 (v76 + 1)) rfl) rfl ?_
          refine wl_nil ?_
          exact ⟨((v76 + 1)), hm.2, ⟨rfl, rfl, rfl, trivial⟩, ⟨hm.1, hB140, hS141⟩⟩
      · replace hm := hm.2 h87
        refine w_exit ?_
        exact ⟨(), trivial, ⟨hm, hB82, hS83⟩⟩
    · rintro _ b_ w145 ⟨hm, hB146, hS147⟩
      show Wp _ _ _ _ (upds b_ []) w145
      refine w_seq fun K148 hK148 => ?_
      refine w_region ?_
      refine wl_val (g_assign (v := .bool true) rfl) rfl ?_
      refine wl_nil ?_
      refine hK148 _ _ ?_
      refine w_ret ?_
      repeat first | with_reducible refine q_then ?_ | with_reducible refine q_block ?_
      exact ret1 rfl (by decide) ⟨_, hm, rfl, toExt hB146⟩

theorem m_laws_markIntSS_fn {w : World} {B_ : Nat} {L_ : List Ob} {a0 : Option Addr} {n0 c0 : Nat} {p0 : List (List Int)} {y0 : List (Hd Int)} {Q : Int → (List (List Int)) → Prop} (hS0 : Sep w B_ (oS 23 a0 n0 c0 (y0 : List (Hd Int)) :: oT 3 (y0 : List (Hd Int)) :: L_)) (hep0 : ers y0 = p0) (p1 : Int) (hm : m_laws_markIntSS p0 p1 Q) :
    Fn Try.prog 29 #[.slice a0 n0 c0, .int .i64 p1] w (fun v w' => ∃ (r0 : Int) (x0 : List (List Int)) (yy0 : List (Hd Int)), Q r0 x0 ∧ ers yy0 = x0 ∧ v = .int .i64 r0 ∧ Below B_ w w' ∧ Sep w' B_ (oS 23 a0 n0 c0 yy0 :: oT 3 yy0 :: L_)) := by
  unfold m_laws_markIntSS at hm
  have hB0 := Below.refl B_ w
  refine fn_of_wp Try.func29 rfl (by kernel_rfl) (Nat.le_of_ble_eq_true rfl) ?_
  refine w_seq fun K4 hK4 => ?_
  refine w_region ?_
  refine wl_val (g_assign (v := .int .i64 0) rfl) rfl ?_
  refine wl_nil ?_
  refine hK4 _ _ ?_
  refine w_cut (σ := List (List Int) × List (Hd Int) × Int) (fun ⟨x72, y73, v75⟩ => [(1, .int .i64 v75)]) (fun ⟨x72, y73, v75⟩ w' => m_laws_markIntSS_K0 Q x72 v75 ∧ ers y73 = x72 ∧ Below B_ w w' ∧ Sep w' B_ (oS 23 a0 n0 c0 (y73 : List (Hd Int)) :: oT 3 (y73 : List (Hd Int)) :: L_)) ?_ ?_
  · refine w_seq fun K77 hK77 => ?_
    refine w_region ?_
    refine wl_val (g_assign (v := .int .i64 0) rfl) rfl ?_
    refine wl_nil ?_
    refine hK77 _ _ ?_
    refine w_block ?_
    obtain ⟨I83, μ84, h085, hr86⟩ := hm
    refine w_for (σ := List (List Int) × List (Hd Int) × Int × Int) (fun ⟨x78, y79, v81, v82⟩ => [(0, .slice a0 n0 c0), (1, .int .i64 v81), (5, .int .i64 v82)]) (fun ⟨x78, y79, v81, v82⟩ w' => I83 x78 v81 v82 ∧ ers y79 = x78 ∧ Below B_ w w' ∧ Sep w' B_ (oS 23 a0 n0 c0 (y79 : List (Hd Int)) :: oT 3 (y79 : List (Hd Int)) :: L_)) (fun ⟨x78, y79, v81, v82⟩ => μ84 x78 v81 v82) (p0, y0, p1, 0) ⟨rfl, rfl, rfl, trivial⟩ ⟨h085, hep0, hB0, hS0⟩ ?_
    rintro ⟨x78, y79, v81, v82⟩ b_ w87 ⟨hi_, he80, hB88, hS89⟩
    show Wp _ _ _ _ (upds b_ [(0, .slice a0 n0 c0), (1, .int .i64 v81), (5, .int .i64 v82)]) w87
    have hm := hr86 x78 v81 v82 hi_
    refine w_seq fun K91 hK91 => ?_
    refine w_seq fun K92 hK92 => ?_
    refine w_region ?_
    refine wl_val (g_move (v := .int .i64 v82) rfl) rfl ?_
    refine wl_val (g_move (v := .slice a0 n0 c0) rfl) rfl ?_
    refine wl_val (q_len SL37 rfl (Tv.len (oT.vw hS89.g0 hS89.g1 he80))) rfl ?_
    refine wl_val (g_lss (a := v82) (b := (x78.length : Int)) rfl rfl) rfl ?_
    refine wl_nil ?_
    refine hK92 _ _ ?_
    refine w_condI (p := v82 < (x78.length : Int)) (b := (decide (v82 < (x78.length : Int)))) rfl decide_eq_true_iff (fun h93 => ?_) (fun h93 => ?_)
    · replace hm := hm.1 h93
      refine w_skip ?_
      refine hK91 _ _ ?_
      refine w_seq fun K94 hK94 => ?_
      refine w_block ?_
      refine w_region ?_
      refine wl_val (g_move (v := .slice a0 n0 c0) rfl) rfl ?_
      refine wl_val (g_move (v := .int .i64 v82) rfl) rfl ?_
      obtain ⟨hg95, hm⟩ := hm
      refine wl_val (q_index (i := v82) SL37 rfl rfl (Tv.o (oT.vw hS89.g0 hS89.g1 he80)) (Tv.g (oT.vw hS89.g0 hS89.g1 he80) hg95)) rfl ?_
      refine wl_val (q_load (i := v82) (v := .slice ((y79[(Int.toNat v82)]!).1) ((y79[(Int.toNat v82)]!).2.2.length) ((y79[(Int.toNat v82)]!).2.1)) ON23 (Tv.o (oT.vw hS89.g0 hS89.g1 he80)) (Tv.g (oT.vw hS89.g0 hS89.g1 he80) hg95) rfl rfl) rfl ?_
      refine wl_val (g_move (v := .int .i64 v81) rfl) rfl ?_
      have hS96 := hS89.f1
      have hS97 := hS96.f1
      have hd98 := Sep.dis hS97
      have hl99 : (Int.toNat v82) < (y79).length := by have h1 := (hg95).1; have h2 := (hg95).2; have h3 := congrArg List.length he80; simp only [ers, List.length_map] at h3; omega
      have he102 : (Rw.row (y79)[(Int.toNat v82)]! 0).2.2 = x78[(Int.toNat v82)]! := by rw [← he80]; simp only [er_get hl99]; rfl
      have hS103 := Sep.foc (i := (Int.toNat v82)) (j := 0) hS97 hl99 (by decide) he102
      refine wl_step rfl (g_call (vs := #[.slice ((y79[(Int.toNat v82)]!).1) ((y79[(Int.toNat v82)]!).2.2.length) ((y79[(Int.toNat v82)]!).2.1), .int .i64 v81]) CF20 (args2 rfl rfl) (m_laws_markIntS_fn hS103 v81 hm)) ?_
      rintro _ w104 ⟨r107, x108, hm, rfl, hb105, hS106⟩
      have hB109 := hB88.trans hb105
      have hS110 := Sep.unfoc (i := (Int.toNat v82)) (j := 0) (ys := y79) hS106 hl99 (by decide) rfl hd98
      have he111 : ers (y79.set (Int.toNat v82) (Rs.rset (y79)[(Int.toNat v82)]! 0 x108)) = (x78.set (Int.toNat v82) x108) := ers_set he80 (by first | rfl | (rw [← he80, er_get hl99]; rfl)) _
      refine wl_val (g_assign (v := .int .i64 r107) rfl) rfl ?_
      refine wl_nil ?_
      refine hK94 _ _ ?_
      refine w_region ?_
      refine wl_val (g_move (v := .int .i64 v82) rfl) rfl ?_
      obtain ⟨hg112, hm⟩ := hm
      refine wl_val (g_add (a := v82) (b := 1) rfl rfl hg112) rfl ?_
      refine wl_val (g_assign (v := .int .i64 (v82 + 1)) rfl) rfl ?_
      refine wl_nil ?_
      exact ⟨((x78.set (Int.toNat v82) x108), (y79.set (Int.toNat v82) (Rs.rset (y79)[(Int.toNat v82)]! 0 x108)), r107, (v82 + 1)), hm.2, ⟨rfl, rfl, rfl, trivial⟩, ⟨hm.1, he111, hB109, hS110⟩⟩
    · replace hm := hm.2 h93
      refine w_exit ?_
      exact ⟨(x78, y79, v81), ⟨rfl, trivial⟩, ⟨hm, he80, hB88, hS89⟩⟩
  · rintro ⟨x72, y73, v75⟩ b_ w113 ⟨hm, he74, hB114, hS115⟩
    show Wp _ _ _ _ (upds b_ [(1, .int .i64 v75)]) w113
    refine w_seq fun K116 hK116 => ?_
    refine w_region ?_
    refine wl_val (g_move (v := .int .i64 v75) rfl) rfl ?_
    refine wl_val (g_assign (v := .int .i64 v75) rfl) rfl ?_
    refine wl_nil ?_
    refine hK116 _ _ ?_
    refine w_ret ?_
    repeat first | with_reducible refine q_then ?_ | with_reducible refine q_block ?_
    exact ret1 rfl (by decide) ⟨_, _, _, hm, he74, rfl, hB114, hS115⟩

theorem m_laws_heldIntSS_fn {w : World} {a0 : Option Addr} {n0 c0 : Nat} {y0 : List (Hd Int)} {p0 : List (List Int)} {Q : Int → Prop} (hp0 : Tv w.heap.size w a0 n0 c0 y0 p0) (p1 : Int) (hm : m_laws_heldIntSS p0 p1 Q) :
    Fn Try.prog 30 #[.slice a0 n0 c0, .int .i64 p1] w (fun v w' => ∃ (r0 : Int), Q r0 ∧ v = .int .i64 r0 ∧ Ext w w') := by
  unfold m_laws_heldIntSS at hm
  have hB0 := Below.refl w.heap.size w
  have hS0 : Sep w w.heap.size [] := Sep.nil (Nat.le_refl _)
  refine fn_of_wp Try.func30 rfl (by kernel_rfl) (Nat.le_of_ble_eq_true rfl) ?_
  refine w_seq fun K1 hK1 => ?_
  refine w_region ?_
  refine wl_val (g_assign (v := .int .i64 0) rfl) rfl ?_
  refine wl_nil ?_
  refine hK1 _ _ ?_
  refine w_cut (σ := Int) (fun v54 => [(1, .int .i64 v54)]) (fun v54 w' => m_laws_heldIntSS_K0 Q v54 ∧ Below w.heap.size w w' ∧ Sep w' w.heap.size []) ?_ ?_
  · refine w_seq fun K56 hK56 => ?_
    refine w_region ?_
    refine wl_val (g_assign (v := .int .i64 0) rfl) rfl ?_
    refine wl_nil ?_
    refine hK56 _ _ ?_
    refine w_block ?_
    obtain ⟨I59, μ60, h061, hr62⟩ := hm
    refine w_for (σ := Int × Int) (fun ⟨v57, v58⟩ => [(0, .slice a0 n0 c0), (1, .int .i64 v57), (5, .int .i64 v58)]) (fun ⟨v57, v58⟩ w' => I59 v57 v58 ∧ Below w.heap.size w w' ∧ Sep w' w.heap.size []) (fun ⟨v57, v58⟩ => μ60 v57 v58) (p1, 0) ⟨rfl, rfl, rfl, trivial⟩ ⟨h061, hB0, hS0⟩ ?_
    rintro ⟨v57, v58⟩ b_ w63 ⟨hi_, hB64, hS65⟩
    show Wp _ _ _ _ (upds b_ [(0, .slice a0 n0 c0), (1, .int .i64 v57), (5, .int .i64 v58)]) w63
    have hm := hr62 v57 v58 hi_
    refine w_seq fun K67 hK67 => ?_
    refine w_seq fun K68 hK68 => ?_
    refine w_region ?_
    refine wl_val (g_move (v := .int .i64 v58) rfl) rfl ?_
    refine wl_val (g_move (v := .slice a0 n0 c0) rfl) rfl ?_
    refine wl_val (q_len SL37 rfl (Tv.len (hp0.bel hB64))) rfl ?_
    refine wl_val (g_lss (a := v58) (b := (p0.length : Int)) rfl rfl) rfl ?_
    refine wl_nil ?_
    refine hK68 _ _ ?_
    refine w_condI (p := v58 < (p0.length : Int)) (b := (decide (v58 < (p0.length : Int)))) rfl decide_eq_true_iff (fun h69 => ?_) (fun h69 => ?_)
    · replace hm := hm.1 h69
      refine w_skip ?_
      refine hK67 _ _ ?_
      refine w_seq fun K70 hK70 => ?_
      refine w_block ?_
      refine w_seq fun K71 hK71 => ?_
      refine w_region ?_
      refine wl_val (g_move (v := .slice a0 n0 c0) rfl) rfl ?_
      refine wl_val (g_move (v := .int .i64 v58) rfl) rfl ?_
      obtain ⟨hg72, hm⟩ := hm
      refine wl_val (q_index (i := v58) SL37 rfl rfl (Tv.o (hp0.bel hB64)) (Tv.g (hp0.bel hB64) hg72)) rfl ?_
      refine wl_val (q_load (i := v58) (v := .slice ((y0[(Int.toNat v58)]!).1) ((y0[(Int.toNat v58)]!).2.2.length) ((y0[(Int.toNat v58)]!).2.1)) ON23 (Tv.o (hp0.bel hB64)) (Tv.g (hp0.bel hB64) hg72) rfl rfl) rfl ?_
      refine wl_val (g_move (v := .int .i64 v57) rfl) rfl ?_
      refine wl_step rfl (g_call (vs := #[.slice ((y0[(Int.toNat v58)]!).1) ((y0[(Int.toNat v58)]!).2.2.length) ((y0[(Int.toNat v58)]!).2.1), .int .i64 v57]) CF21 (args2 rfl rfl) (m_laws_heldIntS_fn ((Tv.row (hp0.bel hB64) hg72).up hS65) v57 hm)) ?_
      rintro _ w73 ⟨r76, hm, rfl, hE74⟩
      have hB77 := hB64.trans (Ext.stp hE74 hS65.base)
      have hS78 := hS65.ext hE74
      refine wl_val (g_assign (v := .int .i64 r76) rfl) rfl ?_
      refine wl_nil ?_
      refine hK71 _ _ ?_
      refine w_seq fun K79 hK79 => ?_
      refine w_region ?_
      refine wl_val (g_move (v := .int .i64 r76) rfl) rfl ?_
      refine wl_val (g_lss (a := r76) (b := 0) rfl rfl) rfl ?_
      refine wl_nil ?_
      refine hK79 _ _ ?_
      refine w_condI (p := r76 < 0) (b := (decide (r76 < 0))) rfl decide_eq_true_iff (fun h80 => ?_) (fun h80 => ?_)
      · replace hm := hm.1 h80
        refine w_seq fun K81 hK81 => ?_
        refine w_region ?_
        refine wl_val (g_assign (v := .int .i64 (-1)) rfl) rfl ?_
        refine wl_nil ?_
        refine hK81 _ _ ?_
        refine w_ret ?_
        repeat first | with_reducible refine q_then ?_ | with_reducible refine q_block ?_
        exact ret1 rfl (by decide) ⟨_, hm, rfl, toExt hB77⟩
      · replace hm := hm.2 h80
        refine w_skip ?_
        refine hK70 _ _ ?_
        refine w_region ?_
        refine wl_val (g_move (v := .int .i64 v58) rfl) rfl ?_
        obtain ⟨hg82, hm⟩ := hm
        refine wl_val (g_add (a := v58) (b := 1) rfl rfl hg82) rfl ?_
        refine wl_val (g_assign (v := .int .i64 (v58 + 1)) rfl) rfl ?_
        refine wl_nil ?_
        exact ⟨(r76, (v58 + 1)), hm.2, ⟨rfl, rfl, rfl, trivial⟩, ⟨hm.1, hB77, hS78⟩⟩
    · replace hm := hm.2 h69
      refine w_exit ?_
      exact ⟨(v57), ⟨rfl, trivial⟩, ⟨hm, hB64, hS65⟩⟩
  · rintro v54 b_ w83 ⟨hm, hB84, hS85⟩
    show Wp _ _ _ _ (upds b_ [(1, .int .i64 v54)]) w83
    refine w_seq fun K86 hK86 => ?_
    refine w_region ?_
    refine wl_val (g_move (v := .int .i64 v54) rfl) rfl ?_
    refine wl_val (g_assign (v := .int .i64 v54) rfl) rfl ?_
    refine wl_nil ?_
    refine hK86 _ _ ?_
    refine w_ret ?_
    repeat first | with_reducible refine q_then ?_ | with_reducible refine q_block ?_
    exact ret1 rfl (by decide) ⟨_, hm, rfl, toExt hB84⟩

end Go.Proofs.Ytddjkiefadiijaa
