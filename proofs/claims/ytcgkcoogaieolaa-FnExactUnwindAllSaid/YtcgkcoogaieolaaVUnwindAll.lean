/- The walks: the code does what its model says. Printed by a program (gen2.py). No statement of the claim stands here. -/
import Derived.Test.YtcgkcoogaieolaaSop
import Derived.Test.YtcgkcoogaieolaaFacts
import Derived.Test.YtcgkcoogaieolaaMB
import Derived.Test.YtcgkcoogaieolaaVUnwindAllPart1
namespace Go.Proofs.Ytcgkcoogaieolaa
open Go Go.RowKit
set_option maxRecDepth 100000
theorem m_impl_sameInts_fn {w : World} {a0 : Option Addr} {n0 c0 : Nat} {p0 : List Int} {a1 : Option Addr} {n1 c1 : Nat} {p1 : List Int} {Q : Bool → Prop} (hp0 : Vw w.heap.size w a0 n0 c0 p0) (hp1 : Vw w.heap.size w a1 n1 c1 p1) (hm : m_impl_sameInts p0 p1 Q) :
    Fn Try.prog 76 #[.slice a0 n0 c0, .slice a1 n1 c1] w (fun v w' => ∃ (r0 : Bool), Q r0 ∧ v = .bool r0 ∧ Ext w w') := by
  unfold m_impl_sameInts at hm
  have hB0 := Below.refl w.heap.size w
  have hS0 : Sep w w.heap.size [] := Sep.nil (Nat.le_refl _)
  refine fn_of_wp Try.func76 rfl (by kernel_rfl) (Nat.le_of_ble_eq_true rfl) ?_
  refine w_seq fun K1 hK1 => ?_
  refine w_region ?_
  refine wl_val (g_assign (v := .bool false) rfl) rfl ?_
  refine wl_nil ?_
  refine hK1 _ _ ?_
  refine w_seq fun K2 hK2 => ?_
  refine w_seq fun K3 hK3 => ?_
  refine w_region ?_
  refine wl_val (g_move (v := .slice a0 n0 c0) rfl) rfl ?_
  refine wl_val (q_len SL39 rfl (Vw.len (hp0.bel hB0))) rfl ?_
  refine wl_val (g_move (v := .slice a1 n1 c1) rfl) rfl ?_
  refine wl_val (q_len SL39 rfl (Vw.len (hp1.bel hB0))) rfl ?_
  refine wl_val (g_neq (a := (p0.length : Int)) (b := (p1.length : Int)) rfl rfl) rfl ?_
  refine wl_nil ?_
  refine hK3 _ _ ?_
  refine w_condI (p := (p0.length : Int) ≠ (p1.length : Int)) (b := (decide ((p0.length : Int) ≠ (p1.length : Int)))) rfl decide_eq_true_iff (fun h4 => ?_) (fun h4 => ?_)
  · replace hm := hm.1 h4
    refine w_seq fun K5 hK5 => ?_
    refine w_region ?_
    refine wl_val (g_assign (v := .bool false) rfl) rfl ?_
    refine wl_nil ?_
    refine hK5 _ _ ?_
    refine w_ret ?_
    repeat first | with_reducible refine q_then ?_ | with_reducible refine q_block ?_
    exact ret1 rfl (by decide) ⟨_, hm, rfl, toExt hB0⟩
  · replace hm := hm.2 h4
    refine w_skip ?_
    refine hK2 _ _ ?_
    refine w_cut (σ := Unit) (fun _ => []) (fun _ w' => m_impl_sameInts_K0 Q ∧ Below w.heap.size w w' ∧ Sep w' w.heap.size []) ?_ ?_
    · refine w_seq fun K7 hK7 => ?_
      refine w_region ?_
      refine wl_val (g_move (v := .slice a0 n0 c0) rfl) rfl ?_
      refine wl_val (q_len SL39 rfl (Vw.len (hp0.bel hB0))) rfl ?_
      refine wl_val (g_move (v := .int .i64 0) rfl) rfl ?_
      refine wl_nil ?_
      refine hK7 _ _ ?_
      refine w_block ?_
      obtain ⟨I72, μ73, h074, hr75⟩ := hm
      refine w_for (σ := Int) (fun v71 => [(0, .slice a0 n0 c0), (1, .slice a1 n1 c1), (12, .int .i64 (p0.length : Int)), (13, .int .i64 v71)]) (fun v71 w' => I72 v71 ∧ Below w.heap.size w w' ∧ Sep w' w.heap.size []) (fun v71 => μ73 v71) (0) ⟨rfl, rfl, rfl, rfl, trivial⟩ ⟨h074, hB0, hS0⟩ ?_
      rintro v71 b_ w76 ⟨hi_, hB77, hS78⟩
      show Wp _ _ _ _ (upds b_ [(0, .slice a0 n0 c0), (1, .slice a1 n1 c1), (12, .int .i64 (p0.length : Int)), (13, .int .i64 v71)]) w76
      have hm := hr75 v71 hi_
      refine w_seq fun K80 hK80 => ?_
      refine w_region ?_
      refine wl_val (g_lss (a := v71) (b := (p0.length : Int)) rfl rfl) rfl ?_
      refine wl_nil ?_
      refine hK80 _ _ ?_
      refine w_seq fun K81 hK81 => ?_
      refine w_condI (p := v71 < (p0.length : Int)) (b := (decide (v71 < (p0.length : Int)))) rfl decide_eq_true_iff (fun h82 => ?_) (fun h82 => ?_)
      · replace hm := hm.1 h82
        refine w_skip ?_
        refine hK81 _ _ ?_
        refine w_seq fun K83 hK83 => ?_
        refine w_block ?_
        refine w_seq fun K84 hK84 => ?_
        refine w_region ?_
        refine wl_val (g_move (v := .int .i64 v71) rfl) rfl ?_
        refine wl_val (g_assign (v := .int .i64 v71) rfl) rfl ?_
        refine wl_nil ?_
        refine hK84 _ _ ?_
        refine w_seq fun K85 hK85 => ?_
        refine w_draw (X := Ext) (Y := Ext) [] MIX (by decide +kernel) rfl Ext.refl (fun _ _ _ => Ext.trans) (fun _ _ _ => Chg.trans) (fun _ _ h => Ext.chg h _) (fun w86 hE87 => ?_)
        have hB88 := hB77.trans (Ext.stp hE87 hS78.base)
        have hS89 := hS78.ext hE87
        refine ⟨.slice a0 n0 c0, fun w90 hX91 => od_plain rfl (by have hS92 := hS89.ext hX91; have hB93 := hB88.trans (Ext.stp hX91 hS89.base); exact is_ext (g_move (v := .slice a0 n0 c0) rfl)), ?_⟩
        refine ⟨.int .i64 v71, fun w94 hX95 => od_plain rfl (by have hS96 := hS89.ext hX95; have hB97 := hB88.trans (Ext.stp hX95 hS89.base); exact is_ext (g_move (v := .int .i64 v71) rfl)), ?_⟩
        obtain ⟨hg102, hm⟩ := hm
        refine ⟨.pointer (some ((adr a0).add ((Int.toNat v71) * El.m Int))), fun w98 hX99 => od_plain rfl (by have hS100 := hS89.ext hX99; have hB101 := hB88.trans (Ext.stp hX99 hS89.base); exact is_ext (q_index (i := v71) SL39 rfl rfl (hp0.bel hB101) hg102)), ?_⟩
        refine ⟨.int .i64 (p0[(Int.toNat v71)]!), fun w103 hX104 => od_plain rfl (by have hS105 := hS89.ext hX104; have hB106 := hB88.trans (Ext.stp hX104 hS89.base); exact is_ext (q_load (i := v71) (v := .int .i64 (p0[(Int.toNat v71)]!)) ON3 (hp0.bel hB106) hg102 rfl rfl)), ?_⟩
        refine ⟨.slice a1 n1 c1, fun w107 hX108 => od_plain rfl (by have hS109 := hS89.ext hX108; have hB110 := hB88.trans (Ext.stp hX108 hS89.base); exact is_ext (g_move (v := .slice a1 n1 c1) rfl)), ?_⟩
        refine ⟨.int .i64 v71, fun w111 hX112 => od_plain rfl (by have hS113 := hS89.ext hX112; have hB114 := hB88.trans (Ext.stp hX112 hS89.base); exact is_ext (g_move (v := .int .i64 v71) rfl)), ?_⟩
        obtain ⟨hg119, hm⟩ := hm
        refine ⟨.pointer (some ((adr a1).add ((Int.toNat v71) * El.m Int))), fun w115 hX116 => od_plain rfl (by have hS117 := hS89.ext hX116; have hB118 := hB88.trans (Ext.stp hX116 hS89.base); exact is_ext (q_index (i := v71) SL39 rfl rfl (hp1.bel hB118) hg119)), ?_⟩
        refine ⟨.int .i64 (p1[(Int.toNat v71)]!), fun w120 hX121 => od_plain rfl (by have hS122 := hS89.ext hX121; have hB123 := hB88.trans (Ext.stp hX121 hS89.base); exact is_ext (q_load (i := v71) (v := .int .i64 (p1[(Int.toNat v71)]!)) ON3 (hp1.bel hB123) hg119 rfl rfl)), ?_⟩
        refine ⟨.bool (decide (p0[(Int.toNat v71)]! ≠ p1[(Int.toNat v71)]!)), fun w124 hX125 => od_plain rfl (by have hS126 := hS89.ext hX125; have hB127 := hB88.trans (Ext.stp hX125 hS89.base); exact is_ext (g_neq (a := p0[(Int.toNat v71)]!) (b := p1[(Int.toNat v71)]!) rfl rfl)), ?_⟩
        intro w128 hX129
        have hB130 := hB88.trans (Ext.stp hX129 hS89.base)
        have hS131 := hS89.ext hX129
        refine hK85 _ _ ?_
        refine w_condI (p := p0[(Int.toNat v71)]! ≠ p1[(Int.toNat v71)]!) (b := (decide (p0[(Int.toNat v71)]! ≠ p1[(Int.toNat v71)]!))) rfl decide_eq_true_iff (fun h132 => ?_) (fun h132 => ?_)
        · replace hm := hm.1 h132
          refine w_seq fun K133 hK133 => ?_
          refine w_region ?_
          refine wl_val (g_assign (v := .bool false) rfl) rfl ?_
          refine wl_nil ?_
          refine hK133 _ _ ?_
          refine w_ret ?_
          repeat first | with_reducible refine q_then ?_ | with_reducible refine q_block ?_
          exact ret1 rfl (by decide) ⟨_, hm, rfl, toExt hB130⟩
        · replace hm := hm.2 h132
          refine w_skip ?_
          refine hK83 _ _ ?_
          refine w_region ?_
          obtain ⟨hg134, hm⟩ := hm
          refine wl_val (g_add (a := v71) (b := 1) rfl rfl hg134) rfl ?_
          refine wl_val (g_move (v := .int .i64 (v71 + 1)) rfl) rfl ?_
          refine wl_nil ?_
          exact ⟨((v71 + 1)), hm.2, ⟨rfl, rfl, rfl, rfl, trivial⟩, ⟨hm.1, hB130, hS131⟩⟩
      · replace hm := hm.2 h82
        refine w_exit ?_
        exact ⟨(), trivial, ⟨hm, hB77, hS78⟩⟩
    · rintro _ b_ w135 ⟨hm, hB136, hS137⟩
      show Wp _ _ _ _ (upds b_ []) w135
      refine w_seq fun K138 hK138 => ?_
      refine w_region ?_
      refine wl_val (g_assign (v := .bool true) rfl) rfl ?_
      refine wl_nil ?_
      refine hK138 _ _ ?_
      refine w_ret ?_
      repeat first | with_reducible refine q_then ?_ | with_reducible refine q_block ?_
      exact ret1 rfl (by decide) ⟨_, hm, rfl, toExt hB136⟩

theorem m_impl_isHome_fn {w : World} {a1 : Option Addr} {n1 c1 : Nat} {p1 : List Cross} {Q : Bool → Prop} (p0 : Int) (hp1 : Vw w.heap.size w a1 n1 c1 p1) (hm : m_impl_isHome p0 p1 Q) :
    Fn Try.prog 64 #[.int .i64 p0, .slice a1 n1 c1] w (fun v w' => ∃ (r0 : Bool), Q r0 ∧ v = .bool r0 ∧ Ext w w') := by
  unfold m_impl_isHome at hm
  have hB0 := Below.refl w.heap.size w
  have hS0 : Sep w w.heap.size [] := Sep.nil (Nat.le_refl _)
  refine fn_of_wp Try.func64 rfl (by kernel_rfl) (Nat.le_of_ble_eq_true rfl) ?_
  refine w_seq fun K1 hK1 => ?_
  refine w_region ?_
  refine wl_val (g_assign (v := .bool false) rfl) rfl ?_
  refine wl_nil ?_
  refine hK1 _ _ ?_
  refine w_seq fun K2 hK2 => ?_
  refine w_region ?_
  refine wl_val (g_move (v := .int .i64 p0) rfl) rfl ?_
  refine wl_val (g_move (v := .slice a1 n1 c1) rfl) rfl ?_
  refine wl_step rfl (g_call (vs := #[.int .i64 p0, .slice a1 n1 c1]) CF71 (args2 rfl rfl) (m_impl_OrderAfter_fn p0 ((hp1.bel hB0).up hS0) hm)) ?_
  rintro _ w3 ⟨r6, a7, n8, c9, hm, rfl, hE4, hN5⟩
  have hS11 := hS0.call1 hE4 hN5
  have hB12 := hB0.trans (Ext.stp hE4 hS0.base)
  refine wl_val (g_move (v := .int .i64 p0) rfl) rfl ?_
  refine wl_step rfl (g_call (vs := #[.int .i64 p0]) CF77 (args1 rfl) (m_impl_upTo_fn p0 hm)) ?_
  rintro _ w13 ⟨r16, a17, n18, c19, hm, rfl, hE14, hN15⟩
  have hS21 := hS11.call1 hE14 hN15
  have hB22 := hB12.trans (Ext.stp hE14 hS11.base)
  refine wl_step rfl (g_call (vs := #[.slice a7 n8 c9, .slice a17 n18 c19]) CF76 (args2 rfl rfl) (m_impl_sameInts_fn (oS.vw hS21.g1) (oS.vw hS21.g0) hm)) ?_
  rintro _ w23 ⟨r26, hm, rfl, hE24⟩
  have hB27 := hB22.trans (Ext.stp hE24 hS21.base)
  have hS28 := hS21.ext hE24
  refine wl_val (g_assign (v := .bool r26) rfl) rfl ?_
  refine wl_nil ?_
  refine hK2 _ _ ?_
  refine w_ret ?_
  repeat first | with_reducible refine q_then ?_ | with_reducible refine q_block ?_
  exact ret1 rfl (by decide) ⟨_, hm, rfl, toExt hB27⟩

theorem m_impl_WoundPairs_fn {w : World} {a1 : Option Addr} {n1 c1 : Nat} {p1 : List Cross} {Q : (List (List Int)) → Prop} (p0 : Int) (hp1 : Vw w.heap.size w a1 n1 c1 p1) (hm : m_impl_WoundPairs p0 p1 Q) :
    Fn Try.prog 34 #[.int .i64 p0, .slice a1 n1 c1] w (fun v w' => ∃ (r0 : List (List Int)) (a0 : Option Addr) (n0 c0 : Nat) (y0 : List (Hd Int)), Q r0 ∧ ers y0 = r0 ∧ v = .slice a0 n0 c0 ∧ Ext w w' ∧ Sep w' w.heap.size [oS 39 a0 n0 c0 y0, oT 3 y0]) := by
  unfold m_impl_WoundPairs at hm
  have hB0 := Below.refl w.heap.size w
  have hS0 : Sep w w.heap.size [] := Sep.nil (Nat.le_refl _)
  refine fn_of_wp Try.func34 rfl (by kernel_rfl) (Nat.le_of_ble_eq_true rfl) ?_
  refine w_seq fun K1 hK1 => ?_
  refine w_region ?_
  refine wl_val (g_assign (v := .slice none 0 0) rfl) rfl ?_
  refine wl_nil ?_
  refine hK1 _ _ ?_
  refine w_seq fun K2 hK2 => ?_
  refine w_seq fun K3 hK3 => ?_
  refine w_region ?_
  refine wl_val (g_move (v := .int .i64 p0) rfl) rfl ?_
  refine wl_val (g_move (v := .slice a1 n1 c1) rfl) rfl ?_
  refine wl_step rfl (g_call (vs := #[.int .i64 p0, .slice a1 n1 c1]) CF57 (args2 rfl rfl) (m_impl_CrossesOk_fn p0 ((hp1.bel hB0).up hS0) hm)) ?_
  rintro _ w4 ⟨r7, hm, rfl, hE5⟩
  have hB8 := hB0.trans (Ext.stp hE5 hS0.base)
  have hS9 := hS0.ext hE5
  refine wl_val (g_not (a := r7) rfl) rfl ?_
  refine wl_nil ?_
  refine hK3 _ _ ?_
  refine w_condI (p := ¬ (r7 = true)) (b := (!r7)) rfl (i_not Iff.rfl) (fun h10 => ?_) (fun h10 => ?_)
  · replace hm := hm.1 h10
    refine w_seq fun K11 hK11 => ?_
    refine w_region ?_
    refine wl_val (g_assign (v := .slice none 0 0) rfl) rfl ?_
    refine wl_nil ?_
    refine hK11 _ _ ?_
    refine w_ret ?_
    have hS12 := hS9.nilS (α := (Hd Int)) (E := 39)
    have hS14 := hS12.noRows (δ := Hd Int) (E := 3)
    have he16 : ers ([] : List (Hd Int)) = ([] : List (List Int)) := rfl
    have hS18 := hS14.f1
    repeat first | with_reducible refine q_then ?_ | with_reducible refine q_block ?_
    exact ret1 rfl (by decide) ⟨_, _, _, _, _, hm, he16, rfl, toExt hB8, hS18⟩
  · replace hm := hm.2 h10
    refine w_skip ?_
    refine hK2 _ _ ?_
    refine w_seq fun K19 hK19 => ?_
    refine w_region ?_
    refine wl_val (g_move (v := .int .i64 p0) rfl) rfl ?_
    refine wl_val (g_move (v := .slice a1 n1 c1) rfl) rfl ?_
    refine wl_step rfl (g_call (vs := #[.int .i64 p0, .slice a1 n1 c1]) CF58 (args2 rfl rfl) (m_impl_twists_fn p0 ((hp1.bel hB8).up hS9) hm)) ?_
    rintro _ w20 ⟨r23, a24, n25, c26, y27, hm, he28, rfl, hE21, hN22⟩
    have hS32 := hS9.call2 hE21 hN22
    have hB33 := hB8.trans (Ext.stp hE21 hS9.base)
    refine wl_step rfl (q_lit0 (α := (Hd Int)) rfl SL37 hS32) ?_
    rintro _ w34 ⟨a35, rfl, hS37, hE36⟩
    have hB39 := hB33.trans (Ext.stp hE36 hS32.base)
    have hS40 := hS37.noRows (δ := Hd Int) (E := 3)
    have he42 : ers ([] : List (Hd Int)) = ([] : List (List Int)) := rfl
    refine wl_val (g_assign (v := .slice a24 n25 c26) rfl) rfl ?_
    refine wl_val (g_assign (v := .slice a35 0 0) rfl) rfl ?_
    refine wl_nil ?_
    refine hK19 _ _ ?_
    refine w_cut (σ := List (List Int) × Option Addr × Nat × Nat × List (Hd Int)) (fun ⟨x342, a343, n344, c345, y346⟩ => [(6, .slice a343 n344 c345)]) (fun ⟨x342, a343, n344, c345, y346⟩ w' => m_impl_WoundPairs_K1 Q x342 ∧ ers y346 = x342 ∧ Below w.heap.size w w' ∧ Sep w' w.heap.size [oS 39 a343 n344 c345 (y346 : List (Hd Int)), oT 3 (y346 : List (Hd Int))]) ?_ ?_
    · refine w_seq fun K349 hK349 => ?_
      refine w_region ?_
      refine wl_val (g_move (v := .int .i64 p0) rfl) rfl ?_
      refine wl_val (g_move (v := .int .i64 0) rfl) rfl ?_
      refine wl_nil ?_
      refine hK349 _ _ ?_
      refine w_block ?_
      have hS357 := hS40.f1
      have hS358 := hS357.f3
      have hS359 := hS358.f3
      obtain ⟨I360, μ361, h0362, hr363⟩ := hm
      refine w_for (σ := List (List Int) × Option Addr × Nat × Nat × List (Hd Int) × Int) (fun ⟨x350, a351, n352, c353, y354, v356⟩ => [(0, .int .i64 p0), (5, .slice a24 n25 c26), (6, .slice a351 n352 c353), (17, .int .i64 p0), (18, .int .i64 v356)]) (fun ⟨x350, a351, n352, c353, y354, v356⟩ w' => I360 x350 v356 ∧ ers y354 = x350 ∧ Below w.heap.size w w' ∧ Sep w' w.heap.size [oS 39 a24 n25 c26 (y27 : List (Hd Int)), oT 3 (y27 : List (Hd Int)), oS 39 a351 n352 c353 (y354 : List (Hd Int)), oT 3 (y354 : List (Hd Int))]) (fun ⟨x350, a351, n352, c353, y354, v356⟩ => μ361 x350 v356) ([], a35, 0, 0, [], 0) ⟨rfl, rfl, rfl, rfl, rfl, trivial⟩ ⟨h0362, he42, hB39, hS359⟩ ?_
      rintro ⟨x350, a351, n352, c353, y354, v356⟩ b_ w364 ⟨hi_, he355, hB365, hS366⟩
      show Wp _ _ _ _ (upds b_ [(0, .int .i64 p0), (5, .slice a24 n25 c26), (6, .slice a351 n352 c353), (17, .int .i64 p0), (18, .int .i64 v356)]) w364
      have hm := hr363 x350 v356 hi_
      refine w_seq fun K368 hK368 => ?_
      refine w_region ?_
      refine wl_val (g_lss (a := v356) (b := p0) rfl rfl) rfl ?_
      refine wl_nil ?_
      refine hK368 _ _ ?_
      refine w_seq fun K369 hK369 => ?_
      refine w_condI (p := v356 < p0) (b := (decide (v356 < p0))) rfl decide_eq_true_iff (fun h370 => ?_) (fun h370 => ?_)
      · replace hm := hm.1 h370
        refine w_skip ?_
        refine hK369 _ _ ?_
        refine w_cut (σ := List (List Int) × Option Addr × Nat × Nat × List (Hd Int)) (fun ⟨x371, a372, n373, c374, y375⟩ => [(0, .int .i64 p0), (5, .slice a24 n25 c26), (6, .slice a372 n373 c374), (17, .int .i64 p0), (18, .int .i64 v356)]) (fun ⟨x371, a372, n373, c374, y375⟩ w' => m_impl_WoundPairs_K0 v356 (fun x350' v356' => I360 x350' v356' ∧ μ361 x350' v356' < μ361 x350 v356) x371 ∧ ers y375 = x371 ∧ Below w.heap.size w w' ∧ Sep w' w.heap.size [oS 39 a24 n25 c26 (y27 : List (Hd Int)), oT 3 (y27 : List (Hd Int)), oS 39 a372 n373 c374 (y375 : List (Hd Int)), oT 3 (y375 : List (Hd Int))]) ?_ ?_
        · refine w_block ?_
          refine w_seq fun K378 hK378 => ?_
          refine w_region ?_
          refine wl_val (g_move (v := .int .i64 v356) rfl) rfl ?_
          refine wl_val (g_assign (v := .int .i64 v356) rfl) rfl ?_
          refine wl_nil ?_
          refine hK378 _ _ ?_
          refine w_seq fun K379 hK379 => ?_
          refine w_region ?_
          refine wl_val (g_move (v := .int .i64 v356) rfl) rfl ?_
          obtain ⟨hg380, hm⟩ := hm
          refine wl_val (g_add (a := v356) (b := 1) rfl rfl hg380) rfl ?_
          refine wl_val (g_assign (v := .int .i64 (v356 + 1)) rfl) rfl ?_
          refine wl_nil ?_
          refine hK379 _ _ ?_
          refine w_block ?_
          obtain ⟨I388, μ389, h0390, hr391⟩ := hm
          refine w_for (σ := List (List Int) × Option Addr × Nat × Nat × List (Hd Int) × Int) (fun ⟨x381, a382, n383, c384, y385, v387⟩ => [(0, .int .i64 p0), (5, .slice a24 n25 c26), (6, .slice a382 n383 c384), (7, .int .i64 v356), (8, .int .i64 v387), (17, .int .i64 p0), (18, .int .i64 v356)]) (fun ⟨x381, a382, n383, c384, y385, v387⟩ w' => I388 x381 v387 ∧ ers y385 = x381 ∧ Below w.heap.size w w' ∧ Sep w' w.heap.size [oS 39 a24 n25 c26 (y27 : List (Hd Int)), oT 3 (y27 : List (Hd Int)), oS 39 a382 n383 c384 (y385 : List (Hd Int)), oT 3 (y385 : List (Hd Int))]) (fun ⟨x381, a382, n383, c384, y385, v387⟩ => μ389 x381 v387) (x350, a351, n352, c353, y354, (v356 + 1)) ⟨rfl, rfl, rfl, rfl, rfl, rfl, rfl, trivial⟩ ⟨h0390, he355, hB365, hS366⟩ ?_
          rintro ⟨x381, a382, n383, c384, y385, v387⟩ b_ w392 ⟨hi_, he386, hB393, hS394⟩
          show Wp _ _ _ _ (upds b_ [(0, .int .i64 p0), (5, .slice a24 n25 c26), (6, .slice a382 n383 c384), (7, .int .i64 v356), (8, .int .i64 v387), (17, .int .i64 p0), (18, .int .i64 v356)]) w392
          have hm := hr391 x381 v387 hi_
          refine w_seq fun K396 hK396 => ?_
          refine w_seq fun K397 hK397 => ?_
          refine w_region ?_
          refine wl_val (g_move (v := .int .i64 v387) rfl) rfl ?_
          refine wl_val (g_move (v := .int .i64 p0) rfl) rfl ?_
          refine wl_val (g_lss (a := v387) (b := p0) rfl rfl) rfl ?_
          refine wl_nil ?_
          refine hK397 _ _ ?_
          refine w_condI (p := v387 < p0) (b := (decide (v387 < p0))) rfl decide_eq_true_iff (fun h398 => ?_) (fun h398 => ?_)
          · replace hm := hm.1 h398
            refine w_skip ?_
            refine hK396 _ _ ?_
            refine w_seq fun K399 hK399 => ?_
            refine w_block ?_
            refine w_seq fun K400 hK400 => ?_
            refine w_region ?_
            refine wl_val (g_move (v := .slice a24 n25 c26) rfl) rfl ?_
            refine wl_val (g_move (v := .int .i64 v356) rfl) rfl ?_
            obtain ⟨hg401, hm⟩ := hm
            refine wl_val (q_index (i := v356) SL37 rfl rfl (Tv.o (oT.vw hS394.g0 hS394.g1 he28)) (Tv.g (oT.vw hS394.g0 hS394.g1 he28) hg401)) rfl ?_
            refine wl_val (q_load (i := v356) (v := .slice ((y27[(Int.toNat v356)]!).1) ((y27[(Int.toNat v356)]!).2.2.length) ((y27[(Int.toNat v356)]!).2.1)) ON39 (Tv.o (oT.vw hS394.g0 hS394.g1 he28)) (Tv.g (oT.vw hS394.g0 hS394.g1 he28) hg401) rfl rfl) rfl ?_
            refine wl_val (g_move (v := .int .i64 v387) rfl) rfl ?_
            obtain ⟨hg402, hm⟩ := hm
            refine wl_val (q_index (i := v387) SL39 rfl rfl (Tv.row (oT.vw hS394.g0 hS394.g1 he28) hg401) hg402) rfl ?_
            refine wl_val (q_load (i := v387) (v := .int .i64 ((r23[(Int.toNat v356)]!)[(Int.toNat v387)]!)) ON3 (Tv.row (oT.vw hS394.g0 hS394.g1 he28) hg401) hg402 rfl rfl) rfl ?_
            refine wl_val (g_neq (a := (r23[(Int.toNat v356)]!)[(Int.toNat v387)]!) (b := 0) rfl rfl) rfl ?_
            refine wl_nil ?_
            refine hK400 _ _ ?_
            refine w_condI (p := (r23[(Int.toNat v356)]!)[(Int.toNat v387)]! ≠ 0) (b := (decide ((r23[(Int.toNat v356)]!)[(Int.toNat v387)]! ≠ 0))) rfl decide_eq_true_iff (fun h403 => ?_) (fun h403 => ?_)
            · replace hm := hm.1 h403
              refine w_region ?_
              refine wl_val (g_move (v := .slice a382 n383 c384) rfl) rfl ?_
              refine wl_val (g_move (v := .int .i64 v356) rfl) rfl ?_
              refine wl_val (g_move (v := .int .i64 v387) rfl) rfl ?_
              refine wl_step rfl (q_lit2 (y := (v356 : Int)) (y' := (v387 : Int)) SL39 rfl rfl rfl rfl (by decide) hS394) ?_
              rintro _ w404 ⟨a405, rfl, hS407, hE406⟩
              have hB409 := hB393.trans (Ext.stp hE406 hS394.base)
              have hn415 := oS.len hS407.g0
              have hS416 := hS407.oneRow
              have he414 : ers [((a405, 2, [v356, v387]) : Hd Int)] = [[v356, v387]] := rfl
              refine wl_step rfl (q_lit1 (y := ((a405, 2, [v356, v387]) : Hd Int)) SL37 rfl (hd_cells hn415) (by decide) hS416) ?_
              rintro _ w410 ⟨a411, rfl, hS413, hE412⟩
              have hB419 := hB409.trans (Ext.stp hE412 hS416.base)
              have hS426 := hS413.f4
              obtain ⟨hg427, hm⟩ := hm
              have hl428 : (y385).length + ([(a405, 2, [v356, v387])]).length ≤ 1099511627776 := by have h1 := congrArg List.length he386; have h2 := congrArg List.length he414; have h3 := hg427; simp only [ers, List.length_map, List.length_append, List.length_cons, List.length_nil, List.length_replicate, List.length_set] at h1 h2 h3 ⊢; omega
              refine wl_step rfl (q_append SL37 rfl rfl hS426 (oS.vw hS426.g1) hl428 (by decide)) ?_
              rintro _ w421 ⟨a422, c423, rfl, hS425, hb424⟩
              have hB429 := hB419.trans hb424
              have hS430 := hS425.f1
              have hS431 := hS430.tail
              have hS432 := hS431.f4
              have hS433 := hS432.f2
              have hS434 := hS433.catRows
              have he435 : ers (y385 ++ ([(a405, 2, [v356, v387])])) = (x381 ++ ([[v356, v387]])) := by rw [← he386, ← he414]; exact List.map_append
              refine wl_val (g_assign (v := .slice a422 (n383 + 1) c423) rfl) rfl ?_
              refine wl_nil ?_
              refine hK399 _ _ ?_
              refine w_region ?_
              refine wl_val (g_move (v := .int .i64 v387) rfl) rfl ?_
              obtain ⟨hg436, hm⟩ := hm
              refine wl_val (g_add (a := v387) (b := 1) rfl rfl hg436) rfl ?_
              refine wl_val (g_assign (v := .int .i64 (v387 + 1)) rfl) rfl ?_
              refine wl_nil ?_
              have hS437 := hS434.f1
              have hS438 := hS437.f3
              have hS439 := hS438.f3
              exact ⟨((x381 ++ ([[v356, v387]])), a422, (n383 + 1), c423, (y385 ++ ([(a405, 2, [v356, v387])])), (v387 + 1)), hm.2, ⟨rfl, rfl, rfl, rfl, rfl, rfl, rfl, trivial⟩, ⟨hm.1, he435, hB429, hS439⟩⟩
            · replace hm := hm.2 h403
              refine w_skip ?_
              refine hK399 _ _ ?_
              refine w_region ?_
              refine wl_val (g_move (v := .int .i64 v387) rfl) rfl ?_
              obtain ⟨hg440, hm⟩ := hm
              refine wl_val (g_add (a := v387) (b := 1) rfl rfl hg440) rfl ?_
              refine wl_val (g_assign (v := .int .i64 (v387 + 1)) rfl) rfl ?_
              refine wl_nil ?_
              exact ⟨(x381, a382, n383, c384, y385, (v387 + 1)), hm.2, ⟨rfl, rfl, rfl, rfl, rfl, rfl, rfl, trivial⟩, ⟨hm.1, he386, hB393, hS394⟩⟩
          · replace hm := hm.2 h398
            refine w_exit ?_
            exact ⟨(x381, a382, n383, c384, y385), ⟨rfl, rfl, rfl, rfl, rfl, trivial⟩, ⟨hm, he386, hB393, hS394⟩⟩
        · rintro ⟨x371, a372, n373, c374, y375⟩ b_ w441 ⟨hm, he376, hB442, hS443⟩
          show Wp _ _ _ _ (upds b_ [(0, .int .i64 p0), (5, .slice a24 n25 c26), (6, .slice a372 n373 c374), (17, .int .i64 p0), (18, .int .i64 v356)]) w441
          refine w_region ?_
          obtain ⟨hg444, hm⟩ := hm
          refine wl_val (g_add (a := v356) (b := 1) rfl rfl hg444) rfl ?_
          refine wl_val (g_move (v := .int .i64 (v356 + 1)) rfl) rfl ?_
          refine wl_nil ?_
          exact ⟨(x371, a372, n373, c374, y375, (v356 + 1)), hm.2, ⟨rfl, rfl, rfl, rfl, rfl, trivial⟩, ⟨hm.1, he376, hB442, hS443⟩⟩
      · replace hm := hm.2 h370
        refine w_exit ?_
        have hS445 := hS366.tail
        have hS446 := hS445.tail
        exact ⟨(x350, a351, n352, c353, y354), ⟨rfl, trivial⟩, ⟨hm, he355, hB365, hS446⟩⟩
    · rintro ⟨x342, a343, n344, c345, y346⟩ b_ w447 ⟨hm, he347, hB448, hS449⟩
      show Wp _ _ _ _ (upds b_ [(6, .slice a343 n344 c345)]) w447
      refine w_seq fun K450 hK450 => ?_
      refine w_region ?_
      refine wl_val (g_move (v := .slice a343 n344 c345) rfl) rfl ?_
      refine wl_val (g_assign (v := .slice a343 n344 c345) rfl) rfl ?_
      refine wl_nil ?_
      refine hK450 _ _ ?_
      refine w_ret ?_
      repeat first | with_reducible refine q_then ?_ | with_reducible refine q_block ?_
      exact ret1 rfl (by decide) ⟨_, _, _, _, _, hm, he347, rfl, toExt hB448, hS449⟩

theorem m_laws_heldCrossS_fn {w : World} {a0 : Option Addr} {n0 c0 : Nat} {p0 : List Cross} {Q : Int → Prop} (hp0 : Vw w.heap.size w a0 n0 c0 p0) (p1 : Int) (hm : m_laws_heldCrossS p0 p1 Q) :
    Fn Try.prog 20 #[.slice a0 n0 c0, .int .i64 p1] w (fun v w' => ∃ (r0 : Int), Q r0 ∧ v = .int .i64 r0 ∧ Ext w w') := by
  unfold m_laws_heldCrossS at hm
  have hB0 := Below.refl w.heap.size w
  have hS0 : Sep w w.heap.size [] := Sep.nil (Nat.le_refl _)
  refine fn_of_wp Try.func20 rfl (by kernel_rfl) (Nat.le_of_ble_eq_true rfl) ?_
  refine w_seq fun K1 hK1 => ?_
  refine w_region ?_
  refine wl_val (g_assign (v := .int .i64 0) rfl) rfl ?_
  refine wl_nil ?_
  refine hK1 _ _ ?_
  refine w_cut (σ := Int) (fun v58 => [(1, .int .i64 v58)]) (fun v58 w' => m_laws_heldCrossS_K0 Q v58 ∧ Below w.heap.size w w' ∧ Sep w' w.heap.size []) ?_ ?_
  · refine w_seq fun K60 hK60 => ?_
    refine w_region ?_
    refine wl_val (g_assign (v := .int .i64 0) rfl) rfl ?_
    refine wl_nil ?_
    refine hK60 _ _ ?_
    refine w_block ?_
    obtain ⟨I63, μ64, h065, hr66⟩ := hm
    refine w_for (σ := Int × Int) (fun ⟨v61, v62⟩ => [(0, .slice a0 n0 c0), (1, .int .i64 v61), (5, .int .i64 v62)]) (fun ⟨v61, v62⟩ w' => I63 v61 v62 ∧ Below w.heap.size w w' ∧ Sep w' w.heap.size []) (fun ⟨v61, v62⟩ => μ64 v61 v62) (p1, 0) ⟨rfl, rfl, rfl, trivial⟩ ⟨h065, hB0, hS0⟩ ?_
    rintro ⟨v61, v62⟩ b_ w67 ⟨hi_, hB68, hS69⟩
    show Wp _ _ _ _ (upds b_ [(0, .slice a0 n0 c0), (1, .int .i64 v61), (5, .int .i64 v62)]) w67
    have hm := hr66 v61 v62 hi_
    refine w_seq fun K71 hK71 => ?_
    refine w_seq fun K72 hK72 => ?_
    refine w_region ?_
    refine wl_val (g_move (v := .int .i64 v62) rfl) rfl ?_
    refine wl_val (g_move (v := .slice a0 n0 c0) rfl) rfl ?_
    refine wl_val (q_len SL24 rfl (Vw.len (hp0.bel hB68))) rfl ?_
    refine wl_val (g_lss (a := v62) (b := (p0.length : Int)) rfl rfl) rfl ?_
    refine wl_nil ?_
    refine hK72 _ _ ?_
    refine w_condI (p := v62 < (p0.length : Int)) (b := (decide (v62 < (p0.length : Int)))) rfl decide_eq_true_iff (fun h73 => ?_) (fun h73 => ?_)
    · replace hm := hm.1 h73
      refine w_skip ?_
      refine hK71 _ _ ?_
      refine w_seq fun K74 hK74 => ?_
      refine w_block ?_
      refine w_seq fun K75 hK75 => ?_
      refine w_seq fun K76 hK76 => ?_
      refine w_region ?_
      refine wl_val (g_move (v := .slice a0 n0 c0) rfl) rfl ?_
      refine wl_val (g_move (v := .int .i64 v62) rfl) rfl ?_
      obtain ⟨hg77, hm⟩ := hm
      refine wl_val (q_index (i := v62) SL24 rfl rfl (hp0.bel hB68) hg77) rfl ?_
      refine wl_val (g_fieldAddr (q := (adr a0).add ((Int.toNat v62) * El.m Cross)) FL56_0 ON3 rfl) rfl ?_
      refine wl_val (q_loadF (i := v62) (j := 0) (v := .int .i64 (p0[(Int.toNat v62)]!.1)) ON3 (hp0.bel hB68) hg77 rfl rfl) rfl ?_
      refine wl_val (g_move (v := .int .i64 v61) rfl) rfl ?_
      refine wl_val (g_neq (a := p0[(Int.toNat v62)]!.1) (b := v61) rfl rfl) rfl ?_
      refine wl_nil ?_
      refine hK76 _ _ ?_
      refine w_condI (p := p0[(Int.toNat v62)]!.1 ≠ v61) (b := (decide (p0[(Int.toNat v62)]!.1 ≠ v61))) rfl decide_eq_true_iff (fun h78 => ?_) (fun h78 => ?_)
      · replace hm := hm.1 h78
        refine w_seq fun K79 hK79 => ?_
        refine w_region ?_
        refine wl_val (g_assign (v := .int .i64 (-1)) rfl) rfl ?_
        refine wl_nil ?_
        refine hK79 _ _ ?_
        refine w_ret ?_
        repeat first | with_reducible refine q_then ?_ | with_reducible refine q_block ?_
        exact ret1 rfl (by decide) ⟨_, hm, rfl, toExt hB68⟩
      · replace hm := hm.2 h78
        refine w_skip ?_
        refine hK75 _ _ ?_
        refine w_seq fun K80 hK80 => ?_
        refine w_region ?_
        refine wl_val (g_move (v := .int .i64 v61) rfl) rfl ?_
        obtain ⟨hg81, hm⟩ := hm
        refine wl_val (g_add (a := v61) (b := 1) rfl rfl hg81) rfl ?_
        refine wl_val (g_assign (v := .int .i64 (v61 + 1)) rfl) rfl ?_
        refine wl_nil ?_
        refine hK80 _ _ ?_
        refine w_seq fun K82 hK82 => ?_
        refine w_seq fun K83 hK83 => ?_
        refine w_region ?_
        refine wl_val (g_move (v := .slice a0 n0 c0) rfl) rfl ?_
        refine wl_val (g_move (v := .int .i64 v62) rfl) rfl ?_
        obtain ⟨hg84, hm⟩ := hm
        refine wl_val (q_index (i := v62) SL24 rfl rfl (hp0.bel hB68) hg84) rfl ?_
        refine wl_val (g_fieldAddr (q := (adr a0).add ((Int.toNat v62) * El.m Cross)) FL56_1 ON4 rfl) rfl ?_
        refine wl_val (q_loadF (i := v62) (j := 1) (v := .bool (p0[(Int.toNat v62)]!.2)) ON4 (hp0.bel hB68) hg84 rfl rfl) rfl ?_
        refine wl_val (g_move (v := .int .i64 (v61 + 1)) rfl) rfl ?_
        refine wl_val (g_rem (a := (v61 + 1)) (b := 3) rfl rfl (by decide)) rfl ?_
        refine wl_val (g_eql (a := (Int.tmod (v61 + 1) 3)) (b := 0) rfl rfl) rfl ?_
        refine wl_val (g_neq_b (a := (p0[(Int.toNat v62)]!.2)) (b := (decide ((Int.tmod (v61 + 1) 3) = 0))) UB rfl rfl) rfl ?_
        refine wl_nil ?_
        refine hK83 _ _ ?_
        refine w_condI (p := (p0[(Int.toNat v62)]!.2) ≠ (decide ((Int.tmod (v61 + 1) 3) = 0))) (b := (decide ((p0[(Int.toNat v62)]!.2) ≠ (decide ((Int.tmod (v61 + 1) 3) = 0))))) rfl decide_eq_true_iff (fun h85 => ?_) (fun h85 => ?_)
        · replace hm := hm.1 h85
          refine w_seq fun K86 hK86 => ?_
          refine w_region ?_
          refine wl_val (g_assign (v := .int .i64 (-1)) rfl) rfl ?_
          refine wl_nil ?_
          refine hK86 _ _ ?_
          refine w_ret ?_
          repeat first | with_reducible refine q_then ?_ | with_reducible refine q_block ?_
          exact ret1 rfl (by decide) ⟨_, hm, rfl, toExt hB68⟩
        · replace hm := hm.2 h85
          refine w_skip ?_
          refine hK82 _ _ ?_
          refine w_region ?_
          refine wl_val (g_move (v := .int .i64 (v61 + 1)) rfl) rfl ?_
          obtain ⟨hg87, hm⟩ := hm
          refine wl_val (g_add (a := (v61 + 1)) (b := 1) rfl rfl hg87) rfl ?_
          refine wl_val (g_assign (v := .int .i64 ((v61 + 1) + 1)) rfl) rfl ?_
          refine wl_nil ?_
          refine hK74 _ _ ?_
          refine w_region ?_
          refine wl_val (g_move (v := .int .i64 v62) rfl) rfl ?_
          obtain ⟨hg88, hm⟩ := hm
          refine wl_val (g_add (a := v62) (b := 1) rfl rfl hg88) rfl ?_
          refine wl_val (g_assign (v := .int .i64 (v62 + 1)) rfl) rfl ?_
          refine wl_nil ?_
          exact ⟨(((v61 + 1) + 1), (v62 + 1)), hm.2, ⟨rfl, rfl, rfl, trivial⟩, ⟨hm.1, hB68, hS69⟩⟩
    · replace hm := hm.2 h73
      refine w_exit ?_
      exact ⟨(v61), ⟨rfl, trivial⟩, ⟨hm, hB68, hS69⟩⟩
  · rintro v58 b_ w89 ⟨hm, hB90, hS91⟩
    show Wp _ _ _ _ (upds b_ [(1, .int .i64 v58)]) w89
    refine w_seq fun K92 hK92 => ?_
    refine w_region ?_
    refine wl_val (g_move (v := .int .i64 v58) rfl) rfl ?_
    refine wl_val (g_assign (v := .int .i64 v58) rfl) rfl ?_
    refine wl_nil ?_
    refine hK92 _ _ ?_
    refine w_ret ?_
    repeat first | with_reducible refine q_then ?_ | with_reducible refine q_block ?_
    exact ret1 rfl (by decide) ⟨_, hm, rfl, toExt hB90⟩

theorem m_spec_FullTurn_fn {w : World}  {Q : (List Cross) → Bool → Prop} (p0 : Int) (p1 : Int) (p2 : Int) (p3 : Bool) (hm : m_spec_FullTurn p0 p1 p2 p3 Q) :
    Fn Try.prog 21 #[.int .i64 p0, .int .i64 p1, .int .i64 p2, .bool p3] w (fun v w' => ∃ (r0 : List Cross) (a0 : Option Addr) (n0 c0 : Nat) (r1 : Bool), Q r0 r1 ∧ v = .tuple #[.slice a0 n0 c0, .bool r1] ∧ Ext w w' ∧ Sep w' w.heap.size [oS 56 a0 n0 c0 r0]) := by
  unfold m_spec_FullTurn at hm
  have hB0 := Below.refl w.heap.size w
  have hS0 : Sep w w.heap.size [] := Sep.nil (Nat.le_refl _)
  refine fn_of_wp Try.func21 rfl (by kernel_rfl) (Nat.le_of_ble_eq_true rfl) ?_
  refine w_seq fun K1 hK1 => ?_
  refine w_region ?_
  refine wl_val (g_assign (v := .slice none 0 0) rfl) rfl ?_
  refine wl_val (g_assign (v := .bool false) rfl) rfl ?_
  refine wl_nil ?_
  refine hK1 _ _ ?_
  refine w_seq fun K2 hK2 => ?_
  refine w_region ?_
  refine wl_step rfl (q_lit0 (α := Cross) rfl SL24 hS0) ?_
  rintro _ w3 ⟨a4, rfl, hS6, hE5⟩
  have hB8 := hB0.trans (Ext.stp hE5 hS0.base)
  refine wl_val (g_assign (v := .slice a4 0 0) rfl) rfl ?_
  refine wl_nil ?_
  refine hK2 _ _ ?_
  refine w_seq fun K9 hK9 => ?_
  refine w_seq fun K10 hK10 => ?_
  refine w_region ?_
  refine wl_val (g_move (v := .int .i64 p0) rfl) rfl ?_
  refine wl_step rfl (g_call (vs := #[.int .i64 p0, .int .i64 2, .int .i64 7]) CF53 (args3 rfl rfl rfl) (m_spec_l01In_fn p0 2 7 hm)) ?_
  rintro _ w11 ⟨r14, hm, rfl, hE12⟩
  have hB15 := hB8.trans (Ext.stp hE12 hS6.base)
  have hS16 := hS6.ext hE12
  refine wl_val (g_not (a := r14) rfl) rfl ?_
  refine wl_val (g_move (v := .bool (!r14)) rfl) rfl ?_
  refine wl_guard (c := (!r14) = false) (val := .int .i64 p2) (b := ((!r14) == false)) (gv_some rfl rfl rfl) beq_iff_eq (fun hc17 => ?_) ?_
  · have hq0 : ¬ (¬ (r14 = true)) := (i_neg (i_not Iff.rfl) hc17)
    exact g_move (v := .int .i64 p2) rfl
  refine wl_guard (c := (!r14) = false) (val := .int .i64 p0) (b := ((!r14) == false)) (gv_some rfl rfl rfl) beq_iff_eq (fun hc18 => ?_) ?_
  · have hq0 : ¬ (¬ (r14 = true)) := (i_neg (i_not Iff.rfl) hc18)
    exact g_move (v := .int .i64 p0) rfl
  obtain ⟨hg20, hm⟩ := hm
  refine wl_guard (c := (!r14) = false) (val := .int .i64 (p0 - 1)) (b := ((!r14) == false)) (gv_some rfl rfl rfl) beq_iff_eq (fun hc19 => ?_) ?_
  · have hq0 : ¬ (¬ (r14 = true)) := (i_neg (i_not Iff.rfl) hc19)
    exact g_sub (a := p0) (b := 1) (if_pos hc19) rfl (hg20 hq0)
  obtain ⟨r22, hk23, hm⟩ := hm
  refine wl_guardE (X := Ext) (c := (!r14) = false) (val := .bool r22) (Ext.refl _) (b := ((!r14) == false)) (gv_some rfl rfl rfl) beq_iff_eq (fun hc21 => ?_) (fun w24 hE25 => ?_)
  · have hq0 : ¬ (¬ (r14 = true)) := (i_neg (i_not Iff.rfl) hc21)
    exact (g_call (vs := #[.int .i64 p2, .int .i64 1, .int .i64 (p0 - 1)]) CF53 (args3 (if_pos hc21) rfl (if_pos hc21)) ((m_spec_l01In_fn p2 1 (p0 - 1) (hk23 hq0)).mono fun _ _ ⟨_, h1, h2, h3⟩ => ⟨by rw [h2, h1], h3⟩))
  have hB26 := hB15.trans (Ext.stp hE25 hS16.base)
  have hS27 := hS16.ext hE25
  refine wl_guard (c := (!r14) = false) (val := .bool (!r22)) (b := ((!r14) == false)) (gv_some rfl rfl rfl) beq_iff_eq (fun hc28 => ?_) ?_
  · have hq0 : ¬ (¬ (r14 = true)) := (i_neg (i_not Iff.rfl) hc28)
    exact g_not (a := r22) (if_pos hc28)
  refine wl_val (g_pick_or (b := (!r14)) (q := (!r22)) rfl rfl) rfl ?_
  refine wl_val (g_move (v := .bool ((!r14) || (!r22))) rfl) rfl ?_
  refine wl_guard (c := ((!r14) || (!r22)) = false) (val := .int .i64 p1) (b := (((!r14) || (!r22)) == false)) (gv_some rfl rfl rfl) beq_iff_eq (fun hc29 => ?_) ?_
  · have hq1 : ¬ (((¬ (r14 = true)) ∨ (¬ (r22 = true)))) := (i_neg (i_or (i_not Iff.rfl) (i_not Iff.rfl)) hc29)
    exact g_move (v := .int .i64 p1) rfl
  refine wl_guard (c := ((!r14) || (!r22)) = false) (val := .int .i64 p2) (b := (((!r14) || (!r22)) == false)) (gv_some rfl rfl rfl) beq_iff_eq (fun hc30 => ?_) ?_
  · have hq1 : ¬ (((¬ (r14 = true)) ∨ (¬ (r22 = true)))) := (i_neg (i_or (i_not Iff.rfl) (i_not Iff.rfl)) hc30)
    exact g_move (v := .int .i64 p2) rfl
  obtain ⟨hg32, hm⟩ := hm
  refine wl_guard (c := ((!r14) || (!r22)) = false) (val := .int .i64 (p2 - 1)) (b := (((!r14) || (!r22)) == false)) (gv_some rfl rfl rfl) beq_iff_eq (fun hc31 => ?_) ?_
  · have hq1 : ¬ (((¬ (r14 = true)) ∨ (¬ (r22 = true)))) := (i_neg (i_or (i_not Iff.rfl) (i_not Iff.rfl)) hc31)
    exact g_sub (a := p2) (b := 1) (if_pos hc31) rfl (hg32 hq1)
  obtain ⟨r34, hk35, hm⟩ := hm
  refine wl_guardE (X := Ext) (c := ((!r14) || (!r22)) = false) (val := .bool r34) (Ext.refl _) (b := (((!r14) || (!r22)) == false)) (gv_some rfl rfl rfl) beq_iff_eq (fun hc33 => ?_) (fun w36 hE37 => ?_)
  · have hq1 : ¬ (((¬ (r14 = true)) ∨ (¬ (r22 = true)))) := (i_neg (i_or (i_not Iff.rfl) (i_not Iff.rfl)) hc33)
    exact (g_call (vs := #[.int .i64 p1, .int .i64 0, .int .i64 (p2 - 1)]) CF53 (args3 (if_pos hc33) rfl (if_pos hc33)) ((m_spec_l01In_fn p1 0 (p2 - 1) (hk35 hq1)).mono fun _ _ ⟨_, h1, h2, h3⟩ => ⟨by rw [h2, h1], h3⟩))
  have hB38 := hB26.trans (Ext.stp hE37 hS27.base)
  have hS39 := hS27.ext hE37
  refine wl_guard (c := ((!r14) || (!r22)) = false) (val := .bool (!r34)) (b := (((!r14) || (!r22)) == false)) (gv_some rfl rfl rfl) beq_iff_eq (fun hc40 => ?_) ?_
  · have hq1 : ¬ (((¬ (r14 = true)) ∨ (¬ (r22 = true)))) := (i_neg (i_or (i_not Iff.rfl) (i_not Iff.rfl)) hc40)
    exact g_not (a := r34) (if_pos hc40)
  refine wl_val (g_pick_or (b := ((!r14) || (!r22))) (q := (!r34)) rfl rfl) rfl ?_
  refine wl_nil ?_
  refine hK10 _ _ ?_
  refine w_condI (p := ((((¬ (r14 = true)) ∨ (¬ (r22 = true)))) ∨ (¬ (r34 = true)))) (b := (((!r14) || (!r22)) || (!r34))) rfl (i_or (i_or (i_not Iff.rfl) (i_not Iff.rfl)) (i_not Iff.rfl)) (fun h41 => ?_) (fun h41 => ?_)
  · replace hm := hm.1 h41
    refine w_seq fun K42 hK42 => ?_
    refine w_region ?_
    refine wl_val (g_move (v := .slice a4 0 0) rfl) rfl ?_
    refine wl_val (g_assign (v := .slice a4 0 0) rfl) rfl ?_
    refine wl_val (g_assign (v := .bool false) rfl) rfl ?_
    refine wl_nil ?_
    refine hK42 _ _ ?_
    refine w_ret ?_
    repeat first | with_reducible refine q_then ?_ | with_reducible refine q_block ?_
    exact ret2 rfl (by decide) (by decide) ⟨_, _, _, _, _, hm, rfl, toExt hB38, hS39⟩
  · replace hm := hm.2 h41
    refine w_skip ?_
    refine hK9 _ _ ?_
    refine w_cut (σ := List Cross × Option Addr × Nat × Nat) (fun ⟨x107, a108, n109, c110⟩ => [(1, .int .i64 p1), (2, .int .i64 p2), (3, .bool p3), (10, .slice a108 n109 c110)]) (fun ⟨x107, a108, n109, c110⟩ w' => m_spec_FullTurn_K1 p1 p2 p3 Q x107 ∧ Below w.heap.size w w' ∧ Sep w' w.heap.size [oS 56 a108 n109 c110 (x107 : List Cross)]) ?_ ?_
    · refine w_seq fun K112 hK112 => ?_
      refine w_region ?_
      refine wl_val (g_move (v := .int .i64 p2) rfl) rfl ?_
      obtain ⟨hg113, hm⟩ := hm
      refine wl_val (g_sub (a := p2) (b := 1) rfl rfl hg113) rfl ?_
      refine wl_val (g_assign (v := .int .i64 (p2 - 1)) rfl) rfl ?_
      refine wl_nil ?_
      refine hK112 _ _ ?_
      refine w_block ?_
      obtain ⟨I119, μ120, h0121, hr122⟩ := hm
      refine w_for (σ := List Cross × Option Addr × Nat × Nat × Int) (fun ⟨x114, a115, n116, c117, v118⟩ => [(1, .int .i64 p1), (2, .int .i64 p2), (3, .bool p3), (10, .slice a115 n116 c117), (11, .int .i64 v118)]) (fun ⟨x114, a115, n116, c117, v118⟩ w' => I119 x114 v118 ∧ Below w.heap.size w w' ∧ Sep w' w.heap.size [oS 56 a115 n116 c117 (x114 : List Cross)]) (fun ⟨x114, a115, n116, c117, v118⟩ => μ120 x114 v118) ([], a4, 0, 0, (p2 - 1)) ⟨rfl, rfl, rfl, rfl, rfl, trivial⟩ ⟨h0121, hB38, hS39⟩ ?_
      rintro ⟨x114, a115, n116, c117, v118⟩ b_ w123 ⟨hi_, hB124, hS125⟩
      show Wp _ _ _ _ (upds b_ [(1, .int .i64 p1), (2, .int .i64 p2), (3, .bool p3), (10, .slice a115 n116 c117), (11, .int .i64 v118)]) w123
      have hm := hr122 x114 v118 hi_
      refine w_seq fun K127 hK127 => ?_
      refine w_seq fun K128 hK128 => ?_
      refine w_region ?_
      refine wl_val (g_move (v := .int .i64 v118) rfl) rfl ?_
      refine wl_val (g_move (v := .int .i64 p1) rfl) rfl ?_
      refine wl_val (g_gtr (a := v118) (b := p1) rfl rfl) rfl ?_
      refine wl_nil ?_
      refine hK128 _ _ ?_
      refine w_condI (p := v118 > p1) (b := (decide (v118 > p1))) rfl decide_eq_true_iff (fun h129 => ?_) (fun h129 => ?_)
      · replace hm := hm.1 h129
        refine w_skip ?_
        refine hK127 _ _ ?_
        refine w_seq fun K130 hK130 => ?_
        refine w_block ?_
        refine w_region ?_
        refine wl_val (g_move (v := .slice a115 n116 c117) rfl) rfl ?_
        refine wl_val (g_move (v := .int .i64 v118) rfl) rfl ?_
        refine wl_val (g_build (v := .agg #[.int .i64 v118, .bool false]) (parts1 rfl) (BD56_0 v118)) rfl ?_
        refine wl_step rfl (q_lit1 (y := ((v118, false) : Cross)) SL24 rfl rfl (by decide) hS125) ?_
        rintro _ w131 ⟨a132, rfl, hS134, hE133⟩
        have hB136 := hB124.trans (Ext.stp hE133 hS125.base)
        have hS142 := hS134.f1
        obtain ⟨hg143, hm⟩ := hm
        refine wl_step rfl (q_append SL24 rfl rfl hS142 (oS.vw hS142.g1) hg143 (by decide)) ?_
        rintro _ w137 ⟨a138, c139, rfl, hS141, hb140⟩
        have hB144 := hB136.trans hb140
        refine wl_val (g_assign (v := .slice a138 (n116 + 1) c139) rfl) rfl ?_
        refine wl_nil ?_
        refine hK130 _ _ ?_
        refine w_region ?_
        refine wl_val (g_move (v := .int .i64 v118) rfl) rfl ?_
        obtain ⟨hg145, hm⟩ := hm
        refine wl_val (g_sub (a := v118) (b := 1) rfl rfl hg145) rfl ?_
        refine wl_val (g_assign (v := .int .i64 (v118 - 1)) rfl) rfl ?_
        refine wl_nil ?_
        have hS146 := hS141.f1
        have hS147 := hS146.tail
        exact ⟨((x114 ++ ([(v118, false)])), a138, (n116 + 1), c139, (v118 - 1)), hm.2, ⟨rfl, rfl, rfl, rfl, rfl, trivial⟩, ⟨hm.1, hB144, hS147⟩⟩
      · replace hm := hm.2 h129
        refine w_exit ?_
        exact ⟨(x114, a115, n116, c117), ⟨rfl, rfl, rfl, rfl, trivial⟩, ⟨hm, hB124, hS125⟩⟩
    · rintro ⟨x107, a108, n109, c110⟩ b_ w148 ⟨hm, hB149, hS150⟩
      show Wp _ _ _ _ (upds b_ [(1, .int .i64 p1), (2, .int .i64 p2), (3, .bool p3), (10, .slice a108 n109 c110)]) w148
      refine w_seq fun K151 hK151 => ?_
      refine w_region ?_
      refine wl_val (g_move (v := .slice a108 n109 c110) rfl) rfl ?_
      refine wl_val (g_move (v := .int .i64 p1) rfl) rfl ?_
      refine wl_val (g_move (v := .bool p3) rfl) rfl ?_
      refine wl_val (g_build (v := .agg #[.int .i64 p1, .bool p3]) (parts2 rfl rfl) (BD56_01 p1 p3)) rfl ?_
      refine wl_val (g_move (v := .int .i64 p1) rfl) rfl ?_
      refine wl_val (g_move (v := .bool p3) rfl) rfl ?_
      refine wl_val (g_build (v := .agg #[.int .i64 p1, .bool p3]) (parts2 rfl rfl) (BD56_01 p1 p3)) rfl ?_
      refine wl_step rfl (q_lit2 (y := ((p1, p3) : Cross)) (y' := ((p1, p3) : Cross)) SL24 rfl rfl rfl rfl (by decide) hS150) ?_
      rintro _ w152 ⟨a153, rfl, hS155, hE154⟩
      have hB157 := hB149.trans (Ext.stp hE154 hS150.base)
      have hS163 := hS155.f1
      obtain ⟨hg164, hm⟩ := hm
      refine wl_step rfl (q_append SL24 rfl rfl hS163 (oS.vw hS163.g1) hg164 (by decide)) ?_
      rintro _ w158 ⟨a159, c160, rfl, hS162, hb161⟩
      have hB165 := hB157.trans hb161
      refine wl_val (g_assign (v := .slice a159 (n109 + 2) c160) rfl) rfl ?_
      refine wl_nil ?_
      refine hK151 _ _ ?_
      refine w_cut (σ := List Cross × Option Addr × Nat × Nat) (fun ⟨x234, a235, n236, c237⟩ => [(10, .slice a235 n236 c237)]) (fun ⟨x234, a235, n236, c237⟩ w' => m_spec_FullTurn_K0 Q x234 ∧ Below w.heap.size w w' ∧ Sep w' w.heap.size [oS 56 a235 n236 c237 (x234 : List Cross)]) ?_ ?_
      · refine w_seq fun K239 hK239 => ?_
        refine w_region ?_
        refine wl_val (g_move (v := .int .i64 p1) rfl) rfl ?_
        obtain ⟨hg240, hm⟩ := hm
        refine wl_val (g_add (a := p1) (b := 1) rfl rfl hg240) rfl ?_
        refine wl_val (g_assign (v := .int .i64 (p1 + 1)) rfl) rfl ?_
        refine wl_nil ?_
        refine hK239 _ _ ?_
        refine w_block ?_
        have hS246 := hS162.f1
        have hS247 := hS246.tail
        obtain ⟨I248, μ249, h0250, hr251⟩ := hm
        refine w_for (σ := List Cross × Option Addr × Nat × Nat × Int) (fun ⟨x241, a242, n243, c244, v245⟩ => [(2, .int .i64 p2), (10, .slice a242 n243 c244), (12, .int .i64 v245)]) (fun ⟨x241, a242, n243, c244, v245⟩ w' => I248 x241 v245 ∧ Below w.heap.size w w' ∧ Sep w' w.heap.size [oS 56 a242 n243 c244 (x241 : List Cross)]) (fun ⟨x241, a242, n243, c244, v245⟩ => μ249 x241 v245) ((x107 ++ ([(p1, p3), (p1, p3)])), a159, (n109 + 2), c160, (p1 + 1)) ⟨rfl, rfl, rfl, trivial⟩ ⟨h0250, hB165, hS247⟩ ?_
        rintro ⟨x241, a242, n243, c244, v245⟩ b_ w252 ⟨hi_, hB253, hS254⟩
        show Wp _ _ _ _ (upds b_ [(2, .int .i64 p2), (10, .slice a242 n243 c244), (12, .int .i64 v245)]) w252
        have hm := hr251 x241 v245 hi_
        refine w_seq fun K256 hK256 => ?_
        refine w_seq fun K257 hK257 => ?_
        refine w_region ?_
        refine wl_val (g_move (v := .int .i64 v245) rfl) rfl ?_
        refine wl_val (g_move (v := .int .i64 p2) rfl) rfl ?_
        refine wl_val (g_lss (a := v245) (b := p2) rfl rfl) rfl ?_
        refine wl_nil ?_
        refine hK257 _ _ ?_
        refine w_condI (p := v245 < p2) (b := (decide (v245 < p2))) rfl decide_eq_true_iff (fun h258 => ?_) (fun h258 => ?_)
        · replace hm := hm.1 h258
          refine w_skip ?_
          refine hK256 _ _ ?_
          refine w_seq fun K259 hK259 => ?_
          refine w_block ?_
          refine w_region ?_
          refine wl_val (g_move (v := .slice a242 n243 c244) rfl) rfl ?_
          refine wl_val (g_move (v := .int .i64 v245) rfl) rfl ?_
          refine wl_val (g_build (v := .agg #[.int .i64 v245, .bool true]) (parts2 rfl rfl) (BD56_01 v245 true)) rfl ?_
          refine wl_step rfl (q_lit1 (y := ((v245, true) : Cross)) SL24 rfl rfl (by decide) hS254) ?_
          rintro _ w260 ⟨a261, rfl, hS263, hE262⟩
          have hB265 := hB253.trans (Ext.stp hE262 hS254.base)
          have hS271 := hS263.f1
          obtain ⟨hg272, hm⟩ := hm
          refine wl_step rfl (q_append SL24 rfl rfl hS271 (oS.vw hS271.g1) hg272 (by decide)) ?_
          rintro _ w266 ⟨a267, c268, rfl, hS270, hb269⟩
          have hB273 := hB265.trans hb269
          refine wl_val (g_assign (v := .slice a267 (n243 + 1) c268) rfl) rfl ?_
          refine wl_nil ?_
          refine hK259 _ _ ?_
          refine w_region ?_
          refine wl_val (g_move (v := .int .i64 v245) rfl) rfl ?_
          obtain ⟨hg274, hm⟩ := hm
          refine wl_val (g_add (a := v245) (b := 1) rfl rfl hg274) rfl ?_
          refine wl_val (g_assign (v := .int .i64 (v245 + 1)) rfl) rfl ?_
          refine wl_nil ?_
          have hS275 := hS270.f1
          have hS276 := hS275.tail
          exact ⟨((x241 ++ ([(v245, true)])), a267, (n243 + 1), c268, (v245 + 1)), hm.2, ⟨rfl, rfl, rfl, trivial⟩, ⟨hm.1, hB273, hS276⟩⟩
        · replace hm := hm.2 h258
          refine w_exit ?_
          exact ⟨(x241, a242, n243, c244), ⟨rfl, trivial⟩, ⟨hm, hB253, hS254⟩⟩
      · rintro ⟨x234, a235, n236, c237⟩ b_ w277 ⟨hm, hB278, hS279⟩
        show Wp _ _ _ _ (upds b_ [(10, .slice a235 n236 c237)]) w277
        refine w_seq fun K280 hK280 => ?_
        refine w_region ?_
        refine wl_val (g_move (v := .slice a235 n236 c237) rfl) rfl ?_
        refine wl_val (g_assign (v := .slice a235 n236 c237) rfl) rfl ?_
        refine wl_val (g_assign (v := .bool true) rfl) rfl ?_
        refine wl_nil ?_
        refine hK280 _ _ ?_
        refine w_ret ?_
        repeat first | with_reducible refine q_then ?_ | with_reducible refine q_block ?_
        exact ret2 rfl (by decide) (by decide) ⟨_, _, _, _, _, hm, rfl, toExt hB278, hS279⟩

theorem m_spec_UnwindAll_fn {w : World} {a1 : Option Addr} {n1 c1 : Nat} {p1 : List Cross} {Q : (List Cross) → Bool → Prop} (p0 : Int) (hp1 : Vw w.heap.size w a1 n1 c1 p1) (hm : m_spec_UnwindAll p0 p1 Q) :
    Fn Try.prog 47 #[.int .i64 p0, .slice a1 n1 c1] w (fun v w' => ∃ (r0 : List Cross) (a0 : Option Addr) (n0 c0 : Nat) (r1 : Bool), Q r0 r1 ∧ v = .tuple #[.slice a0 n0 c0, .bool r1] ∧ Ext w w' ∧ Sep w' w.heap.size [oS 56 a0 n0 c0 r0]) := by
  unfold m_spec_UnwindAll at hm
  have hB0 := Below.refl w.heap.size w
  have hS0 : Sep w w.heap.size [] := Sep.nil (Nat.le_refl _)
  refine fn_of_wp Try.func47 rfl (by kernel_rfl) (Nat.le_of_ble_eq_true rfl) ?_
  refine w_seq fun K1 hK1 => ?_
  refine w_region ?_
  refine wl_val (g_assign (v := .slice none 0 0) rfl) rfl ?_
  refine wl_val (g_assign (v := .bool false) rfl) rfl ?_
  refine wl_nil ?_
  refine hK1 _ _ ?_
  refine w_seq fun K2 hK2 => ?_
  refine w_region ?_
  refine wl_step rfl (q_lit0 (α := Cross) rfl SL24 hS0) ?_
  rintro _ w3 ⟨a4, rfl, hS6, hE5⟩
  have hB8 := hB0.trans (Ext.stp hE5 hS0.base)
  refine wl_val (g_assign (v := .slice a4 0 0) rfl) rfl ?_
  refine wl_nil ?_
  refine hK2 _ _ ?_
  refine w_seq fun K9 hK9 => ?_
  refine w_seq fun K10 hK10 => ?_
  refine w_region ?_
  refine wl_val (g_move (v := .int .i64 p0) rfl) rfl ?_
  refine wl_val (g_move (v := .slice a1 n1 c1) rfl) rfl ?_
  refine wl_step rfl (g_call (vs := #[.int .i64 p0, .slice a1 n1 c1]) CF59 (args2 rfl rfl) (m_spec_CrossesOk_fn p0 ((hp1.bel hB8).up hS6) hm)) ?_
  rintro _ w11 ⟨r14, hm, rfl, hE12⟩
  have hB15 := hB8.trans (Ext.stp hE12 hS6.base)
  have hS16 := hS6.ext hE12
  refine wl_val (g_not (a := r14) rfl) rfl ?_
  refine wl_val (g_move (v := .bool (!r14)) rfl) rfl ?_
  by_cases hc17 : (!r14) = false
  · replace hm := hm.1 (i_neg (i_not Iff.rfl) hc17)
    refine wl_valT (g_move (v := .int .i64 p0) rfl) (gv_T (gv_some rfl rfl rfl) hc17) ?_
    refine wl_valT (g_move (v := .slice a1 n1 c1) rfl) (gv_T (gv_some rfl rfl rfl) hc17) ?_
    refine wl_stepT (gv_T (gv_some rfl rfl rfl) hc17) (g_call (vs := #[.int .i64 p0, .slice a1 n1 c1]) CF26 (args2 rfl rfl) (m_spec_OrderAfter_fn p0 ((hp1.bel hB15).up hS16) hm)) ?_
    rintro _ w18 ⟨r21, a22, n23, c24, hm, rfl, hE19, hN20⟩
    have hS26 := hS16.call1 hE19 hN20
    have hB27 := hB15.trans (Ext.stp hE19 hS16.base)
    refine wl_stepT (gv_T (gv_some rfl rfl rfl) hc17) (g_call (vs := #[.slice a22 n23 c24]) CF36 (args1 rfl) (m_spec_CountInversions_fn (oS.vw hS26.g0) hm)) ?_
    rintro _ w28 ⟨r31, hm, rfl, hE29⟩
    have hB32 := hB27.trans (Ext.stp hE29 hS26.base)
    have hS33 := hS26.ext hE29
    refine wl_valT (g_neq (a := r31) (b := 0) rfl rfl) (gv_T (gv_some rfl rfl rfl) hc17) ?_
    refine wl_val (g_pickF (b := (!r14)) rfl hc17 rfl) rfl ?_
    refine wl_nil ?_
    refine hK10 _ _ ?_
    refine w_condI (p := r31 ≠ 0) (b := (decide (r31 ≠ 0))) rfl decide_eq_true_iff (fun h34 => ?_) (fun h34 => ?_)
    · replace hm := hm.1 h34
      refine w_seq fun K35 hK35 => ?_
      refine w_region ?_
      refine wl_val (g_move (v := .slice a4 0 0) rfl) rfl ?_
      refine wl_val (g_assign (v := .slice a4 0 0) rfl) rfl ?_
      refine wl_val (g_assign (v := .bool false) rfl) rfl ?_
      refine wl_nil ?_
      refine hK35 _ _ ?_
      refine w_ret ?_
      have hS36 := hS33.tail
      repeat first | with_reducible refine q_then ?_ | with_reducible refine q_block ?_
      exact ret2 rfl (by decide) (by decide) ⟨_, _, _, _, _, hm, rfl, toExt hB32, hS36⟩
    · replace hm := hm.2 h34
      refine w_skip ?_
      refine hK9 _ _ ?_
      refine w_seq fun K37 hK37 => ?_
      refine w_region ?_
      refine wl_val (g_move (v := .int .i64 p0) rfl) rfl ?_
      refine wl_val (g_move (v := .slice a1 n1 c1) rfl) rfl ?_
      refine wl_step rfl (g_call (vs := #[.int .i64 p0, .slice a1 n1 c1]) CF44 (args2 rfl rfl) (m_spec_WoundPairs_fn p0 ((hp1.bel hB32).up hS33) hm)) ?_
      rintro _ w38 ⟨r41, a42, n43, c44, y45, hm, he46, rfl, hE39, hN40⟩
      have hS50 := hS33.call2 hE39 hN40
      have hB51 := hB32.trans (Ext.stp hE39 hS33.base)
      refine wl_val (g_assign (v := .slice a42 n43 c44) rfl) rfl ?_
      refine wl_nil ?_
      refine hK37 _ _ ?_
      refine w_cut (σ := List Cross × Option Addr × Nat × Nat) (fun ⟨x791, a792, n793, c794⟩ => [(6, .slice a792 n793 c794)]) (fun ⟨x791, a792, n793, c794⟩ w' => m_spec_UnwindAll_K1 Q x791 ∧ Below w.heap.size w w' ∧ Sep w' w.heap.size [oS 56 a792 n793 c794 (x791 : List Cross)]) ?_ ?_
      · refine w_seq fun K796 hK796 => ?_
        refine w_region ?_
        refine wl_val (g_assign (v := .int .i64 0) rfl) rfl ?_
        refine wl_nil ?_
        refine hK796 _ _ ?_
        refine w_block ?_
        have hS802 := hS50.f2
        have hS803 := hS802.tail
        have hS804 := hS803.f1
        have hS805 := hS804.f1
        have hS806 := hS805.f2
        obtain ⟨I807, μ808, h0809, hr810⟩ := hm
        refine w_for (σ := List Cross × Option Addr × Nat × Nat × Int) (fun ⟨x797, a798, n799, c800, v801⟩ => [(0, .int .i64 p0), (1, .slice a1 n1 c1), (6, .slice a798 n799 c800), (7, .slice a42 n43 c44), (8, .int .i64 v801)]) (fun ⟨x797, a798, n799, c800, v801⟩ w' => I807 x797 v801 ∧ Below w.heap.size w w' ∧ Sep w' w.heap.size [oS 56 a798 n799 c800 (x797 : List Cross), oS 39 a42 n43 c44 (y45 : List (Hd Int)), oT 3 (y45 : List (Hd Int))]) (fun ⟨x797, a798, n799, c800, v801⟩ => μ808 x797 v801) ([], a4, 0, 0, 0) ⟨rfl, rfl, rfl, rfl, rfl, trivial⟩ ⟨h0809, hB51, hS806⟩ ?_
        rintro ⟨x797, a798, n799, c800, v801⟩ b_ w811 ⟨hi_, hB812, hS813⟩
        show Wp _ _ _ _ (upds b_ [(0, .int .i64 p0), (1, .slice a1 n1 c1), (6, .slice a798 n799 c800), (7, .slice a42 n43 c44), (8, .int .i64 v801)]) w811
        have hm := hr810 x797 v801 hi_
        refine w_seq fun K815 hK815 => ?_
        refine w_seq fun K816 hK816 => ?_
        refine w_region ?_
        refine wl_val (g_move (v := .int .i64 v801) rfl) rfl ?_
        refine wl_val (g_move (v := .slice a42 n43 c44) rfl) rfl ?_
        refine wl_val (q_len SL37 rfl (Tv.len (oT.vw hS813.g1 hS813.g2 he46))) rfl ?_
        refine wl_val (g_lss (a := v801) (b := (r41.length : Int)) rfl rfl) rfl ?_
        refine wl_nil ?_
        refine hK816 _ _ ?_
        refine w_condI (p := v801 < (r41.length : Int)) (b := (decide (v801 < (r41.length : Int)))) rfl decide_eq_true_iff (fun h817 => ?_) (fun h817 => ?_)
        · replace hm := hm.1 h817
          refine w_skip ?_
          refine hK815 _ _ ?_
          refine w_cut (σ := List Cross × Option Addr × Nat × Nat) (fun ⟨x818, a819, n820, c821⟩ => [(0, .int .i64 p0), (1, .slice a1 n1 c1), (6, .slice a819 n820 c821), (7, .slice a42 n43 c44), (8, .int .i64 v801)]) (fun ⟨x818, a819, n820, c821⟩ w' => m_spec_UnwindAll_K0 v801 (fun x797' v801' => I807 x797' v801' ∧ μ808 x797' v801' < μ808 x797 v801) x818 ∧ Below w.heap.size w w' ∧ Sep w' w.heap.size [oS 56 a819 n820 c821 (x818 : List Cross), oS 39 a42 n43 c44 (y45 : List (Hd Int)), oT 3 (y45 : List (Hd Int))]) ?_ ?_
          · refine w_block ?_
            refine w_seq fun K823 hK823 => ?_
            refine w_draw (X := Ext) (Y := Ext) [] MIX (by decide +kernel) rfl Ext.refl (fun _ _ _ => Ext.trans) (fun _ _ _ => Chg.trans) (fun _ _ h => Ext.chg h _) (fun w824 hE825 => ?_)
            have hB826 := hB812.trans (Ext.stp hE825 hS813.base)
            have hS827 := hS813.ext hE825
            refine ⟨.int .i64 p0, fun w828 hX829 => od_plain rfl (by have hS830 := hS827.ext hX829; have hB831 := hB826.trans (Ext.stp hX829 hS827.base); exact is_ext (g_move (v := .int .i64 p0) rfl)), ?_⟩
            refine ⟨.slice a1 n1 c1, fun w832 hX833 => od_plain rfl (by have hS834 := hS827.ext hX833; have hB835 := hB826.trans (Ext.stp hX833 hS827.base); exact is_ext (g_move (v := .slice a1 n1 c1) rfl)), ?_⟩
            refine ⟨.slice a42 n43 c44, fun w836 hX837 => od_plain rfl (by have hS838 := hS827.ext hX837; have hB839 := hB826.trans (Ext.stp hX837 hS827.base); exact is_ext (g_move (v := .slice a42 n43 c44) rfl)), ?_⟩
            refine ⟨.int .i64 v801, fun w840 hX841 => od_plain rfl (by have hS842 := hS827.ext hX841; have hB843 := hB826.trans (Ext.stp hX841 hS827.base); exact is_ext (g_move (v := .int .i64 v801) rfl)), ?_⟩
            obtain ⟨hg848, hm⟩ := hm
            refine ⟨.pointer (some ((adr a42).add ((Int.toNat v801) * El.m (Hd Int)))), fun w844 hX845 => od_plain rfl (by have hS846 := hS827.ext hX845; have hB847 := hB826.trans (Ext.stp hX845 hS827.base); exact is_ext (q_index (i := v801) SL37 rfl rfl (Tv.o (oT.vw hS846.g1 hS846.g2 he46)) (Tv.g (oT.vw hS846.g1 hS846.g2 he46) hg848))), ?_⟩
            refine ⟨.slice ((y45[(Int.toNat v801)]!).1) ((y45[(Int.toNat v801)]!).2.2.length) ((y45[(Int.toNat v801)]!).2.1), fun w849 hX850 => od_plain rfl (by have hS851 := hS827.ext hX850; have hB852 := hB826.trans (Ext.stp hX850 hS827.base); exact is_ext (q_load (i := v801) (v := .slice ((y45[(Int.toNat v801)]!).1) ((y45[(Int.toNat v801)]!).2.2.length) ((y45[(Int.toNat v801)]!).2.1)) ON39 (Tv.o (oT.vw hS851.g1 hS851.g2 he46)) (Tv.g (oT.vw hS851.g1 hS851.g2 he46) hg848) rfl rfl)), ?_⟩
            obtain ⟨hg857, hm⟩ := hm
            refine ⟨.pointer (some ((adr ((y45[(Int.toNat v801)]!).1)).add (0 * El.m Int))), fun w853 hX854 => od_plain rfl (by have hS855 := hS827.ext hX854; have hB856 := hB826.trans (Ext.stp hX854 hS827.base); exact is_ext (q_index (i := 0) SL39 rfl rfl (Tv.row (oT.vw hS855.g1 hS855.g2 he46) hg848) hg857)), ?_⟩
            refine ⟨.int .i64 ((r41[(Int.toNat v801)]!)[0]!), fun w858 hX859 => od_plain rfl (by have hS860 := hS827.ext hX859; have hB861 := hB826.trans (Ext.stp hX859 hS827.base); exact is_ext (q_load (i := 0) (v := .int .i64 ((r41[(Int.toNat v801)]!)[0]!)) ON3 (Tv.row (oT.vw hS860.g1 hS860.g2 he46) hg848) hg857 rfl rfl)), ?_⟩
            refine ⟨.slice a42 n43 c44, fun w862 hX863 => od_plain rfl (by have hS864 := hS827.ext hX863; have hB865 := hB826.trans (Ext.stp hX863 hS827.base); exact is_ext (g_move (v := .slice a42 n43 c44) rfl)), ?_⟩
            refine ⟨.int .i64 v801, fun w866 hX867 => od_plain rfl (by have hS868 := hS827.ext hX867; have hB869 := hB826.trans (Ext.stp hX867 hS827.base); exact is_ext (g_move (v := .int .i64 v801) rfl)), ?_⟩
            obtain ⟨hg874, hm⟩ := hm
            refine ⟨.pointer (some ((adr a42).add ((Int.toNat v801) * El.m (Hd Int)))), fun w870 hX871 => od_plain rfl (by have hS872 := hS827.ext hX871; have hB873 := hB826.trans (Ext.stp hX871 hS827.base); exact is_ext (q_index (i := v801) SL37 rfl rfl (Tv.o (oT.vw hS872.g1 hS872.g2 he46)) (Tv.g (oT.vw hS872.g1 hS872.g2 he46) hg874))), ?_⟩
            refine ⟨.slice ((y45[(Int.toNat v801)]!).1) ((y45[(Int.toNat v801)]!).2.2.length) ((y45[(Int.toNat v801)]!).2.1), fun w875 hX876 => od_plain rfl (by have hS877 := hS827.ext hX876; have hB878 := hB826.trans (Ext.stp hX876 hS827.base); exact is_ext (q_load (i := v801) (v := .slice ((y45[(Int.toNat v801)]!).1) ((y45[(Int.toNat v801)]!).2.2.length) ((y45[(Int.toNat v801)]!).2.1)) ON39 (Tv.o (oT.vw hS877.g1 hS877.g2 he46)) (Tv.g (oT.vw hS877.g1 hS877.g2 he46) hg874) rfl rfl)), ?_⟩
            obtain ⟨hg883, hm⟩ := hm
            refine ⟨.pointer (some ((adr ((y45[(Int.toNat v801)]!).1)).add (1 * El.m Int))), fun w879 hX880 => od_plain rfl (by have hS881 := hS827.ext hX880; have hB882 := hB826.trans (Ext.stp hX880 hS827.base); exact is_ext (q_index (i := 1) SL39 rfl rfl (Tv.row (oT.vw hS881.g1 hS881.g2 he46) hg874) hg883)), ?_⟩
            refine ⟨.int .i64 ((r41[(Int.toNat v801)]!)[1]!), fun w884 hX885 => od_plain rfl (by have hS886 := hS827.ext hX885; have hB887 := hB826.trans (Ext.stp hX885 hS827.base); exact is_ext (q_load (i := 1) (v := .int .i64 ((r41[(Int.toNat v801)]!)[1]!)) ON3 (Tv.row (oT.vw hS886.g1 hS886.g2 he46) hg874) hg883 rfl rfl)), ?_⟩
            obtain ⟨r892, hk893, hm⟩ := hm
            refine ⟨.int .i64 r892, fun w888 hX889 => od_plain rfl (by have hS890 := hS827.ext hX889; have hB891 := hB826.trans (Ext.stp hX889 hS827.base); exact (g_call (vs := #[.int .i64 p0, .slice a1 n1 c1, .int .i64 ((r41[(Int.toNat v801)]!)[0]!), .int .i64 ((r41[(Int.toNat v801)]!)[1]!)]) CF37 (args4 rfl rfl rfl rfl) ((m_spec_TwistOf_fn p0 ((hp1.bel hB891).up hS890) ((r41[(Int.toNat v801)]!)[0]!) ((r41[(Int.toNat v801)]!)[1]!) hk893).mono fun _ _ ⟨_, h1, h2, h3⟩ => ⟨by rw [h2, h1], h3⟩))), ?_⟩
            refine ⟨.int .i64 r892, fun w894 hX895 => od_plain rfl (by have hS896 := hS827.ext hX895; have hB897 := hB826.trans (Ext.stp hX895 hS827.base); exact is_ext (g_assign (v := .int .i64 r892) rfl)), ?_⟩
            intro w898 hX899
            have hB900 := hB826.trans (Ext.stp hX899 hS827.base)
            have hS901 := hS827.ext hX899
            refine hK823 _ _ ?_
            refine w_seq fun K902 hK902 => ?_
            refine w_draw (X := Ext) (Y := Ext) [0, 0, 0, 0, 0, 0, 0, 0, 0, 0, 0, 0, 0, 0, 0, 1, 0, 0, 0, 0, 0] MIX (by decide +kernel) rfl Ext.refl (fun _ _ _ => Ext.trans) (fun _ _ _ => Chg.trans) (fun _ _ h => Ext.chg h _) (fun w903 hE904 => ?_)
            have hB905 := hB900.trans (Ext.stp hE904 hS901.base)
            have hS906 := hS901.ext hE904
            refine ⟨.int .i64 p0, fun w907 hX908 => od_plain rfl (by have hS909 := hS906.ext hX908; have hB910 := hB905.trans (Ext.stp hX908 hS906.base); exact is_ext (g_move (v := .int .i64 p0) rfl)), ?_⟩
            refine ⟨.slice a42 n43 c44, fun w911 hX912 => od_plain rfl (by have hS913 := hS906.ext hX912; have hB914 := hB905.trans (Ext.stp hX912 hS906.base); exact is_ext (g_move (v := .slice a42 n43 c44) rfl)), ?_⟩
            refine ⟨.int .i64 v801, fun w915 hX916 => od_plain rfl (by have hS917 := hS906.ext hX916; have hB918 := hB905.trans (Ext.stp hX916 hS906.base); exact is_ext (g_move (v := .int .i64 v801) rfl)), ?_⟩
            obtain ⟨hg923, hm⟩ := hm
            refine ⟨.pointer (some ((adr a42).add ((Int.toNat v801) * El.m (Hd Int)))), fun w919 hX920 => od_plain rfl (by have hS921 := hS906.ext hX920; have hB922 := hB905.trans (Ext.stp hX920 hS906.base); exact is_ext (q_index (i := v801) SL37 rfl rfl (Tv.o (oT.vw hS921.g1 hS921.g2 he46)) (Tv.g (oT.vw hS921.g1 hS921.g2 he46) hg923))), ?_⟩
            refine ⟨.slice ((y45[(Int.toNat v801)]!).1) ((y45[(Int.toNat v801)]!).2.2.length) ((y45[(Int.toNat v801)]!).2.1), fun w924 hX925 => od_plain rfl (by have hS926 := hS906.ext hX925; have hB927 := hB905.trans (Ext.stp hX925 hS906.base); exact is_ext (q_load (i := v801) (v := .slice ((y45[(Int.toNat v801)]!).1) ((y45[(Int.toNat v801)]!).2.2.length) ((y45[(Int.toNat v801)]!).2.1)) ON39 (Tv.o (oT.vw hS926.g1 hS926.g2 he46)) (Tv.g (oT.vw hS926.g1 hS926.g2 he46) hg923) rfl rfl)), ?_⟩
            obtain ⟨hg932, hm⟩ := hm
            refine ⟨.pointer (some ((adr ((y45[(Int.toNat v801)]!).1)).add (0 * El.m Int))), fun w928 hX929 => od_plain rfl (by have hS930 := hS906.ext hX929; have hB931 := hB905.trans (Ext.stp hX929 hS906.base); exact is_ext (q_index (i := 0) SL39 rfl rfl (Tv.row (oT.vw hS930.g1 hS930.g2 he46) hg923) hg932)), ?_⟩
            refine ⟨.int .i64 ((r41[(Int.toNat v801)]!)[0]!), fun w933 hX934 => od_plain rfl (by have hS935 := hS906.ext hX934; have hB936 := hB905.trans (Ext.stp hX934 hS906.base); exact is_ext (q_load (i := 0) (v := .int .i64 ((r41[(Int.toNat v801)]!)[0]!)) ON3 (Tv.row (oT.vw hS935.g1 hS935.g2 he46) hg923) hg932 rfl rfl)), ?_⟩
            refine ⟨.slice a42 n43 c44, fun w937 hX938 => od_plain rfl (by have hS939 := hS906.ext hX938; have hB940 := hB905.trans (Ext.stp hX938 hS906.base); exact is_ext (g_move (v := .slice a42 n43 c44) rfl)), ?_⟩
            refine ⟨.int .i64 v801, fun w941 hX942 => od_plain rfl (by have hS943 := hS906.ext hX942; have hB944 := hB905.trans (Ext.stp hX942 hS906.base); exact is_ext (g_move (v := .int .i64 v801) rfl)), ?_⟩
            obtain ⟨hg949, hm⟩ := hm
            refine ⟨.pointer (some ((adr a42).add ((Int.toNat v801) * El.m (Hd Int)))), fun w945 hX946 => od_plain rfl (by have hS947 := hS906.ext hX946; have hB948 := hB905.trans (Ext.stp hX946 hS906.base); exact is_ext (q_index (i := v801) SL37 rfl rfl (Tv.o (oT.vw hS947.g1 hS947.g2 he46)) (Tv.g (oT.vw hS947.g1 hS947.g2 he46) hg949))), ?_⟩
            refine ⟨.slice ((y45[(Int.toNat v801)]!).1) ((y45[(Int.toNat v801)]!).2.2.length) ((y45[(Int.toNat v801)]!).2.1), fun w950 hX951 => od_plain rfl (by have hS952 := hS906.ext hX951; have hB953 := hB905.trans (Ext.stp hX951 hS906.base); exact is_ext (q_load (i := v801) (v := .slice ((y45[(Int.toNat v801)]!).1) ((y45[(Int.toNat v801)]!).2.2.length) ((y45[(Int.toNat v801)]!).2.1)) ON39 (Tv.o (oT.vw hS952.g1 hS952.g2 he46)) (Tv.g (oT.vw hS952.g1 hS952.g2 he46) hg949) rfl rfl)), ?_⟩
            obtain ⟨hg958, hm⟩ := hm
            refine ⟨.pointer (some ((adr ((y45[(Int.toNat v801)]!).1)).add (1 * El.m Int))), fun w954 hX955 => od_plain rfl (by have hS956 := hS906.ext hX955; have hB957 := hB905.trans (Ext.stp hX955 hS906.base); exact is_ext (q_index (i := 1) SL39 rfl rfl (Tv.row (oT.vw hS956.g1 hS956.g2 he46) hg949) hg958)), ?_⟩
            refine ⟨.int .i64 ((r41[(Int.toNat v801)]!)[1]!), fun w959 hX960 => od_plain rfl (by have hS961 := hS906.ext hX960; have hB962 := hB905.trans (Ext.stp hX960 hS906.base); exact is_ext (q_load (i := 1) (v := .int .i64 ((r41[(Int.toNat v801)]!)[1]!)) ON3 (Tv.row (oT.vw hS961.g1 hS961.g2 he46) hg949) hg958 rfl rfl)), ?_⟩
            refine ⟨.int .i64 r892, fun w963 hX964 => od_plain rfl (by have hS965 := hS906.ext hX964; have hB966 := hB905.trans (Ext.stp hX964 hS906.base); exact is_ext (g_move (v := .int .i64 r892) rfl)), ?_⟩
            refine ⟨.bool (decide (r892 < 0)), fun w967 hX968 => od_plain rfl (by have hS969 := hS906.ext hX968; have hB970 := hB905.trans (Ext.stp hX968 hS906.base); exact is_ext (g_lss (a := r892) (b := 0) rfl rfl)), ?_⟩
            intro w971 hX972
            have hB973 := hB905.trans (Ext.stp hX972 hS906.base)
            have hS974 := hS906.ext hX972
            refine ⟨_, od_plain rfl (g_call (vs := #[.int .i64 p0, .int .i64 ((r41[(Int.toNat v801)]!)[0]!), .int .i64 ((r41[(Int.toNat v801)]!)[1]!), .bool (decide (r892 < 0))]) CF21 (args4 rfl rfl rfl rfl) (m_spec_FullTurn_fn p0 ((r41[(Int.toNat v801)]!)[0]!) ((r41[(Int.toNat v801)]!)[1]!) (decide (r892 < 0)) hm)), ?_⟩
            rintro _ w975 ⟨r978, a979, n980, c981, r983, hm, rfl, hE976, hN977⟩
            have hS984 := hS974.call1 hE976 hN977
            have hB985 := hB973.trans (Ext.stp hE976 hS974.base)
            refine ⟨.tuple #[.slice a979 n980 c981, .bool r983], fun w986 hX987 => od_plain rfl (by have hS988 := hS984.ext hX987; have hB989 := hB985.trans (Ext.stp hX987 hS984.base); exact is_ext (g_move (v := .tuple #[.slice a979 n980 c981, .bool r983]) rfl)), ?_⟩
            refine ⟨.slice a979 n980 c981, fun w990 hX991 => od_plain rfl (by have hS992 := hS984.ext hX991; have hB993 := hB985.trans (Ext.stp hX991 hS984.base); exact is_ext (g_extract (vs := #[.slice a979 n980 c981, .bool r983]) rfl rfl)), ?_⟩
            refine ⟨.bool r983, fun w994 hX995 => od_plain rfl (by have hS996 := hS984.ext hX995; have hB997 := hB985.trans (Ext.stp hX995 hS984.base); exact is_ext (g_extract (vs := #[.slice a979 n980 c981, .bool r983]) rfl rfl)), ?_⟩
            refine ⟨.slice a979 n980 c981, fun w998 hX999 => od_plain rfl (by have hS1000 := hS984.ext hX999; have hB1001 := hB985.trans (Ext.stp hX999 hS984.base); exact is_ext (g_assign (v := .slice a979 n980 c981) rfl)), ?_⟩
            refine ⟨.bool r983, fun w1002 hX1003 => od_plain rfl (by have hS1004 := hS984.ext hX1003; have hB1005 := hB985.trans (Ext.stp hX1003 hS984.base); exact is_ext (g_assign (v := .bool r983) rfl)), ?_⟩
            intro w1006 hX1007
            have hB1008 := hB985.trans (Ext.stp hX1007 hS984.base)
            have hS1009 := hS984.ext hX1007
            refine hK902 _ _ ?_
            refine w_seq fun K1010 hK1010 => ?_
            refine w_region ?_
            refine wl_val (g_move (v := .int .i64 r892) rfl) rfl ?_
            refine wl_val (g_move (v := .int .i64 r892) rfl) rfl ?_
            obtain ⟨hg1011, hm⟩ := hm
            refine wl_val (g_neg (a := r892) rfl hg1011) rfl ?_
            refine wl_val (g_max (a := r892) (b := (-r892)) rfl rfl) rfl ?_
            obtain ⟨hg1012, hm⟩ := hm
            refine wl_val (g_quo (a := (max r892 (-r892))) (b := 2) rfl rfl (by decide) hg1012) rfl ?_
            refine wl_val (g_assign (v := .int .i64 (Int.tdiv (max r892 (-r892)) 2)) rfl) rfl ?_
            refine wl_nil ?_
            refine hK1010 _ _ ?_
            refine w_block ?_
            have hS1018 := hS1009.f3
            have hS1019 := hS1018.f3
            have hS1020 := hS1019.f3
            obtain ⟨I1021, μ1022, h01023, hr1024⟩ := hm
            refine w_for (σ := List Cross × Option Addr × Nat × Nat × Int) (fun ⟨x1013, a1014, n1015, c1016, v1017⟩ => [(0, .int .i64 p0), (1, .slice a1 n1 c1), (6, .slice a1014 n1015 c1016), (7, .slice a42 n43 c44), (8, .int .i64 v801), (10, .slice a979 n980 c981), (12, .int .i64 v1017)]) (fun ⟨x1013, a1014, n1015, c1016, v1017⟩ w' => I1021 x1013 v1017 ∧ Below w.heap.size w w' ∧ Sep w' w.heap.size [oS 56 a1014 n1015 c1016 (x1013 : List Cross), oS 39 a42 n43 c44 (y45 : List (Hd Int)), oT 3 (y45 : List (Hd Int)), oS 56 a979 n980 c981 (r978 : List Cross)]) (fun ⟨x1013, a1014, n1015, c1016, v1017⟩ => μ1022 x1013 v1017) (x797, a798, n799, c800, (Int.tdiv (max r892 (-r892)) 2)) ⟨rfl, rfl, rfl, rfl, rfl, rfl, rfl, trivial⟩ ⟨h01023, hB1008, hS1020⟩ ?_
            rintro ⟨x1013, a1014, n1015, c1016, v1017⟩ b_ w1025 ⟨hi_, hB1026, hS1027⟩
            show Wp _ _ _ _ (upds b_ [(0, .int .i64 p0), (1, .slice a1 n1 c1), (6, .slice a1014 n1015 c1016), (7, .slice a42 n43 c44), (8, .int .i64 v801), (10, .slice a979 n980 c981), (12, .int .i64 v1017)]) w1025
            have hm := hr1024 x1013 v1017 hi_
            refine w_seq fun K1029 hK1029 => ?_
            refine w_seq fun K1030 hK1030 => ?_
            refine w_region ?_
            refine wl_val (g_move (v := .int .i64 v1017) rfl) rfl ?_
            refine wl_val (g_gtr (a := v1017) (b := 0) rfl rfl) rfl ?_
            refine wl_nil ?_
            refine hK1030 _ _ ?_
            refine w_condI (p := v1017 > 0) (b := (decide (v1017 > 0))) rfl decide_eq_true_iff (fun h1031 => ?_) (fun h1031 => ?_)
            · replace hm := hm.1 h1031
              refine w_skip ?_
              refine hK1029 _ _ ?_
              refine w_seq fun K1032 hK1032 => ?_
              refine w_block ?_
              refine w_region ?_
              refine wl_val (g_move (v := .slice a1014 n1015 c1016) rfl) rfl ?_
              refine wl_val (g_move (v := .slice a979 n980 c981) rfl) rfl ?_
              obtain ⟨hg1038, hm⟩ := hm
              refine wl_step rfl (q_append SL24 rfl rfl hS1027 (oS.vw hS1027.g3) hg1038 (by decide)) ?_
              rintro _ w1033 ⟨a1034, c1035, rfl, hS1037, hb1036⟩
              have hB1039 := hB1026.trans hb1036
              refine wl_val (g_assign (v := .slice a1034 (n1015 + n980) c1035) rfl) rfl ?_
              refine wl_nil ?_
              refine hK1032 _ _ ?_
              refine w_region ?_
              refine wl_val (g_move (v := .int .i64 v1017) rfl) rfl ?_
              obtain ⟨hg1040, hm⟩ := hm
              refine wl_val (g_sub (a := v1017) (b := 1) rfl rfl hg1040) rfl ?_
              refine wl_val (g_assign (v := .int .i64 (v1017 - 1)) rfl) rfl ?_
              refine wl_nil ?_
              exact ⟨((x1013 ++ r978), a1034, (n1015 + n980), c1035, (v1017 - 1)), hm.2, ⟨rfl, rfl, rfl, rfl, rfl, rfl, rfl, trivial⟩, ⟨hm.1, hB1039, hS1037⟩⟩
            · replace hm := hm.2 h1031
              refine w_exit ?_
              have hS1041 := hS1027.f3
              have hS1042 := hS1041.tail
              exact ⟨(x1013, a1014, n1015, c1016), ⟨rfl, rfl, rfl, rfl, rfl, trivial⟩, ⟨hm, hB1026, hS1042⟩⟩
          · rintro ⟨x818, a819, n820, c821⟩ b_ w1043 ⟨hm, hB1044, hS1045⟩
            show Wp _ _ _ _ (upds b_ [(0, .int .i64 p0), (1, .slice a1 n1 c1), (6, .slice a819 n820 c821), (7, .slice a42 n43 c44), (8, .int .i64 v801)]) w1043
            refine w_region ?_
            refine wl_val (g_move (v := .int .i64 v801) rfl) rfl ?_
            obtain ⟨hg1046, hm⟩ := hm
            refine wl_val (g_add (a := v801) (b := 1) rfl rfl hg1046) rfl ?_
            refine wl_val (g_assign (v := .int .i64 (v801 + 1)) rfl) rfl ?_
            refine wl_nil ?_
            exact ⟨(x818, a819, n820, c821, (v801 + 1)), hm.2, ⟨rfl, rfl, rfl, rfl, rfl, trivial⟩, ⟨hm.1, hB1044, hS1045⟩⟩
        · replace hm := hm.2 h817
          refine w_exit ?_
          have hS1047 := hS813.f1
          have hS1048 := hS1047.tail
          have hS1049 := hS1048.f1
          have hS1050 := hS1049.tail
          exact ⟨(x797, a798, n799, c800), ⟨rfl, trivial⟩, ⟨hm, hB812, hS1050⟩⟩
      · rintro ⟨x791, a792, n793, c794⟩ b_ w1051 ⟨hm, hB1052, hS1053⟩
        show Wp _ _ _ _ (upds b_ [(6, .slice a792 n793 c794)]) w1051
        refine w_seq fun K1054 hK1054 => ?_
        refine w_region ?_
        refine wl_val (g_move (v := .slice a792 n793 c794) rfl) rfl ?_
        refine wl_val (g_assign (v := .slice a792 n793 c794) rfl) rfl ?_
        refine wl_val (g_assign (v := .bool true) rfl) rfl ?_
        refine wl_nil ?_
        refine hK1054 _ _ ?_
        refine w_ret ?_
        repeat first | with_reducible refine q_then ?_ | with_reducible refine q_block ?_
        exact ret2 rfl (by decide) (by decide) ⟨_, _, _, _, _, hm, rfl, toExt hB1052, hS1053⟩
  · have hc17n := b_T hc17
    replace hm := hm.2 (fun hx => hx ((i_not Iff.rfl).mp hc17n))
    refine wl_skipF (gv_F (gv_some rfl rfl rfl) hc17n) ?_
    refine wl_skipF (gv_F (gv_some rfl rfl rfl) hc17n) ?_
    refine wl_skipF (gv_F (gv_some rfl rfl rfl) hc17n) ?_
    refine wl_skipF (gv_F (gv_some rfl rfl rfl) hc17n) ?_
    refine wl_skipF (gv_F (gv_some rfl rfl rfl) hc17n) ?_
    refine wl_val (g_pickT (b := (!r14)) rfl hc17n rfl) rfl ?_
    refine wl_nil ?_
    refine hK10 _ _ ?_
    refine w_cond (b := true) rfl (fun _ => ?_) (fun h => by cases h)
    refine w_seq fun K1056 hK1056 => ?_
    refine w_region ?_
    refine wl_val (g_move (v := .slice a4 0 0) rfl) rfl ?_
    refine wl_val (g_assign (v := .slice a4 0 0) rfl) rfl ?_
    refine wl_val (g_assign (v := .bool false) rfl) rfl ?_
    refine wl_nil ?_
    refine hK1056 _ _ ?_
    refine w_ret ?_
    repeat first | with_reducible refine q_then ?_ | with_reducible refine q_block ?_
    exact ret2 rfl (by decide) (by decide) ⟨_, _, _, _, _, hm, rfl, toExt hB15, hS16⟩

theorem m_impl_FullTurn_fn {w : World}  {Q : (List Cross) → Bool → Prop} (p0 : Int) (p1 : Int) (p2 : Int) (p3 : Bool) (hm : m_impl_FullTurn p0 p1 p2 p3 Q) :
    Fn Try.prog 22 #[.int .i64 p0, .int .i64 p1, .int .i64 p2, .bool p3] w (fun v w' => ∃ (r0 : List Cross) (a0 : Option Addr) (n0 c0 : Nat) (r1 : Bool), Q r0 r1 ∧ v = .tuple #[.slice a0 n0 c0, .bool r1] ∧ Ext w w' ∧ Sep w' w.heap.size [oS 56 a0 n0 c0 r0]) := by
  unfold m_impl_FullTurn at hm
  have hB0 := Below.refl w.heap.size w
  have hS0 : Sep w w.heap.size [] := Sep.nil (Nat.le_refl _)
  refine fn_of_wp Try.func22 rfl (by kernel_rfl) (Nat.le_of_ble_eq_true rfl) ?_
  refine w_seq fun K1 hK1 => ?_
  refine w_region ?_
  refine wl_val (g_assign (v := .slice none 0 0) rfl) rfl ?_
  refine wl_val (g_assign (v := .bool false) rfl) rfl ?_
  refine wl_nil ?_
  refine hK1 _ _ ?_
  refine w_seq fun K2 hK2 => ?_
  refine w_seq fun K3 hK3 => ?_
  refine w_region ?_
  refine wl_val (g_move (v := .int .i64 p0) rfl) rfl ?_
  refine wl_step rfl (g_call (vs := #[.int .i64 p0, .int .i64 2, .int .i64 7]) CF54 (args3 rfl rfl rfl) (m_impl_within_fn p0 2 7 hm)) ?_
  rintro _ w4 ⟨r7, hm, rfl, hE5⟩
  have hB8 := hB0.trans (Ext.stp hE5 hS0.base)
  have hS9 := hS0.ext hE5
  refine wl_val (g_not (a := r7) rfl) rfl ?_
  refine wl_val (g_move (v := .bool (!r7)) rfl) rfl ?_
  refine wl_guard (c := (!r7) = false) (val := .int .i64 p1) (b := ((!r7) == false)) (gv_some rfl rfl rfl) beq_iff_eq (fun hc10 => ?_) ?_
  · have hq0 : ¬ (¬ (r7 = true)) := (i_neg (i_not Iff.rfl) hc10)
    exact g_move (v := .int .i64 p1) rfl
  refine wl_guard (c := (!r7) = false) (val := .bool (decide (p1 < 0))) (b := ((!r7) == false)) (gv_some rfl rfl rfl) beq_iff_eq (fun hc11 => ?_) ?_
  · have hq0 : ¬ (¬ (r7 = true)) := (i_neg (i_not Iff.rfl) hc11)
    exact g_lss (a := p1) (b := 0) (if_pos hc11) rfl
  refine wl_val (g_pick_or (b := (!r7)) (q := (decide (p1 < 0))) rfl rfl) rfl ?_
  refine wl_val (g_move (v := .bool ((!r7) || (decide (p1 < 0)))) rfl) rfl ?_
  refine wl_guard (c := ((!r7) || (decide (p1 < 0))) = false) (val := .int .i64 p1) (b := (((!r7) || (decide (p1 < 0))) == false)) (gv_some rfl rfl rfl) beq_iff_eq (fun hc12 => ?_) ?_
  · have hq1 : ¬ (((¬ (r7 = true)) ∨ (p1 < 0))) := (i_neg (i_or (i_not Iff.rfl) decide_eq_true_iff) hc12)
    exact g_move (v := .int .i64 p1) rfl
  refine wl_guard (c := ((!r7) || (decide (p1 < 0))) = false) (val := .int .i64 p2) (b := (((!r7) || (decide (p1 < 0))) == false)) (gv_some rfl rfl rfl) beq_iff_eq (fun hc13 => ?_) ?_
  · have hq1 : ¬ (((¬ (r7 = true)) ∨ (p1 < 0))) := (i_neg (i_or (i_not Iff.rfl) decide_eq_true_iff) hc13)
    exact g_move (v := .int .i64 p2) rfl
  refine wl_guard (c := ((!r7) || (decide (p1 < 0))) = false) (val := .bool (decide (p1 ≥ p2))) (b := (((!r7) || (decide (p1 < 0))) == false)) (gv_some rfl rfl rfl) beq_iff_eq (fun hc14 => ?_) ?_
  · have hq1 : ¬ (((¬ (r7 = true)) ∨ (p1 < 0))) := (i_neg (i_or (i_not Iff.rfl) decide_eq_true_iff) hc14)
    exact g_geq (a := p1) (b := p2) (if_pos hc14) (if_pos hc14)
  refine wl_val (g_pick_or (b := ((!r7) || (decide (p1 < 0)))) (q := (decide (p1 ≥ p2))) rfl rfl) rfl ?_
  refine wl_val (g_move (v := .bool (((!r7) || (decide (p1 < 0))) || (decide (p1 ≥ p2)))) rfl) rfl ?_
  refine wl_guard (c := (((!r7) || (decide (p1 < 0))) || (decide (p1 ≥ p2))) = false) (val := .int .i64 p2) (b := ((((!r7) || (decide (p1 < 0))) || (decide (p1 ≥ p2))) == false)) (gv_some rfl rfl rfl) beq_iff_eq (fun hc15 => ?_) ?_
  · have hq2 : ¬ (((((¬ (r7 = true)) ∨ (p1 < 0))) ∨ (p1 ≥ p2))) := (i_neg (i_or (i_or (i_not Iff.rfl) decide_eq_true_iff) decide_eq_true_iff) hc15)
    exact g_move (v := .int .i64 p2) rfl
  refine wl_guard (c := (((!r7) || (decide (p1 < 0))) || (decide (p1 ≥ p2))) = false) (val := .int .i64 p0) (b := ((((!r7) || (decide (p1 < 0))) || (decide (p1 ≥ p2))) == false)) (gv_some rfl rfl rfl) beq_iff_eq (fun hc16 => ?_) ?_
  · have hq2 : ¬ (((((¬ (r7 = true)) ∨ (p1 < 0))) ∨ (p1 ≥ p2))) := (i_neg (i_or (i_or (i_not Iff.rfl) decide_eq_true_iff) decide_eq_true_iff) hc16)
    exact g_move (v := .int .i64 p0) rfl
  refine wl_guard (c := (((!r7) || (decide (p1 < 0))) || (decide (p1 ≥ p2))) = false) (val := .bool (decide (p2 ≥ p0))) (b := ((((!r7) || (decide (p1 < 0))) || (decide (p1 ≥ p2))) == false)) (gv_some rfl rfl rfl) beq_iff_eq (fun hc17 => ?_) ?_
  · have hq2 : ¬ (((((¬ (r7 = true)) ∨ (p1 < 0))) ∨ (p1 ≥ p2))) := (i_neg (i_or (i_or (i_not Iff.rfl) decide_eq_true_iff) decide_eq_true_iff) hc17)
    exact g_geq (a := p2) (b := p0) (if_pos hc17) (if_pos hc17)
  refine wl_val (g_pick_or (b := (((!r7) || (decide (p1 < 0))) || (decide (p1 ≥ p2)))) (q := (decide (p2 ≥ p0))) rfl rfl) rfl ?_
  refine wl_nil ?_
  refine hK3 _ _ ?_
  refine w_condI (p := ((((((¬ (r7 = true)) ∨ (p1 < 0))) ∨ (p1 ≥ p2))) ∨ (p2 ≥ p0))) (b := ((((!r7) || (decide (p1 < 0))) || (decide (p1 ≥ p2))) || (decide (p2 ≥ p0)))) rfl (i_or (i_or (i_or (i_not Iff.rfl) decide_eq_true_iff) decide_eq_true_iff) decide_eq_true_iff) (fun h18 => ?_) (fun h18 => ?_)
  · replace hm := hm.1 h18
    refine w_seq fun K19 hK19 => ?_
    refine w_region ?_
    refine wl_val (g_assign (v := .slice none 0 0) rfl) rfl ?_
    refine wl_val (g_assign (v := .bool false) rfl) rfl ?_
    refine wl_nil ?_
    refine hK19 _ _ ?_
    refine w_ret ?_
    have hS20 := hS9.nilS (α := Cross) (E := 56)
    repeat first | with_reducible refine q_then ?_ | with_reducible refine q_block ?_
    exact ret2 rfl (by decide) (by decide) ⟨_, _, _, _, _, hm, rfl, toExt hB8, hS20⟩
  · replace hm := hm.2 h18
    refine w_skip ?_
    refine hK2 _ _ ?_
    refine w_seq fun K22 hK22 => ?_
    refine w_region ?_
    refine wl_step rfl (q_lit0 (α := Cross) rfl SL24 hS9) ?_
    rintro _ w23 ⟨a24, rfl, hS26, hE25⟩
    have hB28 := hB8.trans (Ext.stp hE25 hS9.base)
    refine wl_val (g_assign (v := .slice a24 0 0) rfl) rfl ?_
    refine wl_nil ?_
    refine hK22 _ _ ?_
    refine w_cut (σ := List Cross × Option Addr × Nat × Nat) (fun ⟨x93, a94, n95, c96⟩ => [(1, .int .i64 p1), (2, .int .i64 p2), (3, .bool p3), (10, .slice a94 n95 c96)]) (fun ⟨x93, a94, n95, c96⟩ w' => m_impl_FullTurn_K1 p1 p2 p3 Q x93 ∧ Below w.heap.size w w' ∧ Sep w' w.heap.size [oS 56 a94 n95 c96 (x93 : List Cross)]) ?_ ?_
    · refine w_seq fun K98 hK98 => ?_
      refine w_region ?_
      refine wl_val (g_move (v := .int .i64 p2) rfl) rfl ?_
      obtain ⟨hg99, hm⟩ := hm
      refine wl_val (g_sub (a := p2) (b := 1) rfl rfl hg99) rfl ?_
      refine wl_val (g_assign (v := .int .i64 (p2 - 1)) rfl) rfl ?_
      refine wl_nil ?_
      refine hK98 _ _ ?_
      refine w_block ?_
      obtain ⟨I105, μ106, h0107, hr108⟩ := hm
      refine w_for (σ := List Cross × Option Addr × Nat × Nat × Int) (fun ⟨x100, a101, n102, c103, v104⟩ => [(1, .int .i64 p1), (2, .int .i64 p2), (3, .bool p3), (10, .slice a101 n102 c103), (11, .int .i64 v104)]) (fun ⟨x100, a101, n102, c103, v104⟩ w' => I105 x100 v104 ∧ Below w.heap.size w w' ∧ Sep w' w.heap.size [oS 56 a101 n102 c103 (x100 : List Cross)]) (fun ⟨x100, a101, n102, c103, v104⟩ => μ106 x100 v104) ([], a24, 0, 0, (p2 - 1)) ⟨rfl, rfl, rfl, rfl, rfl, trivial⟩ ⟨h0107, hB28, hS26⟩ ?_
      rintro ⟨x100, a101, n102, c103, v104⟩ b_ w109 ⟨hi_, hB110, hS111⟩
      show Wp _ _ _ _ (upds b_ [(1, .int .i64 p1), (2, .int .i64 p2), (3, .bool p3), (10, .slice a101 n102 c103), (11, .int .i64 v104)]) w109
      have hm := hr108 x100 v104 hi_
      refine w_seq fun K113 hK113 => ?_
      refine w_seq fun K114 hK114 => ?_
      refine w_region ?_
      refine wl_val (g_move (v := .int .i64 v104) rfl) rfl ?_
      refine wl_val (g_move (v := .int .i64 p1) rfl) rfl ?_
      refine wl_val (g_gtr (a := v104) (b := p1) rfl rfl) rfl ?_
      refine wl_nil ?_
      refine hK114 _ _ ?_
      refine w_condI (p := v104 > p1) (b := (decide (v104 > p1))) rfl decide_eq_true_iff (fun h115 => ?_) (fun h115 => ?_)
      · replace hm := hm.1 h115
        refine w_skip ?_
        refine hK113 _ _ ?_
        refine w_seq fun K116 hK116 => ?_
        refine w_block ?_
        refine w_region ?_
        refine wl_val (g_move (v := .slice a101 n102 c103) rfl) rfl ?_
        refine wl_val (g_move (v := .int .i64 v104) rfl) rfl ?_
        refine wl_val (g_build (v := .agg #[.int .i64 v104, .bool false]) (parts1 rfl) (BD56_0 v104)) rfl ?_
        refine wl_step rfl (q_lit1 (y := ((v104, false) : Cross)) SL24 rfl rfl (by decide) hS111) ?_
        rintro _ w117 ⟨a118, rfl, hS120, hE119⟩
        have hB122 := hB110.trans (Ext.stp hE119 hS111.base)
        have hS128 := hS120.f1
        obtain ⟨hg129, hm⟩ := hm
        refine wl_step rfl (q_append SL24 rfl rfl hS128 (oS.vw hS128.g1) hg129 (by decide)) ?_
        rintro _ w123 ⟨a124, c125, rfl, hS127, hb126⟩
        have hB130 := hB122.trans hb126
        refine wl_val (g_assign (v := .slice a124 (n102 + 1) c125) rfl) rfl ?_
        refine wl_nil ?_
        refine hK116 _ _ ?_
        refine w_region ?_
        refine wl_val (g_move (v := .int .i64 v104) rfl) rfl ?_
        obtain ⟨hg131, hm⟩ := hm
        refine wl_val (g_sub (a := v104) (b := 1) rfl rfl hg131) rfl ?_
        refine wl_val (g_assign (v := .int .i64 (v104 - 1)) rfl) rfl ?_
        refine wl_nil ?_
        have hS132 := hS127.f1
        have hS133 := hS132.tail
        exact ⟨((x100 ++ ([(v104, false)])), a124, (n102 + 1), c125, (v104 - 1)), hm.2, ⟨rfl, rfl, rfl, rfl, rfl, trivial⟩, ⟨hm.1, hB130, hS133⟩⟩
      · replace hm := hm.2 h115
        refine w_exit ?_
        exact ⟨(x100, a101, n102, c103), ⟨rfl, rfl, rfl, rfl, trivial⟩, ⟨hm, hB110, hS111⟩⟩
    · rintro ⟨x93, a94, n95, c96⟩ b_ w134 ⟨hm, hB135, hS136⟩
      show Wp _ _ _ _ (upds b_ [(1, .int .i64 p1), (2, .int .i64 p2), (3, .bool p3), (10, .slice a94 n95 c96)]) w134
      refine w_seq fun K137 hK137 => ?_
      refine w_region ?_
      refine wl_val (g_move (v := .slice a94 n95 c96) rfl) rfl ?_
      refine wl_val (g_move (v := .int .i64 p1) rfl) rfl ?_
      refine wl_val (g_move (v := .bool p3) rfl) rfl ?_
      refine wl_val (g_build (v := .agg #[.int .i64 p1, .bool p3]) (parts2 rfl rfl) (BD56_01 p1 p3)) rfl ?_
      refine wl_val (g_move (v := .int .i64 p1) rfl) rfl ?_
      refine wl_val (g_move (v := .bool p3) rfl) rfl ?_
      refine wl_val (g_build (v := .agg #[.int .i64 p1, .bool p3]) (parts2 rfl rfl) (BD56_01 p1 p3)) rfl ?_
      refine wl_step rfl (q_lit2 (y := ((p1, p3) : Cross)) (y' := ((p1, p3) : Cross)) SL24 rfl rfl rfl rfl (by decide) hS136) ?_
      rintro _ w138 ⟨a139, rfl, hS141, hE140⟩
      have hB143 := hB135.trans (Ext.stp hE140 hS136.base)
      have hS149 := hS141.f1
      obtain ⟨hg150, hm⟩ := hm
      refine wl_step rfl (q_append SL24 rfl rfl hS149 (oS.vw hS149.g1) hg150 (by decide)) ?_
      rintro _ w144 ⟨a145, c146, rfl, hS148, hb147⟩
      have hB151 := hB143.trans hb147
      refine wl_val (g_assign (v := .slice a145 (n95 + 2) c146) rfl) rfl ?_
      refine wl_nil ?_
      refine hK137 _ _ ?_
      refine w_cut (σ := List Cross × Option Addr × Nat × Nat) (fun ⟨x220, a221, n222, c223⟩ => [(10, .slice a221 n222 c223)]) (fun ⟨x220, a221, n222, c223⟩ w' => m_impl_FullTurn_K0 Q x220 ∧ Below w.heap.size w w' ∧ Sep w' w.heap.size [oS 56 a221 n222 c223 (x220 : List Cross)]) ?_ ?_
      · refine w_seq fun K225 hK225 => ?_
        refine w_region ?_
        refine wl_val (g_move (v := .int .i64 p1) rfl) rfl ?_
        obtain ⟨hg226, hm⟩ := hm
        refine wl_val (g_add (a := p1) (b := 1) rfl rfl hg226) rfl ?_
        refine wl_val (g_assign (v := .int .i64 (p1 + 1)) rfl) rfl ?_
        refine wl_nil ?_
        refine hK225 _ _ ?_
        refine w_block ?_
        have hS232 := hS148.f1
        have hS233 := hS232.tail
        obtain ⟨I234, μ235, h0236, hr237⟩ := hm
        refine w_for (σ := List Cross × Option Addr × Nat × Nat × Int) (fun ⟨x227, a228, n229, c230, v231⟩ => [(2, .int .i64 p2), (10, .slice a228 n229 c230), (12, .int .i64 v231)]) (fun ⟨x227, a228, n229, c230, v231⟩ w' => I234 x227 v231 ∧ Below w.heap.size w w' ∧ Sep w' w.heap.size [oS 56 a228 n229 c230 (x227 : List Cross)]) (fun ⟨x227, a228, n229, c230, v231⟩ => μ235 x227 v231) ((x93 ++ ([(p1, p3), (p1, p3)])), a145, (n95 + 2), c146, (p1 + 1)) ⟨rfl, rfl, rfl, trivial⟩ ⟨h0236, hB151, hS233⟩ ?_
        rintro ⟨x227, a228, n229, c230, v231⟩ b_ w238 ⟨hi_, hB239, hS240⟩
        show Wp _ _ _ _ (upds b_ [(2, .int .i64 p2), (10, .slice a228 n229 c230), (12, .int .i64 v231)]) w238
        have hm := hr237 x227 v231 hi_
        refine w_seq fun K242 hK242 => ?_
        refine w_seq fun K243 hK243 => ?_
        refine w_region ?_
        refine wl_val (g_move (v := .int .i64 v231) rfl) rfl ?_
        refine wl_val (g_move (v := .int .i64 p2) rfl) rfl ?_
        refine wl_val (g_lss (a := v231) (b := p2) rfl rfl) rfl ?_
        refine wl_nil ?_
        refine hK243 _ _ ?_
        refine w_condI (p := v231 < p2) (b := (decide (v231 < p2))) rfl decide_eq_true_iff (fun h244 => ?_) (fun h244 => ?_)
        · replace hm := hm.1 h244
          refine w_skip ?_
          refine hK242 _ _ ?_
          refine w_seq fun K245 hK245 => ?_
          refine w_block ?_
          refine w_region ?_
          refine wl_val (g_move (v := .slice a228 n229 c230) rfl) rfl ?_
          refine wl_val (g_move (v := .int .i64 v231) rfl) rfl ?_
          refine wl_val (g_build (v := .agg #[.int .i64 v231, .bool true]) (parts2 rfl rfl) (BD56_01 v231 true)) rfl ?_
          refine wl_step rfl (q_lit1 (y := ((v231, true) : Cross)) SL24 rfl rfl (by decide) hS240) ?_
          rintro _ w246 ⟨a247, rfl, hS249, hE248⟩
          have hB251 := hB239.trans (Ext.stp hE248 hS240.base)
          have hS257 := hS249.f1
          obtain ⟨hg258, hm⟩ := hm
          refine wl_step rfl (q_append SL24 rfl rfl hS257 (oS.vw hS257.g1) hg258 (by decide)) ?_
          rintro _ w252 ⟨a253, c254, rfl, hS256, hb255⟩
          have hB259 := hB251.trans hb255
          refine wl_val (g_assign (v := .slice a253 (n229 + 1) c254) rfl) rfl ?_
          refine wl_nil ?_
          refine hK245 _ _ ?_
          refine w_region ?_
          refine wl_val (g_move (v := .int .i64 v231) rfl) rfl ?_
          obtain ⟨hg260, hm⟩ := hm
          refine wl_val (g_add (a := v231) (b := 1) rfl rfl hg260) rfl ?_
          refine wl_val (g_assign (v := .int .i64 (v231 + 1)) rfl) rfl ?_
          refine wl_nil ?_
          have hS261 := hS256.f1
          have hS262 := hS261.tail
          exact ⟨((x227 ++ ([(v231, true)])), a253, (n229 + 1), c254, (v231 + 1)), hm.2, ⟨rfl, rfl, rfl, trivial⟩, ⟨hm.1, hB259, hS262⟩⟩
        · replace hm := hm.2 h244
          refine w_exit ?_
          exact ⟨(x227, a228, n229, c230), ⟨rfl, trivial⟩, ⟨hm, hB239, hS240⟩⟩
      · rintro ⟨x220, a221, n222, c223⟩ b_ w263 ⟨hm, hB264, hS265⟩
        show Wp _ _ _ _ (upds b_ [(10, .slice a221 n222 c223)]) w263
        refine w_seq fun K266 hK266 => ?_
        refine w_region ?_
        refine wl_val (g_move (v := .slice a221 n222 c223) rfl) rfl ?_
        refine wl_val (g_assign (v := .slice a221 n222 c223) rfl) rfl ?_
        refine wl_val (g_assign (v := .bool true) rfl) rfl ?_
        refine wl_nil ?_
        refine hK266 _ _ ?_
        refine w_ret ?_
        repeat first | with_reducible refine q_then ?_ | with_reducible refine q_block ?_
        exact ret2 rfl (by decide) (by decide) ⟨_, _, _, _, _, hm, rfl, toExt hB264, hS265⟩

theorem m_impl_UnwindAll_fn {w : World} {a1 : Option Addr} {n1 c1 : Nat} {p1 : List Cross} {Q : (List Cross) → Bool → Prop} (p0 : Int) (hp1 : Vw w.heap.size w a1 n1 c1 p1) (hm : m_impl_UnwindAll p0 p1 Q) :
    Fn Try.prog 48 #[.int .i64 p0, .slice a1 n1 c1] w (fun v w' => ∃ (r0 : List Cross) (a0 : Option Addr) (n0 c0 : Nat) (r1 : Bool), Q r0 r1 ∧ v = .tuple #[.slice a0 n0 c0, .bool r1] ∧ Ext w w' ∧ Sep w' w.heap.size [oS 56 a0 n0 c0 r0]) := by
  unfold m_impl_UnwindAll at hm
  have hB0 := Below.refl w.heap.size w
  have hS0 : Sep w w.heap.size [] := Sep.nil (Nat.le_refl _)
  refine fn_of_wp Try.func48 rfl (by kernel_rfl) (Nat.le_of_ble_eq_true rfl) ?_
  refine w_seq fun K1 hK1 => ?_
  refine w_region ?_
  refine wl_val (g_assign (v := .slice none 0 0) rfl) rfl ?_
  refine wl_val (g_assign (v := .bool false) rfl) rfl ?_
  refine wl_nil ?_
  refine hK1 _ _ ?_
  refine w_seq fun K2 hK2 => ?_
  refine w_seq fun K3 hK3 => ?_
  refine w_region ?_
  refine wl_val (g_move (v := .int .i64 p0) rfl) rfl ?_
  refine wl_val (g_move (v := .slice a1 n1 c1) rfl) rfl ?_
  refine wl_step rfl (g_call (vs := #[.int .i64 p0, .slice a1 n1 c1]) CF57 (args2 rfl rfl) (m_impl_CrossesOk_fn p0 ((hp1.bel hB0).up hS0) hm)) ?_
  rintro _ w4 ⟨r7, hm, rfl, hE5⟩
  have hB8 := hB0.trans (Ext.stp hE5 hS0.base)
  have hS9 := hS0.ext hE5
  refine wl_val (g_not (a := r7) rfl) rfl ?_
  refine wl_val (g_move (v := .bool (!r7)) rfl) rfl ?_
  refine wl_guard (c := (!r7) = false) (val := .int .i64 p0) (b := ((!r7) == false)) (gv_some rfl rfl rfl) beq_iff_eq (fun hc10 => ?_) ?_
  · have hq0 : ¬ (¬ (r7 = true)) := (i_neg (i_not Iff.rfl) hc10)
    exact g_move (v := .int .i64 p0) rfl
  refine wl_guard (c := (!r7) = false) (val := .slice a1 n1 c1) (b := ((!r7) == false)) (gv_some rfl rfl rfl) beq_iff_eq (fun hc11 => ?_) ?_
  · have hq0 : ¬ (¬ (r7 = true)) := (i_neg (i_not Iff.rfl) hc11)
    exact g_move (v := .slice a1 n1 c1) rfl
  obtain ⟨r13, hk14, hm⟩ := hm
  refine wl_guardE (X := Ext) (c := (!r7) = false) (val := .bool r13) (Ext.refl _) (b := ((!r7) == false)) (gv_some rfl rfl rfl) beq_iff_eq (fun hc12 => ?_) (fun w15 hE16 => ?_)
  · have hq0 : ¬ (¬ (r7 = true)) := (i_neg (i_not Iff.rfl) hc12)
    exact (g_call (vs := #[.int .i64 p0, .slice a1 n1 c1]) CF64 (args2 (if_pos hc12) (if_pos hc12)) ((m_impl_isHome_fn p0 ((hp1.bel hB8).up hS9) (hk14 hq0)).mono fun _ _ ⟨_, h1, h2, h3⟩ => ⟨by rw [h2, h1], h3⟩))
  have hB17 := hB8.trans (Ext.stp hE16 hS9.base)
  have hS18 := hS9.ext hE16
  refine wl_guard (c := (!r7) = false) (val := .bool (!r13)) (b := ((!r7) == false)) (gv_some rfl rfl rfl) beq_iff_eq (fun hc19 => ?_) ?_
  · have hq0 : ¬ (¬ (r7 = true)) := (i_neg (i_not Iff.rfl) hc19)
    exact g_not (a := r13) (if_pos hc19)
  refine wl_val (g_pick_or (b := (!r7)) (q := (!r13)) rfl rfl) rfl ?_
  refine wl_nil ?_
  refine hK3 _ _ ?_
  refine w_condI (p := ((¬ (r7 = true)) ∨ (¬ (r13 = true)))) (b := ((!r7) || (!r13))) rfl (i_or (i_not Iff.rfl) (i_not Iff.rfl)) (fun h20 => ?_) (fun h20 => ?_)
  · replace hm := hm.1 h20
    refine w_seq fun K21 hK21 => ?_
    refine w_region ?_
    refine wl_val (g_assign (v := .slice none 0 0) rfl) rfl ?_
    refine wl_val (g_assign (v := .bool false) rfl) rfl ?_
    refine wl_nil ?_
    refine hK21 _ _ ?_
    refine w_ret ?_
    have hS22 := hS18.nilS (α := Cross) (E := 56)
    repeat first | with_reducible refine q_then ?_ | with_reducible refine q_block ?_
    exact ret2 rfl (by decide) (by decide) ⟨_, _, _, _, _, hm, rfl, toExt hB17, hS22⟩
  · replace hm := hm.2 h20
    refine w_skip ?_
    refine hK2 _ _ ?_
    refine w_seq fun K24 hK24 => ?_
    refine w_region ?_
    refine wl_val (g_move (v := .int .i64 p0) rfl) rfl ?_
    refine wl_val (g_move (v := .slice a1 n1 c1) rfl) rfl ?_
    refine wl_step rfl (g_call (vs := #[.int .i64 p0, .slice a1 n1 c1]) CF58 (args2 rfl rfl) (m_impl_twists_fn p0 ((hp1.bel hB17).up hS18) hm)) ?_
    rintro _ w25 ⟨r28, a29, n30, c31, y32, hm, he33, rfl, hE26, hN27⟩
    have hS37 := hS18.call2 hE26 hN27
    have hB38 := hB17.trans (Ext.stp hE26 hS18.base)
    refine wl_step rfl (q_lit0 (α := Cross) rfl SL24 hS37) ?_
    rintro _ w39 ⟨a40, rfl, hS42, hE41⟩
    have hB44 := hB38.trans (Ext.stp hE41 hS37.base)
    refine wl_val (g_assign (v := .slice a29 n30 c31) rfl) rfl ?_
    refine wl_val (g_assign (v := .slice a40 0 0) rfl) rfl ?_
    refine wl_nil ?_
    refine hK24 _ _ ?_
    refine w_cut (σ := List Cross × Option Addr × Nat × Nat) (fun ⟨x778, a779, n780, c781⟩ => [(7, .slice a779 n780 c781)]) (fun ⟨x778, a779, n780, c781⟩ w' => m_impl_UnwindAll_K1 Q x778 ∧ Below w.heap.size w w' ∧ Sep w' w.heap.size [oS 56 a779 n780 c781 (x778 : List Cross)]) ?_ ?_
    · refine w_seq fun K783 hK783 => ?_
      refine w_region ?_
      refine wl_val (g_move (v := .int .i64 p0) rfl) rfl ?_
      refine wl_val (g_move (v := .slice a1 n1 c1) rfl) rfl ?_
      refine wl_step rfl (g_call (vs := #[.int .i64 p0, .slice a1 n1 c1]) CF34 (args2 rfl rfl) (m_impl_WoundPairs_fn p0 ((hp1.bel hB44).up hS42) hm)) ?_
      rintro _ w784 ⟨r787, a788, n789, c790, y791, hm, he792, rfl, hE785, hN786⟩
      have hS796 := hS42.call2 hE785 hN786
      have hB797 := hB44.trans (Ext.stp hE785 hS42.base)
      refine wl_val (q_len SL37 rfl (Tv.len (oT.vw hS796.g0 hS796.g1 he792))) rfl ?_
      refine wl_val (g_move (v := .int .i64 0) rfl) rfl ?_
      refine wl_nil ?_
      refine hK783 _ _ ?_
      refine w_block ?_
      have hS803 := hS796.f1
      have hS804 := hS803.f1
      have hS805 := hS804.f2
      have hS806 := hS805.f4
      have hS807 := hS806.f4
      obtain ⟨I808, μ809, h0810, hr811⟩ := hm
      refine w_for (σ := List Cross × Option Addr × Nat × Nat × Int) (fun ⟨x798, a799, n800, c801, v802⟩ => [(0, .int .i64 p0), (6, .slice a29 n30 c31), (7, .slice a799 n800 c801), (29, .slice a788 n789 c790), (30, .int .i64 (r787.length : Int)), (31, .int .i64 v802)]) (fun ⟨x798, a799, n800, c801, v802⟩ w' => I808 x798 v802 ∧ Below w.heap.size w w' ∧ Sep w' w.heap.size [oS 39 a29 n30 c31 (y32 : List (Hd Int)), oT 3 (y32 : List (Hd Int)), oS 56 a799 n800 c801 (x798 : List Cross), oS 39 a788 n789 c790 (y791 : List (Hd Int)), oT 3 (y791 : List (Hd Int))]) (fun ⟨x798, a799, n800, c801, v802⟩ => μ809 x798 v802) ([], a40, 0, 0, 0) ⟨rfl, rfl, rfl, rfl, rfl, rfl, trivial⟩ ⟨h0810, hB797, hS807⟩ ?_
      rintro ⟨x798, a799, n800, c801, v802⟩ b_ w812 ⟨hi_, hB813, hS814⟩
      show Wp _ _ _ _ (upds b_ [(0, .int .i64 p0), (6, .slice a29 n30 c31), (7, .slice a799 n800 c801), (29, .slice a788 n789 c790), (30, .int .i64 (r787.length : Int)), (31, .int .i64 v802)]) w812
      have hm := hr811 x798 v802 hi_
      refine w_seq fun K816 hK816 => ?_
      refine w_region ?_
      refine wl_val (g_lss (a := v802) (b := (r787.length : Int)) rfl rfl) rfl ?_
      refine wl_nil ?_
      refine hK816 _ _ ?_
      refine w_seq fun K817 hK817 => ?_
      refine w_condI (p := v802 < (r787.length : Int)) (b := (decide (v802 < (r787.length : Int)))) rfl decide_eq_true_iff (fun h818 => ?_) (fun h818 => ?_)
      · replace hm := hm.1 h818
        refine w_skip ?_
        refine hK817 _ _ ?_
        refine w_cut (σ := List Cross × Option Addr × Nat × Nat) (fun ⟨x819, a820, n821, c822⟩ => [(0, .int .i64 p0), (6, .slice a29 n30 c31), (7, .slice a820 n821 c822), (29, .slice a788 n789 c790), (30, .int .i64 (r787.length : Int)), (31, .int .i64 v802)]) (fun ⟨x819, a820, n821, c822⟩ w' => m_impl_UnwindAll_K0 v802 (fun x798' v802' => I808 x798' v802' ∧ μ809 x798' v802' < μ809 x798 v802) x819 ∧ Below w.heap.size w w' ∧ Sep w' w.heap.size [oS 39 a29 n30 c31 (y32 : List (Hd Int)), oT 3 (y32 : List (Hd Int)), oS 56 a820 n821 c822 (x819 : List Cross), oS 39 a788 n789 c790 (y791 : List (Hd Int)), oT 3 (y791 : List (Hd Int))]) ?_ ?_
        · refine w_block ?_
          refine w_seq fun K824 hK824 => ?_
          refine w_region ?_
          obtain ⟨hg825, hm⟩ := hm
          refine wl_val (q_index (i := v802) SL37 rfl rfl (Tv.o (oT.vw hS814.g3 hS814.g4 he792)) (Tv.g (oT.vw hS814.g3 hS814.g4 he792) hg825)) rfl ?_
          refine wl_val (q_load (i := v802) (v := .slice ((y791[(Int.toNat v802)]!).1) ((y791[(Int.toNat v802)]!).2.2.length) ((y791[(Int.toNat v802)]!).2.1)) ON39 (Tv.o (oT.vw hS814.g3 hS814.g4 he792)) (Tv.g (oT.vw hS814.g3 hS814.g4 he792) hg825) rfl rfl) rfl ?_
          refine wl_val (g_assign (v := .slice ((y791[(Int.toNat v802)]!).1) ((y791[(Int.toNat v802)]!).2.2.length) ((y791[(Int.toNat v802)]!).2.1)) rfl) rfl ?_
          refine wl_nil ?_
          refine hK824 _ _ ?_
          refine w_seq fun K826 hK826 => ?_
          refine w_draw (X := Ext) (Y := Ext) [] MIX (by decide +kernel) rfl Ext.refl (fun _ _ _ => Ext.trans) (fun _ _ _ => Chg.trans) (fun _ _ h => Ext.chg h _) (fun w827 hE828 => ?_)
          have hB829 := hB813.trans (Ext.stp hE828 hS814.base)
          have hS830 := hS814.ext hE828
          refine ⟨.slice a29 n30 c31, fun w831 hX832 => od_plain rfl (by have hS833 := hS830.ext hX832; have hB834 := hB829.trans (Ext.stp hX832 hS830.base); exact is_ext (g_move (v := .slice a29 n30 c31) rfl)), ?_⟩
          refine ⟨.slice ((y791[(Int.toNat v802)]!).1) ((y791[(Int.toNat v802)]!).2.2.length) ((y791[(Int.toNat v802)]!).2.1), fun w835 hX836 => od_plain rfl (by have hS837 := hS830.ext hX836; have hB838 := hB829.trans (Ext.stp hX836 hS830.base); exact is_ext (g_move (v := .slice ((y791[(Int.toNat v802)]!).1) ((y791[(Int.toNat v802)]!).2.2.length) ((y791[(Int.toNat v802)]!).2.1)) rfl)), ?_⟩
          obtain ⟨hg843, hm⟩ := hm
          refine ⟨.pointer (some ((adr ((y791[(Int.toNat v802)]!).1)).add (0 * El.m Int))), fun w839 hX840 => od_plain rfl (by have hS841 := hS830.ext hX840; have hB842 := hB829.trans (Ext.stp hX840 hS830.base); exact is_ext (q_index (i := 0) SL39 rfl rfl (Tv.row (oT.vw hS841.g3 hS841.g4 he792) hg825) hg843)), ?_⟩
          refine ⟨.int .i64 ((r787[(Int.toNat v802)]!)[0]!), fun w844 hX845 => od_plain rfl (by have hS846 := hS830.ext hX845; have hB847 := hB829.trans (Ext.stp hX845 hS830.base); exact is_ext (q_load (i := 0) (v := .int .i64 ((r787[(Int.toNat v802)]!)[0]!)) ON3 (Tv.row (oT.vw hS846.g3 hS846.g4 he792) hg825) hg843 rfl rfl)), ?_⟩
          obtain ⟨hg852, hm⟩ := hm
          refine ⟨.pointer (some ((adr a29).add ((Int.toNat ((r787[(Int.toNat v802)]!)[0]!)) * El.m (Hd Int)))), fun w848 hX849 => od_plain rfl (by have hS850 := hS830.ext hX849; have hB851 := hB829.trans (Ext.stp hX849 hS830.base); exact is_ext (q_index (i := (r787[(Int.toNat v802)]!)[0]!) SL37 rfl rfl (Tv.o (oT.vw hS850.g0 hS850.g1 he33)) (Tv.g (oT.vw hS850.g0 hS850.g1 he33) hg852))), ?_⟩
          refine ⟨.slice ((y32[(Int.toNat ((r787[(Int.toNat v802)]!)[0]!))]!).1) ((y32[(Int.toNat ((r787[(Int.toNat v802)]!)[0]!))]!).2.2.length) ((y32[(Int.toNat ((r787[(Int.toNat v802)]!)[0]!))]!).2.1), fun w853 hX854 => od_plain rfl (by have hS855 := hS830.ext hX854; have hB856 := hB829.trans (Ext.stp hX854 hS830.base); exact is_ext (q_load (i := (r787[(Int.toNat v802)]!)[0]!) (v := .slice ((y32[(Int.toNat ((r787[(Int.toNat v802)]!)[0]!))]!).1) ((y32[(Int.toNat ((r787[(Int.toNat v802)]!)[0]!))]!).2.2.length) ((y32[(Int.toNat ((r787[(Int.toNat v802)]!)[0]!))]!).2.1)) ON39 (Tv.o (oT.vw hS855.g0 hS855.g1 he33)) (Tv.g (oT.vw hS855.g0 hS855.g1 he33) hg852) rfl rfl)), ?_⟩
          refine ⟨.slice ((y791[(Int.toNat v802)]!).1) ((y791[(Int.toNat v802)]!).2.2.length) ((y791[(Int.toNat v802)]!).2.1), fun w857 hX858 => od_plain rfl (by have hS859 := hS830.ext hX858; have hB860 := hB829.trans (Ext.stp hX858 hS830.base); exact is_ext (g_move (v := .slice ((y791[(Int.toNat v802)]!).1) ((y791[(Int.toNat v802)]!).2.2.length) ((y791[(Int.toNat v802)]!).2.1)) rfl)), ?_⟩
          obtain ⟨hg865, hm⟩ := hm
          refine ⟨.pointer (some ((adr ((y791[(Int.toNat v802)]!).1)).add (1 * El.m Int))), fun w861 hX862 => od_plain rfl (by have hS863 := hS830.ext hX862; have hB864 := hB829.trans (Ext.stp hX862 hS830.base); exact is_ext (q_index (i := 1) SL39 rfl rfl (Tv.row (oT.vw hS863.g3 hS863.g4 he792) hg825) hg865)), ?_⟩
          refine ⟨.int .i64 ((r787[(Int.toNat v802)]!)[1]!), fun w866 hX867 => od_plain rfl (by have hS868 := hS830.ext hX867; have hB869 := hB829.trans (Ext.stp hX867 hS830.base); exact is_ext (q_load (i := 1) (v := .int .i64 ((r787[(Int.toNat v802)]!)[1]!)) ON3 (Tv.row (oT.vw hS868.g3 hS868.g4 he792) hg825) hg865 rfl rfl)), ?_⟩
          obtain ⟨hg874, hm⟩ := hm
          refine ⟨.pointer (some ((adr ((y32[(Int.toNat ((r787[(Int.toNat v802)]!)[0]!))]!).1)).add ((Int.toNat ((r787[(Int.toNat v802)]!)[1]!)) * El.m Int))), fun w870 hX871 => od_plain rfl (by have hS872 := hS830.ext hX871; have hB873 := hB829.trans (Ext.stp hX871 hS830.base); exact is_ext (q_index (i := (r787[(Int.toNat v802)]!)[1]!) SL39 rfl rfl (Tv.row (oT.vw hS872.g0 hS872.g1 he33) hg852) hg874)), ?_⟩
          refine ⟨.int .i64 ((r28[(Int.toNat ((r787[(Int.toNat v802)]!)[0]!))]!)[(Int.toNat ((r787[(Int.toNat v802)]!)[1]!))]!), fun w875 hX876 => od_plain rfl (by have hS877 := hS830.ext hX876; have hB878 := hB829.trans (Ext.stp hX876 hS830.base); exact is_ext (q_load (i := (r787[(Int.toNat v802)]!)[1]!) (v := .int .i64 ((r28[(Int.toNat ((r787[(Int.toNat v802)]!)[0]!))]!)[(Int.toNat ((r787[(Int.toNat v802)]!)[1]!))]!)) ON3 (Tv.row (oT.vw hS877.g0 hS877.g1 he33) hg852) hg874 rfl rfl)), ?_⟩
          refine ⟨.int .i64 ((r28[(Int.toNat ((r787[(Int.toNat v802)]!)[0]!))]!)[(Int.toNat ((r787[(Int.toNat v802)]!)[1]!))]!), fun w879 hX880 => od_plain rfl (by have hS881 := hS830.ext hX880; have hB882 := hB829.trans (Ext.stp hX880 hS830.base); exact is_ext (g_assign (v := .int .i64 ((r28[(Int.toNat ((r787[(Int.toNat v802)]!)[0]!))]!)[(Int.toNat ((r787[(Int.toNat v802)]!)[1]!))]!)) rfl)), ?_⟩
          intro w883 hX884
          have hB885 := hB829.trans (Ext.stp hX884 hS830.base)
          have hS886 := hS830.ext hX884
          refine hK826 _ _ ?_
          refine w_seq fun K887 hK887 => ?_
          refine w_region ?_
          refine wl_val (g_move (v := .int .i64 ((r28[(Int.toNat ((r787[(Int.toNat v802)]!)[0]!))]!)[(Int.toNat ((r787[(Int.toNat v802)]!)[1]!))]!)) rfl) rfl ?_
          refine wl_step rfl (g_call (vs := #[.int .i64 ((r28[(Int.toNat ((r787[(Int.toNat v802)]!)[0]!))]!)[(Int.toNat ((r787[(Int.toNat v802)]!)[1]!))]!)]) CF63 (args1 rfl) (m_impl_size_fn ((r28[(Int.toNat ((r787[(Int.toNat v802)]!)[0]!))]!)[(Int.toNat ((r787[(Int.toNat v802)]!)[1]!))]!) hm)) ?_
          rintro _ w888 ⟨r891, hm, rfl, hE889⟩
          have hB892 := hB885.trans (Ext.stp hE889 hS886.base)
          have hS893 := hS886.ext hE889
          obtain ⟨hg894, hm⟩ := hm
          refine wl_val (g_quo (a := r891) (b := 2) rfl rfl (by decide) hg894) rfl ?_
          refine wl_val (g_move (v := .int .i64 0) rfl) rfl ?_
          refine wl_nil ?_
          refine hK887 _ _ ?_
          refine w_block ?_
          obtain ⟨I900, μ901, h0902, hr903⟩ := hm
          refine w_for (σ := List Cross × Option Addr × Nat × Nat × Int) (fun ⟨x895, a896, n897, c898, v899⟩ => [(0, .int .i64 p0), (6, .slice a29 n30 c31), (7, .slice a896 n897 c898), (9, .slice ((y791[(Int.toNat v802)]!).1) ((y791[(Int.toNat v802)]!).2.2.length) ((y791[(Int.toNat v802)]!).2.1)), (10, .int .i64 ((r28[(Int.toNat ((r787[(Int.toNat v802)]!)[0]!))]!)[(Int.toNat ((r787[(Int.toNat v802)]!)[1]!))]!)), (29, .slice a788 n789 c790), (30, .int .i64 (r787.length : Int)), (31, .int .i64 v802), (48, .int .i64 (Int.tdiv r891 2)), (49, .int .i64 v899)]) (fun ⟨x895, a896, n897, c898, v899⟩ w' => I900 x895 v899 ∧ Below w.heap.size w w' ∧ Sep w' w.heap.size [oS 39 a29 n30 c31 (y32 : List (Hd Int)), oT 3 (y32 : List (Hd Int)), oS 56 a896 n897 c898 (x895 : List Cross), oS 39 a788 n789 c790 (y791 : List (Hd Int)), oT 3 (y791 : List (Hd Int))]) (fun ⟨x895, a896, n897, c898, v899⟩ => μ901 x895 v899) (x798, a799, n800, c801, 0) ⟨rfl, rfl, rfl, rfl, rfl, rfl, rfl, rfl, rfl, rfl, trivial⟩ ⟨h0902, hB892, hS893⟩ ?_
          rintro ⟨x895, a896, n897, c898, v899⟩ b_ w904 ⟨hi_, hB905, hS906⟩
          show Wp _ _ _ _ (upds b_ [(0, .int .i64 p0), (6, .slice a29 n30 c31), (7, .slice a896 n897 c898), (9, .slice ((y791[(Int.toNat v802)]!).1) ((y791[(Int.toNat v802)]!).2.2.length) ((y791[(Int.toNat v802)]!).2.1)), (10, .int .i64 ((r28[(Int.toNat ((r787[(Int.toNat v802)]!)[0]!))]!)[(Int.toNat ((r787[(Int.toNat v802)]!)[1]!))]!)), (29, .slice a788 n789 c790), (30, .int .i64 (r787.length : Int)), (31, .int .i64 v802), (48, .int .i64 (Int.tdiv r891 2)), (49, .int .i64 v899)]) w904
          have hm := hr903 x895 v899 hi_
          refine w_seq fun K908 hK908 => ?_
          refine w_region ?_
          refine wl_val (g_lss (a := v899) (b := (Int.tdiv r891 2)) rfl rfl) rfl ?_
          refine wl_nil ?_
          refine hK908 _ _ ?_
          refine w_seq fun K909 hK909 => ?_
          refine w_condI (p := v899 < (Int.tdiv r891 2)) (b := (decide (v899 < (Int.tdiv r891 2)))) rfl decide_eq_true_iff (fun h910 => ?_) (fun h910 => ?_)
          · replace hm := hm.1 h910
            refine w_skip ?_
            refine hK909 _ _ ?_
            refine w_seq fun K911 hK911 => ?_
            refine w_block ?_
            refine w_seq fun K912 hK912 => ?_
            refine w_draw (X := Ext) (Y := Ext) [0, 0, 0, 0, 0, 0, 0, 0, 0, 1, 0, 0, 0, 0, 0] MIX (by decide +kernel) rfl Ext.refl (fun _ _ _ => Ext.trans) (fun _ _ _ => Chg.trans) (fun _ _ h => Ext.chg h _) (fun w913 hE914 => ?_)
            have hB915 := hB905.trans (Ext.stp hE914 hS906.base)
            have hS916 := hS906.ext hE914
            refine ⟨.int .i64 p0, fun w917 hX918 => od_plain rfl (by have hS919 := hS916.ext hX918; have hB920 := hB915.trans (Ext.stp hX918 hS916.base); exact is_ext (g_move (v := .int .i64 p0) rfl)), ?_⟩
            refine ⟨.slice ((y791[(Int.toNat v802)]!).1) ((y791[(Int.toNat v802)]!).2.2.length) ((y791[(Int.toNat v802)]!).2.1), fun w921 hX922 => od_plain rfl (by have hS923 := hS916.ext hX922; have hB924 := hB915.trans (Ext.stp hX922 hS916.base); exact is_ext (g_move (v := .slice ((y791[(Int.toNat v802)]!).1) ((y791[(Int.toNat v802)]!).2.2.length) ((y791[(Int.toNat v802)]!).2.1)) rfl)), ?_⟩
            obtain ⟨hg929, hm⟩ := hm
            refine ⟨.pointer (some ((adr ((y791[(Int.toNat v802)]!).1)).add (0 * El.m Int))), fun w925 hX926 => od_plain rfl (by have hS927 := hS916.ext hX926; have hB928 := hB915.trans (Ext.stp hX926 hS916.base); exact is_ext (q_index (i := 0) SL39 rfl rfl (Tv.row (oT.vw hS927.g3 hS927.g4 he792) hg825) hg929)), ?_⟩
            refine ⟨.int .i64 ((r787[(Int.toNat v802)]!)[0]!), fun w930 hX931 => od_plain rfl (by have hS932 := hS916.ext hX931; have hB933 := hB915.trans (Ext.stp hX931 hS916.base); exact is_ext (q_load (i := 0) (v := .int .i64 ((r787[(Int.toNat v802)]!)[0]!)) ON3 (Tv.row (oT.vw hS932.g3 hS932.g4 he792) hg825) hg929 rfl rfl)), ?_⟩
            refine ⟨.slice ((y791[(Int.toNat v802)]!).1) ((y791[(Int.toNat v802)]!).2.2.length) ((y791[(Int.toNat v802)]!).2.1), fun w934 hX935 => od_plain rfl (by have hS936 := hS916.ext hX935; have hB937 := hB915.trans (Ext.stp hX935 hS916.base); exact is_ext (g_move (v := .slice ((y791[(Int.toNat v802)]!).1) ((y791[(Int.toNat v802)]!).2.2.length) ((y791[(Int.toNat v802)]!).2.1)) rfl)), ?_⟩
            obtain ⟨hg942, hm⟩ := hm
            refine ⟨.pointer (some ((adr ((y791[(Int.toNat v802)]!).1)).add (1 * El.m Int))), fun w938 hX939 => od_plain rfl (by have hS940 := hS916.ext hX939; have hB941 := hB915.trans (Ext.stp hX939 hS916.base); exact is_ext (q_index (i := 1) SL39 rfl rfl (Tv.row (oT.vw hS940.g3 hS940.g4 he792) hg825) hg942)), ?_⟩
            refine ⟨.int .i64 ((r787[(Int.toNat v802)]!)[1]!), fun w943 hX944 => od_plain rfl (by have hS945 := hS916.ext hX944; have hB946 := hB915.trans (Ext.stp hX944 hS916.base); exact is_ext (q_load (i := 1) (v := .int .i64 ((r787[(Int.toNat v802)]!)[1]!)) ON3 (Tv.row (oT.vw hS945.g3 hS945.g4 he792) hg825) hg942 rfl rfl)), ?_⟩
            refine ⟨.int .i64 ((r28[(Int.toNat ((r787[(Int.toNat v802)]!)[0]!))]!)[(Int.toNat ((r787[(Int.toNat v802)]!)[1]!))]!), fun w947 hX948 => od_plain rfl (by have hS949 := hS916.ext hX948; have hB950 := hB915.trans (Ext.stp hX948 hS916.base); exact is_ext (g_move (v := .int .i64 ((r28[(Int.toNat ((r787[(Int.toNat v802)]!)[0]!))]!)[(Int.toNat ((r787[(Int.toNat v802)]!)[1]!))]!)) rfl)), ?_⟩
            refine ⟨.bool (decide ((r28[(Int.toNat ((r787[(Int.toNat v802)]!)[0]!))]!)[(Int.toNat ((r787[(Int.toNat v802)]!)[1]!))]! < 0)), fun w951 hX952 => od_plain rfl (by have hS953 := hS916.ext hX952; have hB954 := hB915.trans (Ext.stp hX952 hS916.base); exact is_ext (g_lss (a := (r28[(Int.toNat ((r787[(Int.toNat v802)]!)[0]!))]!)[(Int.toNat ((r787[(Int.toNat v802)]!)[1]!))]!) (b := 0) rfl rfl)), ?_⟩
            intro w955 hX956
            have hB957 := hB915.trans (Ext.stp hX956 hS916.base)
            have hS958 := hS916.ext hX956
            refine ⟨_, od_plain rfl (g_call (vs := #[.int .i64 p0, .int .i64 ((r787[(Int.toNat v802)]!)[0]!), .int .i64 ((r787[(Int.toNat v802)]!)[1]!), .bool (decide ((r28[(Int.toNat ((r787[(Int.toNat v802)]!)[0]!))]!)[(Int.toNat ((r787[(Int.toNat v802)]!)[1]!))]! < 0))]) CF22 (args4 rfl rfl rfl rfl) (m_impl_FullTurn_fn p0 ((r787[(Int.toNat v802)]!)[0]!) ((r787[(Int.toNat v802)]!)[1]!) (decide ((r28[(Int.toNat ((r787[(Int.toNat v802)]!)[0]!))]!)[(Int.toNat ((r787[(Int.toNat v802)]!)[1]!))]! < 0)) hm)), ?_⟩
            rintro _ w959 ⟨r962, a963, n964, c965, r967, hm, rfl, hE960, hN961⟩
            have hS968 := hS958.call1 hE960 hN961
            have hB969 := hB957.trans (Ext.stp hE960 hS958.base)
            refine ⟨.tuple #[.slice a963 n964 c965, .bool r967], fun w970 hX971 => od_plain rfl (by have hS972 := hS968.ext hX971; have hB973 := hB969.trans (Ext.stp hX971 hS968.base); exact is_ext (g_move (v := .tuple #[.slice a963 n964 c965, .bool r967]) rfl)), ?_⟩
            refine ⟨.slice a963 n964 c965, fun w974 hX975 => od_plain rfl (by have hS976 := hS968.ext hX975; have hB977 := hB969.trans (Ext.stp hX975 hS968.base); exact is_ext (g_extract (vs := #[.slice a963 n964 c965, .bool r967]) rfl rfl)), ?_⟩
            refine ⟨.bool r967, fun w978 hX979 => od_plain rfl (by have hS980 := hS968.ext hX979; have hB981 := hB969.trans (Ext.stp hX979 hS968.base); exact is_ext (g_extract (vs := #[.slice a963 n964 c965, .bool r967]) rfl rfl)), ?_⟩
            refine ⟨.slice a963 n964 c965, fun w982 hX983 => od_plain rfl (by have hS984 := hS968.ext hX983; have hB985 := hB969.trans (Ext.stp hX983 hS968.base); exact is_ext (g_assign (v := .slice a963 n964 c965) rfl)), ?_⟩
            refine ⟨.bool r967, fun w986 hX987 => od_plain rfl (by have hS988 := hS968.ext hX987; have hB989 := hB969.trans (Ext.stp hX987 hS968.base); exact is_ext (g_assign (v := .bool r967) rfl)), ?_⟩
            intro w990 hX991
            have hB992 := hB969.trans (Ext.stp hX991 hS968.base)
            have hS993 := hS968.ext hX991
            refine hK912 _ _ ?_
            refine w_region ?_
            refine wl_val (g_move (v := .slice a896 n897 c898) rfl) rfl ?_
            refine wl_val (g_move (v := .slice a963 n964 c965) rfl) rfl ?_
            have hS999 := hS993.f3
            obtain ⟨hg1000, hm⟩ := hm
            refine wl_step rfl (q_append SL24 rfl rfl hS999 (oS.vw hS999.g1) hg1000 (by decide)) ?_
            rintro _ w994 ⟨a995, c996, rfl, hS998, hb997⟩
            have hB1001 := hB992.trans hb997
            refine wl_val (g_assign (v := .slice a995 (n897 + n964) c996) rfl) rfl ?_
            refine wl_nil ?_
            refine hK911 _ _ ?_
            refine w_region ?_
            obtain ⟨hg1002, hm⟩ := hm
            refine wl_val (g_add (a := v899) (b := 1) rfl rfl hg1002) rfl ?_
            refine wl_val (g_move (v := .int .i64 (v899 + 1)) rfl) rfl ?_
            refine wl_nil ?_
            have hS1003 := hS998.f1
            have hS1004 := hS1003.tail
            have hS1005 := hS1004.f4
            have hS1006 := hS1005.f4
            have hS1007 := hS1006.f2
            have hS1008 := hS1007.f4
            have hS1009 := hS1008.f4
            exact ⟨((x895 ++ r962), a995, (n897 + n964), c996, (v899 + 1)), hm.2, ⟨rfl, rfl, rfl, rfl, rfl, rfl, rfl, rfl, rfl, rfl, trivial⟩, ⟨hm.1, hB1001, hS1009⟩⟩
          · replace hm := hm.2 h910
            refine w_exit ?_
            exact ⟨(x895, a896, n897, c898), ⟨rfl, rfl, rfl, rfl, rfl, rfl, trivial⟩, ⟨hm, hB905, hS906⟩⟩
        · rintro ⟨x819, a820, n821, c822⟩ b_ w1010 ⟨hm, hB1011, hS1012⟩
          show Wp _ _ _ _ (upds b_ [(0, .int .i64 p0), (6, .slice a29 n30 c31), (7, .slice a820 n821 c822), (29, .slice a788 n789 c790), (30, .int .i64 (r787.length : Int)), (31, .int .i64 v802)]) w1010
          refine w_region ?_
          obtain ⟨hg1013, hm⟩ := hm
          refine wl_val (g_add (a := v802) (b := 1) rfl rfl hg1013) rfl ?_
          refine wl_val (g_move (v := .int .i64 (v802 + 1)) rfl) rfl ?_
          refine wl_nil ?_
          exact ⟨(x819, a820, n821, c822, (v802 + 1)), hm.2, ⟨rfl, rfl, rfl, rfl, rfl, rfl, trivial⟩, ⟨hm.1, hB1011, hS1012⟩⟩
      · replace hm := hm.2 h818
        refine w_exit ?_
        have hS1014 := hS814.tail
        have hS1015 := hS1014.tail
        have hS1016 := hS1015.f1
        have hS1017 := hS1016.tail
        have hS1018 := hS1017.f1
        have hS1019 := hS1018.tail
        exact ⟨(x798, a799, n800, c801), ⟨rfl, trivial⟩, ⟨hm, hB813, hS1019⟩⟩
    · rintro ⟨x778, a779, n780, c781⟩ b_ w1020 ⟨hm, hB1021, hS1022⟩
      show Wp _ _ _ _ (upds b_ [(7, .slice a779 n780 c781)]) w1020
      refine w_seq fun K1023 hK1023 => ?_
      refine w_region ?_
      refine wl_val (g_move (v := .slice a779 n780 c781) rfl) rfl ?_
      refine wl_val (g_assign (v := .slice a779 n780 c781) rfl) rfl ?_
      refine wl_val (g_assign (v := .bool true) rfl) rfl ?_
      refine wl_nil ?_
      refine hK1023 _ _ ?_
      refine w_ret ?_
      repeat first | with_reducible refine q_then ?_ | with_reducible refine q_block ?_
      exact ret2 rfl (by decide) (by decide) ⟨_, _, _, _, _, hm, rfl, toExt hB1021, hS1022⟩

theorem m_laws_FnExactUnwindAll_fn {w : World} {a1 : Option Addr} {n1 c1 : Nat} {p1 : List Cross} {Q : Bool → Prop} (p0 : Int) (hp1 : Vw w.heap.size w a1 n1 c1 p1) (hm : m_laws_FnExactUnwindAll p0 p1 Q) :
    Fn Try.prog 12 #[.int .i64 p0, .slice a1 n1 c1] w (fun v w' => ∃ (r0 : Bool), Q r0 ∧ v = .bool r0 ∧ Ext w w') := by
  unfold m_laws_FnExactUnwindAll at hm
  have hB0 := Below.refl w.heap.size w
  have hS0 : Sep w w.heap.size [] := Sep.nil (Nat.le_refl _)
  refine fn_of_wp Try.func12 rfl (by kernel_rfl) (Nat.le_of_ble_eq_true rfl) ?_
  refine w_seq fun K1 hK1 => ?_
  refine w_region ?_
  refine wl_val (g_assign (v := .bool false) rfl) rfl ?_
  refine wl_nil ?_
  refine hK1 _ _ ?_
  refine w_seq fun K2 hK2 => ?_
  refine w_region ?_
  refine wl_val (g_assign (v := .int .i64 1048576) rfl) rfl ?_
  refine wl_nil ?_
  refine hK2 _ _ ?_
  refine w_seq fun K3 hK3 => ?_
  refine w_region ?_
  refine wl_val (g_move (v := .slice a1 n1 c1) rfl) rfl ?_
  refine wl_val (g_move (v := .int .i64 1048576) rfl) rfl ?_
  refine wl_step rfl (g_call (vs := #[.slice a1 n1 c1, .int .i64 1048576]) CF14 (args2 rfl rfl) (m_laws_szCrossS_fn ((hp1.bel hB0).up hS0) 1048576 hm)) ?_
  rintro _ w4 ⟨r7, hm, rfl, hE5⟩
  have hB8 := hB0.trans (Ext.stp hE5 hS0.base)
  have hS9 := hS0.ext hE5
  refine wl_val (g_assign (v := .int .i64 r7) rfl) rfl ?_
  refine wl_nil ?_
  refine hK3 _ _ ?_
  refine w_seq fun K10 hK10 => ?_
  refine w_seq fun K11 hK11 => ?_
  refine w_region ?_
  refine wl_val (g_move (v := .int .i64 r7) rfl) rfl ?_
  refine wl_val (g_lss (a := r7) (b := 0) rfl rfl) rfl ?_
  refine wl_nil ?_
  refine hK11 _ _ ?_
  refine w_condI (p := r7 < 0) (b := (decide (r7 < 0))) rfl decide_eq_true_iff (fun h12 => ?_) (fun h12 => ?_)
  · replace hm := hm.1 h12
    refine w_seq fun K13 hK13 => ?_
    refine w_region ?_
    refine wl_val (g_assign (v := .bool true) rfl) rfl ?_
    refine wl_nil ?_
    refine hK13 _ _ ?_
    refine w_ret ?_
    repeat first | with_reducible refine q_then ?_ | with_reducible refine q_block ?_
    exact ret1 rfl (by decide) ⟨_, hm, rfl, toExt hB8⟩
  · replace hm := hm.2 h12
    refine w_skip ?_
    refine hK10 _ _ ?_
    refine w_seq fun K14 hK14 => ?_
    refine w_region ?_
    refine wl_val (g_move (v := .int .i64 p0) rfl) rfl ?_
    refine wl_val (g_move (v := .slice a1 n1 c1) rfl) rfl ?_
    refine wl_step rfl (g_call (vs := #[.slice a1 n1 c1]) CF16 (args1 rfl) (m_laws_toCrossS_fn ((hp1.bel hB8).up hS9) hm)) ?_
    rintro _ w15 ⟨r18, a19, n20, c21, hm, rfl, hE16, hN17⟩
    have hS23 := hS9.call1 hE16 hN17
    have hB24 := hB8.trans (Ext.stp hE16 hS9.base)
    refine wl_step rfl (g_call (vs := #[.int .i64 p0, .slice a19 n20 c21]) CF47 (args2 rfl rfl) (m_spec_UnwindAll_fn p0 (oS.vw hS23.g0) hm)) ?_
    rintro _ w25 ⟨r28, a29, n30, c31, r33, hm, rfl, hE26, hN27⟩
    have hS34 := hS23.call1 hE26 hN27
    have hB35 := hB24.trans (Ext.stp hE26 hS23.base)
    refine wl_val (g_move (v := .tuple #[.slice a29 n30 c31, .bool r33]) rfl) rfl ?_
    refine wl_val (g_extract (vs := #[.slice a29 n30 c31, .bool r33]) rfl rfl) rfl ?_
    refine wl_val (g_extract (vs := #[.slice a29 n30 c31, .bool r33]) rfl rfl) rfl ?_
    refine wl_val (g_assign (v := .slice a29 n30 c31) rfl) rfl ?_
    refine wl_val (g_assign (v := .bool r33) rfl) rfl ?_
    refine wl_nil ?_
    refine hK14 _ _ ?_
    refine w_seq fun K36 hK36 => ?_
    refine w_region ?_
    refine wl_val (g_move (v := .slice a1 n1 c1) rfl) rfl ?_
    refine wl_step rfl (g_call (vs := #[.slice a1 n1 c1]) CF16 (args1 rfl) (m_laws_toCrossS_fn ((hp1.bel hB35).up hS34) hm)) ?_
    rintro _ w37 ⟨r40, a41, n42, c43, hm, rfl, hE38, hN39⟩
    have hS45 := hS34.call1 hE38 hN39
    have hB46 := hB35.trans (Ext.stp hE38 hS34.base)
    refine wl_val (g_assign (v := .slice a41 n42 c43) rfl) rfl ?_
    refine wl_nil ?_
    refine hK36 _ _ ?_
    refine w_seq fun K47 hK47 => ?_
    refine w_region ?_
    refine wl_val (g_move (v := .int .i64 p0) rfl) rfl ?_
    refine wl_val (g_move (v := .slice a41 n42 c43) rfl) rfl ?_
    refine wl_step rfl (g_call (vs := #[.int .i64 p0, .slice a41 n42 c43]) CF48 (args2 rfl rfl) (m_impl_UnwindAll_fn p0 (oS.vw hS45.g0) hm)) ?_
    rintro _ w48 ⟨r51, a52, n53, c54, r56, hm, rfl, hE49, hN50⟩
    have hS57 := hS45.call1 hE49 hN50
    have hB58 := hB46.trans (Ext.stp hE49 hS45.base)
    refine wl_val (g_move (v := .tuple #[.slice a52 n53 c54, .bool r56]) rfl) rfl ?_
    refine wl_val (g_extract (vs := #[.slice a52 n53 c54, .bool r56]) rfl rfl) rfl ?_
    refine wl_val (g_extract (vs := #[.slice a52 n53 c54, .bool r56]) rfl rfl) rfl ?_
    refine wl_val (g_assign (v := .slice a52 n53 c54) rfl) rfl ?_
    refine wl_val (g_assign (v := .bool r56) rfl) rfl ?_
    refine wl_nil ?_
    refine hK47 _ _ ?_
    refine w_seq fun K59 hK59 => ?_
    refine w_seq fun K60 hK60 => ?_
    refine w_region ?_
    refine wl_val (g_move (v := .slice a52 n53 c54) rfl) rfl ?_
    refine wl_val (g_move (v := .slice a29 n30 c31) rfl) rfl ?_
    refine wl_step rfl (g_call (vs := #[.slice a52 n53 c54, .slice a29 n30 c31]) CF18 (args2 rfl rfl) (m_laws_eqCrossS_fn (oS.vw hS57.g0) (oS.vw hS57.g2) hm)) ?_
    rintro _ w61 ⟨r64, hm, rfl, hE62⟩
    have hB65 := hB58.trans (Ext.stp hE62 hS57.base)
    have hS66 := hS57.ext hE62
    refine wl_val (g_not (a := r64) rfl) rfl ?_
    refine wl_val (g_move (v := .bool (!r64)) rfl) rfl ?_
    refine wl_guard (c := (!r64) = false) (val := .bool r56) (b := ((!r64) == false)) (gv_some rfl rfl rfl) beq_iff_eq (fun hc67 => ?_) ?_
    · have hq0 : ¬ (¬ (r64 = true)) := (i_neg (i_not Iff.rfl) hc67)
      exact g_move (v := .bool r56) rfl
    refine wl_guard (c := (!r64) = false) (val := .bool r33) (b := ((!r64) == false)) (gv_some rfl rfl rfl) beq_iff_eq (fun hc68 => ?_) ?_
    · have hq0 : ¬ (¬ (r64 = true)) := (i_neg (i_not Iff.rfl) hc68)
      exact g_move (v := .bool r33) rfl
    refine wl_guard (c := (!r64) = false) (val := .bool (decide ((r56) ≠ (r33)))) (b := ((!r64) == false)) (gv_some rfl rfl rfl) beq_iff_eq (fun hc69 => ?_) ?_
    · have hq0 : ¬ (¬ (r64 = true)) := (i_neg (i_not Iff.rfl) hc69)
      exact g_neq_b (a := r56) (b := r33) UB (if_pos hc69) (if_pos hc69)
    refine wl_val (g_pick_or (b := (!r64)) (q := (decide ((r56) ≠ (r33)))) rfl rfl) rfl ?_
    refine wl_nil ?_
    refine hK60 _ _ ?_
    refine w_condI (p := ((¬ (r64 = true)) ∨ ((r56) ≠ (r33)))) (b := ((!r64) || (decide ((r56) ≠ (r33))))) rfl (i_or (i_not Iff.rfl) decide_eq_true_iff) (fun h70 => ?_) (fun h70 => ?_)
    · replace hm := hm.1 h70
      refine w_seq fun K71 hK71 => ?_
      refine w_region ?_
      refine wl_val (g_assign (v := .bool false) rfl) rfl ?_
      refine wl_nil ?_
      refine hK71 _ _ ?_
      refine w_ret ?_
      repeat first | with_reducible refine q_then ?_ | with_reducible refine q_block ?_
      exact ret1 rfl (by decide) ⟨_, hm, rfl, toExt hB65⟩
    · replace hm := hm.2 h70
      refine w_skip ?_
      refine hK59 _ _ ?_
      refine w_seq fun K72 hK72 => ?_
      refine w_seq fun K73 hK73 => ?_
      refine w_region ?_
      refine wl_val (g_move (v := .slice a41 n42 c43) rfl) rfl ?_
      refine wl_val (g_move (v := .slice a1 n1 c1) rfl) rfl ?_
      refine wl_step rfl (g_call (vs := #[.slice a1 n1 c1]) CF16 (args1 rfl) (m_laws_toCrossS_fn ((hp1.bel hB65).up hS66) hm)) ?_
      rintro _ w74 ⟨r77, a78, n79, c80, hm, rfl, hE75, hN76⟩
      have hS82 := hS66.call1 hE75 hN76
      have hB83 := hB65.trans (Ext.stp hE75 hS66.base)
      refine wl_step rfl (g_call (vs := #[.slice a41 n42 c43, .slice a78 n79 c80]) CF18 (args2 rfl rfl) (m_laws_eqCrossS_fn (oS.vw hS82.g2) (oS.vw hS82.g0) hm)) ?_
      rintro _ w84 ⟨r87, hm, rfl, hE85⟩
      have hB88 := hB83.trans (Ext.stp hE85 hS82.base)
      have hS89 := hS82.ext hE85
      refine wl_val (g_not (a := r87) rfl) rfl ?_
      refine wl_nil ?_
      refine hK73 _ _ ?_
      refine w_condI (p := ¬ (r87 = true)) (b := (!r87)) rfl (i_not Iff.rfl) (fun h90 => ?_) (fun h90 => ?_)
      · replace hm := hm.1 h90
        refine w_seq fun K91 hK91 => ?_
        refine w_region ?_
        refine wl_val (g_assign (v := .bool false) rfl) rfl ?_
        refine wl_nil ?_
        refine hK91 _ _ ?_
        refine w_ret ?_
        repeat first | with_reducible refine q_then ?_ | with_reducible refine q_block ?_
        exact ret1 rfl (by decide) ⟨_, hm, rfl, toExt hB88⟩
      · replace hm := hm.2 h90
        refine w_skip ?_
        refine hK72 _ _ ?_
        refine w_seq fun K92 hK92 => ?_
        refine w_region ?_
        refine wl_val (g_assign (v := .int .i64 1) rfl) rfl ?_
        refine wl_nil ?_
        refine hK92 _ _ ?_
        refine w_seq fun K93 hK93 => ?_
        refine w_region ?_
        refine wl_val (g_move (v := .slice a41 n42 c43) rfl) rfl ?_
        refine wl_val (g_move (v := .int .i64 1) rfl) rfl ?_
        have hS94 := hS89.f2
        refine wl_step rfl (g_call (vs := #[.slice a41 n42 c43, .int .i64 1]) CF19 (args2 rfl rfl) (m_laws_markCrossS_fn hS94 1 hm)) ?_
        rintro _ w95 ⟨r98, x99, hm, rfl, hb96, hS97⟩
        have hB100 := hB88.trans hb96
        refine wl_val (g_assign (v := .int .i64 r98) rfl) rfl ?_
        refine wl_nil ?_
        refine hK93 _ _ ?_
        refine w_seq fun K101 hK101 => ?_
        refine w_seq fun K102 hK102 => ?_
        refine w_region ?_
        refine wl_val (g_move (v := .int .i64 r98) rfl) rfl ?_
        refine wl_val (g_lss (a := r98) (b := 0) rfl rfl) rfl ?_
        refine wl_val (g_move (v := .bool (decide (r98 < 0))) rfl) rfl ?_
        refine wl_guard (c := (decide (r98 < 0)) = false) (val := .slice a52 n53 c54) (b := ((decide (r98 < 0)) == false)) (gv_some rfl rfl rfl) beq_iff_eq (fun hc103 => ?_) ?_
        · have hq1 : ¬ (r98 < 0) := (i_neg decide_eq_true_iff hc103)
          exact g_move (v := .slice a52 n53 c54) rfl
        refine wl_guard (c := (decide (r98 < 0)) = false) (val := .slice a29 n30 c31) (b := ((decide (r98 < 0)) == false)) (gv_some rfl rfl rfl) beq_iff_eq (fun hc104 => ?_) ?_
        · have hq1 : ¬ (r98 < 0) := (i_neg decide_eq_true_iff hc104)
          exact g_move (v := .slice a29 n30 c31) rfl
        obtain ⟨r106, hk107, hm⟩ := hm
        refine wl_guardE (X := Ext) (c := (decide (r98 < 0)) = false) (val := .bool r106) (Ext.refl _) (b := ((decide (r98 < 0)) == false)) (gv_some rfl rfl rfl) beq_iff_eq (fun hc105 => ?_) (fun w108 hE109 => ?_)
        · have hq1 : ¬ (r98 < 0) := (i_neg decide_eq_true_iff hc105)
          exact (g_call (vs := #[.slice a52 n53 c54, .slice a29 n30 c31]) CF18 (args2 (if_pos hc105) (if_pos hc105)) ((m_laws_eqCrossS_fn (oS.vw hS97.g2) (oS.vw hS97.g3) (hk107 hq1)).mono fun _ _ ⟨_, h1, h2, h3⟩ => ⟨by rw [h2, h1], h3⟩))
        have hB110 := hB100.trans (Ext.stp hE109 hS97.base)
        have hS111 := hS97.ext hE109
        refine wl_guard (c := (decide (r98 < 0)) = false) (val := .bool (!r106)) (b := ((decide (r98 < 0)) == false)) (gv_some rfl rfl rfl) beq_iff_eq (fun hc112 => ?_) ?_
        · have hq1 : ¬ (r98 < 0) := (i_neg decide_eq_true_iff hc112)
          exact g_not (a := r106) (if_pos hc112)
        refine wl_val (g_pick_or (b := (decide (r98 < 0))) (q := (!r106)) rfl rfl) rfl ?_
        refine wl_val (g_move (v := .bool ((decide (r98 < 0)) || (!r106))) rfl) rfl ?_
        refine wl_guard (c := ((decide (r98 < 0)) || (!r106)) = false) (val := .bool r56) (b := (((decide (r98 < 0)) || (!r106)) == false)) (gv_some rfl rfl rfl) beq_iff_eq (fun hc113 => ?_) ?_
        · have hq2 : ¬ (((r98 < 0) ∨ (¬ (r106 = true)))) := (i_neg (i_or decide_eq_true_iff (i_not Iff.rfl)) hc113)
          exact g_move (v := .bool r56) rfl
        refine wl_guard (c := ((decide (r98 < 0)) || (!r106)) = false) (val := .bool r33) (b := (((decide (r98 < 0)) || (!r106)) == false)) (gv_some rfl rfl rfl) beq_iff_eq (fun hc114 => ?_) ?_
        · have hq2 : ¬ (((r98 < 0) ∨ (¬ (r106 = true)))) := (i_neg (i_or decide_eq_true_iff (i_not Iff.rfl)) hc114)
          exact g_move (v := .bool r33) rfl
        refine wl_guard (c := ((decide (r98 < 0)) || (!r106)) = false) (val := .bool (decide ((r56) ≠ (r33)))) (b := (((decide (r98 < 0)) || (!r106)) == false)) (gv_some rfl rfl rfl) beq_iff_eq (fun hc115 => ?_) ?_
        · have hq2 : ¬ (((r98 < 0) ∨ (¬ (r106 = true)))) := (i_neg (i_or decide_eq_true_iff (i_not Iff.rfl)) hc115)
          exact g_neq_b (a := r56) (b := r33) UB (if_pos hc115) (if_pos hc115)
        refine wl_val (g_pick_or (b := ((decide (r98 < 0)) || (!r106))) (q := (decide ((r56) ≠ (r33)))) rfl rfl) rfl ?_
        refine wl_nil ?_
        refine hK102 _ _ ?_
        refine w_condI (p := ((((r98 < 0) ∨ (¬ (r106 = true)))) ∨ ((r56) ≠ (r33)))) (b := (((decide (r98 < 0)) || (!r106)) || (decide ((r56) ≠ (r33))))) rfl (i_or (i_or decide_eq_true_iff (i_not Iff.rfl)) decide_eq_true_iff) (fun h116 => ?_) (fun h116 => ?_)
        · replace hm := hm.1 h116
          refine w_seq fun K117 hK117 => ?_
          refine w_region ?_
          refine wl_val (g_assign (v := .bool false) rfl) rfl ?_
          refine wl_nil ?_
          refine hK117 _ _ ?_
          refine w_ret ?_
          repeat first | with_reducible refine q_then ?_ | with_reducible refine q_block ?_
          exact ret1 rfl (by decide) ⟨_, hm, rfl, toExt hB110⟩
        · replace hm := hm.2 h116
          refine w_skip ?_
          refine hK101 _ _ ?_
          refine w_seq fun K118 hK118 => ?_
          refine w_region ?_
          refine wl_val (g_assign (v := .int .i64 1) rfl) rfl ?_
          refine wl_nil ?_
          refine hK118 _ _ ?_
          refine w_seq fun K119 hK119 => ?_
          refine w_region ?_
          refine wl_val (g_move (v := .slice a52 n53 c54) rfl) rfl ?_
          refine wl_val (g_move (v := .int .i64 1) rfl) rfl ?_
          have hS120 := hS111.f2
          refine wl_step rfl (g_call (vs := #[.slice a52 n53 c54, .int .i64 1]) CF19 (args2 rfl rfl) (m_laws_markCrossS_fn hS120 1 hm)) ?_
          rintro _ w121 ⟨r124, x125, hm, rfl, hb122, hS123⟩
          have hB126 := hB110.trans hb122
          refine wl_val (g_assign (v := .int .i64 r124) rfl) rfl ?_
          refine wl_nil ?_
          refine hK119 _ _ ?_
          refine w_seq fun K127 hK127 => ?_
          refine w_region ?_
          refine wl_val (g_assign (v := .int .i64 1) rfl) rfl ?_
          refine wl_nil ?_
          refine hK127 _ _ ?_
          refine w_seq fun K128 hK128 => ?_
          refine w_region ?_
          refine wl_val (g_move (v := .slice a52 n53 c54) rfl) rfl ?_
          refine wl_val (g_move (v := .int .i64 1) rfl) rfl ?_
          refine wl_step rfl (g_call (vs := #[.slice a52 n53 c54, .int .i64 1]) CF20 (args2 rfl rfl) (m_laws_heldCrossS_fn (oS.vw hS123.g0) 1 hm)) ?_
          rintro _ w129 ⟨r132, hm, rfl, hE130⟩
          have hB133 := hB126.trans (Ext.stp hE130 hS123.base)
          have hS134 := hS123.ext hE130
          refine wl_val (g_assign (v := .int .i64 r132) rfl) rfl ?_
          refine wl_nil ?_
          refine hK128 _ _ ?_
          refine w_seq fun K135 hK135 => ?_
          refine w_seq fun K136 hK136 => ?_
          refine w_region ?_
          refine wl_val (g_move (v := .int .i64 r132) rfl) rfl ?_
          refine wl_val (g_lss (a := r132) (b := 0) rfl rfl) rfl ?_
          refine wl_nil ?_
          refine hK136 _ _ ?_
          refine w_condI (p := r132 < 0) (b := (decide (r132 < 0))) rfl decide_eq_true_iff (fun h137 => ?_) (fun h137 => ?_)
          · replace hm := hm.1 h137
            refine w_seq fun K138 hK138 => ?_
            refine w_region ?_
            refine wl_val (g_assign (v := .bool false) rfl) rfl ?_
            refine wl_nil ?_
            refine hK138 _ _ ?_
            refine w_ret ?_
            repeat first | with_reducible refine q_then ?_ | with_reducible refine q_block ?_
            exact ret1 rfl (by decide) ⟨_, hm, rfl, toExt hB133⟩
          · replace hm := hm.2 h137
            refine w_skip ?_
            refine hK135 _ _ ?_
            refine w_seq fun K139 hK139 => ?_
            refine w_seq fun K140 hK140 => ?_
            refine w_region ?_
            refine wl_val (g_move (v := .int .i64 r132) rfl) rfl ?_
            refine wl_val (g_move (v := .int .i64 r124) rfl) rfl ?_
            refine wl_val (g_neq (a := r132) (b := r124) rfl rfl) rfl ?_
            refine wl_nil ?_
            refine hK140 _ _ ?_
            refine w_condI (p := r132 ≠ r124) (b := (decide (r132 ≠ r124))) rfl decide_eq_true_iff (fun h141 => ?_) (fun h141 => ?_)
            · replace hm := hm.1 h141
              refine w_seq fun K142 hK142 => ?_
              refine w_region ?_
              refine wl_val (g_assign (v := .bool false) rfl) rfl ?_
              refine wl_nil ?_
              refine hK142 _ _ ?_
              refine w_ret ?_
              repeat first | with_reducible refine q_then ?_ | with_reducible refine q_block ?_
              exact ret1 rfl (by decide) ⟨_, hm, rfl, toExt hB133⟩
            · replace hm := hm.2 h141
              refine w_skip ?_
              refine hK139 _ _ ?_
              refine w_seq fun K143 hK143 => ?_
              refine w_region ?_
              refine wl_val (g_move (v := .int .i64 p0) rfl) rfl ?_
              refine wl_val (g_move (v := .slice a1 n1 c1) rfl) rfl ?_
              refine wl_step rfl (g_call (vs := #[.slice a1 n1 c1]) CF16 (args1 rfl) (m_laws_toCrossS_fn ((hp1.bel hB133).up hS134) hm)) ?_
              rintro _ w144 ⟨r147, a148, n149, c150, hm, rfl, hE145, hN146⟩
              have hS152 := hS134.call1 hE145 hN146
              have hB153 := hB133.trans (Ext.stp hE145 hS134.base)
              refine wl_step rfl (g_call (vs := #[.int .i64 p0, .slice a148 n149 c150]) CF48 (args2 rfl rfl) (m_impl_UnwindAll_fn p0 (oS.vw hS152.g0) hm)) ?_
              rintro _ w154 ⟨r157, a158, n159, c160, r162, hm, rfl, hE155, hN156⟩
              have hS163 := hS152.call1 hE155 hN156
              have hB164 := hB153.trans (Ext.stp hE155 hS152.base)
              refine wl_val (g_move (v := .tuple #[.slice a158 n159 c160, .bool r162]) rfl) rfl ?_
              refine wl_val (g_extract (vs := #[.slice a158 n159 c160, .bool r162]) rfl rfl) rfl ?_
              refine wl_val (g_extract (vs := #[.slice a158 n159 c160, .bool r162]) rfl rfl) rfl ?_
              refine wl_val (g_assign (v := .slice a158 n159 c160) rfl) rfl ?_
              refine wl_val (g_assign (v := .bool r162) rfl) rfl ?_
              refine wl_nil ?_
              refine hK143 _ _ ?_
              refine w_seq fun K165 hK165 => ?_
              refine w_seq fun K166 hK166 => ?_
              refine w_region ?_
              refine wl_val (g_move (v := .slice a158 n159 c160) rfl) rfl ?_
              refine wl_val (g_move (v := .slice a29 n30 c31) rfl) rfl ?_
              refine wl_step rfl (g_call (vs := #[.slice a158 n159 c160, .slice a29 n30 c31]) CF18 (args2 rfl rfl) (m_laws_eqCrossS_fn (oS.vw hS163.g0) (oS.vw hS163.g5) hm)) ?_
              rintro _ w167 ⟨r170, hm, rfl, hE168⟩
              have hB171 := hB164.trans (Ext.stp hE168 hS163.base)
              have hS172 := hS163.ext hE168
              refine wl_val (g_not (a := r170) rfl) rfl ?_
              refine wl_val (g_move (v := .bool (!r170)) rfl) rfl ?_
              refine wl_guard (c := (!r170) = false) (val := .bool r162) (b := ((!r170) == false)) (gv_some rfl rfl rfl) beq_iff_eq (fun hc173 => ?_) ?_
              · have hq3 : ¬ (¬ (r170 = true)) := (i_neg (i_not Iff.rfl) hc173)
                exact g_move (v := .bool r162) rfl
              refine wl_guard (c := (!r170) = false) (val := .bool r33) (b := ((!r170) == false)) (gv_some rfl rfl rfl) beq_iff_eq (fun hc174 => ?_) ?_
              · have hq3 : ¬ (¬ (r170 = true)) := (i_neg (i_not Iff.rfl) hc174)
                exact g_move (v := .bool r33) rfl
              refine wl_guard (c := (!r170) = false) (val := .bool (decide ((r162) ≠ (r33)))) (b := ((!r170) == false)) (gv_some rfl rfl rfl) beq_iff_eq (fun hc175 => ?_) ?_
              · have hq3 : ¬ (¬ (r170 = true)) := (i_neg (i_not Iff.rfl) hc175)
                exact g_neq_b (a := r162) (b := r33) UB (if_pos hc175) (if_pos hc175)
              refine wl_val (g_pick_or (b := (!r170)) (q := (decide ((r162) ≠ (r33)))) rfl rfl) rfl ?_
              refine wl_nil ?_
              refine hK166 _ _ ?_
              refine w_condI (p := ((¬ (r170 = true)) ∨ ((r162) ≠ (r33)))) (b := ((!r170) || (decide ((r162) ≠ (r33))))) rfl (i_or (i_not Iff.rfl) decide_eq_true_iff) (fun h176 => ?_) (fun h176 => ?_)
              · replace hm := hm.1 h176
                refine w_seq fun K177 hK177 => ?_
                refine w_region ?_
                refine wl_val (g_assign (v := .bool false) rfl) rfl ?_
                refine wl_nil ?_
                refine hK177 _ _ ?_
                refine w_ret ?_
                repeat first | with_reducible refine q_then ?_ | with_reducible refine q_block ?_
                exact ret1 rfl (by decide) ⟨_, hm, rfl, toExt hB171⟩
              · replace hm := hm.2 h176
                refine w_skip ?_
                refine hK165 _ _ ?_
                refine w_seq fun K178 hK178 => ?_
                refine w_region ?_
                refine wl_val (g_assign (v := .int .i64 1) rfl) rfl ?_
                refine wl_nil ?_
                refine hK178 _ _ ?_
                refine w_seq fun K179 hK179 => ?_
                refine w_region ?_
                refine wl_val (g_move (v := .slice a52 n53 c54) rfl) rfl ?_
                refine wl_val (g_move (v := .int .i64 1) rfl) rfl ?_
                refine wl_step rfl (g_call (vs := #[.slice a52 n53 c54, .int .i64 1]) CF20 (args2 rfl rfl) (m_laws_heldCrossS_fn (oS.vw hS172.g2) 1 hm)) ?_
                rintro _ w180 ⟨r183, hm, rfl, hE181⟩
                have hB184 := hB171.trans (Ext.stp hE181 hS172.base)
                have hS185 := hS172.ext hE181
                refine wl_val (g_assign (v := .int .i64 r183) rfl) rfl ?_
                refine wl_nil ?_
                refine hK179 _ _ ?_
                refine w_seq fun K186 hK186 => ?_
                refine w_seq fun K187 hK187 => ?_
                refine w_region ?_
                refine wl_val (g_move (v := .int .i64 r183) rfl) rfl ?_
                refine wl_val (g_lss (a := r183) (b := 0) rfl rfl) rfl ?_
                refine wl_nil ?_
                refine hK187 _ _ ?_
                refine w_condI (p := r183 < 0) (b := (decide (r183 < 0))) rfl decide_eq_true_iff (fun h188 => ?_) (fun h188 => ?_)
                · replace hm := hm.1 h188
                  refine w_seq fun K189 hK189 => ?_
                  refine w_region ?_
                  refine wl_val (g_assign (v := .bool false) rfl) rfl ?_
                  refine wl_nil ?_
                  refine hK189 _ _ ?_
                  refine w_ret ?_
                  repeat first | with_reducible refine q_then ?_ | with_reducible refine q_block ?_
                  exact ret1 rfl (by decide) ⟨_, hm, rfl, toExt hB184⟩
                · replace hm := hm.2 h188
                  refine w_skip ?_
                  refine hK186 _ _ ?_
                  refine w_seq fun K190 hK190 => ?_
                  refine w_seq fun K191 hK191 => ?_
                  refine w_region ?_
                  refine wl_val (g_move (v := .int .i64 r183) rfl) rfl ?_
                  refine wl_val (g_move (v := .int .i64 r124) rfl) rfl ?_
                  refine wl_val (g_neq (a := r183) (b := r124) rfl rfl) rfl ?_
                  refine wl_nil ?_
                  refine hK191 _ _ ?_
                  refine w_condI (p := r183 ≠ r124) (b := (decide (r183 ≠ r124))) rfl decide_eq_true_iff (fun h192 => ?_) (fun h192 => ?_)
                  · replace hm := hm.1 h192
                    refine w_seq fun K193 hK193 => ?_
                    refine w_region ?_
                    refine wl_val (g_assign (v := .bool false) rfl) rfl ?_
                    refine wl_nil ?_
                    refine hK193 _ _ ?_
                    refine w_ret ?_
                    repeat first | with_reducible refine q_then ?_ | with_reducible refine q_block ?_
                    exact ret1 rfl (by decide) ⟨_, hm, rfl, toExt hB184⟩
                  · replace hm := hm.2 h192
                    refine w_skip ?_
                    refine hK190 _ _ ?_
                    refine w_seq fun K194 hK194 => ?_
                    refine w_region ?_
                    refine wl_val (g_assign (v := .bool true) rfl) rfl ?_
                    refine wl_nil ?_
                    refine hK194 _ _ ?_
                    refine w_ret ?_
                    repeat first | with_reducible refine q_then ?_ | with_reducible refine q_block ?_
                    exact ret1 rfl (by decide) ⟨_, hm, rfl, toExt hB184⟩

end Go.Proofs.Ytcgkcoogaieolaa
