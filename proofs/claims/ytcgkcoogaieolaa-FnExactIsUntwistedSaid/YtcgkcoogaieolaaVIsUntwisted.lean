/- The walks: the code does what its model says. Printed by a program (gen2.py). No statement of the claim stands here. -/
import Derived.Test.YtcgkcoogaieolaaSop
import Derived.Test.YtcgkcoogaieolaaFacts
import Derived.Test.YtcgkcoogaieolaaMB
import Derived.Test.YtcgkcoogaieolaaVIsUntwistedPart1
namespace Go.Proofs.Ytcgkcoogaieolaa
open Go Go.RowKit
set_option maxRecDepth 100000
theorem m_impl_WoundPairs_fn {w : World} {a1 : Option Addr} {n1 c1 : Nat} {p1 : List Cross} {Q : (List (List Int)) → Prop} (p0 : Int) (hp1 : Vw w.heap.size w a1 n1 c1 p1) (hm : m_impl_WoundPairs p0 p1 Q) :
    Fn Try.prog 34 #[.int .i64 p0, .slice a1 n1 c1] w (fun v w' => ∃ (r0 : List (List Int)) (a0 : Option Addr) (n0 c0 : Nat) (y0 : List (Hd Int)), Q r0 ∧ ers y0 = r0 ∧ v = .slice a0 n0 c0 ∧ Ext w w' ∧ Sep w' w.heap.size [oS 39 a0 n0 c0 y0, oT 3 y0]) := by
  unfold m_impl_WoundPairs at hm
  have hB0 := Below.refl w.heap.size w
  have hS0 : Sep w w.heap.size [] := Sep.nil (Nat.le_refl _)
  refine fn_of_wp Try.func34 rfl (by kernel_rfl) (Nat.le_of_ble_eq_true rfl) ?_
  refine w_seq fun K1 hK1 => ?_
  refine w_region ?_
  refine wl_val (g_assign (v := .slice none 0 0) rfl) rfl ?_
  refine wl_nil ?_
  refine hK1 _ _ ?_
  refine w_seq fun K2 hK2 => ?_
  refine w_seq fun K3 hK3 => ?_
  refine w_region ?_
  refine wl_val (g_move (v := .int .i64 p0) rfl) rfl ?_
  refine wl_val (g_move (v := .slice a1 n1 c1) rfl) rfl ?_
  refine wl_step rfl (g_call (vs := #[.int .i64 p0, .slice a1 n1 c1]) CF57 (args2 rfl rfl) (m_impl_CrossesOk_fn p0 ((hp1.bel hB0).up hS0) hm)) ?_
  rintro _ w4 ⟨r7, hm, rfl, hE5⟩
  have hB8 := hB0.trans (Ext.stp hE5 hS0.base)
  have hS9 := hS0.ext hE5
  refine wl_val (g_not (a := r7) rfl) rfl ?_
  refine wl_nil ?_
  refine hK3 _ _ ?_
  refine w_condI (p := ¬ (r7 = true)) (b := (!r7)) rfl (i_not Iff.rfl) (fun h10 => ?_) (fun h10 => ?_)
  · replace hm := hm.1 h10
    refine w_seq fun K11 hK11 => ?_
    refine w_region ?_
    refine wl_val (g_assign (v := .slice none 0 0) rfl) rfl ?_
    refine wl_nil ?_
    refine hK11 _ _ ?_
    refine w_ret ?_
    have hS12 := hS9.nilS (α := (Hd Int)) (E := 39)
    have hS14 := hS12.noRows (δ := Hd Int) (E := 3)
    have he16 : ers ([] : List (Hd Int)) = ([] : List (List Int)) := rfl
    have hS18 := hS14.f1
    repeat first | with_reducible refine q_then ?_ | with_reducible refine q_block ?_
    exact ret1 rfl (by decide) ⟨_, _, _, _, _, hm, he16, rfl, toExt hB8, hS18⟩
  · replace hm := hm.2 h10
    refine w_skip ?_
    refine hK2 _ _ ?_
    refine w_seq fun K19 hK19 => ?_
    refine w_region ?_
    refine wl_val (g_move (v := .int .i64 p0) rfl) rfl ?_
    refine wl_val (g_move (v := .slice a1 n1 c1) rfl) rfl ?_
    refine wl_step rfl (g_call (vs := #[.int .i64 p0, .slice a1 n1 c1]) CF58 (args2 rfl rfl) (m_impl_twists_fn p0 ((hp1.bel hB8).up hS9) hm)) ?_
    rintro _ w20 ⟨r23, a24, n25, c26, y27, hm, he28, rfl, hE21, hN22⟩
    have hS32 := hS9.call2 hE21 hN22
    have hB33 := hB8.trans (Ext.stp hE21 hS9.base)
    refine wl_step rfl (q_lit0 (α := (Hd Int)) rfl SL37 hS32) ?_
    rintro _ w34 ⟨a35, rfl, hS37, hE36⟩
    have hB39 := hB33.trans (Ext.stp hE36 hS32.base)
    have hS40 := hS37.noRows (δ := Hd Int) (E := 3)
    have he42 : ers ([] : List (Hd Int)) = ([] : List (List Int)) := rfl
    refine wl_val (g_assign (v := .slice a24 n25 c26) rfl) rfl ?_
    refine wl_val (g_assign (v := .slice a35 0 0) rfl) rfl ?_
    refine wl_nil ?_
    refine hK19 _ _ ?_
    refine w_cut (σ := List (List Int) × Option Addr × Nat × Nat × List (Hd Int)) (fun ⟨x342, a343, n344, c345, y346⟩ => [(6, .slice a343 n344 c345)]) (fun ⟨x342, a343, n344, c345, y346⟩ w' => m_impl_WoundPairs_K1 Q x342 ∧ ers y346 = x342 ∧ Below w.heap.size w w' ∧ Sep w' w.heap.size [oS 39 a343 n344 c345 (y346 : List (Hd Int)), oT 3 (y346 : List (Hd Int))]) ?_ ?_
    · refine w_seq fun K349 hK349 => ?_
      refine w_region ?_
      refine wl_val (g_move (v := .int .i64 p0) rfl) rfl ?_
      refine wl_val (g_move (v := .int .i64 0) rfl) rfl ?_
      refine wl_nil ?_
      refine hK349 _ _ ?_
      refine w_block ?_
      have hS357 := hS40.f1
      have hS358 := hS357.f3
      have hS359 := hS358.f3
      obtain ⟨I360, μ361, h0362, hr363⟩ := hm
      refine w_for (σ := List (List Int) × Option Addr × Nat × Nat × List (Hd Int) × Int) (fun ⟨x350, a351, n352, c353, y354, v356⟩ => [(0, .int .i64 p0), (5, .slice a24 n25 c26), (6, .slice a351 n352 c353), (17, .int .i64 p0), (18, .int .i64 v356)]) (fun ⟨x350, a351, n352, c353, y354, v356⟩ w' => I360 x350 v356 ∧ ers y354 = x350 ∧ Below w.heap.size w w' ∧ Sep w' w.heap.size [oS 39 a24 n25 c26 (y27 : List (Hd Int)), oT 3 (y27 : List (Hd Int)), oS 39 a351 n352 c353 (y354 : List (Hd Int)), oT 3 (y354 : List (Hd Int))]) (fun ⟨x350, a351, n352, c353, y354, v356⟩ => μ361 x350 v356) ([], a35, 0, 0, [], 0) ⟨rfl, rfl, rfl, rfl, rfl, trivial⟩ ⟨h0362, he42, hB39, hS359⟩ ?_
      rintro ⟨x350, a351, n352, c353, y354, v356⟩ b_ w364 ⟨hi_, he355, hB365, hS366⟩
      show Wp _ _ _ _ (upds b_ [(0, .int .i64 p0), (5, .slice a24 n25 c26), (6, .slice a351 n352 c353), (17, .int .i64 p0), (18, .int .i64 v356)]) w364
      have hm := hr363 x350 v356 hi_
      refine w_seq fun K368 hK368 => ?_
      refine w_region ?_
      refine wl_val (g_lss (a := v356) (b := p0) rfl rfl) rfl ?_
      refine wl_nil ?_
      refine hK368 _ _ ?_
      refine w_seq fun K369 hK369 => ?_
      refine w_condI (p := v356 < p0) (b := (decide (v356 < p0))) rfl decide_eq_true_iff (fun h370 => ?_) (fun h370 => ?_)
      · replace hm := hm.1 h370
        refine w_skip ?_
        refine hK369 _ _ ?_
        refine w_cut (σ := List (List Int) × Option Addr × Nat × Nat × List (Hd Int)) (fun ⟨x371, a372, n373, c374, y375⟩ => [(0, .int .i64 p0), (5, .slice a24 n25 c26), (6, .slice a372 n373 c374), (17, .int .i64 p0), (18, .int .i64 v356)]) (fun ⟨x371, a372, n373, c374, y375⟩ w' => m_impl_WoundPairs_K0 v356 (fun x350' v356' => I360 x350' v356' ∧ μ361 x350' v356' < μ361 x350 v356) x371 ∧ ers y375 = x371 ∧ Below w.heap.size w w' ∧ Sep w' w.heap.size [oS 39 a24 n25 c26 (y27 : List (Hd Int)), oT 3 (y27 : List (Hd Int)), oS 39 a372 n373 c374 (y375 : List (Hd Int)), oT 3 (y375 : List (Hd Int))]) ?_ ?_
        · refine w_block ?_
          refine w_seq fun K378 hK378 => ?_
          refine w_region ?_
          refine wl_val (g_move (v := .int .i64 v356) rfl) rfl ?_
          refine wl_val (g_assign (v := .int .i64 v356) rfl) rfl ?_
          refine wl_nil ?_
          refine hK378 _ _ ?_
          refine w_seq fun K379 hK379 => ?_
          refine w_region ?_
          refine wl_val (g_move (v := .int .i64 v356) rfl) rfl ?_
          obtain ⟨hg380, hm⟩ := hm
          refine wl_val (g_add (a := v356) (b := 1) rfl rfl hg380) rfl ?_
          refine wl_val (g_assign (v := .int .i64 (v356 + 1)) rfl) rfl ?_
          refine wl_nil ?_
          refine hK379 _ _ ?_
          refine w_block ?_
          obtain ⟨I388, μ389, h0390, hr391⟩ := hm
          refine w_for (σ := List (List Int) × Option Addr × Nat × Nat × List (Hd Int) × Int) (fun ⟨x381, a382, n383, c384, y385, v387⟩ => [(0, .int .i64 p0), (5, .slice a24 n25 c26), (6, .slice a382 n383 c384), (7, .int .i64 v356), (8, .int .i64 v387), (17, .int .i64 p0), (18, .int .i64 v356)]) (fun ⟨x381, a382, n383, c384, y385, v387⟩ w' => I388 x381 v387 ∧ ers y385 = x381 ∧ Below w.heap.size w w' ∧ Sep w' w.heap.size [oS 39 a24 n25 c26 (y27 : List (Hd Int)), oT 3 (y27 : List (Hd Int)), oS 39 a382 n383 c384 (y385 : List (Hd Int)), oT 3 (y385 : List (Hd Int))]) (fun ⟨x381, a382, n383, c384, y385, v387⟩ => μ389 x381 v387) (x350, a351, n352, c353, y354, (v356 + 1)) ⟨rfl, rfl, rfl, rfl, rfl, rfl, rfl, trivial⟩ ⟨h0390, he355, hB365, hS366⟩ ?_
          rintro ⟨x381, a382, n383, c384, y385, v387⟩ b_ w392 ⟨hi_, he386, hB393, hS394⟩
          show Wp _ _ _ _ (upds b_ [(0, .int .i64 p0), (5, .slice a24 n25 c26), (6, .slice a382 n383 c384), (7, .int .i64 v356), (8, .int .i64 v387), (17, .int .i64 p0), (18, .int .i64 v356)]) w392
          have hm := hr391 x381 v387 hi_
          refine w_seq fun K396 hK396 => ?_
          refine w_seq fun K397 hK397 => ?_
          refine w_region ?_
          refine wl_val (g_move (v := .int .i64 v387) rfl) rfl ?_
          refine wl_val (g_move (v := .int .i64 p0) rfl) rfl ?_
          refine wl_val (g_lss (a := v387) (b := p0) rfl rfl) rfl ?_
          refine wl_nil ?_
          refine hK397 _ _ ?_
          refine w_condI (p := v387 < p0) (b := (decide (v387 < p0))) rfl decide_eq_true_iff (fun h398 => ?_) (fun h398 => ?_)
          · replace hm := hm.1 h398
            refine w_skip ?_
            refine hK396 _ _ ?_
            refine w_seq fun K399 hK399 => ?_
            refine w_block ?_
            refine w_seq fun K400 hK400 => ?_
            refine w_region ?_
            refine wl_val (g_move (v := .slice a24 n25 c26) rfl) rfl ?_
            refine wl_val (g_move (v := .int .i64 v356) rfl) rfl ?_
            obtain ⟨hg401, hm⟩ := hm
            refine wl_val (q_index (i := v356) SL37 rfl rfl (Tv.o (oT.vw hS394.g0 hS394.g1 he28)) (Tv.g (oT.vw hS394.g0 hS394.g1 he28) hg401)) rfl ?_
            refine wl_val (q_load (i := v356) (v := .slice ((y27[(Int.toNat v356)]!).1) ((y27[(Int.toNat v356)]!).2.2.length) ((y27[(Int.toNat v356)]!).2.1)) ON39 (Tv.o (oT.vw hS394.g0 hS394.g1 he28)) (Tv.g (oT.vw hS394.g0 hS394.g1 he28) hg401) rfl rfl) rfl ?_
            refine wl_val (g_move (v := .int .i64 v387) rfl) rfl ?_
            obtain ⟨hg402, hm⟩ := hm
            refine wl_val (q_index (i := v387) SL39 rfl rfl (Tv.row (oT.vw hS394.g0 hS394.g1 he28) hg401) hg402) rfl ?_
            refine wl_val (q_load (i := v387) (v := .int .i64 ((r23[(Int.toNat v356)]!)[(Int.toNat v387)]!)) ON3 (Tv.row (oT.vw hS394.g0 hS394.g1 he28) hg401) hg402 rfl rfl) rfl ?_
            refine wl_val (g_neq (a := (r23[(Int.toNat v356)]!)[(Int.toNat v387)]!) (b := 0) rfl rfl) rfl ?_
            refine wl_nil ?_
            refine hK400 _ _ ?_
            refine w_condI (p := (r23[(Int.toNat v356)]!)[(Int.toNat v387)]! ≠ 0) (b := (decide ((r23[(Int.toNat v356)]!)[(Int.toNat v387)]! ≠ 0))) rfl decide_eq_true_iff (fun h403 => ?_) (fun h403 => ?_)
            · replace hm := hm.1 h403
              refine w_region ?_
              refine wl_val (g_move (v := .slice a382 n383 c384) rfl) rfl ?_
              refine wl_val (g_move (v := .int .i64 v356) rfl) rfl ?_
              refine wl_val (g_move (v := .int .i64 v387) rfl) rfl ?_
              refine wl_step rfl (q_lit2 (y := (v356 : Int)) (y' := (v387 : Int)) SL39 rfl rfl rfl rfl (by decide) hS394) ?_
              rintro _ w404 ⟨a405, rfl, hS407, hE406⟩
              have hB409 := hB393.trans (Ext.stp hE406 hS394.base)
              have hn415 := oS.len hS407.g0
              have hS416 := hS407.oneRow
              have he414 : ers [((a405, 2, [v356, v387]) : Hd Int)] = [[v356, v387]] := rfl
              refine wl_step rfl (q_lit1 (y := ((a405, 2, [v356, v387]) : Hd Int)) SL37 rfl (hd_cells hn415) (by decide) hS416) ?_
              rintro _ w410 ⟨a411, rfl, hS413, hE412⟩
              have hB419 := hB409.trans (Ext.stp hE412 hS416.base)
              have hS426 := hS413.f4
              obtain ⟨hg427, hm⟩ := hm
              have hl428 : (y385).length + ([(a405, 2, [v356, v387])]).length ≤ 1099511627776 := by have h1 := congrArg List.length he386; have h2 := congrArg List.length he414; have h3 := hg427; simp only [ers, List.length_map, List.length_append, List.length_cons, List.length_nil, List.length_replicate, List.length_set] at h1 h2 h3 ⊢; omega
              refine wl_step rfl (q_append SL37 rfl rfl hS426 (oS.vw hS426.g1) hl428 (by decide)) ?_
              rintro _ w421 ⟨a422, c423, rfl, hS425, hb424⟩
              have hB429 := hB419.trans hb424
              have hS430 := hS425.f1
              have hS431 := hS430.tail
              have hS432 := hS431.f4
              have hS433 := hS432.f2
              have hS434 := hS433.catRows
              have he435 : ers (y385 ++ ([(a405, 2, [v356, v387])])) = (x381 ++ ([[v356, v387]])) := by rw [← he386, ← he414]; exact List.map_append
              refine wl_val (g_assign (v := .slice a422 (n383 + 1) c423) rfl) rfl ?_
              refine wl_nil ?_
              refine hK399 _ _ ?_
              refine w_region ?_
              refine wl_val (g_move (v := .int .i64 v387) rfl) rfl ?_
              obtain ⟨hg436, hm⟩ := hm
              refine wl_val (g_add (a := v387) (b := 1) rfl rfl hg436) rfl ?_
              refine wl_val (g_assign (v := .int .i64 (v387 + 1)) rfl) rfl ?_
              refine wl_nil ?_
              have hS437 := hS434.f1
              have hS438 := hS437.f3
              have hS439 := hS438.f3
              exact ⟨((x381 ++ ([[v356, v387]])), a422, (n383 + 1), c423, (y385 ++ ([(a405, 2, [v356, v387])])), (v387 + 1)), hm.2, ⟨rfl, rfl, rfl, rfl, rfl, rfl, rfl, trivial⟩, ⟨hm.1, he435, hB429, hS439⟩⟩
            · replace hm := hm.2 h403
              refine w_skip ?_
              refine hK399 _ _ ?_
              refine w_region ?_
              refine wl_val (g_move (v := .int .i64 v387) rfl) rfl ?_
              obtain ⟨hg440, hm⟩ := hm
              refine wl_val (g_add (a := v387) (b := 1) rfl rfl hg440) rfl ?_
              refine wl_val (g_assign (v := .int .i64 (v387 + 1)) rfl) rfl ?_
              refine wl_nil ?_
              exact ⟨(x381, a382, n383, c384, y385, (v387 + 1)), hm.2, ⟨rfl, rfl, rfl, rfl, rfl, rfl, rfl, trivial⟩, ⟨hm.1, he386, hB393, hS394⟩⟩
          · replace hm := hm.2 h398
            refine w_exit ?_
            exact ⟨(x381, a382, n383, c384, y385), ⟨rfl, rfl, rfl, rfl, rfl, trivial⟩, ⟨hm, he386, hB393, hS394⟩⟩
        · rintro ⟨x371, a372, n373, c374, y375⟩ b_ w441 ⟨hm, he376, hB442, hS443⟩
          show Wp _ _ _ _ (upds b_ [(0, .int .i64 p0), (5, .slice a24 n25 c26), (6, .slice a372 n373 c374), (17, .int .i64 p0), (18, .int .i64 v356)]) w441
          refine w_region ?_
          obtain ⟨hg444, hm⟩ := hm
          refine wl_val (g_add (a := v356) (b := 1) rfl rfl hg444) rfl ?_
          refine wl_val (g_move (v := .int .i64 (v356 + 1)) rfl) rfl ?_
          refine wl_nil ?_
          exact ⟨(x371, a372, n373, c374, y375, (v356 + 1)), hm.2, ⟨rfl, rfl, rfl, rfl, rfl, trivial⟩, ⟨hm.1, he376, hB442, hS443⟩⟩
      · replace hm := hm.2 h370
        refine w_exit ?_
        have hS445 := hS366.tail
        have hS446 := hS445.tail
        exact ⟨(x350, a351, n352, c353, y354), ⟨rfl, trivial⟩, ⟨hm, he355, hB365, hS446⟩⟩
    · rintro ⟨x342, a343, n344, c345, y346⟩ b_ w447 ⟨hm, he347, hB448, hS449⟩
      show Wp _ _ _ _ (upds b_ [(6, .slice a343 n344 c345)]) w447
      refine w_seq fun K450 hK450 => ?_
      refine w_region ?_
      refine wl_val (g_move (v := .slice a343 n344 c345) rfl) rfl ?_
      refine wl_val (g_assign (v := .slice a343 n344 c345) rfl) rfl ?_
      refine wl_nil ?_
      refine hK450 _ _ ?_
      refine w_ret ?_
      repeat first | with_reducible refine q_then ?_ | with_reducible refine q_block ?_
      exact ret1 rfl (by decide) ⟨_, _, _, _, _, hm, he347, rfl, toExt hB448, hS449⟩

theorem m_impl_IsUntwisted_fn {w : World} {a1 : Option Addr} {n1 c1 : Nat} {p1 : List Cross} {Q : Bool → Prop} (p0 : Int) (hp1 : Vw w.heap.size w a1 n1 c1 p1) (hm : m_impl_IsUntwisted p0 p1 Q) :
    Fn Try.prog 35 #[.int .i64 p0, .slice a1 n1 c1] w (fun v w' => ∃ (r0 : Bool), Q r0 ∧ v = .bool r0 ∧ Ext w w') := by
  unfold m_impl_IsUntwisted at hm
  have hB0 := Below.refl w.heap.size w
  have hS0 : Sep w w.heap.size [] := Sep.nil (Nat.le_refl _)
  refine fn_of_wp Try.func35 rfl (by kernel_rfl) (Nat.le_of_ble_eq_true rfl) ?_
  refine w_seq fun K1 hK1 => ?_
  refine w_region ?_
  refine wl_val (g_assign (v := .bool false) rfl) rfl ?_
  refine wl_nil ?_
  refine hK1 _ _ ?_
  refine w_seq fun K2 hK2 => ?_
  refine w_region ?_
  refine wl_val (g_move (v := .int .i64 p0) rfl) rfl ?_
  refine wl_val (g_move (v := .slice a1 n1 c1) rfl) rfl ?_
  refine wl_step rfl (g_call (vs := #[.int .i64 p0, .slice a1 n1 c1]) CF57 (args2 rfl rfl) (m_impl_CrossesOk_fn p0 ((hp1.bel hB0).up hS0) hm)) ?_
  rintro _ w3 ⟨r6, hm, rfl, hE4⟩
  have hB7 := hB0.trans (Ext.stp hE4 hS0.base)
  have hS8 := hS0.ext hE4
  refine wl_val (g_move (v := .bool r6) rfl) rfl ?_
  refine wl_guard (c := r6 = true) (val := .int .i64 p0) (b := (r6 == true)) (gv_some rfl rfl rfl) beq_iff_eq (fun hc9 => ?_) ?_
  · have hq0 : r6 = true := (Iff.rfl.mp hc9)
    exact g_move (v := .int .i64 p0) rfl
  refine wl_guard (c := r6 = true) (val := .slice a1 n1 c1) (b := (r6 == true)) (gv_some rfl rfl rfl) beq_iff_eq (fun hc10 => ?_) ?_
  · have hq0 : r6 = true := (Iff.rfl.mp hc10)
    exact g_move (v := .slice a1 n1 c1) rfl
  obtain ⟨r12, hk13, hm⟩ := hm
  refine wl_guardE (X := Ext) (c := r6 = true) (val := .bool r12) (Ext.refl _) (b := (r6 == true)) (gv_some rfl rfl rfl) beq_iff_eq (fun hc11 => ?_) (fun w14 hE15 => ?_)
  · have hq0 : r6 = true := (Iff.rfl.mp hc11)
    exact (g_call (vs := #[.int .i64 p0, .slice a1 n1 c1]) CF64 (args2 (if_pos hc11) (if_pos hc11)) ((m_impl_isHome_fn p0 ((hp1.bel hB7).up hS8) (hk13 hq0)).mono fun _ _ ⟨_, h1, h2, h3⟩ => ⟨by rw [h2, h1], h3⟩))
  have hB16 := hB7.trans (Ext.stp hE15 hS8.base)
  have hS17 := hS8.ext hE15
  refine wl_val (g_pick_and (b := r6) (q := r12) rfl rfl) rfl ?_
  refine wl_val (g_move (v := .bool (r6 && r12)) rfl) rfl ?_
  by_cases hc18 : (r6 && r12) = true
  · replace hm := hm.1 ((i_and Iff.rfl Iff.rfl).mp hc18)
    refine wl_valT (g_move (v := .int .i64 p0) rfl) (gv_T (gv_some rfl rfl rfl) hc18) ?_
    refine wl_valT (g_move (v := .slice a1 n1 c1) rfl) (gv_T (gv_some rfl rfl rfl) hc18) ?_
    refine wl_stepT (gv_T (gv_some rfl rfl rfl) hc18) (g_call (vs := #[.int .i64 p0, .slice a1 n1 c1]) CF34 (args2 rfl rfl) (m_impl_WoundPairs_fn p0 ((hp1.bel hB16).up hS17) hm)) ?_
    rintro _ w19 ⟨r22, a23, n24, c25, y26, hm, he27, rfl, hE20, hN21⟩
    have hS31 := hS17.call2 hE20 hN21
    have hB32 := hB16.trans (Ext.stp hE20 hS17.base)
    refine wl_valT (q_len SL37 rfl (Tv.len (oT.vw hS31.g0 hS31.g1 he27))) (gv_T (gv_some rfl rfl rfl) hc18) ?_
    refine wl_valT (g_eql (a := (r22.length : Int)) (b := 0) rfl rfl) (gv_T (gv_some rfl rfl rfl) hc18) ?_
    refine wl_val (g_pickT (b := (r6 && r12)) rfl hc18 rfl) rfl ?_
    refine wl_val (g_assign (v := .bool (decide ((r22.length : Int) = 0))) rfl) rfl ?_
    refine wl_nil ?_
    refine hK2 _ _ ?_
    refine w_ret ?_
    repeat first | with_reducible refine q_then ?_ | with_reducible refine q_block ?_
    exact ret1 rfl (by decide) ⟨_, hm, rfl, toExt hB32⟩
  · have hc18n := b_F hc18
    replace hm := hm.2 (i_neg (i_and Iff.rfl Iff.rfl) hc18n)
    refine wl_skipF (gv_F (gv_some rfl rfl rfl) hc18n) ?_
    refine wl_skipF (gv_F (gv_some rfl rfl rfl) hc18n) ?_
    refine wl_skipF (gv_F (gv_some rfl rfl rfl) hc18n) ?_
    refine wl_skipF (gv_F (gv_some rfl rfl rfl) hc18n) ?_
    refine wl_skipF (gv_F (gv_some rfl rfl rfl) hc18n) ?_
    refine wl_val (g_pickF (b := (r6 && r12)) rfl hc18n rfl) rfl ?_
    refine wl_val (g_assign (v := .bool false) rfl) rfl ?_
    refine wl_nil ?_
    refine hK2 _ _ ?_
    refine w_ret ?_
    repeat first | with_reducible refine q_then ?_ | with_reducible refine q_block ?_
    exact ret1 rfl (by decide) ⟨_, hm, rfl, toExt hB16⟩

theorem m_laws_FnExactIsUntwisted_fn {w : World} {a1 : Option Addr} {n1 c1 : Nat} {p1 : List Cross} {Q : Bool → Prop} (p0 : Int) (hp1 : Vw w.heap.size w a1 n1 c1 p1) (hm : m_laws_FnExactIsUntwisted p0 p1 Q) :
    Fn Try.prog 9 #[.int .i64 p0, .slice a1 n1 c1] w (fun v w' => ∃ (r0 : Bool), Q r0 ∧ v = .bool r0 ∧ Ext w w') := by
  unfold m_laws_FnExactIsUntwisted at hm
  have hB0 := Below.refl w.heap.size w
  have hS0 : Sep w w.heap.size [] := Sep.nil (Nat.le_refl _)
  refine fn_of_wp Try.func9 rfl (by kernel_rfl) (Nat.le_of_ble_eq_true rfl) ?_
  refine w_seq fun K1 hK1 => ?_
  refine w_region ?_
  refine wl_val (g_assign (v := .bool false) rfl) rfl ?_
  refine wl_nil ?_
  refine hK1 _ _ ?_
  refine w_seq fun K2 hK2 => ?_
  refine w_region ?_
  refine wl_val (g_assign (v := .int .i64 1048576) rfl) rfl ?_
  refine wl_nil ?_
  refine hK2 _ _ ?_
  refine w_seq fun K3 hK3 => ?_
  refine w_region ?_
  refine wl_val (g_move (v := .slice a1 n1 c1) rfl) rfl ?_
  refine wl_val (g_move (v := .int .i64 1048576) rfl) rfl ?_
  refine wl_step rfl (g_call (vs := #[.slice a1 n1 c1, .int .i64 1048576]) CF14 (args2 rfl rfl) (m_laws_szCrossS_fn ((hp1.bel hB0).up hS0) 1048576 hm)) ?_
  rintro _ w4 ⟨r7, hm, rfl, hE5⟩
  have hB8 := hB0.trans (Ext.stp hE5 hS0.base)
  have hS9 := hS0.ext hE5
  refine wl_val (g_assign (v := .int .i64 r7) rfl) rfl ?_
  refine wl_nil ?_
  refine hK3 _ _ ?_
  refine w_seq fun K10 hK10 => ?_
  refine w_seq fun K11 hK11 => ?_
  refine w_region ?_
  refine wl_val (g_move (v := .int .i64 r7) rfl) rfl ?_
  refine wl_val (g_lss (a := r7) (b := 0) rfl rfl) rfl ?_
  refine wl_nil ?_
  refine hK11 _ _ ?_
  refine w_condI (p := r7 < 0) (b := (decide (r7 < 0))) rfl decide_eq_true_iff (fun h12 => ?_) (fun h12 => ?_)
  · replace hm := hm.1 h12
    refine w_seq fun K13 hK13 => ?_
    refine w_region ?_
    refine wl_val (g_assign (v := .bool true) rfl) rfl ?_
    refine wl_nil ?_
    refine hK13 _ _ ?_
    refine w_ret ?_
    repeat first | with_reducible refine q_then ?_ | with_reducible refine q_block ?_
    exact ret1 rfl (by decide) ⟨_, hm, rfl, toExt hB8⟩
  · replace hm := hm.2 h12
    refine w_skip ?_
    refine hK10 _ _ ?_
    refine w_seq fun K14 hK14 => ?_
    refine w_region ?_
    refine wl_val (g_move (v := .int .i64 p0) rfl) rfl ?_
    refine wl_val (g_move (v := .slice a1 n1 c1) rfl) rfl ?_
    refine wl_step rfl (g_call (vs := #[.slice a1 n1 c1]) CF16 (args1 rfl) (m_laws_toCrossS_fn ((hp1.bel hB8).up hS9) hm)) ?_
    rintro _ w15 ⟨r18, a19, n20, c21, hm, rfl, hE16, hN17⟩
    have hS23 := hS9.call1 hE16 hN17
    have hB24 := hB8.trans (Ext.stp hE16 hS9.base)
    refine wl_step rfl (g_call (vs := #[.int .i64 p0, .slice a19 n20 c21]) CF43 (args2 rfl rfl) (m_spec_IsUntwisted_fn p0 (oS.vw hS23.g0) hm)) ?_
    rintro _ w25 ⟨r28, hm, rfl, hE26⟩
    have hB29 := hB24.trans (Ext.stp hE26 hS23.base)
    have hS30 := hS23.ext hE26
    refine wl_val (g_assign (v := .bool r28) rfl) rfl ?_
    refine wl_nil ?_
    refine hK14 _ _ ?_
    refine w_seq fun K31 hK31 => ?_
    refine w_region ?_
    refine wl_val (g_move (v := .slice a1 n1 c1) rfl) rfl ?_
    refine wl_step rfl (g_call (vs := #[.slice a1 n1 c1]) CF16 (args1 rfl) (m_laws_toCrossS_fn ((hp1.bel hB29).up hS30) hm)) ?_
    rintro _ w32 ⟨r35, a36, n37, c38, hm, rfl, hE33, hN34⟩
    have hS40 := hS30.call1 hE33 hN34
    have hB41 := hB29.trans (Ext.stp hE33 hS30.base)
    refine wl_val (g_assign (v := .slice a36 n37 c38) rfl) rfl ?_
    refine wl_nil ?_
    refine hK31 _ _ ?_
    refine w_seq fun K42 hK42 => ?_
    refine w_region ?_
    refine wl_val (g_move (v := .int .i64 p0) rfl) rfl ?_
    refine wl_val (g_move (v := .slice a36 n37 c38) rfl) rfl ?_
    refine wl_step rfl (g_call (vs := #[.int .i64 p0, .slice a36 n37 c38]) CF35 (args2 rfl rfl) (m_impl_IsUntwisted_fn p0 (oS.vw hS40.g0) hm)) ?_
    rintro _ w43 ⟨r46, hm, rfl, hE44⟩
    have hB47 := hB41.trans (Ext.stp hE44 hS40.base)
    have hS48 := hS40.ext hE44
    refine wl_val (g_assign (v := .bool r46) rfl) rfl ?_
    refine wl_nil ?_
    refine hK42 _ _ ?_
    refine w_seq fun K49 hK49 => ?_
    refine w_seq fun K50 hK50 => ?_
    refine w_region ?_
    refine wl_val (g_move (v := .bool r46) rfl) rfl ?_
    refine wl_val (g_move (v := .bool r28) rfl) rfl ?_
    refine wl_val (g_neq_b (a := r46) (b := r28) UB rfl rfl) rfl ?_
    refine wl_nil ?_
    refine hK50 _ _ ?_
    refine w_condI (p := (r46) ≠ (r28)) (b := (decide ((r46) ≠ (r28)))) rfl decide_eq_true_iff (fun h51 => ?_) (fun h51 => ?_)
    · replace hm := hm.1 h51
      refine w_seq fun K52 hK52 => ?_
      refine w_region ?_
      refine wl_val (g_assign (v := .bool false) rfl) rfl ?_
      refine wl_nil ?_
      refine hK52 _ _ ?_
      refine w_ret ?_
      repeat first | with_reducible refine q_then ?_ | with_reducible refine q_block ?_
      exact ret1 rfl (by decide) ⟨_, hm, rfl, toExt hB47⟩
    · replace hm := hm.2 h51
      refine w_skip ?_
      refine hK49 _ _ ?_
      refine w_seq fun K53 hK53 => ?_
      refine w_seq fun K54 hK54 => ?_
      refine w_region ?_
      refine wl_val (g_move (v := .slice a36 n37 c38) rfl) rfl ?_
      refine wl_val (g_move (v := .slice a1 n1 c1) rfl) rfl ?_
      refine wl_step rfl (g_call (vs := #[.slice a1 n1 c1]) CF16 (args1 rfl) (m_laws_toCrossS_fn ((hp1.bel hB47).up hS48) hm)) ?_
      rintro _ w55 ⟨r58, a59, n60, c61, hm, rfl, hE56, hN57⟩
      have hS63 := hS48.call1 hE56 hN57
      have hB64 := hB47.trans (Ext.stp hE56 hS48.base)
      refine wl_step rfl (g_call (vs := #[.slice a36 n37 c38, .slice a59 n60 c61]) CF18 (args2 rfl rfl) (m_laws_eqCrossS_fn (oS.vw hS63.g1) (oS.vw hS63.g0) hm)) ?_
      rintro _ w65 ⟨r68, hm, rfl, hE66⟩
      have hB69 := hB64.trans (Ext.stp hE66 hS63.base)
      have hS70 := hS63.ext hE66
      refine wl_val (g_not (a := r68) rfl) rfl ?_
      refine wl_nil ?_
      refine hK54 _ _ ?_
      refine w_condI (p := ¬ (r68 = true)) (b := (!r68)) rfl (i_not Iff.rfl) (fun h71 => ?_) (fun h71 => ?_)
      · replace hm := hm.1 h71
        refine w_seq fun K72 hK72 => ?_
        refine w_region ?_
        refine wl_val (g_assign (v := .bool false) rfl) rfl ?_
        refine wl_nil ?_
        refine hK72 _ _ ?_
        refine w_ret ?_
        repeat first | with_reducible refine q_then ?_ | with_reducible refine q_block ?_
        exact ret1 rfl (by decide) ⟨_, hm, rfl, toExt hB69⟩
      · replace hm := hm.2 h71
        refine w_skip ?_
        refine hK53 _ _ ?_
        refine w_seq fun K73 hK73 => ?_
        refine w_region ?_
        refine wl_val (g_assign (v := .bool true) rfl) rfl ?_
        refine wl_nil ?_
        refine hK73 _ _ ?_
        refine w_ret ?_
        repeat first | with_reducible refine q_then ?_ | with_reducible refine q_block ?_
        exact ret1 rfl (by decide) ⟨_, hm, rfl, toExt hB69⟩

end Go.Proofs.Ytcgkcoogaieolaa
