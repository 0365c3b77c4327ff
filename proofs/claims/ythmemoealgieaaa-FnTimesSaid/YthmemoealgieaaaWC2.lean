/- The walks: the code does what its model says. Printed by a program (gen2.py). No statement of the claim stands here. -/
import Derived.Test.YthmemoealgieaaaSop
import Derived.Test.YthmemoealgieaaaFacts
import Derived.Test.YthmemoealgieaaaMC
import Derived.Test.YthmemoealgieaaaWC1
namespace Go.Proofs.Ythmemoealgieaaa
open Go Go.RowKit
set_option maxRecDepth 100000
theorem m_impl_PlayTime_fn {w : World} {a0 : Option Addr} {n0 c0 : Nat} {y0 : List CueD} {p0 : List CueC} {Q : Int → Prop} (hp0 : Tv w.heap.size w a0 n0 c0 y0 p0) (hm : m_impl_PlayTime p0 Q) :
    Fn Try.prog 40 #[.slice a0 n0 c0] w (fun v w' => ∃ (r0 : Int), Q r0 ∧ v = .int .i64 r0 ∧ Ext w w') := by
  unfold m_impl_PlayTime at hm
  have hB0 := Below.refl w.heap.size w
  have hS0 : Sep w w.heap.size [] := Sep.nil (Nat.le_refl _)
  refine fn_of_wp Try.func40 rfl (by kernel_rfl) (Nat.le_of_ble_eq_true rfl) ?_
  refine w_seq fun K1 hK1 => ?_
  refine w_region ?_
  refine wl_val (g_assign (v := .int .i64 0) rfl) rfl ?_
  refine wl_nil ?_
  refine hK1 _ _ ?_
  refine w_seq fun K2 hK2 => ?_
  refine w_seq fun K3 hK3 => ?_
  refine w_region ?_
  refine wl_val (g_move (v := .slice a0 n0 c0) rfl) rfl ?_
  refine wl_step rfl (g_call (vs := #[.slice a0 n0 c0]) CF29 (args1 rfl) (m_impl_CuesOk_fn ((hp0.bel hB0).up hS0) hm)) ?_
  rintro _ w4 ⟨r7, hm, rfl, hE5⟩
  have hB8 := hB0.trans (Ext.stp hE5 hS0.base)
  have hS9 := hS0.ext hE5
  refine wl_val (g_not (a := r7) rfl) rfl ?_
  refine wl_nil ?_
  refine hK3 _ _ ?_
  refine w_condI (p := ¬ (r7 = true)) (b := (!r7)) rfl (i_not Iff.rfl) (fun h10 => ?_) (fun h10 => ?_)
  · replace hm := hm.1 h10
    refine w_seq fun K11 hK11 => ?_
    refine w_region ?_
    refine wl_val (g_assign (v := .int .i64 (-1)) rfl) rfl ?_
    refine wl_nil ?_
    refine hK11 _ _ ?_
    refine w_ret ?_
    repeat first | with_reducible refine q_then ?_ | with_reducible refine q_block ?_
    exact ret1 rfl (by decide) ⟨_, hm, rfl, toExt hB8⟩
  · replace hm := hm.2 h10
    refine w_skip ?_
    refine hK2 _ _ ?_
    refine w_seq fun K12 hK12 => ?_
    refine w_region ?_
    refine wl_val (g_assign (v := .int .i64 0) rfl) rfl ?_
    refine wl_nil ?_
    refine hK12 _ _ ?_
    refine w_cut (σ := Int) (fun v61 => [(3, .int .i64 v61)]) (fun v61 w' => m_impl_PlayTime_K0 Q v61 ∧ Below w.heap.size w w' ∧ Sep w' w.heap.size []) ?_ ?_
    · refine w_seq fun K63 hK63 => ?_
      refine w_region ?_
      refine wl_val (g_move (v := .slice a0 n0 c0) rfl) rfl ?_
      refine wl_step rfl (g_call (vs := #[.slice a0 n0 c0]) CF38 (args1 rfl) (m_impl_StartsOf_fn ((hp0.bel hB8).up hS9) hm)) ?_
      rintro _ w64 ⟨r67, a68, n69, c70, hm, rfl, hE65, hN66⟩
      have hS72 := hS9.call1 hE65 hN66
      have hB73 := hB8.trans (Ext.stp hE65 hS9.base)
      refine wl_val (q_len SL24 rfl (Vw.len (oS.vw hS72.g0))) rfl ?_
      refine wl_val (g_move (v := .int .i64 0) rfl) rfl ?_
      refine wl_nil ?_
      refine hK63 _ _ ?_
      refine w_block ?_
      obtain ⟨I76, μ77, h078, hr79⟩ := hm
      refine w_for (σ := Int × Int) (fun ⟨v74, v75⟩ => [(0, .slice a0 n0 c0), (3, .int .i64 v74), (10, .slice a68 n69 c70), (11, .int .i64 (r67.length : Int)), (12, .int .i64 v75)]) (fun ⟨v74, v75⟩ w' => I76 v74 v75 ∧ Below w.heap.size w w' ∧ Sep w' w.heap.size [oS 3 a68 n69 c70 (r67 : List Int)]) (fun ⟨v74, v75⟩ => μ77 v74 v75) (0, 0) ⟨rfl, rfl, rfl, rfl, rfl, trivial⟩ ⟨h078, hB73, hS72⟩ ?_
      rintro ⟨v74, v75⟩ b_ w80 ⟨hi_, hB81, hS82⟩
      show Wp _ _ _ _ (upds b_ [(0, .slice a0 n0 c0), (3, .int .i64 v74), (10, .slice a68 n69 c70), (11, .int .i64 (r67.length : Int)), (12, .int .i64 v75)]) w80
      have hm := hr79 v74 v75 hi_
      refine w_seq fun K84 hK84 => ?_
      refine w_region ?_
      refine wl_val (g_lss (a := v75) (b := (r67.length : Int)) rfl rfl) rfl ?_
      refine wl_nil ?_
      refine hK84 _ _ ?_
      refine w_seq fun K85 hK85 => ?_
      refine w_condI (p := v75 < (r67.length : Int)) (b := (decide (v75 < (r67.length : Int)))) rfl decide_eq_true_iff (fun h86 => ?_) (fun h86 => ?_)
      · replace hm := hm.1 h86
        refine w_skip ?_
        refine hK85 _ _ ?_
        refine w_seq fun K87 hK87 => ?_
        refine w_block ?_
        refine w_seq fun K88 hK88 => ?_
        refine w_region ?_
        refine wl_val (g_move (v := .int .i64 v75) rfl) rfl ?_
        obtain ⟨hg89, hm⟩ := hm
        refine wl_val (q_index (i := v75) SL24 rfl rfl (oS.vw hS82.g0) hg89) rfl ?_
        refine wl_val (q_load (i := v75) (v := .int .i64 (r67[(Int.toNat v75)]!)) ON3 (oS.vw hS82.g0) hg89 rfl rfl) rfl ?_
        refine wl_val (g_assign (v := .int .i64 v75) rfl) rfl ?_
        refine wl_val (g_assign (v := .int .i64 (r67[(Int.toNat v75)]!)) rfl) rfl ?_
        refine wl_nil ?_
        refine hK88 _ _ ?_
        refine w_region ?_
        refine wl_val (g_move (v := .int .i64 v74) rfl) rfl ?_
        refine wl_val (g_move (v := .int .i64 (r67[(Int.toNat v75)]!)) rfl) rfl ?_
        refine wl_val (g_move (v := .slice a0 n0 c0) rfl) rfl ?_
        refine wl_val (g_move (v := .int .i64 v75) rfl) rfl ?_
        obtain ⟨hg90, hm⟩ := hm
        refine wl_val (q_index (i := v75) SL26 rfl rfl (Tv.o (hp0.bel hB81)) (Tv.g (hp0.bel hB81) hg90)) rfl ?_
        refine wl_val (g_fieldAddr (q := (adr a0).add ((Int.toNat v75) * El.m CueD)) FL39_0 ON3 rfl) rfl ?_
        refine wl_val (q_loadF (i := v75) (j := 0) (v := .int .i64 (p0[(Int.toNat v75)]!.1)) ON3 (Tv.o (hp0.bel hB81)) (Tv.g (hp0.bel hB81) hg90) (by rw [← Tv.ticks (hp0.bel hB81) hg90]; rfl) rfl) rfl ?_
        obtain ⟨hg91, hm⟩ := hm
        refine wl_val (g_add (a := r67[(Int.toNat v75)]!) (b := p0[(Int.toNat v75)]!.1) rfl rfl hg91) rfl ?_
        refine wl_val (g_max (a := v74) (b := (r67[(Int.toNat v75)]! + p0[(Int.toNat v75)]!.1)) rfl rfl) rfl ?_
        refine wl_val (g_assign (v := .int .i64 (max v74 (r67[(Int.toNat v75)]! + p0[(Int.toNat v75)]!.1))) rfl) rfl ?_
        refine wl_nil ?_
        refine hK87 _ _ ?_
        refine w_region ?_
        obtain ⟨hg92, hm⟩ := hm
        refine wl_val (g_add (a := v75) (b := 1) rfl rfl hg92) rfl ?_
        refine wl_val (g_move (v := .int .i64 (v75 + 1)) rfl) rfl ?_
        refine wl_nil ?_
        exact ⟨((max v74 (r67[(Int.toNat v75)]! + p0[(Int.toNat v75)]!.1)), (v75 + 1)), hm.2, ⟨rfl, rfl, rfl, rfl, rfl, trivial⟩, ⟨hm.1, hB81, hS82⟩⟩
      · replace hm := hm.2 h86
        refine w_exit ?_
        have hS93 := hS82.tail
        exact ⟨(v74), ⟨rfl, trivial⟩, ⟨hm, hB81, hS93⟩⟩
    · rintro v61 b_ w94 ⟨hm, hB95, hS96⟩
      show Wp _ _ _ _ (upds b_ [(3, .int .i64 v61)]) w94
      refine w_seq fun K97 hK97 => ?_
      refine w_region ?_
      refine wl_val (g_move (v := .int .i64 v61) rfl) rfl ?_
      refine wl_val (g_assign (v := .int .i64 v61) rfl) rfl ?_
      refine wl_nil ?_
      refine hK97 _ _ ?_
      refine w_ret ?_
      repeat first | with_reducible refine q_then ?_ | with_reducible refine q_block ?_
      exact ret1 rfl (by decide) ⟨_, hm, rfl, toExt hB95⟩

theorem m_impl_LatestStarts_fn {w : World} {a0 : Option Addr} {n0 c0 : Nat} {y0 : List CueD} {p0 : List CueC} {Q : (List Int) → Prop} (hp0 : Tv w.heap.size w a0 n0 c0 y0 p0) (hm : m_impl_LatestStarts p0 Q) :
    Fn Try.prog 39 #[.slice a0 n0 c0] w (fun v w' => ∃ (r0 : List Int) (a0 : Option Addr) (n0 c0 : Nat), Q r0 ∧ v = .slice a0 n0 c0 ∧ Ext w w' ∧ Sep w' w.heap.size [oS 3 a0 n0 c0 r0]) := by
  unfold m_impl_LatestStarts at hm
  have hB0 := Below.refl w.heap.size w
  have hS0 : Sep w w.heap.size [] := Sep.nil (Nat.le_refl _)
  refine fn_of_wp Try.func39 rfl (by kernel_rfl) (Nat.le_of_ble_eq_true rfl) ?_
  refine w_seq fun K1 hK1 => ?_
  refine w_region ?_
  refine wl_val (g_assign (v := .slice none 0 0) rfl) rfl ?_
  refine wl_nil ?_
  refine hK1 _ _ ?_
  refine w_seq fun K2 hK2 => ?_
  refine w_seq fun K3 hK3 => ?_
  refine w_region ?_
  refine wl_val (g_move (v := .slice a0 n0 c0) rfl) rfl ?_
  refine wl_step rfl (g_call (vs := #[.slice a0 n0 c0]) CF29 (args1 rfl) (m_impl_CuesOk_fn ((hp0.bel hB0).up hS0) hm)) ?_
  rintro _ w4 ⟨r7, hm, rfl, hE5⟩
  have hB8 := hB0.trans (Ext.stp hE5 hS0.base)
  have hS9 := hS0.ext hE5
  refine wl_val (g_not (a := r7) rfl) rfl ?_
  refine wl_nil ?_
  refine hK3 _ _ ?_
  refine w_condI (p := ¬ (r7 = true)) (b := (!r7)) rfl (i_not Iff.rfl) (fun h10 => ?_) (fun h10 => ?_)
  · replace hm := hm.1 h10
    refine w_seq fun K11 hK11 => ?_
    refine w_region ?_
    refine wl_val (g_assign (v := .slice none 0 0) rfl) rfl ?_
    refine wl_nil ?_
    refine hK11 _ _ ?_
    refine w_ret ?_
    have hS12 := hS9.nilS (α := Int) (E := 3)
    repeat first | with_reducible refine q_then ?_ | with_reducible refine q_block ?_
    exact ret1 rfl (by decide) ⟨_, _, _, _, hm, rfl, toExt hB8, hS12⟩
  · replace hm := hm.2 h10
    refine w_skip ?_
    refine hK2 _ _ ?_
    refine w_seq fun K14 hK14 => ?_
    refine w_region ?_
    refine wl_val (g_move (v := .slice a0 n0 c0) rfl) rfl ?_
    refine wl_step rfl (g_call (vs := #[.slice a0 n0 c0]) CF40 (args1 rfl) (m_impl_PlayTime_fn ((hp0.bel hB8).up hS9) hm)) ?_
    rintro _ w15 ⟨r18, hm, rfl, hE16⟩
    have hB19 := hB8.trans (Ext.stp hE16 hS9.base)
    have hS20 := hS9.ext hE16
    refine wl_val (g_move (v := .slice a0 n0 c0) rfl) rfl ?_
    refine wl_step rfl (g_call (vs := #[.slice a0 n0 c0]) CF28 (args1 rfl) (m_impl_CueOrder_fn ((hp0.bel hB19).up hS20) hm)) ?_
    rintro _ w21 ⟨r24, a25, n26, c27, hm, rfl, hE22, hN23⟩
    have hS29 := hS20.call1 hE22 hN23
    have hB30 := hB19.trans (Ext.stp hE22 hS20.base)
    refine wl_val (g_assign (v := .int .i64 r18) rfl) rfl ?_
    refine wl_val (g_assign (v := .slice a25 n26 c27) rfl) rfl ?_
    refine wl_nil ?_
    refine hK14 _ _ ?_
    refine w_seq fun K31 hK31 => ?_
    refine w_region ?_
    refine wl_step rfl (q_lit0 (α := Int) rfl SL24 hS29) ?_
    rintro _ w32 ⟨a33, rfl, hS35, hE34⟩
    have hB37 := hB30.trans (Ext.stp hE34 hS29.base)
    refine wl_val (g_assign (v := .slice a33 0 0) rfl) rfl ?_
    refine wl_nil ?_
    refine hK31 _ _ ?_
    refine w_cut (σ := List Int × Option Addr × Nat × Nat) (fun ⟨x132, a133, n134, c135⟩ => [(0, .slice a0 n0 c0), (4, .slice a25 n26 c27), (5, .slice a133 n134 c135)]) (fun ⟨x132, a133, n134, c135⟩ w' => m_impl_LatestStarts_K2 p0 r24 Q x132 ∧ Below w.heap.size w w' ∧ Sep w' w.heap.size [oS 3 a25 n26 c27 (r24 : List Int), oS 3 a133 n134 c135 (x132 : List Int)]) ?_ ?_
    · refine w_seq fun K137 hK137 => ?_
      refine w_region ?_
      refine wl_val (g_move (v := .slice a0 n0 c0) rfl) rfl ?_
      refine wl_val (q_len SL26 rfl (Tv.len (hp0.bel hB37))) rfl ?_
      refine wl_val (g_move (v := .int .i64 0) rfl) rfl ?_
      refine wl_nil ?_
      refine hK137 _ _ ?_
      refine w_block ?_
      have hS143 := hS35.f1
      obtain ⟨I144, μ145, h0146, hr147⟩ := hm
      refine w_for (σ := List Int × Option Addr × Nat × Nat × Int) (fun ⟨x138, a139, n140, c141, v142⟩ => [(0, .slice a0 n0 c0), (3, .int .i64 r18), (4, .slice a25 n26 c27), (5, .slice a139 n140 c141), (20, .slice a0 n0 c0), (21, .int .i64 (p0.length : Int)), (22, .int .i64 v142)]) (fun ⟨x138, a139, n140, c141, v142⟩ w' => I144 x138 v142 ∧ Below w.heap.size w w' ∧ Sep w' w.heap.size [oS 3 a25 n26 c27 (r24 : List Int), oS 3 a139 n140 c141 (x138 : List Int)]) (fun ⟨x138, a139, n140, c141, v142⟩ => μ145 x138 v142) ([], a33, 0, 0, 0) ⟨rfl, rfl, rfl, rfl, rfl, rfl, rfl, trivial⟩ ⟨h0146, hB37, hS143⟩ ?_
      rintro ⟨x138, a139, n140, c141, v142⟩ b_ w148 ⟨hi_, hB149, hS150⟩
      show Wp _ _ _ _ (upds b_ [(0, .slice a0 n0 c0), (3, .int .i64 r18), (4, .slice a25 n26 c27), (5, .slice a139 n140 c141), (20, .slice a0 n0 c0), (21, .int .i64 (p0.length : Int)), (22, .int .i64 v142)]) w148
      have hm := hr147 x138 v142 hi_
      refine w_seq fun K152 hK152 => ?_
      refine w_region ?_
      refine wl_val (g_lss (a := v142) (b := (p0.length : Int)) rfl rfl) rfl ?_
      refine wl_nil ?_
      refine hK152 _ _ ?_
      refine w_seq fun K153 hK153 => ?_
      refine w_condI (p := v142 < (p0.length : Int)) (b := (decide (v142 < (p0.length : Int)))) rfl decide_eq_true_iff (fun h154 => ?_) (fun h154 => ?_)
      · replace hm := hm.1 h154
        refine w_skip ?_
        refine hK153 _ _ ?_
        refine w_seq fun K155 hK155 => ?_
        refine w_block ?_
        refine w_seq fun K156 hK156 => ?_
        refine w_region ?_
        obtain ⟨hg157, hm⟩ := hm
        refine wl_val (q_index (i := v142) SL26 rfl rfl (Tv.o (hp0.bel hB149)) (Tv.g (hp0.bel hB149) hg157)) rfl ?_
        refine wl_val (q_loadS (i := v142) (cs := [.int .i64 (p0[(Int.toNat v142)]!.1), .slice ((y0[(Int.toNat v142)]!).2.1.1) ((y0[(Int.toNat v142)]!).2.1.2.2.length) ((y0[(Int.toNat v142)]!).2.1.2.1), .slice ((y0[(Int.toNat v142)]!).2.2.1) ((y0[(Int.toNat v142)]!).2.2.2.2.length) ((y0[(Int.toNat v142)]!).2.2.2.1)]) AG39 (Tv.o (hp0.bel hB149)) (Tv.g (hp0.bel hB149) hg157) (by rw [← Tv.ticks (hp0.bel hB149) hg157]; rfl) rfl) rfl ?_
        refine wl_step rfl (q_alloc (cs := #[.int .i64 0, .slice none 0 0, .slice none 0 0]) ZR39 rfl hS150) ?_
        rintro _ w158 ⟨g159, rfl, hS161, hE160⟩
        have hB163 := hB149.trans (Ext.stp hE160 hS150.base)
        refine wl_step rfl (q_storeB (i := 0) (bs' := #[.int .i64 (p0[(Int.toNat v142)]!.1), .slice ((y0[(Int.toNat v142)]!).2.1.1) ((y0[(Int.toNat v142)]!).2.1.2.2.length) ((y0[(Int.toNat v142)]!).2.1.2.1), .slice ((y0[(Int.toNat v142)]!).2.2.1) ((y0[(Int.toNat v142)]!).2.2.2.2.length) ((y0[(Int.toNat v142)]!).2.2.2.1)]) (vs := [.int .i64 (p0[(Int.toNat v142)]!.1), .slice ((y0[(Int.toNat v142)]!).2.1.1) ((y0[(Int.toNat v142)]!).2.1.2.2.length) ((y0[(Int.toNat v142)]!).2.1.2.1), .slice ((y0[(Int.toNat v142)]!).2.2.1) ((y0[(Int.toNat v142)]!).2.2.2.2.length) ((y0[(Int.toNat v142)]!).2.2.2.1)]) hS161 AG39.sz rfl rfl rfl (by simp [Value.oneCell']) (Nat.le_of_ble_eq_true rfl) rfl) ?_
        rintro _ w164 ⟨rfl, hS165, hb166⟩
        have hB167 := hB163.trans hb166
        refine wl_nil ?_
        refine hK156 _ _ ?_
        refine w_region ?_
        refine wl_val (g_move (v := .slice a139 n140 c141) rfl) rfl ?_
        refine wl_val (g_move (v := .int .i64 r18) rfl) rfl ?_
        refine wl_val (g_fieldAddr (q := (⟨g159, 0, none⟩ : Addr)) FL39_0 ON3 rfl) rfl ?_
        refine wl_val (q_loadB (i := 0) (bs := #[.int .i64 (p0[(Int.toNat v142)]!.1), .slice ((y0[(Int.toNat v142)]!).2.1.1) ((y0[(Int.toNat v142)]!).2.1.2.2.length) ((y0[(Int.toNat v142)]!).2.1.2.1), .slice ((y0[(Int.toNat v142)]!).2.2.1) ((y0[(Int.toNat v142)]!).2.2.2.2.length) ((y0[(Int.toNat v142)]!).2.2.2.1)]) hS165.g0 ON3 rfl rfl) rfl ?_
        obtain ⟨hg168, hm⟩ := hm
        refine wl_val (g_sub (a := r18) (b := p0[(Int.toNat v142)]!.1) rfl rfl hg168) rfl ?_
        refine wl_step rfl (q_lit1 (y := ((r18 - p0[(Int.toNat v142)]!.1) : Int)) SL24 rfl rfl (by decide) hS165) ?_
        rintro _ w169 ⟨a170, rfl, hS172, hE171⟩
        have hB174 := hB167.trans (Ext.stp hE171 hS165.base)
        have hS180 := hS172.f3
        obtain ⟨hg181, hm⟩ := hm
        refine wl_step rfl (q_append SL24 rfl rfl hS180 (oS.vw hS180.g1) hg181 (by decide)) ?_
        rintro _ w175 ⟨a176, c177, rfl, hS179, hb178⟩
        have hB182 := hB174.trans hb178
        refine wl_val (g_assign (v := .slice a176 (n140 + 1) c177) rfl) rfl ?_
        refine wl_nil ?_
        refine hK155 _ _ ?_
        refine w_region ?_
        obtain ⟨hg183, hm⟩ := hm
        refine wl_val (g_add (a := v142) (b := 1) rfl rfl hg183) rfl ?_
        refine wl_val (g_move (v := .int .i64 (v142 + 1)) rfl) rfl ?_
        refine wl_nil ?_
        have hS184 := hS179.f1
        have hS185 := hS184.tail
        have hS186 := hS185.f1
        have hS187 := hS186.tail
        have hS188 := hS187.f1
        exact ⟨((x138 ++ ([(r18 - p0[(Int.toNat v142)]!.1)])), a176, (n140 + 1), c177, (v142 + 1)), hm.2, ⟨rfl, rfl, rfl, rfl, rfl, rfl, rfl, trivial⟩, ⟨hm.1, hB182, hS188⟩⟩
      · replace hm := hm.2 h154
        refine w_exit ?_
        exact ⟨(x138, a139, n140, c141), ⟨rfl, rfl, rfl, trivial⟩, ⟨hm, hB149, hS150⟩⟩
    · rintro ⟨x132, a133, n134, c135⟩ b_ w189 ⟨hm, hB190, hS191⟩
      show Wp _ _ _ _ (upds b_ [(0, .slice a0 n0 c0), (4, .slice a25 n26 c27), (5, .slice a133 n134 c135)]) w189
      refine w_cut (σ := List Int) (fun x689 => [(5, .slice a133 n134 c135)]) (fun x689 w' => m_impl_LatestStarts_K1 Q x689 ∧ Below w.heap.size w w' ∧ Sep w' w.heap.size [oS 3 a133 n134 c135 (x689 : List Int)]) ?_ ?_
      · refine w_seq fun K691 hK691 => ?_
        refine w_region ?_
        refine wl_val (g_move (v := .slice a25 n26 c27) rfl) rfl ?_
        refine wl_val (q_len SL24 rfl (Vw.len (oS.vw hS191.g0))) rfl ?_
        obtain ⟨hg692, hm⟩ := hm
        refine wl_val (g_sub (a := (r24.length : Int)) (b := 1) rfl rfl hg692) rfl ?_
        refine wl_val (g_assign (v := .int .i64 ((r24.length : Int) - 1)) rfl) rfl ?_
        refine wl_nil ?_
        refine hK691 _ _ ?_
        refine w_block ?_
        obtain ⟨I695, μ696, h0697, hr698⟩ := hm
        refine w_for (σ := List Int × Int) (fun ⟨x693, v694⟩ => [(0, .slice a0 n0 c0), (4, .slice a25 n26 c27), (5, .slice a133 n134 c135), (8, .int .i64 v694)]) (fun ⟨x693, v694⟩ w' => I695 x693 v694 ∧ Below w.heap.size w w' ∧ Sep w' w.heap.size [oS 3 a25 n26 c27 (r24 : List Int), oS 3 a133 n134 c135 (x693 : List Int)]) (fun ⟨x693, v694⟩ => μ696 x693 v694) (x132, ((r24.length : Int) - 1)) ⟨rfl, rfl, rfl, rfl, trivial⟩ ⟨h0697, hB190, hS191⟩ ?_
        rintro ⟨x693, v694⟩ b_ w699 ⟨hi_, hB700, hS701⟩
        show Wp _ _ _ _ (upds b_ [(0, .slice a0 n0 c0), (4, .slice a25 n26 c27), (5, .slice a133 n134 c135), (8, .int .i64 v694)]) w699
        have hm := hr698 x693 v694 hi_
        refine w_seq fun K703 hK703 => ?_
        refine w_seq fun K704 hK704 => ?_
        refine w_region ?_
        refine wl_val (g_move (v := .int .i64 v694) rfl) rfl ?_
        refine wl_val (g_geq (a := v694) (b := 0) rfl rfl) rfl ?_
        refine wl_nil ?_
        refine hK704 _ _ ?_
        refine w_condI (p := v694 ≥ 0) (b := (decide (v694 ≥ 0))) rfl decide_eq_true_iff (fun h705 => ?_) (fun h705 => ?_)
        · replace hm := hm.1 h705
          refine w_skip ?_
          refine hK703 _ _ ?_
          refine w_cut (σ := List Int) (fun x706 => [(0, .slice a0 n0 c0), (4, .slice a25 n26 c27), (5, .slice a133 n134 c135), (8, .int .i64 v694)]) (fun x706 w' => m_impl_LatestStarts_K0 v694 (fun x693' v694' => I695 x693' v694' ∧ μ696 x693' v694' < μ696 x693 v694) x706 ∧ Below w.heap.size w w' ∧ Sep w' w.heap.size [oS 3 a25 n26 c27 (r24 : List Int), oS 3 a133 n134 c135 (x706 : List Int)]) ?_ ?_
          · refine w_block ?_
            refine w_seq fun K708 hK708 => ?_
            refine w_region ?_
            refine wl_val (g_move (v := .slice a25 n26 c27) rfl) rfl ?_
            refine wl_val (g_move (v := .int .i64 v694) rfl) rfl ?_
            obtain ⟨hg709, hm⟩ := hm
            refine wl_val (q_index (i := v694) SL24 rfl rfl (oS.vw hS701.g0) hg709) rfl ?_
            refine wl_val (q_load (i := v694) (v := .int .i64 (r24[(Int.toNat v694)]!)) ON3 (oS.vw hS701.g0) hg709 rfl rfl) rfl ?_
            refine wl_val (g_assign (v := .int .i64 (r24[(Int.toNat v694)]!)) rfl) rfl ?_
            refine wl_nil ?_
            refine hK708 _ _ ?_
            refine w_seq fun K710 hK710 => ?_
            refine w_region ?_
            refine wl_val (g_move (v := .slice a0 n0 c0) rfl) rfl ?_
            refine wl_val (g_move (v := .int .i64 (r24[(Int.toNat v694)]!)) rfl) rfl ?_
            obtain ⟨hg711, hm⟩ := hm
            refine wl_val (q_index (i := r24[(Int.toNat v694)]!) SL26 rfl rfl (Tv.o (hp0.bel hB700)) (Tv.g (hp0.bel hB700) hg711)) rfl ?_
            refine wl_val (g_fieldAddr (q := (adr a0).add ((Int.toNat (r24[(Int.toNat v694)]!)) * El.m CueD)) FL39_1 ON24 rfl) rfl ?_
            refine wl_val (q_loadF (i := r24[(Int.toNat v694)]!) (j := 1) (v := .slice ((y0[(Int.toNat (r24[(Int.toNat v694)]!))]!).2.1.1) ((y0[(Int.toNat (r24[(Int.toNat v694)]!))]!).2.1.2.2.length) ((y0[(Int.toNat (r24[(Int.toNat v694)]!))]!).2.1.2.1)) ON24 (Tv.o (hp0.bel hB700)) (Tv.g (hp0.bel hB700) hg711) rfl rfl) rfl ?_
            refine wl_val (q_len SL24 rfl (Vw.len (Tv.rowC0 (hp0.bel hB700) hg711))) rfl ?_
            refine wl_val (g_move (v := .int .i64 0) rfl) rfl ?_
            refine wl_nil ?_
            refine hK710 _ _ ?_
            refine w_block ?_
            obtain ⟨I714, μ715, h0716, hr717⟩ := hm
            refine w_for (σ := List Int × Int) (fun ⟨x712, v713⟩ => [(0, .slice a0 n0 c0), (4, .slice a25 n26 c27), (5, .slice a133 n134 c135), (8, .int .i64 v694), (9, .int .i64 (r24[(Int.toNat v694)]!)), (49, .slice ((y0[(Int.toNat (r24[(Int.toNat v694)]!))]!).2.1.1) ((y0[(Int.toNat (r24[(Int.toNat v694)]!))]!).2.1.2.2.length) ((y0[(Int.toNat (r24[(Int.toNat v694)]!))]!).2.1.2.1)), (50, .int .i64 ((p0[(Int.toNat (r24[(Int.toNat v694)]!))]!.2.1).length : Int)), (51, .int .i64 v713)]) (fun ⟨x712, v713⟩ w' => I714 x712 v713 ∧ Below w.heap.size w w' ∧ Sep w' w.heap.size [oS 3 a25 n26 c27 (r24 : List Int), oS 3 a133 n134 c135 (x712 : List Int)]) (fun ⟨x712, v713⟩ => μ715 x712 v713) (x693, 0) ⟨rfl, rfl, rfl, rfl, rfl, rfl, rfl, rfl, trivial⟩ ⟨h0716, hB700, hS701⟩ ?_
            rintro ⟨x712, v713⟩ b_ w718 ⟨hi_, hB719, hS720⟩
            show Wp _ _ _ _ (upds b_ [(0, .slice a0 n0 c0), (4, .slice a25 n26 c27), (5, .slice a133 n134 c135), (8, .int .i64 v694), (9, .int .i64 (r24[(Int.toNat v694)]!)), (49, .slice ((y0[(Int.toNat (r24[(Int.toNat v694)]!))]!).2.1.1) ((y0[(Int.toNat (r24[(Int.toNat v694)]!))]!).2.1.2.2.length) ((y0[(Int.toNat (r24[(Int.toNat v694)]!))]!).2.1.2.1)), (50, .int .i64 ((p0[(Int.toNat (r24[(Int.toNat v694)]!))]!.2.1).length : Int)), (51, .int .i64 v713)]) w718
            have hm := hr717 x712 v713 hi_
            refine w_seq fun K722 hK722 => ?_
            refine w_region ?_
            refine wl_val (g_lss (a := v713) (b := ((p0[(Int.toNat (r24[(Int.toNat v694)]!))]!.2.1).length : Int)) rfl rfl) rfl ?_
            refine wl_nil ?_
            refine hK722 _ _ ?_
            refine w_seq fun K723 hK723 => ?_
            refine w_condI (p := v713 < ((p0[(Int.toNat (r24[(Int.toNat v694)]!))]!.2.1).length : Int)) (b := (decide (v713 < ((p0[(Int.toNat (r24[(Int.toNat v694)]!))]!.2.1).length : Int)))) rfl decide_eq_true_iff (fun h724 => ?_) (fun h724 => ?_)
            · replace hm := hm.1 h724
              refine w_skip ?_
              refine hK723 _ _ ?_
              refine w_seq fun K725 hK725 => ?_
              refine w_block ?_
              refine w_seq fun K726 hK726 => ?_
              refine w_region ?_
              obtain ⟨hg727, hm⟩ := hm
              refine wl_val (q_index (i := v713) SL24 rfl rfl (Tv.rowC0 (hp0.bel hB719) hg711) hg727) rfl ?_
              refine wl_val (q_load (i := v713) (v := .int .i64 ((p0[(Int.toNat (r24[(Int.toNat v694)]!))]!.2.1)[(Int.toNat v713)]!)) ON3 (Tv.rowC0 (hp0.bel hB719) hg711) hg727 rfl rfl) rfl ?_
              refine wl_val (g_assign (v := .int .i64 ((p0[(Int.toNat (r24[(Int.toNat v694)]!))]!.2.1)[(Int.toNat v713)]!)) rfl) rfl ?_
              refine wl_nil ?_
              refine hK726 _ _ ?_
              refine w_draw (X := Ext) (Y := Ext) [0, 0, 0, 0, 0, 0, 0, 0, 0, 0, 0, 0, 0, 0, 0, 0, 0, 0, 1] MIX (by decide +kernel) rfl Ext.refl (fun _ _ _ => Ext.trans) (fun _ _ _ => Chg.trans) (fun _ _ h => Ext.chg h _) (fun w728 hE729 => ?_)
              have hB730 := hB719.trans (Ext.stp hE729 hS720.base)
              have hS731 := hS720.ext hE729
              refine ⟨.slice a133 n134 c135, fun w732 hX733 => od_plain rfl (by have hS734 := hS731.ext hX733; have hB735 := hB730.trans (Ext.stp hX733 hS731.base); exact is_ext (g_move (v := .slice a133 n134 c135) rfl)), ?_⟩
              refine ⟨.int .i64 ((p0[(Int.toNat (r24[(Int.toNat v694)]!))]!.2.1)[(Int.toNat v713)]!), fun w736 hX737 => od_plain rfl (by have hS738 := hS731.ext hX737; have hB739 := hB730.trans (Ext.stp hX737 hS731.base); exact is_ext (g_move (v := .int .i64 ((p0[(Int.toNat (r24[(Int.toNat v694)]!))]!.2.1)[(Int.toNat v713)]!)) rfl)), ?_⟩
              refine ⟨.slice a133 n134 c135, fun w740 hX741 => od_plain rfl (by have hS742 := hS731.ext hX741; have hB743 := hB730.trans (Ext.stp hX741 hS731.base); exact is_ext (g_move (v := .slice a133 n134 c135) rfl)), ?_⟩
              refine ⟨.int .i64 ((p0[(Int.toNat (r24[(Int.toNat v694)]!))]!.2.1)[(Int.toNat v713)]!), fun w744 hX745 => od_plain rfl (by have hS746 := hS731.ext hX745; have hB747 := hB730.trans (Ext.stp hX745 hS731.base); exact is_ext (g_move (v := .int .i64 ((p0[(Int.toNat (r24[(Int.toNat v694)]!))]!.2.1)[(Int.toNat v713)]!)) rfl)), ?_⟩
              obtain ⟨hg752, hm⟩ := hm
              refine ⟨.pointer (some ((adr a133).add ((Int.toNat ((p0[(Int.toNat (r24[(Int.toNat v694)]!))]!.2.1)[(Int.toNat v713)]!)) * El.m Int))), fun w748 hX749 => od_plain rfl (by have hS750 := hS731.ext hX749; have hB751 := hB730.trans (Ext.stp hX749 hS731.base); exact is_ext (q_index (i := (p0[(Int.toNat (r24[(Int.toNat v694)]!))]!.2.1)[(Int.toNat v713)]!) SL24 rfl rfl (oS.vw hS750.g1) hg752)), ?_⟩
              refine ⟨.int .i64 (x712[(Int.toNat ((p0[(Int.toNat (r24[(Int.toNat v694)]!))]!.2.1)[(Int.toNat v713)]!))]!), fun w753 hX754 => od_plain rfl (by have hS755 := hS731.ext hX754; have hB756 := hB730.trans (Ext.stp hX754 hS731.base); exact is_ext (q_load (i := (p0[(Int.toNat (r24[(Int.toNat v694)]!))]!.2.1)[(Int.toNat v713)]!) (v := .int .i64 (x712[(Int.toNat ((p0[(Int.toNat (r24[(Int.toNat v694)]!))]!.2.1)[(Int.toNat v713)]!))]!)) ON3 (oS.vw hS755.g1) hg752 rfl rfl)), ?_⟩
              refine ⟨.slice a133 n134 c135, fun w757 hX758 => od_plain rfl (by have hS759 := hS731.ext hX758; have hB760 := hB730.trans (Ext.stp hX758 hS731.base); exact is_ext (g_move (v := .slice a133 n134 c135) rfl)), ?_⟩
              refine ⟨.int .i64 (r24[(Int.toNat v694)]!), fun w761 hX762 => od_plain rfl (by have hS763 := hS731.ext hX762; have hB764 := hB730.trans (Ext.stp hX762 hS731.base); exact is_ext (g_move (v := .int .i64 (r24[(Int.toNat v694)]!)) rfl)), ?_⟩
              obtain ⟨hg769, hm⟩ := hm
              refine ⟨.pointer (some ((adr a133).add ((Int.toNat (r24[(Int.toNat v694)]!)) * El.m Int))), fun w765 hX766 => od_plain rfl (by have hS767 := hS731.ext hX766; have hB768 := hB730.trans (Ext.stp hX766 hS731.base); exact is_ext (q_index (i := r24[(Int.toNat v694)]!) SL24 rfl rfl (oS.vw hS767.g1) hg769)), ?_⟩
              refine ⟨.int .i64 (x712[(Int.toNat (r24[(Int.toNat v694)]!))]!), fun w770 hX771 => od_plain rfl (by have hS772 := hS731.ext hX771; have hB773 := hB730.trans (Ext.stp hX771 hS731.base); exact is_ext (q_load (i := r24[(Int.toNat v694)]!) (v := .int .i64 (x712[(Int.toNat (r24[(Int.toNat v694)]!))]!)) ON3 (oS.vw hS772.g1) hg769 rfl rfl)), ?_⟩
              refine ⟨.slice a0 n0 c0, fun w774 hX775 => od_plain rfl (by have hS776 := hS731.ext hX775; have hB777 := hB730.trans (Ext.stp hX775 hS731.base); exact is_ext (g_move (v := .slice a0 n0 c0) rfl)), ?_⟩
              refine ⟨.int .i64 ((p0[(Int.toNat (r24[(Int.toNat v694)]!))]!.2.1)[(Int.toNat v713)]!), fun w778 hX779 => od_plain rfl (by have hS780 := hS731.ext hX779; have hB781 := hB730.trans (Ext.stp hX779 hS731.base); exact is_ext (g_move (v := .int .i64 ((p0[(Int.toNat (r24[(Int.toNat v694)]!))]!.2.1)[(Int.toNat v713)]!)) rfl)), ?_⟩
              obtain ⟨hg786, hm⟩ := hm
              refine ⟨.pointer (some ((adr a0).add ((Int.toNat ((p0[(Int.toNat (r24[(Int.toNat v694)]!))]!.2.1)[(Int.toNat v713)]!)) * El.m CueD))), fun w782 hX783 => od_plain rfl (by have hS784 := hS731.ext hX783; have hB785 := hB730.trans (Ext.stp hX783 hS731.base); exact is_ext (q_index (i := (p0[(Int.toNat (r24[(Int.toNat v694)]!))]!.2.1)[(Int.toNat v713)]!) SL26 rfl rfl (Tv.o (hp0.bel hB785)) (Tv.g (hp0.bel hB785) hg786))), ?_⟩
              refine ⟨.pointer (some (((adr a0).add ((Int.toNat ((p0[(Int.toNat (r24[(Int.toNat v694)]!))]!.2.1)[(Int.toNat v713)]!)) * El.m CueD)).add 0)), fun w787 hX788 => od_plain rfl (by have hS789 := hS731.ext hX788; have hB790 := hB730.trans (Ext.stp hX788 hS731.base); exact is_ext (g_fieldAddr (q := (adr a0).add ((Int.toNat ((p0[(Int.toNat (r24[(Int.toNat v694)]!))]!.2.1)[(Int.toNat v713)]!)) * El.m CueD)) FL39_0 ON3 rfl)), ?_⟩
              refine ⟨.int .i64 (p0[(Int.toNat ((p0[(Int.toNat (r24[(Int.toNat v694)]!))]!.2.1)[(Int.toNat v713)]!))]!.1), fun w791 hX792 => od_plain rfl (by have hS793 := hS731.ext hX792; have hB794 := hB730.trans (Ext.stp hX792 hS731.base); exact is_ext (q_loadF (i := (p0[(Int.toNat (r24[(Int.toNat v694)]!))]!.2.1)[(Int.toNat v713)]!) (j := 0) (v := .int .i64 (p0[(Int.toNat ((p0[(Int.toNat (r24[(Int.toNat v694)]!))]!.2.1)[(Int.toNat v713)]!))]!.1)) ON3 (Tv.o (hp0.bel hB794)) (Tv.g (hp0.bel hB794) hg786) (by rw [← Tv.ticks (hp0.bel hB794) hg786]; rfl) rfl)), ?_⟩
              obtain ⟨hg799, hm⟩ := hm
              refine ⟨.int .i64 (x712[(Int.toNat (r24[(Int.toNat v694)]!))]! - p0[(Int.toNat ((p0[(Int.toNat (r24[(Int.toNat v694)]!))]!.2.1)[(Int.toNat v713)]!))]!.1), fun w795 hX796 => od_plain rfl (by have hS797 := hS731.ext hX796; have hB798 := hB730.trans (Ext.stp hX796 hS731.base); exact is_ext (g_sub (a := x712[(Int.toNat (r24[(Int.toNat v694)]!))]!) (b := p0[(Int.toNat ((p0[(Int.toNat (r24[(Int.toNat v694)]!))]!.2.1)[(Int.toNat v713)]!))]!.1) rfl rfl hg799)), ?_⟩
              refine ⟨.int .i64 (min (x712[(Int.toNat ((p0[(Int.toNat (r24[(Int.toNat v694)]!))]!.2.1)[(Int.toNat v713)]!))]!) (x712[(Int.toNat (r24[(Int.toNat v694)]!))]! - p0[(Int.toNat ((p0[(Int.toNat (r24[(Int.toNat v694)]!))]!.2.1)[(Int.toNat v713)]!))]!.1)), fun w800 hX801 => od_plain rfl (by have hS802 := hS731.ext hX801; have hB803 := hB730.trans (Ext.stp hX801 hS731.base); exact is_ext (g_min (a := x712[(Int.toNat ((p0[(Int.toNat (r24[(Int.toNat v694)]!))]!.2.1)[(Int.toNat v713)]!))]!) (b := (x712[(Int.toNat (r24[(Int.toNat v694)]!))]! - p0[(Int.toNat ((p0[(Int.toNat (r24[(Int.toNat v694)]!))]!.2.1)[(Int.toNat v713)]!))]!.1)) rfl rfl)), ?_⟩
              obtain ⟨hg808, hm⟩ := hm
              refine ⟨.pointer (some ((adr a133).add ((Int.toNat ((p0[(Int.toNat (r24[(Int.toNat v694)]!))]!.2.1)[(Int.toNat v713)]!)) * El.m Int))), fun w804 hX805 => od_plain rfl (by have hS806 := hS731.ext hX805; have hB807 := hB730.trans (Ext.stp hX805 hS731.base); exact is_ext (q_index (i := (p0[(Int.toNat (r24[(Int.toNat v694)]!))]!.2.1)[(Int.toNat v713)]!) SL24 rfl rfl (oS.vw hS806.g1) hg808)), ?_⟩
              intro w809 hX810
              have hB811 := hB730.trans (Ext.stp hX810 hS731.base)
              have hS812 := hS731.ext hX810
              have hS816 := hS812.f1
              refine ⟨_, od_plain rfl (q_store (i := (p0[(Int.toNat (r24[(Int.toNat v694)]!))]!.2.1)[(Int.toNat v713)]!) (v := ((min (x712[(Int.toNat ((p0[(Int.toNat (r24[(Int.toNat v694)]!))]!.2.1)[(Int.toNat v713)]!))]!) (x712[(Int.toNat (r24[(Int.toNat v694)]!))]! - p0[(Int.toNat ((p0[(Int.toNat (r24[(Int.toNat v694)]!))]!.2.1)[(Int.toNat v713)]!))]!.1)) : Int)) hS816 ON3.sz hg808 rfl rfl rfl), ?_⟩
              rintro _ w813 ⟨rfl, hS814, hb815⟩
              have hB817 := hB811.trans hb815
              intro w818 hX819
              have hB820 := hB817.trans (Ext.stp hX819 hS814.base)
              have hS821 := hS814.ext hX819
              refine hK725 _ _ ?_
              refine w_region ?_
              obtain ⟨hg822, hm⟩ := hm
              refine wl_val (g_add (a := v713) (b := 1) rfl rfl hg822) rfl ?_
              refine wl_val (g_move (v := .int .i64 (v713 + 1)) rfl) rfl ?_
              refine wl_nil ?_
              have hS823 := hS821.f1
              exact ⟨((x712.set (Int.toNat ((p0[(Int.toNat (r24[(Int.toNat v694)]!))]!.2.1)[(Int.toNat v713)]!)) (min (x712[(Int.toNat ((p0[(Int.toNat (r24[(Int.toNat v694)]!))]!.2.1)[(Int.toNat v713)]!))]!) (x712[(Int.toNat (r24[(Int.toNat v694)]!))]! - p0[(Int.toNat ((p0[(Int.toNat (r24[(Int.toNat v694)]!))]!.2.1)[(Int.toNat v713)]!))]!.1))), (v713 + 1)), hm.2, ⟨rfl, rfl, rfl, rfl, rfl, rfl, rfl, rfl, trivial⟩, ⟨hm.1, hB820, hS823⟩⟩
            · replace hm := hm.2 h724
              refine w_exit ?_
              exact ⟨(x712), ⟨rfl, rfl, rfl, rfl, trivial⟩, ⟨hm, hB719, hS720⟩⟩
          · rintro x706 b_ w824 ⟨hm, hB825, hS826⟩
            show Wp _ _ _ _ (upds b_ [(0, .slice a0 n0 c0), (4, .slice a25 n26 c27), (5, .slice a133 n134 c135), (8, .int .i64 v694)]) w824
            refine w_region ?_
            refine wl_val (g_move (v := .int .i64 v694) rfl) rfl ?_
            obtain ⟨hg827, hm⟩ := hm
            refine wl_val (g_sub (a := v694) (b := 1) rfl rfl hg827) rfl ?_
            refine wl_val (g_assign (v := .int .i64 (v694 - 1)) rfl) rfl ?_
            refine wl_nil ?_
            exact ⟨(x706, (v694 - 1)), hm.2, ⟨rfl, rfl, rfl, rfl, trivial⟩, ⟨hm.1, hB825, hS826⟩⟩
        · replace hm := hm.2 h705
          refine w_exit ?_
          have hS828 := hS701.tail
          exact ⟨(x693), ⟨rfl, trivial⟩, ⟨hm, hB700, hS828⟩⟩
      · rintro x689 b_ w829 ⟨hm, hB830, hS831⟩
        show Wp _ _ _ _ (upds b_ [(5, .slice a133 n134 c135)]) w829
        refine w_seq fun K832 hK832 => ?_
        refine w_region ?_
        refine wl_val (g_move (v := .slice a133 n134 c135) rfl) rfl ?_
        refine wl_val (g_assign (v := .slice a133 n134 c135) rfl) rfl ?_
        refine wl_nil ?_
        refine hK832 _ _ ?_
        refine w_ret ?_
        repeat first | with_reducible refine q_then ?_ | with_reducible refine q_block ?_
        exact ret1 rfl (by decide) ⟨_, _, _, _, hm, rfl, toExt hB830, hS831⟩

theorem m_impl_indexOf_fn {w : World} {a0 : Option Addr} {n0 c0 : Nat} {p0 : List Int} {Q : Int → Prop} (hp0 : Vw w.heap.size w a0 n0 c0 p0) (p1 : Int) (hm : m_impl_indexOf p0 p1 Q) :
    Fn Try.prog 69 #[.slice a0 n0 c0, .int .i64 p1] w (fun v w' => ∃ (r0 : Int), Q r0 ∧ v = .int .i64 r0 ∧ Ext w w') := by
  unfold m_impl_indexOf at hm
  have hB0 := Below.refl w.heap.size w
  have hS0 : Sep w w.heap.size [] := Sep.nil (Nat.le_refl _)
  refine fn_of_wp Try.func69 rfl (by kernel_rfl) (Nat.le_of_ble_eq_true rfl) ?_
  refine w_seq fun K1 hK1 => ?_
  refine w_region ?_
  refine wl_val (g_assign (v := .int .i64 0) rfl) rfl ?_
  refine wl_nil ?_
  refine hK1 _ _ ?_
  refine w_cut (σ := Unit) (fun _ => []) (fun _ w' => m_impl_indexOf_K0 Q ∧ Below w.heap.size w w' ∧ Sep w' w.heap.size []) ?_ ?_
  · refine w_seq fun K3 hK3 => ?_
    refine w_region ?_
    refine wl_val (g_move (v := .slice a0 n0 c0) rfl) rfl ?_
    refine wl_val (q_len SL24 rfl (Vw.len (hp0.bel hB0))) rfl ?_
    refine wl_val (g_move (v := .int .i64 0) rfl) rfl ?_
    refine wl_nil ?_
    refine hK3 _ _ ?_
    refine w_block ?_
    obtain ⟨I23, μ24, h025, hr26⟩ := hm
    refine w_for (σ := Int) (fun v22 => [(1, .int .i64 p1), (7, .slice a0 n0 c0), (8, .int .i64 (p0.length : Int)), (9, .int .i64 v22)]) (fun v22 w' => I23 v22 ∧ Below w.heap.size w w' ∧ Sep w' w.heap.size []) (fun v22 => μ24 v22) (0) ⟨rfl, rfl, rfl, rfl, trivial⟩ ⟨h025, hB0, hS0⟩ ?_
    rintro v22 b_ w27 ⟨hi_, hB28, hS29⟩
    show Wp _ _ _ _ (upds b_ [(1, .int .i64 p1), (7, .slice a0 n0 c0), (8, .int .i64 (p0.length : Int)), (9, .int .i64 v22)]) w27
    have hm := hr26 v22 hi_
    refine w_seq fun K31 hK31 => ?_
    refine w_region ?_
    refine wl_val (g_lss (a := v22) (b := (p0.length : Int)) rfl rfl) rfl ?_
    refine wl_nil ?_
    refine hK31 _ _ ?_
    refine w_seq fun K32 hK32 => ?_
    refine w_condI (p := v22 < (p0.length : Int)) (b := (decide (v22 < (p0.length : Int)))) rfl decide_eq_true_iff (fun h33 => ?_) (fun h33 => ?_)
    · replace hm := hm.1 h33
      refine w_skip ?_
      refine hK32 _ _ ?_
      refine w_seq fun K34 hK34 => ?_
      refine w_block ?_
      refine w_seq fun K35 hK35 => ?_
      refine w_region ?_
      refine wl_val (g_move (v := .int .i64 v22) rfl) rfl ?_
      obtain ⟨hg36, hm⟩ := hm
      refine wl_val (q_index (i := v22) SL24 rfl rfl (hp0.bel hB28) hg36) rfl ?_
      refine wl_val (q_load (i := v22) (v := .int .i64 (p0[(Int.toNat v22)]!)) ON3 (hp0.bel hB28) hg36 rfl rfl) rfl ?_
      refine wl_val (g_assign (v := .int .i64 v22) rfl) rfl ?_
      refine wl_val (g_assign (v := .int .i64 (p0[(Int.toNat v22)]!)) rfl) rfl ?_
      refine wl_nil ?_
      refine hK35 _ _ ?_
      refine w_seq fun K37 hK37 => ?_
      refine w_region ?_
      refine wl_val (g_move (v := .int .i64 (p0[(Int.toNat v22)]!)) rfl) rfl ?_
      refine wl_val (g_move (v := .int .i64 p1) rfl) rfl ?_
      refine wl_val (g_eql (a := p0[(Int.toNat v22)]!) (b := p1) rfl rfl) rfl ?_
      refine wl_nil ?_
      refine hK37 _ _ ?_
      refine w_condI (p := p0[(Int.toNat v22)]! = p1) (b := (decide (p0[(Int.toNat v22)]! = p1))) rfl decide_eq_true_iff (fun h38 => ?_) (fun h38 => ?_)
      · replace hm := hm.1 h38
        refine w_seq fun K39 hK39 => ?_
        refine w_region ?_
        refine wl_val (g_move (v := .int .i64 v22) rfl) rfl ?_
        refine wl_val (g_assign (v := .int .i64 v22) rfl) rfl ?_
        refine wl_nil ?_
        refine hK39 _ _ ?_
        refine w_ret ?_
        repeat first | with_reducible refine q_then ?_ | with_reducible refine q_block ?_
        exact ret1 rfl (by decide) ⟨_, hm, rfl, toExt hB28⟩
      · replace hm := hm.2 h38
        refine w_skip ?_
        refine hK34 _ _ ?_
        refine w_region ?_
        obtain ⟨hg40, hm⟩ := hm
        refine wl_val (g_add (a := v22) (b := 1) rfl rfl hg40) rfl ?_
        refine wl_val (g_move (v := .int .i64 (v22 + 1)) rfl) rfl ?_
        refine wl_nil ?_
        exact ⟨((v22 + 1)), hm.2, ⟨rfl, rfl, rfl, rfl, trivial⟩, ⟨hm.1, hB28, hS29⟩⟩
    · replace hm := hm.2 h33
      refine w_exit ?_
      exact ⟨(), trivial, ⟨hm, hB28, hS29⟩⟩
  · rintro _ b_ w41 ⟨hm, hB42, hS43⟩
    show Wp _ _ _ _ (upds b_ []) w41
    refine w_seq fun K44 hK44 => ?_
    refine w_region ?_
    refine wl_val (g_assign (v := .int .i64 (-1)) rfl) rfl ?_
    refine wl_nil ?_
    refine hK44 _ _ ?_
    refine w_ret ?_
    repeat first | with_reducible refine q_then ?_ | with_reducible refine q_block ?_
    exact ret1 rfl (by decide) ⟨_, hm, rfl, toExt hB42⟩

theorem m_impl_share_fn {w : World} {a0_1 : Option Addr} {n0_1 c0_1 : Nat} {a0_2 : Option Addr} {n0_2 c0_2 : Nat} {a1_1 : Option Addr} {n1_1 c1_1 : Nat} {a1_2 : Option Addr} {n1_2 c1_2 : Nat} {Q : Bool → Prop} (p0 : CueC) (hp0_1 : Vw w.heap.size w a0_1 n0_1 c0_1 p0.2.1) (hp0_2 : Vw w.heap.size w a0_2 n0_2 c0_2 p0.2.2) (p1 : CueC) (hp1_1 : Vw w.heap.size w a1_1 n1_1 c1_1 p1.2.1) (hp1_2 : Vw w.heap.size w a1_2 n1_2 c1_2 p1.2.2) (hm : m_impl_share p0 p1 Q) :
    Fn Try.prog 70 #[.agg #[.int .i64 p0.1, .slice a0_1 n0_1 c0_1, .slice a0_2 n0_2 c0_2], .agg #[.int .i64 p1.1, .slice a1_1 n1_1 c1_1, .slice a1_2 n1_2 c1_2]] w (fun v w' => ∃ (r0 : Bool), Q r0 ∧ v = .bool r0 ∧ Ext w w') := by
  unfold m_impl_share at hm
  have hB0 := Below.refl w.heap.size w
  have hS0 : Sep w w.heap.size [] := Sep.nil (Nat.le_refl _)
  refine fn_of_wp Try.func70 rfl (by kernel_rfl) (Nat.le_of_ble_eq_true rfl) ?_
  refine w_seq fun K1 hK1 => ?_
  refine w_region ?_
  refine wl_step rfl (q_box (cs := #[.int .i64 p0.1, .slice a0_1 n0_1 c0_1, .slice a0_2 n0_2 c0_2]) rfl rfl hS0) ?_
  rintro _ w2 ⟨g3, rfl, hS5, hE4⟩
  have hB7 := hB0.trans (Ext.stp hE4 hS0.base)
  refine wl_step rfl (q_box (cs := #[.int .i64 p1.1, .slice a1_1 n1_1 c1_1, .slice a1_2 n1_2 c1_2]) rfl rfl hS5) ?_
  rintro _ w8 ⟨g9, rfl, hS11, hE10⟩
  have hB13 := hB7.trans (Ext.stp hE10 hS5.base)
  refine wl_val (g_assign (v := .bool false) rfl) rfl ?_
  refine wl_nil ?_
  refine hK1 _ _ ?_
  refine w_cut (σ := Unit) (fun _ => []) (fun _ w' => m_impl_share_K0 Q ∧ Below w.heap.size w w' ∧ Sep w' w.heap.size []) ?_ ?_
  · refine w_seq fun K15 hK15 => ?_
    refine w_region ?_
    refine wl_val (g_fieldAddr (q := (⟨g3, 0, none⟩ : Addr)) FL39_2 ON24 rfl) rfl ?_
    refine wl_val (q_loadB (i := 2) (bs := #[.int .i64 p0.1, .slice a0_1 n0_1 c0_1, .slice a0_2 n0_2 c0_2]) hS11.g1 ON24 rfl rfl) rfl ?_
    refine wl_val (q_len SL24 rfl (Vw.len (hp0_2.bel hB13))) rfl ?_
    refine wl_val (g_move (v := .int .i64 0) rfl) rfl ?_
    refine wl_nil ?_
    refine hK15 _ _ ?_
    refine w_block ?_
    have hS43 := hS11.f1
    have hS44 := hS43.tail
    obtain ⟨I45, μ46, h047, hr48⟩ := hm
    refine w_for (σ := Int) (fun v42 => [(3, .pointer (some (⟨g9, 0, none⟩ : Addr))), (8, .slice a0_2 n0_2 c0_2), (9, .int .i64 (p0.2.2.length : Int)), (10, .int .i64 v42)]) (fun v42 w' => I45 v42 ∧ Below w.heap.size w w' ∧ Sep w' w.heap.size [oB g9 39 #[.int .i64 p1.1, .slice a1_1 n1_1 c1_1, .slice a1_2 n1_2 c1_2]]) (fun v42 => μ46 v42) (0) ⟨rfl, rfl, rfl, rfl, trivial⟩ ⟨h047, hB13, hS44⟩ ?_
    rintro v42 b_ w49 ⟨hi_, hB50, hS51⟩
    show Wp _ _ _ _ (upds b_ [(3, .pointer (some (⟨g9, 0, none⟩ : Addr))), (8, .slice a0_2 n0_2 c0_2), (9, .int .i64 (p0.2.2.length : Int)), (10, .int .i64 v42)]) w49
    have hm := hr48 v42 hi_
    refine w_seq fun K53 hK53 => ?_
    refine w_region ?_
    refine wl_val (g_lss (a := v42) (b := (p0.2.2.length : Int)) rfl rfl) rfl ?_
    refine wl_nil ?_
    refine hK53 _ _ ?_
    refine w_seq fun K54 hK54 => ?_
    refine w_condI (p := v42 < (p0.2.2.length : Int)) (b := (decide (v42 < (p0.2.2.length : Int)))) rfl decide_eq_true_iff (fun h55 => ?_) (fun h55 => ?_)
    · replace hm := hm.1 h55
      refine w_skip ?_
      refine hK54 _ _ ?_
      refine w_seq fun K56 hK56 => ?_
      refine w_block ?_
      refine w_seq fun K57 hK57 => ?_
      refine w_region ?_
      obtain ⟨hg58, hm⟩ := hm
      refine wl_val (q_index (i := v42) SL24 rfl rfl (hp0_2.bel hB50) hg58) rfl ?_
      refine wl_val (q_load (i := v42) (v := .int .i64 (p0.2.2[(Int.toNat v42)]!)) ON3 (hp0_2.bel hB50) hg58 rfl rfl) rfl ?_
      refine wl_val (g_assign (v := .int .i64 (p0.2.2[(Int.toNat v42)]!)) rfl) rfl ?_
      refine wl_nil ?_
      refine hK57 _ _ ?_
      refine w_seq fun K59 hK59 => ?_
      refine w_region ?_
      refine wl_val (g_fieldAddr (q := (⟨g9, 0, none⟩ : Addr)) FL39_2 ON24 rfl) rfl ?_
      refine wl_val (q_loadB (i := 2) (bs := #[.int .i64 p1.1, .slice a1_1 n1_1 c1_1, .slice a1_2 n1_2 c1_2]) hS51.g0 ON24 rfl rfl) rfl ?_
      refine wl_val (g_move (v := .int .i64 (p0.2.2[(Int.toNat v42)]!)) rfl) rfl ?_
      refine wl_step rfl (g_call (vs := #[.slice a1_2 n1_2 c1_2, .int .i64 (p0.2.2[(Int.toNat v42)]!)]) CF69 (args2 rfl rfl) (m_impl_indexOf_fn ((hp1_2.bel hB50).up hS51) (p0.2.2[(Int.toNat v42)]!) hm)) ?_
      rintro _ w60 ⟨r63, hm, rfl, hE61⟩
      have hB64 := hB50.trans (Ext.stp hE61 hS51.base)
      have hS65 := hS51.ext hE61
      refine wl_val (g_geq (a := r63) (b := 0) rfl rfl) rfl ?_
      refine wl_nil ?_
      refine hK59 _ _ ?_
      refine w_condI (p := r63 ≥ 0) (b := (decide (r63 ≥ 0))) rfl decide_eq_true_iff (fun h66 => ?_) (fun h66 => ?_)
      · replace hm := hm.1 h66
        refine w_seq fun K67 hK67 => ?_
        refine w_region ?_
        refine wl_val (g_assign (v := .bool true) rfl) rfl ?_
        refine wl_nil ?_
        refine hK67 _ _ ?_
        refine w_ret ?_
        repeat first | with_reducible refine q_then ?_ | with_reducible refine q_block ?_
        exact ret1 rfl (by decide) ⟨_, hm, rfl, toExt hB64⟩
      · replace hm := hm.2 h66
        refine w_skip ?_
        refine hK56 _ _ ?_
        refine w_region ?_
        obtain ⟨hg68, hm⟩ := hm
        refine wl_val (g_add (a := v42) (b := 1) rfl rfl hg68) rfl ?_
        refine wl_val (g_move (v := .int .i64 (v42 + 1)) rfl) rfl ?_
        refine wl_nil ?_
        exact ⟨((v42 + 1)), hm.2, ⟨rfl, rfl, rfl, rfl, trivial⟩, ⟨hm.1, hB64, hS65⟩⟩
    · replace hm := hm.2 h55
      refine w_exit ?_
      have hS69 := hS51.tail
      exact ⟨(), trivial, ⟨hm, hB50, hS69⟩⟩
  · rintro _ b_ w70 ⟨hm, hB71, hS72⟩
    show Wp _ _ _ _ (upds b_ []) w70
    refine w_seq fun K73 hK73 => ?_
    refine w_region ?_
    refine wl_val (g_assign (v := .bool false) rfl) rfl ?_
    refine wl_nil ?_
    refine hK73 _ _ ?_
    refine w_ret ?_
    repeat first | with_reducible refine q_then ?_ | with_reducible refine q_block ?_
    exact ret1 rfl (by decide) ⟨_, hm, rfl, toExt hB71⟩

theorem m_impl_SimplePlan_fn {w : World} {a0 : Option Addr} {n0 c0 : Nat} {y0 : List CueD} {p0 : List CueC} {Q : (List Int) → Prop} (hp0 : Tv w.heap.size w a0 n0 c0 y0 p0) (hm : m_impl_SimplePlan p0 Q) :
    Fn Try.prog 41 #[.slice a0 n0 c0] w (fun v w' => ∃ (r0 : List Int) (a0 : Option Addr) (n0 c0 : Nat), Q r0 ∧ v = .slice a0 n0 c0 ∧ Ext w w' ∧ Sep w' w.heap.size [oS 3 a0 n0 c0 r0]) := by
  unfold m_impl_SimplePlan at hm
  have hB0 := Below.refl w.heap.size w
  have hS0 : Sep w w.heap.size [] := Sep.nil (Nat.le_refl _)
  refine fn_of_wp Try.func41 rfl (by kernel_rfl) (Nat.le_of_ble_eq_true rfl) ?_
  refine w_seq fun K1 hK1 => ?_
  refine w_region ?_
  refine wl_val (g_assign (v := .slice none 0 0) rfl) rfl ?_
  refine wl_nil ?_
  refine hK1 _ _ ?_
  refine w_seq fun K2 hK2 => ?_
  refine w_seq fun K3 hK3 => ?_
  refine w_region ?_
  refine wl_val (g_move (v := .slice a0 n0 c0) rfl) rfl ?_
  refine wl_step rfl (g_call (vs := #[.slice a0 n0 c0]) CF29 (args1 rfl) (m_impl_CuesOk_fn ((hp0.bel hB0).up hS0) hm)) ?_
  rintro _ w4 ⟨r7, hm, rfl, hE5⟩
  have hB8 := hB0.trans (Ext.stp hE5 hS0.base)
  have hS9 := hS0.ext hE5
  refine wl_val (g_not (a := r7) rfl) rfl ?_
  refine wl_nil ?_
  refine hK3 _ _ ?_
  refine w_condI (p := ¬ (r7 = true)) (b := (!r7)) rfl (i_not Iff.rfl) (fun h10 => ?_) (fun h10 => ?_)
  · replace hm := hm.1 h10
    refine w_seq fun K11 hK11 => ?_
    refine w_region ?_
    refine wl_val (g_assign (v := .slice none 0 0) rfl) rfl ?_
    refine wl_nil ?_
    refine hK11 _ _ ?_
    refine w_ret ?_
    have hS12 := hS9.nilS (α := Int) (E := 3)
    repeat first | with_reducible refine q_then ?_ | with_reducible refine q_block ?_
    exact ret1 rfl (by decide) ⟨_, _, _, _, hm, rfl, toExt hB8, hS12⟩
  · replace hm := hm.2 h10
    refine w_skip ?_
    refine hK2 _ _ ?_
    refine w_seq fun K14 hK14 => ?_
    refine w_region ?_
    refine wl_val (g_move (v := .slice a0 n0 c0) rfl) rfl ?_
    refine wl_val (q_len SL26 rfl (Tv.len (hp0.bel hB8))) rfl ?_
    obtain ⟨hg15, hm⟩ := hm
    refine wl_step rfl (q_make (y := (0 : Int)) SL24 rfl rfl hg15.1 hg15.2 (by decide) hS9) ?_
    rintro _ w16 ⟨a17, rfl, hS19, hE18⟩
    have hB21 := hB8.trans (Ext.stp hE18 hS9.base)
    refine wl_step rfl (q_lit0 (α := Int) rfl SL24 hS19) ?_
    rintro _ w22 ⟨a23, rfl, hS25, hE24⟩
    have hB27 := hB21.trans (Ext.stp hE24 hS19.base)
    refine wl_val (g_assign (v := .slice a17 (Int.toNat (p0.length : Int)) (Int.toNat (p0.length : Int))) rfl) rfl ?_
    refine wl_val (g_assign (v := .slice a23 0 0) rfl) rfl ?_
    refine wl_nil ?_
    refine hK14 _ _ ?_
    refine w_cut (σ := List Int) (fun x1233 => [(3, .slice a17 (Int.toNat (p0.length : Int)) (Int.toNat (p0.length : Int)))]) (fun x1233 w' => m_impl_SimplePlan_K2 Q x1233 ∧ Below w.heap.size w w' ∧ Sep w' w.heap.size [oS 3 a17 (Int.toNat (p0.length : Int)) (Int.toNat (p0.length : Int)) (x1233 : List Int)]) ?_ ?_
    · refine w_seq fun K1235 hK1235 => ?_
      refine w_region ?_
      refine wl_val (g_move (v := .slice a0 n0 c0) rfl) rfl ?_
      refine wl_step rfl (g_call (vs := #[.slice a0 n0 c0]) CF28 (args1 rfl) (m_impl_CueOrder_fn ((hp0.bel hB27).up hS25) hm)) ?_
      rintro _ w1236 ⟨r1239, a1240, n1241, c1242, hm, rfl, hE1237, hN1238⟩
      have hS1244 := hS25.call1 hE1237 hN1238
      have hB1245 := hB27.trans (Ext.stp hE1237 hS25.base)
      refine wl_val (q_len SL24 rfl (Vw.len (oS.vw hS1244.g0))) rfl ?_
      refine wl_val (g_move (v := .int .i64 0) rfl) rfl ?_
      refine wl_nil ?_
      refine hK1235 _ _ ?_
      refine w_block ?_
      have hS1252 := hS1244.f1
      have hS1253 := hS1252.f2
      obtain ⟨I1254, μ1255, h01256, hr1257⟩ := hm
      refine w_for (σ := List Int × List Int × Option Addr × Nat × Nat × Int) (fun ⟨x1246, x1247, a1248, n1249, c1250, v1251⟩ => [(0, .slice a0 n0 c0), (3, .slice a17 (Int.toNat (p0.length : Int)) (Int.toNat (p0.length : Int))), (4, .slice a1248 n1249 c1250), (17, .slice a1240 n1241 c1242), (18, .int .i64 (r1239.length : Int)), (19, .int .i64 v1251)]) (fun ⟨x1246, x1247, a1248, n1249, c1250, v1251⟩ w' => I1254 x1246 x1247 v1251 ∧ Below w.heap.size w w' ∧ Sep w' w.heap.size [oS 3 a17 (Int.toNat (p0.length : Int)) (Int.toNat (p0.length : Int)) (x1246 : List Int), oS 3 a1248 n1249 c1250 (x1247 : List Int), oS 3 a1240 n1241 c1242 (r1239 : List Int)]) (fun ⟨x1246, x1247, a1248, n1249, c1250, v1251⟩ => μ1255 x1246 x1247 v1251) (List.replicate (Int.toNat (p0.length : Int)) (0 : Int), [], a23, 0, 0, 0) ⟨rfl, rfl, rfl, rfl, rfl, rfl, trivial⟩ ⟨h01256, hB1245, hS1253⟩ ?_
      rintro ⟨x1246, x1247, a1248, n1249, c1250, v1251⟩ b_ w1258 ⟨hi_, hB1259, hS1260⟩
      show Wp _ _ _ _ (upds b_ [(0, .slice a0 n0 c0), (3, .slice a17 (Int.toNat (p0.length : Int)) (Int.toNat (p0.length : Int))), (4, .slice a1248 n1249 c1250), (17, .slice a1240 n1241 c1242), (18, .int .i64 (r1239.length : Int)), (19, .int .i64 v1251)]) w1258
      have hm := hr1257 x1246 x1247 v1251 hi_
      refine w_seq fun K1262 hK1262 => ?_
      refine w_region ?_
      refine wl_val (g_lss (a := v1251) (b := (r1239.length : Int)) rfl rfl) rfl ?_
      refine wl_nil ?_
      refine hK1262 _ _ ?_
      refine w_seq fun K1263 hK1263 => ?_
      refine w_condI (p := v1251 < (r1239.length : Int)) (b := (decide (v1251 < (r1239.length : Int)))) rfl decide_eq_true_iff (fun h1264 => ?_) (fun h1264 => ?_)
      · replace hm := hm.1 h1264
        refine w_skip ?_
        refine hK1263 _ _ ?_
        refine w_cut (σ := List Int × List Int × Option Addr × Nat × Nat) (fun ⟨x1265, x1266, a1267, n1268, c1269⟩ => [(0, .slice a0 n0 c0), (3, .slice a17 (Int.toNat (p0.length : Int)) (Int.toNat (p0.length : Int))), (4, .slice a1267 n1268 c1269), (17, .slice a1240 n1241 c1242), (18, .int .i64 (r1239.length : Int)), (19, .int .i64 v1251)]) (fun ⟨x1265, x1266, a1267, n1268, c1269⟩ w' => m_impl_SimplePlan_K1 v1251 (fun x1246' x1247' v1251' => I1254 x1246' x1247' v1251' ∧ μ1255 x1246' x1247' v1251' < μ1255 x1246 x1247 v1251) x1265 x1266 ∧ Below w.heap.size w w' ∧ Sep w' w.heap.size [oS 3 a17 (Int.toNat (p0.length : Int)) (Int.toNat (p0.length : Int)) (x1265 : List Int), oS 3 a1267 n1268 c1269 (x1266 : List Int), oS 3 a1240 n1241 c1242 (r1239 : List Int)]) ?_ ?_
        · refine w_block ?_
          refine w_seq fun K1271 hK1271 => ?_
          refine w_region ?_
          obtain ⟨hg1272, hm⟩ := hm
          refine wl_val (q_index (i := v1251) SL24 rfl rfl (oS.vw hS1260.g2) hg1272) rfl ?_
          refine wl_val (q_load (i := v1251) (v := .int .i64 (r1239[(Int.toNat v1251)]!)) ON3 (oS.vw hS1260.g2) hg1272 rfl rfl) rfl ?_
          refine wl_val (g_assign (v := .int .i64 (r1239[(Int.toNat v1251)]!)) rfl) rfl ?_
          refine wl_nil ?_
          refine hK1271 _ _ ?_
          refine w_cut (σ := List Int) (fun x1273 => [(0, .slice a0 n0 c0), (3, .slice a17 (Int.toNat (p0.length : Int)) (Int.toNat (p0.length : Int))), (4, .slice a1248 n1249 c1250), (6, .int .i64 (r1239[(Int.toNat v1251)]!)), (17, .slice a1240 n1241 c1242), (18, .int .i64 (r1239.length : Int)), (19, .int .i64 v1251)]) (fun x1273 w' => m_impl_SimplePlan_K0 r1239 x1247 v1251 (m_impl_SimplePlan_K1 v1251 (fun x1246' x1247' v1251' => I1254 x1246' x1247' v1251' ∧ μ1255 x1246' x1247' v1251' < μ1255 x1246 x1247 v1251)) x1273 ∧ Below w.heap.size w w' ∧ Sep w' w.heap.size [oS 3 a17 (Int.toNat (p0.length : Int)) (Int.toNat (p0.length : Int)) (x1273 : List Int), oS 3 a1248 n1249 c1250 (x1247 : List Int), oS 3 a1240 n1241 c1242 (r1239 : List Int)]) ?_ ?_
          · refine w_seq fun K1275 hK1275 => ?_
            refine w_region ?_
            refine wl_val (g_move (v := .slice a1248 n1249 c1250) rfl) rfl ?_
            refine wl_val (q_len SL24 rfl (Vw.len (oS.vw hS1260.g1))) rfl ?_
            refine wl_val (g_move (v := .int .i64 0) rfl) rfl ?_
            refine wl_nil ?_
            refine hK1275 _ _ ?_
            refine w_block ?_
            obtain ⟨I1278, μ1279, h01280, hr1281⟩ := hm
            refine w_for (σ := List Int × Int) (fun ⟨x1276, v1277⟩ => [(0, .slice a0 n0 c0), (3, .slice a17 (Int.toNat (p0.length : Int)) (Int.toNat (p0.length : Int))), (4, .slice a1248 n1249 c1250), (6, .int .i64 (r1239[(Int.toNat v1251)]!)), (17, .slice a1240 n1241 c1242), (18, .int .i64 (r1239.length : Int)), (19, .int .i64 v1251), (23, .slice a1248 n1249 c1250), (24, .int .i64 (x1247.length : Int)), (25, .int .i64 v1277)]) (fun ⟨x1276, v1277⟩ w' => I1278 x1276 v1277 ∧ Below w.heap.size w w' ∧ Sep w' w.heap.size [oS 3 a17 (Int.toNat (p0.length : Int)) (Int.toNat (p0.length : Int)) (x1276 : List Int), oS 3 a1248 n1249 c1250 (x1247 : List Int), oS 3 a1240 n1241 c1242 (r1239 : List Int)]) (fun ⟨x1276, v1277⟩ => μ1279 x1276 v1277) (x1246, 0) ⟨rfl, rfl, rfl, rfl, rfl, rfl, rfl, rfl, rfl, rfl, trivial⟩ ⟨h01280, hB1259, hS1260⟩ ?_
            rintro ⟨x1276, v1277⟩ b_ w1282 ⟨hi_, hB1283, hS1284⟩
            show Wp _ _ _ _ (upds b_ [(0, .slice a0 n0 c0), (3, .slice a17 (Int.toNat (p0.length : Int)) (Int.toNat (p0.length : Int))), (4, .slice a1248 n1249 c1250), (6, .int .i64 (r1239[(Int.toNat v1251)]!)), (17, .slice a1240 n1241 c1242), (18, .int .i64 (r1239.length : Int)), (19, .int .i64 v1251), (23, .slice a1248 n1249 c1250), (24, .int .i64 (x1247.length : Int)), (25, .int .i64 v1277)]) w1282
            have hm := hr1281 x1276 v1277 hi_
            refine w_seq fun K1286 hK1286 => ?_
            refine w_region ?_
            refine wl_val (g_lss (a := v1277) (b := (x1247.length : Int)) rfl rfl) rfl ?_
            refine wl_nil ?_
            refine hK1286 _ _ ?_
            refine w_seq fun K1287 hK1287 => ?_
            refine w_condI (p := v1277 < (x1247.length : Int)) (b := (decide (v1277 < (x1247.length : Int)))) rfl decide_eq_true_iff (fun h1288 => ?_) (fun h1288 => ?_)
            · replace hm := hm.1 h1288
              refine w_skip ?_
              refine hK1287 _ _ ?_
              refine w_seq fun K1289 hK1289 => ?_
              refine w_block ?_
              refine w_seq fun K1290 hK1290 => ?_
              refine w_region ?_
              obtain ⟨hg1291, hm⟩ := hm
              refine wl_val (q_index (i := v1277) SL24 rfl rfl (oS.vw hS1284.g1) hg1291) rfl ?_
              refine wl_val (q_load (i := v1277) (v := .int .i64 (x1247[(Int.toNat v1277)]!)) ON3 (oS.vw hS1284.g1) hg1291 rfl rfl) rfl ?_
              refine wl_val (g_assign (v := .int .i64 (x1247[(Int.toNat v1277)]!)) rfl) rfl ?_
              refine wl_nil ?_
              refine hK1290 _ _ ?_
              refine w_seq fun K1292 hK1292 => ?_
              refine w_draw (X := Ext) (Y := Ext) [] MIX (by decide +kernel) rfl Ext.refl (fun _ _ _ => Ext.trans) (fun _ _ _ => Chg.trans) (fun _ _ h => Ext.chg h _) (fun w1293 hE1294 => ?_)
              have hB1295 := hB1283.trans (Ext.stp hE1294 hS1284.base)
              have hS1296 := hS1284.ext hE1294
              refine ⟨.slice a0 n0 c0, fun w1297 hX1298 => od_plain rfl (by have hS1299 := hS1296.ext hX1298; have hB1300 := hB1295.trans (Ext.stp hX1298 hS1296.base); exact is_ext (g_move (v := .slice a0 n0 c0) rfl)), ?_⟩
              refine ⟨.int .i64 (r1239[(Int.toNat v1251)]!), fun w1301 hX1302 => od_plain rfl (by have hS1303 := hS1296.ext hX1302; have hB1304 := hB1295.trans (Ext.stp hX1302 hS1296.base); exact is_ext (g_move (v := .int .i64 (r1239[(Int.toNat v1251)]!)) rfl)), ?_⟩
              obtain ⟨hg1309, hm⟩ := hm
              refine ⟨.pointer (some ((adr a0).add ((Int.toNat (r1239[(Int.toNat v1251)]!)) * El.m CueD))), fun w1305 hX1306 => od_plain rfl (by have hS1307 := hS1296.ext hX1306; have hB1308 := hB1295.trans (Ext.stp hX1306 hS1296.base); exact is_ext (q_index (i := r1239[(Int.toNat v1251)]!) SL26 rfl rfl (Tv.o (hp0.bel hB1308)) (Tv.g (hp0.bel hB1308) hg1309))), ?_⟩
              refine ⟨.pointer (some (((adr a0).add ((Int.toNat (r1239[(Int.toNat v1251)]!)) * El.m CueD)).add 1)), fun w1310 hX1311 => od_plain rfl (by have hS1312 := hS1296.ext hX1311; have hB1313 := hB1295.trans (Ext.stp hX1311 hS1296.base); exact is_ext (g_fieldAddr (q := (adr a0).add ((Int.toNat (r1239[(Int.toNat v1251)]!)) * El.m CueD)) FL39_1 ON24 rfl)), ?_⟩
              refine ⟨.slice ((y0[(Int.toNat (r1239[(Int.toNat v1251)]!))]!).2.1.1) ((y0[(Int.toNat (r1239[(Int.toNat v1251)]!))]!).2.1.2.2.length) ((y0[(Int.toNat (r1239[(Int.toNat v1251)]!))]!).2.1.2.1), fun w1314 hX1315 => od_plain rfl (by have hS1316 := hS1296.ext hX1315; have hB1317 := hB1295.trans (Ext.stp hX1315 hS1296.base); exact is_ext (q_loadF (i := r1239[(Int.toNat v1251)]!) (j := 1) (v := .slice ((y0[(Int.toNat (r1239[(Int.toNat v1251)]!))]!).2.1.1) ((y0[(Int.toNat (r1239[(Int.toNat v1251)]!))]!).2.1.2.2.length) ((y0[(Int.toNat (r1239[(Int.toNat v1251)]!))]!).2.1.2.1)) ON24 (Tv.o (hp0.bel hB1317)) (Tv.g (hp0.bel hB1317) hg1309) rfl rfl)), ?_⟩
              refine ⟨.int .i64 (x1247[(Int.toNat v1277)]!), fun w1318 hX1319 => od_plain rfl (by have hS1320 := hS1296.ext hX1319; have hB1321 := hB1295.trans (Ext.stp hX1319 hS1296.base); exact is_ext (g_move (v := .int .i64 (x1247[(Int.toNat v1277)]!)) rfl)), ?_⟩
              obtain ⟨r1326, hk1327, hm⟩ := hm
              refine ⟨.int .i64 r1326, fun w1322 hX1323 => od_plain rfl (by have hS1324 := hS1296.ext hX1323; have hB1325 := hB1295.trans (Ext.stp hX1323 hS1296.base); exact (g_call (vs := #[.slice ((y0[(Int.toNat (r1239[(Int.toNat v1251)]!))]!).2.1.1) ((y0[(Int.toNat (r1239[(Int.toNat v1251)]!))]!).2.1.2.2.length) ((y0[(Int.toNat (r1239[(Int.toNat v1251)]!))]!).2.1.2.1), .int .i64 (x1247[(Int.toNat v1277)]!)]) CF69 (args2 rfl rfl) ((m_impl_indexOf_fn ((Tv.rowC0 (hp0.bel hB1325) hg1309).up hS1324) (x1247[(Int.toNat v1277)]!) hk1327).mono fun _ _ ⟨_, h1, h2, h3⟩ => ⟨by rw [h2, h1], h3⟩))), ?_⟩
              refine ⟨.bool (decide (r1326 ≥ 0)), fun w1328 hX1329 => od_plain rfl (by have hS1330 := hS1296.ext hX1329; have hB1331 := hB1295.trans (Ext.stp hX1329 hS1296.base); exact is_ext (g_geq (a := r1326) (b := 0) rfl rfl)), ?_⟩
              refine ⟨.bool (decide (r1326 ≥ 0)), fun w1332 hX1333 => od_plain rfl (by have hS1334 := hS1296.ext hX1333; have hB1335 := hB1295.trans (Ext.stp hX1333 hS1296.base); exact is_ext (g_move (v := .bool (decide (r1326 ≥ 0))) rfl)), ?_⟩
              refine ⟨if (decide (r1326 ≥ 0)) = false then .slice a0 n0 c0 else undef, fun w1336 hX1337 => od_guard (c := (decide (r1326 ≥ 0)) = false) (val := .slice a0 n0 c0) (b := ((decide (r1326 ≥ 0)) == false)) (gv_some rfl rfl rfl) beq_iff_eq (fun hc1340 => ?_), ?_⟩
              · have hS1338 := hS1296.ext hX1337
                have hB1339 := hB1295.trans (Ext.stp hX1337 hS1296.base)
                have hcq5 : ¬ (r1326 ≥ 0) := (i_neg decide_eq_true_iff hc1340)
                exact is_ext (g_move (v := .slice a0 n0 c0) rfl)
              refine ⟨if (decide (r1326 ≥ 0)) = false then .int .i64 (r1239[(Int.toNat v1251)]!) else undef, fun w1341 hX1342 => od_guard (c := (decide (r1326 ≥ 0)) = false) (val := .int .i64 (r1239[(Int.toNat v1251)]!)) (b := ((decide (r1326 ≥ 0)) == false)) (gv_some rfl rfl rfl) beq_iff_eq (fun hc1345 => ?_), ?_⟩
              · have hS1343 := hS1296.ext hX1342
                have hB1344 := hB1295.trans (Ext.stp hX1342 hS1296.base)
                have hcq5 : ¬ (r1326 ≥ 0) := (i_neg decide_eq_true_iff hc1345)
                exact is_ext (g_move (v := .int .i64 (r1239[(Int.toNat v1251)]!)) rfl)
              obtain ⟨hg1351, hm⟩ := hm
              refine ⟨if (decide (r1326 ≥ 0)) = false then .pointer (some ((adr a0).add ((Int.toNat (r1239[(Int.toNat v1251)]!)) * El.m CueD))) else undef, fun w1346 hX1347 => od_guard (c := (decide (r1326 ≥ 0)) = false) (val := .pointer (some ((adr a0).add ((Int.toNat (r1239[(Int.toNat v1251)]!)) * El.m CueD)))) (b := ((decide (r1326 ≥ 0)) == false)) (gv_some rfl rfl rfl) beq_iff_eq (fun hc1350 => ?_), ?_⟩
              · have hS1348 := hS1296.ext hX1347
                have hB1349 := hB1295.trans (Ext.stp hX1347 hS1296.base)
                have hcq5 : ¬ (r1326 ≥ 0) := (i_neg decide_eq_true_iff hc1350)
                exact is_ext (q_index (i := r1239[(Int.toNat v1251)]!) SL26 (if_pos hc1350) (if_pos hc1350) (Tv.o (hp0.bel hB1349)) (Tv.g (hp0.bel hB1349) (hg1351 hcq5)))
              refine ⟨if (decide (r1326 ≥ 0)) = false then .agg #[.int .i64 (p0[(Int.toNat (r1239[(Int.toNat v1251)]!))]!.1), .slice ((y0[(Int.toNat (r1239[(Int.toNat v1251)]!))]!).2.1.1) ((y0[(Int.toNat (r1239[(Int.toNat v1251)]!))]!).2.1.2.2.length) ((y0[(Int.toNat (r1239[(Int.toNat v1251)]!))]!).2.1.2.1), .slice ((y0[(Int.toNat (r1239[(Int.toNat v1251)]!))]!).2.2.1) ((y0[(Int.toNat (r1239[(Int.toNat v1251)]!))]!).2.2.2.2.length) ((y0[(Int.toNat (r1239[(Int.toNat v1251)]!))]!).2.2.2.1)] else undef, fun w1352 hX1353 => od_guard (c := (decide (r1326 ≥ 0)) = false) (val := .agg #[.int .i64 (p0[(Int.toNat (r1239[(Int.toNat v1251)]!))]!.1), .slice ((y0[(Int.toNat (r1239[(Int.toNat v1251)]!))]!).2.1.1) ((y0[(Int.toNat (r1239[(Int.toNat v1251)]!))]!).2.1.2.2.length) ((y0[(Int.toNat (r1239[(Int.toNat v1251)]!))]!).2.1.2.1), .slice ((y0[(Int.toNat (r1239[(Int.toNat v1251)]!))]!).2.2.1) ((y0[(Int.toNat (r1239[(Int.toNat v1251)]!))]!).2.2.2.2.length) ((y0[(Int.toNat (r1239[(Int.toNat v1251)]!))]!).2.2.2.1)]) (b := ((decide (r1326 ≥ 0)) == false)) (gv_some rfl rfl rfl) beq_iff_eq (fun hc1356 => ?_), ?_⟩
              · have hS1354 := hS1296.ext hX1353
                have hB1355 := hB1295.trans (Ext.stp hX1353 hS1296.base)
                have hcq5 : ¬ (r1326 ≥ 0) := (i_neg decide_eq_true_iff hc1356)
                exact is_ext (q_loadS (i := r1239[(Int.toNat v1251)]!) (cs := [.int .i64 (p0[(Int.toNat (r1239[(Int.toNat v1251)]!))]!.1), .slice ((y0[(Int.toNat (r1239[(Int.toNat v1251)]!))]!).2.1.1) ((y0[(Int.toNat (r1239[(Int.toNat v1251)]!))]!).2.1.2.2.length) ((y0[(Int.toNat (r1239[(Int.toNat v1251)]!))]!).2.1.2.1), .slice ((y0[(Int.toNat (r1239[(Int.toNat v1251)]!))]!).2.2.1) ((y0[(Int.toNat (r1239[(Int.toNat v1251)]!))]!).2.2.2.2.length) ((y0[(Int.toNat (r1239[(Int.toNat v1251)]!))]!).2.2.2.1)]) AG39 (Tv.o (hp0.bel hB1355)) (Tv.g (hp0.bel hB1355) (hg1351 hcq5)) (by rw [← Tv.ticks (hp0.bel hB1355) (hg1351 hcq5)]; rfl) (if_pos hc1356))
              refine ⟨if (decide (r1326 ≥ 0)) = false then .slice a0 n0 c0 else undef, fun w1357 hX1358 => od_guard (c := (decide (r1326 ≥ 0)) = false) (val := .slice a0 n0 c0) (b := ((decide (r1326 ≥ 0)) == false)) (gv_some rfl rfl rfl) beq_iff_eq (fun hc1361 => ?_), ?_⟩
              · have hS1359 := hS1296.ext hX1358
                have hB1360 := hB1295.trans (Ext.stp hX1358 hS1296.base)
                have hcq5 : ¬ (r1326 ≥ 0) := (i_neg decide_eq_true_iff hc1361)
                exact is_ext (g_move (v := .slice a0 n0 c0) rfl)
              refine ⟨if (decide (r1326 ≥ 0)) = false then .int .i64 (x1247[(Int.toNat v1277)]!) else undef, fun w1362 hX1363 => od_guard (c := (decide (r1326 ≥ 0)) = false) (val := .int .i64 (x1247[(Int.toNat v1277)]!)) (b := ((decide (r1326 ≥ 0)) == false)) (gv_some rfl rfl rfl) beq_iff_eq (fun hc1366 => ?_), ?_⟩
              · have hS1364 := hS1296.ext hX1363
                have hB1365 := hB1295.trans (Ext.stp hX1363 hS1296.base)
                have hcq5 : ¬ (r1326 ≥ 0) := (i_neg decide_eq_true_iff hc1366)
                exact is_ext (g_move (v := .int .i64 (x1247[(Int.toNat v1277)]!)) rfl)
              obtain ⟨hg1372, hm⟩ := hm
              refine ⟨if (decide (r1326 ≥ 0)) = false then .pointer (some ((adr a0).add ((Int.toNat (x1247[(Int.toNat v1277)]!)) * El.m CueD))) else undef, fun w1367 hX1368 => od_guard (c := (decide (r1326 ≥ 0)) = false) (val := .pointer (some ((adr a0).add ((Int.toNat (x1247[(Int.toNat v1277)]!)) * El.m CueD)))) (b := ((decide (r1326 ≥ 0)) == false)) (gv_some rfl rfl rfl) beq_iff_eq (fun hc1371 => ?_), ?_⟩
              · have hS1369 := hS1296.ext hX1368
                have hB1370 := hB1295.trans (Ext.stp hX1368 hS1296.base)
                have hcq5 : ¬ (r1326 ≥ 0) := (i_neg decide_eq_true_iff hc1371)
                exact is_ext (q_index (i := x1247[(Int.toNat v1277)]!) SL26 (if_pos hc1371) (if_pos hc1371) (Tv.o (hp0.bel hB1370)) (Tv.g (hp0.bel hB1370) (hg1372 hcq5)))
              refine ⟨if (decide (r1326 ≥ 0)) = false then .agg #[.int .i64 (p0[(Int.toNat (x1247[(Int.toNat v1277)]!))]!.1), .slice ((y0[(Int.toNat (x1247[(Int.toNat v1277)]!))]!).2.1.1) ((y0[(Int.toNat (x1247[(Int.toNat v1277)]!))]!).2.1.2.2.length) ((y0[(Int.toNat (x1247[(Int.toNat v1277)]!))]!).2.1.2.1), .slice ((y0[(Int.toNat (x1247[(Int.toNat v1277)]!))]!).2.2.1) ((y0[(Int.toNat (x1247[(Int.toNat v1277)]!))]!).2.2.2.2.length) ((y0[(Int.toNat (x1247[(Int.toNat v1277)]!))]!).2.2.2.1)] else undef, fun w1373 hX1374 => od_guard (c := (decide (r1326 ≥ 0)) = false) (val := .agg #[.int .i64 (p0[(Int.toNat (x1247[(Int.toNat v1277)]!))]!.1), .slice ((y0[(Int.toNat (x1247[(Int.toNat v1277)]!))]!).2.1.1) ((y0[(Int.toNat (x1247[(Int.toNat v1277)]!))]!).2.1.2.2.length) ((y0[(Int.toNat (x1247[(Int.toNat v1277)]!))]!).2.1.2.1), .slice ((y0[(Int.toNat (x1247[(Int.toNat v1277)]!))]!).2.2.1) ((y0[(Int.toNat (x1247[(Int.toNat v1277)]!))]!).2.2.2.2.length) ((y0[(Int.toNat (x1247[(Int.toNat v1277)]!))]!).2.2.2.1)]) (b := ((decide (r1326 ≥ 0)) == false)) (gv_some rfl rfl rfl) beq_iff_eq (fun hc1377 => ?_), ?_⟩
              · have hS1375 := hS1296.ext hX1374
                have hB1376 := hB1295.trans (Ext.stp hX1374 hS1296.base)
                have hcq5 : ¬ (r1326 ≥ 0) := (i_neg decide_eq_true_iff hc1377)
                exact is_ext (q_loadS (i := x1247[(Int.toNat v1277)]!) (cs := [.int .i64 (p0[(Int.toNat (x1247[(Int.toNat v1277)]!))]!.1), .slice ((y0[(Int.toNat (x1247[(Int.toNat v1277)]!))]!).2.1.1) ((y0[(Int.toNat (x1247[(Int.toNat v1277)]!))]!).2.1.2.2.length) ((y0[(Int.toNat (x1247[(Int.toNat v1277)]!))]!).2.1.2.1), .slice ((y0[(Int.toNat (x1247[(Int.toNat v1277)]!))]!).2.2.1) ((y0[(Int.toNat (x1247[(Int.toNat v1277)]!))]!).2.2.2.2.length) ((y0[(Int.toNat (x1247[(Int.toNat v1277)]!))]!).2.2.2.1)]) AG39 (Tv.o (hp0.bel hB1376)) (Tv.g (hp0.bel hB1376) (hg1372 hcq5)) (by rw [← Tv.ticks (hp0.bel hB1376) (hg1372 hcq5)]; rfl) (if_pos hc1377))
              obtain ⟨r1383, hk1384, hm⟩ := hm
              refine ⟨if (decide (r1326 ≥ 0)) = false then .bool r1383 else undef, fun w1378 hX1379 => od_guard (c := (decide (r1326 ≥ 0)) = false) (val := .bool r1383) (b := ((decide (r1326 ≥ 0)) == false)) (gv_some rfl rfl rfl) beq_iff_eq (fun hc1382 => ?_), ?_⟩
              · have hS1380 := hS1296.ext hX1379
                have hB1381 := hB1295.trans (Ext.stp hX1379 hS1296.base)
                have hcq5 : ¬ (r1326 ≥ 0) := (i_neg decide_eq_true_iff hc1382)
                exact (g_call (vs := #[.agg #[.int .i64 (p0[(Int.toNat (r1239[(Int.toNat v1251)]!))]!.1), .slice ((y0[(Int.toNat (r1239[(Int.toNat v1251)]!))]!).2.1.1) ((y0[(Int.toNat (r1239[(Int.toNat v1251)]!))]!).2.1.2.2.length) ((y0[(Int.toNat (r1239[(Int.toNat v1251)]!))]!).2.1.2.1), .slice ((y0[(Int.toNat (r1239[(Int.toNat v1251)]!))]!).2.2.1) ((y0[(Int.toNat (r1239[(Int.toNat v1251)]!))]!).2.2.2.2.length) ((y0[(Int.toNat (r1239[(Int.toNat v1251)]!))]!).2.2.2.1)], .agg #[.int .i64 (p0[(Int.toNat (x1247[(Int.toNat v1277)]!))]!.1), .slice ((y0[(Int.toNat (x1247[(Int.toNat v1277)]!))]!).2.1.1) ((y0[(Int.toNat (x1247[(Int.toNat v1277)]!))]!).2.1.2.2.length) ((y0[(Int.toNat (x1247[(Int.toNat v1277)]!))]!).2.1.2.1), .slice ((y0[(Int.toNat (x1247[(Int.toNat v1277)]!))]!).2.2.1) ((y0[(Int.toNat (x1247[(Int.toNat v1277)]!))]!).2.2.2.2.length) ((y0[(Int.toNat (x1247[(Int.toNat v1277)]!))]!).2.2.2.1)]]) CF70 (args2 (if_pos hc1382) (if_pos hc1382)) ((m_impl_share_fn (p0[(Int.toNat (r1239[(Int.toNat v1251)]!))]!) ((Tv.rowC0 (hp0.bel hB1381) (hg1351 hcq5)).up hS1380) ((Tv.rowC1 (hp0.bel hB1381) (hg1351 hcq5)).up hS1380) (p0[(Int.toNat (x1247[(Int.toNat v1277)]!))]!) ((Tv.rowC0 (hp0.bel hB1381) (hg1372 hcq5)).up hS1380) ((Tv.rowC1 (hp0.bel hB1381) (hg1372 hcq5)).up hS1380) (hk1384 hcq5)).mono fun _ _ ⟨_, h1, h2, h3⟩ => ⟨by rw [h2, h1], h3⟩))
              refine ⟨.bool ((decide (r1326 ≥ 0)) || r1383), fun w1385 hX1386 => od_plain rfl (by have hS1387 := hS1296.ext hX1386; have hB1388 := hB1295.trans (Ext.stp hX1386 hS1296.base); exact is_ext (g_pick_or (b := (decide (r1326 ≥ 0))) (q := r1383) rfl rfl)), ?_⟩
              intro w1389 hX1390
              have hB1391 := hB1295.trans (Ext.stp hX1390 hS1296.base)
              have hS1392 := hS1296.ext hX1390
              refine hK1292 _ _ ?_
              refine w_condI (p := ((r1326 ≥ 0) ∨ (r1383 = true))) (b := ((decide (r1326 ≥ 0)) || r1383)) rfl (i_or decide_eq_true_iff Iff.rfl) (fun h1393 => ?_) (fun h1393 => ?_)
              · replace hm := hm.1 h1393
                refine w_draw (X := Ext) (Y := Ext) [0, 0, 0, 0, 0, 0, 0, 0, 0, 0, 0, 0, 0, 0, 0, 0, 0, 0, 1] MIX (by decide +kernel) rfl Ext.refl (fun _ _ _ => Ext.trans) (fun _ _ _ => Chg.trans) (fun _ _ h => Ext.chg h _) (fun w1394 hE1395 => ?_)
                have hB1396 := hB1391.trans (Ext.stp hE1395 hS1392.base)
                have hS1397 := hS1392.ext hE1395
                refine ⟨.slice a17 (Int.toNat (p0.length : Int)) (Int.toNat (p0.length : Int)), fun w1398 hX1399 => od_plain rfl (by have hS1400 := hS1397.ext hX1399; have hB1401 := hB1396.trans (Ext.stp hX1399 hS1397.base); exact is_ext (g_move (v := .slice a17 (Int.toNat (p0.length : Int)) (Int.toNat (p0.length : Int))) rfl)), ?_⟩
                refine ⟨.int .i64 (r1239[(Int.toNat v1251)]!), fun w1402 hX1403 => od_plain rfl (by have hS1404 := hS1397.ext hX1403; have hB1405 := hB1396.trans (Ext.stp hX1403 hS1397.base); exact is_ext (g_move (v := .int .i64 (r1239[(Int.toNat v1251)]!)) rfl)), ?_⟩
                refine ⟨.slice a17 (Int.toNat (p0.length : Int)) (Int.toNat (p0.length : Int)), fun w1406 hX1407 => od_plain rfl (by have hS1408 := hS1397.ext hX1407; have hB1409 := hB1396.trans (Ext.stp hX1407 hS1397.base); exact is_ext (g_move (v := .slice a17 (Int.toNat (p0.length : Int)) (Int.toNat (p0.length : Int))) rfl)), ?_⟩
                refine ⟨.int .i64 (r1239[(Int.toNat v1251)]!), fun w1410 hX1411 => od_plain rfl (by have hS1412 := hS1397.ext hX1411; have hB1413 := hB1396.trans (Ext.stp hX1411 hS1397.base); exact is_ext (g_move (v := .int .i64 (r1239[(Int.toNat v1251)]!)) rfl)), ?_⟩
                obtain ⟨hg1418, hm⟩ := hm
                refine ⟨.pointer (some ((adr a17).add ((Int.toNat (r1239[(Int.toNat v1251)]!)) * El.m Int))), fun w1414 hX1415 => od_plain rfl (by have hS1416 := hS1397.ext hX1415; have hB1417 := hB1396.trans (Ext.stp hX1415 hS1397.base); exact is_ext (q_index (i := r1239[(Int.toNat v1251)]!) SL24 rfl rfl (oS.vw hS1416.g0) hg1418)), ?_⟩
                refine ⟨.int .i64 (x1276[(Int.toNat (r1239[(Int.toNat v1251)]!))]!), fun w1419 hX1420 => od_plain rfl (by have hS1421 := hS1397.ext hX1420; have hB1422 := hB1396.trans (Ext.stp hX1420 hS1397.base); exact is_ext (q_load (i := r1239[(Int.toNat v1251)]!) (v := .int .i64 (x1276[(Int.toNat (r1239[(Int.toNat v1251)]!))]!)) ON3 (oS.vw hS1421.g0) hg1418 rfl rfl)), ?_⟩
                refine ⟨.slice a17 (Int.toNat (p0.length : Int)) (Int.toNat (p0.length : Int)), fun w1423 hX1424 => od_plain rfl (by have hS1425 := hS1397.ext hX1424; have hB1426 := hB1396.trans (Ext.stp hX1424 hS1397.base); exact is_ext (g_move (v := .slice a17 (Int.toNat (p0.length : Int)) (Int.toNat (p0.length : Int))) rfl)), ?_⟩
                refine ⟨.int .i64 (x1247[(Int.toNat v1277)]!), fun w1427 hX1428 => od_plain rfl (by have hS1429 := hS1397.ext hX1428; have hB1430 := hB1396.trans (Ext.stp hX1428 hS1397.base); exact is_ext (g_move (v := .int .i64 (x1247[(Int.toNat v1277)]!)) rfl)), ?_⟩
                obtain ⟨hg1435, hm⟩ := hm
                refine ⟨.pointer (some ((adr a17).add ((Int.toNat (x1247[(Int.toNat v1277)]!)) * El.m Int))), fun w1431 hX1432 => od_plain rfl (by have hS1433 := hS1397.ext hX1432; have hB1434 := hB1396.trans (Ext.stp hX1432 hS1397.base); exact is_ext (q_index (i := x1247[(Int.toNat v1277)]!) SL24 rfl rfl (oS.vw hS1433.g0) hg1435)), ?_⟩
                refine ⟨.int .i64 (x1276[(Int.toNat (x1247[(Int.toNat v1277)]!))]!), fun w1436 hX1437 => od_plain rfl (by have hS1438 := hS1397.ext hX1437; have hB1439 := hB1396.trans (Ext.stp hX1437 hS1397.base); exact is_ext (q_load (i := x1247[(Int.toNat v1277)]!) (v := .int .i64 (x1276[(Int.toNat (x1247[(Int.toNat v1277)]!))]!)) ON3 (oS.vw hS1438.g0) hg1435 rfl rfl)), ?_⟩
                refine ⟨.slice a0 n0 c0, fun w1440 hX1441 => od_plain rfl (by have hS1442 := hS1397.ext hX1441; have hB1443 := hB1396.trans (Ext.stp hX1441 hS1397.base); exact is_ext (g_move (v := .slice a0 n0 c0) rfl)), ?_⟩
                refine ⟨.int .i64 (x1247[(Int.toNat v1277)]!), fun w1444 hX1445 => od_plain rfl (by have hS1446 := hS1397.ext hX1445; have hB1447 := hB1396.trans (Ext.stp hX1445 hS1397.base); exact is_ext (g_move (v := .int .i64 (x1247[(Int.toNat v1277)]!)) rfl)), ?_⟩
                obtain ⟨hg1452, hm⟩ := hm
                refine ⟨.pointer (some ((adr a0).add ((Int.toNat (x1247[(Int.toNat v1277)]!)) * El.m CueD))), fun w1448 hX1449 => od_plain rfl (by have hS1450 := hS1397.ext hX1449; have hB1451 := hB1396.trans (Ext.stp hX1449 hS1397.base); exact is_ext (q_index (i := x1247[(Int.toNat v1277)]!) SL26 rfl rfl (Tv.o (hp0.bel hB1451)) (Tv.g (hp0.bel hB1451) hg1452))), ?_⟩
                refine ⟨.pointer (some (((adr a0).add ((Int.toNat (x1247[(Int.toNat v1277)]!)) * El.m CueD)).add 0)), fun w1453 hX1454 => od_plain rfl (by have hS1455 := hS1397.ext hX1454; have hB1456 := hB1396.trans (Ext.stp hX1454 hS1397.base); exact is_ext (g_fieldAddr (q := (adr a0).add ((Int.toNat (x1247[(Int.toNat v1277)]!)) * El.m CueD)) FL39_0 ON3 rfl)), ?_⟩
                refine ⟨.int .i64 (p0[(Int.toNat (x1247[(Int.toNat v1277)]!))]!.1), fun w1457 hX1458 => od_plain rfl (by have hS1459 := hS1397.ext hX1458; have hB1460 := hB1396.trans (Ext.stp hX1458 hS1397.base); exact is_ext (q_loadF (i := x1247[(Int.toNat v1277)]!) (j := 0) (v := .int .i64 (p0[(Int.toNat (x1247[(Int.toNat v1277)]!))]!.1)) ON3 (Tv.o (hp0.bel hB1460)) (Tv.g (hp0.bel hB1460) hg1452) (by rw [← Tv.ticks (hp0.bel hB1460) hg1452]; rfl) rfl)), ?_⟩
                obtain ⟨hg1465, hm⟩ := hm
                refine ⟨.int .i64 (x1276[(Int.toNat (x1247[(Int.toNat v1277)]!))]! + p0[(Int.toNat (x1247[(Int.toNat v1277)]!))]!.1), fun w1461 hX1462 => od_plain rfl (by have hS1463 := hS1397.ext hX1462; have hB1464 := hB1396.trans (Ext.stp hX1462 hS1397.base); exact is_ext (g_add (a := x1276[(Int.toNat (x1247[(Int.toNat v1277)]!))]!) (b := p0[(Int.toNat (x1247[(Int.toNat v1277)]!))]!.1) rfl rfl hg1465)), ?_⟩
                refine ⟨.int .i64 (max (x1276[(Int.toNat (r1239[(Int.toNat v1251)]!))]!) (x1276[(Int.toNat (x1247[(Int.toNat v1277)]!))]! + p0[(Int.toNat (x1247[(Int.toNat v1277)]!))]!.1)), fun w1466 hX1467 => od_plain rfl (by have hS1468 := hS1397.ext hX1467; have hB1469 := hB1396.trans (Ext.stp hX1467 hS1397.base); exact is_ext (g_max (a := x1276[(Int.toNat (r1239[(Int.toNat v1251)]!))]!) (b := (x1276[(Int.toNat (x1247[(Int.toNat v1277)]!))]! + p0[(Int.toNat (x1247[(Int.toNat v1277)]!))]!.1)) rfl rfl)), ?_⟩
                obtain ⟨hg1474, hm⟩ := hm
                refine ⟨.pointer (some ((adr a17).add ((Int.toNat (r1239[(Int.toNat v1251)]!)) * El.m Int))), fun w1470 hX1471 => od_plain rfl (by have hS1472 := hS1397.ext hX1471; have hB1473 := hB1396.trans (Ext.stp hX1471 hS1397.base); exact is_ext (q_index (i := r1239[(Int.toNat v1251)]!) SL24 rfl rfl (oS.vw hS1472.g0) hg1474)), ?_⟩
                intro w1475 hX1476
                have hB1477 := hB1396.trans (Ext.stp hX1476 hS1397.base)
                have hS1478 := hS1397.ext hX1476
                refine ⟨_, od_plain rfl (q_store (i := r1239[(Int.toNat v1251)]!) (v := ((max (x1276[(Int.toNat (r1239[(Int.toNat v1251)]!))]!) (x1276[(Int.toNat (x1247[(Int.toNat v1277)]!))]! + p0[(Int.toNat (x1247[(Int.toNat v1277)]!))]!.1)) : Int)) hS1478 ON3.sz hg1474 rfl rfl rfl), ?_⟩
                rintro _ w1479 ⟨rfl, hS1480, hb1481⟩
                have hB1482 := hB1477.trans hb1481
                intro w1483 hX1484
                have hB1485 := hB1482.trans (Ext.stp hX1484 hS1480.base)
                have hS1486 := hS1480.ext hX1484
                refine hK1289 _ _ ?_
                refine w_region ?_
                obtain ⟨hg1487, hm⟩ := hm
                refine wl_val (g_add (a := v1277) (b := 1) rfl rfl hg1487) rfl ?_
                refine wl_val (g_move (v := .int .i64 (v1277 + 1)) rfl) rfl ?_
                refine wl_nil ?_
                exact ⟨((x1276.set (Int.toNat (r1239[(Int.toNat v1251)]!)) (max (x1276[(Int.toNat (r1239[(Int.toNat v1251)]!))]!) (x1276[(Int.toNat (x1247[(Int.toNat v1277)]!))]! + p0[(Int.toNat (x1247[(Int.toNat v1277)]!))]!.1))), (v1277 + 1)), hm.2, ⟨rfl, rfl, rfl, rfl, rfl, rfl, rfl, rfl, rfl, rfl, trivial⟩, ⟨hm.1, hB1485, hS1486⟩⟩
              · replace hm := hm.2 h1393
                refine w_skip ?_
                refine hK1289 _ _ ?_
                refine w_region ?_
                obtain ⟨hg1488, hm⟩ := hm
                refine wl_val (g_add (a := v1277) (b := 1) rfl rfl hg1488) rfl ?_
                refine wl_val (g_move (v := .int .i64 (v1277 + 1)) rfl) rfl ?_
                refine wl_nil ?_
                exact ⟨(x1276, (v1277 + 1)), hm.2, ⟨rfl, rfl, rfl, rfl, rfl, rfl, rfl, rfl, rfl, rfl, trivial⟩, ⟨hm.1, hB1391, hS1392⟩⟩
            · replace hm := hm.2 h1288
              refine w_exit ?_
              exact ⟨(x1276), ⟨rfl, rfl, rfl, rfl, rfl, rfl, rfl, trivial⟩, ⟨hm, hB1283, hS1284⟩⟩
          · rintro x1273 b_ w1489 ⟨hm, hB1490, hS1491⟩
            show Wp _ _ _ _ (upds b_ [(0, .slice a0 n0 c0), (3, .slice a17 (Int.toNat (p0.length : Int)) (Int.toNat (p0.length : Int))), (4, .slice a1248 n1249 c1250), (6, .int .i64 (r1239[(Int.toNat v1251)]!)), (17, .slice a1240 n1241 c1242), (18, .int .i64 (r1239.length : Int)), (19, .int .i64 v1251)]) w1489
            refine w_region ?_
            refine wl_val (g_move (v := .slice a1248 n1249 c1250) rfl) rfl ?_
            refine wl_val (g_move (v := .int .i64 (r1239[(Int.toNat v1251)]!)) rfl) rfl ?_
            refine wl_step rfl (q_lit1 (y := (r1239[(Int.toNat v1251)]! : Int)) SL24 rfl rfl (by decide) hS1491) ?_
            rintro _ w1492 ⟨a1493, rfl, hS1495, hE1494⟩
            have hB1497 := hB1490.trans (Ext.stp hE1494 hS1491.base)
            have hS1503 := hS1495.f2
            obtain ⟨hg1504, hm⟩ := hm
            refine wl_step rfl (q_append SL24 rfl rfl hS1503 (oS.vw hS1503.g1) hg1504 (by decide)) ?_
            rintro _ w1498 ⟨a1499, c1500, rfl, hS1502, hb1501⟩
            have hB1505 := hB1497.trans hb1501
            refine wl_val (g_assign (v := .slice a1499 (n1249 + 1) c1500) rfl) rfl ?_
            refine wl_nil ?_
            have hS1506 := hS1502.f1
            have hS1507 := hS1506.tail
            have hS1508 := hS1507.f2
            have hS1509 := hS1508.f1
            have hS1510 := hS1509.f2
            exact ⟨(x1273, (x1247 ++ ([r1239[(Int.toNat v1251)]!])), a1499, (n1249 + 1), c1500), ⟨rfl, rfl, rfl, rfl, rfl, rfl, trivial⟩, ⟨hm, hB1505, hS1510⟩⟩
        · rintro ⟨x1265, x1266, a1267, n1268, c1269⟩ b_ w1511 ⟨hm, hB1512, hS1513⟩
          show Wp _ _ _ _ (upds b_ [(0, .slice a0 n0 c0), (3, .slice a17 (Int.toNat (p0.length : Int)) (Int.toNat (p0.length : Int))), (4, .slice a1267 n1268 c1269), (17, .slice a1240 n1241 c1242), (18, .int .i64 (r1239.length : Int)), (19, .int .i64 v1251)]) w1511
          refine w_region ?_
          obtain ⟨hg1514, hm⟩ := hm
          refine wl_val (g_add (a := v1251) (b := 1) rfl rfl hg1514) rfl ?_
          refine wl_val (g_move (v := .int .i64 (v1251 + 1)) rfl) rfl ?_
          refine wl_nil ?_
          exact ⟨(x1265, x1266, a1267, n1268, c1269, (v1251 + 1)), hm.2, ⟨rfl, rfl, rfl, rfl, rfl, rfl, trivial⟩, ⟨hm.1, hB1512, hS1513⟩⟩
      · replace hm := hm.2 h1264
        refine w_exit ?_
        have hS1515 := hS1260.f1
        have hS1516 := hS1515.tail
        have hS1517 := hS1516.f1
        have hS1518 := hS1517.tail
        exact ⟨(x1246), ⟨rfl, trivial⟩, ⟨hm, hB1259, hS1518⟩⟩
    · rintro x1233 b_ w1519 ⟨hm, hB1520, hS1521⟩
      show Wp _ _ _ _ (upds b_ [(3, .slice a17 (Int.toNat (p0.length : Int)) (Int.toNat (p0.length : Int)))]) w1519
      refine w_seq fun K1522 hK1522 => ?_
      refine w_region ?_
      refine wl_val (g_move (v := .slice a17 (Int.toNat (p0.length : Int)) (Int.toNat (p0.length : Int))) rfl) rfl ?_
      refine wl_val (g_assign (v := .slice a17 (Int.toNat (p0.length : Int)) (Int.toNat (p0.length : Int))) rfl) rfl ?_
      refine wl_nil ?_
      refine hK1522 _ _ ?_
      refine w_ret ?_
      repeat first | with_reducible refine q_then ?_ | with_reducible refine q_block ?_
      exact ret1 rfl (by decide) ⟨_, _, _, _, hm, rfl, toExt hB1520, hS1521⟩

theorem m_impl_areStarts_fn {w : World} {a0 : Option Addr} {n0 c0 : Nat} {y0 : List CueD} {p0 : List CueC} {a1 : Option Addr} {n1 c1 : Nat} {p1 : List Int} {Q : Bool → Prop} (hp0 : Tv w.heap.size w a0 n0 c0 y0 p0) (hp1 : Vw w.heap.size w a1 n1 c1 p1) (hm : m_impl_areStarts p0 p1 Q) :
    Fn Try.prog 71 #[.slice a0 n0 c0, .slice a1 n1 c1] w (fun v w' => ∃ (r0 : Bool), Q r0 ∧ v = .bool r0 ∧ Ext w w') := by
  unfold m_impl_areStarts at hm
  have hB0 := Below.refl w.heap.size w
  have hS0 : Sep w w.heap.size [] := Sep.nil (Nat.le_refl _)
  refine fn_of_wp Try.func71 rfl (by kernel_rfl) (Nat.le_of_ble_eq_true rfl) ?_
  refine w_seq fun K1 hK1 => ?_
  refine w_region ?_
  refine wl_val (g_assign (v := .bool false) rfl) rfl ?_
  refine wl_nil ?_
  refine hK1 _ _ ?_
  refine w_seq fun K2 hK2 => ?_
  refine w_region ?_
  refine wl_val (g_move (v := .slice a0 n0 c0) rfl) rfl ?_
  refine wl_step rfl (g_call (vs := #[.slice a0 n0 c0]) CF29 (args1 rfl) (m_impl_CuesOk_fn ((hp0.bel hB0).up hS0) hm)) ?_
  rintro _ w3 ⟨r6, hm, rfl, hE4⟩
  have hB7 := hB0.trans (Ext.stp hE4 hS0.base)
  have hS8 := hS0.ext hE4
  refine wl_val (g_move (v := .bool r6) rfl) rfl ?_
  refine wl_guard (c := r6 = true) (val := .slice a1 n1 c1) (b := (r6 == true)) (gv_some rfl rfl rfl) beq_iff_eq (fun hc9 => ?_) ?_
  · have hcq0 : r6 = true := (Iff.rfl.mp hc9)
    exact g_move (v := .slice a1 n1 c1) rfl
  refine wl_guard (c := r6 = true) (val := .int .i64 (p1.length : Int)) (b := (r6 == true)) (gv_some rfl rfl rfl) beq_iff_eq (fun hc10 => ?_) ?_
  · have hcq0 : r6 = true := (Iff.rfl.mp hc10)
    exact q_len SL24 (if_pos hc10) (Vw.len (hp1.bel hB7))
  refine wl_guard (c := r6 = true) (val := .slice a0 n0 c0) (b := (r6 == true)) (gv_some rfl rfl rfl) beq_iff_eq (fun hc11 => ?_) ?_
  · have hcq0 : r6 = true := (Iff.rfl.mp hc11)
    exact g_move (v := .slice a0 n0 c0) rfl
  refine wl_guard (c := r6 = true) (val := .int .i64 (p0.length : Int)) (b := (r6 == true)) (gv_some rfl rfl rfl) beq_iff_eq (fun hc12 => ?_) ?_
  · have hcq0 : r6 = true := (Iff.rfl.mp hc12)
    exact q_len SL26 (if_pos hc12) (Tv.len (hp0.bel hB7))
  refine wl_guard (c := r6 = true) (val := .bool (decide ((p1.length : Int) = (p0.length : Int)))) (b := (r6 == true)) (gv_some rfl rfl rfl) beq_iff_eq (fun hc13 => ?_) ?_
  · have hcq0 : r6 = true := (Iff.rfl.mp hc13)
    exact g_eql (a := (p1.length : Int)) (b := (p0.length : Int)) (if_pos hc13) (if_pos hc13)
  refine wl_val (g_pick_and (b := r6) (q := (decide ((p1.length : Int) = (p0.length : Int)))) rfl rfl) rfl ?_
  refine wl_val (g_move (v := .bool (r6 && (decide ((p1.length : Int) = (p0.length : Int))))) rfl) rfl ?_
  refine wl_guard (c := (r6 && (decide ((p1.length : Int) = (p0.length : Int)))) = true) (val := .slice a1 n1 c1) (b := ((r6 && (decide ((p1.length : Int) = (p0.length : Int)))) == true)) (gv_some rfl rfl rfl) beq_iff_eq (fun hc14 => ?_) ?_
  · have hcq1 : ((r6 = true) ∧ ((p1.length : Int) = (p0.length : Int))) := ((i_and Iff.rfl decide_eq_true_iff).mp hc14)
    exact g_move (v := .slice a1 n1 c1) rfl
  obtain ⟨r16, hk17, hm⟩ := hm
  refine wl_guardE (X := Ext) (c := (r6 && (decide ((p1.length : Int) = (p0.length : Int)))) = true) (val := .bool r16) (Ext.refl _) (b := ((r6 && (decide ((p1.length : Int) = (p0.length : Int)))) == true)) (gv_some rfl rfl rfl) beq_iff_eq (fun hc15 => ?_) (fun w18 hE19 => ?_)
  · have hcq1 : ((r6 = true) ∧ ((p1.length : Int) = (p0.length : Int))) := ((i_and Iff.rfl decide_eq_true_iff).mp hc15)
    exact (g_call (vs := #[.slice a1 n1 c1, .int .i64 0, .int .i64 10000]) CF77 (args3 (if_pos hc15) rfl rfl) ((m_impl_allWithin_fn ((hp1.bel hB7).up hS8) 0 10000 (hk17 hcq1)).mono fun _ _ ⟨_, h1, h2, h3⟩ => ⟨by rw [h2, h1], h3⟩))
  have hB20 := hB7.trans (Ext.stp hE19 hS8.base)
  have hS21 := hS8.ext hE19
  refine wl_val (g_pick_and (b := (r6 && (decide ((p1.length : Int) = (p0.length : Int))))) (q := r16) rfl rfl) rfl ?_
  refine wl_val (g_assign (v := .bool ((r6 && (decide ((p1.length : Int) = (p0.length : Int)))) && r16)) rfl) rfl ?_
  refine wl_nil ?_
  refine hK2 _ _ ?_
  refine w_ret ?_
  repeat first | with_reducible refine q_then ?_ | with_reducible refine q_block ?_
  exact ret1 rfl (by decide) ⟨_, hm, rfl, toExt hB20⟩

theorem m_impl_ClashesIn_fn {w : World} {a0 : Option Addr} {n0 c0 : Nat} {y0 : List CueD} {p0 : List CueC} {a1 : Option Addr} {n1 c1 : Nat} {p1 : List Int} {Q : (List (List Int)) → Prop} (hp0 : Tv w.heap.size w a0 n0 c0 y0 p0) (hp1 : Vw w.heap.size w a1 n1 c1 p1) (hm : m_impl_ClashesIn p0 p1 Q) :
    Fn Try.prog 43 #[.slice a0 n0 c0, .slice a1 n1 c1] w (fun v w' => ∃ (r0 : List (List Int)) (a0 : Option Addr) (n0 c0 : Nat) (y0 : List (Hd Int)), Q r0 ∧ ers y0 = r0 ∧ v = .slice a0 n0 c0 ∧ Ext w w' ∧ Sep w' w.heap.size [oS 24 a0 n0 c0 y0, oT 3 y0]) := by
  unfold m_impl_ClashesIn at hm
  have hB0 := Below.refl w.heap.size w
  have hS0 : Sep w w.heap.size [] := Sep.nil (Nat.le_refl _)
  refine fn_of_wp Try.func43 rfl (by kernel_rfl) (Nat.le_of_ble_eq_true rfl) ?_
  refine w_seq fun K1 hK1 => ?_
  refine w_region ?_
  refine wl_val (g_assign (v := .slice none 0 0) rfl) rfl ?_
  refine wl_nil ?_
  refine hK1 _ _ ?_
  refine w_seq fun K2 hK2 => ?_
  refine w_seq fun K3 hK3 => ?_
  refine w_region ?_
  refine wl_val (g_move (v := .slice a0 n0 c0) rfl) rfl ?_
  refine wl_val (g_move (v := .slice a1 n1 c1) rfl) rfl ?_
  refine wl_step rfl (g_call (vs := #[.slice a0 n0 c0, .slice a1 n1 c1]) CF71 (args2 rfl rfl) (m_impl_areStarts_fn ((hp0.bel hB0).up hS0) ((hp1.bel hB0).up hS0) hm)) ?_
  rintro _ w4 ⟨r7, hm, rfl, hE5⟩
  have hB8 := hB0.trans (Ext.stp hE5 hS0.base)
  have hS9 := hS0.ext hE5
  refine wl_val (g_not (a := r7) rfl) rfl ?_
  refine wl_nil ?_
  refine hK3 _ _ ?_
  refine w_condI (p := ¬ (r7 = true)) (b := (!r7)) rfl (i_not Iff.rfl) (fun h10 => ?_) (fun h10 => ?_)
  · replace hm := hm.1 h10
    refine w_seq fun K11 hK11 => ?_
    refine w_region ?_
    refine wl_val (g_assign (v := .slice none 0 0) rfl) rfl ?_
    refine wl_nil ?_
    refine hK11 _ _ ?_
    refine w_ret ?_
    have hS12 := hS9.nilS (α := (Hd Int)) (E := 24)
    have hS14 := hS12.noRows (δ := Hd Int) (E := 3)
    have he16 : ers ([] : List (Hd Int)) = ([] : List (List Int)) := rfl
    have hS18 := hS14.f1
    repeat first | with_reducible refine q_then ?_ | with_reducible refine q_block ?_
    exact ret1 rfl (by decide) ⟨_, _, _, _, _, hm, he16, rfl, toExt hB8, hS18⟩
  · replace hm := hm.2 h10
    refine w_skip ?_
    refine hK2 _ _ ?_
    refine w_seq fun K19 hK19 => ?_
    refine w_region ?_
    refine wl_step rfl (q_lit0 (α := (Hd Int)) rfl SL44 hS9) ?_
    rintro _ w20 ⟨a21, rfl, hS23, hE22⟩
    have hB25 := hB8.trans (Ext.stp hE22 hS9.base)
    have hS26 := hS23.noRows (δ := Hd Int) (E := 3)
    have he28 : ers ([] : List (Hd Int)) = ([] : List (List Int)) := rfl
    refine wl_val (g_assign (v := .slice a21 0 0) rfl) rfl ?_
    refine wl_nil ?_
    refine hK19 _ _ ?_
    refine w_cut (σ := List (List Int) × Option Addr × Nat × Nat × List (Hd Int)) (fun ⟨x1198, a1199, n1200, c1201, y1202⟩ => [(5, .slice a1199 n1200 c1201)]) (fun ⟨x1198, a1199, n1200, c1201, y1202⟩ w' => m_impl_ClashesIn_K1 Q x1198 ∧ ers y1202 = x1198 ∧ Below w.heap.size w w' ∧ Sep w' w.heap.size [oS 24 a1199 n1200 c1201 (y1202 : List (Hd Int)), oT 3 (y1202 : List (Hd Int))]) ?_ ?_
    · refine w_seq fun K1205 hK1205 => ?_
      refine w_region ?_
      refine wl_val (g_move (v := .slice a0 n0 c0) rfl) rfl ?_
      refine wl_val (q_len SL26 rfl (Tv.len (hp0.bel hB25))) rfl ?_
      refine wl_val (g_move (v := .int .i64 0) rfl) rfl ?_
      refine wl_nil ?_
      refine hK1205 _ _ ?_
      refine w_block ?_
      have hS1213 := hS26.f1
      obtain ⟨I1214, μ1215, h01216, hr1217⟩ := hm
      refine w_for (σ := List (List Int) × Option Addr × Nat × Nat × List (Hd Int) × Int) (fun ⟨x1206, a1207, n1208, c1209, y1210, v1212⟩ => [(0, .slice a0 n0 c0), (1, .slice a1 n1 c1), (5, .slice a1207 n1208 c1209), (14, .int .i64 (p0.length : Int)), (15, .int .i64 v1212)]) (fun ⟨x1206, a1207, n1208, c1209, y1210, v1212⟩ w' => I1214 x1206 v1212 ∧ ers y1210 = x1206 ∧ Below w.heap.size w w' ∧ Sep w' w.heap.size [oS 24 a1207 n1208 c1209 (y1210 : List (Hd Int)), oT 3 (y1210 : List (Hd Int))]) (fun ⟨x1206, a1207, n1208, c1209, y1210, v1212⟩ => μ1215 x1206 v1212) ([], a21, 0, 0, [], 0) ⟨rfl, rfl, rfl, rfl, rfl, trivial⟩ ⟨h01216, he28, hB25, hS1213⟩ ?_
      rintro ⟨x1206, a1207, n1208, c1209, y1210, v1212⟩ b_ w1218 ⟨hi_, he1211, hB1219, hS1220⟩
      show Wp _ _ _ _ (upds b_ [(0, .slice a0 n0 c0), (1, .slice a1 n1 c1), (5, .slice a1207 n1208 c1209), (14, .int .i64 (p0.length : Int)), (15, .int .i64 v1212)]) w1218
      have hm := hr1217 x1206 v1212 hi_
      refine w_seq fun K1222 hK1222 => ?_
      refine w_region ?_
      refine wl_val (g_lss (a := v1212) (b := (p0.length : Int)) rfl rfl) rfl ?_
      refine wl_nil ?_
      refine hK1222 _ _ ?_
      refine w_seq fun K1223 hK1223 => ?_
      refine w_condI (p := v1212 < (p0.length : Int)) (b := (decide (v1212 < (p0.length : Int)))) rfl decide_eq_true_iff (fun h1224 => ?_) (fun h1224 => ?_)
      · replace hm := hm.1 h1224
        refine w_skip ?_
        refine hK1223 _ _ ?_
        refine w_cut (σ := List (List Int) × Option Addr × Nat × Nat × List (Hd Int)) (fun ⟨x1225, a1226, n1227, c1228, y1229⟩ => [(0, .slice a0 n0 c0), (1, .slice a1 n1 c1), (5, .slice a1226 n1227 c1228), (14, .int .i64 (p0.length : Int)), (15, .int .i64 v1212)]) (fun ⟨x1225, a1226, n1227, c1228, y1229⟩ w' => m_impl_ClashesIn_K0 v1212 (fun x1206' v1212' => I1214 x1206' v1212' ∧ μ1215 x1206' v1212' < μ1215 x1206 v1212) x1225 ∧ ers y1229 = x1225 ∧ Below w.heap.size w w' ∧ Sep w' w.heap.size [oS 24 a1226 n1227 c1228 (y1229 : List (Hd Int)), oT 3 (y1229 : List (Hd Int))]) ?_ ?_
        · refine w_block ?_
          refine w_seq fun K1232 hK1232 => ?_
          refine w_region ?_
          refine wl_val (g_move (v := .int .i64 v1212) rfl) rfl ?_
          refine wl_val (g_assign (v := .int .i64 v1212) rfl) rfl ?_
          refine wl_nil ?_
          refine hK1232 _ _ ?_
          refine w_seq fun K1233 hK1233 => ?_
          refine w_region ?_
          refine wl_val (g_move (v := .int .i64 v1212) rfl) rfl ?_
          obtain ⟨hg1234, hm⟩ := hm
          refine wl_val (g_add (a := v1212) (b := 1) rfl rfl hg1234) rfl ?_
          refine wl_val (g_assign (v := .int .i64 (v1212 + 1)) rfl) rfl ?_
          refine wl_nil ?_
          refine hK1233 _ _ ?_
          refine w_block ?_
          obtain ⟨I1242, μ1243, h01244, hr1245⟩ := hm
          refine w_for (σ := List (List Int) × Option Addr × Nat × Nat × List (Hd Int) × Int) (fun ⟨x1235, a1236, n1237, c1238, y1239, v1241⟩ => [(0, .slice a0 n0 c0), (1, .slice a1 n1 c1), (5, .slice a1236 n1237 c1238), (6, .int .i64 v1212), (7, .int .i64 v1241), (14, .int .i64 (p0.length : Int)), (15, .int .i64 v1212)]) (fun ⟨x1235, a1236, n1237, c1238, y1239, v1241⟩ w' => I1242 x1235 v1241 ∧ ers y1239 = x1235 ∧ Below w.heap.size w w' ∧ Sep w' w.heap.size [oS 24 a1236 n1237 c1238 (y1239 : List (Hd Int)), oT 3 (y1239 : List (Hd Int))]) (fun ⟨x1235, a1236, n1237, c1238, y1239, v1241⟩ => μ1243 x1235 v1241) (x1206, a1207, n1208, c1209, y1210, (v1212 + 1)) ⟨rfl, rfl, rfl, rfl, rfl, rfl, rfl, trivial⟩ ⟨h01244, he1211, hB1219, hS1220⟩ ?_
          rintro ⟨x1235, a1236, n1237, c1238, y1239, v1241⟩ b_ w1246 ⟨hi_, he1240, hB1247, hS1248⟩
          show Wp _ _ _ _ (upds b_ [(0, .slice a0 n0 c0), (1, .slice a1 n1 c1), (5, .slice a1236 n1237 c1238), (6, .int .i64 v1212), (7, .int .i64 v1241), (14, .int .i64 (p0.length : Int)), (15, .int .i64 v1212)]) w1246
          have hm := hr1245 x1235 v1241 hi_
          refine w_seq fun K1250 hK1250 => ?_
          refine w_seq fun K1251 hK1251 => ?_
          refine w_region ?_
          refine wl_val (g_move (v := .int .i64 v1241) rfl) rfl ?_
          refine wl_val (g_move (v := .slice a0 n0 c0) rfl) rfl ?_
          refine wl_val (q_len SL26 rfl (Tv.len (hp0.bel hB1247))) rfl ?_
          refine wl_val (g_lss (a := v1241) (b := (p0.length : Int)) rfl rfl) rfl ?_
          refine wl_nil ?_
          refine hK1251 _ _ ?_
          refine w_condI (p := v1241 < (p0.length : Int)) (b := (decide (v1241 < (p0.length : Int)))) rfl decide_eq_true_iff (fun h1252 => ?_) (fun h1252 => ?_)
          · replace hm := hm.1 h1252
            refine w_skip ?_
            refine hK1250 _ _ ?_
            refine w_seq fun K1253 hK1253 => ?_
            refine w_block ?_
            refine w_seq fun K1254 hK1254 => ?_
            refine w_draw (X := Ext) (Y := Ext) [] MIX (by decide +kernel) rfl Ext.refl (fun _ _ _ => Ext.trans) (fun _ _ _ => Chg.trans) (fun _ _ h => Ext.chg h _) (fun w1255 hE1256 => ?_)
            have hB1257 := hB1247.trans (Ext.stp hE1256 hS1248.base)
            have hS1258 := hS1248.ext hE1256
            refine ⟨.slice a0 n0 c0, fun w1259 hX1260 => od_plain rfl (by have hS1261 := hS1258.ext hX1260; have hB1262 := hB1257.trans (Ext.stp hX1260 hS1258.base); exact is_ext (g_move (v := .slice a0 n0 c0) rfl)), ?_⟩
            refine ⟨.int .i64 v1212, fun w1263 hX1264 => od_plain rfl (by have hS1265 := hS1258.ext hX1264; have hB1266 := hB1257.trans (Ext.stp hX1264 hS1258.base); exact is_ext (g_move (v := .int .i64 v1212) rfl)), ?_⟩
            obtain ⟨hg1271, hm⟩ := hm
            refine ⟨.pointer (some ((adr a0).add ((Int.toNat v1212) * El.m CueD))), fun w1267 hX1268 => od_plain rfl (by have hS1269 := hS1258.ext hX1268; have hB1270 := hB1257.trans (Ext.stp hX1268 hS1258.base); exact is_ext (q_index (i := v1212) SL26 rfl rfl (Tv.o (hp0.bel hB1270)) (Tv.g (hp0.bel hB1270) hg1271))), ?_⟩
            refine ⟨.agg #[.int .i64 (p0[(Int.toNat v1212)]!.1), .slice ((y0[(Int.toNat v1212)]!).2.1.1) ((y0[(Int.toNat v1212)]!).2.1.2.2.length) ((y0[(Int.toNat v1212)]!).2.1.2.1), .slice ((y0[(Int.toNat v1212)]!).2.2.1) ((y0[(Int.toNat v1212)]!).2.2.2.2.length) ((y0[(Int.toNat v1212)]!).2.2.2.1)], fun w1272 hX1273 => od_plain rfl (by have hS1274 := hS1258.ext hX1273; have hB1275 := hB1257.trans (Ext.stp hX1273 hS1258.base); exact is_ext (q_loadS (i := v1212) (cs := [.int .i64 (p0[(Int.toNat v1212)]!.1), .slice ((y0[(Int.toNat v1212)]!).2.1.1) ((y0[(Int.toNat v1212)]!).2.1.2.2.length) ((y0[(Int.toNat v1212)]!).2.1.2.1), .slice ((y0[(Int.toNat v1212)]!).2.2.1) ((y0[(Int.toNat v1212)]!).2.2.2.2.length) ((y0[(Int.toNat v1212)]!).2.2.2.1)]) AG39 (Tv.o (hp0.bel hB1275)) (Tv.g (hp0.bel hB1275) hg1271) (by rw [← Tv.ticks (hp0.bel hB1275) hg1271]; rfl) rfl)), ?_⟩
            refine ⟨.slice a0 n0 c0, fun w1276 hX1277 => od_plain rfl (by have hS1278 := hS1258.ext hX1277; have hB1279 := hB1257.trans (Ext.stp hX1277 hS1258.base); exact is_ext (g_move (v := .slice a0 n0 c0) rfl)), ?_⟩
            refine ⟨.int .i64 v1241, fun w1280 hX1281 => od_plain rfl (by have hS1282 := hS1258.ext hX1281; have hB1283 := hB1257.trans (Ext.stp hX1281 hS1258.base); exact is_ext (g_move (v := .int .i64 v1241) rfl)), ?_⟩
            obtain ⟨hg1288, hm⟩ := hm
            refine ⟨.pointer (some ((adr a0).add ((Int.toNat v1241) * El.m CueD))), fun w1284 hX1285 => od_plain rfl (by have hS1286 := hS1258.ext hX1285; have hB1287 := hB1257.trans (Ext.stp hX1285 hS1258.base); exact is_ext (q_index (i := v1241) SL26 rfl rfl (Tv.o (hp0.bel hB1287)) (Tv.g (hp0.bel hB1287) hg1288))), ?_⟩
            refine ⟨.agg #[.int .i64 (p0[(Int.toNat v1241)]!.1), .slice ((y0[(Int.toNat v1241)]!).2.1.1) ((y0[(Int.toNat v1241)]!).2.1.2.2.length) ((y0[(Int.toNat v1241)]!).2.1.2.1), .slice ((y0[(Int.toNat v1241)]!).2.2.1) ((y0[(Int.toNat v1241)]!).2.2.2.2.length) ((y0[(Int.toNat v1241)]!).2.2.2.1)], fun w1289 hX1290 => od_plain rfl (by have hS1291 := hS1258.ext hX1290; have hB1292 := hB1257.trans (Ext.stp hX1290 hS1258.base); exact is_ext (q_loadS (i := v1241) (cs := [.int .i64 (p0[(Int.toNat v1241)]!.1), .slice ((y0[(Int.toNat v1241)]!).2.1.1) ((y0[(Int.toNat v1241)]!).2.1.2.2.length) ((y0[(Int.toNat v1241)]!).2.1.2.1), .slice ((y0[(Int.toNat v1241)]!).2.2.1) ((y0[(Int.toNat v1241)]!).2.2.2.2.length) ((y0[(Int.toNat v1241)]!).2.2.2.1)]) AG39 (Tv.o (hp0.bel hB1292)) (Tv.g (hp0.bel hB1292) hg1288) (by rw [← Tv.ticks (hp0.bel hB1292) hg1288]; rfl) rfl)), ?_⟩
            obtain ⟨r1297, hk1298, hm⟩ := hm
            refine ⟨.bool r1297, fun w1293 hX1294 => od_plain rfl (by have hS1295 := hS1258.ext hX1294; have hB1296 := hB1257.trans (Ext.stp hX1294 hS1258.base); exact (g_call (vs := #[.agg #[.int .i64 (p0[(Int.toNat v1212)]!.1), .slice ((y0[(Int.toNat v1212)]!).2.1.1) ((y0[(Int.toNat v1212)]!).2.1.2.2.length) ((y0[(Int.toNat v1212)]!).2.1.2.1), .slice ((y0[(Int.toNat v1212)]!).2.2.1) ((y0[(Int.toNat v1212)]!).2.2.2.2.length) ((y0[(Int.toNat v1212)]!).2.2.2.1)], .agg #[.int .i64 (p0[(Int.toNat v1241)]!.1), .slice ((y0[(Int.toNat v1241)]!).2.1.1) ((y0[(Int.toNat v1241)]!).2.1.2.2.length) ((y0[(Int.toNat v1241)]!).2.1.2.1), .slice ((y0[(Int.toNat v1241)]!).2.2.1) ((y0[(Int.toNat v1241)]!).2.2.2.2.length) ((y0[(Int.toNat v1241)]!).2.2.2.1)]]) CF70 (args2 rfl rfl) ((m_impl_share_fn (p0[(Int.toNat v1212)]!) ((Tv.rowC0 (hp0.bel hB1296) hg1271).up hS1295) ((Tv.rowC1 (hp0.bel hB1296) hg1271).up hS1295) (p0[(Int.toNat v1241)]!) ((Tv.rowC0 (hp0.bel hB1296) hg1288).up hS1295) ((Tv.rowC1 (hp0.bel hB1296) hg1288).up hS1295) hk1298).mono fun _ _ ⟨_, h1, h2, h3⟩ => ⟨by rw [h2, h1], h3⟩))), ?_⟩
            refine ⟨.bool r1297, fun w1299 hX1300 => od_plain rfl (by have hS1301 := hS1258.ext hX1300; have hB1302 := hB1257.trans (Ext.stp hX1300 hS1258.base); exact is_ext (g_move (v := .bool r1297) rfl)), ?_⟩
            refine ⟨if r1297 = true then .slice a1 n1 c1 else undef, fun w1303 hX1304 => od_guard (c := r1297 = true) (val := .slice a1 n1 c1) (b := (r1297 == true)) (gv_some rfl rfl rfl) beq_iff_eq (fun hc1307 => ?_), ?_⟩
            · have hS1305 := hS1258.ext hX1304
              have hB1306 := hB1257.trans (Ext.stp hX1304 hS1258.base)
              have hcq8 : r1297 = true := (Iff.rfl.mp hc1307)
              exact is_ext (g_move (v := .slice a1 n1 c1) rfl)
            refine ⟨if r1297 = true then .int .i64 v1212 else undef, fun w1308 hX1309 => od_guard (c := r1297 = true) (val := .int .i64 v1212) (b := (r1297 == true)) (gv_some rfl rfl rfl) beq_iff_eq (fun hc1312 => ?_), ?_⟩
            · have hS1310 := hS1258.ext hX1309
              have hB1311 := hB1257.trans (Ext.stp hX1309 hS1258.base)
              have hcq8 : r1297 = true := (Iff.rfl.mp hc1312)
              exact is_ext (g_move (v := .int .i64 v1212) rfl)
            obtain ⟨hg1318, hm⟩ := hm
            refine ⟨if r1297 = true then .pointer (some ((adr a1).add ((Int.toNat v1212) * El.m Int))) else undef, fun w1313 hX1314 => od_guard (c := r1297 = true) (val := .pointer (some ((adr a1).add ((Int.toNat v1212) * El.m Int)))) (b := (r1297 == true)) (gv_some rfl rfl rfl) beq_iff_eq (fun hc1317 => ?_), ?_⟩
            · have hS1315 := hS1258.ext hX1314
              have hB1316 := hB1257.trans (Ext.stp hX1314 hS1258.base)
              have hcq8 : r1297 = true := (Iff.rfl.mp hc1317)
              exact is_ext (q_index (i := v1212) SL24 (if_pos hc1317) (if_pos hc1317) (hp1.bel hB1316) (hg1318 hcq8))
            refine ⟨if r1297 = true then .int .i64 (p1[(Int.toNat v1212)]!) else undef, fun w1319 hX1320 => od_guard (c := r1297 = true) (val := .int .i64 (p1[(Int.toNat v1212)]!)) (b := (r1297 == true)) (gv_some rfl rfl rfl) beq_iff_eq (fun hc1323 => ?_), ?_⟩
            · have hS1321 := hS1258.ext hX1320
              have hB1322 := hB1257.trans (Ext.stp hX1320 hS1258.base)
              have hcq8 : r1297 = true := (Iff.rfl.mp hc1323)
              exact is_ext (q_load (i := v1212) (v := .int .i64 (p1[(Int.toNat v1212)]!)) ON3 (hp1.bel hB1322) (hg1318 hcq8) rfl (if_pos hc1323))
            refine ⟨if r1297 = true then .slice a1 n1 c1 else undef, fun w1324 hX1325 => od_guard (c := r1297 = true) (val := .slice a1 n1 c1) (b := (r1297 == true)) (gv_some rfl rfl rfl) beq_iff_eq (fun hc1328 => ?_), ?_⟩
            · have hS1326 := hS1258.ext hX1325
              have hB1327 := hB1257.trans (Ext.stp hX1325 hS1258.base)
              have hcq8 : r1297 = true := (Iff.rfl.mp hc1328)
              exact is_ext (g_move (v := .slice a1 n1 c1) rfl)
            refine ⟨if r1297 = true then .int .i64 v1241 else undef, fun w1329 hX1330 => od_guard (c := r1297 = true) (val := .int .i64 v1241) (b := (r1297 == true)) (gv_some rfl rfl rfl) beq_iff_eq (fun hc1333 => ?_), ?_⟩
            · have hS1331 := hS1258.ext hX1330
              have hB1332 := hB1257.trans (Ext.stp hX1330 hS1258.base)
              have hcq8 : r1297 = true := (Iff.rfl.mp hc1333)
              exact is_ext (g_move (v := .int .i64 v1241) rfl)
            obtain ⟨hg1339, hm⟩ := hm
            refine ⟨if r1297 = true then .pointer (some ((adr a1).add ((Int.toNat v1241) * El.m Int))) else undef, fun w1334 hX1335 => od_guard (c := r1297 = true) (val := .pointer (some ((adr a1).add ((Int.toNat v1241) * El.m Int)))) (b := (r1297 == true)) (gv_some rfl rfl rfl) beq_iff_eq (fun hc1338 => ?_), ?_⟩
            · have hS1336 := hS1258.ext hX1335
              have hB1337 := hB1257.trans (Ext.stp hX1335 hS1258.base)
              have hcq8 : r1297 = true := (Iff.rfl.mp hc1338)
              exact is_ext (q_index (i := v1241) SL24 (if_pos hc1338) (if_pos hc1338) (hp1.bel hB1337) (hg1339 hcq8))
            refine ⟨if r1297 = true then .int .i64 (p1[(Int.toNat v1241)]!) else undef, fun w1340 hX1341 => od_guard (c := r1297 = true) (val := .int .i64 (p1[(Int.toNat v1241)]!)) (b := (r1297 == true)) (gv_some rfl rfl rfl) beq_iff_eq (fun hc1344 => ?_), ?_⟩
            · have hS1342 := hS1258.ext hX1341
              have hB1343 := hB1257.trans (Ext.stp hX1341 hS1258.base)
              have hcq8 : r1297 = true := (Iff.rfl.mp hc1344)
              exact is_ext (q_load (i := v1241) (v := .int .i64 (p1[(Int.toNat v1241)]!)) ON3 (hp1.bel hB1343) (hg1339 hcq8) rfl (if_pos hc1344))
            refine ⟨if r1297 = true then .slice a0 n0 c0 else undef, fun w1345 hX1346 => od_guard (c := r1297 = true) (val := .slice a0 n0 c0) (b := (r1297 == true)) (gv_some rfl rfl rfl) beq_iff_eq (fun hc1349 => ?_), ?_⟩
            · have hS1347 := hS1258.ext hX1346
              have hB1348 := hB1257.trans (Ext.stp hX1346 hS1258.base)
              have hcq8 : r1297 = true := (Iff.rfl.mp hc1349)
              exact is_ext (g_move (v := .slice a0 n0 c0) rfl)
            refine ⟨if r1297 = true then .int .i64 v1241 else undef, fun w1350 hX1351 => od_guard (c := r1297 = true) (val := .int .i64 v1241) (b := (r1297 == true)) (gv_some rfl rfl rfl) beq_iff_eq (fun hc1354 => ?_), ?_⟩
            · have hS1352 := hS1258.ext hX1351
              have hB1353 := hB1257.trans (Ext.stp hX1351 hS1258.base)
              have hcq8 : r1297 = true := (Iff.rfl.mp hc1354)
              exact is_ext (g_move (v := .int .i64 v1241) rfl)
            obtain ⟨hg1360, hm⟩ := hm
            refine ⟨if r1297 = true then .pointer (some ((adr a0).add ((Int.toNat v1241) * El.m CueD))) else undef, fun w1355 hX1356 => od_guard (c := r1297 = true) (val := .pointer (some ((adr a0).add ((Int.toNat v1241) * El.m CueD)))) (b := (r1297 == true)) (gv_some rfl rfl rfl) beq_iff_eq (fun hc1359 => ?_), ?_⟩
            · have hS1357 := hS1258.ext hX1356
              have hB1358 := hB1257.trans (Ext.stp hX1356 hS1258.base)
              have hcq8 : r1297 = true := (Iff.rfl.mp hc1359)
              exact is_ext (q_index (i := v1241) SL26 (if_pos hc1359) (if_pos hc1359) (Tv.o (hp0.bel hB1358)) (Tv.g (hp0.bel hB1358) (hg1360 hcq8)))
            refine ⟨if r1297 = true then .pointer (some (((adr a0).add ((Int.toNat v1241) * El.m CueD)).add 0)) else undef, fun w1361 hX1362 => od_guard (c := r1297 = true) (val := .pointer (some (((adr a0).add ((Int.toNat v1241) * El.m CueD)).add 0))) (b := (r1297 == true)) (gv_some rfl rfl rfl) beq_iff_eq (fun hc1365 => ?_), ?_⟩
            · have hS1363 := hS1258.ext hX1362
              have hB1364 := hB1257.trans (Ext.stp hX1362 hS1258.base)
              have hcq8 : r1297 = true := (Iff.rfl.mp hc1365)
              exact is_ext (g_fieldAddr (q := (adr a0).add ((Int.toNat v1241) * El.m CueD)) FL39_0 ON3 (if_pos hc1365))
            refine ⟨if r1297 = true then .int .i64 (p0[(Int.toNat v1241)]!.1) else undef, fun w1366 hX1367 => od_guard (c := r1297 = true) (val := .int .i64 (p0[(Int.toNat v1241)]!.1)) (b := (r1297 == true)) (gv_some rfl rfl rfl) beq_iff_eq (fun hc1370 => ?_), ?_⟩
            · have hS1368 := hS1258.ext hX1367
              have hB1369 := hB1257.trans (Ext.stp hX1367 hS1258.base)
              have hcq8 : r1297 = true := (Iff.rfl.mp hc1370)
              exact is_ext (q_loadF (i := v1241) (j := 0) (v := .int .i64 (p0[(Int.toNat v1241)]!.1)) ON3 (Tv.o (hp0.bel hB1369)) (Tv.g (hp0.bel hB1369) (hg1360 hcq8)) (by rw [← Tv.ticks (hp0.bel hB1369) (hg1360 hcq8)]; rfl) (if_pos hc1370))
            obtain ⟨hg1376, hm⟩ := hm
            refine ⟨if r1297 = true then .int .i64 (p1[(Int.toNat v1241)]! + p0[(Int.toNat v1241)]!.1) else undef, fun w1371 hX1372 => od_guard (c := r1297 = true) (val := .int .i64 (p1[(Int.toNat v1241)]! + p0[(Int.toNat v1241)]!.1)) (b := (r1297 == true)) (gv_some rfl rfl rfl) beq_iff_eq (fun hc1375 => ?_), ?_⟩
            · have hS1373 := hS1258.ext hX1372
              have hB1374 := hB1257.trans (Ext.stp hX1372 hS1258.base)
              have hcq8 : r1297 = true := (Iff.rfl.mp hc1375)
              exact is_ext (g_add (a := p1[(Int.toNat v1241)]!) (b := p0[(Int.toNat v1241)]!.1) (if_pos hc1375) (if_pos hc1375) (hg1376 hcq8))
            refine ⟨if r1297 = true then .bool (decide (p1[(Int.toNat v1212)]! < (p1[(Int.toNat v1241)]! + p0[(Int.toNat v1241)]!.1))) else undef, fun w1377 hX1378 => od_guard (c := r1297 = true) (val := .bool (decide (p1[(Int.toNat v1212)]! < (p1[(Int.toNat v1241)]! + p0[(Int.toNat v1241)]!.1)))) (b := (r1297 == true)) (gv_some rfl rfl rfl) beq_iff_eq (fun hc1381 => ?_), ?_⟩
            · have hS1379 := hS1258.ext hX1378
              have hB1380 := hB1257.trans (Ext.stp hX1378 hS1258.base)
              have hcq8 : r1297 = true := (Iff.rfl.mp hc1381)
              exact is_ext (g_lss (a := p1[(Int.toNat v1212)]!) (b := (p1[(Int.toNat v1241)]! + p0[(Int.toNat v1241)]!.1)) (if_pos hc1381) (if_pos hc1381))
            refine ⟨.bool (r1297 && (decide (p1[(Int.toNat v1212)]! < (p1[(Int.toNat v1241)]! + p0[(Int.toNat v1241)]!.1)))), fun w1382 hX1383 => od_plain rfl (by have hS1384 := hS1258.ext hX1383; have hB1385 := hB1257.trans (Ext.stp hX1383 hS1258.base); exact is_ext (g_pick_and (b := r1297) (q := (decide (p1[(Int.toNat v1212)]! < (p1[(Int.toNat v1241)]! + p0[(Int.toNat v1241)]!.1)))) rfl rfl)), ?_⟩
            refine ⟨.bool (r1297 && (decide (p1[(Int.toNat v1212)]! < (p1[(Int.toNat v1241)]! + p0[(Int.toNat v1241)]!.1)))), fun w1386 hX1387 => od_plain rfl (by have hS1388 := hS1258.ext hX1387; have hB1389 := hB1257.trans (Ext.stp hX1387 hS1258.base); exact is_ext (g_move (v := .bool (r1297 && (decide (p1[(Int.toNat v1212)]! < (p1[(Int.toNat v1241)]! + p0[(Int.toNat v1241)]!.1))))) rfl)), ?_⟩
            refine ⟨if (r1297 && (decide (p1[(Int.toNat v1212)]! < (p1[(Int.toNat v1241)]! + p0[(Int.toNat v1241)]!.1)))) = true then .slice a1 n1 c1 else undef, fun w1390 hX1391 => od_guard (c := (r1297 && (decide (p1[(Int.toNat v1212)]! < (p1[(Int.toNat v1241)]! + p0[(Int.toNat v1241)]!.1)))) = true) (val := .slice a1 n1 c1) (b := ((r1297 && (decide (p1[(Int.toNat v1212)]! < (p1[(Int.toNat v1241)]! + p0[(Int.toNat v1241)]!.1)))) == true)) (gv_some rfl rfl rfl) beq_iff_eq (fun hc1394 => ?_), ?_⟩
            · have hS1392 := hS1258.ext hX1391
              have hB1393 := hB1257.trans (Ext.stp hX1391 hS1258.base)
              have hcq9 : ((r1297 = true) ∧ (p1[(Int.toNat v1212)]! < (p1[(Int.toNat v1241)]! + p0[(Int.toNat v1241)]!.1))) := ((i_and Iff.rfl decide_eq_true_iff).mp hc1394)
              exact is_ext (g_move (v := .slice a1 n1 c1) rfl)
            refine ⟨if (r1297 && (decide (p1[(Int.toNat v1212)]! < (p1[(Int.toNat v1241)]! + p0[(Int.toNat v1241)]!.1)))) = true then .int .i64 v1241 else undef, fun w1395 hX1396 => od_guard (c := (r1297 && (decide (p1[(Int.toNat v1212)]! < (p1[(Int.toNat v1241)]! + p0[(Int.toNat v1241)]!.1)))) = true) (val := .int .i64 v1241) (b := ((r1297 && (decide (p1[(Int.toNat v1212)]! < (p1[(Int.toNat v1241)]! + p0[(Int.toNat v1241)]!.1)))) == true)) (gv_some rfl rfl rfl) beq_iff_eq (fun hc1399 => ?_), ?_⟩
            · have hS1397 := hS1258.ext hX1396
              have hB1398 := hB1257.trans (Ext.stp hX1396 hS1258.base)
              have hcq9 : ((r1297 = true) ∧ (p1[(Int.toNat v1212)]! < (p1[(Int.toNat v1241)]! + p0[(Int.toNat v1241)]!.1))) := ((i_and Iff.rfl decide_eq_true_iff).mp hc1399)
              exact is_ext (g_move (v := .int .i64 v1241) rfl)
            obtain ⟨hg1405, hm⟩ := hm
            refine ⟨if (r1297 && (decide (p1[(Int.toNat v1212)]! < (p1[(Int.toNat v1241)]! + p0[(Int.toNat v1241)]!.1)))) = true then .pointer (some ((adr a1).add ((Int.toNat v1241) * El.m Int))) else undef, fun w1400 hX1401 => od_guard (c := (r1297 && (decide (p1[(Int.toNat v1212)]! < (p1[(Int.toNat v1241)]! + p0[(Int.toNat v1241)]!.1)))) = true) (val := .pointer (some ((adr a1).add ((Int.toNat v1241) * El.m Int)))) (b := ((r1297 && (decide (p1[(Int.toNat v1212)]! < (p1[(Int.toNat v1241)]! + p0[(Int.toNat v1241)]!.1)))) == true)) (gv_some rfl rfl rfl) beq_iff_eq (fun hc1404 => ?_), ?_⟩
            · have hS1402 := hS1258.ext hX1401
              have hB1403 := hB1257.trans (Ext.stp hX1401 hS1258.base)
              have hcq9 : ((r1297 = true) ∧ (p1[(Int.toNat v1212)]! < (p1[(Int.toNat v1241)]! + p0[(Int.toNat v1241)]!.1))) := ((i_and Iff.rfl decide_eq_true_iff).mp hc1404)
              exact is_ext (q_index (i := v1241) SL24 (if_pos hc1404) (if_pos hc1404) (hp1.bel hB1403) (hg1405 hcq9))
            refine ⟨if (r1297 && (decide (p1[(Int.toNat v1212)]! < (p1[(Int.toNat v1241)]! + p0[(Int.toNat v1241)]!.1)))) = true then .int .i64 (p1[(Int.toNat v1241)]!) else undef, fun w1406 hX1407 => od_guard (c := (r1297 && (decide (p1[(Int.toNat v1212)]! < (p1[(Int.toNat v1241)]! + p0[(Int.toNat v1241)]!.1)))) = true) (val := .int .i64 (p1[(Int.toNat v1241)]!)) (b := ((r1297 && (decide (p1[(Int.toNat v1212)]! < (p1[(Int.toNat v1241)]! + p0[(Int.toNat v1241)]!.1)))) == true)) (gv_some rfl rfl rfl) beq_iff_eq (fun hc1410 => ?_), ?_⟩
            · have hS1408 := hS1258.ext hX1407
              have hB1409 := hB1257.trans (Ext.stp hX1407 hS1258.base)
              have hcq9 : ((r1297 = true) ∧ (p1[(Int.toNat v1212)]! < (p1[(Int.toNat v1241)]! + p0[(Int.toNat v1241)]!.1))) := ((i_and Iff.rfl decide_eq_true_iff).mp hc1410)
              exact is_ext (q_load (i := v1241) (v := .int .i64 (p1[(Int.toNat v1241)]!)) ON3 (hp1.bel hB1409) (hg1405 hcq9) rfl (if_pos hc1410))
            refine ⟨if (r1297 && (decide (p1[(Int.toNat v1212)]! < (p1[(Int.toNat v1241)]! + p0[(Int.toNat v1241)]!.1)))) = true then .slice a1 n1 c1 else undef, fun w1411 hX1412 => od_guard (c := (r1297 && (decide (p1[(Int.toNat v1212)]! < (p1[(Int.toNat v1241)]! + p0[(Int.toNat v1241)]!.1)))) = true) (val := .slice a1 n1 c1) (b := ((r1297 && (decide (p1[(Int.toNat v1212)]! < (p1[(Int.toNat v1241)]! + p0[(Int.toNat v1241)]!.1)))) == true)) (gv_some rfl rfl rfl) beq_iff_eq (fun hc1415 => ?_), ?_⟩
            · have hS1413 := hS1258.ext hX1412
              have hB1414 := hB1257.trans (Ext.stp hX1412 hS1258.base)
              have hcq9 : ((r1297 = true) ∧ (p1[(Int.toNat v1212)]! < (p1[(Int.toNat v1241)]! + p0[(Int.toNat v1241)]!.1))) := ((i_and Iff.rfl decide_eq_true_iff).mp hc1415)
              exact is_ext (g_move (v := .slice a1 n1 c1) rfl)
            refine ⟨if (r1297 && (decide (p1[(Int.toNat v1212)]! < (p1[(Int.toNat v1241)]! + p0[(Int.toNat v1241)]!.1)))) = true then .int .i64 v1212 else undef, fun w1416 hX1417 => od_guard (c := (r1297 && (decide (p1[(Int.toNat v1212)]! < (p1[(Int.toNat v1241)]! + p0[(Int.toNat v1241)]!.1)))) = true) (val := .int .i64 v1212) (b := ((r1297 && (decide (p1[(Int.toNat v1212)]! < (p1[(Int.toNat v1241)]! + p0[(Int.toNat v1241)]!.1)))) == true)) (gv_some rfl rfl rfl) beq_iff_eq (fun hc1420 => ?_), ?_⟩
            · have hS1418 := hS1258.ext hX1417
              have hB1419 := hB1257.trans (Ext.stp hX1417 hS1258.base)
              have hcq9 : ((r1297 = true) ∧ (p1[(Int.toNat v1212)]! < (p1[(Int.toNat v1241)]! + p0[(Int.toNat v1241)]!.1))) := ((i_and Iff.rfl decide_eq_true_iff).mp hc1420)
              exact is_ext (g_move (v := .int .i64 v1212) rfl)
            obtain ⟨hg1426, hm⟩ := hm
            refine ⟨if (r1297 && (decide (p1[(Int.toNat v1212)]! < (p1[(Int.toNat v1241)]! + p0[(Int.toNat v1241)]!.1)))) = true then .pointer (some ((adr a1).add ((Int.toNat v1212) * El.m Int))) else undef, fun w1421 hX1422 => od_guard (c := (r1297 && (decide (p1[(Int.toNat v1212)]! < (p1[(Int.toNat v1241)]! + p0[(Int.toNat v1241)]!.1)))) = true) (val := .pointer (some ((adr a1).add ((Int.toNat v1212) * El.m Int)))) (b := ((r1297 && (decide (p1[(Int.toNat v1212)]! < (p1[(Int.toNat v1241)]! + p0[(Int.toNat v1241)]!.1)))) == true)) (gv_some rfl rfl rfl) beq_iff_eq (fun hc1425 => ?_), ?_⟩
            · have hS1423 := hS1258.ext hX1422
              have hB1424 := hB1257.trans (Ext.stp hX1422 hS1258.base)
              have hcq9 : ((r1297 = true) ∧ (p1[(Int.toNat v1212)]! < (p1[(Int.toNat v1241)]! + p0[(Int.toNat v1241)]!.1))) := ((i_and Iff.rfl decide_eq_true_iff).mp hc1425)
              exact is_ext (q_index (i := v1212) SL24 (if_pos hc1425) (if_pos hc1425) (hp1.bel hB1424) (hg1426 hcq9))
            refine ⟨if (r1297 && (decide (p1[(Int.toNat v1212)]! < (p1[(Int.toNat v1241)]! + p0[(Int.toNat v1241)]!.1)))) = true then .int .i64 (p1[(Int.toNat v1212)]!) else undef, fun w1427 hX1428 => od_guard (c := (r1297 && (decide (p1[(Int.toNat v1212)]! < (p1[(Int.toNat v1241)]! + p0[(Int.toNat v1241)]!.1)))) = true) (val := .int .i64 (p1[(Int.toNat v1212)]!)) (b := ((r1297 && (decide (p1[(Int.toNat v1212)]! < (p1[(Int.toNat v1241)]! + p0[(Int.toNat v1241)]!.1)))) == true)) (gv_some rfl rfl rfl) beq_iff_eq (fun hc1431 => ?_), ?_⟩
            · have hS1429 := hS1258.ext hX1428
              have hB1430 := hB1257.trans (Ext.stp hX1428 hS1258.base)
              have hcq9 : ((r1297 = true) ∧ (p1[(Int.toNat v1212)]! < (p1[(Int.toNat v1241)]! + p0[(Int.toNat v1241)]!.1))) := ((i_and Iff.rfl decide_eq_true_iff).mp hc1431)
              exact is_ext (q_load (i := v1212) (v := .int .i64 (p1[(Int.toNat v1212)]!)) ON3 (hp1.bel hB1430) (hg1426 hcq9) rfl (if_pos hc1431))
            refine ⟨if (r1297 && (decide (p1[(Int.toNat v1212)]! < (p1[(Int.toNat v1241)]! + p0[(Int.toNat v1241)]!.1)))) = true then .slice a0 n0 c0 else undef, fun w1432 hX1433 => od_guard (c := (r1297 && (decide (p1[(Int.toNat v1212)]! < (p1[(Int.toNat v1241)]! + p0[(Int.toNat v1241)]!.1)))) = true) (val := .slice a0 n0 c0) (b := ((r1297 && (decide (p1[(Int.toNat v1212)]! < (p1[(Int.toNat v1241)]! + p0[(Int.toNat v1241)]!.1)))) == true)) (gv_some rfl rfl rfl) beq_iff_eq (fun hc1436 => ?_), ?_⟩
            · have hS1434 := hS1258.ext hX1433
              have hB1435 := hB1257.trans (Ext.stp hX1433 hS1258.base)
              have hcq9 : ((r1297 = true) ∧ (p1[(Int.toNat v1212)]! < (p1[(Int.toNat v1241)]! + p0[(Int.toNat v1241)]!.1))) := ((i_and Iff.rfl decide_eq_true_iff).mp hc1436)
              exact is_ext (g_move (v := .slice a0 n0 c0) rfl)
            refine ⟨if (r1297 && (decide (p1[(Int.toNat v1212)]! < (p1[(Int.toNat v1241)]! + p0[(Int.toNat v1241)]!.1)))) = true then .int .i64 v1212 else undef, fun w1437 hX1438 => od_guard (c := (r1297 && (decide (p1[(Int.toNat v1212)]! < (p1[(Int.toNat v1241)]! + p0[(Int.toNat v1241)]!.1)))) = true) (val := .int .i64 v1212) (b := ((r1297 && (decide (p1[(Int.toNat v1212)]! < (p1[(Int.toNat v1241)]! + p0[(Int.toNat v1241)]!.1)))) == true)) (gv_some rfl rfl rfl) beq_iff_eq (fun hc1441 => ?_), ?_⟩
            · have hS1439 := hS1258.ext hX1438
              have hB1440 := hB1257.trans (Ext.stp hX1438 hS1258.base)
              have hcq9 : ((r1297 = true) ∧ (p1[(Int.toNat v1212)]! < (p1[(Int.toNat v1241)]! + p0[(Int.toNat v1241)]!.1))) := ((i_and Iff.rfl decide_eq_true_iff).mp hc1441)
              exact is_ext (g_move (v := .int .i64 v1212) rfl)
            obtain ⟨hg1447, hm⟩ := hm
            refine ⟨if (r1297 && (decide (p1[(Int.toNat v1212)]! < (p1[(Int.toNat v1241)]! + p0[(Int.toNat v1241)]!.1)))) = true then .pointer (some ((adr a0).add ((Int.toNat v1212) * El.m CueD))) else undef, fun w1442 hX1443 => od_guard (c := (r1297 && (decide (p1[(Int.toNat v1212)]! < (p1[(Int.toNat v1241)]! + p0[(Int.toNat v1241)]!.1)))) = true) (val := .pointer (some ((adr a0).add ((Int.toNat v1212) * El.m CueD)))) (b := ((r1297 && (decide (p1[(Int.toNat v1212)]! < (p1[(Int.toNat v1241)]! + p0[(Int.toNat v1241)]!.1)))) == true)) (gv_some rfl rfl rfl) beq_iff_eq (fun hc1446 => ?_), ?_⟩
            · have hS1444 := hS1258.ext hX1443
              have hB1445 := hB1257.trans (Ext.stp hX1443 hS1258.base)
              have hcq9 : ((r1297 = true) ∧ (p1[(Int.toNat v1212)]! < (p1[(Int.toNat v1241)]! + p0[(Int.toNat v1241)]!.1))) := ((i_and Iff.rfl decide_eq_true_iff).mp hc1446)
              exact is_ext (q_index (i := v1212) SL26 (if_pos hc1446) (if_pos hc1446) (Tv.o (hp0.bel hB1445)) (Tv.g (hp0.bel hB1445) (hg1447 hcq9)))
            refine ⟨if (r1297 && (decide (p1[(Int.toNat v1212)]! < (p1[(Int.toNat v1241)]! + p0[(Int.toNat v1241)]!.1)))) = true then .pointer (some (((adr a0).add ((Int.toNat v1212) * El.m CueD)).add 0)) else undef, fun w1448 hX1449 => od_guard (c := (r1297 && (decide (p1[(Int.toNat v1212)]! < (p1[(Int.toNat v1241)]! + p0[(Int.toNat v1241)]!.1)))) = true) (val := .pointer (some (((adr a0).add ((Int.toNat v1212) * El.m CueD)).add 0))) (b := ((r1297 && (decide (p1[(Int.toNat v1212)]! < (p1[(Int.toNat v1241)]! + p0[(Int.toNat v1241)]!.1)))) == true)) (gv_some rfl rfl rfl) beq_iff_eq (fun hc1452 => ?_), ?_⟩
            · have hS1450 := hS1258.ext hX1449
              have hB1451 := hB1257.trans (Ext.stp hX1449 hS1258.base)
              have hcq9 : ((r1297 = true) ∧ (p1[(Int.toNat v1212)]! < (p1[(Int.toNat v1241)]! + p0[(Int.toNat v1241)]!.1))) := ((i_and Iff.rfl decide_eq_true_iff).mp hc1452)
              exact is_ext (g_fieldAddr (q := (adr a0).add ((Int.toNat v1212) * El.m CueD)) FL39_0 ON3 (if_pos hc1452))
            refine ⟨if (r1297 && (decide (p1[(Int.toNat v1212)]! < (p1[(Int.toNat v1241)]! + p0[(Int.toNat v1241)]!.1)))) = true then .int .i64 (p0[(Int.toNat v1212)]!.1) else undef, fun w1453 hX1454 => od_guard (c := (r1297 && (decide (p1[(Int.toNat v1212)]! < (p1[(Int.toNat v1241)]! + p0[(Int.toNat v1241)]!.1)))) = true) (val := .int .i64 (p0[(Int.toNat v1212)]!.1)) (b := ((r1297 && (decide (p1[(Int.toNat v1212)]! < (p1[(Int.toNat v1241)]! + p0[(Int.toNat v1241)]!.1)))) == true)) (gv_some rfl rfl rfl) beq_iff_eq (fun hc1457 => ?_), ?_⟩
            · have hS1455 := hS1258.ext hX1454
              have hB1456 := hB1257.trans (Ext.stp hX1454 hS1258.base)
              have hcq9 : ((r1297 = true) ∧ (p1[(Int.toNat v1212)]! < (p1[(Int.toNat v1241)]! + p0[(Int.toNat v1241)]!.1))) := ((i_and Iff.rfl decide_eq_true_iff).mp hc1457)
              exact is_ext (q_loadF (i := v1212) (j := 0) (v := .int .i64 (p0[(Int.toNat v1212)]!.1)) ON3 (Tv.o (hp0.bel hB1456)) (Tv.g (hp0.bel hB1456) (hg1447 hcq9)) (by rw [← Tv.ticks (hp0.bel hB1456) (hg1447 hcq9)]; rfl) (if_pos hc1457))
            obtain ⟨hg1463, hm⟩ := hm
            refine ⟨if (r1297 && (decide (p1[(Int.toNat v1212)]! < (p1[(Int.toNat v1241)]! + p0[(Int.toNat v1241)]!.1)))) = true then .int .i64 (p1[(Int.toNat v1212)]! + p0[(Int.toNat v1212)]!.1) else undef, fun w1458 hX1459 => od_guard (c := (r1297 && (decide (p1[(Int.toNat v1212)]! < (p1[(Int.toNat v1241)]! + p0[(Int.toNat v1241)]!.1)))) = true) (val := .int .i64 (p1[(Int.toNat v1212)]! + p0[(Int.toNat v1212)]!.1)) (b := ((r1297 && (decide (p1[(Int.toNat v1212)]! < (p1[(Int.toNat v1241)]! + p0[(Int.toNat v1241)]!.1)))) == true)) (gv_some rfl rfl rfl) beq_iff_eq (fun hc1462 => ?_), ?_⟩
            · have hS1460 := hS1258.ext hX1459
              have hB1461 := hB1257.trans (Ext.stp hX1459 hS1258.base)
              have hcq9 : ((r1297 = true) ∧ (p1[(Int.toNat v1212)]! < (p1[(Int.toNat v1241)]! + p0[(Int.toNat v1241)]!.1))) := ((i_and Iff.rfl decide_eq_true_iff).mp hc1462)
              exact is_ext (g_add (a := p1[(Int.toNat v1212)]!) (b := p0[(Int.toNat v1212)]!.1) (if_pos hc1462) (if_pos hc1462) (hg1463 hcq9))
            refine ⟨if (r1297 && (decide (p1[(Int.toNat v1212)]! < (p1[(Int.toNat v1241)]! + p0[(Int.toNat v1241)]!.1)))) = true then .bool (decide (p1[(Int.toNat v1241)]! < (p1[(Int.toNat v1212)]! + p0[(Int.toNat v1212)]!.1))) else undef, fun w1464 hX1465 => od_guard (c := (r1297 && (decide (p1[(Int.toNat v1212)]! < (p1[(Int.toNat v1241)]! + p0[(Int.toNat v1241)]!.1)))) = true) (val := .bool (decide (p1[(Int.toNat v1241)]! < (p1[(Int.toNat v1212)]! + p0[(Int.toNat v1212)]!.1)))) (b := ((r1297 && (decide (p1[(Int.toNat v1212)]! < (p1[(Int.toNat v1241)]! + p0[(Int.toNat v1241)]!.1)))) == true)) (gv_some rfl rfl rfl) beq_iff_eq (fun hc1468 => ?_), ?_⟩
            · have hS1466 := hS1258.ext hX1465
              have hB1467 := hB1257.trans (Ext.stp hX1465 hS1258.base)
              have hcq9 : ((r1297 = true) ∧ (p1[(Int.toNat v1212)]! < (p1[(Int.toNat v1241)]! + p0[(Int.toNat v1241)]!.1))) := ((i_and Iff.rfl decide_eq_true_iff).mp hc1468)
              exact is_ext (g_lss (a := p1[(Int.toNat v1241)]!) (b := (p1[(Int.toNat v1212)]! + p0[(Int.toNat v1212)]!.1)) (if_pos hc1468) (if_pos hc1468))
            refine ⟨.bool ((r1297 && (decide (p1[(Int.toNat v1212)]! < (p1[(Int.toNat v1241)]! + p0[(Int.toNat v1241)]!.1)))) && (decide (p1[(Int.toNat v1241)]! < (p1[(Int.toNat v1212)]! + p0[(Int.toNat v1212)]!.1)))), fun w1469 hX1470 => od_plain rfl (by have hS1471 := hS1258.ext hX1470; have hB1472 := hB1257.trans (Ext.stp hX1470 hS1258.base); exact is_ext (g_pick_and (b := (r1297 && (decide (p1[(Int.toNat v1212)]! < (p1[(Int.toNat v1241)]! + p0[(Int.toNat v1241)]!.1))))) (q := (decide (p1[(Int.toNat v1241)]! < (p1[(Int.toNat v1212)]! + p0[(Int.toNat v1212)]!.1)))) rfl rfl)), ?_⟩
            intro w1473 hX1474
            have hB1475 := hB1257.trans (Ext.stp hX1474 hS1258.base)
            have hS1476 := hS1258.ext hX1474
            refine hK1254 _ _ ?_
            refine w_condI (p := ((((r1297 = true) ∧ (p1[(Int.toNat v1212)]! < (p1[(Int.toNat v1241)]! + p0[(Int.toNat v1241)]!.1)))) ∧ (p1[(Int.toNat v1241)]! < (p1[(Int.toNat v1212)]! + p0[(Int.toNat v1212)]!.1)))) (b := ((r1297 && (decide (p1[(Int.toNat v1212)]! < (p1[(Int.toNat v1241)]! + p0[(Int.toNat v1241)]!.1)))) && (decide (p1[(Int.toNat v1241)]! < (p1[(Int.toNat v1212)]! + p0[(Int.toNat v1212)]!.1))))) rfl (i_and (i_and Iff.rfl decide_eq_true_iff) decide_eq_true_iff) (fun h1477 => ?_) (fun h1477 => ?_)
            · replace hm := hm.1 h1477
              refine w_region ?_
              refine wl_val (g_move (v := .slice a1236 n1237 c1238) rfl) rfl ?_
              refine wl_val (g_move (v := .int .i64 v1212) rfl) rfl ?_
              refine wl_val (g_move (v := .int .i64 v1241) rfl) rfl ?_
              refine wl_step rfl (q_lit2 (y := (v1212 : Int)) (y' := (v1241 : Int)) SL24 rfl rfl rfl rfl (by decide) hS1476) ?_
              rintro _ w1478 ⟨a1479, rfl, hS1481, hE1480⟩
              have hB1483 := hB1475.trans (Ext.stp hE1480 hS1476.base)
              have hn1489 := oS.len hS1481.g0
              have hS1490 := hS1481.oneRow
              have he1488 : ers [((a1479, 2, [v1212, v1241]) : Hd Int)] = [[v1212, v1241]] := rfl
              refine wl_step rfl (q_lit1 (y := ((a1479, 2, [v1212, v1241]) : Hd Int)) SL44 rfl (hd_cells hn1489) (by decide) hS1490) ?_
              rintro _ w1484 ⟨a1485, rfl, hS1487, hE1486⟩
              have hB1493 := hB1483.trans (Ext.stp hE1486 hS1490.base)
              have hS1500 := hS1487.f2
              obtain ⟨hg1501, hm⟩ := hm
              have hl1502 : (y1239).length + ([(a1479, 2, [v1212, v1241])]).length ≤ 1099511627776 := by have h1 := congrArg List.length he1240; have h2 := congrArg List.length he1488; have h3 := hg1501; simp only [ers, List.length_map, List.length_append, List.length_cons, List.length_nil, List.length_replicate, List.length_set] at h1 h2 h3 ⊢; omega
              refine wl_step rfl (q_append SL44 rfl rfl hS1500 (oS.vw hS1500.g1) hl1502 (by decide)) ?_
              rintro _ w1495 ⟨a1496, c1497, rfl, hS1499, hb1498⟩
              have hB1503 := hB1493.trans hb1498
              have hS1504 := hS1499.f1
              have hS1505 := hS1504.tail
              have hS1506 := hS1505.f2
              have hS1507 := hS1506.f2
              have hS1508 := hS1507.catRows
              have he1509 : ers (y1239 ++ ([(a1479, 2, [v1212, v1241])])) = (x1235 ++ ([[v1212, v1241]])) := by rw [← he1240, ← he1488]; exact List.map_append
              refine wl_val (g_assign (v := .slice a1496 (n1237 + 1) c1497) rfl) rfl ?_
              refine wl_nil ?_
              refine hK1253 _ _ ?_
              refine w_region ?_
              refine wl_val (g_move (v := .int .i64 v1241) rfl) rfl ?_
              obtain ⟨hg1510, hm⟩ := hm
              refine wl_val (g_add (a := v1241) (b := 1) rfl rfl hg1510) rfl ?_
              refine wl_val (g_assign (v := .int .i64 (v1241 + 1)) rfl) rfl ?_
              refine wl_nil ?_
              have hS1511 := hS1508.f1
              exact ⟨((x1235 ++ ([[v1212, v1241]])), a1496, (n1237 + 1), c1497, (y1239 ++ ([(a1479, 2, [v1212, v1241])])), (v1241 + 1)), hm.2, ⟨rfl, rfl, rfl, rfl, rfl, rfl, rfl, trivial⟩, ⟨hm.1, he1509, hB1503, hS1511⟩⟩
            · replace hm := hm.2 h1477
              refine w_skip ?_
              refine hK1253 _ _ ?_
              refine w_region ?_
              refine wl_val (g_move (v := .int .i64 v1241) rfl) rfl ?_
              obtain ⟨hg1512, hm⟩ := hm
              refine wl_val (g_add (a := v1241) (b := 1) rfl rfl hg1512) rfl ?_
              refine wl_val (g_assign (v := .int .i64 (v1241 + 1)) rfl) rfl ?_
              refine wl_nil ?_
              exact ⟨(x1235, a1236, n1237, c1238, y1239, (v1241 + 1)), hm.2, ⟨rfl, rfl, rfl, rfl, rfl, rfl, rfl, trivial⟩, ⟨hm.1, he1240, hB1475, hS1476⟩⟩
          · replace hm := hm.2 h1252
            refine w_exit ?_
            exact ⟨(x1235, a1236, n1237, c1238, y1239), ⟨rfl, rfl, rfl, rfl, rfl, trivial⟩, ⟨hm, he1240, hB1247, hS1248⟩⟩
        · rintro ⟨x1225, a1226, n1227, c1228, y1229⟩ b_ w1513 ⟨hm, he1230, hB1514, hS1515⟩
          show Wp _ _ _ _ (upds b_ [(0, .slice a0 n0 c0), (1, .slice a1 n1 c1), (5, .slice a1226 n1227 c1228), (14, .int .i64 (p0.length : Int)), (15, .int .i64 v1212)]) w1513
          refine w_region ?_
          obtain ⟨hg1516, hm⟩ := hm
          refine wl_val (g_add (a := v1212) (b := 1) rfl rfl hg1516) rfl ?_
          refine wl_val (g_move (v := .int .i64 (v1212 + 1)) rfl) rfl ?_
          refine wl_nil ?_
          exact ⟨(x1225, a1226, n1227, c1228, y1229, (v1212 + 1)), hm.2, ⟨rfl, rfl, rfl, rfl, rfl, trivial⟩, ⟨hm.1, he1230, hB1514, hS1515⟩⟩
      · replace hm := hm.2 h1224
        refine w_exit ?_
        exact ⟨(x1206, a1207, n1208, c1209, y1210), ⟨rfl, trivial⟩, ⟨hm, he1211, hB1219, hS1220⟩⟩
    · rintro ⟨x1198, a1199, n1200, c1201, y1202⟩ b_ w1517 ⟨hm, he1203, hB1518, hS1519⟩
      show Wp _ _ _ _ (upds b_ [(5, .slice a1199 n1200 c1201)]) w1517
      refine w_seq fun K1520 hK1520 => ?_
      refine w_region ?_
      refine wl_val (g_move (v := .slice a1199 n1200 c1201) rfl) rfl ?_
      refine wl_val (g_assign (v := .slice a1199 n1200 c1201) rfl) rfl ?_
      refine wl_nil ?_
      refine hK1520 _ _ ?_
      refine w_ret ?_
      repeat first | with_reducible refine q_then ?_ | with_reducible refine q_block ?_
      exact ret1 rfl (by decide) ⟨_, _, _, _, _, hm, he1203, rfl, toExt hB1518, hS1519⟩

theorem m_impl_IsPlan_fn {w : World} {a0 : Option Addr} {n0 c0 : Nat} {y0 : List CueD} {p0 : List CueC} {a1 : Option Addr} {n1 c1 : Nat} {p1 : List Int} {Q : Bool → Prop} (hp0 : Tv w.heap.size w a0 n0 c0 y0 p0) (hp1 : Vw w.heap.size w a1 n1 c1 p1) (hm : m_impl_IsPlan p0 p1 Q) :
    Fn Try.prog 42 #[.slice a0 n0 c0, .slice a1 n1 c1] w (fun v w' => ∃ (r0 : Bool), Q r0 ∧ v = .bool r0 ∧ Ext w w') := by
  unfold m_impl_IsPlan at hm
  have hB0 := Below.refl w.heap.size w
  have hS0 : Sep w w.heap.size [] := Sep.nil (Nat.le_refl _)
  refine fn_of_wp Try.func42 rfl (by kernel_rfl) (Nat.le_of_ble_eq_true rfl) ?_
  refine w_seq fun K1 hK1 => ?_
  refine w_region ?_
  refine wl_val (g_assign (v := .bool false) rfl) rfl ?_
  refine wl_nil ?_
  refine hK1 _ _ ?_
  refine w_seq fun K2 hK2 => ?_
  refine w_seq fun K3 hK3 => ?_
  refine w_region ?_
  refine wl_val (g_move (v := .slice a0 n0 c0) rfl) rfl ?_
  refine wl_val (g_move (v := .slice a1 n1 c1) rfl) rfl ?_
  refine wl_step rfl (g_call (vs := #[.slice a0 n0 c0, .slice a1 n1 c1]) CF71 (args2 rfl rfl) (m_impl_areStarts_fn ((hp0.bel hB0).up hS0) ((hp1.bel hB0).up hS0) hm)) ?_
  rintro _ w4 ⟨r7, hm, rfl, hE5⟩
  have hB8 := hB0.trans (Ext.stp hE5 hS0.base)
  have hS9 := hS0.ext hE5
  refine wl_val (g_not (a := r7) rfl) rfl ?_
  refine wl_nil ?_
  refine hK3 _ _ ?_
  refine w_condI (p := ¬ (r7 = true)) (b := (!r7)) rfl (i_not Iff.rfl) (fun h10 => ?_) (fun h10 => ?_)
  · replace hm := hm.1 h10
    refine w_seq fun K11 hK11 => ?_
    refine w_region ?_
    refine wl_val (g_assign (v := .bool false) rfl) rfl ?_
    refine wl_nil ?_
    refine hK11 _ _ ?_
    refine w_ret ?_
    repeat first | with_reducible refine q_then ?_ | with_reducible refine q_block ?_
    exact ret1 rfl (by decide) ⟨_, hm, rfl, toExt hB8⟩
  · replace hm := hm.2 h10
    refine w_skip ?_
    refine hK2 _ _ ?_
    refine w_cut (σ := Unit) (fun _ => [(0, .slice a0 n0 c0), (1, .slice a1 n1 c1)]) (fun _ w' => m_impl_IsPlan_K1 p0 p1 Q ∧ Below w.heap.size w w' ∧ Sep w' w.heap.size []) ?_ ?_
    · refine w_seq fun K13 hK13 => ?_
      refine w_region ?_
      refine wl_val (g_move (v := .slice a0 n0 c0) rfl) rfl ?_
      refine wl_val (q_len SL26 rfl (Tv.len (hp0.bel hB8))) rfl ?_
      refine wl_val (g_move (v := .int .i64 0) rfl) rfl ?_
      refine wl_nil ?_
      refine hK13 _ _ ?_
      refine w_block ?_
      obtain ⟨I227, μ228, h0229, hr230⟩ := hm
      refine w_for (σ := Int) (fun v226 => [(0, .slice a0 n0 c0), (1, .slice a1 n1 c1), (13, .slice a0 n0 c0), (14, .int .i64 (p0.length : Int)), (15, .int .i64 v226)]) (fun v226 w' => I227 v226 ∧ Below w.heap.size w w' ∧ Sep w' w.heap.size []) (fun v226 => μ228 v226) (0) ⟨rfl, rfl, rfl, rfl, rfl, trivial⟩ ⟨h0229, hB8, hS9⟩ ?_
      rintro v226 b_ w231 ⟨hi_, hB232, hS233⟩
      show Wp _ _ _ _ (upds b_ [(0, .slice a0 n0 c0), (1, .slice a1 n1 c1), (13, .slice a0 n0 c0), (14, .int .i64 (p0.length : Int)), (15, .int .i64 v226)]) w231
      have hm := hr230 v226 hi_
      refine w_seq fun K235 hK235 => ?_
      refine w_region ?_
      refine wl_val (g_lss (a := v226) (b := (p0.length : Int)) rfl rfl) rfl ?_
      refine wl_nil ?_
      refine hK235 _ _ ?_
      refine w_seq fun K236 hK236 => ?_
      refine w_condI (p := v226 < (p0.length : Int)) (b := (decide (v226 < (p0.length : Int)))) rfl decide_eq_true_iff (fun h237 => ?_) (fun h237 => ?_)
      · replace hm := hm.1 h237
        refine w_skip ?_
        refine hK236 _ _ ?_
        refine w_cut (σ := Unit) (fun _ => [(0, .slice a0 n0 c0), (1, .slice a1 n1 c1), (13, .slice a0 n0 c0), (14, .int .i64 (p0.length : Int)), (15, .int .i64 v226)]) (fun _ w' => m_impl_IsPlan_K0 v226 (fun v226' => I227 v226' ∧ μ228 v226' < μ228 v226) ∧ Below w.heap.size w w' ∧ Sep w' w.heap.size []) ?_ ?_
        · refine w_block ?_
          refine w_seq fun K239 hK239 => ?_
          refine w_region ?_
          refine wl_val (g_move (v := .int .i64 v226) rfl) rfl ?_
          obtain ⟨hg240, hm⟩ := hm
          refine wl_val (q_index (i := v226) SL26 rfl rfl (Tv.o (hp0.bel hB232)) (Tv.g (hp0.bel hB232) hg240)) rfl ?_
          refine wl_val (q_loadS (i := v226) (cs := [.int .i64 (p0[(Int.toNat v226)]!.1), .slice ((y0[(Int.toNat v226)]!).2.1.1) ((y0[(Int.toNat v226)]!).2.1.2.2.length) ((y0[(Int.toNat v226)]!).2.1.2.1), .slice ((y0[(Int.toNat v226)]!).2.2.1) ((y0[(Int.toNat v226)]!).2.2.2.2.length) ((y0[(Int.toNat v226)]!).2.2.2.1)]) AG39 (Tv.o (hp0.bel hB232)) (Tv.g (hp0.bel hB232) hg240) (by rw [← Tv.ticks (hp0.bel hB232) hg240]; rfl) rfl) rfl ?_
          refine wl_step rfl (q_alloc (cs := #[.int .i64 0, .slice none 0 0, .slice none 0 0]) ZR39 rfl hS233) ?_
          rintro _ w241 ⟨g242, rfl, hS244, hE243⟩
          have hB246 := hB232.trans (Ext.stp hE243 hS233.base)
          refine wl_val (g_assign (v := .int .i64 v226) rfl) rfl ?_
          refine wl_step rfl (q_storeB (i := 0) (bs' := #[.int .i64 (p0[(Int.toNat v226)]!.1), .slice ((y0[(Int.toNat v226)]!).2.1.1) ((y0[(Int.toNat v226)]!).2.1.2.2.length) ((y0[(Int.toNat v226)]!).2.1.2.1), .slice ((y0[(Int.toNat v226)]!).2.2.1) ((y0[(Int.toNat v226)]!).2.2.2.2.length) ((y0[(Int.toNat v226)]!).2.2.2.1)]) (vs := [.int .i64 (p0[(Int.toNat v226)]!.1), .slice ((y0[(Int.toNat v226)]!).2.1.1) ((y0[(Int.toNat v226)]!).2.1.2.2.length) ((y0[(Int.toNat v226)]!).2.1.2.1), .slice ((y0[(Int.toNat v226)]!).2.2.1) ((y0[(Int.toNat v226)]!).2.2.2.2.length) ((y0[(Int.toNat v226)]!).2.2.2.1)]) hS244 AG39.sz rfl rfl rfl (by simp [Value.oneCell']) (Nat.le_of_ble_eq_true rfl) rfl) ?_
          rintro _ w247 ⟨rfl, hS248, hb249⟩
          have hB250 := hB246.trans hb249
          refine wl_nil ?_
          refine hK239 _ _ ?_
          refine w_seq fun K251 hK251 => ?_
          refine w_region ?_
          refine wl_val (g_fieldAddr (q := (⟨g242, 0, none⟩ : Addr)) FL39_1 ON24 rfl) rfl ?_
          refine wl_val (q_loadB (i := 1) (bs := #[.int .i64 (p0[(Int.toNat v226)]!.1), .slice ((y0[(Int.toNat v226)]!).2.1.1) ((y0[(Int.toNat v226)]!).2.1.2.2.length) ((y0[(Int.toNat v226)]!).2.1.2.1), .slice ((y0[(Int.toNat v226)]!).2.2.1) ((y0[(Int.toNat v226)]!).2.2.2.2.length) ((y0[(Int.toNat v226)]!).2.2.2.1)]) hS248.g0 ON24 rfl rfl) rfl ?_
          refine wl_val (q_len SL24 rfl (Vw.len (Tv.rowC0 (hp0.bel hB250) hg240))) rfl ?_
          refine wl_val (g_move (v := .int .i64 0) rfl) rfl ?_
          refine wl_nil ?_
          refine hK251 _ _ ?_
          refine w_block ?_
          have hS253 := hS248.tail
          obtain ⟨I254, μ255, h0256, hr257⟩ := hm
          refine w_for (σ := Int) (fun v252 => [(0, .slice a0 n0 c0), (1, .slice a1 n1 c1), (5, .int .i64 v226), (13, .slice a0 n0 c0), (14, .int .i64 (p0.length : Int)), (15, .int .i64 v226), (21, .slice ((y0[(Int.toNat v226)]!).2.1.1) ((y0[(Int.toNat v226)]!).2.1.2.2.length) ((y0[(Int.toNat v226)]!).2.1.2.1)), (22, .int .i64 ((p0[(Int.toNat v226)]!.2.1).length : Int)), (23, .int .i64 v252)]) (fun v252 w' => I254 v252 ∧ Below w.heap.size w w' ∧ Sep w' w.heap.size []) (fun v252 => μ255 v252) (0) ⟨rfl, rfl, rfl, rfl, rfl, rfl, rfl, rfl, rfl, trivial⟩ ⟨h0256, hB250, hS253⟩ ?_
          rintro v252 b_ w258 ⟨hi_, hB259, hS260⟩
          show Wp _ _ _ _ (upds b_ [(0, .slice a0 n0 c0), (1, .slice a1 n1 c1), (5, .int .i64 v226), (13, .slice a0 n0 c0), (14, .int .i64 (p0.length : Int)), (15, .int .i64 v226), (21, .slice ((y0[(Int.toNat v226)]!).2.1.1) ((y0[(Int.toNat v226)]!).2.1.2.2.length) ((y0[(Int.toNat v226)]!).2.1.2.1)), (22, .int .i64 ((p0[(Int.toNat v226)]!.2.1).length : Int)), (23, .int .i64 v252)]) w258
          have hm := hr257 v252 hi_
          refine w_seq fun K262 hK262 => ?_
          refine w_region ?_
          refine wl_val (g_lss (a := v252) (b := ((p0[(Int.toNat v226)]!.2.1).length : Int)) rfl rfl) rfl ?_
          refine wl_nil ?_
          refine hK262 _ _ ?_
          refine w_seq fun K263 hK263 => ?_
          refine w_condI (p := v252 < ((p0[(Int.toNat v226)]!.2.1).length : Int)) (b := (decide (v252 < ((p0[(Int.toNat v226)]!.2.1).length : Int)))) rfl decide_eq_true_iff (fun h264 => ?_) (fun h264 => ?_)
          · replace hm := hm.1 h264
            refine w_skip ?_
            refine hK263 _ _ ?_
            refine w_seq fun K265 hK265 => ?_
            refine w_block ?_
            refine w_seq fun K266 hK266 => ?_
            refine w_region ?_
            obtain ⟨hg267, hm⟩ := hm
            refine wl_val (q_index (i := v252) SL24 rfl rfl (Tv.rowC0 (hp0.bel hB259) hg240) hg267) rfl ?_
            refine wl_val (q_load (i := v252) (v := .int .i64 ((p0[(Int.toNat v226)]!.2.1)[(Int.toNat v252)]!)) ON3 (Tv.rowC0 (hp0.bel hB259) hg240) hg267 rfl rfl) rfl ?_
            refine wl_val (g_assign (v := .int .i64 ((p0[(Int.toNat v226)]!.2.1)[(Int.toNat v252)]!)) rfl) rfl ?_
            refine wl_nil ?_
            refine hK266 _ _ ?_
            refine w_seq fun K268 hK268 => ?_
            refine w_draw (X := Ext) (Y := Ext) [] MIX (by decide +kernel) rfl Ext.refl (fun _ _ _ => Ext.trans) (fun _ _ _ => Chg.trans) (fun _ _ h => Ext.chg h _) (fun w269 hE270 => ?_)
            have hB271 := hB259.trans (Ext.stp hE270 hS260.base)
            have hS272 := hS260.ext hE270
            refine ⟨.slice a1 n1 c1, fun w273 hX274 => od_plain rfl (by have hS275 := hS272.ext hX274; have hB276 := hB271.trans (Ext.stp hX274 hS272.base); exact is_ext (g_move (v := .slice a1 n1 c1) rfl)), ?_⟩
            refine ⟨.int .i64 v226, fun w277 hX278 => od_plain rfl (by have hS279 := hS272.ext hX278; have hB280 := hB271.trans (Ext.stp hX278 hS272.base); exact is_ext (g_move (v := .int .i64 v226) rfl)), ?_⟩
            obtain ⟨hg285, hm⟩ := hm
            refine ⟨.pointer (some ((adr a1).add ((Int.toNat v226) * El.m Int))), fun w281 hX282 => od_plain rfl (by have hS283 := hS272.ext hX282; have hB284 := hB271.trans (Ext.stp hX282 hS272.base); exact is_ext (q_index (i := v226) SL24 rfl rfl (hp1.bel hB284) hg285)), ?_⟩
            refine ⟨.int .i64 (p1[(Int.toNat v226)]!), fun w286 hX287 => od_plain rfl (by have hS288 := hS272.ext hX287; have hB289 := hB271.trans (Ext.stp hX287 hS272.base); exact is_ext (q_load (i := v226) (v := .int .i64 (p1[(Int.toNat v226)]!)) ON3 (hp1.bel hB289) hg285 rfl rfl)), ?_⟩
            refine ⟨.slice a1 n1 c1, fun w290 hX291 => od_plain rfl (by have hS292 := hS272.ext hX291; have hB293 := hB271.trans (Ext.stp hX291 hS272.base); exact is_ext (g_move (v := .slice a1 n1 c1) rfl)), ?_⟩
            refine ⟨.int .i64 ((p0[(Int.toNat v226)]!.2.1)[(Int.toNat v252)]!), fun w294 hX295 => od_plain rfl (by have hS296 := hS272.ext hX295; have hB297 := hB271.trans (Ext.stp hX295 hS272.base); exact is_ext (g_move (v := .int .i64 ((p0[(Int.toNat v226)]!.2.1)[(Int.toNat v252)]!)) rfl)), ?_⟩
            obtain ⟨hg302, hm⟩ := hm
            refine ⟨.pointer (some ((adr a1).add ((Int.toNat ((p0[(Int.toNat v226)]!.2.1)[(Int.toNat v252)]!)) * El.m Int))), fun w298 hX299 => od_plain rfl (by have hS300 := hS272.ext hX299; have hB301 := hB271.trans (Ext.stp hX299 hS272.base); exact is_ext (q_index (i := (p0[(Int.toNat v226)]!.2.1)[(Int.toNat v252)]!) SL24 rfl rfl (hp1.bel hB301) hg302)), ?_⟩
            refine ⟨.int .i64 (p1[(Int.toNat ((p0[(Int.toNat v226)]!.2.1)[(Int.toNat v252)]!))]!), fun w303 hX304 => od_plain rfl (by have hS305 := hS272.ext hX304; have hB306 := hB271.trans (Ext.stp hX304 hS272.base); exact is_ext (q_load (i := (p0[(Int.toNat v226)]!.2.1)[(Int.toNat v252)]!) (v := .int .i64 (p1[(Int.toNat ((p0[(Int.toNat v226)]!.2.1)[(Int.toNat v252)]!))]!)) ON3 (hp1.bel hB306) hg302 rfl rfl)), ?_⟩
            refine ⟨.slice a0 n0 c0, fun w307 hX308 => od_plain rfl (by have hS309 := hS272.ext hX308; have hB310 := hB271.trans (Ext.stp hX308 hS272.base); exact is_ext (g_move (v := .slice a0 n0 c0) rfl)), ?_⟩
            refine ⟨.int .i64 ((p0[(Int.toNat v226)]!.2.1)[(Int.toNat v252)]!), fun w311 hX312 => od_plain rfl (by have hS313 := hS272.ext hX312; have hB314 := hB271.trans (Ext.stp hX312 hS272.base); exact is_ext (g_move (v := .int .i64 ((p0[(Int.toNat v226)]!.2.1)[(Int.toNat v252)]!)) rfl)), ?_⟩
            obtain ⟨hg319, hm⟩ := hm
            refine ⟨.pointer (some ((adr a0).add ((Int.toNat ((p0[(Int.toNat v226)]!.2.1)[(Int.toNat v252)]!)) * El.m CueD))), fun w315 hX316 => od_plain rfl (by have hS317 := hS272.ext hX316; have hB318 := hB271.trans (Ext.stp hX316 hS272.base); exact is_ext (q_index (i := (p0[(Int.toNat v226)]!.2.1)[(Int.toNat v252)]!) SL26 rfl rfl (Tv.o (hp0.bel hB318)) (Tv.g (hp0.bel hB318) hg319))), ?_⟩
            refine ⟨.pointer (some (((adr a0).add ((Int.toNat ((p0[(Int.toNat v226)]!.2.1)[(Int.toNat v252)]!)) * El.m CueD)).add 0)), fun w320 hX321 => od_plain rfl (by have hS322 := hS272.ext hX321; have hB323 := hB271.trans (Ext.stp hX321 hS272.base); exact is_ext (g_fieldAddr (q := (adr a0).add ((Int.toNat ((p0[(Int.toNat v226)]!.2.1)[(Int.toNat v252)]!)) * El.m CueD)) FL39_0 ON3 rfl)), ?_⟩
            refine ⟨.int .i64 (p0[(Int.toNat ((p0[(Int.toNat v226)]!.2.1)[(Int.toNat v252)]!))]!.1), fun w324 hX325 => od_plain rfl (by have hS326 := hS272.ext hX325; have hB327 := hB271.trans (Ext.stp hX325 hS272.base); exact is_ext (q_loadF (i := (p0[(Int.toNat v226)]!.2.1)[(Int.toNat v252)]!) (j := 0) (v := .int .i64 (p0[(Int.toNat ((p0[(Int.toNat v226)]!.2.1)[(Int.toNat v252)]!))]!.1)) ON3 (Tv.o (hp0.bel hB327)) (Tv.g (hp0.bel hB327) hg319) (by rw [← Tv.ticks (hp0.bel hB327) hg319]; rfl) rfl)), ?_⟩
            obtain ⟨hg332, hm⟩ := hm
            refine ⟨.int .i64 (p1[(Int.toNat ((p0[(Int.toNat v226)]!.2.1)[(Int.toNat v252)]!))]! + p0[(Int.toNat ((p0[(Int.toNat v226)]!.2.1)[(Int.toNat v252)]!))]!.1), fun w328 hX329 => od_plain rfl (by have hS330 := hS272.ext hX329; have hB331 := hB271.trans (Ext.stp hX329 hS272.base); exact is_ext (g_add (a := p1[(Int.toNat ((p0[(Int.toNat v226)]!.2.1)[(Int.toNat v252)]!))]!) (b := p0[(Int.toNat ((p0[(Int.toNat v226)]!.2.1)[(Int.toNat v252)]!))]!.1) rfl rfl hg332)), ?_⟩
            refine ⟨.bool (decide (p1[(Int.toNat v226)]! < (p1[(Int.toNat ((p0[(Int.toNat v226)]!.2.1)[(Int.toNat v252)]!))]! + p0[(Int.toNat ((p0[(Int.toNat v226)]!.2.1)[(Int.toNat v252)]!))]!.1))), fun w333 hX334 => od_plain rfl (by have hS335 := hS272.ext hX334; have hB336 := hB271.trans (Ext.stp hX334 hS272.base); exact is_ext (g_lss (a := p1[(Int.toNat v226)]!) (b := (p1[(Int.toNat ((p0[(Int.toNat v226)]!.2.1)[(Int.toNat v252)]!))]! + p0[(Int.toNat ((p0[(Int.toNat v226)]!.2.1)[(Int.toNat v252)]!))]!.1)) rfl rfl)), ?_⟩
            intro w337 hX338
            have hB339 := hB271.trans (Ext.stp hX338 hS272.base)
            have hS340 := hS272.ext hX338
            refine hK268 _ _ ?_
            refine w_condI (p := p1[(Int.toNat v226)]! < (p1[(Int.toNat ((p0[(Int.toNat v226)]!.2.1)[(Int.toNat v252)]!))]! + p0[(Int.toNat ((p0[(Int.toNat v226)]!.2.1)[(Int.toNat v252)]!))]!.1)) (b := (decide (p1[(Int.toNat v226)]! < (p1[(Int.toNat ((p0[(Int.toNat v226)]!.2.1)[(Int.toNat v252)]!))]! + p0[(Int.toNat ((p0[(Int.toNat v226)]!.2.1)[(Int.toNat v252)]!))]!.1)))) rfl decide_eq_true_iff (fun h341 => ?_) (fun h341 => ?_)
            · replace hm := hm.1 h341
              refine w_seq fun K342 hK342 => ?_
              refine w_region ?_
              refine wl_val (g_assign (v := .bool false) rfl) rfl ?_
              refine wl_nil ?_
              refine hK342 _ _ ?_
              refine w_ret ?_
              repeat first | with_reducible refine q_then ?_ | with_reducible refine q_block ?_
              exact ret1 rfl (by decide) ⟨_, hm, rfl, toExt hB339⟩
            · replace hm := hm.2 h341
              refine w_skip ?_
              refine hK265 _ _ ?_
              refine w_region ?_
              obtain ⟨hg343, hm⟩ := hm
              refine wl_val (g_add (a := v252) (b := 1) rfl rfl hg343) rfl ?_
              refine wl_val (g_move (v := .int .i64 (v252 + 1)) rfl) rfl ?_
              refine wl_nil ?_
              exact ⟨((v252 + 1)), hm.2, ⟨rfl, rfl, rfl, rfl, rfl, rfl, rfl, rfl, rfl, trivial⟩, ⟨hm.1, hB339, hS340⟩⟩
          · replace hm := hm.2 h264
            refine w_exit ?_
            exact ⟨(), ⟨rfl, rfl, rfl, rfl, rfl, trivial⟩, ⟨hm, hB259, hS260⟩⟩
        · rintro _ b_ w344 ⟨hm, hB345, hS346⟩
          show Wp _ _ _ _ (upds b_ [(0, .slice a0 n0 c0), (1, .slice a1 n1 c1), (13, .slice a0 n0 c0), (14, .int .i64 (p0.length : Int)), (15, .int .i64 v226)]) w344
          refine w_region ?_
          obtain ⟨hg347, hm⟩ := hm
          refine wl_val (g_add (a := v226) (b := 1) rfl rfl hg347) rfl ?_
          refine wl_val (g_move (v := .int .i64 (v226 + 1)) rfl) rfl ?_
          refine wl_nil ?_
          exact ⟨((v226 + 1)), hm.2, ⟨rfl, rfl, rfl, rfl, rfl, trivial⟩, ⟨hm.1, hB345, hS346⟩⟩
      · replace hm := hm.2 h237
        refine w_exit ?_
        exact ⟨(), ⟨rfl, rfl, trivial⟩, ⟨hm, hB232, hS233⟩⟩
    · rintro _ b_ w348 ⟨hm, hB349, hS350⟩
      show Wp _ _ _ _ (upds b_ [(0, .slice a0 n0 c0), (1, .slice a1 n1 c1)]) w348
      refine w_seq fun K351 hK351 => ?_
      refine w_region ?_
      refine wl_val (g_move (v := .slice a0 n0 c0) rfl) rfl ?_
      refine wl_val (g_move (v := .slice a1 n1 c1) rfl) rfl ?_
      refine wl_step rfl (g_call (vs := #[.slice a0 n0 c0, .slice a1 n1 c1]) CF43 (args2 rfl rfl) (m_impl_ClashesIn_fn ((hp0.bel hB349).up hS350) ((hp1.bel hB349).up hS350) hm)) ?_
      rintro _ w352 ⟨r355, a356, n357, c358, y359, hm, he360, rfl, hE353, hN354⟩
      have hS364 := hS350.call2 hE353 hN354
      have hB365 := hB349.trans (Ext.stp hE353 hS350.base)
      refine wl_val (q_len SL44 rfl (Tv.len (oT.vw hS364.g0 hS364.g1 he360))) rfl ?_
      refine wl_val (g_eql (a := (r355.length : Int)) (b := 0) rfl rfl) rfl ?_
      refine wl_val (g_assign (v := .bool (decide ((r355.length : Int) = 0))) rfl) rfl ?_
      refine wl_nil ?_
      refine hK351 _ _ ?_
      refine w_ret ?_
      repeat first | with_reducible refine q_then ?_ | with_reducible refine q_block ?_
      exact ret1 rfl (by decide) ⟨_, hm, rfl, toExt hB365⟩

theorem m_laws_btoi_fn {w : World}  {Q : Int → Prop} (p0 : Bool) (hm : m_laws_btoi p0 Q) :
    Fn Try.prog 44 #[.bool p0] w (fun v w' => ∃ (r0 : Int), Q r0 ∧ v = .int .i64 r0 ∧ Ext w w') := by
  unfold m_laws_btoi at hm
  have hB0 := Below.refl w.heap.size w
  have hS0 : Sep w w.heap.size [] := Sep.nil (Nat.le_refl _)
  refine fn_of_wp Try.func44 rfl (by kernel_rfl) (Nat.le_of_ble_eq_true rfl) ?_
  refine w_seq fun K1 hK1 => ?_
  refine w_region ?_
  refine wl_val (g_assign (v := .int .i64 0) rfl) rfl ?_
  refine wl_nil ?_
  refine hK1 _ _ ?_
  refine w_seq fun K2 hK2 => ?_
  refine w_seq fun K3 hK3 => ?_
  refine w_region ?_
  refine wl_val (g_move (v := .bool p0) rfl) rfl ?_
  refine wl_nil ?_
  refine hK3 _ _ ?_
  refine w_condI (p := p0 = true) (b := p0) rfl Iff.rfl (fun h4 => ?_) (fun h4 => ?_)
  · replace hm := hm.1 h4
    refine w_seq fun K5 hK5 => ?_
    refine w_region ?_
    refine wl_val (g_assign (v := .int .i64 1) rfl) rfl ?_
    refine wl_nil ?_
    refine hK5 _ _ ?_
    refine w_ret ?_
    repeat first | with_reducible refine q_then ?_ | with_reducible refine q_block ?_
    exact ret1 rfl (by decide) ⟨_, hm, rfl, toExt hB0⟩
  · replace hm := hm.2 h4
    refine w_skip ?_
    refine hK2 _ _ ?_
    refine w_seq fun K6 hK6 => ?_
    refine w_region ?_
    refine wl_val (g_assign (v := .int .i64 0) rfl) rfl ?_
    refine wl_nil ?_
    refine hK6 _ _ ?_
    refine w_ret ?_
    repeat first | with_reducible refine q_then ?_ | with_reducible refine q_block ?_
    exact ret1 rfl (by decide) ⟨_, hm, rfl, toExt hB0⟩

end Go.Proofs.Ythmemoealgieaaa
