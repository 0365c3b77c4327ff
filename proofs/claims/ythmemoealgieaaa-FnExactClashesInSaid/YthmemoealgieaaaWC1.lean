/- The walks: the code does what its model says. Printed by a program (gen2.py). No statement of the claim stands here. -/
import Derived.Test.YthmemoealgieaaaSop
import Derived.Test.YthmemoealgieaaaFacts
import Derived.Test.YthmemoealgieaaaMC
namespace Go.Proofs.Ythmemoealgieaaa
open Go Go.RowKit
set_option maxRecDepth 100000
theorem m_laws_szIntS_fn {w : World} {a0 : Option Addr} {n0 c0 : Nat} {p0 : List Int} {Q : Int → Prop} (hp0 : Vw w.heap.size w a0 n0 c0 p0) (p1 : Int) (hm : m_laws_szIntS p0 p1 Q) :
    Fn Try.prog 74 #[.slice a0 n0 c0, .int .i64 p1] w (fun v w' => ∃ (r0 : Int), Q r0 ∧ v = .int .i64 r0 ∧ Ext w w') := by
  unfold m_laws_szIntS at hm
  have hB0 := Below.refl w.heap.size w
  have hS0 : Sep w w.heap.size [] := Sep.nil (Nat.le_refl _)
  refine fn_of_wp Try.func74 rfl (by kernel_rfl) (Nat.le_of_ble_eq_true rfl) ?_
  refine w_seq fun K1 hK1 => ?_
  refine w_region ?_
  refine wl_val (g_assign (v := .int .i64 0) rfl) rfl ?_
  refine wl_nil ?_
  refine hK1 _ _ ?_
  refine w_seq fun K2 hK2 => ?_
  refine w_region ?_
  refine wl_val (g_move (v := .int .i64 p1) rfl) rfl ?_
  refine wl_val (g_move (v := .slice a0 n0 c0) rfl) rfl ?_
  refine wl_val (q_len SL24 rfl (Vw.len (hp0.bel hB0))) rfl ?_
  obtain ⟨hg3, hm⟩ := hm
  refine wl_val (g_sub (a := p1) (b := (p0.length : Int)) rfl rfl hg3) rfl ?_
  refine wl_val (g_assign (v := .int .i64 (p1 - (p0.length : Int))) rfl) rfl ?_
  refine wl_nil ?_
  refine hK2 _ _ ?_
  refine w_seq fun K4 hK4 => ?_
  refine w_seq fun K5 hK5 => ?_
  refine w_region ?_
  refine wl_val (g_move (v := .int .i64 (p1 - (p0.length : Int))) rfl) rfl ?_
  refine wl_val (g_lss (a := (p1 - (p0.length : Int))) (b := 0) rfl rfl) rfl ?_
  refine wl_nil ?_
  refine hK5 _ _ ?_
  refine w_condI (p := (p1 - (p0.length : Int)) < 0) (b := (decide ((p1 - (p0.length : Int)) < 0))) rfl decide_eq_true_iff (fun h6 => ?_) (fun h6 => ?_)
  · replace hm := hm.1 h6
    refine w_seq fun K7 hK7 => ?_
    refine w_region ?_
    refine wl_val (g_assign (v := .int .i64 (-1)) rfl) rfl ?_
    refine wl_nil ?_
    refine hK7 _ _ ?_
    refine w_ret ?_
    repeat first | with_reducible refine q_then ?_ | with_reducible refine q_block ?_
    exact ret1 rfl (by decide) ⟨_, hm, rfl, toExt hB0⟩
  · replace hm := hm.2 h6
    refine w_skip ?_
    refine hK4 _ _ ?_
    refine w_seq fun K8 hK8 => ?_
    refine w_region ?_
    refine wl_val (g_move (v := .int .i64 (p1 - (p0.length : Int))) rfl) rfl ?_
    refine wl_val (g_assign (v := .int .i64 (p1 - (p0.length : Int))) rfl) rfl ?_
    refine wl_nil ?_
    refine hK8 _ _ ?_
    refine w_ret ?_
    repeat first | with_reducible refine q_then ?_ | with_reducible refine q_block ?_
    exact ret1 rfl (by decide) ⟨_, hm, rfl, toExt hB0⟩

theorem m_laws_szCue_fn {w : World} {a0_1 : Option Addr} {n0_1 c0_1 : Nat} {a0_2 : Option Addr} {n0_2 c0_2 : Nat} {Q : Int → Prop} (p0 : CueC) (hp0_1 : Vw w.heap.size w a0_1 n0_1 c0_1 p0.2.1) (hp0_2 : Vw w.heap.size w a0_2 n0_2 c0_2 p0.2.2) (p1 : Int) (hm : m_laws_szCue p0 p1 Q) :
    Fn Try.prog 57 #[.agg #[.int .i64 p0.1, .slice a0_1 n0_1 c0_1, .slice a0_2 n0_2 c0_2], .int .i64 p1] w (fun v w' => ∃ (r0 : Int), Q r0 ∧ v = .int .i64 r0 ∧ Ext w w') := by
  unfold m_laws_szCue at hm
  have hB0 := Below.refl w.heap.size w
  have hS0 : Sep w w.heap.size [] := Sep.nil (Nat.le_refl _)
  refine fn_of_wp Try.func57 rfl (by kernel_rfl) (Nat.le_of_ble_eq_true rfl) ?_
  refine w_seq fun K1 hK1 => ?_
  refine w_region ?_
  refine wl_step rfl (q_box (cs := #[.int .i64 p0.1, .slice a0_1 n0_1 c0_1, .slice a0_2 n0_2 c0_2]) rfl rfl hS0) ?_
  rintro _ w2 ⟨g3, rfl, hS5, hE4⟩
  have hB7 := hB0.trans (Ext.stp hE4 hS0.base)
  refine wl_val (g_assign (v := .int .i64 0) rfl) rfl ?_
  refine wl_nil ?_
  refine hK1 _ _ ?_
  refine w_seq fun K8 hK8 => ?_
  refine w_region ?_
  refine wl_val (g_fieldAddr (q := (⟨g3, 0, none⟩ : Addr)) FL52_1 ON24 rfl) rfl ?_
  refine wl_val (q_loadB (i := 1) (bs := #[.int .i64 p0.1, .slice a0_1 n0_1 c0_1, .slice a0_2 n0_2 c0_2]) hS5.g0 ON24 rfl rfl) rfl ?_
  refine wl_val (g_move (v := .int .i64 p1) rfl) rfl ?_
  refine wl_step rfl (g_call (vs := #[.slice a0_1 n0_1 c0_1, .int .i64 p1]) CF74 (args2 rfl rfl) (m_laws_szIntS_fn ((hp0_1.bel hB7).up hS5) p1 hm)) ?_
  rintro _ w9 ⟨r12, hm, rfl, hE10⟩
  have hB13 := hB7.trans (Ext.stp hE10 hS5.base)
  have hS14 := hS5.ext hE10
  refine wl_val (g_assign (v := .int .i64 r12) rfl) rfl ?_
  refine wl_nil ?_
  refine hK8 _ _ ?_
  refine w_seq fun K15 hK15 => ?_
  refine w_seq fun K16 hK16 => ?_
  refine w_region ?_
  refine wl_val (g_move (v := .int .i64 r12) rfl) rfl ?_
  refine wl_val (g_lss (a := r12) (b := 0) rfl rfl) rfl ?_
  refine wl_nil ?_
  refine hK16 _ _ ?_
  refine w_condI (p := r12 < 0) (b := (decide (r12 < 0))) rfl decide_eq_true_iff (fun h17 => ?_) (fun h17 => ?_)
  · replace hm := hm.1 h17
    refine w_seq fun K18 hK18 => ?_
    refine w_region ?_
    refine wl_val (g_assign (v := .int .i64 (-1)) rfl) rfl ?_
    refine wl_nil ?_
    refine hK18 _ _ ?_
    refine w_ret ?_
    repeat first | with_reducible refine q_then ?_ | with_reducible refine q_block ?_
    exact ret1 rfl (by decide) ⟨_, hm, rfl, toExt hB13⟩
  · replace hm := hm.2 h17
    refine w_skip ?_
    refine hK15 _ _ ?_
    refine w_seq fun K19 hK19 => ?_
    refine w_region ?_
    refine wl_val (g_fieldAddr (q := (⟨g3, 0, none⟩ : Addr)) FL52_2 ON24 rfl) rfl ?_
    refine wl_val (q_loadB (i := 2) (bs := #[.int .i64 p0.1, .slice a0_1 n0_1 c0_1, .slice a0_2 n0_2 c0_2]) hS14.g0 ON24 rfl rfl) rfl ?_
    refine wl_val (g_move (v := .int .i64 r12) rfl) rfl ?_
    refine wl_step rfl (g_call (vs := #[.slice a0_2 n0_2 c0_2, .int .i64 r12]) CF74 (args2 rfl rfl) (m_laws_szIntS_fn ((hp0_2.bel hB13).up hS14) r12 hm)) ?_
    rintro _ w20 ⟨r23, hm, rfl, hE21⟩
    have hB24 := hB13.trans (Ext.stp hE21 hS14.base)
    have hS25 := hS14.ext hE21
    refine wl_val (g_assign (v := .int .i64 r23) rfl) rfl ?_
    refine wl_nil ?_
    refine hK19 _ _ ?_
    refine w_seq fun K26 hK26 => ?_
    refine w_seq fun K27 hK27 => ?_
    refine w_region ?_
    refine wl_val (g_move (v := .int .i64 r23) rfl) rfl ?_
    refine wl_val (g_lss (a := r23) (b := 0) rfl rfl) rfl ?_
    refine wl_nil ?_
    refine hK27 _ _ ?_
    refine w_condI (p := r23 < 0) (b := (decide (r23 < 0))) rfl decide_eq_true_iff (fun h28 => ?_) (fun h28 => ?_)
    · replace hm := hm.1 h28
      refine w_seq fun K29 hK29 => ?_
      refine w_region ?_
      refine wl_val (g_assign (v := .int .i64 (-1)) rfl) rfl ?_
      refine wl_nil ?_
      refine hK29 _ _ ?_
      refine w_ret ?_
      repeat first | with_reducible refine q_then ?_ | with_reducible refine q_block ?_
      exact ret1 rfl (by decide) ⟨_, hm, rfl, toExt hB24⟩
    · replace hm := hm.2 h28
      refine w_skip ?_
      refine hK26 _ _ ?_
      refine w_seq fun K30 hK30 => ?_
      refine w_region ?_
      refine wl_val (g_move (v := .int .i64 r23) rfl) rfl ?_
      refine wl_val (g_assign (v := .int .i64 r23) rfl) rfl ?_
      refine wl_nil ?_
      refine hK30 _ _ ?_
      refine w_ret ?_
      repeat first | with_reducible refine q_then ?_ | with_reducible refine q_block ?_
      exact ret1 rfl (by decide) ⟨_, hm, rfl, toExt hB24⟩

theorem m_laws_szCueS_fn {w : World} {a0 : Option Addr} {n0 c0 : Nat} {y0 : List CueD} {p0 : List CueC} {Q : Int → Prop} (hp0 : Tv w.heap.size w a0 n0 c0 y0 p0) (p1 : Int) (hm : m_laws_szCueS p0 p1 Q) :
    Fn Try.prog 17 #[.slice a0 n0 c0, .int .i64 p1] w (fun v w' => ∃ (r0 : Int), Q r0 ∧ v = .int .i64 r0 ∧ Ext w w') := by
  unfold m_laws_szCueS at hm
  have hB0 := Below.refl w.heap.size w
  have hS0 : Sep w w.heap.size [] := Sep.nil (Nat.le_refl _)
  refine fn_of_wp Try.func17 rfl (by kernel_rfl) (Nat.le_of_ble_eq_true rfl) ?_
  refine w_seq fun K1 hK1 => ?_
  refine w_region ?_
  refine wl_val (g_assign (v := .int .i64 0) rfl) rfl ?_
  refine wl_nil ?_
  refine hK1 _ _ ?_
  refine w_seq fun K2 hK2 => ?_
  refine w_region ?_
  refine wl_val (g_move (v := .int .i64 p1) rfl) rfl ?_
  refine wl_val (g_move (v := .slice a0 n0 c0) rfl) rfl ?_
  refine wl_val (q_len SL22 rfl (Tv.len (hp0.bel hB0))) rfl ?_
  obtain ⟨hg3, hm⟩ := hm
  refine wl_val (g_sub (a := p1) (b := (p0.length : Int)) rfl rfl hg3) rfl ?_
  refine wl_val (g_assign (v := .int .i64 (p1 - (p0.length : Int))) rfl) rfl ?_
  refine wl_nil ?_
  refine hK2 _ _ ?_
  refine w_seq fun K4 hK4 => ?_
  refine w_seq fun K5 hK5 => ?_
  refine w_region ?_
  refine wl_val (g_move (v := .int .i64 (p1 - (p0.length : Int))) rfl) rfl ?_
  refine wl_val (g_lss (a := (p1 - (p0.length : Int))) (b := 0) rfl rfl) rfl ?_
  refine wl_nil ?_
  refine hK5 _ _ ?_
  refine w_condI (p := (p1 - (p0.length : Int)) < 0) (b := (decide ((p1 - (p0.length : Int)) < 0))) rfl decide_eq_true_iff (fun h6 => ?_) (fun h6 => ?_)
  · replace hm := hm.1 h6
    refine w_seq fun K7 hK7 => ?_
    refine w_region ?_
    refine wl_val (g_assign (v := .int .i64 (-1)) rfl) rfl ?_
    refine wl_nil ?_
    refine hK7 _ _ ?_
    refine w_ret ?_
    repeat first | with_reducible refine q_then ?_ | with_reducible refine q_block ?_
    exact ret1 rfl (by decide) ⟨_, hm, rfl, toExt hB0⟩
  · replace hm := hm.2 h6
    refine w_skip ?_
    refine hK4 _ _ ?_
    refine w_cut (σ := Int) (fun v60 => [(1, .int .i64 v60)]) (fun v60 w' => m_laws_szCueS_K0 Q v60 ∧ Below w.heap.size w w' ∧ Sep w' w.heap.size []) ?_ ?_
    · refine w_seq fun K62 hK62 => ?_
      refine w_region ?_
      refine wl_val (g_assign (v := .int .i64 0) rfl) rfl ?_
      refine wl_nil ?_
      refine hK62 _ _ ?_
      refine w_block ?_
      obtain ⟨I65, μ66, h067, hr68⟩ := hm
      refine w_for (σ := Int × Int) (fun ⟨v63, v64⟩ => [(0, .slice a0 n0 c0), (1, .int .i64 v63), (5, .int .i64 v64)]) (fun ⟨v63, v64⟩ w' => I65 v63 v64 ∧ Below w.heap.size w w' ∧ Sep w' w.heap.size []) (fun ⟨v63, v64⟩ => μ66 v63 v64) ((p1 - (p0.length : Int)), 0) ⟨rfl, rfl, rfl, trivial⟩ ⟨h067, hB0, hS0⟩ ?_
      rintro ⟨v63, v64⟩ b_ w69 ⟨hi_, hB70, hS71⟩
      show Wp _ _ _ _ (upds b_ [(0, .slice a0 n0 c0), (1, .int .i64 v63), (5, .int .i64 v64)]) w69
      have hm := hr68 v63 v64 hi_
      refine w_seq fun K73 hK73 => ?_
      refine w_seq fun K74 hK74 => ?_
      refine w_region ?_
      refine wl_val (g_move (v := .int .i64 v64) rfl) rfl ?_
      refine wl_val (g_move (v := .slice a0 n0 c0) rfl) rfl ?_
      refine wl_val (q_len SL22 rfl (Tv.len (hp0.bel hB70))) rfl ?_
      refine wl_val (g_lss (a := v64) (b := (p0.length : Int)) rfl rfl) rfl ?_
      refine wl_nil ?_
      refine hK74 _ _ ?_
      refine w_condI (p := v64 < (p0.length : Int)) (b := (decide (v64 < (p0.length : Int)))) rfl decide_eq_true_iff (fun h75 => ?_) (fun h75 => ?_)
      · replace hm := hm.1 h75
        refine w_skip ?_
        refine hK73 _ _ ?_
        refine w_seq fun K76 hK76 => ?_
        refine w_block ?_
        refine w_seq fun K77 hK77 => ?_
        refine w_region ?_
        refine wl_val (g_move (v := .slice a0 n0 c0) rfl) rfl ?_
        refine wl_val (g_move (v := .int .i64 v64) rfl) rfl ?_
        obtain ⟨hg78, hm⟩ := hm
        refine wl_val (q_index (i := v64) SL22 rfl rfl (Tv.o (hp0.bel hB70)) (Tv.g (hp0.bel hB70) hg78)) rfl ?_
        refine wl_val (q_loadS (i := v64) (cs := [.int .i64 (p0[(Int.toNat v64)]!.1), .slice ((y0[(Int.toNat v64)]!).2.1.1) ((y0[(Int.toNat v64)]!).2.1.2.2.length) ((y0[(Int.toNat v64)]!).2.1.2.1), .slice ((y0[(Int.toNat v64)]!).2.2.1) ((y0[(Int.toNat v64)]!).2.2.2.2.length) ((y0[(Int.toNat v64)]!).2.2.2.1)]) AG52 (Tv.o (hp0.bel hB70)) (Tv.g (hp0.bel hB70) hg78) (by rw [← Tv.ticks (hp0.bel hB70) hg78]; rfl) rfl) rfl ?_
        refine wl_val (g_move (v := .int .i64 v63) rfl) rfl ?_
        refine wl_step rfl (g_call (vs := #[.agg #[.int .i64 (p0[(Int.toNat v64)]!.1), .slice ((y0[(Int.toNat v64)]!).2.1.1) ((y0[(Int.toNat v64)]!).2.1.2.2.length) ((y0[(Int.toNat v64)]!).2.1.2.1), .slice ((y0[(Int.toNat v64)]!).2.2.1) ((y0[(Int.toNat v64)]!).2.2.2.2.length) ((y0[(Int.toNat v64)]!).2.2.2.1)], .int .i64 v63]) CF57 (args2 rfl rfl) (m_laws_szCue_fn (p0[(Int.toNat v64)]!) ((Tv.rowC0 (hp0.bel hB70) hg78).up hS71) ((Tv.rowC1 (hp0.bel hB70) hg78).up hS71) v63 hm)) ?_
        rintro _ w79 ⟨r82, hm, rfl, hE80⟩
        have hB83 := hB70.trans (Ext.stp hE80 hS71.base)
        have hS84 := hS71.ext hE80
        refine wl_val (g_assign (v := .int .i64 r82) rfl) rfl ?_
        refine wl_nil ?_
        refine hK77 _ _ ?_
        refine w_seq fun K85 hK85 => ?_
        refine w_region ?_
        refine wl_val (g_move (v := .int .i64 r82) rfl) rfl ?_
        refine wl_val (g_lss (a := r82) (b := 0) rfl rfl) rfl ?_
        refine wl_nil ?_
        refine hK85 _ _ ?_
        refine w_condI (p := r82 < 0) (b := (decide (r82 < 0))) rfl decide_eq_true_iff (fun h86 => ?_) (fun h86 => ?_)
        · replace hm := hm.1 h86
          refine w_seq fun K87 hK87 => ?_
          refine w_region ?_
          refine wl_val (g_assign (v := .int .i64 (-1)) rfl) rfl ?_
          refine wl_nil ?_
          refine hK87 _ _ ?_
          refine w_ret ?_
          repeat first | with_reducible refine q_then ?_ | with_reducible refine q_block ?_
          exact ret1 rfl (by decide) ⟨_, hm, rfl, toExt hB83⟩
        · replace hm := hm.2 h86
          refine w_skip ?_
          refine hK76 _ _ ?_
          refine w_region ?_
          refine wl_val (g_move (v := .int .i64 v64) rfl) rfl ?_
          obtain ⟨hg88, hm⟩ := hm
          refine wl_val (g_add (a := v64) (b := 1) rfl rfl hg88) rfl ?_
          refine wl_val (g_assign (v := .int .i64 (v64 + 1)) rfl) rfl ?_
          refine wl_nil ?_
          exact ⟨(r82, (v64 + 1)), hm.2, ⟨rfl, rfl, rfl, trivial⟩, ⟨hm.1, hB83, hS84⟩⟩
      · replace hm := hm.2 h75
        refine w_exit ?_
        exact ⟨(v63), ⟨rfl, trivial⟩, ⟨hm, hB70, hS71⟩⟩
    · rintro v60 b_ w89 ⟨hm, hB90, hS91⟩
      show Wp _ _ _ _ (upds b_ [(1, .int .i64 v60)]) w89
      refine w_seq fun K92 hK92 => ?_
      refine w_region ?_
      refine wl_val (g_move (v := .int .i64 v60) rfl) rfl ?_
      refine wl_val (g_assign (v := .int .i64 v60) rfl) rfl ?_
      refine wl_nil ?_
      refine hK92 _ _ ?_
      refine w_ret ?_
      repeat first | with_reducible refine q_then ?_ | with_reducible refine q_block ?_
      exact ret1 rfl (by decide) ⟨_, hm, rfl, toExt hB90⟩

theorem m_laws_toIntS_fn {w : World} {a0 : Option Addr} {n0 c0 : Nat} {p0 : List Int} {Q : (List Int) → Prop} (hp0 : Vw w.heap.size w a0 n0 c0 p0) (hm : m_laws_toIntS p0 Q) :
    Fn Try.prog 50 #[.slice a0 n0 c0] w (fun v w' => ∃ (r0 : List Int) (a0 : Option Addr) (n0 c0 : Nat), Q r0 ∧ v = .slice a0 n0 c0 ∧ Ext w w' ∧ Sep w' w.heap.size [oS 3 a0 n0 c0 r0]) := by
  unfold m_laws_toIntS at hm
  have hB0 := Below.refl w.heap.size w
  have hS0 : Sep w w.heap.size [] := Sep.nil (Nat.le_refl _)
  refine fn_of_wp Try.func50 rfl (by kernel_rfl) (Nat.le_of_ble_eq_true rfl) ?_
  refine w_seq fun K1 hK1 => ?_
  refine w_region ?_
  refine wl_val (g_assign (v := .slice none 0 0) rfl) rfl ?_
  refine wl_nil ?_
  refine hK1 _ _ ?_
  refine w_seq fun K2 hK2 => ?_
  refine w_region ?_
  refine wl_val (g_move (v := .slice a0 n0 c0) rfl) rfl ?_
  refine wl_val (q_len SL24 rfl (Vw.len (hp0.bel hB0))) rfl ?_
  obtain ⟨hg3, hm⟩ := hm
  refine wl_step rfl (q_make (y := (0 : Int)) SL24 rfl rfl hg3.1 hg3.2 (by decide) hS0) ?_
  rintro _ w4 ⟨a5, rfl, hS7, hE6⟩
  have hB9 := hB0.trans (Ext.stp hE6 hS0.base)
  refine wl_val (g_assign (v := .slice a5 (Int.toNat (p0.length : Int)) (Int.toNat (p0.length : Int))) rfl) rfl ?_
  refine wl_nil ?_
  refine hK2 _ _ ?_
  refine w_cut (σ := List Int) (fun x52 => [(3, .slice a5 (Int.toNat (p0.length : Int)) (Int.toNat (p0.length : Int)))]) (fun x52 w' => m_laws_toIntS_K0 Q x52 ∧ Below w.heap.size w w' ∧ Sep w' w.heap.size [oS 3 a5 (Int.toNat (p0.length : Int)) (Int.toNat (p0.length : Int)) (x52 : List Int)]) ?_ ?_
  · refine w_seq fun K54 hK54 => ?_
    refine w_region ?_
    refine wl_val (g_assign (v := .int .i64 0) rfl) rfl ?_
    refine wl_nil ?_
    refine hK54 _ _ ?_
    refine w_block ?_
    obtain ⟨I57, μ58, h059, hr60⟩ := hm
    refine w_for (σ := List Int × Int) (fun ⟨x55, v56⟩ => [(0, .slice a0 n0 c0), (3, .slice a5 (Int.toNat (p0.length : Int)) (Int.toNat (p0.length : Int))), (4, .int .i64 v56)]) (fun ⟨x55, v56⟩ w' => I57 x55 v56 ∧ Below w.heap.size w w' ∧ Sep w' w.heap.size [oS 3 a5 (Int.toNat (p0.length : Int)) (Int.toNat (p0.length : Int)) (x55 : List Int)]) (fun ⟨x55, v56⟩ => μ58 x55 v56) (List.replicate (Int.toNat (p0.length : Int)) (0 : Int), 0) ⟨rfl, rfl, rfl, trivial⟩ ⟨h059, hB9, hS7⟩ ?_
    rintro ⟨x55, v56⟩ b_ w61 ⟨hi_, hB62, hS63⟩
    show Wp _ _ _ _ (upds b_ [(0, .slice a0 n0 c0), (3, .slice a5 (Int.toNat (p0.length : Int)) (Int.toNat (p0.length : Int))), (4, .int .i64 v56)]) w61
    have hm := hr60 x55 v56 hi_
    refine w_seq fun K65 hK65 => ?_
    refine w_seq fun K66 hK66 => ?_
    refine w_region ?_
    refine wl_val (g_move (v := .int .i64 v56) rfl) rfl ?_
    refine wl_val (g_move (v := .slice a0 n0 c0) rfl) rfl ?_
    refine wl_val (q_len SL24 rfl (Vw.len (hp0.bel hB62))) rfl ?_
    refine wl_val (g_lss (a := v56) (b := (p0.length : Int)) rfl rfl) rfl ?_
    refine wl_nil ?_
    refine hK66 _ _ ?_
    refine w_condI (p := v56 < (p0.length : Int)) (b := (decide (v56 < (p0.length : Int)))) rfl decide_eq_true_iff (fun h67 => ?_) (fun h67 => ?_)
    · replace hm := hm.1 h67
      refine w_skip ?_
      refine hK65 _ _ ?_
      refine w_seq fun K68 hK68 => ?_
      refine w_block ?_
      refine w_region ?_
      refine wl_val (g_move (v := .slice a5 (Int.toNat (p0.length : Int)) (Int.toNat (p0.length : Int))) rfl) rfl ?_
      refine wl_val (g_move (v := .int .i64 v56) rfl) rfl ?_
      refine wl_val (g_move (v := .slice a0 n0 c0) rfl) rfl ?_
      refine wl_val (g_move (v := .int .i64 v56) rfl) rfl ?_
      obtain ⟨hg69, hm⟩ := hm
      refine wl_val (q_index (i := v56) SL24 rfl rfl (hp0.bel hB62) hg69) rfl ?_
      refine wl_val (q_load (i := v56) (v := .int .i64 (p0[(Int.toNat v56)]!)) ON3 (hp0.bel hB62) hg69 rfl rfl) rfl ?_
      obtain ⟨hg70, hm⟩ := hm
      refine wl_val (q_index (i := v56) SL24 rfl rfl (oS.vw hS63.g0) hg70) rfl ?_
      refine wl_step rfl (q_store (i := v56) (v := (p0[(Int.toNat v56)]! : Int)) hS63 ON3.sz hg70 rfl rfl rfl) ?_
      rintro _ w71 ⟨rfl, hS72, hb73⟩
      have hB74 := hB62.trans hb73
      refine wl_nil ?_
      refine hK68 _ _ ?_
      refine w_region ?_
      refine wl_val (g_move (v := .int .i64 v56) rfl) rfl ?_
      obtain ⟨hg75, hm⟩ := hm
      refine wl_val (g_add (a := v56) (b := 1) rfl rfl hg75) rfl ?_
      refine wl_val (g_assign (v := .int .i64 (v56 + 1)) rfl) rfl ?_
      refine wl_nil ?_
      exact ⟨((x55.set (Int.toNat v56) (p0[(Int.toNat v56)]!)), (v56 + 1)), hm.2, ⟨rfl, rfl, rfl, trivial⟩, ⟨hm.1, hB74, hS72⟩⟩
    · replace hm := hm.2 h67
      refine w_exit ?_
      exact ⟨(x55), ⟨rfl, trivial⟩, ⟨hm, hB62, hS63⟩⟩
  · rintro x52 b_ w76 ⟨hm, hB77, hS78⟩
    show Wp _ _ _ _ (upds b_ [(3, .slice a5 (Int.toNat (p0.length : Int)) (Int.toNat (p0.length : Int)))]) w76
    refine w_seq fun K79 hK79 => ?_
    refine w_region ?_
    refine wl_val (g_move (v := .slice a5 (Int.toNat (p0.length : Int)) (Int.toNat (p0.length : Int))) rfl) rfl ?_
    refine wl_val (g_assign (v := .slice a5 (Int.toNat (p0.length : Int)) (Int.toNat (p0.length : Int))) rfl) rfl ?_
    refine wl_nil ?_
    refine hK79 _ _ ?_
    refine w_ret ?_
    repeat first | with_reducible refine q_then ?_ | with_reducible refine q_block ?_
    exact ret1 rfl (by decide) ⟨_, _, _, _, hm, rfl, toExt hB77, hS78⟩

theorem m_laws_toCue_fn {w : World} {a0_1 : Option Addr} {n0_1 c0_1 : Nat} {a0_2 : Option Addr} {n0_2 c0_2 : Nat} {Q : CueC → Prop} (p0 : CueC) (hp0_1 : Vw w.heap.size w a0_1 n0_1 c0_1 p0.2.1) (hp0_2 : Vw w.heap.size w a0_2 n0_2 c0_2 p0.2.2) (hm : m_laws_toCue p0 Q) :
    Fn Try.prog 59 #[.agg #[.int .i64 p0.1, .slice a0_1 n0_1 c0_1, .slice a0_2 n0_2 c0_2]] w (fun v w' => ∃ (r0 : CueC) (y0 : CueD), Q r0 ∧ Er.er y0 = r0 ∧ v = .agg (El.enc y0).toArray ∧ Ext w w' ∧ Sep w' w.heap.size [oT 3 [y0]]) := by
  unfold m_laws_toCue at hm
  have hB0 := Below.refl w.heap.size w
  have hS0 : Sep w w.heap.size [] := Sep.nil (Nat.le_refl _)
  refine fn_of_wp Try.func59 rfl (by kernel_rfl) (Nat.le_of_ble_eq_true rfl) ?_
  refine w_seq fun K1 hK1 => ?_
  refine w_region ?_
  refine wl_step rfl (q_box (cs := #[.int .i64 p0.1, .slice a0_1 n0_1 c0_1, .slice a0_2 n0_2 c0_2]) rfl rfl hS0) ?_
  rintro _ w2 ⟨g3, rfl, hS5, hE4⟩
  have hB7 := hB0.trans (Ext.stp hE4 hS0.base)
  refine wl_step rfl (q_alloc (cs := #[.int .i64 0, .slice none 0 0, .slice none 0 0]) ZR39 rfl hS5) ?_
  rintro _ w8 ⟨g9, rfl, hS11, hE10⟩
  have hB13 := hB7.trans (Ext.stp hE10 hS5.base)
  refine wl_nil ?_
  refine hK1 _ _ ?_
  refine w_seq fun K14 hK14 => ?_
  refine w_region ?_
  refine wl_step rfl (q_alloc (cs := #[.int .i64 0, .slice none 0 0, .slice none 0 0]) ZR39 rfl hS11) ?_
  rintro _ w15 ⟨g16, rfl, hS18, hE17⟩
  have hB20 := hB13.trans (Ext.stp hE17 hS11.base)
  refine wl_nil ?_
  refine hK14 _ _ ?_
  refine w_seq fun K21 hK21 => ?_
  refine w_region ?_
  refine wl_val (g_fieldAddr (q := (⟨g3, 0, none⟩ : Addr)) FL52_0 ON3 rfl) rfl ?_
  refine wl_val (q_loadB (i := 0) (bs := #[.int .i64 p0.1, .slice a0_1 n0_1 c0_1, .slice a0_2 n0_2 c0_2]) hS18.g2 ON3 rfl rfl) rfl ?_
  refine wl_val (g_fieldAddr (q := (⟨g16, 0, none⟩ : Addr)) FL39_0 ON3 rfl) rfl ?_
  refine wl_step rfl (q_storeB (i := 0) (bs' := #[.int .i64 p0.1, .slice none 0 0, .slice none 0 0]) (vs := [.int .i64 p0.1]) hS18 ON3.sz rfl rfl rfl (by simp [Value.oneCell']) (Nat.le_of_ble_eq_true rfl) rfl) ?_
  rintro _ w22 ⟨rfl, hS23, hb24⟩
  have hB25 := hB20.trans hb24
  refine wl_nil ?_
  refine hK21 _ _ ?_
  refine w_seq fun K26 hK26 => ?_
  refine w_region ?_
  refine wl_val (g_fieldAddr (q := (⟨g3, 0, none⟩ : Addr)) FL52_1 ON24 rfl) rfl ?_
  refine wl_val (q_loadB (i := 1) (bs := #[.int .i64 p0.1, .slice a0_1 n0_1 c0_1, .slice a0_2 n0_2 c0_2]) hS23.g2 ON24 rfl rfl) rfl ?_
  refine wl_step rfl (g_call (vs := #[.slice a0_1 n0_1 c0_1]) CF50 (args1 rfl) (m_laws_toIntS_fn ((hp0_1.bel hB25).up hS23) hm)) ?_
  rintro _ w27 ⟨r30, a31, n32, c33, hm, rfl, hE28, hN29⟩
  have hS35 := hS23.call1 hE28 hN29
  have hB36 := hB25.trans (Ext.stp hE28 hS23.base)
  refine wl_val (g_fieldAddr (q := (⟨g16, 0, none⟩ : Addr)) FL39_1 ON24 rfl) rfl ?_
  have hS40 := hS35.f1
  refine wl_step rfl (q_storeB (i := 1) (bs' := #[.int .i64 p0.1, .slice a31 n32 c33, .slice none 0 0]) (vs := [.slice a31 n32 c33]) hS40 ON24.sz rfl rfl rfl (by simp [Value.oneCell']) (Nat.le_of_ble_eq_true rfl) rfl) ?_
  rintro _ w37 ⟨rfl, hS38, hb39⟩
  have hB41 := hB36.trans hb39
  refine wl_nil ?_
  refine hK26 _ _ ?_
  refine w_seq fun K42 hK42 => ?_
  refine w_region ?_
  refine wl_val (g_fieldAddr (q := (⟨g3, 0, none⟩ : Addr)) FL52_2 ON24 rfl) rfl ?_
  refine wl_val (q_loadB (i := 2) (bs := #[.int .i64 p0.1, .slice a0_1 n0_1 c0_1, .slice a0_2 n0_2 c0_2]) hS38.g3 ON24 rfl rfl) rfl ?_
  refine wl_step rfl (g_call (vs := #[.slice a0_2 n0_2 c0_2]) CF50 (args1 rfl) (m_laws_toIntS_fn ((hp0_2.bel hB41).up hS38) hm)) ?_
  rintro _ w43 ⟨r46, a47, n48, c49, hm, rfl, hE44, hN45⟩
  have hS51 := hS38.call1 hE44 hN45
  have hB52 := hB41.trans (Ext.stp hE44 hS38.base)
  refine wl_val (g_fieldAddr (q := (⟨g16, 0, none⟩ : Addr)) FL39_2 ON24 rfl) rfl ?_
  have hS56 := hS51.f1
  refine wl_step rfl (q_storeB (i := 2) (bs' := #[.int .i64 p0.1, .slice a31 n32 c33, .slice a47 n48 c49]) (vs := [.slice a47 n48 c49]) hS56 ON24.sz rfl rfl rfl (by simp [Value.oneCell']) (Nat.le_of_ble_eq_true rfl) rfl) ?_
  rintro _ w53 ⟨rfl, hS54, hb55⟩
  have hB57 := hB52.trans hb55
  refine wl_nil ?_
  refine hK42 _ _ ?_
  refine w_seq fun K58 hK58 => ?_
  refine w_region ?_
  refine wl_val (q_loadBS (bs := #[.int .i64 p0.1, .slice a31 n32 c33, .slice a47 n48 c49]) hS54.g0 AG39 rfl) rfl ?_
  have hS62 := hS54.f3
  refine wl_step rfl (q_storeB (i := 0) (bs' := #[.int .i64 p0.1, .slice a31 n32 c33, .slice a47 n48 c49]) (vs := [.int .i64 p0.1, .slice a31 n32 c33, .slice a47 n48 c49]) hS62 AG39.sz rfl rfl rfl (by simp [Value.oneCell']) (Nat.le_of_ble_eq_true rfl) rfl) ?_
  rintro _ w59 ⟨rfl, hS60, hb61⟩
  have hB63 := hB57.trans hb61
  refine wl_nil ?_
  refine hK58 _ _ ?_
  refine w_ret ?_
  have hS64 := hS60.f2
  have hS65 := hS64.f3
  have hn66 := oS.len hS65.g0
  have hn67 := oS.len hS65.g1
  have hS68 := hS65.rowsCue p0.1
  have hcell_ : (oB g9 39 #[.int .i64 p0.1, .slice a31 n32 c33, .slice a47 n48 c49]).ok w59 := hS68.g1
  have hS70 := hS68.f1
  have hS71 := hS70.tail
  have hS72 := hS71.f1
  have hS73 := hS72.tail
  have hS74 := hS73.f1
  have hS75 := hS74.tail
  repeat first | with_reducible refine q_then ?_ | with_reducible refine q_block ?_
  exact ret_cell (q := ⟨g9, 0, none⟩) (cs := [.int .i64 p0.1, .slice a31 n32 c33, .slice a47 n48 c49]) rfl (by decide) rfl AG39 (Blk.all hcell_ rfl) ⟨_, ((p0.1, (a31, c33, r30), (a47, c49, r46)) : CueD), hm, rfl, (by rw [hn66, hn67]; rfl), toExt hB63, hS75⟩

theorem m_laws_toCueS_fn {w : World} {a0 : Option Addr} {n0 c0 : Nat} {y0 : List CueD} {p0 : List CueC} {Q : (List CueC) → Prop} (hp0 : Tv w.heap.size w a0 n0 c0 y0 p0) (hm : m_laws_toCueS p0 Q) :
    Fn Try.prog 19 #[.slice a0 n0 c0] w (fun v w' => ∃ (r0 : List CueC) (a0 : Option Addr) (n0 c0 : Nat) (y0 : List CueD), Q r0 ∧ ers y0 = r0 ∧ v = .slice a0 n0 c0 ∧ Ext w w' ∧ Sep w' w.heap.size [oS 39 a0 n0 c0 y0, oT 3 y0]) := by
  unfold m_laws_toCueS at hm
  have hB0 := Below.refl w.heap.size w
  have hS0 : Sep w w.heap.size [] := Sep.nil (Nat.le_refl _)
  refine fn_of_wp Try.func19 rfl (by kernel_rfl) (Nat.le_of_ble_eq_true rfl) ?_
  refine w_seq fun K1 hK1 => ?_
  refine w_region ?_
  refine wl_val (g_assign (v := .slice none 0 0) rfl) rfl ?_
  refine wl_nil ?_
  refine hK1 _ _ ?_
  refine w_seq fun K2 hK2 => ?_
  refine w_region ?_
  refine wl_val (g_move (v := .slice a0 n0 c0) rfl) rfl ?_
  refine wl_val (q_len SL22 rfl (Tv.len (hp0.bel hB0))) rfl ?_
  obtain ⟨hg3, hm⟩ := hm
  refine wl_step rfl (q_make (y := ((0, (none, 0, []), (none, 0, [])) : CueD)) SL26 rfl rfl hg3.1 hg3.2 (by decide) hS0) ?_
  rintro _ w4 ⟨a5, rfl, hS7, hE6⟩
  have hB9 := hB0.trans (Ext.stp hE6 hS0.base)
  have hS10 := hS7.nilRows (y := ((0, (none, 0, []), (none, 0, [])) : CueD)) (E := 3) (fun j hj => by first | rfl | (show (if j = 0 then _ else _) = _; split <;> rfl)) (Int.toNat (p0.length : Int))
  have he12 : ers (List.replicate (Int.toNat (p0.length : Int)) ((0, (none, 0, []), (none, 0, [])) : CueD)) = List.replicate (Int.toNat (p0.length : Int)) ((0, [], []) : CueC) := by simp only [ers, List.map_replicate]; rfl
  refine wl_val (g_assign (v := .slice a5 (Int.toNat (p0.length : Int)) (Int.toNat (p0.length : Int))) rfl) rfl ?_
  refine wl_nil ?_
  refine hK2 _ _ ?_
  refine w_cut (σ := List CueC × List CueD) (fun ⟨x92, y93⟩ => [(3, .slice a5 (Int.toNat (p0.length : Int)) (Int.toNat (p0.length : Int)))]) (fun ⟨x92, y93⟩ w' => m_laws_toCueS_K0 Q x92 ∧ ers y93 = x92 ∧ Below w.heap.size w w' ∧ Sep w' w.heap.size [oS 39 a5 (Int.toNat (p0.length : Int)) (Int.toNat (p0.length : Int)) (y93 : List CueD), oT 3 (y93 : List CueD)]) ?_ ?_
  · refine w_seq fun K96 hK96 => ?_
    refine w_region ?_
    refine wl_val (g_assign (v := .int .i64 0) rfl) rfl ?_
    refine wl_nil ?_
    refine hK96 _ _ ?_
    refine w_block ?_
    have hS101 := hS10.f1
    obtain ⟨I102, μ103, h0104, hr105⟩ := hm
    refine w_for (σ := List CueC × List CueD × Int) (fun ⟨x97, y98, v100⟩ => [(0, .slice a0 n0 c0), (3, .slice a5 (Int.toNat (p0.length : Int)) (Int.toNat (p0.length : Int))), (4, .int .i64 v100)]) (fun ⟨x97, y98, v100⟩ w' => I102 x97 v100 ∧ ers y98 = x97 ∧ Below w.heap.size w w' ∧ Sep w' w.heap.size [oS 39 a5 (Int.toNat (p0.length : Int)) (Int.toNat (p0.length : Int)) (y98 : List CueD), oT 3 (y98 : List CueD)]) (fun ⟨x97, y98, v100⟩ => μ103 x97 v100) (List.replicate (Int.toNat (p0.length : Int)) ((0, [], []) : CueC), List.replicate (Int.toNat (p0.length : Int)) ((0, (none, 0, []), (none, 0, [])) : CueD), 0) ⟨rfl, rfl, rfl, trivial⟩ ⟨h0104, he12, hB9, hS101⟩ ?_
    rintro ⟨x97, y98, v100⟩ b_ w106 ⟨hi_, he99, hB107, hS108⟩
    show Wp _ _ _ _ (upds b_ [(0, .slice a0 n0 c0), (3, .slice a5 (Int.toNat (p0.length : Int)) (Int.toNat (p0.length : Int))), (4, .int .i64 v100)]) w106
    have hm := hr105 x97 v100 hi_
    refine w_seq fun K110 hK110 => ?_
    refine w_seq fun K111 hK111 => ?_
    refine w_region ?_
    refine wl_val (g_move (v := .int .i64 v100) rfl) rfl ?_
    refine wl_val (g_move (v := .slice a0 n0 c0) rfl) rfl ?_
    refine wl_val (q_len SL22 rfl (Tv.len (hp0.bel hB107))) rfl ?_
    refine wl_val (g_lss (a := v100) (b := (p0.length : Int)) rfl rfl) rfl ?_
    refine wl_nil ?_
    refine hK111 _ _ ?_
    refine w_condI (p := v100 < (p0.length : Int)) (b := (decide (v100 < (p0.length : Int)))) rfl decide_eq_true_iff (fun h112 => ?_) (fun h112 => ?_)
    · replace hm := hm.1 h112
      refine w_skip ?_
      refine hK110 _ _ ?_
      refine w_seq fun K113 hK113 => ?_
      refine w_block ?_
      refine w_region ?_
      refine wl_val (g_move (v := .slice a5 (Int.toNat (p0.length : Int)) (Int.toNat (p0.length : Int))) rfl) rfl ?_
      refine wl_val (g_move (v := .int .i64 v100) rfl) rfl ?_
      refine wl_val (g_move (v := .slice a0 n0 c0) rfl) rfl ?_
      refine wl_val (g_move (v := .int .i64 v100) rfl) rfl ?_
      obtain ⟨hg114, hm⟩ := hm
      refine wl_val (q_index (i := v100) SL22 rfl rfl (Tv.o (hp0.bel hB107)) (Tv.g (hp0.bel hB107) hg114)) rfl ?_
      refine wl_val (q_loadS (i := v100) (cs := [.int .i64 (p0[(Int.toNat v100)]!.1), .slice ((y0[(Int.toNat v100)]!).2.1.1) ((y0[(Int.toNat v100)]!).2.1.2.2.length) ((y0[(Int.toNat v100)]!).2.1.2.1), .slice ((y0[(Int.toNat v100)]!).2.2.1) ((y0[(Int.toNat v100)]!).2.2.2.2.length) ((y0[(Int.toNat v100)]!).2.2.2.1)]) AG52 (Tv.o (hp0.bel hB107)) (Tv.g (hp0.bel hB107) hg114) (by rw [← Tv.ticks (hp0.bel hB107) hg114]; rfl) rfl) rfl ?_
      refine wl_step rfl (g_call (vs := #[.agg #[.int .i64 (p0[(Int.toNat v100)]!.1), .slice ((y0[(Int.toNat v100)]!).2.1.1) ((y0[(Int.toNat v100)]!).2.1.2.2.length) ((y0[(Int.toNat v100)]!).2.1.2.1), .slice ((y0[(Int.toNat v100)]!).2.2.1) ((y0[(Int.toNat v100)]!).2.2.2.2.length) ((y0[(Int.toNat v100)]!).2.2.2.1)]]) CF59 (args1 rfl) (m_laws_toCue_fn (p0[(Int.toNat v100)]!) ((Tv.rowC0 (hp0.bel hB107) hg114).up hS108) ((Tv.rowC1 (hp0.bel hB107) hg114).up hS108) hm)) ?_
      rintro _ w115 ⟨r118, y119, hm, he120, rfl, hE116, hN117⟩
      have hS122 := hS108.call1 hE116 hN117
      have hB123 := hB107.trans (Ext.stp hE116 hS108.base)
      obtain ⟨hg124, hm⟩ := hm
      refine wl_val (q_index (i := v100) SL26 rfl rfl (Tv.o (oT.vw hS122.g1 hS122.g2 he99)) (Tv.g (oT.vw hS122.g1 hS122.g2 he99) hg124)) rfl ?_
      have he128 : ers [y119] = [r118] := by rw [← he120]; rfl
      have hS129 := hS122.f2
      have hS130 := hS129.f2
      have hS131 := hS130.f2
      refine wl_step rfl (q_setT (i := v100) hS131 he99 hg124 AG39.sz rfl rfl rfl) ?_
      rintro _ w125 ⟨rfl, y132, he133, hS126, hb127⟩
      have he134 := he133.trans (congrArg (List.set _ _) (ers_one he128))
      have hB135 := hB123.trans hb127
      refine wl_nil ?_
      refine hK113 _ _ ?_
      refine w_region ?_
      refine wl_val (g_move (v := .int .i64 v100) rfl) rfl ?_
      obtain ⟨hg136, hm⟩ := hm
      refine wl_val (g_add (a := v100) (b := 1) rfl rfl hg136) rfl ?_
      refine wl_val (g_assign (v := .int .i64 (v100 + 1)) rfl) rfl ?_
      refine wl_nil ?_
      exact ⟨((x97.set (Int.toNat v100) r118), y132, (v100 + 1)), hm.2, ⟨rfl, rfl, rfl, trivial⟩, ⟨hm.1, he134, hB135, hS126⟩⟩
    · replace hm := hm.2 h112
      refine w_exit ?_
      exact ⟨(x97, y98), ⟨rfl, trivial⟩, ⟨hm, he99, hB107, hS108⟩⟩
  · rintro ⟨x92, y93⟩ b_ w137 ⟨hm, he94, hB138, hS139⟩
    show Wp _ _ _ _ (upds b_ [(3, .slice a5 (Int.toNat (p0.length : Int)) (Int.toNat (p0.length : Int)))]) w137
    refine w_seq fun K140 hK140 => ?_
    refine w_region ?_
    refine wl_val (g_move (v := .slice a5 (Int.toNat (p0.length : Int)) (Int.toNat (p0.length : Int))) rfl) rfl ?_
    refine wl_val (g_assign (v := .slice a5 (Int.toNat (p0.length : Int)) (Int.toNat (p0.length : Int))) rfl) rfl ?_
    refine wl_nil ?_
    refine hK140 _ _ ?_
    refine w_ret ?_
    repeat first | with_reducible refine q_then ?_ | with_reducible refine q_block ?_
    exact ret1 rfl (by decide) ⟨_, _, _, _, _, hm, he94, rfl, toExt hB138, hS139⟩

theorem m_spec_l01In_fn {w : World}  {Q : Bool → Prop} (p0 : Int) (p1 : Int) (p2 : Int) (hm : m_spec_l01In p0 p1 p2 Q) :
    Fn Try.prog 67 #[.int .i64 p0, .int .i64 p1, .int .i64 p2] w (fun v w' => ∃ (r0 : Bool), Q r0 ∧ v = .bool r0 ∧ Ext w w') := by
  unfold m_spec_l01In at hm
  have hB0 := Below.refl w.heap.size w
  have hS0 : Sep w w.heap.size [] := Sep.nil (Nat.le_refl _)
  refine fn_of_wp Try.func67 rfl (by kernel_rfl) (Nat.le_of_ble_eq_true rfl) ?_
  refine w_seq fun K1 hK1 => ?_
  refine w_region ?_
  refine wl_val (g_assign (v := .bool false) rfl) rfl ?_
  refine wl_nil ?_
  refine hK1 _ _ ?_
  refine w_seq fun K2 hK2 => ?_
  refine w_region ?_
  refine wl_val (g_move (v := .int .i64 p0) rfl) rfl ?_
  refine wl_val (g_move (v := .int .i64 p1) rfl) rfl ?_
  refine wl_val (g_geq (a := p0) (b := p1) rfl rfl) rfl ?_
  refine wl_val (g_move (v := .bool (decide (p0 ≥ p1))) rfl) rfl ?_
  refine wl_guard (c := (decide (p0 ≥ p1)) = true) (val := .int .i64 p0) (b := ((decide (p0 ≥ p1)) == true)) (gv_some rfl rfl rfl) beq_iff_eq (fun hc3 => ?_) ?_
  · have hq0 : p0 ≥ p1 := (decide_eq_true_iff.mp hc3)
    exact g_move (v := .int .i64 p0) rfl
  refine wl_guard (c := (decide (p0 ≥ p1)) = true) (val := .int .i64 p2) (b := ((decide (p0 ≥ p1)) == true)) (gv_some rfl rfl rfl) beq_iff_eq (fun hc4 => ?_) ?_
  · have hq0 : p0 ≥ p1 := (decide_eq_true_iff.mp hc4)
    exact g_move (v := .int .i64 p2) rfl
  refine wl_guard (c := (decide (p0 ≥ p1)) = true) (val := .bool (decide (p0 ≤ p2))) (b := ((decide (p0 ≥ p1)) == true)) (gv_some rfl rfl rfl) beq_iff_eq (fun hc5 => ?_) ?_
  · have hq0 : p0 ≥ p1 := (decide_eq_true_iff.mp hc5)
    exact g_leq (a := p0) (b := p2) (if_pos hc5) (if_pos hc5)
  refine wl_val (g_pick_and (b := (decide (p0 ≥ p1))) (q := (decide (p0 ≤ p2))) rfl rfl) rfl ?_
  refine wl_val (g_assign (v := .bool ((decide (p0 ≥ p1)) && (decide (p0 ≤ p2)))) rfl) rfl ?_
  refine wl_nil ?_
  refine hK2 _ _ ?_
  refine w_ret ?_
  repeat first | with_reducible refine q_then ?_ | with_reducible refine q_block ?_
  exact ret1 rfl (by decide) ⟨_, hm, rfl, toExt hB0⟩

theorem m_spec_l11Waits_fn {w : World} {a0 : Option Addr} {n0 c0 : Nat} {y0 : List CueD} {p0 : List CueC} {Q : (List Int) → Prop} (hp0 : Tv w.heap.size w a0 n0 c0 y0 p0) (hm : m_spec_l11Waits p0 Q) :
    Fn Try.prog 58 #[.slice a0 n0 c0] w (fun v w' => ∃ (r0 : List Int) (a0 : Option Addr) (n0 c0 : Nat), Q r0 ∧ v = .slice a0 n0 c0 ∧ Ext w w' ∧ Sep w' w.heap.size [oS 3 a0 n0 c0 r0]) := by
  unfold m_spec_l11Waits at hm
  have hB0 := Below.refl w.heap.size w
  have hS0 : Sep w w.heap.size [] := Sep.nil (Nat.le_refl _)
  refine fn_of_wp Try.func58 rfl (by kernel_rfl) (Nat.le_of_ble_eq_true rfl) ?_
  refine w_seq fun K1 hK1 => ?_
  refine w_region ?_
  refine wl_val (g_assign (v := .slice none 0 0) rfl) rfl ?_
  refine wl_nil ?_
  refine hK1 _ _ ?_
  refine w_seq fun K2 hK2 => ?_
  refine w_region ?_
  refine wl_val (g_move (v := .slice a0 n0 c0) rfl) rfl ?_
  refine wl_val (q_len SL26 rfl (Tv.len (hp0.bel hB0))) rfl ?_
  refine wl_val (g_assign (v := .int .i64 (p0.length : Int)) rfl) rfl ?_
  refine wl_nil ?_
  refine hK2 _ _ ?_
  refine w_seq fun K3 hK3 => ?_
  refine w_region ?_
  refine wl_val (g_move (v := .int .i64 (p0.length : Int)) rfl) rfl ?_
  obtain ⟨hg4, hm⟩ := hm
  refine wl_step rfl (q_make (y := (0 : Int)) SL24 rfl rfl hg4.1 hg4.2 (by decide) hS0) ?_
  rintro _ w5 ⟨a6, rfl, hS8, hE7⟩
  have hB10 := hB0.trans (Ext.stp hE7 hS0.base)
  refine wl_val (g_assign (v := .slice a6 (Int.toNat (p0.length : Int)) (Int.toNat (p0.length : Int))) rfl) rfl ?_
  refine wl_nil ?_
  refine hK3 _ _ ?_
  refine w_cut (σ := List Int) (fun x526 => [(3, .int .i64 (p0.length : Int)), (4, .slice a6 (Int.toNat (p0.length : Int)) (Int.toNat (p0.length : Int)))]) (fun x526 w' => m_spec_l11Waits_K3 p0 Q x526 ∧ Below w.heap.size w w' ∧ Sep w' w.heap.size [oS 3 a6 (Int.toNat (p0.length : Int)) (Int.toNat (p0.length : Int)) (x526 : List Int)]) ?_ ?_
  · refine w_seq fun K528 hK528 => ?_
    refine w_region ?_
    refine wl_val (g_assign (v := .int .i64 0) rfl) rfl ?_
    refine wl_nil ?_
    refine hK528 _ _ ?_
    refine w_block ?_
    obtain ⟨I531, μ532, h0533, hr534⟩ := hm
    refine w_for (σ := List Int × Int) (fun ⟨x529, v530⟩ => [(0, .slice a0 n0 c0), (3, .int .i64 (p0.length : Int)), (4, .slice a6 (Int.toNat (p0.length : Int)) (Int.toNat (p0.length : Int))), (5, .int .i64 v530)]) (fun ⟨x529, v530⟩ w' => I531 x529 v530 ∧ Below w.heap.size w w' ∧ Sep w' w.heap.size [oS 3 a6 (Int.toNat (p0.length : Int)) (Int.toNat (p0.length : Int)) (x529 : List Int)]) (fun ⟨x529, v530⟩ => μ532 x529 v530) (List.replicate (Int.toNat (p0.length : Int)) (0 : Int), 0) ⟨rfl, rfl, rfl, rfl, trivial⟩ ⟨h0533, hB10, hS8⟩ ?_
    rintro ⟨x529, v530⟩ b_ w535 ⟨hi_, hB536, hS537⟩
    show Wp _ _ _ _ (upds b_ [(0, .slice a0 n0 c0), (3, .int .i64 (p0.length : Int)), (4, .slice a6 (Int.toNat (p0.length : Int)) (Int.toNat (p0.length : Int))), (5, .int .i64 v530)]) w535
    have hm := hr534 x529 v530 hi_
    refine w_seq fun K539 hK539 => ?_
    refine w_seq fun K540 hK540 => ?_
    refine w_region ?_
    refine wl_val (g_move (v := .int .i64 v530) rfl) rfl ?_
    refine wl_val (g_move (v := .int .i64 (p0.length : Int)) rfl) rfl ?_
    refine wl_val (g_lss (a := v530) (b := (p0.length : Int)) rfl rfl) rfl ?_
    refine wl_nil ?_
    refine hK540 _ _ ?_
    refine w_condI (p := v530 < (p0.length : Int)) (b := (decide (v530 < (p0.length : Int)))) rfl decide_eq_true_iff (fun h541 => ?_) (fun h541 => ?_)
    · replace hm := hm.1 h541
      refine w_skip ?_
      refine hK539 _ _ ?_
      refine w_cut (σ := List Int) (fun x542 => [(0, .slice a0 n0 c0), (3, .int .i64 (p0.length : Int)), (4, .slice a6 (Int.toNat (p0.length : Int)) (Int.toNat (p0.length : Int))), (5, .int .i64 v530)]) (fun x542 w' => m_spec_l11Waits_K0 v530 (fun x529' v530' => I531 x529' v530' ∧ μ532 x529' v530' < μ532 x529 v530) x542 ∧ Below w.heap.size w w' ∧ Sep w' w.heap.size [oS 3 a6 (Int.toNat (p0.length : Int)) (Int.toNat (p0.length : Int)) (x542 : List Int)]) ?_ ?_
      · refine w_block ?_
        refine w_seq fun K544 hK544 => ?_
        refine w_region ?_
        refine wl_val (g_assign (v := .int .i64 0) rfl) rfl ?_
        refine wl_nil ?_
        refine hK544 _ _ ?_
        refine w_block ?_
        obtain ⟨I547, μ548, h0549, hr550⟩ := hm
        refine w_for (σ := List Int × Int) (fun ⟨x545, v546⟩ => [(0, .slice a0 n0 c0), (3, .int .i64 (p0.length : Int)), (4, .slice a6 (Int.toNat (p0.length : Int)) (Int.toNat (p0.length : Int))), (5, .int .i64 v530), (6, .int .i64 v546)]) (fun ⟨x545, v546⟩ w' => I547 x545 v546 ∧ Below w.heap.size w w' ∧ Sep w' w.heap.size [oS 3 a6 (Int.toNat (p0.length : Int)) (Int.toNat (p0.length : Int)) (x545 : List Int)]) (fun ⟨x545, v546⟩ => μ548 x545 v546) (x529, 0) ⟨rfl, rfl, rfl, rfl, rfl, trivial⟩ ⟨h0549, hB536, hS537⟩ ?_
        rintro ⟨x545, v546⟩ b_ w551 ⟨hi_, hB552, hS553⟩
        show Wp _ _ _ _ (upds b_ [(0, .slice a0 n0 c0), (3, .int .i64 (p0.length : Int)), (4, .slice a6 (Int.toNat (p0.length : Int)) (Int.toNat (p0.length : Int))), (5, .int .i64 v530), (6, .int .i64 v546)]) w551
        have hm := hr550 x545 v546 hi_
        refine w_seq fun K555 hK555 => ?_
        refine w_seq fun K556 hK556 => ?_
        refine w_region ?_
        refine wl_val (g_move (v := .int .i64 v546) rfl) rfl ?_
        refine wl_val (g_move (v := .slice a0 n0 c0) rfl) rfl ?_
        refine wl_val (g_move (v := .int .i64 v530) rfl) rfl ?_
        obtain ⟨hg557, hm⟩ := hm
        refine wl_val (q_index (i := v530) SL26 rfl rfl (Tv.o (hp0.bel hB552)) (Tv.g (hp0.bel hB552) hg557)) rfl ?_
        refine wl_val (g_fieldAddr (q := (adr a0).add ((Int.toNat v530) * El.m CueD)) FL39_1 ON24 rfl) rfl ?_
        refine wl_val (q_loadF (i := v530) (j := 1) (v := .slice ((y0[(Int.toNat v530)]!).2.1.1) ((y0[(Int.toNat v530)]!).2.1.2.2.length) ((y0[(Int.toNat v530)]!).2.1.2.1)) ON24 (Tv.o (hp0.bel hB552)) (Tv.g (hp0.bel hB552) hg557) rfl rfl) rfl ?_
        refine wl_val (q_len SL24 rfl (Vw.len (Tv.rowC0 (hp0.bel hB552) hg557))) rfl ?_
        refine wl_val (g_lss (a := v546) (b := ((p0[(Int.toNat v530)]!.2.1).length : Int)) rfl rfl) rfl ?_
        refine wl_nil ?_
        refine hK556 _ _ ?_
        refine w_condI (p := v546 < ((p0[(Int.toNat v530)]!.2.1).length : Int)) (b := (decide (v546 < ((p0[(Int.toNat v530)]!.2.1).length : Int)))) rfl decide_eq_true_iff (fun h558 => ?_) (fun h558 => ?_)
        · replace hm := hm.1 h558
          refine w_skip ?_
          refine hK555 _ _ ?_
          refine w_seq fun K559 hK559 => ?_
          refine w_block ?_
          refine w_seq fun K560 hK560 => ?_
          refine w_region ?_
          refine wl_val (g_move (v := .slice a0 n0 c0) rfl) rfl ?_
          refine wl_val (g_move (v := .int .i64 v530) rfl) rfl ?_
          obtain ⟨hg561, hm⟩ := hm
          refine wl_val (q_index (i := v530) SL26 rfl rfl (Tv.o (hp0.bel hB552)) (Tv.g (hp0.bel hB552) hg561)) rfl ?_
          refine wl_val (g_fieldAddr (q := (adr a0).add ((Int.toNat v530) * El.m CueD)) FL39_1 ON24 rfl) rfl ?_
          refine wl_val (q_loadF (i := v530) (j := 1) (v := .slice ((y0[(Int.toNat v530)]!).2.1.1) ((y0[(Int.toNat v530)]!).2.1.2.2.length) ((y0[(Int.toNat v530)]!).2.1.2.1)) ON24 (Tv.o (hp0.bel hB552)) (Tv.g (hp0.bel hB552) hg561) rfl rfl) rfl ?_
          refine wl_val (g_move (v := .int .i64 v546) rfl) rfl ?_
          obtain ⟨hg562, hm⟩ := hm
          refine wl_val (q_index (i := v546) SL24 rfl rfl (Tv.rowC0 (hp0.bel hB552) hg561) hg562) rfl ?_
          refine wl_val (q_load (i := v546) (v := .int .i64 ((p0[(Int.toNat v530)]!.2.1)[(Int.toNat v546)]!)) ON3 (Tv.rowC0 (hp0.bel hB552) hg561) hg562 rfl rfl) rfl ?_
          refine wl_val (g_move (v := .int .i64 (p0.length : Int)) rfl) rfl ?_
          obtain ⟨hg563, hm⟩ := hm
          refine wl_val (g_sub (a := (p0.length : Int)) (b := 1) rfl rfl hg563) rfl ?_
          refine wl_step rfl (g_call (vs := #[.int .i64 ((p0[(Int.toNat v530)]!.2.1)[(Int.toNat v546)]!), .int .i64 0, .int .i64 ((p0.length : Int) - 1)]) CF67 (args3 rfl rfl rfl) (m_spec_l01In_fn ((p0[(Int.toNat v530)]!.2.1)[(Int.toNat v546)]!) 0 ((p0.length : Int) - 1) hm)) ?_
          rintro _ w564 ⟨r567, hm, rfl, hE565⟩
          have hB568 := hB552.trans (Ext.stp hE565 hS553.base)
          have hS569 := hS553.ext hE565
          refine wl_nil ?_
          refine hK560 _ _ ?_
          refine w_condI (p := r567 = true) (b := r567) rfl Iff.rfl (fun h570 => ?_) (fun h570 => ?_)
          · replace hm := hm.1 h570
            refine w_draw (X := Ext) (Y := Ext) [0, 0, 0, 0, 0, 0, 0, 0, 0, 0, 0, 0, 0, 0, 0, 0, 0, 1] MIX (by decide +kernel) rfl Ext.refl (fun _ _ _ => Ext.trans) (fun _ _ _ => Chg.trans) (fun _ _ h => Ext.chg h _) (fun w571 hE572 => ?_)
            have hB573 := hB568.trans (Ext.stp hE572 hS569.base)
            have hS574 := hS569.ext hE572
            refine ⟨.slice a6 (Int.toNat (p0.length : Int)) (Int.toNat (p0.length : Int)), fun w575 hX576 => od_plain rfl (by have hS577 := hS574.ext hX576; have hB578 := hB573.trans (Ext.stp hX576 hS574.base); exact is_ext (g_move (v := .slice a6 (Int.toNat (p0.length : Int)) (Int.toNat (p0.length : Int))) rfl)), ?_⟩
            refine ⟨.int .i64 v530, fun w579 hX580 => od_plain rfl (by have hS581 := hS574.ext hX580; have hB582 := hB573.trans (Ext.stp hX580 hS574.base); exact is_ext (g_move (v := .int .i64 v530) rfl)), ?_⟩
            refine ⟨.slice a6 (Int.toNat (p0.length : Int)) (Int.toNat (p0.length : Int)), fun w583 hX584 => od_plain rfl (by have hS585 := hS574.ext hX584; have hB586 := hB573.trans (Ext.stp hX584 hS574.base); exact is_ext (g_move (v := .slice a6 (Int.toNat (p0.length : Int)) (Int.toNat (p0.length : Int))) rfl)), ?_⟩
            refine ⟨.int .i64 v530, fun w587 hX588 => od_plain rfl (by have hS589 := hS574.ext hX588; have hB590 := hB573.trans (Ext.stp hX588 hS574.base); exact is_ext (g_move (v := .int .i64 v530) rfl)), ?_⟩
            obtain ⟨hg595, hm⟩ := hm
            refine ⟨.pointer (some ((adr a6).add ((Int.toNat v530) * El.m Int))), fun w591 hX592 => od_plain rfl (by have hS593 := hS574.ext hX592; have hB594 := hB573.trans (Ext.stp hX592 hS574.base); exact is_ext (q_index (i := v530) SL24 rfl rfl (oS.vw hS593.g0) hg595)), ?_⟩
            refine ⟨.int .i64 (x545[(Int.toNat v530)]!), fun w596 hX597 => od_plain rfl (by have hS598 := hS574.ext hX597; have hB599 := hB573.trans (Ext.stp hX597 hS574.base); exact is_ext (q_load (i := v530) (v := .int .i64 (x545[(Int.toNat v530)]!)) ON3 (oS.vw hS598.g0) hg595 rfl rfl)), ?_⟩
            refine ⟨.slice a0 n0 c0, fun w600 hX601 => od_plain rfl (by have hS602 := hS574.ext hX601; have hB603 := hB573.trans (Ext.stp hX601 hS574.base); exact is_ext (g_move (v := .slice a0 n0 c0) rfl)), ?_⟩
            refine ⟨.int .i64 v530, fun w604 hX605 => od_plain rfl (by have hS606 := hS574.ext hX605; have hB607 := hB573.trans (Ext.stp hX605 hS574.base); exact is_ext (g_move (v := .int .i64 v530) rfl)), ?_⟩
            obtain ⟨hg612, hm⟩ := hm
            refine ⟨.pointer (some ((adr a0).add ((Int.toNat v530) * El.m CueD))), fun w608 hX609 => od_plain rfl (by have hS610 := hS574.ext hX609; have hB611 := hB573.trans (Ext.stp hX609 hS574.base); exact is_ext (q_index (i := v530) SL26 rfl rfl (Tv.o (hp0.bel hB611)) (Tv.g (hp0.bel hB611) hg612))), ?_⟩
            refine ⟨.pointer (some (((adr a0).add ((Int.toNat v530) * El.m CueD)).add 1)), fun w613 hX614 => od_plain rfl (by have hS615 := hS574.ext hX614; have hB616 := hB573.trans (Ext.stp hX614 hS574.base); exact is_ext (g_fieldAddr (q := (adr a0).add ((Int.toNat v530) * El.m CueD)) FL39_1 ON24 rfl)), ?_⟩
            refine ⟨.slice ((y0[(Int.toNat v530)]!).2.1.1) ((y0[(Int.toNat v530)]!).2.1.2.2.length) ((y0[(Int.toNat v530)]!).2.1.2.1), fun w617 hX618 => od_plain rfl (by have hS619 := hS574.ext hX618; have hB620 := hB573.trans (Ext.stp hX618 hS574.base); exact is_ext (q_loadF (i := v530) (j := 1) (v := .slice ((y0[(Int.toNat v530)]!).2.1.1) ((y0[(Int.toNat v530)]!).2.1.2.2.length) ((y0[(Int.toNat v530)]!).2.1.2.1)) ON24 (Tv.o (hp0.bel hB620)) (Tv.g (hp0.bel hB620) hg612) rfl rfl)), ?_⟩
            refine ⟨.int .i64 v546, fun w621 hX622 => od_plain rfl (by have hS623 := hS574.ext hX622; have hB624 := hB573.trans (Ext.stp hX622 hS574.base); exact is_ext (g_move (v := .int .i64 v546) rfl)), ?_⟩
            obtain ⟨hg629, hm⟩ := hm
            refine ⟨.pointer (some ((adr ((y0[(Int.toNat v530)]!).2.1.1)).add ((Int.toNat v546) * El.m Int))), fun w625 hX626 => od_plain rfl (by have hS627 := hS574.ext hX626; have hB628 := hB573.trans (Ext.stp hX626 hS574.base); exact is_ext (q_index (i := v546) SL24 rfl rfl (Tv.rowC0 (hp0.bel hB628) hg612) hg629)), ?_⟩
            refine ⟨.int .i64 ((p0[(Int.toNat v530)]!.2.1)[(Int.toNat v546)]!), fun w630 hX631 => od_plain rfl (by have hS632 := hS574.ext hX631; have hB633 := hB573.trans (Ext.stp hX631 hS574.base); exact is_ext (q_load (i := v546) (v := .int .i64 ((p0[(Int.toNat v530)]!.2.1)[(Int.toNat v546)]!)) ON3 (Tv.rowC0 (hp0.bel hB633) hg612) hg629 rfl rfl)), ?_⟩
            obtain ⟨hg638, hm⟩ := hm
            obtain ⟨hg639, hm⟩ := hm
            refine ⟨.int .i64 (sal 1 ((p0[(Int.toNat v530)]!.2.1)[(Int.toNat v546)]!)), fun w634 hX635 => od_plain rfl (by have hS636 := hS574.ext hX635; have hB637 := hB573.trans (Ext.stp hX635 hS574.base); exact is_ext (g_shl (a := 1) (b := (p0[(Int.toNat v530)]!.2.1)[(Int.toNat v546)]!) rfl rfl hg638 hg639)), ?_⟩
            obtain ⟨hg644, hm⟩ := hm
            refine ⟨.int .i64 (bor (x545[(Int.toNat v530)]!) (sal 1 ((p0[(Int.toNat v530)]!.2.1)[(Int.toNat v546)]!))), fun w640 hX641 => od_plain rfl (by have hS642 := hS574.ext hX641; have hB643 := hB573.trans (Ext.stp hX641 hS574.base); exact is_ext (g_bor (a := x545[(Int.toNat v530)]!) (b := (sal 1 ((p0[(Int.toNat v530)]!.2.1)[(Int.toNat v546)]!))) rfl rfl hg644)), ?_⟩
            obtain ⟨hg649, hm⟩ := hm
            refine ⟨.pointer (some ((adr a6).add ((Int.toNat v530) * El.m Int))), fun w645 hX646 => od_plain rfl (by have hS647 := hS574.ext hX646; have hB648 := hB573.trans (Ext.stp hX646 hS574.base); exact is_ext (q_index (i := v530) SL24 rfl rfl (oS.vw hS647.g0) hg649)), ?_⟩
            intro w650 hX651
            have hB652 := hB573.trans (Ext.stp hX651 hS574.base)
            have hS653 := hS574.ext hX651
            refine ⟨_, od_plain rfl (q_store (i := v530) (v := ((bor (x545[(Int.toNat v530)]!) (sal 1 ((p0[(Int.toNat v530)]!.2.1)[(Int.toNat v546)]!))) : Int)) hS653 ON3.sz hg649 rfl rfl rfl), ?_⟩
            rintro _ w654 ⟨rfl, hS655, hb656⟩
            have hB657 := hB652.trans hb656
            intro w658 hX659
            have hB660 := hB657.trans (Ext.stp hX659 hS655.base)
            have hS661 := hS655.ext hX659
            refine hK559 _ _ ?_
            refine w_region ?_
            refine wl_val (g_move (v := .int .i64 v546) rfl) rfl ?_
            obtain ⟨hg662, hm⟩ := hm
            refine wl_val (g_add (a := v546) (b := 1) rfl rfl hg662) rfl ?_
            refine wl_val (g_assign (v := .int .i64 (v546 + 1)) rfl) rfl ?_
            refine wl_nil ?_
            exact ⟨((x545.set (Int.toNat v530) (bor (x545[(Int.toNat v530)]!) (sal 1 ((p0[(Int.toNat v530)]!.2.1)[(Int.toNat v546)]!)))), (v546 + 1)), hm.2, ⟨rfl, rfl, rfl, rfl, rfl, trivial⟩, ⟨hm.1, hB660, hS661⟩⟩
          · replace hm := hm.2 h570
            refine w_skip ?_
            refine hK559 _ _ ?_
            refine w_region ?_
            refine wl_val (g_move (v := .int .i64 v546) rfl) rfl ?_
            obtain ⟨hg663, hm⟩ := hm
            refine wl_val (g_add (a := v546) (b := 1) rfl rfl hg663) rfl ?_
            refine wl_val (g_assign (v := .int .i64 (v546 + 1)) rfl) rfl ?_
            refine wl_nil ?_
            exact ⟨(x545, (v546 + 1)), hm.2, ⟨rfl, rfl, rfl, rfl, rfl, trivial⟩, ⟨hm.1, hB568, hS569⟩⟩
        · replace hm := hm.2 h558
          refine w_exit ?_
          exact ⟨(x545), ⟨rfl, rfl, rfl, rfl, trivial⟩, ⟨hm, hB552, hS553⟩⟩
      · rintro x542 b_ w664 ⟨hm, hB665, hS666⟩
        show Wp _ _ _ _ (upds b_ [(0, .slice a0 n0 c0), (3, .int .i64 (p0.length : Int)), (4, .slice a6 (Int.toNat (p0.length : Int)) (Int.toNat (p0.length : Int))), (5, .int .i64 v530)]) w664
        refine w_region ?_
        refine wl_val (g_move (v := .int .i64 v530) rfl) rfl ?_
        obtain ⟨hg667, hm⟩ := hm
        refine wl_val (g_add (a := v530) (b := 1) rfl rfl hg667) rfl ?_
        refine wl_val (g_assign (v := .int .i64 (v530 + 1)) rfl) rfl ?_
        refine wl_nil ?_
        exact ⟨(x542, (v530 + 1)), hm.2, ⟨rfl, rfl, rfl, rfl, trivial⟩, ⟨hm.1, hB665, hS666⟩⟩
    · replace hm := hm.2 h541
      refine w_exit ?_
      exact ⟨(x529), ⟨rfl, rfl, trivial⟩, ⟨hm, hB536, hS537⟩⟩
  · rintro x526 b_ w668 ⟨hm, hB669, hS670⟩
    show Wp _ _ _ _ (upds b_ [(3, .int .i64 (p0.length : Int)), (4, .slice a6 (Int.toNat (p0.length : Int)) (Int.toNat (p0.length : Int)))]) w668
    refine w_cut (σ := List Int) (fun x1063 => [(4, .slice a6 (Int.toNat (p0.length : Int)) (Int.toNat (p0.length : Int)))]) (fun x1063 w' => m_spec_l11Waits_K2 Q x1063 ∧ Below w.heap.size w w' ∧ Sep w' w.heap.size [oS 3 a6 (Int.toNat (p0.length : Int)) (Int.toNat (p0.length : Int)) (x1063 : List Int)]) ?_ ?_
    · refine w_seq fun K1065 hK1065 => ?_
      refine w_region ?_
      refine wl_val (g_assign (v := .int .i64 0) rfl) rfl ?_
      refine wl_nil ?_
      refine hK1065 _ _ ?_
      refine w_block ?_
      obtain ⟨I1068, μ1069, h01070, hr1071⟩ := hm
      refine w_for (σ := List Int × Int) (fun ⟨x1066, v1067⟩ => [(3, .int .i64 (p0.length : Int)), (4, .slice a6 (Int.toNat (p0.length : Int)) (Int.toNat (p0.length : Int))), (7, .int .i64 v1067)]) (fun ⟨x1066, v1067⟩ w' => I1068 x1066 v1067 ∧ Below w.heap.size w w' ∧ Sep w' w.heap.size [oS 3 a6 (Int.toNat (p0.length : Int)) (Int.toNat (p0.length : Int)) (x1066 : List Int)]) (fun ⟨x1066, v1067⟩ => μ1069 x1066 v1067) (x526, 0) ⟨rfl, rfl, rfl, trivial⟩ ⟨h01070, hB669, hS670⟩ ?_
      rintro ⟨x1066, v1067⟩ b_ w1072 ⟨hi_, hB1073, hS1074⟩
      show Wp _ _ _ _ (upds b_ [(3, .int .i64 (p0.length : Int)), (4, .slice a6 (Int.toNat (p0.length : Int)) (Int.toNat (p0.length : Int))), (7, .int .i64 v1067)]) w1072
      have hm := hr1071 x1066 v1067 hi_
      refine w_seq fun K1076 hK1076 => ?_
      refine w_seq fun K1077 hK1077 => ?_
      refine w_region ?_
      refine wl_val (g_move (v := .int .i64 v1067) rfl) rfl ?_
      refine wl_val (g_move (v := .int .i64 (p0.length : Int)) rfl) rfl ?_
      refine wl_val (g_lss (a := v1067) (b := (p0.length : Int)) rfl rfl) rfl ?_
      refine wl_nil ?_
      refine hK1077 _ _ ?_
      refine w_condI (p := v1067 < (p0.length : Int)) (b := (decide (v1067 < (p0.length : Int)))) rfl decide_eq_true_iff (fun h1078 => ?_) (fun h1078 => ?_)
      · replace hm := hm.1 h1078
        refine w_skip ?_
        refine hK1076 _ _ ?_
        refine w_cut (σ := List Int) (fun x1079 => [(3, .int .i64 (p0.length : Int)), (4, .slice a6 (Int.toNat (p0.length : Int)) (Int.toNat (p0.length : Int))), (7, .int .i64 v1067)]) (fun x1079 w' => m_spec_l11Waits_K1 v1067 (fun x1066' v1067' => I1068 x1066' v1067' ∧ μ1069 x1066' v1067' < μ1069 x1066 v1067) x1079 ∧ Below w.heap.size w w' ∧ Sep w' w.heap.size [oS 3 a6 (Int.toNat (p0.length : Int)) (Int.toNat (p0.length : Int)) (x1079 : List Int)]) ?_ ?_
        · refine w_block ?_
          refine w_seq fun K1081 hK1081 => ?_
          refine w_region ?_
          refine wl_val (g_assign (v := .int .i64 0) rfl) rfl ?_
          refine wl_nil ?_
          refine hK1081 _ _ ?_
          refine w_block ?_
          obtain ⟨I1084, μ1085, h01086, hr1087⟩ := hm
          refine w_for (σ := List Int × Int) (fun ⟨x1082, v1083⟩ => [(3, .int .i64 (p0.length : Int)), (4, .slice a6 (Int.toNat (p0.length : Int)) (Int.toNat (p0.length : Int))), (7, .int .i64 v1067), (8, .int .i64 v1083)]) (fun ⟨x1082, v1083⟩ w' => I1084 x1082 v1083 ∧ Below w.heap.size w w' ∧ Sep w' w.heap.size [oS 3 a6 (Int.toNat (p0.length : Int)) (Int.toNat (p0.length : Int)) (x1082 : List Int)]) (fun ⟨x1082, v1083⟩ => μ1085 x1082 v1083) (x1066, 0) ⟨rfl, rfl, rfl, rfl, trivial⟩ ⟨h01086, hB1073, hS1074⟩ ?_
          rintro ⟨x1082, v1083⟩ b_ w1088 ⟨hi_, hB1089, hS1090⟩
          show Wp _ _ _ _ (upds b_ [(3, .int .i64 (p0.length : Int)), (4, .slice a6 (Int.toNat (p0.length : Int)) (Int.toNat (p0.length : Int))), (7, .int .i64 v1067), (8, .int .i64 v1083)]) w1088
          have hm := hr1087 x1082 v1083 hi_
          refine w_seq fun K1092 hK1092 => ?_
          refine w_seq fun K1093 hK1093 => ?_
          refine w_region ?_
          refine wl_val (g_move (v := .int .i64 v1083) rfl) rfl ?_
          refine wl_val (g_move (v := .int .i64 (p0.length : Int)) rfl) rfl ?_
          refine wl_val (g_lss (a := v1083) (b := (p0.length : Int)) rfl rfl) rfl ?_
          refine wl_nil ?_
          refine hK1093 _ _ ?_
          refine w_condI (p := v1083 < (p0.length : Int)) (b := (decide (v1083 < (p0.length : Int)))) rfl decide_eq_true_iff (fun h1094 => ?_) (fun h1094 => ?_)
          · replace hm := hm.1 h1094
            refine w_skip ?_
            refine hK1092 _ _ ?_
            refine w_seq fun K1095 hK1095 => ?_
            refine w_block ?_
            refine w_seq fun K1096 hK1096 => ?_
            refine w_region ?_
            refine wl_val (g_move (v := .slice a6 (Int.toNat (p0.length : Int)) (Int.toNat (p0.length : Int))) rfl) rfl ?_
            refine wl_val (g_move (v := .int .i64 v1083) rfl) rfl ?_
            obtain ⟨hg1097, hm⟩ := hm
            refine wl_val (q_index (i := v1083) SL24 rfl rfl (oS.vw hS1090.g0) hg1097) rfl ?_
            refine wl_val (q_load (i := v1083) (v := .int .i64 (x1082[(Int.toNat v1083)]!)) ON3 (oS.vw hS1090.g0) hg1097 rfl rfl) rfl ?_
            refine wl_val (g_move (v := .int .i64 v1067) rfl) rfl ?_
            obtain ⟨hg1098, hm⟩ := hm
            refine wl_val (g_shr (a := x1082[(Int.toNat v1083)]!) (b := v1067) rfl rfl hg1098) rfl ?_
            obtain ⟨hg1099, hm⟩ := hm
            refine wl_val (g_band (a := (sar (x1082[(Int.toNat v1083)]!) v1067)) (b := 1) rfl rfl hg1099) rfl ?_
            refine wl_val (g_eql (a := (band (sar (x1082[(Int.toNat v1083)]!) v1067) 1)) (b := 1) rfl rfl) rfl ?_
            refine wl_nil ?_
            refine hK1096 _ _ ?_
            refine w_condI (p := (band (sar (x1082[(Int.toNat v1083)]!) v1067) 1) = 1) (b := (decide ((band (sar (x1082[(Int.toNat v1083)]!) v1067) 1) = 1))) rfl decide_eq_true_iff (fun h1100 => ?_) (fun h1100 => ?_)
            · replace hm := hm.1 h1100
              refine w_draw (X := Ext) (Y := Ext) [0, 0, 0, 0, 0, 0, 0, 0, 0, 0, 0, 0, 1] MIX (by decide +kernel) rfl Ext.refl (fun _ _ _ => Ext.trans) (fun _ _ _ => Chg.trans) (fun _ _ h => Ext.chg h _) (fun w1101 hE1102 => ?_)
              have hB1103 := hB1089.trans (Ext.stp hE1102 hS1090.base)
              have hS1104 := hS1090.ext hE1102
              refine ⟨.slice a6 (Int.toNat (p0.length : Int)) (Int.toNat (p0.length : Int)), fun w1105 hX1106 => od_plain rfl (by have hS1107 := hS1104.ext hX1106; have hB1108 := hB1103.trans (Ext.stp hX1106 hS1104.base); exact is_ext (g_move (v := .slice a6 (Int.toNat (p0.length : Int)) (Int.toNat (p0.length : Int))) rfl)), ?_⟩
              refine ⟨.int .i64 v1083, fun w1109 hX1110 => od_plain rfl (by have hS1111 := hS1104.ext hX1110; have hB1112 := hB1103.trans (Ext.stp hX1110 hS1104.base); exact is_ext (g_move (v := .int .i64 v1083) rfl)), ?_⟩
              refine ⟨.slice a6 (Int.toNat (p0.length : Int)) (Int.toNat (p0.length : Int)), fun w1113 hX1114 => od_plain rfl (by have hS1115 := hS1104.ext hX1114; have hB1116 := hB1103.trans (Ext.stp hX1114 hS1104.base); exact is_ext (g_move (v := .slice a6 (Int.toNat (p0.length : Int)) (Int.toNat (p0.length : Int))) rfl)), ?_⟩
              refine ⟨.int .i64 v1083, fun w1117 hX1118 => od_plain rfl (by have hS1119 := hS1104.ext hX1118; have hB1120 := hB1103.trans (Ext.stp hX1118 hS1104.base); exact is_ext (g_move (v := .int .i64 v1083) rfl)), ?_⟩
              obtain ⟨hg1125, hm⟩ := hm
              refine ⟨.pointer (some ((adr a6).add ((Int.toNat v1083) * El.m Int))), fun w1121 hX1122 => od_plain rfl (by have hS1123 := hS1104.ext hX1122; have hB1124 := hB1103.trans (Ext.stp hX1122 hS1104.base); exact is_ext (q_index (i := v1083) SL24 rfl rfl (oS.vw hS1123.g0) hg1125)), ?_⟩
              refine ⟨.int .i64 (x1082[(Int.toNat v1083)]!), fun w1126 hX1127 => od_plain rfl (by have hS1128 := hS1104.ext hX1127; have hB1129 := hB1103.trans (Ext.stp hX1127 hS1104.base); exact is_ext (q_load (i := v1083) (v := .int .i64 (x1082[(Int.toNat v1083)]!)) ON3 (oS.vw hS1128.g0) hg1125 rfl rfl)), ?_⟩
              refine ⟨.slice a6 (Int.toNat (p0.length : Int)) (Int.toNat (p0.length : Int)), fun w1130 hX1131 => od_plain rfl (by have hS1132 := hS1104.ext hX1131; have hB1133 := hB1103.trans (Ext.stp hX1131 hS1104.base); exact is_ext (g_move (v := .slice a6 (Int.toNat (p0.length : Int)) (Int.toNat (p0.length : Int))) rfl)), ?_⟩
              refine ⟨.int .i64 v1067, fun w1134 hX1135 => od_plain rfl (by have hS1136 := hS1104.ext hX1135; have hB1137 := hB1103.trans (Ext.stp hX1135 hS1104.base); exact is_ext (g_move (v := .int .i64 v1067) rfl)), ?_⟩
              obtain ⟨hg1142, hm⟩ := hm
              refine ⟨.pointer (some ((adr a6).add ((Int.toNat v1067) * El.m Int))), fun w1138 hX1139 => od_plain rfl (by have hS1140 := hS1104.ext hX1139; have hB1141 := hB1103.trans (Ext.stp hX1139 hS1104.base); exact is_ext (q_index (i := v1067) SL24 rfl rfl (oS.vw hS1140.g0) hg1142)), ?_⟩
              refine ⟨.int .i64 (x1082[(Int.toNat v1067)]!), fun w1143 hX1144 => od_plain rfl (by have hS1145 := hS1104.ext hX1144; have hB1146 := hB1103.trans (Ext.stp hX1144 hS1104.base); exact is_ext (q_load (i := v1067) (v := .int .i64 (x1082[(Int.toNat v1067)]!)) ON3 (oS.vw hS1145.g0) hg1142 rfl rfl)), ?_⟩
              obtain ⟨hg1151, hm⟩ := hm
              refine ⟨.int .i64 (bor (x1082[(Int.toNat v1083)]!) (x1082[(Int.toNat v1067)]!)), fun w1147 hX1148 => od_plain rfl (by have hS1149 := hS1104.ext hX1148; have hB1150 := hB1103.trans (Ext.stp hX1148 hS1104.base); exact is_ext (g_bor (a := x1082[(Int.toNat v1083)]!) (b := x1082[(Int.toNat v1067)]!) rfl rfl hg1151)), ?_⟩
              obtain ⟨hg1156, hm⟩ := hm
              refine ⟨.pointer (some ((adr a6).add ((Int.toNat v1083) * El.m Int))), fun w1152 hX1153 => od_plain rfl (by have hS1154 := hS1104.ext hX1153; have hB1155 := hB1103.trans (Ext.stp hX1153 hS1104.base); exact is_ext (q_index (i := v1083) SL24 rfl rfl (oS.vw hS1154.g0) hg1156)), ?_⟩
              intro w1157 hX1158
              have hB1159 := hB1103.trans (Ext.stp hX1158 hS1104.base)
              have hS1160 := hS1104.ext hX1158
              refine ⟨_, od_plain rfl (q_store (i := v1083) (v := ((bor (x1082[(Int.toNat v1083)]!) (x1082[(Int.toNat v1067)]!)) : Int)) hS1160 ON3.sz hg1156 rfl rfl rfl), ?_⟩
              rintro _ w1161 ⟨rfl, hS1162, hb1163⟩
              have hB1164 := hB1159.trans hb1163
              intro w1165 hX1166
              have hB1167 := hB1164.trans (Ext.stp hX1166 hS1162.base)
              have hS1168 := hS1162.ext hX1166
              refine hK1095 _ _ ?_
              refine w_region ?_
              refine wl_val (g_move (v := .int .i64 v1083) rfl) rfl ?_
              obtain ⟨hg1169, hm⟩ := hm
              refine wl_val (g_add (a := v1083) (b := 1) rfl rfl hg1169) rfl ?_
              refine wl_val (g_assign (v := .int .i64 (v1083 + 1)) rfl) rfl ?_
              refine wl_nil ?_
              exact ⟨((x1082.set (Int.toNat v1083) (bor (x1082[(Int.toNat v1083)]!) (x1082[(Int.toNat v1067)]!))), (v1083 + 1)), hm.2, ⟨rfl, rfl, rfl, rfl, trivial⟩, ⟨hm.1, hB1167, hS1168⟩⟩
            · replace hm := hm.2 h1100
              refine w_skip ?_
              refine hK1095 _ _ ?_
              refine w_region ?_
              refine wl_val (g_move (v := .int .i64 v1083) rfl) rfl ?_
              obtain ⟨hg1170, hm⟩ := hm
              refine wl_val (g_add (a := v1083) (b := 1) rfl rfl hg1170) rfl ?_
              refine wl_val (g_assign (v := .int .i64 (v1083 + 1)) rfl) rfl ?_
              refine wl_nil ?_
              exact ⟨(x1082, (v1083 + 1)), hm.2, ⟨rfl, rfl, rfl, rfl, trivial⟩, ⟨hm.1, hB1089, hS1090⟩⟩
          · replace hm := hm.2 h1094
            refine w_exit ?_
            exact ⟨(x1082), ⟨rfl, rfl, rfl, trivial⟩, ⟨hm, hB1089, hS1090⟩⟩
        · rintro x1079 b_ w1171 ⟨hm, hB1172, hS1173⟩
          show Wp _ _ _ _ (upds b_ [(3, .int .i64 (p0.length : Int)), (4, .slice a6 (Int.toNat (p0.length : Int)) (Int.toNat (p0.length : Int))), (7, .int .i64 v1067)]) w1171
          refine w_region ?_
          refine wl_val (g_move (v := .int .i64 v1067) rfl) rfl ?_
          obtain ⟨hg1174, hm⟩ := hm
          refine wl_val (g_add (a := v1067) (b := 1) rfl rfl hg1174) rfl ?_
          refine wl_val (g_assign (v := .int .i64 (v1067 + 1)) rfl) rfl ?_
          refine wl_nil ?_
          exact ⟨(x1079, (v1067 + 1)), hm.2, ⟨rfl, rfl, rfl, trivial⟩, ⟨hm.1, hB1172, hS1173⟩⟩
      · replace hm := hm.2 h1078
        refine w_exit ?_
        exact ⟨(x1066), ⟨rfl, trivial⟩, ⟨hm, hB1073, hS1074⟩⟩
    · rintro x1063 b_ w1175 ⟨hm, hB1176, hS1177⟩
      show Wp _ _ _ _ (upds b_ [(4, .slice a6 (Int.toNat (p0.length : Int)) (Int.toNat (p0.length : Int)))]) w1175
      refine w_seq fun K1178 hK1178 => ?_
      refine w_region ?_
      refine wl_val (g_move (v := .slice a6 (Int.toNat (p0.length : Int)) (Int.toNat (p0.length : Int))) rfl) rfl ?_
      refine wl_val (g_assign (v := .slice a6 (Int.toNat (p0.length : Int)) (Int.toNat (p0.length : Int))) rfl) rfl ?_
      refine wl_nil ?_
      refine hK1178 _ _ ?_
      refine w_ret ?_
      repeat first | with_reducible refine q_then ?_ | with_reducible refine q_block ?_
      exact ret1 rfl (by decide) ⟨_, _, _, _, hm, rfl, toExt hB1176, hS1177⟩

theorem m_spec_CircleIn_fn {w : World} {a0 : Option Addr} {n0 c0 : Nat} {y0 : List CueD} {p0 : List CueC} {Q : (List Int) → Prop} (hp0 : Tv w.heap.size w a0 n0 c0 y0 p0) (hm : m_spec_CircleIn p0 Q) :
    Fn Try.prog 18 #[.slice a0 n0 c0] w (fun v w' => ∃ (r0 : List Int) (a0 : Option Addr) (n0 c0 : Nat), Q r0 ∧ v = .slice a0 n0 c0 ∧ Ext w w' ∧ Sep w' w.heap.size [oS 3 a0 n0 c0 r0]) := by
  unfold m_spec_CircleIn at hm
  have hB0 := Below.refl w.heap.size w
  have hS0 : Sep w w.heap.size [] := Sep.nil (Nat.le_refl _)
  refine fn_of_wp Try.func18 rfl (by kernel_rfl) (Nat.le_of_ble_eq_true rfl) ?_
  refine w_seq fun K1 hK1 => ?_
  refine w_region ?_
  refine wl_val (g_assign (v := .slice none 0 0) rfl) rfl ?_
  refine wl_nil ?_
  refine hK1 _ _ ?_
  refine w_seq fun K2 hK2 => ?_
  refine w_region ?_
  refine wl_step rfl (q_lit0 (α := Int) rfl SL24 hS0) ?_
  rintro _ w3 ⟨a4, rfl, hS6, hE5⟩
  have hB8 := hB0.trans (Ext.stp hE5 hS0.base)
  refine wl_val (g_assign (v := .slice a4 0 0) rfl) rfl ?_
  refine wl_nil ?_
  refine hK2 _ _ ?_
  refine w_seq fun K9 hK9 => ?_
  refine w_seq fun K10 hK10 => ?_
  refine w_region ?_
  refine wl_val (g_move (v := .slice a0 n0 c0) rfl) rfl ?_
  refine wl_val (q_len SL26 rfl (Tv.len (hp0.bel hB8))) rfl ?_
  refine wl_val (g_gtr (a := (p0.length : Int)) (b := 12) rfl rfl) rfl ?_
  refine wl_nil ?_
  refine hK10 _ _ ?_
  refine w_condI (p := (p0.length : Int) > 12) (b := (decide ((p0.length : Int) > 12))) rfl decide_eq_true_iff (fun h11 => ?_) (fun h11 => ?_)
  · replace hm := hm.1 h11
    refine w_seq fun K12 hK12 => ?_
    refine w_region ?_
    refine wl_val (g_move (v := .slice a4 0 0) rfl) rfl ?_
    refine wl_val (g_assign (v := .slice a4 0 0) rfl) rfl ?_
    refine wl_nil ?_
    refine hK12 _ _ ?_
    refine w_ret ?_
    repeat first | with_reducible refine q_then ?_ | with_reducible refine q_block ?_
    exact ret1 rfl (by decide) ⟨_, _, _, _, hm, rfl, toExt hB8, hS6⟩
  · replace hm := hm.2 h11
    refine w_skip ?_
    refine hK9 _ _ ?_
    refine w_seq fun K13 hK13 => ?_
    refine w_region ?_
    refine wl_val (g_move (v := .slice a0 n0 c0) rfl) rfl ?_
    refine wl_step rfl (g_call (vs := #[.slice a0 n0 c0]) CF58 (args1 rfl) (m_spec_l11Waits_fn ((hp0.bel hB8).up hS6) hm)) ?_
    rintro _ w14 ⟨r17, a18, n19, c20, hm, rfl, hE15, hN16⟩
    have hS22 := hS6.call1 hE15 hN16
    have hB23 := hB8.trans (Ext.stp hE15 hS6.base)
    refine wl_val (g_assign (v := .slice a18 n19 c20) rfl) rfl ?_
    refine wl_nil ?_
    refine hK13 _ _ ?_
    refine w_cut (σ := List Int × Option Addr × Nat × Nat) (fun ⟨x99, a100, n101, c102⟩ => [(3, .slice a100 n101 c102)]) (fun ⟨x99, a100, n101, c102⟩ w' => m_spec_CircleIn_K0 Q x99 ∧ Below w.heap.size w w' ∧ Sep w' w.heap.size [oS 3 a100 n101 c102 (x99 : List Int)]) ?_ ?_
    · refine w_seq fun K104 hK104 => ?_
      refine w_region ?_
      refine wl_val (g_assign (v := .int .i64 0) rfl) rfl ?_
      refine wl_nil ?_
      refine hK104 _ _ ?_
      refine w_block ?_
      have hS110 := hS22.f1
      obtain ⟨I111, μ112, h0113, hr114⟩ := hm
      refine w_for (σ := List Int × Option Addr × Nat × Nat × Int) (fun ⟨x105, a106, n107, c108, v109⟩ => [(3, .slice a106 n107 c108), (4, .slice a18 n19 c20), (5, .int .i64 v109)]) (fun ⟨x105, a106, n107, c108, v109⟩ w' => I111 x105 v109 ∧ Below w.heap.size w w' ∧ Sep w' w.heap.size [oS 3 a106 n107 c108 (x105 : List Int), oS 3 a18 n19 c20 (r17 : List Int)]) (fun ⟨x105, a106, n107, c108, v109⟩ => μ112 x105 v109) ([], a4, 0, 0, 0) ⟨rfl, rfl, rfl, trivial⟩ ⟨h0113, hB23, hS110⟩ ?_
      rintro ⟨x105, a106, n107, c108, v109⟩ b_ w115 ⟨hi_, hB116, hS117⟩
      show Wp _ _ _ _ (upds b_ [(3, .slice a106 n107 c108), (4, .slice a18 n19 c20), (5, .int .i64 v109)]) w115
      have hm := hr114 x105 v109 hi_
      refine w_seq fun K119 hK119 => ?_
      refine w_seq fun K120 hK120 => ?_
      refine w_region ?_
      refine wl_val (g_move (v := .int .i64 v109) rfl) rfl ?_
      refine wl_val (g_move (v := .slice a18 n19 c20) rfl) rfl ?_
      refine wl_val (q_len SL24 rfl (Vw.len (oS.vw hS117.g1))) rfl ?_
      refine wl_val (g_lss (a := v109) (b := (r17.length : Int)) rfl rfl) rfl ?_
      refine wl_nil ?_
      refine hK120 _ _ ?_
      refine w_condI (p := v109 < (r17.length : Int)) (b := (decide (v109 < (r17.length : Int)))) rfl decide_eq_true_iff (fun h121 => ?_) (fun h121 => ?_)
      · replace hm := hm.1 h121
        refine w_skip ?_
        refine hK119 _ _ ?_
        refine w_seq fun K122 hK122 => ?_
        refine w_block ?_
        refine w_seq fun K123 hK123 => ?_
        refine w_region ?_
        refine wl_val (g_move (v := .slice a18 n19 c20) rfl) rfl ?_
        refine wl_val (g_move (v := .int .i64 v109) rfl) rfl ?_
        obtain ⟨hg124, hm⟩ := hm
        refine wl_val (q_index (i := v109) SL24 rfl rfl (oS.vw hS117.g1) hg124) rfl ?_
        refine wl_val (q_load (i := v109) (v := .int .i64 (r17[(Int.toNat v109)]!)) ON3 (oS.vw hS117.g1) hg124 rfl rfl) rfl ?_
        refine wl_val (g_move (v := .int .i64 v109) rfl) rfl ?_
        obtain ⟨hg125, hm⟩ := hm
        refine wl_val (g_shr (a := r17[(Int.toNat v109)]!) (b := v109) rfl rfl hg125) rfl ?_
        obtain ⟨hg126, hm⟩ := hm
        refine wl_val (g_band (a := (sar (r17[(Int.toNat v109)]!) v109)) (b := 1) rfl rfl hg126) rfl ?_
        refine wl_val (g_eql (a := (band (sar (r17[(Int.toNat v109)]!) v109) 1)) (b := 1) rfl rfl) rfl ?_
        refine wl_nil ?_
        refine hK123 _ _ ?_
        refine w_condI (p := (band (sar (r17[(Int.toNat v109)]!) v109) 1) = 1) (b := (decide ((band (sar (r17[(Int.toNat v109)]!) v109) 1) = 1))) rfl decide_eq_true_iff (fun h127 => ?_) (fun h127 => ?_)
        · replace hm := hm.1 h127
          refine w_region ?_
          refine wl_val (g_move (v := .slice a106 n107 c108) rfl) rfl ?_
          refine wl_val (g_move (v := .int .i64 v109) rfl) rfl ?_
          refine wl_step rfl (q_lit1 (y := (v109 : Int)) SL24 rfl rfl (by decide) hS117) ?_
          rintro _ w128 ⟨a129, rfl, hS131, hE130⟩
          have hB133 := hB116.trans (Ext.stp hE130 hS117.base)
          have hS139 := hS131.f1
          obtain ⟨hg140, hm⟩ := hm
          refine wl_step rfl (q_append SL24 rfl rfl hS139 (oS.vw hS139.g1) hg140 (by decide)) ?_
          rintro _ w134 ⟨a135, c136, rfl, hS138, hb137⟩
          have hB141 := hB133.trans hb137
          refine wl_val (g_assign (v := .slice a135 (n107 + 1) c136) rfl) rfl ?_
          refine wl_nil ?_
          refine hK122 _ _ ?_
          refine w_region ?_
          refine wl_val (g_move (v := .int .i64 v109) rfl) rfl ?_
          obtain ⟨hg142, hm⟩ := hm
          refine wl_val (g_add (a := v109) (b := 1) rfl rfl hg142) rfl ?_
          refine wl_val (g_assign (v := .int .i64 (v109 + 1)) rfl) rfl ?_
          refine wl_nil ?_
          have hS143 := hS138.f1
          have hS144 := hS143.tail
          exact ⟨((x105 ++ ([v109])), a135, (n107 + 1), c136, (v109 + 1)), hm.2, ⟨rfl, rfl, rfl, trivial⟩, ⟨hm.1, hB141, hS144⟩⟩
        · replace hm := hm.2 h127
          refine w_skip ?_
          refine hK122 _ _ ?_
          refine w_region ?_
          refine wl_val (g_move (v := .int .i64 v109) rfl) rfl ?_
          obtain ⟨hg145, hm⟩ := hm
          refine wl_val (g_add (a := v109) (b := 1) rfl rfl hg145) rfl ?_
          refine wl_val (g_assign (v := .int .i64 (v109 + 1)) rfl) rfl ?_
          refine wl_nil ?_
          exact ⟨(x105, a106, n107, c108, (v109 + 1)), hm.2, ⟨rfl, rfl, rfl, trivial⟩, ⟨hm.1, hB116, hS117⟩⟩
      · replace hm := hm.2 h121
        refine w_exit ?_
        have hS146 := hS117.f1
        have hS147 := hS146.tail
        exact ⟨(x105, a106, n107, c108), ⟨rfl, trivial⟩, ⟨hm, hB116, hS147⟩⟩
    · rintro ⟨x99, a100, n101, c102⟩ b_ w148 ⟨hm, hB149, hS150⟩
      show Wp _ _ _ _ (upds b_ [(3, .slice a100 n101 c102)]) w148
      refine w_seq fun K151 hK151 => ?_
      refine w_region ?_
      refine wl_val (g_move (v := .slice a100 n101 c102) rfl) rfl ?_
      refine wl_val (g_assign (v := .slice a100 n101 c102) rfl) rfl ?_
      refine wl_nil ?_
      refine hK151 _ _ ?_
      refine w_ret ?_
      repeat first | with_reducible refine q_then ?_ | with_reducible refine q_block ?_
      exact ret1 rfl (by decide) ⟨_, _, _, _, hm, rfl, toExt hB149, hS150⟩

theorem m_impl_within_fn {w : World}  {Q : Bool → Prop} (p0 : Int) (p1 : Int) (p2 : Int) (hm : m_impl_within p0 p1 p2 Q) :
    Fn Try.prog 65 #[.int .i64 p0, .int .i64 p1, .int .i64 p2] w (fun v w' => ∃ (r0 : Bool), Q r0 ∧ v = .bool r0 ∧ Ext w w') := by
  unfold m_impl_within at hm
  have hB0 := Below.refl w.heap.size w
  have hS0 : Sep w w.heap.size [] := Sep.nil (Nat.le_refl _)
  refine fn_of_wp Try.func65 rfl (by kernel_rfl) (Nat.le_of_ble_eq_true rfl) ?_
  refine w_seq fun K1 hK1 => ?_
  refine w_region ?_
  refine wl_val (g_assign (v := .bool false) rfl) rfl ?_
  refine wl_nil ?_
  refine hK1 _ _ ?_
  refine w_seq fun K2 hK2 => ?_
  refine w_region ?_
  refine wl_val (g_move (v := .int .i64 p0) rfl) rfl ?_
  refine wl_val (g_move (v := .int .i64 p1) rfl) rfl ?_
  refine wl_val (g_geq (a := p0) (b := p1) rfl rfl) rfl ?_
  refine wl_val (g_move (v := .bool (decide (p0 ≥ p1))) rfl) rfl ?_
  refine wl_guard (c := (decide (p0 ≥ p1)) = true) (val := .int .i64 p0) (b := ((decide (p0 ≥ p1)) == true)) (gv_some rfl rfl rfl) beq_iff_eq (fun hc3 => ?_) ?_
  · have hq0 : p0 ≥ p1 := (decide_eq_true_iff.mp hc3)
    exact g_move (v := .int .i64 p0) rfl
  refine wl_guard (c := (decide (p0 ≥ p1)) = true) (val := .int .i64 p2) (b := ((decide (p0 ≥ p1)) == true)) (gv_some rfl rfl rfl) beq_iff_eq (fun hc4 => ?_) ?_
  · have hq0 : p0 ≥ p1 := (decide_eq_true_iff.mp hc4)
    exact g_move (v := .int .i64 p2) rfl
  refine wl_guard (c := (decide (p0 ≥ p1)) = true) (val := .bool (decide (p0 ≤ p2))) (b := ((decide (p0 ≥ p1)) == true)) (gv_some rfl rfl rfl) beq_iff_eq (fun hc5 => ?_) ?_
  · have hq0 : p0 ≥ p1 := (decide_eq_true_iff.mp hc5)
    exact g_leq (a := p0) (b := p2) (if_pos hc5) (if_pos hc5)
  refine wl_val (g_pick_and (b := (decide (p0 ≥ p1))) (q := (decide (p0 ≤ p2))) rfl rfl) rfl ?_
  refine wl_val (g_assign (v := .bool ((decide (p0 ≥ p1)) && (decide (p0 ≤ p2)))) rfl) rfl ?_
  refine wl_nil ?_
  refine hK2 _ _ ?_
  refine w_ret ?_
  repeat first | with_reducible refine q_then ?_ | with_reducible refine q_block ?_
  exact ret1 rfl (by decide) ⟨_, hm, rfl, toExt hB0⟩

theorem m_impl_waits_fn {w : World} {a0 : Option Addr} {n0 c0 : Nat} {y0 : List CueD} {p0 : List CueC} {Q : (List (List Bool)) → Prop} (hp0 : Tv w.heap.size w a0 n0 c0 y0 p0) (hm : m_impl_waits p0 Q) :
    Fn Try.prog 60 #[.slice a0 n0 c0] w (fun v w' => ∃ (r0 : List (List Bool)) (a0 : Option Addr) (n0 c0 : Nat) (y0 : List (Hd Bool)), Q r0 ∧ ers y0 = r0 ∧ v = .slice a0 n0 c0 ∧ Ext w w' ∧ Sep w' w.heap.size [oS 56 a0 n0 c0 y0, oT 4 y0]) := by
  unfold m_impl_waits at hm
  have hB0 := Below.refl w.heap.size w
  have hS0 : Sep w w.heap.size [] := Sep.nil (Nat.le_refl _)
  refine fn_of_wp Try.func60 rfl (by kernel_rfl) (Nat.le_of_ble_eq_true rfl) ?_
  refine w_seq fun K1 hK1 => ?_
  refine w_region ?_
  refine wl_val (g_assign (v := .slice none 0 0) rfl) rfl ?_
  refine wl_nil ?_
  refine hK1 _ _ ?_
  refine w_seq fun K2 hK2 => ?_
  refine w_region ?_
  refine wl_val (g_move (v := .slice a0 n0 c0) rfl) rfl ?_
  refine wl_val (q_len SL26 rfl (Tv.len (hp0.bel hB0))) rfl ?_
  refine wl_val (g_assign (v := .int .i64 (p0.length : Int)) rfl) rfl ?_
  refine wl_nil ?_
  refine hK2 _ _ ?_
  refine w_seq fun K3 hK3 => ?_
  refine w_region ?_
  refine wl_val (g_move (v := .int .i64 (p0.length : Int)) rfl) rfl ?_
  obtain ⟨hg4, hm⟩ := hm
  refine wl_step rfl (q_make (y := ((none, 0, []) : Hd Bool)) SL54 rfl rfl hg4.1 hg4.2 (by decide) hS0) ?_
  rintro _ w5 ⟨a6, rfl, hS8, hE7⟩
  have hB10 := hB0.trans (Ext.stp hE7 hS0.base)
  have hS11 := hS8.nilRows (y := ((none, 0, []) : Hd Bool)) (E := 4) (fun j hj => by first | rfl | (show (if j = 0 then _ else _) = _; split <;> rfl)) (Int.toNat (p0.length : Int))
  have he13 : ers (List.replicate (Int.toNat (p0.length : Int)) ((none, 0, []) : Hd Bool)) = List.replicate (Int.toNat (p0.length : Int)) ([] : List Bool) := by simp only [ers, List.map_replicate]; rfl
  refine wl_val (g_assign (v := .slice a6 (Int.toNat (p0.length : Int)) (Int.toNat (p0.length : Int))) rfl) rfl ?_
  refine wl_nil ?_
  refine hK3 _ _ ?_
  refine w_cut (σ := List (List Bool) × List (Hd Bool)) (fun ⟨x329, y330⟩ => [(3, .int .i64 (p0.length : Int)), (4, .slice a6 (Int.toNat (p0.length : Int)) (Int.toNat (p0.length : Int)))]) (fun ⟨x329, y330⟩ w' => m_impl_waits_K4 p0 Q x329 ∧ ers y330 = x329 ∧ Below w.heap.size w w' ∧ Sep w' w.heap.size [oS 56 a6 (Int.toNat (p0.length : Int)) (Int.toNat (p0.length : Int)) (y330 : List (Hd Bool)), oT 4 (y330 : List (Hd Bool))]) ?_ ?_
  · refine w_seq fun K333 hK333 => ?_
    refine w_region ?_
    refine wl_val (g_move (v := .slice a0 n0 c0) rfl) rfl ?_
    refine wl_val (q_len SL26 rfl (Tv.len (hp0.bel hB10))) rfl ?_
    refine wl_val (g_move (v := .int .i64 0) rfl) rfl ?_
    refine wl_nil ?_
    refine hK333 _ _ ?_
    refine w_block ?_
    have hS338 := hS11.f1
    obtain ⟨I339, μ340, h0341, hr342⟩ := hm
    refine w_for (σ := List (List Bool) × List (Hd Bool) × Int) (fun ⟨x334, y335, v337⟩ => [(3, .int .i64 (p0.length : Int)), (4, .slice a6 (Int.toNat (p0.length : Int)) (Int.toNat (p0.length : Int))), (16, .slice a0 n0 c0), (17, .int .i64 (p0.length : Int)), (18, .int .i64 v337)]) (fun ⟨x334, y335, v337⟩ w' => I339 x334 v337 ∧ ers y335 = x334 ∧ Below w.heap.size w w' ∧ Sep w' w.heap.size [oS 56 a6 (Int.toNat (p0.length : Int)) (Int.toNat (p0.length : Int)) (y335 : List (Hd Bool)), oT 4 (y335 : List (Hd Bool))]) (fun ⟨x334, y335, v337⟩ => μ340 x334 v337) (List.replicate (Int.toNat (p0.length : Int)) ([] : List Bool), List.replicate (Int.toNat (p0.length : Int)) ((none, 0, []) : Hd Bool), 0) ⟨rfl, rfl, rfl, rfl, rfl, trivial⟩ ⟨h0341, he13, hB10, hS338⟩ ?_
    rintro ⟨x334, y335, v337⟩ b_ w343 ⟨hi_, he336, hB344, hS345⟩
    show Wp _ _ _ _ (upds b_ [(3, .int .i64 (p0.length : Int)), (4, .slice a6 (Int.toNat (p0.length : Int)) (Int.toNat (p0.length : Int))), (16, .slice a0 n0 c0), (17, .int .i64 (p0.length : Int)), (18, .int .i64 v337)]) w343
    have hm := hr342 x334 v337 hi_
    refine w_seq fun K347 hK347 => ?_
    refine w_region ?_
    refine wl_val (g_lss (a := v337) (b := (p0.length : Int)) rfl rfl) rfl ?_
    refine wl_nil ?_
    refine hK347 _ _ ?_
    refine w_seq fun K348 hK348 => ?_
    refine w_condI (p := v337 < (p0.length : Int)) (b := (decide (v337 < (p0.length : Int)))) rfl decide_eq_true_iff (fun h349 => ?_) (fun h349 => ?_)
    · replace hm := hm.1 h349
      refine w_skip ?_
      refine hK348 _ _ ?_
      refine w_cut (σ := List (List Bool) × List (Hd Bool)) (fun ⟨x350, y351⟩ => [(3, .int .i64 (p0.length : Int)), (4, .slice a6 (Int.toNat (p0.length : Int)) (Int.toNat (p0.length : Int))), (16, .slice a0 n0 c0), (17, .int .i64 (p0.length : Int)), (18, .int .i64 v337)]) (fun ⟨x350, y351⟩ w' => m_impl_waits_K0 v337 (fun x334' v337' => I339 x334' v337' ∧ μ340 x334' v337' < μ340 x334 v337) x350 ∧ ers y351 = x350 ∧ Below w.heap.size w w' ∧ Sep w' w.heap.size [oS 56 a6 (Int.toNat (p0.length : Int)) (Int.toNat (p0.length : Int)) (y351 : List (Hd Bool)), oT 4 (y351 : List (Hd Bool))]) ?_ ?_
      · refine w_block ?_
        refine w_seq fun K354 hK354 => ?_
        refine w_region ?_
        refine wl_val (g_move (v := .int .i64 v337) rfl) rfl ?_
        obtain ⟨hg355, hm⟩ := hm
        refine wl_val (q_index (i := v337) SL26 rfl rfl (Tv.o (hp0.bel hB344)) (Tv.g (hp0.bel hB344) hg355)) rfl ?_
        refine wl_val (q_loadS (i := v337) (cs := [.int .i64 (p0[(Int.toNat v337)]!.1), .slice ((y0[(Int.toNat v337)]!).2.1.1) ((y0[(Int.toNat v337)]!).2.1.2.2.length) ((y0[(Int.toNat v337)]!).2.1.2.1), .slice ((y0[(Int.toNat v337)]!).2.2.1) ((y0[(Int.toNat v337)]!).2.2.2.2.length) ((y0[(Int.toNat v337)]!).2.2.2.1)]) AG39 (Tv.o (hp0.bel hB344)) (Tv.g (hp0.bel hB344) hg355) (by rw [← Tv.ticks (hp0.bel hB344) hg355]; rfl) rfl) rfl ?_
        refine wl_step rfl (q_alloc (cs := #[.int .i64 0, .slice none 0 0, .slice none 0 0]) ZR39 rfl hS345) ?_
        rintro _ w356 ⟨g357, rfl, hS359, hE358⟩
        have hB361 := hB344.trans (Ext.stp hE358 hS345.base)
        refine wl_val (g_assign (v := .int .i64 v337) rfl) rfl ?_
        refine wl_step rfl (q_storeB (i := 0) (bs' := #[.int .i64 (p0[(Int.toNat v337)]!.1), .slice ((y0[(Int.toNat v337)]!).2.1.1) ((y0[(Int.toNat v337)]!).2.1.2.2.length) ((y0[(Int.toNat v337)]!).2.1.2.1), .slice ((y0[(Int.toNat v337)]!).2.2.1) ((y0[(Int.toNat v337)]!).2.2.2.2.length) ((y0[(Int.toNat v337)]!).2.2.2.1)]) (vs := [.int .i64 (p0[(Int.toNat v337)]!.1), .slice ((y0[(Int.toNat v337)]!).2.1.1) ((y0[(Int.toNat v337)]!).2.1.2.2.length) ((y0[(Int.toNat v337)]!).2.1.2.1), .slice ((y0[(Int.toNat v337)]!).2.2.1) ((y0[(Int.toNat v337)]!).2.2.2.2.length) ((y0[(Int.toNat v337)]!).2.2.2.1)]) hS359 AG39.sz rfl rfl rfl (by simp [Value.oneCell']) (Nat.le_of_ble_eq_true rfl) rfl) ?_
        rintro _ w362 ⟨rfl, hS363, hb364⟩
        have hB365 := hB361.trans hb364
        refine wl_nil ?_
        refine hK354 _ _ ?_
        refine w_seq fun K366 hK366 => ?_
        refine w_region ?_
        refine wl_val (g_move (v := .slice a6 (Int.toNat (p0.length : Int)) (Int.toNat (p0.length : Int))) rfl) rfl ?_
        refine wl_val (g_move (v := .int .i64 v337) rfl) rfl ?_
        refine wl_val (g_move (v := .int .i64 (p0.length : Int)) rfl) rfl ?_
        obtain ⟨hg367, hm⟩ := hm
        refine wl_step rfl (q_make (y := (false : Bool)) SL56 rfl rfl hg367.1 hg367.2 (by decide) hS363) ?_
        rintro _ w368 ⟨a369, rfl, hS371, hE370⟩
        have hB373 := hB365.trans (Ext.stp hE370 hS363.base)
        obtain ⟨hg374, hm⟩ := hm
        refine wl_val (q_index (i := v337) SL54 rfl rfl (Tv.o (oT.vw hS371.g2 hS371.g3 he336)) (Tv.g (oT.vw hS371.g2 hS371.g3 he336) hg374)) rfl ?_
        have hn379 := oS.len hS371.g0
        have hS380 := hS371.oneRow
        have he378 : ers [((a369, (Int.toNat (p0.length : Int)), List.replicate (Int.toNat (p0.length : Int)) (false : Bool)) : Hd Bool)] = [List.replicate (Int.toNat (p0.length : Int)) (false : Bool)] := rfl
        have hS382 := hS380.f3
        have hS383 := hS382.f3
        have hS384 := hS383.f2
        refine wl_step rfl (q_setT (i := v337) hS384 he336 hg374 ON56.sz rfl rfl (hd_cells hn379)) ?_
        rintro _ w375 ⟨rfl, y385, he386, hS376, hb377⟩
        have he387 := he386.trans (congrArg (List.set _ _) (ers_one he378))
        have hB388 := hB373.trans hb377
        refine wl_nil ?_
        refine hK366 _ _ ?_
        refine w_seq fun K389 hK389 => ?_
        refine w_region ?_
        refine wl_val (g_fieldAddr (q := (⟨g357, 0, none⟩ : Addr)) FL39_1 ON24 rfl) rfl ?_
        refine wl_val (q_loadB (i := 1) (bs := #[.int .i64 (p0[(Int.toNat v337)]!.1), .slice ((y0[(Int.toNat v337)]!).2.1.1) ((y0[(Int.toNat v337)]!).2.1.2.2.length) ((y0[(Int.toNat v337)]!).2.1.2.1), .slice ((y0[(Int.toNat v337)]!).2.2.1) ((y0[(Int.toNat v337)]!).2.2.2.2.length) ((y0[(Int.toNat v337)]!).2.2.2.1)]) hS376.g2 ON24 rfl rfl) rfl ?_
        refine wl_val (q_len SL24 rfl (Vw.len (Tv.rowC0 (hp0.bel hB388) hg355))) rfl ?_
        refine wl_val (g_move (v := .int .i64 0) rfl) rfl ?_
        refine wl_nil ?_
        refine hK389 _ _ ?_
        refine w_block ?_
        have hS394 := hS376.f2
        have hS395 := hS394.tail
        obtain ⟨I396, μ397, h0398, hr399⟩ := hm
        refine w_for (σ := List (List Bool) × List (Hd Bool) × Int) (fun ⟨x390, y391, v393⟩ => [(3, .int .i64 (p0.length : Int)), (4, .slice a6 (Int.toNat (p0.length : Int)) (Int.toNat (p0.length : Int))), (5, .int .i64 v337), (16, .slice a0 n0 c0), (17, .int .i64 (p0.length : Int)), (18, .int .i64 v337), (29, .slice ((y0[(Int.toNat v337)]!).2.1.1) ((y0[(Int.toNat v337)]!).2.1.2.2.length) ((y0[(Int.toNat v337)]!).2.1.2.1)), (30, .int .i64 ((p0[(Int.toNat v337)]!.2.1).length : Int)), (31, .int .i64 v393)]) (fun ⟨x390, y391, v393⟩ w' => I396 x390 v393 ∧ ers y391 = x390 ∧ Below w.heap.size w w' ∧ Sep w' w.heap.size [oS 56 a6 (Int.toNat (p0.length : Int)) (Int.toNat (p0.length : Int)) (y391 : List (Hd Bool)), oT 4 (y391 : List (Hd Bool))]) (fun ⟨x390, y391, v393⟩ => μ397 x390 v393) ((x334.set (Int.toNat v337) (List.replicate (Int.toNat (p0.length : Int)) (false : Bool))), y385, 0) ⟨rfl, rfl, rfl, rfl, rfl, rfl, rfl, rfl, rfl, trivial⟩ ⟨h0398, he387, hB388, hS395⟩ ?_
        rintro ⟨x390, y391, v393⟩ b_ w400 ⟨hi_, he392, hB401, hS402⟩
        show Wp _ _ _ _ (upds b_ [(3, .int .i64 (p0.length : Int)), (4, .slice a6 (Int.toNat (p0.length : Int)) (Int.toNat (p0.length : Int))), (5, .int .i64 v337), (16, .slice a0 n0 c0), (17, .int .i64 (p0.length : Int)), (18, .int .i64 v337), (29, .slice ((y0[(Int.toNat v337)]!).2.1.1) ((y0[(Int.toNat v337)]!).2.1.2.2.length) ((y0[(Int.toNat v337)]!).2.1.2.1)), (30, .int .i64 ((p0[(Int.toNat v337)]!.2.1).length : Int)), (31, .int .i64 v393)]) w400
        have hm := hr399 x390 v393 hi_
        refine w_seq fun K404 hK404 => ?_
        refine w_region ?_
        refine wl_val (g_lss (a := v393) (b := ((p0[(Int.toNat v337)]!.2.1).length : Int)) rfl rfl) rfl ?_
        refine wl_nil ?_
        refine hK404 _ _ ?_
        refine w_seq fun K405 hK405 => ?_
        refine w_condI (p := v393 < ((p0[(Int.toNat v337)]!.2.1).length : Int)) (b := (decide (v393 < ((p0[(Int.toNat v337)]!.2.1).length : Int)))) rfl decide_eq_true_iff (fun h406 => ?_) (fun h406 => ?_)
        · replace hm := hm.1 h406
          refine w_skip ?_
          refine hK405 _ _ ?_
          refine w_seq fun K407 hK407 => ?_
          refine w_block ?_
          refine w_seq fun K408 hK408 => ?_
          refine w_region ?_
          obtain ⟨hg409, hm⟩ := hm
          refine wl_val (q_index (i := v393) SL24 rfl rfl (Tv.rowC0 (hp0.bel hB401) hg355) hg409) rfl ?_
          refine wl_val (q_load (i := v393) (v := .int .i64 ((p0[(Int.toNat v337)]!.2.1)[(Int.toNat v393)]!)) ON3 (Tv.rowC0 (hp0.bel hB401) hg355) hg409 rfl rfl) rfl ?_
          refine wl_val (g_assign (v := .int .i64 ((p0[(Int.toNat v337)]!.2.1)[(Int.toNat v393)]!)) rfl) rfl ?_
          refine wl_nil ?_
          refine hK408 _ _ ?_
          refine w_seq fun K410 hK410 => ?_
          refine w_region ?_
          refine wl_val (g_move (v := .int .i64 ((p0[(Int.toNat v337)]!.2.1)[(Int.toNat v393)]!)) rfl) rfl ?_
          refine wl_val (g_move (v := .int .i64 (p0.length : Int)) rfl) rfl ?_
          obtain ⟨hg411, hm⟩ := hm
          refine wl_val (g_sub (a := (p0.length : Int)) (b := 1) rfl rfl hg411) rfl ?_
          refine wl_step rfl (g_call (vs := #[.int .i64 ((p0[(Int.toNat v337)]!.2.1)[(Int.toNat v393)]!), .int .i64 0, .int .i64 ((p0.length : Int) - 1)]) CF65 (args3 rfl rfl rfl) (m_impl_within_fn ((p0[(Int.toNat v337)]!.2.1)[(Int.toNat v393)]!) 0 ((p0.length : Int) - 1) hm)) ?_
          rintro _ w412 ⟨r415, hm, rfl, hE413⟩
          have hB416 := hB401.trans (Ext.stp hE413 hS402.base)
          have hS417 := hS402.ext hE413
          refine wl_nil ?_
          refine hK410 _ _ ?_
          refine w_condI (p := r415 = true) (b := r415) rfl Iff.rfl (fun h418 => ?_) (fun h418 => ?_)
          · replace hm := hm.1 h418
            refine w_region ?_
            refine wl_val (g_move (v := .slice a6 (Int.toNat (p0.length : Int)) (Int.toNat (p0.length : Int))) rfl) rfl ?_
            refine wl_val (g_move (v := .int .i64 v337) rfl) rfl ?_
            obtain ⟨hg419, hm⟩ := hm
            refine wl_val (q_index (i := v337) SL54 rfl rfl (Tv.o (oT.vw hS417.g0 hS417.g1 he392)) (Tv.g (oT.vw hS417.g0 hS417.g1 he392) hg419)) rfl ?_
            refine wl_val (q_load (i := v337) (v := .slice ((y391[(Int.toNat v337)]!).1) ((y391[(Int.toNat v337)]!).2.2.length) ((y391[(Int.toNat v337)]!).2.1)) ON56 (Tv.o (oT.vw hS417.g0 hS417.g1 he392)) (Tv.g (oT.vw hS417.g0 hS417.g1 he392) hg419) rfl rfl) rfl ?_
            refine wl_val (g_move (v := .int .i64 ((p0[(Int.toNat v337)]!.2.1)[(Int.toNat v393)]!)) rfl) rfl ?_
            obtain ⟨hg420, hm⟩ := hm
            refine wl_val (q_index (i := (p0[(Int.toNat v337)]!.2.1)[(Int.toNat v393)]!) SL56 rfl rfl (Tv.row (oT.vw hS417.g0 hS417.g1 he392) hg419) hg420) rfl ?_
            have hS424 := hS417.f1
            have hS425 := hS424.f1
            refine wl_step rfl (q_row (i := v337) (k := (p0[(Int.toNat v337)]!.2.1)[(Int.toNat v393)]!) (v := (true : Bool)) hS425 he392 hg419 hg420 ON4.sz rfl rfl rfl) ?_
            rintro _ w421 ⟨rfl, y426, he427, hS422, hb423⟩
            have hB428 := hB416.trans hb423
            refine wl_nil ?_
            refine hK407 _ _ ?_
            refine w_region ?_
            obtain ⟨hg429, hm⟩ := hm
            refine wl_val (g_add (a := v393) (b := 1) rfl rfl hg429) rfl ?_
            refine wl_val (g_move (v := .int .i64 (v393 + 1)) rfl) rfl ?_
            refine wl_nil ?_
            exact ⟨((x390.set (Int.toNat v337) (x390[(Int.toNat v337)]!.set (Int.toNat ((p0[(Int.toNat v337)]!.2.1)[(Int.toNat v393)]!)) true)), y426, (v393 + 1)), hm.2, ⟨rfl, rfl, rfl, rfl, rfl, rfl, rfl, rfl, rfl, trivial⟩, ⟨hm.1, he427, hB428, hS422⟩⟩
          · replace hm := hm.2 h418
            refine w_skip ?_
            refine hK407 _ _ ?_
            refine w_region ?_
            obtain ⟨hg430, hm⟩ := hm
            refine wl_val (g_add (a := v393) (b := 1) rfl rfl hg430) rfl ?_
            refine wl_val (g_move (v := .int .i64 (v393 + 1)) rfl) rfl ?_
            refine wl_nil ?_
            exact ⟨(x390, y391, (v393 + 1)), hm.2, ⟨rfl, rfl, rfl, rfl, rfl, rfl, rfl, rfl, rfl, trivial⟩, ⟨hm.1, he392, hB416, hS417⟩⟩
        · replace hm := hm.2 h406
          refine w_exit ?_
          exact ⟨(x390, y391), ⟨rfl, rfl, rfl, rfl, rfl, trivial⟩, ⟨hm, he392, hB401, hS402⟩⟩
      · rintro ⟨x350, y351⟩ b_ w431 ⟨hm, he352, hB432, hS433⟩
        show Wp _ _ _ _ (upds b_ [(3, .int .i64 (p0.length : Int)), (4, .slice a6 (Int.toNat (p0.length : Int)) (Int.toNat (p0.length : Int))), (16, .slice a0 n0 c0), (17, .int .i64 (p0.length : Int)), (18, .int .i64 v337)]) w431
        refine w_region ?_
        obtain ⟨hg434, hm⟩ := hm
        refine wl_val (g_add (a := v337) (b := 1) rfl rfl hg434) rfl ?_
        refine wl_val (g_move (v := .int .i64 (v337 + 1)) rfl) rfl ?_
        refine wl_nil ?_
        exact ⟨(x350, y351, (v337 + 1)), hm.2, ⟨rfl, rfl, rfl, rfl, rfl, trivial⟩, ⟨hm.1, he352, hB432, hS433⟩⟩
    · replace hm := hm.2 h349
      refine w_exit ?_
      exact ⟨(x334, y335), ⟨rfl, rfl, trivial⟩, ⟨hm, he336, hB344, hS345⟩⟩
  · rintro ⟨x329, y330⟩ b_ w435 ⟨hm, he331, hB436, hS437⟩
    show Wp _ _ _ _ (upds b_ [(3, .int .i64 (p0.length : Int)), (4, .slice a6 (Int.toNat (p0.length : Int)) (Int.toNat (p0.length : Int)))]) w435
    refine w_cut (σ := List (List Bool) × List (Hd Bool)) (fun ⟨x1700, y1701⟩ => [(4, .slice a6 (Int.toNat (p0.length : Int)) (Int.toNat (p0.length : Int)))]) (fun ⟨x1700, y1701⟩ w' => m_impl_waits_K3 Q x1700 ∧ ers y1701 = x1700 ∧ Below w.heap.size w w' ∧ Sep w' w.heap.size [oS 56 a6 (Int.toNat (p0.length : Int)) (Int.toNat (p0.length : Int)) (y1701 : List (Hd Bool)), oT 4 (y1701 : List (Hd Bool))]) ?_ ?_
    · refine w_seq fun K1704 hK1704 => ?_
      refine w_region ?_
      refine wl_val (g_move (v := .int .i64 (p0.length : Int)) rfl) rfl ?_
      refine wl_val (g_move (v := .int .i64 0) rfl) rfl ?_
      refine wl_nil ?_
      refine hK1704 _ _ ?_
      refine w_block ?_
      obtain ⟨I1709, μ1710, h01711, hr1712⟩ := hm
      refine w_for (σ := List (List Bool) × List (Hd Bool) × Int) (fun ⟨x1705, y1706, v1708⟩ => [(3, .int .i64 (p0.length : Int)), (4, .slice a6 (Int.toNat (p0.length : Int)) (Int.toNat (p0.length : Int))), (47, .int .i64 (p0.length : Int)), (48, .int .i64 v1708)]) (fun ⟨x1705, y1706, v1708⟩ w' => I1709 x1705 v1708 ∧ ers y1706 = x1705 ∧ Below w.heap.size w w' ∧ Sep w' w.heap.size [oS 56 a6 (Int.toNat (p0.length : Int)) (Int.toNat (p0.length : Int)) (y1706 : List (Hd Bool)), oT 4 (y1706 : List (Hd Bool))]) (fun ⟨x1705, y1706, v1708⟩ => μ1710 x1705 v1708) (x329, y330, 0) ⟨rfl, rfl, rfl, rfl, trivial⟩ ⟨h01711, he331, hB436, hS437⟩ ?_
      rintro ⟨x1705, y1706, v1708⟩ b_ w1713 ⟨hi_, he1707, hB1714, hS1715⟩
      show Wp _ _ _ _ (upds b_ [(3, .int .i64 (p0.length : Int)), (4, .slice a6 (Int.toNat (p0.length : Int)) (Int.toNat (p0.length : Int))), (47, .int .i64 (p0.length : Int)), (48, .int .i64 v1708)]) w1713
      have hm := hr1712 x1705 v1708 hi_
      refine w_seq fun K1717 hK1717 => ?_
      refine w_region ?_
      refine wl_val (g_lss (a := v1708) (b := (p0.length : Int)) rfl rfl) rfl ?_
      refine wl_nil ?_
      refine hK1717 _ _ ?_
      refine w_seq fun K1718 hK1718 => ?_
      refine w_condI (p := v1708 < (p0.length : Int)) (b := (decide (v1708 < (p0.length : Int)))) rfl decide_eq_true_iff (fun h1719 => ?_) (fun h1719 => ?_)
      · replace hm := hm.1 h1719
        refine w_skip ?_
        refine hK1718 _ _ ?_
        refine w_cut (σ := List (List Bool) × List (Hd Bool)) (fun ⟨x1720, y1721⟩ => [(3, .int .i64 (p0.length : Int)), (4, .slice a6 (Int.toNat (p0.length : Int)) (Int.toNat (p0.length : Int))), (47, .int .i64 (p0.length : Int)), (48, .int .i64 v1708)]) (fun ⟨x1720, y1721⟩ w' => m_impl_waits_K2 v1708 (fun x1705' v1708' => I1709 x1705' v1708' ∧ μ1710 x1705' v1708' < μ1710 x1705 v1708) x1720 ∧ ers y1721 = x1720 ∧ Below w.heap.size w w' ∧ Sep w' w.heap.size [oS 56 a6 (Int.toNat (p0.length : Int)) (Int.toNat (p0.length : Int)) (y1721 : List (Hd Bool)), oT 4 (y1721 : List (Hd Bool))]) ?_ ?_
        · refine w_block ?_
          refine w_seq fun K1724 hK1724 => ?_
          refine w_region ?_
          refine wl_val (g_move (v := .int .i64 v1708) rfl) rfl ?_
          refine wl_val (g_assign (v := .int .i64 v1708) rfl) rfl ?_
          refine wl_nil ?_
          refine hK1724 _ _ ?_
          refine w_seq fun K1725 hK1725 => ?_
          refine w_region ?_
          refine wl_val (g_move (v := .int .i64 (p0.length : Int)) rfl) rfl ?_
          refine wl_val (g_move (v := .int .i64 0) rfl) rfl ?_
          refine wl_nil ?_
          refine hK1725 _ _ ?_
          refine w_block ?_
          obtain ⟨I1730, μ1731, h01732, hr1733⟩ := hm
          refine w_for (σ := List (List Bool) × List (Hd Bool) × Int) (fun ⟨x1726, y1727, v1729⟩ => [(3, .int .i64 (p0.length : Int)), (4, .slice a6 (Int.toNat (p0.length : Int)) (Int.toNat (p0.length : Int))), (9, .int .i64 v1708), (47, .int .i64 (p0.length : Int)), (48, .int .i64 v1708), (51, .int .i64 (p0.length : Int)), (52, .int .i64 v1729)]) (fun ⟨x1726, y1727, v1729⟩ w' => I1730 x1726 v1729 ∧ ers y1727 = x1726 ∧ Below w.heap.size w w' ∧ Sep w' w.heap.size [oS 56 a6 (Int.toNat (p0.length : Int)) (Int.toNat (p0.length : Int)) (y1727 : List (Hd Bool)), oT 4 (y1727 : List (Hd Bool))]) (fun ⟨x1726, y1727, v1729⟩ => μ1731 x1726 v1729) (x1705, y1706, 0) ⟨rfl, rfl, rfl, rfl, rfl, rfl, rfl, trivial⟩ ⟨h01732, he1707, hB1714, hS1715⟩ ?_
          rintro ⟨x1726, y1727, v1729⟩ b_ w1734 ⟨hi_, he1728, hB1735, hS1736⟩
          show Wp _ _ _ _ (upds b_ [(3, .int .i64 (p0.length : Int)), (4, .slice a6 (Int.toNat (p0.length : Int)) (Int.toNat (p0.length : Int))), (9, .int .i64 v1708), (47, .int .i64 (p0.length : Int)), (48, .int .i64 v1708), (51, .int .i64 (p0.length : Int)), (52, .int .i64 v1729)]) w1734
          have hm := hr1733 x1726 v1729 hi_
          refine w_seq fun K1738 hK1738 => ?_
          refine w_region ?_
          refine wl_val (g_lss (a := v1729) (b := (p0.length : Int)) rfl rfl) rfl ?_
          refine wl_nil ?_
          refine hK1738 _ _ ?_
          refine w_seq fun K1739 hK1739 => ?_
          refine w_condI (p := v1729 < (p0.length : Int)) (b := (decide (v1729 < (p0.length : Int)))) rfl decide_eq_true_iff (fun h1740 => ?_) (fun h1740 => ?_)
          · replace hm := hm.1 h1740
            refine w_skip ?_
            refine hK1739 _ _ ?_
            refine w_cut (σ := List (List Bool) × List (Hd Bool)) (fun ⟨x1741, y1742⟩ => [(3, .int .i64 (p0.length : Int)), (4, .slice a6 (Int.toNat (p0.length : Int)) (Int.toNat (p0.length : Int))), (9, .int .i64 v1708), (47, .int .i64 (p0.length : Int)), (48, .int .i64 v1708), (51, .int .i64 (p0.length : Int)), (52, .int .i64 v1729)]) (fun ⟨x1741, y1742⟩ w' => m_impl_waits_K1 v1729 (fun x1726' v1729' => I1730 x1726' v1729' ∧ μ1731 x1726' v1729' < μ1731 x1726 v1729) x1741 ∧ ers y1742 = x1741 ∧ Below w.heap.size w w' ∧ Sep w' w.heap.size [oS 56 a6 (Int.toNat (p0.length : Int)) (Int.toNat (p0.length : Int)) (y1742 : List (Hd Bool)), oT 4 (y1742 : List (Hd Bool))]) ?_ ?_
            · refine w_block ?_
              refine w_seq fun K1745 hK1745 => ?_
              refine w_region ?_
              refine wl_val (g_move (v := .int .i64 v1729) rfl) rfl ?_
              refine wl_val (g_assign (v := .int .i64 v1729) rfl) rfl ?_
              refine wl_nil ?_
              refine hK1745 _ _ ?_
              refine w_seq fun K1746 hK1746 => ?_
              refine w_region ?_
              refine wl_val (g_move (v := .int .i64 (p0.length : Int)) rfl) rfl ?_
              refine wl_val (g_move (v := .int .i64 0) rfl) rfl ?_
              refine wl_nil ?_
              refine hK1746 _ _ ?_
              refine w_block ?_
              obtain ⟨I1751, μ1752, h01753, hr1754⟩ := hm
              refine w_for (σ := List (List Bool) × List (Hd Bool) × Int) (fun ⟨x1747, y1748, v1750⟩ => [(3, .int .i64 (p0.length : Int)), (4, .slice a6 (Int.toNat (p0.length : Int)) (Int.toNat (p0.length : Int))), (9, .int .i64 v1708), (10, .int .i64 v1729), (47, .int .i64 (p0.length : Int)), (48, .int .i64 v1708), (51, .int .i64 (p0.length : Int)), (52, .int .i64 v1729), (55, .int .i64 (p0.length : Int)), (56, .int .i64 v1750)]) (fun ⟨x1747, y1748, v1750⟩ w' => I1751 x1747 v1750 ∧ ers y1748 = x1747 ∧ Below w.heap.size w w' ∧ Sep w' w.heap.size [oS 56 a6 (Int.toNat (p0.length : Int)) (Int.toNat (p0.length : Int)) (y1748 : List (Hd Bool)), oT 4 (y1748 : List (Hd Bool))]) (fun ⟨x1747, y1748, v1750⟩ => μ1752 x1747 v1750) (x1726, y1727, 0) ⟨rfl, rfl, rfl, rfl, rfl, rfl, rfl, rfl, rfl, rfl, trivial⟩ ⟨h01753, he1728, hB1735, hS1736⟩ ?_
              rintro ⟨x1747, y1748, v1750⟩ b_ w1755 ⟨hi_, he1749, hB1756, hS1757⟩
              show Wp _ _ _ _ (upds b_ [(3, .int .i64 (p0.length : Int)), (4, .slice a6 (Int.toNat (p0.length : Int)) (Int.toNat (p0.length : Int))), (9, .int .i64 v1708), (10, .int .i64 v1729), (47, .int .i64 (p0.length : Int)), (48, .int .i64 v1708), (51, .int .i64 (p0.length : Int)), (52, .int .i64 v1729), (55, .int .i64 (p0.length : Int)), (56, .int .i64 v1750)]) w1755
              have hm := hr1754 x1747 v1750 hi_
              refine w_seq fun K1759 hK1759 => ?_
              refine w_region ?_
              refine wl_val (g_lss (a := v1750) (b := (p0.length : Int)) rfl rfl) rfl ?_
              refine wl_nil ?_
              refine hK1759 _ _ ?_
              refine w_seq fun K1760 hK1760 => ?_
              refine w_condI (p := v1750 < (p0.length : Int)) (b := (decide (v1750 < (p0.length : Int)))) rfl decide_eq_true_iff (fun h1761 => ?_) (fun h1761 => ?_)
              · replace hm := hm.1 h1761
                refine w_skip ?_
                refine hK1760 _ _ ?_
                refine w_seq fun K1762 hK1762 => ?_
                refine w_block ?_
                refine w_seq fun K1763 hK1763 => ?_
                refine w_region ?_
                refine wl_val (g_move (v := .int .i64 v1750) rfl) rfl ?_
                refine wl_val (g_assign (v := .int .i64 v1750) rfl) rfl ?_
                refine wl_nil ?_
                refine hK1763 _ _ ?_
                refine w_draw (X := Ext) (Y := Ext) [0, 0, 0, 0, 0, 0, 0, 0, 0, 0, 0, 0, 0, 0, 0, 0, 0, 0, 0, 0, 0, 0, 0, 0, 0, 0, 0, 0, 0, 0, 0, 1] MIX (by decide +kernel) rfl Ext.refl (fun _ _ _ => Ext.trans) (fun _ _ _ => Chg.trans) (fun _ _ h => Ext.chg h _) (fun w1764 hE1765 => ?_)
                have hB1766 := hB1756.trans (Ext.stp hE1765 hS1757.base)
                have hS1767 := hS1757.ext hE1765
                refine ⟨.slice a6 (Int.toNat (p0.length : Int)) (Int.toNat (p0.length : Int)), fun w1768 hX1769 => od_plain rfl (by have hS1770 := hS1767.ext hX1769; have hB1771 := hB1766.trans (Ext.stp hX1769 hS1767.base); exact is_ext (g_move (v := .slice a6 (Int.toNat (p0.length : Int)) (Int.toNat (p0.length : Int))) rfl)), ?_⟩
                refine ⟨.int .i64 v1729, fun w1772 hX1773 => od_plain rfl (by have hS1774 := hS1767.ext hX1773; have hB1775 := hB1766.trans (Ext.stp hX1773 hS1767.base); exact is_ext (g_move (v := .int .i64 v1729) rfl)), ?_⟩
                obtain ⟨hg1780, hm⟩ := hm
                refine ⟨.pointer (some ((adr a6).add ((Int.toNat v1729) * El.m (Hd Bool)))), fun w1776 hX1777 => od_plain rfl (by have hS1778 := hS1767.ext hX1777; have hB1779 := hB1766.trans (Ext.stp hX1777 hS1767.base); exact is_ext (q_index (i := v1729) SL54 rfl rfl (Tv.o (oT.vw hS1778.g0 hS1778.g1 he1749)) (Tv.g (oT.vw hS1778.g0 hS1778.g1 he1749) hg1780))), ?_⟩
                refine ⟨.slice ((y1748[(Int.toNat v1729)]!).1) ((y1748[(Int.toNat v1729)]!).2.2.length) ((y1748[(Int.toNat v1729)]!).2.1), fun w1781 hX1782 => od_plain rfl (by have hS1783 := hS1767.ext hX1782; have hB1784 := hB1766.trans (Ext.stp hX1782 hS1767.base); exact is_ext (q_load (i := v1729) (v := .slice ((y1748[(Int.toNat v1729)]!).1) ((y1748[(Int.toNat v1729)]!).2.2.length) ((y1748[(Int.toNat v1729)]!).2.1)) ON56 (Tv.o (oT.vw hS1783.g0 hS1783.g1 he1749)) (Tv.g (oT.vw hS1783.g0 hS1783.g1 he1749) hg1780) rfl rfl)), ?_⟩
                refine ⟨.int .i64 v1750, fun w1785 hX1786 => od_plain rfl (by have hS1787 := hS1767.ext hX1786; have hB1788 := hB1766.trans (Ext.stp hX1786 hS1767.base); exact is_ext (g_move (v := .int .i64 v1750) rfl)), ?_⟩
                refine ⟨.slice a6 (Int.toNat (p0.length : Int)) (Int.toNat (p0.length : Int)), fun w1789 hX1790 => od_plain rfl (by have hS1791 := hS1767.ext hX1790; have hB1792 := hB1766.trans (Ext.stp hX1790 hS1767.base); exact is_ext (g_move (v := .slice a6 (Int.toNat (p0.length : Int)) (Int.toNat (p0.length : Int))) rfl)), ?_⟩
                refine ⟨.int .i64 v1729, fun w1793 hX1794 => od_plain rfl (by have hS1795 := hS1767.ext hX1794; have hB1796 := hB1766.trans (Ext.stp hX1794 hS1767.base); exact is_ext (g_move (v := .int .i64 v1729) rfl)), ?_⟩
                obtain ⟨hg1801, hm⟩ := hm
                refine ⟨.pointer (some ((adr a6).add ((Int.toNat v1729) * El.m (Hd Bool)))), fun w1797 hX1798 => od_plain rfl (by have hS1799 := hS1767.ext hX1798; have hB1800 := hB1766.trans (Ext.stp hX1798 hS1767.base); exact is_ext (q_index (i := v1729) SL54 rfl rfl (Tv.o (oT.vw hS1799.g0 hS1799.g1 he1749)) (Tv.g (oT.vw hS1799.g0 hS1799.g1 he1749) hg1801))), ?_⟩
                refine ⟨.slice ((y1748[(Int.toNat v1729)]!).1) ((y1748[(Int.toNat v1729)]!).2.2.length) ((y1748[(Int.toNat v1729)]!).2.1), fun w1802 hX1803 => od_plain rfl (by have hS1804 := hS1767.ext hX1803; have hB1805 := hB1766.trans (Ext.stp hX1803 hS1767.base); exact is_ext (q_load (i := v1729) (v := .slice ((y1748[(Int.toNat v1729)]!).1) ((y1748[(Int.toNat v1729)]!).2.2.length) ((y1748[(Int.toNat v1729)]!).2.1)) ON56 (Tv.o (oT.vw hS1804.g0 hS1804.g1 he1749)) (Tv.g (oT.vw hS1804.g0 hS1804.g1 he1749) hg1801) rfl rfl)), ?_⟩
                refine ⟨.int .i64 v1750, fun w1806 hX1807 => od_plain rfl (by have hS1808 := hS1767.ext hX1807; have hB1809 := hB1766.trans (Ext.stp hX1807 hS1767.base); exact is_ext (g_move (v := .int .i64 v1750) rfl)), ?_⟩
                obtain ⟨hg1814, hm⟩ := hm
                refine ⟨.pointer (some ((adr ((y1748[(Int.toNat v1729)]!).1)).add ((Int.toNat v1750) * El.m Bool))), fun w1810 hX1811 => od_plain rfl (by have hS1812 := hS1767.ext hX1811; have hB1813 := hB1766.trans (Ext.stp hX1811 hS1767.base); exact is_ext (q_index (i := v1750) SL56 rfl rfl (Tv.row (oT.vw hS1812.g0 hS1812.g1 he1749) hg1801) hg1814)), ?_⟩
                refine ⟨.bool ((x1747[(Int.toNat v1729)]!)[(Int.toNat v1750)]!), fun w1815 hX1816 => od_plain rfl (by have hS1817 := hS1767.ext hX1816; have hB1818 := hB1766.trans (Ext.stp hX1816 hS1767.base); exact is_ext (q_load (i := v1750) (v := .bool ((x1747[(Int.toNat v1729)]!)[(Int.toNat v1750)]!)) ON4 (Tv.row (oT.vw hS1817.g0 hS1817.g1 he1749) hg1801) hg1814 rfl rfl)), ?_⟩
                refine ⟨.bool ((x1747[(Int.toNat v1729)]!)[(Int.toNat v1750)]!), fun w1819 hX1820 => od_plain rfl (by have hS1821 := hS1767.ext hX1820; have hB1822 := hB1766.trans (Ext.stp hX1820 hS1767.base); exact is_ext (g_move (v := .bool ((x1747[(Int.toNat v1729)]!)[(Int.toNat v1750)]!)) rfl)), ?_⟩
                refine ⟨if ((x1747[(Int.toNat v1729)]!)[(Int.toNat v1750)]!) = false then .slice a6 (Int.toNat (p0.length : Int)) (Int.toNat (p0.length : Int)) else undef, fun w1823 hX1824 => od_guard (c := ((x1747[(Int.toNat v1729)]!)[(Int.toNat v1750)]!) = false) (val := .slice a6 (Int.toNat (p0.length : Int)) (Int.toNat (p0.length : Int))) (b := (((x1747[(Int.toNat v1729)]!)[(Int.toNat v1750)]!) == false)) (gv_some rfl rfl rfl) beq_iff_eq (fun hc1827 => ?_), ?_⟩
                · have hS1825 := hS1767.ext hX1824
                  have hB1826 := hB1766.trans (Ext.stp hX1824 hS1767.base)
                  have hq12 : ¬ (((x1747[(Int.toNat v1729)]!)[(Int.toNat v1750)]!) = true) := (i_neg Iff.rfl hc1827)
                  exact is_ext (g_move (v := .slice a6 (Int.toNat (p0.length : Int)) (Int.toNat (p0.length : Int))) rfl)
                refine ⟨if ((x1747[(Int.toNat v1729)]!)[(Int.toNat v1750)]!) = false then .int .i64 v1729 else undef, fun w1828 hX1829 => od_guard (c := ((x1747[(Int.toNat v1729)]!)[(Int.toNat v1750)]!) = false) (val := .int .i64 v1729) (b := (((x1747[(Int.toNat v1729)]!)[(Int.toNat v1750)]!) == false)) (gv_some rfl rfl rfl) beq_iff_eq (fun hc1832 => ?_), ?_⟩
                · have hS1830 := hS1767.ext hX1829
                  have hB1831 := hB1766.trans (Ext.stp hX1829 hS1767.base)
                  have hq12 : ¬ (((x1747[(Int.toNat v1729)]!)[(Int.toNat v1750)]!) = true) := (i_neg Iff.rfl hc1832)
                  exact is_ext (g_move (v := .int .i64 v1729) rfl)
                obtain ⟨hg1838, hm⟩ := hm
                refine ⟨if ((x1747[(Int.toNat v1729)]!)[(Int.toNat v1750)]!) = false then .pointer (some ((adr a6).add ((Int.toNat v1729) * El.m (Hd Bool)))) else undef, fun w1833 hX1834 => od_guard (c := ((x1747[(Int.toNat v1729)]!)[(Int.toNat v1750)]!) = false) (val := .pointer (some ((adr a6).add ((Int.toNat v1729) * El.m (Hd Bool))))) (b := (((x1747[(Int.toNat v1729)]!)[(Int.toNat v1750)]!) == false)) (gv_some rfl rfl rfl) beq_iff_eq (fun hc1837 => ?_), ?_⟩
                · have hS1835 := hS1767.ext hX1834
                  have hB1836 := hB1766.trans (Ext.stp hX1834 hS1767.base)
                  have hq12 : ¬ (((x1747[(Int.toNat v1729)]!)[(Int.toNat v1750)]!) = true) := (i_neg Iff.rfl hc1837)
                  exact is_ext (q_index (i := v1729) SL54 (if_pos hc1837) (if_pos hc1837) (Tv.o (oT.vw hS1835.g0 hS1835.g1 he1749)) (Tv.g (oT.vw hS1835.g0 hS1835.g1 he1749) (hg1838 hq12)))
                refine ⟨if ((x1747[(Int.toNat v1729)]!)[(Int.toNat v1750)]!) = false then .slice ((y1748[(Int.toNat v1729)]!).1) ((y1748[(Int.toNat v1729)]!).2.2.length) ((y1748[(Int.toNat v1729)]!).2.1) else undef, fun w1839 hX1840 => od_guard (c := ((x1747[(Int.toNat v1729)]!)[(Int.toNat v1750)]!) = false) (val := .slice ((y1748[(Int.toNat v1729)]!).1) ((y1748[(Int.toNat v1729)]!).2.2.length) ((y1748[(Int.toNat v1729)]!).2.1)) (b := (((x1747[(Int.toNat v1729)]!)[(Int.toNat v1750)]!) == false)) (gv_some rfl rfl rfl) beq_iff_eq (fun hc1843 => ?_), ?_⟩
                · have hS1841 := hS1767.ext hX1840
                  have hB1842 := hB1766.trans (Ext.stp hX1840 hS1767.base)
                  have hq12 : ¬ (((x1747[(Int.toNat v1729)]!)[(Int.toNat v1750)]!) = true) := (i_neg Iff.rfl hc1843)
                  exact is_ext (q_load (i := v1729) (v := .slice ((y1748[(Int.toNat v1729)]!).1) ((y1748[(Int.toNat v1729)]!).2.2.length) ((y1748[(Int.toNat v1729)]!).2.1)) ON56 (Tv.o (oT.vw hS1841.g0 hS1841.g1 he1749)) (Tv.g (oT.vw hS1841.g0 hS1841.g1 he1749) (hg1838 hq12)) rfl (if_pos hc1843))
                refine ⟨if ((x1747[(Int.toNat v1729)]!)[(Int.toNat v1750)]!) = false then .int .i64 v1708 else undef, fun w1844 hX1845 => od_guard (c := ((x1747[(Int.toNat v1729)]!)[(Int.toNat v1750)]!) = false) (val := .int .i64 v1708) (b := (((x1747[(Int.toNat v1729)]!)[(Int.toNat v1750)]!) == false)) (gv_some rfl rfl rfl) beq_iff_eq (fun hc1848 => ?_), ?_⟩
                · have hS1846 := hS1767.ext hX1845
                  have hB1847 := hB1766.trans (Ext.stp hX1845 hS1767.base)
                  have hq12 : ¬ (((x1747[(Int.toNat v1729)]!)[(Int.toNat v1750)]!) = true) := (i_neg Iff.rfl hc1848)
                  exact is_ext (g_move (v := .int .i64 v1708) rfl)
                obtain ⟨hg1854, hm⟩ := hm
                refine ⟨if ((x1747[(Int.toNat v1729)]!)[(Int.toNat v1750)]!) = false then .pointer (some ((adr ((y1748[(Int.toNat v1729)]!).1)).add ((Int.toNat v1708) * El.m Bool))) else undef, fun w1849 hX1850 => od_guard (c := ((x1747[(Int.toNat v1729)]!)[(Int.toNat v1750)]!) = false) (val := .pointer (some ((adr ((y1748[(Int.toNat v1729)]!).1)).add ((Int.toNat v1708) * El.m Bool)))) (b := (((x1747[(Int.toNat v1729)]!)[(Int.toNat v1750)]!) == false)) (gv_some rfl rfl rfl) beq_iff_eq (fun hc1853 => ?_), ?_⟩
                · have hS1851 := hS1767.ext hX1850
                  have hB1852 := hB1766.trans (Ext.stp hX1850 hS1767.base)
                  have hq12 : ¬ (((x1747[(Int.toNat v1729)]!)[(Int.toNat v1750)]!) = true) := (i_neg Iff.rfl hc1853)
                  exact is_ext (q_index (i := v1708) SL56 (if_pos hc1853) (if_pos hc1853) (Tv.row (oT.vw hS1851.g0 hS1851.g1 he1749) (hg1838 hq12)) (hg1854 hq12))
                refine ⟨if ((x1747[(Int.toNat v1729)]!)[(Int.toNat v1750)]!) = false then .bool ((x1747[(Int.toNat v1729)]!)[(Int.toNat v1708)]!) else undef, fun w1855 hX1856 => od_guard (c := ((x1747[(Int.toNat v1729)]!)[(Int.toNat v1750)]!) = false) (val := .bool ((x1747[(Int.toNat v1729)]!)[(Int.toNat v1708)]!)) (b := (((x1747[(Int.toNat v1729)]!)[(Int.toNat v1750)]!) == false)) (gv_some rfl rfl rfl) beq_iff_eq (fun hc1859 => ?_), ?_⟩
                · have hS1857 := hS1767.ext hX1856
                  have hB1858 := hB1766.trans (Ext.stp hX1856 hS1767.base)
                  have hq12 : ¬ (((x1747[(Int.toNat v1729)]!)[(Int.toNat v1750)]!) = true) := (i_neg Iff.rfl hc1859)
                  exact is_ext (q_load (i := v1708) (v := .bool ((x1747[(Int.toNat v1729)]!)[(Int.toNat v1708)]!)) ON4 (Tv.row (oT.vw hS1857.g0 hS1857.g1 he1749) (hg1838 hq12)) (hg1854 hq12) rfl (if_pos hc1859))
                refine ⟨if ((x1747[(Int.toNat v1729)]!)[(Int.toNat v1750)]!) = false then .bool ((x1747[(Int.toNat v1729)]!)[(Int.toNat v1708)]!) else undef, fun w1860 hX1861 => od_guard (c := ((x1747[(Int.toNat v1729)]!)[(Int.toNat v1750)]!) = false) (val := .bool ((x1747[(Int.toNat v1729)]!)[(Int.toNat v1708)]!)) (b := (((x1747[(Int.toNat v1729)]!)[(Int.toNat v1750)]!) == false)) (gv_some rfl rfl rfl) beq_iff_eq (fun hc1864 => ?_), ?_⟩
                · have hS1862 := hS1767.ext hX1861
                  have hB1863 := hB1766.trans (Ext.stp hX1861 hS1767.base)
                  have hq12 : ¬ (((x1747[(Int.toNat v1729)]!)[(Int.toNat v1750)]!) = true) := (i_neg Iff.rfl hc1864)
                  exact is_ext (g_move (v := .bool ((x1747[(Int.toNat v1729)]!)[(Int.toNat v1708)]!)) (if_pos hc1864))
                refine ⟨if (((x1747[(Int.toNat v1729)]!)[(Int.toNat v1750)]!) = false) ∧ ((x1747[(Int.toNat v1729)]!)[(Int.toNat v1708)]!) = true then .slice a6 (Int.toNat (p0.length : Int)) (Int.toNat (p0.length : Int)) else undef, fun w1865 hX1866 => od_guard (c := (((x1747[(Int.toNat v1729)]!)[(Int.toNat v1750)]!) = false) ∧ ((x1747[(Int.toNat v1729)]!)[(Int.toNat v1708)]!) = true) (val := .slice a6 (Int.toNat (p0.length : Int)) (Int.toNat (p0.length : Int))) (b := decide ((((x1747[(Int.toNat v1729)]!)[(Int.toNat v1750)]!) = false) ∧ ((x1747[(Int.toNat v1729)]!)[(Int.toNat v1708)]!) = true)) (gv_gd rfl rfl rfl) decide_eq_true_iff (fun hc1869 => ?_), ?_⟩
                · have hS1867 := hS1767.ext hX1866
                  have hB1868 := hB1766.trans (Ext.stp hX1866 hS1767.base)
                  have hq13 : (¬ (((x1747[(Int.toNat v1729)]!)[(Int.toNat v1750)]!) = true)) ∧ (((x1747[(Int.toNat v1729)]!)[(Int.toNat v1708)]!) = true) := ⟨(i_neg Iff.rfl (hc1869).1), Iff.rfl.mp (hc1869).2⟩
                  have hq12 := (hq13).1
                  exact is_ext (g_move (v := .slice a6 (Int.toNat (p0.length : Int)) (Int.toNat (p0.length : Int))) rfl)
                refine ⟨if (((x1747[(Int.toNat v1729)]!)[(Int.toNat v1750)]!) = false) ∧ ((x1747[(Int.toNat v1729)]!)[(Int.toNat v1708)]!) = true then .int .i64 v1708 else undef, fun w1870 hX1871 => od_guard (c := (((x1747[(Int.toNat v1729)]!)[(Int.toNat v1750)]!) = false) ∧ ((x1747[(Int.toNat v1729)]!)[(Int.toNat v1708)]!) = true) (val := .int .i64 v1708) (b := decide ((((x1747[(Int.toNat v1729)]!)[(Int.toNat v1750)]!) = false) ∧ ((x1747[(Int.toNat v1729)]!)[(Int.toNat v1708)]!) = true)) (gv_gd rfl rfl rfl) decide_eq_true_iff (fun hc1874 => ?_), ?_⟩
                · have hS1872 := hS1767.ext hX1871
                  have hB1873 := hB1766.trans (Ext.stp hX1871 hS1767.base)
                  have hq13 : (¬ (((x1747[(Int.toNat v1729)]!)[(Int.toNat v1750)]!) = true)) ∧ (((x1747[(Int.toNat v1729)]!)[(Int.toNat v1708)]!) = true) := ⟨(i_neg Iff.rfl (hc1874).1), Iff.rfl.mp (hc1874).2⟩
                  have hq12 := (hq13).1
                  exact is_ext (g_move (v := .int .i64 v1708) rfl)
                obtain ⟨hg1880, hm⟩ := hm
                refine ⟨if (((x1747[(Int.toNat v1729)]!)[(Int.toNat v1750)]!) = false) ∧ ((x1747[(Int.toNat v1729)]!)[(Int.toNat v1708)]!) = true then .pointer (some ((adr a6).add ((Int.toNat v1708) * El.m (Hd Bool)))) else undef, fun w1875 hX1876 => od_guard (c := (((x1747[(Int.toNat v1729)]!)[(Int.toNat v1750)]!) = false) ∧ ((x1747[(Int.toNat v1729)]!)[(Int.toNat v1708)]!) = true) (val := .pointer (some ((adr a6).add ((Int.toNat v1708) * El.m (Hd Bool))))) (b := decide ((((x1747[(Int.toNat v1729)]!)[(Int.toNat v1750)]!) = false) ∧ ((x1747[(Int.toNat v1729)]!)[(Int.toNat v1708)]!) = true)) (gv_gd rfl rfl rfl) decide_eq_true_iff (fun hc1879 => ?_), ?_⟩
                · have hS1877 := hS1767.ext hX1876
                  have hB1878 := hB1766.trans (Ext.stp hX1876 hS1767.base)
                  have hq13 : (¬ (((x1747[(Int.toNat v1729)]!)[(Int.toNat v1750)]!) = true)) ∧ (((x1747[(Int.toNat v1729)]!)[(Int.toNat v1708)]!) = true) := ⟨(i_neg Iff.rfl (hc1879).1), Iff.rfl.mp (hc1879).2⟩
                  have hq12 := (hq13).1
                  exact is_ext (q_index (i := v1708) SL54 (if_pos hc1879) (if_pos hc1879) (Tv.o (oT.vw hS1877.g0 hS1877.g1 he1749)) (Tv.g (oT.vw hS1877.g0 hS1877.g1 he1749) (hg1880 hq13)))
                refine ⟨if (((x1747[(Int.toNat v1729)]!)[(Int.toNat v1750)]!) = false) ∧ ((x1747[(Int.toNat v1729)]!)[(Int.toNat v1708)]!) = true then .slice ((y1748[(Int.toNat v1708)]!).1) ((y1748[(Int.toNat v1708)]!).2.2.length) ((y1748[(Int.toNat v1708)]!).2.1) else undef, fun w1881 hX1882 => od_guard (c := (((x1747[(Int.toNat v1729)]!)[(Int.toNat v1750)]!) = false) ∧ ((x1747[(Int.toNat v1729)]!)[(Int.toNat v1708)]!) = true) (val := .slice ((y1748[(Int.toNat v1708)]!).1) ((y1748[(Int.toNat v1708)]!).2.2.length) ((y1748[(Int.toNat v1708)]!).2.1)) (b := decide ((((x1747[(Int.toNat v1729)]!)[(Int.toNat v1750)]!) = false) ∧ ((x1747[(Int.toNat v1729)]!)[(Int.toNat v1708)]!) = true)) (gv_gd rfl rfl rfl) decide_eq_true_iff (fun hc1885 => ?_), ?_⟩
                · have hS1883 := hS1767.ext hX1882
                  have hB1884 := hB1766.trans (Ext.stp hX1882 hS1767.base)
                  have hq13 : (¬ (((x1747[(Int.toNat v1729)]!)[(Int.toNat v1750)]!) = true)) ∧ (((x1747[(Int.toNat v1729)]!)[(Int.toNat v1708)]!) = true) := ⟨(i_neg Iff.rfl (hc1885).1), Iff.rfl.mp (hc1885).2⟩
                  have hq12 := (hq13).1
                  exact is_ext (q_load (i := v1708) (v := .slice ((y1748[(Int.toNat v1708)]!).1) ((y1748[(Int.toNat v1708)]!).2.2.length) ((y1748[(Int.toNat v1708)]!).2.1)) ON56 (Tv.o (oT.vw hS1883.g0 hS1883.g1 he1749)) (Tv.g (oT.vw hS1883.g0 hS1883.g1 he1749) (hg1880 hq13)) rfl (if_pos hc1885))
                refine ⟨if (((x1747[(Int.toNat v1729)]!)[(Int.toNat v1750)]!) = false) ∧ ((x1747[(Int.toNat v1729)]!)[(Int.toNat v1708)]!) = true then .int .i64 v1750 else undef, fun w1886 hX1887 => od_guard (c := (((x1747[(Int.toNat v1729)]!)[(Int.toNat v1750)]!) = false) ∧ ((x1747[(Int.toNat v1729)]!)[(Int.toNat v1708)]!) = true) (val := .int .i64 v1750) (b := decide ((((x1747[(Int.toNat v1729)]!)[(Int.toNat v1750)]!) = false) ∧ ((x1747[(Int.toNat v1729)]!)[(Int.toNat v1708)]!) = true)) (gv_gd rfl rfl rfl) decide_eq_true_iff (fun hc1890 => ?_), ?_⟩
                · have hS1888 := hS1767.ext hX1887
                  have hB1889 := hB1766.trans (Ext.stp hX1887 hS1767.base)
                  have hq13 : (¬ (((x1747[(Int.toNat v1729)]!)[(Int.toNat v1750)]!) = true)) ∧ (((x1747[(Int.toNat v1729)]!)[(Int.toNat v1708)]!) = true) := ⟨(i_neg Iff.rfl (hc1890).1), Iff.rfl.mp (hc1890).2⟩
                  have hq12 := (hq13).1
                  exact is_ext (g_move (v := .int .i64 v1750) rfl)
                obtain ⟨hg1896, hm⟩ := hm
                refine ⟨if (((x1747[(Int.toNat v1729)]!)[(Int.toNat v1750)]!) = false) ∧ ((x1747[(Int.toNat v1729)]!)[(Int.toNat v1708)]!) = true then .pointer (some ((adr ((y1748[(Int.toNat v1708)]!).1)).add ((Int.toNat v1750) * El.m Bool))) else undef, fun w1891 hX1892 => od_guard (c := (((x1747[(Int.toNat v1729)]!)[(Int.toNat v1750)]!) = false) ∧ ((x1747[(Int.toNat v1729)]!)[(Int.toNat v1708)]!) = true) (val := .pointer (some ((adr ((y1748[(Int.toNat v1708)]!).1)).add ((Int.toNat v1750) * El.m Bool)))) (b := decide ((((x1747[(Int.toNat v1729)]!)[(Int.toNat v1750)]!) = false) ∧ ((x1747[(Int.toNat v1729)]!)[(Int.toNat v1708)]!) = true)) (gv_gd rfl rfl rfl) decide_eq_true_iff (fun hc1895 => ?_), ?_⟩
                · have hS1893 := hS1767.ext hX1892
                  have hB1894 := hB1766.trans (Ext.stp hX1892 hS1767.base)
                  have hq13 : (¬ (((x1747[(Int.toNat v1729)]!)[(Int.toNat v1750)]!) = true)) ∧ (((x1747[(Int.toNat v1729)]!)[(Int.toNat v1708)]!) = true) := ⟨(i_neg Iff.rfl (hc1895).1), Iff.rfl.mp (hc1895).2⟩
                  have hq12 := (hq13).1
                  exact is_ext (q_index (i := v1750) SL56 (if_pos hc1895) (if_pos hc1895) (Tv.row (oT.vw hS1893.g0 hS1893.g1 he1749) (hg1880 hq13)) (hg1896 hq13))
                refine ⟨if (((x1747[(Int.toNat v1729)]!)[(Int.toNat v1750)]!) = false) ∧ ((x1747[(Int.toNat v1729)]!)[(Int.toNat v1708)]!) = true then .bool ((x1747[(Int.toNat v1708)]!)[(Int.toNat v1750)]!) else undef, fun w1897 hX1898 => od_guard (c := (((x1747[(Int.toNat v1729)]!)[(Int.toNat v1750)]!) = false) ∧ ((x1747[(Int.toNat v1729)]!)[(Int.toNat v1708)]!) = true) (val := .bool ((x1747[(Int.toNat v1708)]!)[(Int.toNat v1750)]!)) (b := decide ((((x1747[(Int.toNat v1729)]!)[(Int.toNat v1750)]!) = false) ∧ ((x1747[(Int.toNat v1729)]!)[(Int.toNat v1708)]!) = true)) (gv_gd rfl rfl rfl) decide_eq_true_iff (fun hc1901 => ?_), ?_⟩
                · have hS1899 := hS1767.ext hX1898
                  have hB1900 := hB1766.trans (Ext.stp hX1898 hS1767.base)
                  have hq13 : (¬ (((x1747[(Int.toNat v1729)]!)[(Int.toNat v1750)]!) = true)) ∧ (((x1747[(Int.toNat v1729)]!)[(Int.toNat v1708)]!) = true) := ⟨(i_neg Iff.rfl (hc1901).1), Iff.rfl.mp (hc1901).2⟩
                  have hq12 := (hq13).1
                  exact is_ext (q_load (i := v1750) (v := .bool ((x1747[(Int.toNat v1708)]!)[(Int.toNat v1750)]!)) ON4 (Tv.row (oT.vw hS1899.g0 hS1899.g1 he1749) (hg1880 hq13)) (hg1896 hq13) rfl (if_pos hc1901))
                refine ⟨if ((x1747[(Int.toNat v1729)]!)[(Int.toNat v1750)]!) = false then .bool (((x1747[(Int.toNat v1729)]!)[(Int.toNat v1708)]!) && ((x1747[(Int.toNat v1708)]!)[(Int.toNat v1750)]!)) else undef, fun w1902 hX1903 => od_guard (c := ((x1747[(Int.toNat v1729)]!)[(Int.toNat v1750)]!) = false) (val := .bool (((x1747[(Int.toNat v1729)]!)[(Int.toNat v1708)]!) && ((x1747[(Int.toNat v1708)]!)[(Int.toNat v1750)]!))) (b := (((x1747[(Int.toNat v1729)]!)[(Int.toNat v1750)]!) == false)) (gv_some rfl rfl rfl) beq_iff_eq (fun hc1906 => ?_), ?_⟩
                · have hS1904 := hS1767.ext hX1903
                  have hB1905 := hB1766.trans (Ext.stp hX1903 hS1767.base)
                  have hq12 : ¬ (((x1747[(Int.toNat v1729)]!)[(Int.toNat v1750)]!) = true) := (i_neg Iff.rfl hc1906)
                  exact is_ext (g_pick_and (b := ((x1747[(Int.toNat v1729)]!)[(Int.toNat v1708)]!)) (q := ((x1747[(Int.toNat v1708)]!)[(Int.toNat v1750)]!)) (if_pos hc1906) (gd_in hc1906))
                refine ⟨.bool (((x1747[(Int.toNat v1729)]!)[(Int.toNat v1750)]!) || (((x1747[(Int.toNat v1729)]!)[(Int.toNat v1708)]!) && ((x1747[(Int.toNat v1708)]!)[(Int.toNat v1750)]!))), fun w1907 hX1908 => od_plain rfl (by have hS1909 := hS1767.ext hX1908; have hB1910 := hB1766.trans (Ext.stp hX1908 hS1767.base); exact is_ext (g_pick_or (b := ((x1747[(Int.toNat v1729)]!)[(Int.toNat v1750)]!)) (q := (((x1747[(Int.toNat v1729)]!)[(Int.toNat v1708)]!) && ((x1747[(Int.toNat v1708)]!)[(Int.toNat v1750)]!))) rfl rfl)), ?_⟩
                obtain ⟨hg1915, hm⟩ := hm
                refine ⟨.pointer (some ((adr ((y1748[(Int.toNat v1729)]!).1)).add ((Int.toNat v1750) * El.m Bool))), fun w1911 hX1912 => od_plain rfl (by have hS1913 := hS1767.ext hX1912; have hB1914 := hB1766.trans (Ext.stp hX1912 hS1767.base); exact is_ext (q_index (i := v1750) SL56 rfl rfl (Tv.row (oT.vw hS1913.g0 hS1913.g1 he1749) hg1780) hg1915)), ?_⟩
                intro w1916 hX1917
                have hB1918 := hB1766.trans (Ext.stp hX1917 hS1767.base)
                have hS1919 := hS1767.ext hX1917
                have hS1923 := hS1919.f1
                have hS1924 := hS1923.f1
                refine ⟨_, od_plain rfl (q_row (i := v1729) (k := v1750) (v := ((((x1747[(Int.toNat v1729)]!)[(Int.toNat v1750)]!) || (((x1747[(Int.toNat v1729)]!)[(Int.toNat v1708)]!) && ((x1747[(Int.toNat v1708)]!)[(Int.toNat v1750)]!))) : Bool)) hS1924 he1749 hg1780 hg1915 ON4.sz rfl rfl rfl), ?_⟩
                rintro _ w1920 ⟨rfl, y1925, he1926, hS1921, hb1922⟩
                have hB1927 := hB1918.trans hb1922
                intro w1928 hX1929
                have hB1930 := hB1927.trans (Ext.stp hX1929 hS1921.base)
                have hS1931 := hS1921.ext hX1929
                refine hK1762 _ _ ?_
                refine w_region ?_
                obtain ⟨hg1932, hm⟩ := hm
                refine wl_val (g_add (a := v1750) (b := 1) rfl rfl hg1932) rfl ?_
                refine wl_val (g_move (v := .int .i64 (v1750 + 1)) rfl) rfl ?_
                refine wl_nil ?_
                exact ⟨((x1747.set (Int.toNat v1729) (x1747[(Int.toNat v1729)]!.set (Int.toNat v1750) (((x1747[(Int.toNat v1729)]!)[(Int.toNat v1750)]!) || (((x1747[(Int.toNat v1729)]!)[(Int.toNat v1708)]!) && ((x1747[(Int.toNat v1708)]!)[(Int.toNat v1750)]!))))), y1925, (v1750 + 1)), hm.2, ⟨rfl, rfl, rfl, rfl, rfl, rfl, rfl, rfl, rfl, rfl, trivial⟩, ⟨hm.1, he1926, hB1930, hS1931⟩⟩
              · replace hm := hm.2 h1761
                refine w_exit ?_
                exact ⟨(x1747, y1748), ⟨rfl, rfl, rfl, rfl, rfl, rfl, rfl, trivial⟩, ⟨hm, he1749, hB1756, hS1757⟩⟩
            · rintro ⟨x1741, y1742⟩ b_ w1933 ⟨hm, he1743, hB1934, hS1935⟩
              show Wp _ _ _ _ (upds b_ [(3, .int .i64 (p0.length : Int)), (4, .slice a6 (Int.toNat (p0.length : Int)) (Int.toNat (p0.length : Int))), (9, .int .i64 v1708), (47, .int .i64 (p0.length : Int)), (48, .int .i64 v1708), (51, .int .i64 (p0.length : Int)), (52, .int .i64 v1729)]) w1933
              refine w_region ?_
              obtain ⟨hg1936, hm⟩ := hm
              refine wl_val (g_add (a := v1729) (b := 1) rfl rfl hg1936) rfl ?_
              refine wl_val (g_move (v := .int .i64 (v1729 + 1)) rfl) rfl ?_
              refine wl_nil ?_
              exact ⟨(x1741, y1742, (v1729 + 1)), hm.2, ⟨rfl, rfl, rfl, rfl, rfl, rfl, rfl, trivial⟩, ⟨hm.1, he1743, hB1934, hS1935⟩⟩
          · replace hm := hm.2 h1740
            refine w_exit ?_
            exact ⟨(x1726, y1727), ⟨rfl, rfl, rfl, rfl, trivial⟩, ⟨hm, he1728, hB1735, hS1736⟩⟩
        · rintro ⟨x1720, y1721⟩ b_ w1937 ⟨hm, he1722, hB1938, hS1939⟩
          show Wp _ _ _ _ (upds b_ [(3, .int .i64 (p0.length : Int)), (4, .slice a6 (Int.toNat (p0.length : Int)) (Int.toNat (p0.length : Int))), (47, .int .i64 (p0.length : Int)), (48, .int .i64 v1708)]) w1937
          refine w_region ?_
          obtain ⟨hg1940, hm⟩ := hm
          refine wl_val (g_add (a := v1708) (b := 1) rfl rfl hg1940) rfl ?_
          refine wl_val (g_move (v := .int .i64 (v1708 + 1)) rfl) rfl ?_
          refine wl_nil ?_
          exact ⟨(x1720, y1721, (v1708 + 1)), hm.2, ⟨rfl, rfl, rfl, rfl, trivial⟩, ⟨hm.1, he1722, hB1938, hS1939⟩⟩
      · replace hm := hm.2 h1719
        refine w_exit ?_
        exact ⟨(x1705, y1706), ⟨rfl, trivial⟩, ⟨hm, he1707, hB1714, hS1715⟩⟩
    · rintro ⟨x1700, y1701⟩ b_ w1941 ⟨hm, he1702, hB1942, hS1943⟩
      show Wp _ _ _ _ (upds b_ [(4, .slice a6 (Int.toNat (p0.length : Int)) (Int.toNat (p0.length : Int)))]) w1941
      refine w_seq fun K1944 hK1944 => ?_
      refine w_region ?_
      refine wl_val (g_move (v := .slice a6 (Int.toNat (p0.length : Int)) (Int.toNat (p0.length : Int))) rfl) rfl ?_
      refine wl_val (g_assign (v := .slice a6 (Int.toNat (p0.length : Int)) (Int.toNat (p0.length : Int))) rfl) rfl ?_
      refine wl_nil ?_
      refine hK1944 _ _ ?_
      refine w_ret ?_
      repeat first | with_reducible refine q_then ?_ | with_reducible refine q_block ?_
      exact ret1 rfl (by decide) ⟨_, _, _, _, _, hm, he1702, rfl, toExt hB1942, hS1943⟩

theorem m_impl_CircleIn_fn {w : World} {a0 : Option Addr} {n0 c0 : Nat} {y0 : List CueD} {p0 : List CueC} {Q : (List Int) → Prop} (hp0 : Tv w.heap.size w a0 n0 c0 y0 p0) (hm : m_impl_CircleIn p0 Q) :
    Fn Try.prog 20 #[.slice a0 n0 c0] w (fun v w' => ∃ (r0 : List Int) (a0 : Option Addr) (n0 c0 : Nat), Q r0 ∧ v = .slice a0 n0 c0 ∧ Ext w w' ∧ Sep w' w.heap.size [oS 3 a0 n0 c0 r0]) := by
  unfold m_impl_CircleIn at hm
  have hB0 := Below.refl w.heap.size w
  have hS0 : Sep w w.heap.size [] := Sep.nil (Nat.le_refl _)
  refine fn_of_wp Try.func20 rfl (by kernel_rfl) (Nat.le_of_ble_eq_true rfl) ?_
  refine w_seq fun K1 hK1 => ?_
  refine w_region ?_
  refine wl_val (g_assign (v := .slice none 0 0) rfl) rfl ?_
  refine wl_nil ?_
  refine hK1 _ _ ?_
  refine w_seq fun K2 hK2 => ?_
  refine w_seq fun K3 hK3 => ?_
  refine w_region ?_
  refine wl_val (g_move (v := .slice a0 n0 c0) rfl) rfl ?_
  refine wl_val (q_len SL26 rfl (Tv.len (hp0.bel hB0))) rfl ?_
  refine wl_val (g_gtr (a := (p0.length : Int)) (b := 12) rfl rfl) rfl ?_
  refine wl_nil ?_
  refine hK3 _ _ ?_
  refine w_condI (p := (p0.length : Int) > 12) (b := (decide ((p0.length : Int) > 12))) rfl decide_eq_true_iff (fun h4 => ?_) (fun h4 => ?_)
  · replace hm := hm.1 h4
    refine w_seq fun K5 hK5 => ?_
    refine w_region ?_
    refine wl_val (g_assign (v := .slice none 0 0) rfl) rfl ?_
    refine wl_nil ?_
    refine hK5 _ _ ?_
    refine w_ret ?_
    have hS6 := hS0.nilS (α := Int) (E := 3)
    repeat first | with_reducible refine q_then ?_ | with_reducible refine q_block ?_
    exact ret1 rfl (by decide) ⟨_, _, _, _, hm, rfl, toExt hB0, hS6⟩
  · replace hm := hm.2 h4
    refine w_skip ?_
    refine hK2 _ _ ?_
    refine w_seq fun K8 hK8 => ?_
    refine w_region ?_
    refine wl_val (g_move (v := .slice a0 n0 c0) rfl) rfl ?_
    refine wl_step rfl (g_call (vs := #[.slice a0 n0 c0]) CF60 (args1 rfl) (m_impl_waits_fn ((hp0.bel hB0).up hS0) hm)) ?_
    rintro _ w9 ⟨r12, a13, n14, c15, y16, hm, he17, rfl, hE10, hN11⟩
    have hS21 := hS0.call2 hE10 hN11
    have hB22 := hB0.trans (Ext.stp hE10 hS0.base)
    refine wl_step rfl (q_lit0 (α := Int) rfl SL24 hS21) ?_
    rintro _ w23 ⟨a24, rfl, hS26, hE25⟩
    have hB28 := hB22.trans (Ext.stp hE25 hS21.base)
    refine wl_val (g_assign (v := .slice a13 n14 c15) rfl) rfl ?_
    refine wl_val (g_assign (v := .slice a24 0 0) rfl) rfl ?_
    refine wl_nil ?_
    refine hK8 _ _ ?_
    refine w_cut (σ := List Int × Option Addr × Nat × Nat) (fun ⟨x109, a110, n111, c112⟩ => [(4, .slice a110 n111 c112)]) (fun ⟨x109, a110, n111, c112⟩ w' => m_impl_CircleIn_K0 Q x109 ∧ Below w.heap.size w w' ∧ Sep w' w.heap.size [oS 3 a110 n111 c112 (x109 : List Int)]) ?_ ?_
    · refine w_seq fun K114 hK114 => ?_
      refine w_region ?_
      refine wl_val (g_move (v := .slice a0 n0 c0) rfl) rfl ?_
      refine wl_val (q_len SL26 rfl (Tv.len (hp0.bel hB28))) rfl ?_
      refine wl_val (g_move (v := .int .i64 0) rfl) rfl ?_
      refine wl_nil ?_
      refine hK114 _ _ ?_
      refine w_block ?_
      have hS120 := hS26.f2
      have hS121 := hS120.f2
      obtain ⟨I122, μ123, h0124, hr125⟩ := hm
      refine w_for (σ := List Int × Option Addr × Nat × Nat × Int) (fun ⟨x115, a116, n117, c118, v119⟩ => [(3, .slice a13 n14 c15), (4, .slice a116 n117 c118), (13, .int .i64 (p0.length : Int)), (14, .int .i64 v119)]) (fun ⟨x115, a116, n117, c118, v119⟩ w' => I122 x115 v119 ∧ Below w.heap.size w w' ∧ Sep w' w.heap.size [oS 56 a13 n14 c15 (y16 : List (Hd Bool)), oT 4 (y16 : List (Hd Bool)), oS 3 a116 n117 c118 (x115 : List Int)]) (fun ⟨x115, a116, n117, c118, v119⟩ => μ123 x115 v119) ([], a24, 0, 0, 0) ⟨rfl, rfl, rfl, rfl, trivial⟩ ⟨h0124, hB28, hS121⟩ ?_
      rintro ⟨x115, a116, n117, c118, v119⟩ b_ w126 ⟨hi_, hB127, hS128⟩
      show Wp _ _ _ _ (upds b_ [(3, .slice a13 n14 c15), (4, .slice a116 n117 c118), (13, .int .i64 (p0.length : Int)), (14, .int .i64 v119)]) w126
      have hm := hr125 x115 v119 hi_
      refine w_seq fun K130 hK130 => ?_
      refine w_region ?_
      refine wl_val (g_lss (a := v119) (b := (p0.length : Int)) rfl rfl) rfl ?_
      refine wl_nil ?_
      refine hK130 _ _ ?_
      refine w_seq fun K131 hK131 => ?_
      refine w_condI (p := v119 < (p0.length : Int)) (b := (decide (v119 < (p0.length : Int)))) rfl decide_eq_true_iff (fun h132 => ?_) (fun h132 => ?_)
      · replace hm := hm.1 h132
        refine w_skip ?_
        refine hK131 _ _ ?_
        refine w_seq fun K133 hK133 => ?_
        refine w_block ?_
        refine w_seq fun K134 hK134 => ?_
        refine w_region ?_
        refine wl_val (g_move (v := .int .i64 v119) rfl) rfl ?_
        refine wl_val (g_assign (v := .int .i64 v119) rfl) rfl ?_
        refine wl_nil ?_
        refine hK134 _ _ ?_
        refine w_seq fun K135 hK135 => ?_
        refine w_region ?_
        refine wl_val (g_move (v := .slice a13 n14 c15) rfl) rfl ?_
        refine wl_val (g_move (v := .int .i64 v119) rfl) rfl ?_
        obtain ⟨hg136, hm⟩ := hm
        refine wl_val (q_index (i := v119) SL54 rfl rfl (Tv.o (oT.vw hS128.g0 hS128.g1 he17)) (Tv.g (oT.vw hS128.g0 hS128.g1 he17) hg136)) rfl ?_
        refine wl_val (q_load (i := v119) (v := .slice ((y16[(Int.toNat v119)]!).1) ((y16[(Int.toNat v119)]!).2.2.length) ((y16[(Int.toNat v119)]!).2.1)) ON56 (Tv.o (oT.vw hS128.g0 hS128.g1 he17)) (Tv.g (oT.vw hS128.g0 hS128.g1 he17) hg136) rfl rfl) rfl ?_
        refine wl_val (g_move (v := .int .i64 v119) rfl) rfl ?_
        obtain ⟨hg137, hm⟩ := hm
        refine wl_val (q_index (i := v119) SL56 rfl rfl (Tv.row (oT.vw hS128.g0 hS128.g1 he17) hg136) hg137) rfl ?_
        refine wl_val (q_load (i := v119) (v := .bool ((r12[(Int.toNat v119)]!)[(Int.toNat v119)]!)) ON4 (Tv.row (oT.vw hS128.g0 hS128.g1 he17) hg136) hg137 rfl rfl) rfl ?_
        refine wl_nil ?_
        refine hK135 _ _ ?_
        refine w_condI (p := ((r12[(Int.toNat v119)]!)[(Int.toNat v119)]!) = true) (b := ((r12[(Int.toNat v119)]!)[(Int.toNat v119)]!)) rfl Iff.rfl (fun h138 => ?_) (fun h138 => ?_)
        · replace hm := hm.1 h138
          refine w_region ?_
          refine wl_val (g_move (v := .slice a116 n117 c118) rfl) rfl ?_
          refine wl_val (g_move (v := .int .i64 v119) rfl) rfl ?_
          refine wl_step rfl (q_lit1 (y := (v119 : Int)) SL24 rfl rfl (by decide) hS128) ?_
          rintro _ w139 ⟨a140, rfl, hS142, hE141⟩
          have hB144 := hB127.trans (Ext.stp hE141 hS128.base)
          have hS150 := hS142.f3
          obtain ⟨hg151, hm⟩ := hm
          refine wl_step rfl (q_append SL24 rfl rfl hS150 (oS.vw hS150.g1) hg151 (by decide)) ?_
          rintro _ w145 ⟨a146, c147, rfl, hS149, hb148⟩
          have hB152 := hB144.trans hb148
          refine wl_val (g_assign (v := .slice a146 (n117 + 1) c147) rfl) rfl ?_
          refine wl_nil ?_
          refine hK133 _ _ ?_
          refine w_region ?_
          obtain ⟨hg153, hm⟩ := hm
          refine wl_val (g_add (a := v119) (b := 1) rfl rfl hg153) rfl ?_
          refine wl_val (g_move (v := .int .i64 (v119 + 1)) rfl) rfl ?_
          refine wl_nil ?_
          have hS154 := hS149.f1
          have hS155 := hS154.tail
          have hS156 := hS155.f2
          have hS157 := hS156.f2
          exact ⟨((x115 ++ ([v119])), a146, (n117 + 1), c147, (v119 + 1)), hm.2, ⟨rfl, rfl, rfl, rfl, trivial⟩, ⟨hm.1, hB152, hS157⟩⟩
        · replace hm := hm.2 h138
          refine w_skip ?_
          refine hK133 _ _ ?_
          refine w_region ?_
          obtain ⟨hg158, hm⟩ := hm
          refine wl_val (g_add (a := v119) (b := 1) rfl rfl hg158) rfl ?_
          refine wl_val (g_move (v := .int .i64 (v119 + 1)) rfl) rfl ?_
          refine wl_nil ?_
          exact ⟨(x115, a116, n117, c118, (v119 + 1)), hm.2, ⟨rfl, rfl, rfl, rfl, trivial⟩, ⟨hm.1, hB127, hS128⟩⟩
      · replace hm := hm.2 h132
        refine w_exit ?_
        have hS159 := hS128.tail
        have hS160 := hS159.tail
        exact ⟨(x115, a116, n117, c118), ⟨rfl, trivial⟩, ⟨hm, hB127, hS160⟩⟩
    · rintro ⟨x109, a110, n111, c112⟩ b_ w161 ⟨hm, hB162, hS163⟩
      show Wp _ _ _ _ (upds b_ [(4, .slice a110 n111 c112)]) w161
      refine w_seq fun K164 hK164 => ?_
      refine w_region ?_
      refine wl_val (g_move (v := .slice a110 n111 c112) rfl) rfl ?_
      refine wl_val (g_assign (v := .slice a110 n111 c112) rfl) rfl ?_
      refine wl_nil ?_
      refine hK164 _ _ ?_
      refine w_ret ?_
      repeat first | with_reducible refine q_then ?_ | with_reducible refine q_block ?_
      exact ret1 rfl (by decide) ⟨_, _, _, _, hm, rfl, toExt hB162, hS163⟩

theorem m_laws_eqIntS_fn {w : World} {a0 : Option Addr} {n0 c0 : Nat} {p0 : List Int} {a1 : Option Addr} {n1 c1 : Nat} {p1 : List Int} {Q : Bool → Prop} (hp0 : Vw w.heap.size w a0 n0 c0 p0) (hp1 : Vw w.heap.size w a1 n1 c1 p1) (hm : m_laws_eqIntS p0 p1 Q) :
    Fn Try.prog 21 #[.slice a0 n0 c0, .slice a1 n1 c1] w (fun v w' => ∃ (r0 : Bool), Q r0 ∧ v = .bool r0 ∧ Ext w w') := by
  unfold m_laws_eqIntS at hm
  have hB0 := Below.refl w.heap.size w
  have hS0 : Sep w w.heap.size [] := Sep.nil (Nat.le_refl _)
  refine fn_of_wp Try.func21 rfl (by kernel_rfl) (Nat.le_of_ble_eq_true rfl) ?_
  refine w_seq fun K1 hK1 => ?_
  refine w_region ?_
  refine wl_val (g_assign (v := .bool false) rfl) rfl ?_
  refine wl_nil ?_
  refine hK1 _ _ ?_
  refine w_seq fun K2 hK2 => ?_
  refine w_seq fun K3 hK3 => ?_
  refine w_region ?_
  refine wl_val (g_move (v := .slice a0 n0 c0) rfl) rfl ?_
  refine wl_val (q_len SL24 rfl (Vw.len (hp0.bel hB0))) rfl ?_
  refine wl_val (g_move (v := .slice a1 n1 c1) rfl) rfl ?_
  refine wl_val (q_len SL24 rfl (Vw.len (hp1.bel hB0))) rfl ?_
  refine wl_val (g_neq (a := (p0.length : Int)) (b := (p1.length : Int)) rfl rfl) rfl ?_
  refine wl_nil ?_
  refine hK3 _ _ ?_
  refine w_condI (p := (p0.length : Int) ≠ (p1.length : Int)) (b := (decide ((p0.length : Int) ≠ (p1.length : Int)))) rfl decide_eq_true_iff (fun h4 => ?_) (fun h4 => ?_)
  · replace hm := hm.1 h4
    refine w_seq fun K5 hK5 => ?_
    refine w_region ?_
    refine wl_val (g_assign (v := .bool false) rfl) rfl ?_
    refine wl_nil ?_
    refine hK5 _ _ ?_
    refine w_ret ?_
    repeat first | with_reducible refine q_then ?_ | with_reducible refine q_block ?_
    exact ret1 rfl (by decide) ⟨_, hm, rfl, toExt hB0⟩
  · replace hm := hm.2 h4
    refine w_skip ?_
    refine hK2 _ _ ?_
    refine w_cut (σ := Unit) (fun _ => []) (fun _ w' => m_laws_eqIntS_K0 Q ∧ Below w.heap.size w w' ∧ Sep w' w.heap.size []) ?_ ?_
    · refine w_seq fun K7 hK7 => ?_
      refine w_region ?_
      refine wl_val (g_assign (v := .int .i64 0) rfl) rfl ?_
      refine wl_nil ?_
      refine hK7 _ _ ?_
      refine w_block ?_
      obtain ⟨I71, μ72, h073, hr74⟩ := hm
      refine w_for (σ := Int) (fun v70 => [(0, .slice a0 n0 c0), (1, .slice a1 n1 c1), (5, .int .i64 v70)]) (fun v70 w' => I71 v70 ∧ Below w.heap.size w w' ∧ Sep w' w.heap.size []) (fun v70 => μ72 v70) (0) ⟨rfl, rfl, rfl, trivial⟩ ⟨h073, hB0, hS0⟩ ?_
      rintro v70 b_ w75 ⟨hi_, hB76, hS77⟩
      show Wp _ _ _ _ (upds b_ [(0, .slice a0 n0 c0), (1, .slice a1 n1 c1), (5, .int .i64 v70)]) w75
      have hm := hr74 v70 hi_
      refine w_seq fun K79 hK79 => ?_
      refine w_seq fun K80 hK80 => ?_
      refine w_region ?_
      refine wl_val (g_move (v := .int .i64 v70) rfl) rfl ?_
      refine wl_val (g_move (v := .slice a0 n0 c0) rfl) rfl ?_
      refine wl_val (q_len SL24 rfl (Vw.len (hp0.bel hB76))) rfl ?_
      refine wl_val (g_lss (a := v70) (b := (p0.length : Int)) rfl rfl) rfl ?_
      refine wl_nil ?_
      refine hK80 _ _ ?_
      refine w_condI (p := v70 < (p0.length : Int)) (b := (decide (v70 < (p0.length : Int)))) rfl decide_eq_true_iff (fun h81 => ?_) (fun h81 => ?_)
      · replace hm := hm.1 h81
        refine w_skip ?_
        refine hK79 _ _ ?_
        refine w_seq fun K82 hK82 => ?_
        refine w_block ?_
        refine w_seq fun K83 hK83 => ?_
        refine w_draw (X := Ext) (Y := Ext) [] MIX (by decide +kernel) rfl Ext.refl (fun _ _ _ => Ext.trans) (fun _ _ _ => Chg.trans) (fun _ _ h => Ext.chg h _) (fun w84 hE85 => ?_)
        have hB86 := hB76.trans (Ext.stp hE85 hS77.base)
        have hS87 := hS77.ext hE85
        refine ⟨.slice a0 n0 c0, fun w88 hX89 => od_plain rfl (by have hS90 := hS87.ext hX89; have hB91 := hB86.trans (Ext.stp hX89 hS87.base); exact is_ext (g_move (v := .slice a0 n0 c0) rfl)), ?_⟩
        refine ⟨.int .i64 v70, fun w92 hX93 => od_plain rfl (by have hS94 := hS87.ext hX93; have hB95 := hB86.trans (Ext.stp hX93 hS87.base); exact is_ext (g_move (v := .int .i64 v70) rfl)), ?_⟩
        obtain ⟨hg100, hm⟩ := hm
        refine ⟨.pointer (some ((adr a0).add ((Int.toNat v70) * El.m Int))), fun w96 hX97 => od_plain rfl (by have hS98 := hS87.ext hX97; have hB99 := hB86.trans (Ext.stp hX97 hS87.base); exact is_ext (q_index (i := v70) SL24 rfl rfl (hp0.bel hB99) hg100)), ?_⟩
        refine ⟨.int .i64 (p0[(Int.toNat v70)]!), fun w101 hX102 => od_plain rfl (by have hS103 := hS87.ext hX102; have hB104 := hB86.trans (Ext.stp hX102 hS87.base); exact is_ext (q_load (i := v70) (v := .int .i64 (p0[(Int.toNat v70)]!)) ON3 (hp0.bel hB104) hg100 rfl rfl)), ?_⟩
        refine ⟨.slice a1 n1 c1, fun w105 hX106 => od_plain rfl (by have hS107 := hS87.ext hX106; have hB108 := hB86.trans (Ext.stp hX106 hS87.base); exact is_ext (g_move (v := .slice a1 n1 c1) rfl)), ?_⟩
        refine ⟨.int .i64 v70, fun w109 hX110 => od_plain rfl (by have hS111 := hS87.ext hX110; have hB112 := hB86.trans (Ext.stp hX110 hS87.base); exact is_ext (g_move (v := .int .i64 v70) rfl)), ?_⟩
        obtain ⟨hg117, hm⟩ := hm
        refine ⟨.pointer (some ((adr a1).add ((Int.toNat v70) * El.m Int))), fun w113 hX114 => od_plain rfl (by have hS115 := hS87.ext hX114; have hB116 := hB86.trans (Ext.stp hX114 hS87.base); exact is_ext (q_index (i := v70) SL24 rfl rfl (hp1.bel hB116) hg117)), ?_⟩
        refine ⟨.int .i64 (p1[(Int.toNat v70)]!), fun w118 hX119 => od_plain rfl (by have hS120 := hS87.ext hX119; have hB121 := hB86.trans (Ext.stp hX119 hS87.base); exact is_ext (q_load (i := v70) (v := .int .i64 (p1[(Int.toNat v70)]!)) ON3 (hp1.bel hB121) hg117 rfl rfl)), ?_⟩
        refine ⟨.bool (decide (p0[(Int.toNat v70)]! ≠ p1[(Int.toNat v70)]!)), fun w122 hX123 => od_plain rfl (by have hS124 := hS87.ext hX123; have hB125 := hB86.trans (Ext.stp hX123 hS87.base); exact is_ext (g_neq (a := p0[(Int.toNat v70)]!) (b := p1[(Int.toNat v70)]!) rfl rfl)), ?_⟩
        intro w126 hX127
        have hB128 := hB86.trans (Ext.stp hX127 hS87.base)
        have hS129 := hS87.ext hX127
        refine hK83 _ _ ?_
        refine w_condI (p := p0[(Int.toNat v70)]! ≠ p1[(Int.toNat v70)]!) (b := (decide (p0[(Int.toNat v70)]! ≠ p1[(Int.toNat v70)]!))) rfl decide_eq_true_iff (fun h130 => ?_) (fun h130 => ?_)
        · replace hm := hm.1 h130
          refine w_seq fun K131 hK131 => ?_
          refine w_region ?_
          refine wl_val (g_assign (v := .bool false) rfl) rfl ?_
          refine wl_nil ?_
          refine hK131 _ _ ?_
          refine w_ret ?_
          repeat first | with_reducible refine q_then ?_ | with_reducible refine q_block ?_
          exact ret1 rfl (by decide) ⟨_, hm, rfl, toExt hB128⟩
        · replace hm := hm.2 h130
          refine w_skip ?_
          refine hK82 _ _ ?_
          refine w_region ?_
          refine wl_val (g_move (v := .int .i64 v70) rfl) rfl ?_
          obtain ⟨hg132, hm⟩ := hm
          refine wl_val (g_add (a := v70) (b := 1) rfl rfl hg132) rfl ?_
          refine wl_val (g_assign (v := .int .i64 (v70 + 1)) rfl) rfl ?_
          refine wl_nil ?_
          exact ⟨((v70 + 1)), hm.2, ⟨rfl, rfl, rfl, trivial⟩, ⟨hm.1, hB128, hS129⟩⟩
      · replace hm := hm.2 h81
        refine w_exit ?_
        exact ⟨(), trivial, ⟨hm, hB76, hS77⟩⟩
    · rintro _ b_ w133 ⟨hm, hB134, hS135⟩
      show Wp _ _ _ _ (upds b_ []) w133
      refine w_seq fun K136 hK136 => ?_
      refine w_region ?_
      refine wl_val (g_assign (v := .bool true) rfl) rfl ?_
      refine wl_nil ?_
      refine hK136 _ _ ?_
      refine w_ret ?_
      repeat first | with_reducible refine q_then ?_ | with_reducible refine q_block ?_
      exact ret1 rfl (by decide) ⟨_, hm, rfl, toExt hB134⟩

theorem m_laws_eqCue_fn {w : World} {a0_1 : Option Addr} {n0_1 c0_1 : Nat} {a0_2 : Option Addr} {n0_2 c0_2 : Nat} {a1_1 : Option Addr} {n1_1 c1_1 : Nat} {a1_2 : Option Addr} {n1_2 c1_2 : Nat} {Q : Bool → Prop} (p0 : CueC) (hp0_1 : Vw w.heap.size w a0_1 n0_1 c0_1 p0.2.1) (hp0_2 : Vw w.heap.size w a0_2 n0_2 c0_2 p0.2.2) (p1 : CueC) (hp1_1 : Vw w.heap.size w a1_1 n1_1 c1_1 p1.2.1) (hp1_2 : Vw w.heap.size w a1_2 n1_2 c1_2 p1.2.2) (hm : m_laws_eqCue p0 p1 Q) :
    Fn Try.prog 61 #[.agg #[.int .i64 p0.1, .slice a0_1 n0_1 c0_1, .slice a0_2 n0_2 c0_2], .agg #[.int .i64 p1.1, .slice a1_1 n1_1 c1_1, .slice a1_2 n1_2 c1_2]] w (fun v w' => ∃ (r0 : Bool), Q r0 ∧ v = .bool r0 ∧ Ext w w') := by
  unfold m_laws_eqCue at hm
  have hB0 := Below.refl w.heap.size w
  have hS0 : Sep w w.heap.size [] := Sep.nil (Nat.le_refl _)
  refine fn_of_wp Try.func61 rfl (by kernel_rfl) (Nat.le_of_ble_eq_true rfl) ?_
  refine w_seq fun K1 hK1 => ?_
  refine w_region ?_
  refine wl_step rfl (q_box (cs := #[.int .i64 p0.1, .slice a0_1 n0_1 c0_1, .slice a0_2 n0_2 c0_2]) rfl rfl hS0) ?_
  rintro _ w2 ⟨g3, rfl, hS5, hE4⟩
  have hB7 := hB0.trans (Ext.stp hE4 hS0.base)
  refine wl_step rfl (q_box (cs := #[.int .i64 p1.1, .slice a1_1 n1_1 c1_1, .slice a1_2 n1_2 c1_2]) rfl rfl hS5) ?_
  rintro _ w8 ⟨g9, rfl, hS11, hE10⟩
  have hB13 := hB7.trans (Ext.stp hE10 hS5.base)
  refine wl_val (g_assign (v := .bool false) rfl) rfl ?_
  refine wl_nil ?_
  refine hK1 _ _ ?_
  refine w_seq fun K14 hK14 => ?_
  refine w_seq fun K15 hK15 => ?_
  refine w_region ?_
  refine wl_val (g_fieldAddr (q := (⟨g3, 0, none⟩ : Addr)) FL39_0 ON3 rfl) rfl ?_
  refine wl_val (q_loadB (i := 0) (bs := #[.int .i64 p0.1, .slice a0_1 n0_1 c0_1, .slice a0_2 n0_2 c0_2]) hS11.g1 ON3 rfl rfl) rfl ?_
  refine wl_val (g_fieldAddr (q := (⟨g9, 0, none⟩ : Addr)) FL39_0 ON3 rfl) rfl ?_
  refine wl_val (q_loadB (i := 0) (bs := #[.int .i64 p1.1, .slice a1_1 n1_1 c1_1, .slice a1_2 n1_2 c1_2]) hS11.g0 ON3 rfl rfl) rfl ?_
  refine wl_val (g_neq (a := p0.1) (b := p1.1) rfl rfl) rfl ?_
  refine wl_nil ?_
  refine hK15 _ _ ?_
  refine w_condI (p := p0.1 ≠ p1.1) (b := (decide (p0.1 ≠ p1.1))) rfl decide_eq_true_iff (fun h16 => ?_) (fun h16 => ?_)
  · replace hm := hm.1 h16
    refine w_seq fun K17 hK17 => ?_
    refine w_region ?_
    refine wl_val (g_assign (v := .bool false) rfl) rfl ?_
    refine wl_nil ?_
    refine hK17 _ _ ?_
    refine w_ret ?_
    repeat first | with_reducible refine q_then ?_ | with_reducible refine q_block ?_
    exact ret1 rfl (by decide) ⟨_, hm, rfl, toExt hB13⟩
  · replace hm := hm.2 h16
    refine w_skip ?_
    refine hK14 _ _ ?_
    refine w_seq fun K18 hK18 => ?_
    refine w_seq fun K19 hK19 => ?_
    refine w_region ?_
    refine wl_val (g_fieldAddr (q := (⟨g3, 0, none⟩ : Addr)) FL39_1 ON24 rfl) rfl ?_
    refine wl_val (q_loadB (i := 1) (bs := #[.int .i64 p0.1, .slice a0_1 n0_1 c0_1, .slice a0_2 n0_2 c0_2]) hS11.g1 ON24 rfl rfl) rfl ?_
    refine wl_val (g_fieldAddr (q := (⟨g9, 0, none⟩ : Addr)) FL39_1 ON24 rfl) rfl ?_
    refine wl_val (q_loadB (i := 1) (bs := #[.int .i64 p1.1, .slice a1_1 n1_1 c1_1, .slice a1_2 n1_2 c1_2]) hS11.g0 ON24 rfl rfl) rfl ?_
    refine wl_step rfl (g_call (vs := #[.slice a0_1 n0_1 c0_1, .slice a1_1 n1_1 c1_1]) CF21 (args2 rfl rfl) (m_laws_eqIntS_fn ((hp0_1.bel hB13).up hS11) ((hp1_1.bel hB13).up hS11) hm)) ?_
    rintro _ w20 ⟨r23, hm, rfl, hE21⟩
    have hB24 := hB13.trans (Ext.stp hE21 hS11.base)
    have hS25 := hS11.ext hE21
    refine wl_val (g_not (a := r23) rfl) rfl ?_
    refine wl_nil ?_
    refine hK19 _ _ ?_
    refine w_condI (p := ¬ (r23 = true)) (b := (!r23)) rfl (i_not Iff.rfl) (fun h26 => ?_) (fun h26 => ?_)
    · replace hm := hm.1 h26
      refine w_seq fun K27 hK27 => ?_
      refine w_region ?_
      refine wl_val (g_assign (v := .bool false) rfl) rfl ?_
      refine wl_nil ?_
      refine hK27 _ _ ?_
      refine w_ret ?_
      repeat first | with_reducible refine q_then ?_ | with_reducible refine q_block ?_
      exact ret1 rfl (by decide) ⟨_, hm, rfl, toExt hB24⟩
    · replace hm := hm.2 h26
      refine w_skip ?_
      refine hK18 _ _ ?_
      refine w_seq fun K28 hK28 => ?_
      refine w_seq fun K29 hK29 => ?_
      refine w_region ?_
      refine wl_val (g_fieldAddr (q := (⟨g3, 0, none⟩ : Addr)) FL39_2 ON24 rfl) rfl ?_
      refine wl_val (q_loadB (i := 2) (bs := #[.int .i64 p0.1, .slice a0_1 n0_1 c0_1, .slice a0_2 n0_2 c0_2]) hS25.g1 ON24 rfl rfl) rfl ?_
      refine wl_val (g_fieldAddr (q := (⟨g9, 0, none⟩ : Addr)) FL39_2 ON24 rfl) rfl ?_
      refine wl_val (q_loadB (i := 2) (bs := #[.int .i64 p1.1, .slice a1_1 n1_1 c1_1, .slice a1_2 n1_2 c1_2]) hS25.g0 ON24 rfl rfl) rfl ?_
      refine wl_step rfl (g_call (vs := #[.slice a0_2 n0_2 c0_2, .slice a1_2 n1_2 c1_2]) CF21 (args2 rfl rfl) (m_laws_eqIntS_fn ((hp0_2.bel hB24).up hS25) ((hp1_2.bel hB24).up hS25) hm)) ?_
      rintro _ w30 ⟨r33, hm, rfl, hE31⟩
      have hB34 := hB24.trans (Ext.stp hE31 hS25.base)
      have hS35 := hS25.ext hE31
      refine wl_val (g_not (a := r33) rfl) rfl ?_
      refine wl_nil ?_
      refine hK29 _ _ ?_
      refine w_condI (p := ¬ (r33 = true)) (b := (!r33)) rfl (i_not Iff.rfl) (fun h36 => ?_) (fun h36 => ?_)
      · replace hm := hm.1 h36
        refine w_seq fun K37 hK37 => ?_
        refine w_region ?_
        refine wl_val (g_assign (v := .bool false) rfl) rfl ?_
        refine wl_nil ?_
        refine hK37 _ _ ?_
        refine w_ret ?_
        repeat first | with_reducible refine q_then ?_ | with_reducible refine q_block ?_
        exact ret1 rfl (by decide) ⟨_, hm, rfl, toExt hB34⟩
      · replace hm := hm.2 h36
        refine w_skip ?_
        refine hK28 _ _ ?_
        refine w_seq fun K38 hK38 => ?_
        refine w_region ?_
        refine wl_val (g_assign (v := .bool true) rfl) rfl ?_
        refine wl_nil ?_
        refine hK38 _ _ ?_
        refine w_ret ?_
        repeat first | with_reducible refine q_then ?_ | with_reducible refine q_block ?_
        exact ret1 rfl (by decide) ⟨_, hm, rfl, toExt hB34⟩

theorem m_laws_eqCueS_fn {w : World} {a0 : Option Addr} {n0 c0 : Nat} {y0 : List CueD} {p0 : List CueC} {a1 : Option Addr} {n1 c1 : Nat} {y1 : List CueD} {p1 : List CueC} {Q : Bool → Prop} (hp0 : Tv w.heap.size w a0 n0 c0 y0 p0) (hp1 : Tv w.heap.size w a1 n1 c1 y1 p1) (hm : m_laws_eqCueS p0 p1 Q) :
    Fn Try.prog 22 #[.slice a0 n0 c0, .slice a1 n1 c1] w (fun v w' => ∃ (r0 : Bool), Q r0 ∧ v = .bool r0 ∧ Ext w w') := by
  unfold m_laws_eqCueS at hm
  have hB0 := Below.refl w.heap.size w
  have hS0 : Sep w w.heap.size [] := Sep.nil (Nat.le_refl _)
  refine fn_of_wp Try.func22 rfl (by kernel_rfl) (Nat.le_of_ble_eq_true rfl) ?_
  refine w_seq fun K1 hK1 => ?_
  refine w_region ?_
  refine wl_val (g_assign (v := .bool false) rfl) rfl ?_
  refine wl_nil ?_
  refine hK1 _ _ ?_
  refine w_seq fun K2 hK2 => ?_
  refine w_seq fun K3 hK3 => ?_
  refine w_region ?_
  refine wl_val (g_move (v := .slice a0 n0 c0) rfl) rfl ?_
  refine wl_val (q_len SL26 rfl (Tv.len (hp0.bel hB0))) rfl ?_
  refine wl_val (g_move (v := .slice a1 n1 c1) rfl) rfl ?_
  refine wl_val (q_len SL26 rfl (Tv.len (hp1.bel hB0))) rfl ?_
  refine wl_val (g_neq (a := (p0.length : Int)) (b := (p1.length : Int)) rfl rfl) rfl ?_
  refine wl_nil ?_
  refine hK3 _ _ ?_
  refine w_condI (p := (p0.length : Int) ≠ (p1.length : Int)) (b := (decide ((p0.length : Int) ≠ (p1.length : Int)))) rfl decide_eq_true_iff (fun h4 => ?_) (fun h4 => ?_)
  · replace hm := hm.1 h4
    refine w_seq fun K5 hK5 => ?_
    refine w_region ?_
    refine wl_val (g_assign (v := .bool false) rfl) rfl ?_
    refine wl_nil ?_
    refine hK5 _ _ ?_
    refine w_ret ?_
    repeat first | with_reducible refine q_then ?_ | with_reducible refine q_block ?_
    exact ret1 rfl (by decide) ⟨_, hm, rfl, toExt hB0⟩
  · replace hm := hm.2 h4
    refine w_skip ?_
    refine hK2 _ _ ?_
    refine w_cut (σ := Unit) (fun _ => []) (fun _ w' => m_laws_eqCueS_K0 Q ∧ Below w.heap.size w w' ∧ Sep w' w.heap.size []) ?_ ?_
    · refine w_seq fun K7 hK7 => ?_
      refine w_region ?_
      refine wl_val (g_assign (v := .int .i64 0) rfl) rfl ?_
      refine wl_nil ?_
      refine hK7 _ _ ?_
      refine w_block ?_
      obtain ⟨I77, μ78, h079, hr80⟩ := hm
      refine w_for (σ := Int) (fun v76 => [(0, .slice a0 n0 c0), (1, .slice a1 n1 c1), (5, .int .i64 v76)]) (fun v76 w' => I77 v76 ∧ Below w.heap.size w w' ∧ Sep w' w.heap.size []) (fun v76 => μ78 v76) (0) ⟨rfl, rfl, rfl, trivial⟩ ⟨h079, hB0, hS0⟩ ?_
      rintro v76 b_ w81 ⟨hi_, hB82, hS83⟩
      show Wp _ _ _ _ (upds b_ [(0, .slice a0 n0 c0), (1, .slice a1 n1 c1), (5, .int .i64 v76)]) w81
      have hm := hr80 v76 hi_
      refine w_seq fun K85 hK85 => ?_
      refine w_seq fun K86 hK86 => ?_
      refine w_region ?_
      refine wl_val (g_move (v := .int .i64 v76) rfl) rfl ?_
      refine wl_val (g_move (v := .slice a0 n0 c0) rfl) rfl ?_
      refine wl_val (q_len SL26 rfl (Tv.len (hp0.bel hB82))) rfl ?_
      refine wl_val (g_lss (a := v76) (b := (p0.length : Int)) rfl rfl) rfl ?_
      refine wl_nil ?_
      refine hK86 _ _ ?_
      refine w_condI (p := v76 < (p0.length : Int)) (b := (decide (v76 < (p0.length : Int)))) rfl decide_eq_true_iff (fun h87 => ?_) (fun h87 => ?_)
      · replace hm := hm.1 h87
        refine w_skip ?_
        refine hK85 _ _ ?_
        refine w_seq fun K88 hK88 => ?_
        refine w_block ?_
        refine w_seq fun K89 hK89 => ?_
        refine w_draw (X := Ext) (Y := Ext) [] MIX (by decide +kernel) rfl Ext.refl (fun _ _ _ => Ext.trans) (fun _ _ _ => Chg.trans) (fun _ _ h => Ext.chg h _) (fun w90 hE91 => ?_)
        have hB92 := hB82.trans (Ext.stp hE91 hS83.base)
        have hS93 := hS83.ext hE91
        refine ⟨.slice a0 n0 c0, fun w94 hX95 => od_plain rfl (by have hS96 := hS93.ext hX95; have hB97 := hB92.trans (Ext.stp hX95 hS93.base); exact is_ext (g_move (v := .slice a0 n0 c0) rfl)), ?_⟩
        refine ⟨.int .i64 v76, fun w98 hX99 => od_plain rfl (by have hS100 := hS93.ext hX99; have hB101 := hB92.trans (Ext.stp hX99 hS93.base); exact is_ext (g_move (v := .int .i64 v76) rfl)), ?_⟩
        obtain ⟨hg106, hm⟩ := hm
        refine ⟨.pointer (some ((adr a0).add ((Int.toNat v76) * El.m CueD))), fun w102 hX103 => od_plain rfl (by have hS104 := hS93.ext hX103; have hB105 := hB92.trans (Ext.stp hX103 hS93.base); exact is_ext (q_index (i := v76) SL26 rfl rfl (Tv.o (hp0.bel hB105)) (Tv.g (hp0.bel hB105) hg106))), ?_⟩
        refine ⟨.agg #[.int .i64 (p0[(Int.toNat v76)]!.1), .slice ((y0[(Int.toNat v76)]!).2.1.1) ((y0[(Int.toNat v76)]!).2.1.2.2.length) ((y0[(Int.toNat v76)]!).2.1.2.1), .slice ((y0[(Int.toNat v76)]!).2.2.1) ((y0[(Int.toNat v76)]!).2.2.2.2.length) ((y0[(Int.toNat v76)]!).2.2.2.1)], fun w107 hX108 => od_plain rfl (by have hS109 := hS93.ext hX108; have hB110 := hB92.trans (Ext.stp hX108 hS93.base); exact is_ext (q_loadS (i := v76) (cs := [.int .i64 (p0[(Int.toNat v76)]!.1), .slice ((y0[(Int.toNat v76)]!).2.1.1) ((y0[(Int.toNat v76)]!).2.1.2.2.length) ((y0[(Int.toNat v76)]!).2.1.2.1), .slice ((y0[(Int.toNat v76)]!).2.2.1) ((y0[(Int.toNat v76)]!).2.2.2.2.length) ((y0[(Int.toNat v76)]!).2.2.2.1)]) AG39 (Tv.o (hp0.bel hB110)) (Tv.g (hp0.bel hB110) hg106) (by rw [← Tv.ticks (hp0.bel hB110) hg106]; rfl) rfl)), ?_⟩
        refine ⟨.slice a1 n1 c1, fun w111 hX112 => od_plain rfl (by have hS113 := hS93.ext hX112; have hB114 := hB92.trans (Ext.stp hX112 hS93.base); exact is_ext (g_move (v := .slice a1 n1 c1) rfl)), ?_⟩
        refine ⟨.int .i64 v76, fun w115 hX116 => od_plain rfl (by have hS117 := hS93.ext hX116; have hB118 := hB92.trans (Ext.stp hX116 hS93.base); exact is_ext (g_move (v := .int .i64 v76) rfl)), ?_⟩
        obtain ⟨hg123, hm⟩ := hm
        refine ⟨.pointer (some ((adr a1).add ((Int.toNat v76) * El.m CueD))), fun w119 hX120 => od_plain rfl (by have hS121 := hS93.ext hX120; have hB122 := hB92.trans (Ext.stp hX120 hS93.base); exact is_ext (q_index (i := v76) SL26 rfl rfl (Tv.o (hp1.bel hB122)) (Tv.g (hp1.bel hB122) hg123))), ?_⟩
        refine ⟨.agg #[.int .i64 (p1[(Int.toNat v76)]!.1), .slice ((y1[(Int.toNat v76)]!).2.1.1) ((y1[(Int.toNat v76)]!).2.1.2.2.length) ((y1[(Int.toNat v76)]!).2.1.2.1), .slice ((y1[(Int.toNat v76)]!).2.2.1) ((y1[(Int.toNat v76)]!).2.2.2.2.length) ((y1[(Int.toNat v76)]!).2.2.2.1)], fun w124 hX125 => od_plain rfl (by have hS126 := hS93.ext hX125; have hB127 := hB92.trans (Ext.stp hX125 hS93.base); exact is_ext (q_loadS (i := v76) (cs := [.int .i64 (p1[(Int.toNat v76)]!.1), .slice ((y1[(Int.toNat v76)]!).2.1.1) ((y1[(Int.toNat v76)]!).2.1.2.2.length) ((y1[(Int.toNat v76)]!).2.1.2.1), .slice ((y1[(Int.toNat v76)]!).2.2.1) ((y1[(Int.toNat v76)]!).2.2.2.2.length) ((y1[(Int.toNat v76)]!).2.2.2.1)]) AG39 (Tv.o (hp1.bel hB127)) (Tv.g (hp1.bel hB127) hg123) (by rw [← Tv.ticks (hp1.bel hB127) hg123]; rfl) rfl)), ?_⟩
        obtain ⟨r132, hk133, hm⟩ := hm
        refine ⟨.bool r132, fun w128 hX129 => od_plain rfl (by have hS130 := hS93.ext hX129; have hB131 := hB92.trans (Ext.stp hX129 hS93.base); exact (g_call (vs := #[.agg #[.int .i64 (p0[(Int.toNat v76)]!.1), .slice ((y0[(Int.toNat v76)]!).2.1.1) ((y0[(Int.toNat v76)]!).2.1.2.2.length) ((y0[(Int.toNat v76)]!).2.1.2.1), .slice ((y0[(Int.toNat v76)]!).2.2.1) ((y0[(Int.toNat v76)]!).2.2.2.2.length) ((y0[(Int.toNat v76)]!).2.2.2.1)], .agg #[.int .i64 (p1[(Int.toNat v76)]!.1), .slice ((y1[(Int.toNat v76)]!).2.1.1) ((y1[(Int.toNat v76)]!).2.1.2.2.length) ((y1[(Int.toNat v76)]!).2.1.2.1), .slice ((y1[(Int.toNat v76)]!).2.2.1) ((y1[(Int.toNat v76)]!).2.2.2.2.length) ((y1[(Int.toNat v76)]!).2.2.2.1)]]) CF61 (args2 rfl rfl) ((m_laws_eqCue_fn (p0[(Int.toNat v76)]!) ((Tv.rowC0 (hp0.bel hB131) hg106).up hS130) ((Tv.rowC1 (hp0.bel hB131) hg106).up hS130) (p1[(Int.toNat v76)]!) ((Tv.rowC0 (hp1.bel hB131) hg123).up hS130) ((Tv.rowC1 (hp1.bel hB131) hg123).up hS130) hk133).mono fun _ _ ⟨_, h1, h2, h3⟩ => ⟨by rw [h2, h1], h3⟩))), ?_⟩
        refine ⟨.bool (!r132), fun w134 hX135 => od_plain rfl (by have hS136 := hS93.ext hX135; have hB137 := hB92.trans (Ext.stp hX135 hS93.base); exact is_ext (g_not (a := r132) rfl)), ?_⟩
        intro w138 hX139
        have hB140 := hB92.trans (Ext.stp hX139 hS93.base)
        have hS141 := hS93.ext hX139
        refine hK89 _ _ ?_
        refine w_condI (p := ¬ (r132 = true)) (b := (!r132)) rfl (i_not Iff.rfl) (fun h142 => ?_) (fun h142 => ?_)
        · replace hm := hm.1 h142
          refine w_seq fun K143 hK143 => ?_
          refine w_region ?_
          refine wl_val (g_assign (v := .bool false) rfl) rfl ?_
          refine wl_nil ?_
          refine hK143 _ _ ?_
          refine w_ret ?_
          repeat first | with_reducible refine q_then ?_ | with_reducible refine q_block ?_
          exact ret1 rfl (by decide) ⟨_, hm, rfl, toExt hB140⟩
        · replace hm := hm.2 h142
          refine w_skip ?_
          refine hK88 _ _ ?_
          refine w_region ?_
          refine wl_val (g_move (v := .int .i64 v76) rfl) rfl ?_
          obtain ⟨hg144, hm⟩ := hm
          refine wl_val (g_add (a := v76) (b := 1) rfl rfl hg144) rfl ?_
          refine wl_val (g_assign (v := .int .i64 (v76 + 1)) rfl) rfl ?_
          refine wl_nil ?_
          exact ⟨((v76 + 1)), hm.2, ⟨rfl, rfl, rfl, trivial⟩, ⟨hm.1, hB140, hS141⟩⟩
      · replace hm := hm.2 h87
        refine w_exit ?_
        exact ⟨(), trivial, ⟨hm, hB82, hS83⟩⟩
    · rintro _ b_ w145 ⟨hm, hB146, hS147⟩
      show Wp _ _ _ _ (upds b_ []) w145
      refine w_seq fun K148 hK148 => ?_
      refine w_region ?_
      refine wl_val (g_assign (v := .bool true) rfl) rfl ?_
      refine wl_nil ?_
      refine hK148 _ _ ?_
      refine w_ret ?_
      repeat first | with_reducible refine q_then ?_ | with_reducible refine q_block ?_
      exact ret1 rfl (by decide) ⟨_, hm, rfl, toExt hB146⟩

theorem m_laws_markIntS_fn {w : World} {B_ : Nat} {L_ : List Ob} {a0 : Option Addr} {n0 c0 : Nat} {p0 : List Int} {Q : Int → (List Int) → Prop} (hS0 : Sep w B_ (oS 3 a0 n0 c0 (p0 : List Int) :: L_)) (p1 : Int) (hm : m_laws_markIntS p0 p1 Q) :
    Fn Try.prog 24 #[.slice a0 n0 c0, .int .i64 p1] w (fun v w' => ∃ (r0 : Int) (x0 : List Int), Q r0 x0 ∧ v = .int .i64 r0 ∧ Below B_ w w' ∧ Sep w' B_ (oS 3 a0 n0 c0 x0 :: L_)) := by
  unfold m_laws_markIntS at hm
  have hB0 := Below.refl B_ w
  refine fn_of_wp Try.func24 rfl (by kernel_rfl) (Nat.le_of_ble_eq_true rfl) ?_
  refine w_seq fun K2 hK2 => ?_
  refine w_region ?_
  refine wl_val (g_assign (v := .int .i64 0) rfl) rfl ?_
  refine wl_nil ?_
  refine hK2 _ _ ?_
  refine w_cut (σ := List Int × Int) (fun ⟨x48, v49⟩ => [(1, .int .i64 v49)]) (fun ⟨x48, v49⟩ w' => m_laws_markIntS_K0 Q x48 v49 ∧ Below B_ w w' ∧ Sep w' B_ (oS 3 a0 n0 c0 (x48 : List Int) :: L_)) ?_ ?_
  · refine w_seq fun K51 hK51 => ?_
    refine w_region ?_
    refine wl_val (g_assign (v := .int .i64 0) rfl) rfl ?_
    refine wl_nil ?_
    refine hK51 _ _ ?_
    refine w_block ?_
    obtain ⟨I55, μ56, h057, hr58⟩ := hm
    refine w_for (σ := List Int × Int × Int) (fun ⟨x52, v53, v54⟩ => [(0, .slice a0 n0 c0), (1, .int .i64 v53), (5, .int .i64 v54)]) (fun ⟨x52, v53, v54⟩ w' => I55 x52 v53 v54 ∧ Below B_ w w' ∧ Sep w' B_ (oS 3 a0 n0 c0 (x52 : List Int) :: L_)) (fun ⟨x52, v53, v54⟩ => μ56 x52 v53 v54) (p0, p1, 0) ⟨rfl, rfl, rfl, trivial⟩ ⟨h057, hB0, hS0⟩ ?_
    rintro ⟨x52, v53, v54⟩ b_ w59 ⟨hi_, hB60, hS61⟩
    show Wp _ _ _ _ (upds b_ [(0, .slice a0 n0 c0), (1, .int .i64 v53), (5, .int .i64 v54)]) w59
    have hm := hr58 x52 v53 v54 hi_
    refine w_seq fun K63 hK63 => ?_
    refine w_seq fun K64 hK64 => ?_
    refine w_region ?_
    refine wl_val (g_move (v := .int .i64 v54) rfl) rfl ?_
    refine wl_val (g_move (v := .slice a0 n0 c0) rfl) rfl ?_
    refine wl_val (q_len SL24 rfl (Vw.len (oS.vw hS61.g0))) rfl ?_
    refine wl_val (g_lss (a := v54) (b := (x52.length : Int)) rfl rfl) rfl ?_
    refine wl_nil ?_
    refine hK64 _ _ ?_
    refine w_condI (p := v54 < (x52.length : Int)) (b := (decide (v54 < (x52.length : Int)))) rfl decide_eq_true_iff (fun h65 => ?_) (fun h65 => ?_)
    · replace hm := hm.1 h65
      refine w_skip ?_
      refine hK63 _ _ ?_
      refine w_seq fun K66 hK66 => ?_
      refine w_block ?_
      refine w_seq fun K67 hK67 => ?_
      refine w_region ?_
      refine wl_val (g_move (v := .slice a0 n0 c0) rfl) rfl ?_
      refine wl_val (g_move (v := .int .i64 v54) rfl) rfl ?_
      refine wl_val (g_move (v := .int .i64 v53) rfl) rfl ?_
      obtain ⟨hg68, hm⟩ := hm
      refine wl_val (q_index (i := v54) SL24 rfl rfl (oS.vw hS61.g0) hg68) rfl ?_
      refine wl_step rfl (q_store (i := v54) (v := (v53 : Int)) hS61 ON3.sz hg68 rfl rfl rfl) ?_
      rintro _ w69 ⟨rfl, hS70, hb71⟩
      have hB72 := hB60.trans hb71
      refine wl_nil ?_
      refine hK67 _ _ ?_
      refine w_region ?_
      refine wl_val (g_move (v := .int .i64 v53) rfl) rfl ?_
      obtain ⟨hg73, hm⟩ := hm
      refine wl_val (g_add (a := v53) (b := 1) rfl rfl hg73) rfl ?_
      refine wl_val (g_assign (v := .int .i64 (v53 + 1)) rfl) rfl ?_
      refine wl_nil ?_
      refine hK66 _ _ ?_
      refine w_region ?_
      refine wl_val (g_move (v := .int .i64 v54) rfl) rfl ?_
      obtain ⟨hg74, hm⟩ := hm
      refine wl_val (g_add (a := v54) (b := 1) rfl rfl hg74) rfl ?_
      refine wl_val (g_assign (v := .int .i64 (v54 + 1)) rfl) rfl ?_
      refine wl_nil ?_
      exact ⟨((x52.set (Int.toNat v54) v53), (v53 + 1), (v54 + 1)), hm.2, ⟨rfl, rfl, rfl, trivial⟩, ⟨hm.1, hB72, hS70⟩⟩
    · replace hm := hm.2 h65
      refine w_exit ?_
      exact ⟨(x52, v53), ⟨rfl, trivial⟩, ⟨hm, hB60, hS61⟩⟩
  · rintro ⟨x48, v49⟩ b_ w75 ⟨hm, hB76, hS77⟩
    show Wp _ _ _ _ (upds b_ [(1, .int .i64 v49)]) w75
    refine w_seq fun K78 hK78 => ?_
    refine w_region ?_
    refine wl_val (g_move (v := .int .i64 v49) rfl) rfl ?_
    refine wl_val (g_assign (v := .int .i64 v49) rfl) rfl ?_
    refine wl_nil ?_
    refine hK78 _ _ ?_
    refine w_ret ?_
    repeat first | with_reducible refine q_then ?_ | with_reducible refine q_block ?_
    exact ret1 rfl (by decide) ⟨_, _, hm, rfl, hB76, hS77⟩

theorem m_laws_markCueS_fn {w : World} {B_ : Nat} {L_ : List Ob} {a0 : Option Addr} {n0 c0 : Nat} {p0 : List CueC} {y0 : List CueD} {Q : Int → (List CueC) → Prop} (hS0 : Sep w B_ (oS 39 a0 n0 c0 (y0 : List CueD) :: oT 3 (y0 : List CueD) :: L_)) (hep0 : ers y0 = p0) (p1 : Int) (hm : m_laws_markCueS p0 p1 Q) :
    Fn Try.prog 23 #[.slice a0 n0 c0, .int .i64 p1] w (fun v w' => ∃ (r0 : Int) (x0 : List CueC) (yy0 : List CueD), Q r0 x0 ∧ ers yy0 = x0 ∧ v = .int .i64 r0 ∧ Below B_ w w' ∧ Sep w' B_ (oS 39 a0 n0 c0 yy0 :: oT 3 yy0 :: L_)) := by
  unfold m_laws_markCueS at hm
  have hB0 := Below.refl B_ w
  refine fn_of_wp Try.func23 rfl (by kernel_rfl) (Nat.le_of_ble_eq_true rfl) ?_
  refine w_seq fun K4 hK4 => ?_
  refine w_region ?_
  refine wl_val (g_assign (v := .int .i64 0) rfl) rfl ?_
  refine wl_nil ?_
  refine hK4 _ _ ?_
  refine w_cut (σ := List CueC × List CueD × Int) (fun ⟨x136, y137, v139⟩ => [(1, .int .i64 v139)]) (fun ⟨x136, y137, v139⟩ w' => m_laws_markCueS_K0 Q x136 v139 ∧ ers y137 = x136 ∧ Below B_ w w' ∧ Sep w' B_ (oS 39 a0 n0 c0 (y137 : List CueD) :: oT 3 (y137 : List CueD) :: L_)) ?_ ?_
  · refine w_seq fun K141 hK141 => ?_
    refine w_region ?_
    refine wl_val (g_assign (v := .int .i64 0) rfl) rfl ?_
    refine wl_nil ?_
    refine hK141 _ _ ?_
    refine w_block ?_
    obtain ⟨I147, μ148, h0149, hr150⟩ := hm
    refine w_for (σ := List CueC × List CueD × Int × Int) (fun ⟨x142, y143, v145, v146⟩ => [(0, .slice a0 n0 c0), (1, .int .i64 v145), (5, .int .i64 v146)]) (fun ⟨x142, y143, v145, v146⟩ w' => I147 x142 v145 v146 ∧ ers y143 = x142 ∧ Below B_ w w' ∧ Sep w' B_ (oS 39 a0 n0 c0 (y143 : List CueD) :: oT 3 (y143 : List CueD) :: L_)) (fun ⟨x142, y143, v145, v146⟩ => μ148 x142 v145 v146) (p0, y0, p1, 0) ⟨rfl, rfl, rfl, trivial⟩ ⟨h0149, hep0, hB0, hS0⟩ ?_
    rintro ⟨x142, y143, v145, v146⟩ b_ w151 ⟨hi_, he144, hB152, hS153⟩
    show Wp _ _ _ _ (upds b_ [(0, .slice a0 n0 c0), (1, .int .i64 v145), (5, .int .i64 v146)]) w151
    have hm := hr150 x142 v145 v146 hi_
    refine w_seq fun K155 hK155 => ?_
    refine w_seq fun K156 hK156 => ?_
    refine w_region ?_
    refine wl_val (g_move (v := .int .i64 v146) rfl) rfl ?_
    refine wl_val (g_move (v := .slice a0 n0 c0) rfl) rfl ?_
    refine wl_val (q_len SL26 rfl (Tv.len (oT.vw hS153.g0 hS153.g1 he144))) rfl ?_
    refine wl_val (g_lss (a := v146) (b := (x142.length : Int)) rfl rfl) rfl ?_
    refine wl_nil ?_
    refine hK156 _ _ ?_
    refine w_condI (p := v146 < (x142.length : Int)) (b := (decide (v146 < (x142.length : Int)))) rfl decide_eq_true_iff (fun h157 => ?_) (fun h157 => ?_)
    · replace hm := hm.1 h157
      refine w_skip ?_
      refine hK155 _ _ ?_
      refine w_seq fun K158 hK158 => ?_
      refine w_block ?_
      refine w_seq fun K159 hK159 => ?_
      refine w_region ?_
      refine wl_val (g_move (v := .slice a0 n0 c0) rfl) rfl ?_
      refine wl_val (g_move (v := .int .i64 v146) rfl) rfl ?_
      refine wl_val (g_move (v := .int .i64 v145) rfl) rfl ?_
      obtain ⟨hg160, hm⟩ := hm
      refine wl_val (q_index (i := v146) SL26 rfl rfl (Tv.o (oT.vw hS153.g0 hS153.g1 he144)) (Tv.g (oT.vw hS153.g0 hS153.g1 he144) hg160)) rfl ?_
      refine wl_val (g_fieldAddr (q := (adr a0).add ((Int.toNat v146) * El.m CueD)) FL39_0 ON3 rfl) rfl ?_
      have hS164 := hS153.f1
      have hS165 := hS164.f1
      have hl166 : ix v146 (y143).length := by have h3 := congrArg List.length he144; simp only [ers, List.length_map] at h3; rw [h3]; exact hg160
      refine wl_step rfl (q_storeF (i := v146) (j := 0) (v := ((v145, (y143)[(Int.toNat v146)]!.2.1, (y143)[(Int.toNat v146)]!.2.2) : CueD)) hS165 ON3 hl166 rfl rfl rfl rfl (by decide) rfl) ?_
      rintro _ w161 ⟨rfl, hS162, hb163⟩
      have hB167 := hB152.trans hb163
      have hl168 : (Int.toNat v146) < (y143).length := by have h1 := (hl166).1; have h2 := (hl166).2; omega
      have he169 : ers (y143.set (Int.toNat v146) (v145, (y143)[(Int.toNat v146)]!.2.1, (y143)[(Int.toNat v146)]!.2.2)) = (x142.set (Int.toNat v146) (v145, x142[(Int.toNat v146)]!.2.1, x142[(Int.toNat v146)]!.2.2)) := ers_set he144 (by first | rfl | (rw [← he144, er_get hl168]; rfl)) _
      have hS170 := hS162.f1
      have hS171 := hS170.rowsSame (ys' := (y143.set (Int.toNat v146) (v145, (y143)[(Int.toNat v146)]!.2.1, (y143)[(Int.toNat v146)]!.2.2))) (by simp) (fun i' j' h1 h2 => by rw [set_at _ _ _ hl168]; exact if hc : (Int.toNat v146) = i' then (by subst hc; rw [if_pos rfl]; rfl) else (by rw [if_neg hc]))
      refine wl_nil ?_
      refine hK159 _ _ ?_
      refine w_seq fun K172 hK172 => ?_
      refine w_region ?_
      refine wl_val (g_move (v := .int .i64 v145) rfl) rfl ?_
      obtain ⟨hg173, hm⟩ := hm
      refine wl_val (g_add (a := v145) (b := 1) rfl rfl hg173) rfl ?_
      refine wl_val (g_assign (v := .int .i64 (v145 + 1)) rfl) rfl ?_
      refine wl_nil ?_
      refine hK172 _ _ ?_
      refine w_seq fun K174 hK174 => ?_
      refine w_region ?_
      refine wl_val (g_move (v := .slice a0 n0 c0) rfl) rfl ?_
      refine wl_val (g_move (v := .int .i64 v146) rfl) rfl ?_
      obtain ⟨hg175, hm⟩ := hm
      refine wl_val (q_index (i := v146) SL26 rfl rfl (Tv.o (oT.vw hS171.g1 hS171.g0 he169)) (Tv.g (oT.vw hS171.g1 hS171.g0 he169) hg175)) rfl ?_
      refine wl_val (g_fieldAddr (q := (adr a0).add ((Int.toNat v146) * El.m CueD)) FL39_1 ON24 rfl) rfl ?_
      refine wl_val (q_loadF (i := v146) (j := 1) (v := .slice (((y143.set (Int.toNat v146) (v145, (y143)[(Int.toNat v146)]!.2.1, (y143)[(Int.toNat v146)]!.2.2))[(Int.toNat v146)]!).2.1.1) (((y143.set (Int.toNat v146) (v145, (y143)[(Int.toNat v146)]!.2.1, (y143)[(Int.toNat v146)]!.2.2))[(Int.toNat v146)]!).2.1.2.2.length) (((y143.set (Int.toNat v146) (v145, (y143)[(Int.toNat v146)]!.2.1, (y143)[(Int.toNat v146)]!.2.2))[(Int.toNat v146)]!).2.1.2.1)) ON24 (Tv.o (oT.vw hS171.g1 hS171.g0 he169)) (Tv.g (oT.vw hS171.g1 hS171.g0 he169) hg175) rfl rfl) rfl ?_
      refine wl_val (g_move (v := .int .i64 (v145 + 1)) rfl) rfl ?_
      have hS176 := hS171.f1
      have hd177 := Sep.dis hS176
      have hl178 : (Int.toNat v146) < ((y143.set (Int.toNat v146) (v145, (y143)[(Int.toNat v146)]!.2.1, (y143)[(Int.toNat v146)]!.2.2))).length := by have h1 := (hg175).1; have h2 := (hg175).2; have h3 := congrArg List.length he169; simp only [ers, List.length_map] at h3; omega
      have he181 : (Rw.row ((y143.set (Int.toNat v146) (v145, (y143)[(Int.toNat v146)]!.2.1, (y143)[(Int.toNat v146)]!.2.2)))[(Int.toNat v146)]! 0).2.2 = (x142.set (Int.toNat v146) (v145, x142[(Int.toNat v146)]!.2.1, x142[(Int.toNat v146)]!.2.2))[(Int.toNat v146)]!.2.1 := by rw [← he169]; simp only [er_get hl178]; rfl
      have hS182 := Sep.foc (i := (Int.toNat v146)) (j := 0) hS176 hl178 (by decide) he181
      refine wl_step rfl (g_call (vs := #[.slice (((y143.set (Int.toNat v146) (v145, (y143)[(Int.toNat v146)]!.2.1, (y143)[(Int.toNat v146)]!.2.2))[(Int.toNat v146)]!).2.1.1) (((y143.set (Int.toNat v146) (v145, (y143)[(Int.toNat v146)]!.2.1, (y143)[(Int.toNat v146)]!.2.2))[(Int.toNat v146)]!).2.1.2.2.length) (((y143.set (Int.toNat v146) (v145, (y143)[(Int.toNat v146)]!.2.1, (y143)[(Int.toNat v146)]!.2.2))[(Int.toNat v146)]!).2.1.2.1), .int .i64 (v145 + 1)]) CF24 (args2 rfl rfl) (m_laws_markIntS_fn hS182 (v145 + 1) hm)) ?_
      rintro _ w183 ⟨r186, x187, hm, rfl, hb184, hS185⟩
      have hB188 := hB167.trans hb184
      have hS189 := Sep.unfoc (i := (Int.toNat v146)) (j := 0) (ys := (y143.set (Int.toNat v146) (v145, (y143)[(Int.toNat v146)]!.2.1, (y143)[(Int.toNat v146)]!.2.2))) hS185 hl178 (by decide) rfl hd177
      have he190 : ers ((y143.set (Int.toNat v146) (v145, (y143)[(Int.toNat v146)]!.2.1, (y143)[(Int.toNat v146)]!.2.2)).set (Int.toNat v146) (Rs.rset ((y143.set (Int.toNat v146) (v145, (y143)[(Int.toNat v146)]!.2.1, (y143)[(Int.toNat v146)]!.2.2)))[(Int.toNat v146)]! 0 x187)) = ((x142.set (Int.toNat v146) (v145, x142[(Int.toNat v146)]!.2.1, x142[(Int.toNat v146)]!.2.2)).set (Int.toNat v146) ((x142.set (Int.toNat v146) (v145, x142[(Int.toNat v146)]!.2.1, x142[(Int.toNat v146)]!.2.2))[(Int.toNat v146)]!.1, x187, (x142.set (Int.toNat v146) (v145, x142[(Int.toNat v146)]!.2.1, x142[(Int.toNat v146)]!.2.2))[(Int.toNat v146)]!.2.2)) := ers_set he169 (by first | rfl | (rw [← he169, er_get hl178]; rfl)) _
      refine wl_val (g_assign (v := .int .i64 r186) rfl) rfl ?_
      refine wl_nil ?_
      refine hK174 _ _ ?_
      refine w_region ?_
      refine wl_val (g_move (v := .slice a0 n0 c0) rfl) rfl ?_
      refine wl_val (g_move (v := .int .i64 v146) rfl) rfl ?_
      obtain ⟨hg191, hm⟩ := hm
      refine wl_val (q_index (i := v146) SL26 rfl rfl (Tv.o (oT.vw hS189.g0 hS189.g1 he190)) (Tv.g (oT.vw hS189.g0 hS189.g1 he190) hg191)) rfl ?_
      refine wl_val (g_fieldAddr (q := (adr a0).add ((Int.toNat v146) * El.m CueD)) FL39_2 ON24 rfl) rfl ?_
      refine wl_val (q_loadF (i := v146) (j := 2) (v := .slice ((((y143.set (Int.toNat v146) (v145, (y143)[(Int.toNat v146)]!.2.1, (y143)[(Int.toNat v146)]!.2.2)).set (Int.toNat v146) (Rs.rset ((y143.set (Int.toNat v146) (v145, (y143)[(Int.toNat v146)]!.2.1, (y143)[(Int.toNat v146)]!.2.2)))[(Int.toNat v146)]! 0 x187))[(Int.toNat v146)]!).2.2.1) ((((y143.set (Int.toNat v146) (v145, (y143)[(Int.toNat v146)]!.2.1, (y143)[(Int.toNat v146)]!.2.2)).set (Int.toNat v146) (Rs.rset ((y143.set (Int.toNat v146) (v145, (y143)[(Int.toNat v146)]!.2.1, (y143)[(Int.toNat v146)]!.2.2)))[(Int.toNat v146)]! 0 x187))[(Int.toNat v146)]!).2.2.2.2.length) ((((y143.set (Int.toNat v146) (v145, (y143)[(Int.toNat v146)]!.2.1, (y143)[(Int.toNat v146)]!.2.2)).set (Int.toNat v146) (Rs.rset ((y143.set (Int.toNat v146) (v145, (y143)[(Int.toNat v146)]!.2.1, (y143)[(Int.toNat v146)]!.2.2)))[(Int.toNat v146)]! 0 x187))[(Int.toNat v146)]!).2.2.2.1)) ON24 (Tv.o (oT.vw hS189.g0 hS189.g1 he190)) (Tv.g (oT.vw hS189.g0 hS189.g1 he190) hg191) rfl rfl) rfl ?_
      refine wl_val (g_move (v := .int .i64 r186) rfl) rfl ?_
      have hS192 := hS189.f1
      have hS193 := hS192.f1
      have hd194 := Sep.dis hS193
      have hl195 : (Int.toNat v146) < (((y143.set (Int.toNat v146) (v145, (y143)[(Int.toNat v146)]!.2.1, (y143)[(Int.toNat v146)]!.2.2)).set (Int.toNat v146) (Rs.rset ((y143.set (Int.toNat v146) (v145, (y143)[(Int.toNat v146)]!.2.1, (y143)[(Int.toNat v146)]!.2.2)))[(Int.toNat v146)]! 0 x187))).length := by have h1 := (hg191).1; have h2 := (hg191).2; have h3 := congrArg List.length he190; simp only [ers, List.length_map] at h3; omega
      have he198 : (Rw.row (((y143.set (Int.toNat v146) (v145, (y143)[(Int.toNat v146)]!.2.1, (y143)[(Int.toNat v146)]!.2.2)).set (Int.toNat v146) (Rs.rset ((y143.set (Int.toNat v146) (v145, (y143)[(Int.toNat v146)]!.2.1, (y143)[(Int.toNat v146)]!.2.2)))[(Int.toNat v146)]! 0 x187)))[(Int.toNat v146)]! 1).2.2 = ((x142.set (Int.toNat v146) (v145, x142[(Int.toNat v146)]!.2.1, x142[(Int.toNat v146)]!.2.2)).set (Int.toNat v146) ((x142.set (Int.toNat v146) (v145, x142[(Int.toNat v146)]!.2.1, x142[(Int.toNat v146)]!.2.2))[(Int.toNat v146)]!.1, x187, (x142.set (Int.toNat v146) (v145, x142[(Int.toNat v146)]!.2.1, x142[(Int.toNat v146)]!.2.2))[(Int.toNat v146)]!.2.2))[(Int.toNat v146)]!.2.2 := by rw [← he190]; simp only [er_get hl195]; rfl
      have hS199 := Sep.foc (i := (Int.toNat v146)) (j := 1) hS193 hl195 (by decide) he198
      refine wl_step rfl (g_call (vs := #[.slice ((((y143.set (Int.toNat v146) (v145, (y143)[(Int.toNat v146)]!.2.1, (y143)[(Int.toNat v146)]!.2.2)).set (Int.toNat v146) (Rs.rset ((y143.set (Int.toNat v146) (v145, (y143)[(Int.toNat v146)]!.2.1, (y143)[(Int.toNat v146)]!.2.2)))[(Int.toNat v146)]! 0 x187))[(Int.toNat v146)]!).2.2.1) ((((y143.set (Int.toNat v146) (v145, (y143)[(Int.toNat v146)]!.2.1, (y143)[(Int.toNat v146)]!.2.2)).set (Int.toNat v146) (Rs.rset ((y143.set (Int.toNat v146) (v145, (y143)[(Int.toNat v146)]!.2.1, (y143)[(Int.toNat v146)]!.2.2)))[(Int.toNat v146)]! 0 x187))[(Int.toNat v146)]!).2.2.2.2.length) ((((y143.set (Int.toNat v146) (v145, (y143)[(Int.toNat v146)]!.2.1, (y143)[(Int.toNat v146)]!.2.2)).set (Int.toNat v146) (Rs.rset ((y143.set (Int.toNat v146) (v145, (y143)[(Int.toNat v146)]!.2.1, (y143)[(Int.toNat v146)]!.2.2)))[(Int.toNat v146)]! 0 x187))[(Int.toNat v146)]!).2.2.2.1), .int .i64 r186]) CF24 (args2 rfl rfl) (m_laws_markIntS_fn hS199 r186 hm)) ?_
      rintro _ w200 ⟨r203, x204, hm, rfl, hb201, hS202⟩
      have hB205 := hB188.trans hb201
      have hS206 := Sep.unfoc (i := (Int.toNat v146)) (j := 1) (ys := ((y143.set (Int.toNat v146) (v145, (y143)[(Int.toNat v146)]!.2.1, (y143)[(Int.toNat v146)]!.2.2)).set (Int.toNat v146) (Rs.rset ((y143.set (Int.toNat v146) (v145, (y143)[(Int.toNat v146)]!.2.1, (y143)[(Int.toNat v146)]!.2.2)))[(Int.toNat v146)]! 0 x187))) hS202 hl195 (by decide) rfl hd194
      have he207 : ers (((y143.set (Int.toNat v146) (v145, (y143)[(Int.toNat v146)]!.2.1, (y143)[(Int.toNat v146)]!.2.2)).set (Int.toNat v146) (Rs.rset ((y143.set (Int.toNat v146) (v145, (y143)[(Int.toNat v146)]!.2.1, (y143)[(Int.toNat v146)]!.2.2)))[(Int.toNat v146)]! 0 x187)).set (Int.toNat v146) (Rs.rset (((y143.set (Int.toNat v146) (v145, (y143)[(Int.toNat v146)]!.2.1, (y143)[(Int.toNat v146)]!.2.2)).set (Int.toNat v146) (Rs.rset ((y143.set (Int.toNat v146) (v145, (y143)[(Int.toNat v146)]!.2.1, (y143)[(Int.toNat v146)]!.2.2)))[(Int.toNat v146)]! 0 x187)))[(Int.toNat v146)]! 1 x204)) = (((x142.set (Int.toNat v146) (v145, x142[(Int.toNat v146)]!.2.1, x142[(Int.toNat v146)]!.2.2)).set (Int.toNat v146) ((x142.set (Int.toNat v146) (v145, x142[(Int.toNat v146)]!.2.1, x142[(Int.toNat v146)]!.2.2))[(Int.toNat v146)]!.1, x187, (x142.set (Int.toNat v146) (v145, x142[(Int.toNat v146)]!.2.1, x142[(Int.toNat v146)]!.2.2))[(Int.toNat v146)]!.2.2)).set (Int.toNat v146) (((x142.set (Int.toNat v146) (v145, x142[(Int.toNat v146)]!.2.1, x142[(Int.toNat v146)]!.2.2)).set (Int.toNat v146) ((x142.set (Int.toNat v146) (v145, x142[(Int.toNat v146)]!.2.1, x142[(Int.toNat v146)]!.2.2))[(Int.toNat v146)]!.1, x187, (x142.set (Int.toNat v146) (v145, x142[(Int.toNat v146)]!.2.1, x142[(Int.toNat v146)]!.2.2))[(Int.toNat v146)]!.2.2))[(Int.toNat v146)]!.1, ((x142.set (Int.toNat v146) (v145, x142[(Int.toNat v146)]!.2.1, x142[(Int.toNat v146)]!.2.2)).set (Int.toNat v146) ((x142.set (Int.toNat v146) (v145, x142[(Int.toNat v146)]!.2.1, x142[(Int.toNat v146)]!.2.2))[(Int.toNat v146)]!.1, x187, (x142.set (Int.toNat v146) (v145, x142[(Int.toNat v146)]!.2.1, x142[(Int.toNat v146)]!.2.2))[(Int.toNat v146)]!.2.2))[(Int.toNat v146)]!.2.1, x204)) := ers_set he190 (by first | rfl | (rw [← he190, er_get hl195]; rfl)) _
      refine wl_val (g_assign (v := .int .i64 r203) rfl) rfl ?_
      refine wl_nil ?_
      refine hK158 _ _ ?_
      refine w_region ?_
      refine wl_val (g_move (v := .int .i64 v146) rfl) rfl ?_
      obtain ⟨hg208, hm⟩ := hm
      refine wl_val (g_add (a := v146) (b := 1) rfl rfl hg208) rfl ?_
      refine wl_val (g_assign (v := .int .i64 (v146 + 1)) rfl) rfl ?_
      refine wl_nil ?_
      exact ⟨((((x142.set (Int.toNat v146) (v145, x142[(Int.toNat v146)]!.2.1, x142[(Int.toNat v146)]!.2.2)).set (Int.toNat v146) ((x142.set (Int.toNat v146) (v145, x142[(Int.toNat v146)]!.2.1, x142[(Int.toNat v146)]!.2.2))[(Int.toNat v146)]!.1, x187, (x142.set (Int.toNat v146) (v145, x142[(Int.toNat v146)]!.2.1, x142[(Int.toNat v146)]!.2.2))[(Int.toNat v146)]!.2.2)).set (Int.toNat v146) (((x142.set (Int.toNat v146) (v145, x142[(Int.toNat v146)]!.2.1, x142[(Int.toNat v146)]!.2.2)).set (Int.toNat v146) ((x142.set (Int.toNat v146) (v145, x142[(Int.toNat v146)]!.2.1, x142[(Int.toNat v146)]!.2.2))[(Int.toNat v146)]!.1, x187, (x142.set (Int.toNat v146) (v145, x142[(Int.toNat v146)]!.2.1, x142[(Int.toNat v146)]!.2.2))[(Int.toNat v146)]!.2.2))[(Int.toNat v146)]!.1, ((x142.set (Int.toNat v146) (v145, x142[(Int.toNat v146)]!.2.1, x142[(Int.toNat v146)]!.2.2)).set (Int.toNat v146) ((x142.set (Int.toNat v146) (v145, x142[(Int.toNat v146)]!.2.1, x142[(Int.toNat v146)]!.2.2))[(Int.toNat v146)]!.1, x187, (x142.set (Int.toNat v146) (v145, x142[(Int.toNat v146)]!.2.1, x142[(Int.toNat v146)]!.2.2))[(Int.toNat v146)]!.2.2))[(Int.toNat v146)]!.2.1, x204)), (((y143.set (Int.toNat v146) (v145, (y143)[(Int.toNat v146)]!.2.1, (y143)[(Int.toNat v146)]!.2.2)).set (Int.toNat v146) (Rs.rset ((y143.set (Int.toNat v146) (v145, (y143)[(Int.toNat v146)]!.2.1, (y143)[(Int.toNat v146)]!.2.2)))[(Int.toNat v146)]! 0 x187)).set (Int.toNat v146) (Rs.rset (((y143.set (Int.toNat v146) (v145, (y143)[(Int.toNat v146)]!.2.1, (y143)[(Int.toNat v146)]!.2.2)).set (Int.toNat v146) (Rs.rset ((y143.set (Int.toNat v146) (v145, (y143)[(Int.toNat v146)]!.2.1, (y143)[(Int.toNat v146)]!.2.2)))[(Int.toNat v146)]! 0 x187)))[(Int.toNat v146)]! 1 x204)), r203, (v146 + 1)), hm.2, ⟨rfl, rfl, rfl, trivial⟩, ⟨hm.1, he207, hB205, hS206⟩⟩
    · replace hm := hm.2 h157
      refine w_exit ?_
      exact ⟨(x142, y143, v145), ⟨rfl, trivial⟩, ⟨hm, he144, hB152, hS153⟩⟩
  · rintro ⟨x136, y137, v139⟩ b_ w209 ⟨hm, he138, hB210, hS211⟩
    show Wp _ _ _ _ (upds b_ [(1, .int .i64 v139)]) w209
    refine w_seq fun K212 hK212 => ?_
    refine w_region ?_
    refine wl_val (g_move (v := .int .i64 v139) rfl) rfl ?_
    refine wl_val (g_assign (v := .int .i64 v139) rfl) rfl ?_
    refine wl_nil ?_
    refine hK212 _ _ ?_
    refine w_ret ?_
    repeat first | with_reducible refine q_then ?_ | with_reducible refine q_block ?_
    exact ret1 rfl (by decide) ⟨_, _, _, hm, he138, rfl, hB210, hS211⟩

theorem m_laws_heldIntS_fn {w : World} {a0 : Option Addr} {n0 c0 : Nat} {p0 : List Int} {Q : Int → Prop} (hp0 : Vw w.heap.size w a0 n0 c0 p0) (p1 : Int) (hm : m_laws_heldIntS p0 p1 Q) :
    Fn Try.prog 25 #[.slice a0 n0 c0, .int .i64 p1] w (fun v w' => ∃ (r0 : Int), Q r0 ∧ v = .int .i64 r0 ∧ Ext w w') := by
  unfold m_laws_heldIntS at hm
  have hB0 := Below.refl w.heap.size w
  have hS0 : Sep w w.heap.size [] := Sep.nil (Nat.le_refl _)
  refine fn_of_wp Try.func25 rfl (by kernel_rfl) (Nat.le_of_ble_eq_true rfl) ?_
  refine w_seq fun K1 hK1 => ?_
  refine w_region ?_
  refine wl_val (g_assign (v := .int .i64 0) rfl) rfl ?_
  refine wl_nil ?_
  refine hK1 _ _ ?_
  refine w_cut (σ := Int) (fun v44 => [(1, .int .i64 v44)]) (fun v44 w' => m_laws_heldIntS_K0 Q v44 ∧ Below w.heap.size w w' ∧ Sep w' w.heap.size []) ?_ ?_
  · refine w_seq fun K46 hK46 => ?_
    refine w_region ?_
    refine wl_val (g_assign (v := .int .i64 0) rfl) rfl ?_
    refine wl_nil ?_
    refine hK46 _ _ ?_
    refine w_block ?_
    obtain ⟨I49, μ50, h051, hr52⟩ := hm
    refine w_for (σ := Int × Int) (fun ⟨v47, v48⟩ => [(0, .slice a0 n0 c0), (1, .int .i64 v47), (5, .int .i64 v48)]) (fun ⟨v47, v48⟩ w' => I49 v47 v48 ∧ Below w.heap.size w w' ∧ Sep w' w.heap.size []) (fun ⟨v47, v48⟩ => μ50 v47 v48) (p1, 0) ⟨rfl, rfl, rfl, trivial⟩ ⟨h051, hB0, hS0⟩ ?_
    rintro ⟨v47, v48⟩ b_ w53 ⟨hi_, hB54, hS55⟩
    show Wp _ _ _ _ (upds b_ [(0, .slice a0 n0 c0), (1, .int .i64 v47), (5, .int .i64 v48)]) w53
    have hm := hr52 v47 v48 hi_
    refine w_seq fun K57 hK57 => ?_
    refine w_seq fun K58 hK58 => ?_
    refine w_region ?_
    refine wl_val (g_move (v := .int .i64 v48) rfl) rfl ?_
    refine wl_val (g_move (v := .slice a0 n0 c0) rfl) rfl ?_
    refine wl_val (q_len SL24 rfl (Vw.len (hp0.bel hB54))) rfl ?_
    refine wl_val (g_lss (a := v48) (b := (p0.length : Int)) rfl rfl) rfl ?_
    refine wl_nil ?_
    refine hK58 _ _ ?_
    refine w_condI (p := v48 < (p0.length : Int)) (b := (decide (v48 < (p0.length : Int)))) rfl decide_eq_true_iff (fun h59 => ?_) (fun h59 => ?_)
    · replace hm := hm.1 h59
      refine w_skip ?_
      refine hK57 _ _ ?_
      refine w_seq fun K60 hK60 => ?_
      refine w_block ?_
      refine w_seq fun K61 hK61 => ?_
      refine w_seq fun K62 hK62 => ?_
      refine w_region ?_
      refine wl_val (g_move (v := .slice a0 n0 c0) rfl) rfl ?_
      refine wl_val (g_move (v := .int .i64 v48) rfl) rfl ?_
      obtain ⟨hg63, hm⟩ := hm
      refine wl_val (q_index (i := v48) SL24 rfl rfl (hp0.bel hB54) hg63) rfl ?_
      refine wl_val (q_load (i := v48) (v := .int .i64 (p0[(Int.toNat v48)]!)) ON3 (hp0.bel hB54) hg63 rfl rfl) rfl ?_
      refine wl_val (g_move (v := .int .i64 v47) rfl) rfl ?_
      refine wl_val (g_neq (a := p0[(Int.toNat v48)]!) (b := v47) rfl rfl) rfl ?_
      refine wl_nil ?_
      refine hK62 _ _ ?_
      refine w_condI (p := p0[(Int.toNat v48)]! ≠ v47) (b := (decide (p0[(Int.toNat v48)]! ≠ v47))) rfl decide_eq_true_iff (fun h64 => ?_) (fun h64 => ?_)
      · replace hm := hm.1 h64
        refine w_seq fun K65 hK65 => ?_
        refine w_region ?_
        refine wl_val (g_assign (v := .int .i64 (-1)) rfl) rfl ?_
        refine wl_nil ?_
        refine hK65 _ _ ?_
        refine w_ret ?_
        repeat first | with_reducible refine q_then ?_ | with_reducible refine q_block ?_
        exact ret1 rfl (by decide) ⟨_, hm, rfl, toExt hB54⟩
      · replace hm := hm.2 h64
        refine w_skip ?_
        refine hK61 _ _ ?_
        refine w_region ?_
        refine wl_val (g_move (v := .int .i64 v47) rfl) rfl ?_
        obtain ⟨hg66, hm⟩ := hm
        refine wl_val (g_add (a := v47) (b := 1) rfl rfl hg66) rfl ?_
        refine wl_val (g_assign (v := .int .i64 (v47 + 1)) rfl) rfl ?_
        refine wl_nil ?_
        refine hK60 _ _ ?_
        refine w_region ?_
        refine wl_val (g_move (v := .int .i64 v48) rfl) rfl ?_
        obtain ⟨hg67, hm⟩ := hm
        refine wl_val (g_add (a := v48) (b := 1) rfl rfl hg67) rfl ?_
        refine wl_val (g_assign (v := .int .i64 (v48 + 1)) rfl) rfl ?_
        refine wl_nil ?_
        exact ⟨((v47 + 1), (v48 + 1)), hm.2, ⟨rfl, rfl, rfl, trivial⟩, ⟨hm.1, hB54, hS55⟩⟩
    · replace hm := hm.2 h59
      refine w_exit ?_
      exact ⟨(v47), ⟨rfl, trivial⟩, ⟨hm, hB54, hS55⟩⟩
  · rintro v44 b_ w68 ⟨hm, hB69, hS70⟩
    show Wp _ _ _ _ (upds b_ [(1, .int .i64 v44)]) w68
    refine w_seq fun K71 hK71 => ?_
    refine w_region ?_
    refine wl_val (g_move (v := .int .i64 v44) rfl) rfl ?_
    refine wl_val (g_assign (v := .int .i64 v44) rfl) rfl ?_
    refine wl_nil ?_
    refine hK71 _ _ ?_
    refine w_ret ?_
    repeat first | with_reducible refine q_then ?_ | with_reducible refine q_block ?_
    exact ret1 rfl (by decide) ⟨_, hm, rfl, toExt hB69⟩

end Go.Proofs.Ythmemoealgieaaa
