/- The walks: the code does what its model says. Printed by a program (gen2.py). No statement of the claim stands here. -/
import Derived.Test.YtddjkiefadiijaaSop
import Derived.Test.YtddjkiefadiijaaFacts
import Derived.Test.YtddjkiefadiijaaMG
namespace Go.Proofs.Ytddjkiefadiijaa
open Go Go.RowKit
set_option maxRecDepth 100000
theorem m_laws_szIntS_fn {w : World} {a0 : Option Addr} {n0 c0 : Nat} {p0 : List Int} {Q : Int → Prop} (hp0 : Vw w.heap.size w a0 n0 c0 p0) (p1 : Int) (hm : m_laws_szIntS p0 p1 Q) :
    Fn Try.prog 73 #[.slice a0 n0 c0, .int .i64 p1] w (fun v w' => ∃ (r0 : Int), Q r0 ∧ v = .int .i64 r0 ∧ Ext w w') := by
  unfold m_laws_szIntS at hm
  have hB0 := Below.refl w.heap.size w
  have hS0 : Sep w w.heap.size [] := Sep.nil (Nat.le_refl _)
  refine fn_of_wp Try.func73 rfl (by kernel_rfl) (Nat.le_of_ble_eq_true rfl) ?_
  refine w_seq fun K1 hK1 => ?_
  refine w_region ?_
  refine wl_val (g_assign (v := .int .i64 0) rfl) rfl ?_
  refine wl_nil ?_
  refine hK1 _ _ ?_
  refine w_seq fun K2 hK2 => ?_
  refine w_region ?_
  refine wl_val (g_move (v := .int .i64 p1) rfl) rfl ?_
  refine wl_val (g_move (v := .slice a0 n0 c0) rfl) rfl ?_
  refine wl_val (q_len SL23 rfl (Vw.len (hp0.bel hB0))) rfl ?_
  obtain ⟨hg3, hm⟩ := hm
  refine wl_val (g_sub (a := p1) (b := (p0.length : Int)) rfl rfl hg3) rfl ?_
  refine wl_val (g_assign (v := .int .i64 (p1 - (p0.length : Int))) rfl) rfl ?_
  refine wl_nil ?_
  refine hK2 _ _ ?_
  refine w_seq fun K4 hK4 => ?_
  refine w_seq fun K5 hK5 => ?_
  refine w_region ?_
  refine wl_val (g_move (v := .int .i64 (p1 - (p0.length : Int))) rfl) rfl ?_
  refine wl_val (g_lss (a := (p1 - (p0.length : Int))) (b := 0) rfl rfl) rfl ?_
  refine wl_nil ?_
  refine hK5 _ _ ?_
  refine w_condI (p := (p1 - (p0.length : Int)) < 0) (b := (decide ((p1 - (p0.length : Int)) < 0))) rfl decide_eq_true_iff (fun h6 => ?_) (fun h6 => ?_)
  · replace hm := hm.1 h6
    refine w_seq fun K7 hK7 => ?_
    refine w_region ?_
    refine wl_val (g_assign (v := .int .i64 (-1)) rfl) rfl ?_
    refine wl_nil ?_
    refine hK7 _ _ ?_
    refine w_ret ?_
    repeat first | with_reducible refine q_then ?_ | with_reducible refine q_block ?_
    exact ret1 rfl (by decide) ⟨_, hm, rfl, toExt hB0⟩
  · replace hm := hm.2 h6
    refine w_skip ?_
    refine hK4 _ _ ?_
    refine w_seq fun K8 hK8 => ?_
    refine w_region ?_
    refine wl_val (g_move (v := .int .i64 (p1 - (p0.length : Int))) rfl) rfl ?_
    refine wl_val (g_assign (v := .int .i64 (p1 - (p0.length : Int))) rfl) rfl ?_
    refine wl_nil ?_
    refine hK8 _ _ ?_
    refine w_ret ?_
    repeat first | with_reducible refine q_then ?_ | with_reducible refine q_block ?_
    exact ret1 rfl (by decide) ⟨_, hm, rfl, toExt hB0⟩

theorem m_laws_szPlayer_fn {w : World} {a0_0 : Option Addr} {n0_0 c0_0 : Nat} {Q : Int → Prop} (p0 : PlayerC) (hp0_0 : Vw w.heap.size w a0_0 n0_0 c0_0 p0.1) (p1 : Int) (hm : m_laws_szPlayer p0 p1 Q) :
    Fn Try.prog 56 #[.agg #[.slice a0_0 n0_0 c0_0, .int .i64 p0.2], .int .i64 p1] w (fun v w' => ∃ (r0 : Int), Q r0 ∧ v = .int .i64 r0 ∧ Ext w w') := by
  unfold m_laws_szPlayer at hm
  have hB0 := Below.refl w.heap.size w
  have hS0 : Sep w w.heap.size [] := Sep.nil (Nat.le_refl _)
  refine fn_of_wp Try.func56 rfl (by kernel_rfl) (Nat.le_of_ble_eq_true rfl) ?_
  refine w_seq fun K1 hK1 => ?_
  refine w_region ?_
  refine wl_step rfl (q_box (cs := #[.slice a0_0 n0_0 c0_0, .int .i64 p0.2]) rfl rfl hS0) ?_
  rintro _ w2 ⟨g3, rfl, hS5, hE4⟩
  have hB7 := hB0.trans (Ext.stp hE4 hS0.base)
  refine wl_val (g_assign (v := .int .i64 0) rfl) rfl ?_
  refine wl_nil ?_
  refine hK1 _ _ ?_
  refine w_seq fun K8 hK8 => ?_
  refine w_region ?_
  refine wl_val (g_fieldAddr (q := (⟨g3, 0, none⟩ : Addr)) FL64_0 ON23 rfl) rfl ?_
  refine wl_val (q_loadB (i := 0) (bs := #[.slice a0_0 n0_0 c0_0, .int .i64 p0.2]) hS5.g0 ON23 rfl rfl) rfl ?_
  refine wl_val (g_move (v := .int .i64 p1) rfl) rfl ?_
  refine wl_step rfl (g_call (vs := #[.slice a0_0 n0_0 c0_0, .int .i64 p1]) CF73 (args2 rfl rfl) (m_laws_szIntS_fn ((hp0_0.bel hB7).up hS5) p1 hm)) ?_
  rintro _ w9 ⟨r12, hm, rfl, hE10⟩
  have hB13 := hB7.trans (Ext.stp hE10 hS5.base)
  have hS14 := hS5.ext hE10
  refine wl_val (g_assign (v := .int .i64 r12) rfl) rfl ?_
  refine wl_nil ?_
  refine hK8 _ _ ?_
  refine w_seq fun K15 hK15 => ?_
  refine w_seq fun K16 hK16 => ?_
  refine w_region ?_
  refine wl_val (g_move (v := .int .i64 r12) rfl) rfl ?_
  refine wl_val (g_lss (a := r12) (b := 0) rfl rfl) rfl ?_
  refine wl_nil ?_
  refine hK16 _ _ ?_
  refine w_condI (p := r12 < 0) (b := (decide (r12 < 0))) rfl decide_eq_true_iff (fun h17 => ?_) (fun h17 => ?_)
  · replace hm := hm.1 h17
    refine w_seq fun K18 hK18 => ?_
    refine w_region ?_
    refine wl_val (g_assign (v := .int .i64 (-1)) rfl) rfl ?_
    refine wl_nil ?_
    refine hK18 _ _ ?_
    refine w_ret ?_
    repeat first | with_reducible refine q_then ?_ | with_reducible refine q_block ?_
    exact ret1 rfl (by decide) ⟨_, hm, rfl, toExt hB13⟩
  · replace hm := hm.2 h17
    refine w_skip ?_
    refine hK15 _ _ ?_
    refine w_seq fun K19 hK19 => ?_
    refine w_region ?_
    refine wl_val (g_move (v := .int .i64 r12) rfl) rfl ?_
    refine wl_val (g_assign (v := .int .i64 r12) rfl) rfl ?_
    refine wl_nil ?_
    refine hK19 _ _ ?_
    refine w_ret ?_
    repeat first | with_reducible refine q_then ?_ | with_reducible refine q_block ?_
    exact ret1 rfl (by decide) ⟨_, hm, rfl, toExt hB13⟩

theorem m_laws_szPlayerS_fn {w : World} {a0 : Option Addr} {n0 c0 : Nat} {y0 : List PlayerD} {p0 : List PlayerC} {Q : Int → Prop} (hp0 : Tv w.heap.size w a0 n0 c0 y0 p0) (p1 : Int) (hm : m_laws_szPlayerS p0 p1 Q) :
    Fn Try.prog 12 #[.slice a0 n0 c0, .int .i64 p1] w (fun v w' => ∃ (r0 : Int), Q r0 ∧ v = .int .i64 r0 ∧ Ext w w') := by
  unfold m_laws_szPlayerS at hm
  have hB0 := Below.refl w.heap.size w
  have hS0 : Sep w w.heap.size [] := Sep.nil (Nat.le_refl _)
  refine fn_of_wp Try.func12 rfl (by kernel_rfl) (Nat.le_of_ble_eq_true rfl) ?_
  refine w_seq fun K1 hK1 => ?_
  refine w_region ?_
  refine wl_val (g_assign (v := .int .i64 0) rfl) rfl ?_
  refine wl_nil ?_
  refine hK1 _ _ ?_
  refine w_seq fun K2 hK2 => ?_
  refine w_region ?_
  refine wl_val (g_move (v := .int .i64 p1) rfl) rfl ?_
  refine wl_val (g_move (v := .slice a0 n0 c0) rfl) rfl ?_
  refine wl_val (q_len SL22 rfl (Tv.len (hp0.bel hB0))) rfl ?_
  obtain ⟨hg3, hm⟩ := hm
  refine wl_val (g_sub (a := p1) (b := (p0.length : Int)) rfl rfl hg3) rfl ?_
  refine wl_val (g_assign (v := .int .i64 (p1 - (p0.length : Int))) rfl) rfl ?_
  refine wl_nil ?_
  refine hK2 _ _ ?_
  refine w_seq fun K4 hK4 => ?_
  refine w_seq fun K5 hK5 => ?_
  refine w_region ?_
  refine wl_val (g_move (v := .int .i64 (p1 - (p0.length : Int))) rfl) rfl ?_
  refine wl_val (g_lss (a := (p1 - (p0.length : Int))) (b := 0) rfl rfl) rfl ?_
  refine wl_nil ?_
  refine hK5 _ _ ?_
  refine w_condI (p := (p1 - (p0.length : Int)) < 0) (b := (decide ((p1 - (p0.length : Int)) < 0))) rfl decide_eq_true_iff (fun h6 => ?_) (fun h6 => ?_)
  · replace hm := hm.1 h6
    refine w_seq fun K7 hK7 => ?_
    refine w_region ?_
    refine wl_val (g_assign (v := .int .i64 (-1)) rfl) rfl ?_
    refine wl_nil ?_
    refine hK7 _ _ ?_
    refine w_ret ?_
    repeat first | with_reducible refine q_then ?_ | with_reducible refine q_block ?_
    exact ret1 rfl (by decide) ⟨_, hm, rfl, toExt hB0⟩
  · replace hm := hm.2 h6
    refine w_skip ?_
    refine hK4 _ _ ?_
    refine w_cut (σ := Int) (fun v60 => [(1, .int .i64 v60)]) (fun v60 w' => m_laws_szPlayerS_K0 Q v60 ∧ Below w.heap.size w w' ∧ Sep w' w.heap.size []) ?_ ?_
    · refine w_seq fun K62 hK62 => ?_
      refine w_region ?_
      refine wl_val (g_assign (v := .int .i64 0) rfl) rfl ?_
      refine wl_nil ?_
      refine hK62 _ _ ?_
      refine w_block ?_
      obtain ⟨I65, μ66, h067, hr68⟩ := hm
      refine w_for (σ := Int × Int) (fun ⟨v63, v64⟩ => [(0, .slice a0 n0 c0), (1, .int .i64 v63), (5, .int .i64 v64)]) (fun ⟨v63, v64⟩ w' => I65 v63 v64 ∧ Below w.heap.size w w' ∧ Sep w' w.heap.size []) (fun ⟨v63, v64⟩ => μ66 v63 v64) ((p1 - (p0.length : Int)), 0) ⟨rfl, rfl, rfl, trivial⟩ ⟨h067, hB0, hS0⟩ ?_
      rintro ⟨v63, v64⟩ b_ w69 ⟨hi_, hB70, hS71⟩
      show Wp _ _ _ _ (upds b_ [(0, .slice a0 n0 c0), (1, .int .i64 v63), (5, .int .i64 v64)]) w69
      have hm := hr68 v63 v64 hi_
      refine w_seq fun K73 hK73 => ?_
      refine w_seq fun K74 hK74 => ?_
      refine w_region ?_
      refine wl_val (g_move (v := .int .i64 v64) rfl) rfl ?_
      refine wl_val (g_move (v := .slice a0 n0 c0) rfl) rfl ?_
      refine wl_val (q_len SL22 rfl (Tv.len (hp0.bel hB70))) rfl ?_
      refine wl_val (g_lss (a := v64) (b := (p0.length : Int)) rfl rfl) rfl ?_
      refine wl_nil ?_
      refine hK74 _ _ ?_
      refine w_condI (p := v64 < (p0.length : Int)) (b := (decide (v64 < (p0.length : Int)))) rfl decide_eq_true_iff (fun h75 => ?_) (fun h75 => ?_)
      · replace hm := hm.1 h75
        refine w_skip ?_
        refine hK73 _ _ ?_
        refine w_seq fun K76 hK76 => ?_
        refine w_block ?_
        refine w_seq fun K77 hK77 => ?_
        refine w_region ?_
        refine wl_val (g_move (v := .slice a0 n0 c0) rfl) rfl ?_
        refine wl_val (g_move (v := .int .i64 v64) rfl) rfl ?_
        obtain ⟨hg78, hm⟩ := hm
        refine wl_val (q_index (i := v64) SL22 rfl rfl (Tv.o (hp0.bel hB70)) (Tv.g (hp0.bel hB70) hg78)) rfl ?_
        refine wl_val (q_loadS (i := v64) (cs := [.slice ((y0[(Int.toNat v64)]!).1.1) ((y0[(Int.toNat v64)]!).1.2.2.length) ((y0[(Int.toNat v64)]!).1.2.1), .int .i64 (p0[(Int.toNat v64)]!.2)]) AG64 (Tv.o (hp0.bel hB70)) (Tv.g (hp0.bel hB70) hg78) (by rw [← Tv.free (hp0.bel hB70) hg78]; rfl) rfl) rfl ?_
        refine wl_val (g_move (v := .int .i64 v63) rfl) rfl ?_
        refine wl_step rfl (g_call (vs := #[.agg #[.slice ((y0[(Int.toNat v64)]!).1.1) ((y0[(Int.toNat v64)]!).1.2.2.length) ((y0[(Int.toNat v64)]!).1.2.1), .int .i64 (p0[(Int.toNat v64)]!.2)], .int .i64 v63]) CF56 (args2 rfl rfl) (m_laws_szPlayer_fn (p0[(Int.toNat v64)]!) ((Tv.rowP (hp0.bel hB70) hg78).up hS71) v63 hm)) ?_
        rintro _ w79 ⟨r82, hm, rfl, hE80⟩
        have hB83 := hB70.trans (Ext.stp hE80 hS71.base)
        have hS84 := hS71.ext hE80
        refine wl_val (g_assign (v := .int .i64 r82) rfl) rfl ?_
        refine wl_nil ?_
        refine hK77 _ _ ?_
        refine w_seq fun K85 hK85 => ?_
        refine w_region ?_
        refine wl_val (g_move (v := .int .i64 r82) rfl) rfl ?_
        refine wl_val (g_lss (a := r82) (b := 0) rfl rfl) rfl ?_
        refine wl_nil ?_
        refine hK85 _ _ ?_
        refine w_condI (p := r82 < 0) (b := (decide (r82 < 0))) rfl decide_eq_true_iff (fun h86 => ?_) (fun h86 => ?_)
        · replace hm := hm.1 h86
          refine w_seq fun K87 hK87 => ?_
          refine w_region ?_
          refine wl_val (g_assign (v := .int .i64 (-1)) rfl) rfl ?_
          refine wl_nil ?_
          refine hK87 _ _ ?_
          refine w_ret ?_
          repeat first | with_reducible refine q_then ?_ | with_reducible refine q_block ?_
          exact ret1 rfl (by decide) ⟨_, hm, rfl, toExt hB83⟩
        · replace hm := hm.2 h86
          refine w_skip ?_
          refine hK76 _ _ ?_
          refine w_region ?_
          refine wl_val (g_move (v := .int .i64 v64) rfl) rfl ?_
          obtain ⟨hg88, hm⟩ := hm
          refine wl_val (g_add (a := v64) (b := 1) rfl rfl hg88) rfl ?_
          refine wl_val (g_assign (v := .int .i64 (v64 + 1)) rfl) rfl ?_
          refine wl_nil ?_
          exact ⟨(r82, (v64 + 1)), hm.2, ⟨rfl, rfl, rfl, trivial⟩, ⟨hm.1, hB83, hS84⟩⟩
      · replace hm := hm.2 h75
        refine w_exit ?_
        exact ⟨(v63), ⟨rfl, trivial⟩, ⟨hm, hB70, hS71⟩⟩
    · rintro v60 b_ w89 ⟨hm, hB90, hS91⟩
      show Wp _ _ _ _ (upds b_ [(1, .int .i64 v60)]) w89
      refine w_seq fun K92 hK92 => ?_
      refine w_region ?_
      refine wl_val (g_move (v := .int .i64 v60) rfl) rfl ?_
      refine wl_val (g_assign (v := .int .i64 v60) rfl) rfl ?_
      refine wl_nil ?_
      refine hK92 _ _ ?_
      refine w_ret ?_
      repeat first | with_reducible refine q_then ?_ | with_reducible refine q_block ?_
      exact ret1 rfl (by decide) ⟨_, hm, rfl, toExt hB90⟩

theorem m_laws_szIntSS_fn {w : World} {a0 : Option Addr} {n0 c0 : Nat} {y0 : List (Hd Int)} {p0 : List (List Int)} {Q : Int → Prop} (hp0 : Tv w.heap.size w a0 n0 c0 y0 p0) (p1 : Int) (hm : m_laws_szIntSS p0 p1 Q) :
    Fn Try.prog 31 #[.slice a0 n0 c0, .int .i64 p1] w (fun v w' => ∃ (r0 : Int), Q r0 ∧ v = .int .i64 r0 ∧ Ext w w') := by
  unfold m_laws_szIntSS at hm
  have hB0 := Below.refl w.heap.size w
  have hS0 : Sep w w.heap.size [] := Sep.nil (Nat.le_refl _)
  refine fn_of_wp Try.func31 rfl (by kernel_rfl) (Nat.le_of_ble_eq_true rfl) ?_
  refine w_seq fun K1 hK1 => ?_
  refine w_region ?_
  refine wl_val (g_assign (v := .int .i64 0) rfl) rfl ?_
  refine wl_nil ?_
  refine hK1 _ _ ?_
  refine w_seq fun K2 hK2 => ?_
  refine w_region ?_
  refine wl_val (g_move (v := .int .i64 p1) rfl) rfl ?_
  refine wl_val (g_move (v := .slice a0 n0 c0) rfl) rfl ?_
  refine wl_val (q_len SL37 rfl (Tv.len (hp0.bel hB0))) rfl ?_
  obtain ⟨hg3, hm⟩ := hm
  refine wl_val (g_sub (a := p1) (b := (p0.length : Int)) rfl rfl hg3) rfl ?_
  refine wl_val (g_assign (v := .int .i64 (p1 - (p0.length : Int))) rfl) rfl ?_
  refine wl_nil ?_
  refine hK2 _ _ ?_
  refine w_seq fun K4 hK4 => ?_
  refine w_seq fun K5 hK5 => ?_
  refine w_region ?_
  refine wl_val (g_move (v := .int .i64 (p1 - (p0.length : Int))) rfl) rfl ?_
  refine wl_val (g_lss (a := (p1 - (p0.length : Int))) (b := 0) rfl rfl) rfl ?_
  refine wl_nil ?_
  refine hK5 _ _ ?_
  refine w_condI (p := (p1 - (p0.length : Int)) < 0) (b := (decide ((p1 - (p0.length : Int)) < 0))) rfl decide_eq_true_iff (fun h6 => ?_) (fun h6 => ?_)
  · replace hm := hm.1 h6
    refine w_seq fun K7 hK7 => ?_
    refine w_region ?_
    refine wl_val (g_assign (v := .int .i64 (-1)) rfl) rfl ?_
    refine wl_nil ?_
    refine hK7 _ _ ?_
    refine w_ret ?_
    repeat first | with_reducible refine q_then ?_ | with_reducible refine q_block ?_
    exact ret1 rfl (by decide) ⟨_, hm, rfl, toExt hB0⟩
  · replace hm := hm.2 h6
    refine w_skip ?_
    refine hK4 _ _ ?_
    refine w_cut (σ := Int) (fun v60 => [(1, .int .i64 v60)]) (fun v60 w' => m_laws_szIntSS_K0 Q v60 ∧ Below w.heap.size w w' ∧ Sep w' w.heap.size []) ?_ ?_
    · refine w_seq fun K62 hK62 => ?_
      refine w_region ?_
      refine wl_val (g_assign (v := .int .i64 0) rfl) rfl ?_
      refine wl_nil ?_
      refine hK62 _ _ ?_
      refine w_block ?_
      obtain ⟨I65, μ66, h067, hr68⟩ := hm
      refine w_for (σ := Int × Int) (fun ⟨v63, v64⟩ => [(0, .slice a0 n0 c0), (1, .int .i64 v63), (5, .int .i64 v64)]) (fun ⟨v63, v64⟩ w' => I65 v63 v64 ∧ Below w.heap.size w w' ∧ Sep w' w.heap.size []) (fun ⟨v63, v64⟩ => μ66 v63 v64) ((p1 - (p0.length : Int)), 0) ⟨rfl, rfl, rfl, trivial⟩ ⟨h067, hB0, hS0⟩ ?_
      rintro ⟨v63, v64⟩ b_ w69 ⟨hi_, hB70, hS71⟩
      show Wp _ _ _ _ (upds b_ [(0, .slice a0 n0 c0), (1, .int .i64 v63), (5, .int .i64 v64)]) w69
      have hm := hr68 v63 v64 hi_
      refine w_seq fun K73 hK73 => ?_
      refine w_seq fun K74 hK74 => ?_
      refine w_region ?_
      refine wl_val (g_move (v := .int .i64 v64) rfl) rfl ?_
      refine wl_val (g_move (v := .slice a0 n0 c0) rfl) rfl ?_
      refine wl_val (q_len SL37 rfl (Tv.len (hp0.bel hB70))) rfl ?_
      refine wl_val (g_lss (a := v64) (b := (p0.length : Int)) rfl rfl) rfl ?_
      refine wl_nil ?_
      refine hK74 _ _ ?_
      refine w_condI (p := v64 < (p0.length : Int)) (b := (decide (v64 < (p0.length : Int)))) rfl decide_eq_true_iff (fun h75 => ?_) (fun h75 => ?_)
      · replace hm := hm.1 h75
        refine w_skip ?_
        refine hK73 _ _ ?_
        refine w_seq fun K76 hK76 => ?_
        refine w_block ?_
        refine w_seq fun K77 hK77 => ?_
        refine w_region ?_
        refine wl_val (g_move (v := .slice a0 n0 c0) rfl) rfl ?_
        refine wl_val (g_move (v := .int .i64 v64) rfl) rfl ?_
        obtain ⟨hg78, hm⟩ := hm
        refine wl_val (q_index (i := v64) SL37 rfl rfl (Tv.o (hp0.bel hB70)) (Tv.g (hp0.bel hB70) hg78)) rfl ?_
        refine wl_val (q_load (i := v64) (v := .slice ((y0[(Int.toNat v64)]!).1) ((y0[(Int.toNat v64)]!).2.2.length) ((y0[(Int.toNat v64)]!).2.1)) ON23 (Tv.o (hp0.bel hB70)) (Tv.g (hp0.bel hB70) hg78) rfl rfl) rfl ?_
        refine wl_val (g_move (v := .int .i64 v63) rfl) rfl ?_
        refine wl_step rfl (g_call (vs := #[.slice ((y0[(Int.toNat v64)]!).1) ((y0[(Int.toNat v64)]!).2.2.length) ((y0[(Int.toNat v64)]!).2.1), .int .i64 v63]) CF73 (args2 rfl rfl) (m_laws_szIntS_fn ((Tv.row (hp0.bel hB70) hg78).up hS71) v63 hm)) ?_
        rintro _ w79 ⟨r82, hm, rfl, hE80⟩
        have hB83 := hB70.trans (Ext.stp hE80 hS71.base)
        have hS84 := hS71.ext hE80
        refine wl_val (g_assign (v := .int .i64 r82) rfl) rfl ?_
        refine wl_nil ?_
        refine hK77 _ _ ?_
        refine w_seq fun K85 hK85 => ?_
        refine w_region ?_
        refine wl_val (g_move (v := .int .i64 r82) rfl) rfl ?_
        refine wl_val (g_lss (a := r82) (b := 0) rfl rfl) rfl ?_
        refine wl_nil ?_
        refine hK85 _ _ ?_
        refine w_condI (p := r82 < 0) (b := (decide (r82 < 0))) rfl decide_eq_true_iff (fun h86 => ?_) (fun h86 => ?_)
        · replace hm := hm.1 h86
          refine w_seq fun K87 hK87 => ?_
          refine w_region ?_
          refine wl_val (g_assign (v := .int .i64 (-1)) rfl) rfl ?_
          refine wl_nil ?_
          refine hK87 _ _ ?_
          refine w_ret ?_
          repeat first | with_reducible refine q_then ?_ | with_reducible refine q_block ?_
          exact ret1 rfl (by decide) ⟨_, hm, rfl, toExt hB83⟩
        · replace hm := hm.2 h86
          refine w_skip ?_
          refine hK76 _ _ ?_
          refine w_region ?_
          refine wl_val (g_move (v := .int .i64 v64) rfl) rfl ?_
          obtain ⟨hg88, hm⟩ := hm
          refine wl_val (g_add (a := v64) (b := 1) rfl rfl hg88) rfl ?_
          refine wl_val (g_assign (v := .int .i64 (v64 + 1)) rfl) rfl ?_
          refine wl_nil ?_
          exact ⟨(r82, (v64 + 1)), hm.2, ⟨rfl, rfl, rfl, trivial⟩, ⟨hm.1, hB83, hS84⟩⟩
      · replace hm := hm.2 h75
        refine w_exit ?_
        exact ⟨(v63), ⟨rfl, trivial⟩, ⟨hm, hB70, hS71⟩⟩
    · rintro v60 b_ w89 ⟨hm, hB90, hS91⟩
      show Wp _ _ _ _ (upds b_ [(1, .int .i64 v60)]) w89
      refine w_seq fun K92 hK92 => ?_
      refine w_region ?_
      refine wl_val (g_move (v := .int .i64 v60) rfl) rfl ?_
      refine wl_val (g_assign (v := .int .i64 v60) rfl) rfl ?_
      refine wl_nil ?_
      refine hK92 _ _ ?_
      refine w_ret ?_
      repeat first | with_reducible refine q_then ?_ | with_reducible refine q_block ?_
      exact ret1 rfl (by decide) ⟨_, hm, rfl, toExt hB90⟩

theorem m_laws_toIntS_fn {w : World} {a0 : Option Addr} {n0 c0 : Nat} {p0 : List Int} {Q : (List Int) → Prop} (hp0 : Vw w.heap.size w a0 n0 c0 p0) (hm : m_laws_toIntS p0 Q) :
    Fn Try.prog 15 #[.slice a0 n0 c0] w (fun v w' => ∃ (r0 : List Int) (a0 : Option Addr) (n0 c0 : Nat), Q r0 ∧ v = .slice a0 n0 c0 ∧ Ext w w' ∧ Sep w' w.heap.size [oS 3 a0 n0 c0 r0]) := by
  unfold m_laws_toIntS at hm
  have hB0 := Below.refl w.heap.size w
  have hS0 : Sep w w.heap.size [] := Sep.nil (Nat.le_refl _)
  refine fn_of_wp Try.func15 rfl (by kernel_rfl) (Nat.le_of_ble_eq_true rfl) ?_
  refine w_seq fun K1 hK1 => ?_
  refine w_region ?_
  refine wl_val (g_assign (v := .slice none 0 0) rfl) rfl ?_
  refine wl_nil ?_
  refine hK1 _ _ ?_
  refine w_seq fun K2 hK2 => ?_
  refine w_region ?_
  refine wl_val (g_move (v := .slice a0 n0 c0) rfl) rfl ?_
  refine wl_val (q_len SL23 rfl (Vw.len (hp0.bel hB0))) rfl ?_
  obtain ⟨hg3, hm⟩ := hm
  refine wl_step rfl (q_make (y := (0 : Int)) SL23 rfl rfl hg3.1 hg3.2 (by decide) hS0) ?_
  rintro _ w4 ⟨a5, rfl, hS7, hE6⟩
  have hB9 := hB0.trans (Ext.stp hE6 hS0.base)
  refine wl_val (g_assign (v := .slice a5 (Int.toNat (p0.length : Int)) (Int.toNat (p0.length : Int))) rfl) rfl ?_
  refine wl_nil ?_
  refine hK2 _ _ ?_
  refine w_cut (σ := List Int) (fun x52 => [(3, .slice a5 (Int.toNat (p0.length : Int)) (Int.toNat (p0.length : Int)))]) (fun x52 w' => m_laws_toIntS_K0 Q x52 ∧ Below w.heap.size w w' ∧ Sep w' w.heap.size [oS 3 a5 (Int.toNat (p0.length : Int)) (Int.toNat (p0.length : Int)) (x52 : List Int)]) ?_ ?_
  · refine w_seq fun K54 hK54 => ?_
    refine w_region ?_
    refine wl_val (g_assign (v := .int .i64 0) rfl) rfl ?_
    refine wl_nil ?_
    refine hK54 _ _ ?_
    refine w_block ?_
    obtain ⟨I57, μ58, h059, hr60⟩ := hm
    refine w_for (σ := List Int × Int) (fun ⟨x55, v56⟩ => [(0, .slice a0 n0 c0), (3, .slice a5 (Int.toNat (p0.length : Int)) (Int.toNat (p0.length : Int))), (4, .int .i64 v56)]) (fun ⟨x55, v56⟩ w' => I57 x55 v56 ∧ Below w.heap.size w w' ∧ Sep w' w.heap.size [oS 3 a5 (Int.toNat (p0.length : Int)) (Int.toNat (p0.length : Int)) (x55 : List Int)]) (fun ⟨x55, v56⟩ => μ58 x55 v56) (List.replicate (Int.toNat (p0.length : Int)) (0 : Int), 0) ⟨rfl, rfl, rfl, trivial⟩ ⟨h059, hB9, hS7⟩ ?_
    rintro ⟨x55, v56⟩ b_ w61 ⟨hi_, hB62, hS63⟩
    show Wp _ _ _ _ (upds b_ [(0, .slice a0 n0 c0), (3, .slice a5 (Int.toNat (p0.length : Int)) (Int.toNat (p0.length : Int))), (4, .int .i64 v56)]) w61
    have hm := hr60 x55 v56 hi_
    refine w_seq fun K65 hK65 => ?_
    refine w_seq fun K66 hK66 => ?_
    refine w_region ?_
    refine wl_val (g_move (v := .int .i64 v56) rfl) rfl ?_
    refine wl_val (g_move (v := .slice a0 n0 c0) rfl) rfl ?_
    refine wl_val (q_len SL23 rfl (Vw.len (hp0.bel hB62))) rfl ?_
    refine wl_val (g_lss (a := v56) (b := (p0.length : Int)) rfl rfl) rfl ?_
    refine wl_nil ?_
    refine hK66 _ _ ?_
    refine w_condI (p := v56 < (p0.length : Int)) (b := (decide (v56 < (p0.length : Int)))) rfl decide_eq_true_iff (fun h67 => ?_) (fun h67 => ?_)
    · replace hm := hm.1 h67
      refine w_skip ?_
      refine hK65 _ _ ?_
      refine w_seq fun K68 hK68 => ?_
      refine w_block ?_
      refine w_region ?_
      refine wl_val (g_move (v := .slice a5 (Int.toNat (p0.length : Int)) (Int.toNat (p0.length : Int))) rfl) rfl ?_
      refine wl_val (g_move (v := .int .i64 v56) rfl) rfl ?_
      refine wl_val (g_move (v := .slice a0 n0 c0) rfl) rfl ?_
      refine wl_val (g_move (v := .int .i64 v56) rfl) rfl ?_
      obtain ⟨hg69, hm⟩ := hm
      refine wl_val (q_index (i := v56) SL23 rfl rfl (hp0.bel hB62) hg69) rfl ?_
      refine wl_val (q_load (i := v56) (v := .int .i64 (p0[(Int.toNat v56)]!)) ON3 (hp0.bel hB62) hg69 rfl rfl) rfl ?_
      obtain ⟨hg70, hm⟩ := hm
      refine wl_val (q_index (i := v56) SL23 rfl rfl (oS.vw hS63.g0) hg70) rfl ?_
      refine wl_step rfl (q_store (i := v56) (v := (p0[(Int.toNat v56)]! : Int)) hS63 ON3.sz hg70 rfl rfl rfl) ?_
      rintro _ w71 ⟨rfl, hS72, hb73⟩
      have hB74 := hB62.trans hb73
      refine wl_nil ?_
      refine hK68 _ _ ?_
      refine w_region ?_
      refine wl_val (g_move (v := .int .i64 v56) rfl) rfl ?_
      obtain ⟨hg75, hm⟩ := hm
      refine wl_val (g_add (a := v56) (b := 1) rfl rfl hg75) rfl ?_
      refine wl_val (g_assign (v := .int .i64 (v56 + 1)) rfl) rfl ?_
      refine wl_nil ?_
      exact ⟨((x55.set (Int.toNat v56) (p0[(Int.toNat v56)]!)), (v56 + 1)), hm.2, ⟨rfl, rfl, rfl, trivial⟩, ⟨hm.1, hB74, hS72⟩⟩
    · replace hm := hm.2 h67
      refine w_exit ?_
      exact ⟨(x55), ⟨rfl, trivial⟩, ⟨hm, hB62, hS63⟩⟩
  · rintro x52 b_ w76 ⟨hm, hB77, hS78⟩
    show Wp _ _ _ _ (upds b_ [(3, .slice a5 (Int.toNat (p0.length : Int)) (Int.toNat (p0.length : Int)))]) w76
    refine w_seq fun K79 hK79 => ?_
    refine w_region ?_
    refine wl_val (g_move (v := .slice a5 (Int.toNat (p0.length : Int)) (Int.toNat (p0.length : Int))) rfl) rfl ?_
    refine wl_val (g_assign (v := .slice a5 (Int.toNat (p0.length : Int)) (Int.toNat (p0.length : Int))) rfl) rfl ?_
    refine wl_nil ?_
    refine hK79 _ _ ?_
    refine w_ret ?_
    repeat first | with_reducible refine q_then ?_ | with_reducible refine q_block ?_
    exact ret1 rfl (by decide) ⟨_, _, _, _, hm, rfl, toExt hB77, hS78⟩

theorem m_laws_toPlayer_fn {w : World} {a0_0 : Option Addr} {n0_0 c0_0 : Nat} {Q : PlayerC → Prop} (p0 : PlayerC) (hp0_0 : Vw w.heap.size w a0_0 n0_0 c0_0 p0.1) (hm : m_laws_toPlayer p0 Q) :
    Fn Try.prog 60 #[.agg #[.slice a0_0 n0_0 c0_0, .int .i64 p0.2]] w (fun v w' => ∃ (r0 : PlayerC) (y0 : PlayerD), Q r0 ∧ Er.er y0 = r0 ∧ v = .agg (El.enc y0).toArray ∧ Ext w w' ∧ Sep w' w.heap.size [oT 3 [y0]]) := by
  unfold m_laws_toPlayer at hm
  have hB0 := Below.refl w.heap.size w
  have hS0 : Sep w w.heap.size [] := Sep.nil (Nat.le_refl _)
  refine fn_of_wp Try.func60 rfl (by kernel_rfl) (Nat.le_of_ble_eq_true rfl) ?_
  refine w_seq fun K1 hK1 => ?_
  refine w_region ?_
  refine wl_step rfl (q_box (cs := #[.slice a0_0 n0_0 c0_0, .int .i64 p0.2]) rfl rfl hS0) ?_
  rintro _ w2 ⟨g3, rfl, hS5, hE4⟩
  have hB7 := hB0.trans (Ext.stp hE4 hS0.base)
  refine wl_step rfl (q_alloc (cs := #[.slice none 0 0, .int .i64 0]) ZR54 rfl hS5) ?_
  rintro _ w8 ⟨g9, rfl, hS11, hE10⟩
  have hB13 := hB7.trans (Ext.stp hE10 hS5.base)
  refine wl_nil ?_
  refine hK1 _ _ ?_
  refine w_seq fun K14 hK14 => ?_
  refine w_region ?_
  refine wl_step rfl (q_alloc (cs := #[.slice none 0 0, .int .i64 0]) ZR54 rfl hS11) ?_
  rintro _ w15 ⟨g16, rfl, hS18, hE17⟩
  have hB20 := hB13.trans (Ext.stp hE17 hS11.base)
  refine wl_nil ?_
  refine hK14 _ _ ?_
  refine w_seq fun K21 hK21 => ?_
  refine w_region ?_
  refine wl_val (g_fieldAddr (q := (⟨g3, 0, none⟩ : Addr)) FL64_0 ON23 rfl) rfl ?_
  refine wl_val (q_loadB (i := 0) (bs := #[.slice a0_0 n0_0 c0_0, .int .i64 p0.2]) hS18.g2 ON23 rfl rfl) rfl ?_
  refine wl_step rfl (g_call (vs := #[.slice a0_0 n0_0 c0_0]) CF15 (args1 rfl) (m_laws_toIntS_fn ((hp0_0.bel hB20).up hS18) hm)) ?_
  rintro _ w22 ⟨r25, a26, n27, c28, hm, rfl, hE23, hN24⟩
  have hS30 := hS18.call1 hE23 hN24
  have hB31 := hB20.trans (Ext.stp hE23 hS18.base)
  refine wl_val (g_fieldAddr (q := (⟨g16, 0, none⟩ : Addr)) FL54_0 ON23 rfl) rfl ?_
  have hS35 := hS30.f1
  refine wl_step rfl (q_storeB (i := 0) (bs' := #[.slice a26 n27 c28, .int .i64 0]) (vs := [.slice a26 n27 c28]) hS35 ON23.sz rfl rfl rfl (by simp [Value.oneCell']) (Nat.le_of_ble_eq_true rfl) rfl) ?_
  rintro _ w32 ⟨rfl, hS33, hb34⟩
  have hB36 := hB31.trans hb34
  refine wl_nil ?_
  refine hK21 _ _ ?_
  refine w_seq fun K37 hK37 => ?_
  refine w_region ?_
  refine wl_val (g_fieldAddr (q := (⟨g3, 0, none⟩ : Addr)) FL64_1 ON3 rfl) rfl ?_
  refine wl_val (q_loadB (i := 1) (bs := #[.slice a0_0 n0_0 c0_0, .int .i64 p0.2]) hS33.g3 ON3 rfl rfl) rfl ?_
  refine wl_val (g_fieldAddr (q := (⟨g16, 0, none⟩ : Addr)) FL54_1 ON3 rfl) rfl ?_
  refine wl_step rfl (q_storeB (i := 1) (bs' := #[.slice a26 n27 c28, .int .i64 p0.2]) (vs := [.int .i64 p0.2]) hS33 ON3.sz rfl rfl rfl (by simp [Value.oneCell']) (Nat.le_of_ble_eq_true rfl) rfl) ?_
  rintro _ w38 ⟨rfl, hS39, hb40⟩
  have hB41 := hB36.trans hb40
  refine wl_nil ?_
  refine hK37 _ _ ?_
  refine w_seq fun K42 hK42 => ?_
  refine w_region ?_
  refine wl_val (q_loadBS (bs := #[.slice a26 n27 c28, .int .i64 p0.2]) hS39.g0 AG54 rfl) rfl ?_
  have hS46 := hS39.f2
  refine wl_step rfl (q_storeB (i := 0) (bs' := #[.slice a26 n27 c28, .int .i64 p0.2]) (vs := [.slice a26 n27 c28, .int .i64 p0.2]) hS46 AG54.sz rfl rfl rfl (by simp [Value.oneCell']) (Nat.le_of_ble_eq_true rfl) rfl) ?_
  rintro _ w43 ⟨rfl, hS44, hb45⟩
  have hB47 := hB41.trans hb45
  refine wl_nil ?_
  refine hK42 _ _ ?_
  refine w_ret ?_
  have hS48 := hS44.f2
  have hn49 := oS.len hS48.g0
  have hS50 := hS48.rowsPlayer p0.2
  have hcell_ : (oB g9 54 #[.slice a26 n27 c28, .int .i64 p0.2]).ok w43 := hS50.g1
  have hS52 := hS50.f1
  have hS53 := hS52.tail
  have hS54 := hS53.f1
  have hS55 := hS54.tail
  have hS56 := hS55.f1
  have hS57 := hS56.tail
  repeat first | with_reducible refine q_then ?_ | with_reducible refine q_block ?_
  exact ret_cell (q := ⟨g9, 0, none⟩) (cs := [.slice a26 n27 c28, .int .i64 p0.2]) rfl (by decide) rfl AG54 (Blk.all hcell_ rfl) ⟨_, (((a26, c28, r25), p0.2) : PlayerD), hm, rfl, (by rw [hn49]; rfl), toExt hB47, hS57⟩

theorem m_laws_toPlayerS_fn {w : World} {a0 : Option Addr} {n0 c0 : Nat} {y0 : List PlayerD} {p0 : List PlayerC} {Q : (List PlayerC) → Prop} (hp0 : Tv w.heap.size w a0 n0 c0 y0 p0) (hm : m_laws_toPlayerS p0 Q) :
    Fn Try.prog 14 #[.slice a0 n0 c0] w (fun v w' => ∃ (r0 : List PlayerC) (a0 : Option Addr) (n0 c0 : Nat) (y0 : List PlayerD), Q r0 ∧ ers y0 = r0 ∧ v = .slice a0 n0 c0 ∧ Ext w w' ∧ Sep w' w.heap.size [oS 54 a0 n0 c0 y0, oT 3 y0]) := by
  unfold m_laws_toPlayerS at hm
  have hB0 := Below.refl w.heap.size w
  have hS0 : Sep w w.heap.size [] := Sep.nil (Nat.le_refl _)
  refine fn_of_wp Try.func14 rfl (by kernel_rfl) (Nat.le_of_ble_eq_true rfl) ?_
  refine w_seq fun K1 hK1 => ?_
  refine w_region ?_
  refine wl_val (g_assign (v := .slice none 0 0) rfl) rfl ?_
  refine wl_nil ?_
  refine hK1 _ _ ?_
  refine w_seq fun K2 hK2 => ?_
  refine w_region ?_
  refine wl_val (g_move (v := .slice a0 n0 c0) rfl) rfl ?_
  refine wl_val (q_len SL22 rfl (Tv.len (hp0.bel hB0))) rfl ?_
  obtain ⟨hg3, hm⟩ := hm
  refine wl_step rfl (q_make (y := (((none, 0, []), 0) : PlayerD)) SL27 rfl rfl hg3.1 hg3.2 (by decide) hS0) ?_
  rintro _ w4 ⟨a5, rfl, hS7, hE6⟩
  have hB9 := hB0.trans (Ext.stp hE6 hS0.base)
  have hS10 := hS7.nilRows (y := (((none, 0, []), 0) : PlayerD)) (E := 3) (fun j hj => by first | rfl | (show (if j = 0 then _ else _) = _; split <;> rfl)) (Int.toNat (p0.length : Int))
  have he12 : ers (List.replicate (Int.toNat (p0.length : Int)) (((none, 0, []), 0) : PlayerD)) = List.replicate (Int.toNat (p0.length : Int)) (([], 0) : PlayerC) := by simp only [ers, List.map_replicate]; rfl
  refine wl_val (g_assign (v := .slice a5 (Int.toNat (p0.length : Int)) (Int.toNat (p0.length : Int))) rfl) rfl ?_
  refine wl_nil ?_
  refine hK2 _ _ ?_
  refine w_cut (σ := List PlayerC × List PlayerD) (fun ⟨x92, y93⟩ => [(3, .slice a5 (Int.toNat (p0.length : Int)) (Int.toNat (p0.length : Int)))]) (fun ⟨x92, y93⟩ w' => m_laws_toPlayerS_K0 Q x92 ∧ ers y93 = x92 ∧ Below w.heap.size w w' ∧ Sep w' w.heap.size [oS 54 a5 (Int.toNat (p0.length : Int)) (Int.toNat (p0.length : Int)) (y93 : List PlayerD), oT 3 (y93 : List PlayerD)]) ?_ ?_
  · refine w_seq fun K96 hK96 => ?_
    refine w_region ?_
    refine wl_val (g_assign (v := .int .i64 0) rfl) rfl ?_
    refine wl_nil ?_
    refine hK96 _ _ ?_
    refine w_block ?_
    have hS101 := hS10.f1
    obtain ⟨I102, μ103, h0104, hr105⟩ := hm
    refine w_for (σ := List PlayerC × List PlayerD × Int) (fun ⟨x97, y98, v100⟩ => [(0, .slice a0 n0 c0), (3, .slice a5 (Int.toNat (p0.length : Int)) (Int.toNat (p0.length : Int))), (4, .int .i64 v100)]) (fun ⟨x97, y98, v100⟩ w' => I102 x97 v100 ∧ ers y98 = x97 ∧ Below w.heap.size w w' ∧ Sep w' w.heap.size [oS 54 a5 (Int.toNat (p0.length : Int)) (Int.toNat (p0.length : Int)) (y98 : List PlayerD), oT 3 (y98 : List PlayerD)]) (fun ⟨x97, y98, v100⟩ => μ103 x97 v100) (List.replicate (Int.toNat (p0.length : Int)) (([], 0) : PlayerC), List.replicate (Int.toNat (p0.length : Int)) (((none, 0, []), 0) : PlayerD), 0) ⟨rfl, rfl, rfl, trivial⟩ ⟨h0104, he12, hB9, hS101⟩ ?_
    rintro ⟨x97, y98, v100⟩ b_ w106 ⟨hi_, he99, hB107, hS108⟩
    show Wp _ _ _ _ (upds b_ [(0, .slice a0 n0 c0), (3, .slice a5 (Int.toNat (p0.length : Int)) (Int.toNat (p0.length : Int))), (4, .int .i64 v100)]) w106
    have hm := hr105 x97 v100 hi_
    refine w_seq fun K110 hK110 => ?_
    refine w_seq fun K111 hK111 => ?_
    refine w_region ?_
    refine wl_val (g_move (v := .int .i64 v100) rfl) rfl ?_
    refine wl_val (g_move (v := .slice a0 n0 c0) rfl) rfl ?_
    refine wl_val (q_len SL22 rfl (Tv.len (hp0.bel hB107))) rfl ?_
    refine wl_val (g_lss (a := v100) (b := (p0.length : Int)) rfl rfl) rfl ?_
    refine wl_nil ?_
    refine hK111 _ _ ?_
    refine w_condI (p := v100 < (p0.length : Int)) (b := (decide (v100 < (p0.length : Int)))) rfl decide_eq_true_iff (fun h112 => ?_) (fun h112 => ?_)
    · replace hm := hm.1 h112
      refine w_skip ?_
      refine hK110 _ _ ?_
      refine w_seq fun K113 hK113 => ?_
      refine w_block ?_
      refine w_region ?_
      refine wl_val (g_move (v := .slice a5 (Int.toNat (p0.length : Int)) (Int.toNat (p0.length : Int))) rfl) rfl ?_
      refine wl_val (g_move (v := .int .i64 v100) rfl) rfl ?_
      refine wl_val (g_move (v := .slice a0 n0 c0) rfl) rfl ?_
      refine wl_val (g_move (v := .int .i64 v100) rfl) rfl ?_
      obtain ⟨hg114, hm⟩ := hm
      refine wl_val (q_index (i := v100) SL22 rfl rfl (Tv.o (hp0.bel hB107)) (Tv.g (hp0.bel hB107) hg114)) rfl ?_
      refine wl_val (q_loadS (i := v100) (cs := [.slice ((y0[(Int.toNat v100)]!).1.1) ((y0[(Int.toNat v100)]!).1.2.2.length) ((y0[(Int.toNat v100)]!).1.2.1), .int .i64 (p0[(Int.toNat v100)]!.2)]) AG64 (Tv.o (hp0.bel hB107)) (Tv.g (hp0.bel hB107) hg114) (by rw [← Tv.free (hp0.bel hB107) hg114]; rfl) rfl) rfl ?_
      refine wl_step rfl (g_call (vs := #[.agg #[.slice ((y0[(Int.toNat v100)]!).1.1) ((y0[(Int.toNat v100)]!).1.2.2.length) ((y0[(Int.toNat v100)]!).1.2.1), .int .i64 (p0[(Int.toNat v100)]!.2)]]) CF60 (args1 rfl) (m_laws_toPlayer_fn (p0[(Int.toNat v100)]!) ((Tv.rowP (hp0.bel hB107) hg114).up hS108) hm)) ?_
      rintro _ w115 ⟨r118, y119, hm, he120, rfl, hE116, hN117⟩
      have hS122 := hS108.call1 hE116 hN117
      have hB123 := hB107.trans (Ext.stp hE116 hS108.base)
      obtain ⟨hg124, hm⟩ := hm
      refine wl_val (q_index (i := v100) SL27 rfl rfl (Tv.o (oT.vw hS122.g1 hS122.g2 he99)) (Tv.g (oT.vw hS122.g1 hS122.g2 he99) hg124)) rfl ?_
      have he128 : ers [y119] = [r118] := by rw [← he120]; rfl
      have hS129 := hS122.f2
      have hS130 := hS129.f2
      have hS131 := hS130.f2
      refine wl_step rfl (q_setT (i := v100) hS131 he99 hg124 AG54.sz rfl rfl rfl) ?_
      rintro _ w125 ⟨rfl, y132, he133, hS126, hb127⟩
      have he134 := he133.trans (congrArg (List.set _ _) (ers_one he128))
      have hB135 := hB123.trans hb127
      refine wl_nil ?_
      refine hK113 _ _ ?_
      refine w_region ?_
      refine wl_val (g_move (v := .int .i64 v100) rfl) rfl ?_
      obtain ⟨hg136, hm⟩ := hm
      refine wl_val (g_add (a := v100) (b := 1) rfl rfl hg136) rfl ?_
      refine wl_val (g_assign (v := .int .i64 (v100 + 1)) rfl) rfl ?_
      refine wl_nil ?_
      exact ⟨((x97.set (Int.toNat v100) r118), y132, (v100 + 1)), hm.2, ⟨rfl, rfl, rfl, trivial⟩, ⟨hm.1, he134, hB135, hS126⟩⟩
    · replace hm := hm.2 h112
      refine w_exit ?_
      exact ⟨(x97, y98), ⟨rfl, trivial⟩, ⟨hm, he99, hB107, hS108⟩⟩
  · rintro ⟨x92, y93⟩ b_ w137 ⟨hm, he94, hB138, hS139⟩
    show Wp _ _ _ _ (upds b_ [(3, .slice a5 (Int.toNat (p0.length : Int)) (Int.toNat (p0.length : Int)))]) w137
    refine w_seq fun K140 hK140 => ?_
    refine w_region ?_
    refine wl_val (g_move (v := .slice a5 (Int.toNat (p0.length : Int)) (Int.toNat (p0.length : Int))) rfl) rfl ?_
    refine wl_val (g_assign (v := .slice a5 (Int.toNat (p0.length : Int)) (Int.toNat (p0.length : Int))) rfl) rfl ?_
    refine wl_nil ?_
    refine hK140 _ _ ?_
    refine w_ret ?_
    repeat first | with_reducible refine q_then ?_ | with_reducible refine q_block ?_
    exact ret1 rfl (by decide) ⟨_, _, _, _, _, hm, he94, rfl, toExt hB138, hS139⟩

theorem m_laws_toIntSS_fn {w : World} {a0 : Option Addr} {n0 c0 : Nat} {y0 : List (Hd Int)} {p0 : List (List Int)} {Q : (List (List Int)) → Prop} (hp0 : Tv w.heap.size w a0 n0 c0 y0 p0) (hm : m_laws_toIntSS p0 Q) :
    Fn Try.prog 33 #[.slice a0 n0 c0] w (fun v w' => ∃ (r0 : List (List Int)) (a0 : Option Addr) (n0 c0 : Nat) (y0 : List (Hd Int)), Q r0 ∧ ers y0 = r0 ∧ v = .slice a0 n0 c0 ∧ Ext w w' ∧ Sep w' w.heap.size [oS 23 a0 n0 c0 y0, oT 3 y0]) := by
  unfold m_laws_toIntSS at hm
  have hB0 := Below.refl w.heap.size w
  have hS0 : Sep w w.heap.size [] := Sep.nil (Nat.le_refl _)
  refine fn_of_wp Try.func33 rfl (by kernel_rfl) (Nat.le_of_ble_eq_true rfl) ?_
  refine w_seq fun K1 hK1 => ?_
  refine w_region ?_
  refine wl_val (g_assign (v := .slice none 0 0) rfl) rfl ?_
  refine wl_nil ?_
  refine hK1 _ _ ?_
  refine w_seq fun K2 hK2 => ?_
  refine w_region ?_
  refine wl_val (g_move (v := .slice a0 n0 c0) rfl) rfl ?_
  refine wl_val (q_len SL37 rfl (Tv.len (hp0.bel hB0))) rfl ?_
  obtain ⟨hg3, hm⟩ := hm
  refine wl_step rfl (q_make (y := ((none, 0, []) : Hd Int)) SL37 rfl rfl hg3.1 hg3.2 (by decide) hS0) ?_
  rintro _ w4 ⟨a5, rfl, hS7, hE6⟩
  have hB9 := hB0.trans (Ext.stp hE6 hS0.base)
  have hS10 := hS7.nilRows (y := ((none, 0, []) : Hd Int)) (E := 3) (fun j hj => by first | rfl | (show (if j = 0 then _ else _) = _; split <;> rfl)) (Int.toNat (p0.length : Int))
  have he12 : ers (List.replicate (Int.toNat (p0.length : Int)) ((none, 0, []) : Hd Int)) = List.replicate (Int.toNat (p0.length : Int)) ([] : List Int) := by simp only [ers, List.map_replicate]; rfl
  refine wl_val (g_assign (v := .slice a5 (Int.toNat (p0.length : Int)) (Int.toNat (p0.length : Int))) rfl) rfl ?_
  refine wl_nil ?_
  refine hK2 _ _ ?_
  refine w_cut (σ := List (List Int) × List (Hd Int)) (fun ⟨x100, y101⟩ => [(3, .slice a5 (Int.toNat (p0.length : Int)) (Int.toNat (p0.length : Int)))]) (fun ⟨x100, y101⟩ w' => m_laws_toIntSS_K0 Q x100 ∧ ers y101 = x100 ∧ Below w.heap.size w w' ∧ Sep w' w.heap.size [oS 23 a5 (Int.toNat (p0.length : Int)) (Int.toNat (p0.length : Int)) (y101 : List (Hd Int)), oT 3 (y101 : List (Hd Int))]) ?_ ?_
  · refine w_seq fun K104 hK104 => ?_
    refine w_region ?_
    refine wl_val (g_assign (v := .int .i64 0) rfl) rfl ?_
    refine wl_nil ?_
    refine hK104 _ _ ?_
    refine w_block ?_
    have hS109 := hS10.f1
    obtain ⟨I110, μ111, h0112, hr113⟩ := hm
    refine w_for (σ := List (List Int) × List (Hd Int) × Int) (fun ⟨x105, y106, v108⟩ => [(0, .slice a0 n0 c0), (3, .slice a5 (Int.toNat (p0.length : Int)) (Int.toNat (p0.length : Int))), (4, .int .i64 v108)]) (fun ⟨x105, y106, v108⟩ w' => I110 x105 v108 ∧ ers y106 = x105 ∧ Below w.heap.size w w' ∧ Sep w' w.heap.size [oS 23 a5 (Int.toNat (p0.length : Int)) (Int.toNat (p0.length : Int)) (y106 : List (Hd Int)), oT 3 (y106 : List (Hd Int))]) (fun ⟨x105, y106, v108⟩ => μ111 x105 v108) (List.replicate (Int.toNat (p0.length : Int)) ([] : List Int), List.replicate (Int.toNat (p0.length : Int)) ((none, 0, []) : Hd Int), 0) ⟨rfl, rfl, rfl, trivial⟩ ⟨h0112, he12, hB9, hS109⟩ ?_
    rintro ⟨x105, y106, v108⟩ b_ w114 ⟨hi_, he107, hB115, hS116⟩
    show Wp _ _ _ _ (upds b_ [(0, .slice a0 n0 c0), (3, .slice a5 (Int.toNat (p0.length : Int)) (Int.toNat (p0.length : Int))), (4, .int .i64 v108)]) w114
    have hm := hr113 x105 v108 hi_
    refine w_seq fun K118 hK118 => ?_
    refine w_seq fun K119 hK119 => ?_
    refine w_region ?_
    refine wl_val (g_move (v := .int .i64 v108) rfl) rfl ?_
    refine wl_val (g_move (v := .slice a0 n0 c0) rfl) rfl ?_
    refine wl_val (q_len SL37 rfl (Tv.len (hp0.bel hB115))) rfl ?_
    refine wl_val (g_lss (a := v108) (b := (p0.length : Int)) rfl rfl) rfl ?_
    refine wl_nil ?_
    refine hK119 _ _ ?_
    refine w_condI (p := v108 < (p0.length : Int)) (b := (decide (v108 < (p0.length : Int)))) rfl decide_eq_true_iff (fun h120 => ?_) (fun h120 => ?_)
    · replace hm := hm.1 h120
      refine w_skip ?_
      refine hK118 _ _ ?_
      refine w_seq fun K121 hK121 => ?_
      refine w_block ?_
      refine w_region ?_
      refine wl_val (g_move (v := .slice a5 (Int.toNat (p0.length : Int)) (Int.toNat (p0.length : Int))) rfl) rfl ?_
      refine wl_val (g_move (v := .int .i64 v108) rfl) rfl ?_
      refine wl_val (g_move (v := .slice a0 n0 c0) rfl) rfl ?_
      refine wl_val (g_move (v := .int .i64 v108) rfl) rfl ?_
      obtain ⟨hg122, hm⟩ := hm
      refine wl_val (q_index (i := v108) SL37 rfl rfl (Tv.o (hp0.bel hB115)) (Tv.g (hp0.bel hB115) hg122)) rfl ?_
      refine wl_val (q_load (i := v108) (v := .slice ((y0[(Int.toNat v108)]!).1) ((y0[(Int.toNat v108)]!).2.2.length) ((y0[(Int.toNat v108)]!).2.1)) ON23 (Tv.o (hp0.bel hB115)) (Tv.g (hp0.bel hB115) hg122) rfl rfl) rfl ?_
      refine wl_step rfl (g_call (vs := #[.slice ((y0[(Int.toNat v108)]!).1) ((y0[(Int.toNat v108)]!).2.2.length) ((y0[(Int.toNat v108)]!).2.1)]) CF15 (args1 rfl) (m_laws_toIntS_fn ((Tv.row (hp0.bel hB115) hg122).up hS116) hm)) ?_
      rintro _ w123 ⟨r126, a127, n128, c129, hm, rfl, hE124, hN125⟩
      have hS131 := hS116.call1 hE124 hN125
      have hB132 := hB115.trans (Ext.stp hE124 hS116.base)
      obtain ⟨hg133, hm⟩ := hm
      refine wl_val (q_index (i := v108) SL37 rfl rfl (Tv.o (oT.vw hS131.g1 hS131.g2 he107)) (Tv.g (oT.vw hS131.g1 hS131.g2 he107) hg133)) rfl ?_
      have hn138 := oS.len hS131.g0
      have hS139 := hS131.oneRow
      have he137 : ers [((a127, c129, r126) : Hd Int)] = [r126] := rfl
      have hS141 := hS139.f2
      have hS142 := hS141.f2
      have hS143 := hS142.f2
      refine wl_step rfl (q_setT (i := v108) hS143 he107 hg133 ON23.sz rfl rfl (hd_cells hn138)) ?_
      rintro _ w134 ⟨rfl, y144, he145, hS135, hb136⟩
      have he146 := he145.trans (congrArg (List.set _ _) (ers_one he137))
      have hB147 := hB132.trans hb136
      refine wl_nil ?_
      refine hK121 _ _ ?_
      refine w_region ?_
      refine wl_val (g_move (v := .int .i64 v108) rfl) rfl ?_
      obtain ⟨hg148, hm⟩ := hm
      refine wl_val (g_add (a := v108) (b := 1) rfl rfl hg148) rfl ?_
      refine wl_val (g_assign (v := .int .i64 (v108 + 1)) rfl) rfl ?_
      refine wl_nil ?_
      exact ⟨((x105.set (Int.toNat v108) r126), y144, (v108 + 1)), hm.2, ⟨rfl, rfl, rfl, trivial⟩, ⟨hm.1, he146, hB147, hS135⟩⟩
    · replace hm := hm.2 h120
      refine w_exit ?_
      exact ⟨(x105, y106), ⟨rfl, trivial⟩, ⟨hm, he107, hB115, hS116⟩⟩
  · rintro ⟨x100, y101⟩ b_ w149 ⟨hm, he102, hB150, hS151⟩
    show Wp _ _ _ _ (upds b_ [(3, .slice a5 (Int.toNat (p0.length : Int)) (Int.toNat (p0.length : Int)))]) w149
    refine w_seq fun K152 hK152 => ?_
    refine w_region ?_
    refine wl_val (g_move (v := .slice a5 (Int.toNat (p0.length : Int)) (Int.toNat (p0.length : Int))) rfl) rfl ?_
    refine wl_val (g_assign (v := .slice a5 (Int.toNat (p0.length : Int)) (Int.toNat (p0.length : Int))) rfl) rfl ?_
    refine wl_nil ?_
    refine hK152 _ _ ?_
    refine w_ret ?_
    repeat first | with_reducible refine q_then ?_ | with_reducible refine q_block ?_
    exact ret1 rfl (by decide) ⟨_, _, _, _, _, hm, he102, rfl, toExt hB150, hS151⟩

theorem m_spec_l01In_fn {w : World}  {Q : Bool → Prop} (p0 : Int) (p1 : Int) (p2 : Int) (hm : m_spec_l01In p0 p1 p2 Q) :
    Fn Try.prog 88 #[.int .i64 p0, .int .i64 p1, .int .i64 p2] w (fun v w' => ∃ (r0 : Bool), Q r0 ∧ v = .bool r0 ∧ Ext w w') := by
  unfold m_spec_l01In at hm
  have hB0 := Below.refl w.heap.size w
  have hS0 : Sep w w.heap.size [] := Sep.nil (Nat.le_refl _)
  refine fn_of_wp Try.func88 rfl (by kernel_rfl) (Nat.le_of_ble_eq_true rfl) ?_
  refine w_seq fun K1 hK1 => ?_
  refine w_region ?_
  refine wl_val (g_assign (v := .bool false) rfl) rfl ?_
  refine wl_nil ?_
  refine hK1 _ _ ?_
  refine w_seq fun K2 hK2 => ?_
  refine w_region ?_
  refine wl_val (g_move (v := .int .i64 p0) rfl) rfl ?_
  refine wl_val (g_move (v := .int .i64 p1) rfl) rfl ?_
  refine wl_val (g_geq (a := p0) (b := p1) rfl rfl) rfl ?_
  refine wl_val (g_move (v := .bool (decide (p0 ≥ p1))) rfl) rfl ?_
  refine wl_guard (c := (decide (p0 ≥ p1)) = true) (val := .int .i64 p0) (b := ((decide (p0 ≥ p1)) == true)) (gv_some rfl rfl rfl) beq_iff_eq (fun hc3 => ?_) ?_
  · have hcq0 : p0 ≥ p1 := (decide_eq_true_iff.mp hc3)
    exact g_move (v := .int .i64 p0) rfl
  refine wl_guard (c := (decide (p0 ≥ p1)) = true) (val := .int .i64 p2) (b := ((decide (p0 ≥ p1)) == true)) (gv_some rfl rfl rfl) beq_iff_eq (fun hc4 => ?_) ?_
  · have hcq0 : p0 ≥ p1 := (decide_eq_true_iff.mp hc4)
    exact g_move (v := .int .i64 p2) rfl
  refine wl_guard (c := (decide (p0 ≥ p1)) = true) (val := .bool (decide (p0 ≤ p2))) (b := ((decide (p0 ≥ p1)) == true)) (gv_some rfl rfl rfl) beq_iff_eq (fun hc5 => ?_) ?_
  · have hcq0 : p0 ≥ p1 := (decide_eq_true_iff.mp hc5)
    exact g_leq (a := p0) (b := p2) (if_pos hc5) (if_pos hc5)
  refine wl_val (g_pick_and (b := (decide (p0 ≥ p1))) (q := (decide (p0 ≤ p2))) rfl rfl) rfl ?_
  refine wl_val (g_assign (v := .bool ((decide (p0 ≥ p1)) && (decide (p0 ≤ p2)))) rfl) rfl ?_
  refine wl_nil ?_
  refine hK2 _ _ ?_
  refine w_ret ?_
  repeat first | with_reducible refine q_then ?_ | with_reducible refine q_block ?_
  exact ret1 rfl (by decide) ⟨_, hm, rfl, toExt hB0⟩

theorem m_spec_l11Rising_fn {w : World} {a0 : Option Addr} {n0 c0 : Nat} {p0 : List Int} {Q : Bool → Prop} (hp0 : Vw w.heap.size w a0 n0 c0 p0) (p1 : Int) (hm : m_spec_l11Rising p0 p1 Q) :
    Fn Try.prog 58 #[.slice a0 n0 c0, .int .i64 p1] w (fun v w' => ∃ (r0 : Bool), Q r0 ∧ v = .bool r0 ∧ Ext w w') := by
  unfold m_spec_l11Rising at hm
  have hB0 := Below.refl w.heap.size w
  have hS0 : Sep w w.heap.size [] := Sep.nil (Nat.le_refl _)
  refine fn_of_wp Try.func58 rfl (by kernel_rfl) (Nat.le_of_ble_eq_true rfl) ?_
  refine w_seq fun K1 hK1 => ?_
  refine w_region ?_
  refine wl_val (g_assign (v := .bool false) rfl) rfl ?_
  refine wl_nil ?_
  refine hK1 _ _ ?_
  refine w_cut (σ := Unit) (fun _ => []) (fun _ w' => m_spec_l11Rising_K0 Q ∧ Below w.heap.size w w' ∧ Sep w' w.heap.size []) ?_ ?_
  · refine w_seq fun K3 hK3 => ?_
    refine w_region ?_
    refine wl_val (g_assign (v := .int .i64 0) rfl) rfl ?_
    refine wl_nil ?_
    refine hK3 _ _ ?_
    refine w_block ?_
    obtain ⟨I141, μ142, h0143, hr144⟩ := hm
    refine w_for (σ := Int) (fun v140 => [(0, .slice a0 n0 c0), (1, .int .i64 p1), (5, .int .i64 v140)]) (fun v140 w' => I141 v140 ∧ Below w.heap.size w w' ∧ Sep w' w.heap.size []) (fun v140 => μ142 v140) (0) ⟨rfl, rfl, rfl, trivial⟩ ⟨h0143, hB0, hS0⟩ ?_
    rintro v140 b_ w145 ⟨hi_, hB146, hS147⟩
    show Wp _ _ _ _ (upds b_ [(0, .slice a0 n0 c0), (1, .int .i64 p1), (5, .int .i64 v140)]) w145
    have hm := hr144 v140 hi_
    refine w_seq fun K149 hK149 => ?_
    refine w_seq fun K150 hK150 => ?_
    refine w_region ?_
    refine wl_val (g_move (v := .int .i64 v140) rfl) rfl ?_
    refine wl_val (g_move (v := .slice a0 n0 c0) rfl) rfl ?_
    refine wl_val (q_len SL23 rfl (Vw.len (hp0.bel hB146))) rfl ?_
    refine wl_val (g_lss (a := v140) (b := (p0.length : Int)) rfl rfl) rfl ?_
    refine wl_nil ?_
    refine hK150 _ _ ?_
    refine w_condI (p := v140 < (p0.length : Int)) (b := (decide (v140 < (p0.length : Int)))) rfl decide_eq_true_iff (fun h151 => ?_) (fun h151 => ?_)
    · replace hm := hm.1 h151
      refine w_skip ?_
      refine hK149 _ _ ?_
      refine w_seq fun K152 hK152 => ?_
      refine w_block ?_
      refine w_seq fun K153 hK153 => ?_
      refine w_draw (X := Ext) (Y := Ext) [] MIX (by decide +kernel) rfl Ext.refl (fun _ _ _ => Ext.trans) (fun _ _ _ => Chg.trans) (fun _ _ h => Ext.chg h _) (fun w154 hE155 => ?_)
      have hB156 := hB146.trans (Ext.stp hE155 hS147.base)
      have hS157 := hS147.ext hE155
      refine ⟨.slice a0 n0 c0, fun w158 hX159 => od_plain rfl (by have hS160 := hS157.ext hX159; have hB161 := hB156.trans (Ext.stp hX159 hS157.base); exact is_ext (g_move (v := .slice a0 n0 c0) rfl)), ?_⟩
      refine ⟨.int .i64 v140, fun w162 hX163 => od_plain rfl (by have hS164 := hS157.ext hX163; have hB165 := hB156.trans (Ext.stp hX163 hS157.base); exact is_ext (g_move (v := .int .i64 v140) rfl)), ?_⟩
      obtain ⟨hg170, hm⟩ := hm
      refine ⟨.pointer (some ((adr a0).add ((Int.toNat v140) * El.m Int))), fun w166 hX167 => od_plain rfl (by have hS168 := hS157.ext hX167; have hB169 := hB156.trans (Ext.stp hX167 hS157.base); exact is_ext (q_index (i := v140) SL23 rfl rfl (hp0.bel hB169) hg170)), ?_⟩
      refine ⟨.int .i64 (p0[(Int.toNat v140)]!), fun w171 hX172 => od_plain rfl (by have hS173 := hS157.ext hX172; have hB174 := hB156.trans (Ext.stp hX172 hS157.base); exact is_ext (q_load (i := v140) (v := .int .i64 (p0[(Int.toNat v140)]!)) ON3 (hp0.bel hB174) hg170 rfl rfl)), ?_⟩
      refine ⟨.int .i64 p1, fun w175 hX176 => od_plain rfl (by have hS177 := hS157.ext hX176; have hB178 := hB156.trans (Ext.stp hX176 hS157.base); exact is_ext (g_move (v := .int .i64 p1) rfl)), ?_⟩
      obtain ⟨r183, hk184, hm⟩ := hm
      refine ⟨.bool r183, fun w179 hX180 => od_plain rfl (by have hS181 := hS157.ext hX180; have hB182 := hB156.trans (Ext.stp hX180 hS157.base); exact (g_call (vs := #[.int .i64 (p0[(Int.toNat v140)]!), .int .i64 0, .int .i64 p1]) CF88 (args3 rfl rfl rfl) ((m_spec_l01In_fn (p0[(Int.toNat v140)]!) 0 p1 hk184).mono fun _ _ ⟨_, h1, h2, h3⟩ => ⟨by rw [h2, h1], h3⟩))), ?_⟩
      refine ⟨.bool (!r183), fun w185 hX186 => od_plain rfl (by have hS187 := hS157.ext hX186; have hB188 := hB156.trans (Ext.stp hX186 hS157.base); exact is_ext (g_not (a := r183) rfl)), ?_⟩
      refine ⟨.bool (!r183), fun w189 hX190 => od_plain rfl (by have hS191 := hS157.ext hX190; have hB192 := hB156.trans (Ext.stp hX190 hS157.base); exact is_ext (g_move (v := .bool (!r183)) rfl)), ?_⟩
      refine ⟨if (!r183) = false then .int .i64 v140 else undef, fun w193 hX194 => od_guard (c := (!r183) = false) (val := .int .i64 v140) (b := ((!r183) == false)) (gv_some rfl rfl rfl) beq_iff_eq (fun hc197 => ?_), ?_⟩
      · have hS195 := hS157.ext hX194
        have hB196 := hB156.trans (Ext.stp hX194 hS157.base)
        have hcq2 : ¬ (¬ (r183 = true)) := (i_neg (i_not Iff.rfl) hc197)
        exact is_ext (g_move (v := .int .i64 v140) rfl)
      refine ⟨if (!r183) = false then .bool (decide (v140 > 0)) else undef, fun w198 hX199 => od_guard (c := (!r183) = false) (val := .bool (decide (v140 > 0))) (b := ((!r183) == false)) (gv_some rfl rfl rfl) beq_iff_eq (fun hc202 => ?_), ?_⟩
      · have hS200 := hS157.ext hX199
        have hB201 := hB156.trans (Ext.stp hX199 hS157.base)
        have hcq2 : ¬ (¬ (r183 = true)) := (i_neg (i_not Iff.rfl) hc202)
        exact is_ext (g_gtr (a := v140) (b := 0) (if_pos hc202) rfl)
      refine ⟨if (!r183) = false then .bool (decide (v140 > 0)) else undef, fun w203 hX204 => od_guard (c := (!r183) = false) (val := .bool (decide (v140 > 0))) (b := ((!r183) == false)) (gv_some rfl rfl rfl) beq_iff_eq (fun hc207 => ?_), ?_⟩
      · have hS205 := hS157.ext hX204
        have hB206 := hB156.trans (Ext.stp hX204 hS157.base)
        have hcq2 : ¬ (¬ (r183 = true)) := (i_neg (i_not Iff.rfl) hc207)
        exact is_ext (g_move (v := .bool (decide (v140 > 0))) (if_pos hc207))
      refine ⟨if ((!r183) = false) ∧ (decide (v140 > 0)) = true then .slice a0 n0 c0 else undef, fun w208 hX209 => od_guard (c := ((!r183) = false) ∧ (decide (v140 > 0)) = true) (val := .slice a0 n0 c0) (b := decide (((!r183) = false) ∧ (decide (v140 > 0)) = true)) (gv_gd rfl rfl rfl) decide_eq_true_iff (fun hc212 => ?_), ?_⟩
      · have hS210 := hS157.ext hX209
        have hB211 := hB156.trans (Ext.stp hX209 hS157.base)
        have hcq3 : (¬ (¬ (r183 = true))) ∧ (v140 > 0) := ⟨(i_neg (i_not Iff.rfl) (hc212).1), decide_eq_true_iff.mp (hc212).2⟩
        have hcq2 := (hcq3).1
        exact is_ext (g_move (v := .slice a0 n0 c0) rfl)
      refine ⟨if ((!r183) = false) ∧ (decide (v140 > 0)) = true then .int .i64 v140 else undef, fun w213 hX214 => od_guard (c := ((!r183) = false) ∧ (decide (v140 > 0)) = true) (val := .int .i64 v140) (b := decide (((!r183) = false) ∧ (decide (v140 > 0)) = true)) (gv_gd rfl rfl rfl) decide_eq_true_iff (fun hc217 => ?_), ?_⟩
      · have hS215 := hS157.ext hX214
        have hB216 := hB156.trans (Ext.stp hX214 hS157.base)
        have hcq3 : (¬ (¬ (r183 = true))) ∧ (v140 > 0) := ⟨(i_neg (i_not Iff.rfl) (hc217).1), decide_eq_true_iff.mp (hc217).2⟩
        have hcq2 := (hcq3).1
        exact is_ext (g_move (v := .int .i64 v140) rfl)
      obtain ⟨hg223, hm⟩ := hm
      refine ⟨if ((!r183) = false) ∧ (decide (v140 > 0)) = true then .pointer (some ((adr a0).add ((Int.toNat v140) * El.m Int))) else undef, fun w218 hX219 => od_guard (c := ((!r183) = false) ∧ (decide (v140 > 0)) = true) (val := .pointer (some ((adr a0).add ((Int.toNat v140) * El.m Int)))) (b := decide (((!r183) = false) ∧ (decide (v140 > 0)) = true)) (gv_gd rfl rfl rfl) decide_eq_true_iff (fun hc222 => ?_), ?_⟩
      · have hS220 := hS157.ext hX219
        have hB221 := hB156.trans (Ext.stp hX219 hS157.base)
        have hcq3 : (¬ (¬ (r183 = true))) ∧ (v140 > 0) := ⟨(i_neg (i_not Iff.rfl) (hc222).1), decide_eq_true_iff.mp (hc222).2⟩
        have hcq2 := (hcq3).1
        exact is_ext (q_index (i := v140) SL23 (if_pos hc222) (if_pos hc222) (hp0.bel hB221) (hg223 hcq3))
      refine ⟨if ((!r183) = false) ∧ (decide (v140 > 0)) = true then .int .i64 (p0[(Int.toNat v140)]!) else undef, fun w224 hX225 => od_guard (c := ((!r183) = false) ∧ (decide (v140 > 0)) = true) (val := .int .i64 (p0[(Int.toNat v140)]!)) (b := decide (((!r183) = false) ∧ (decide (v140 > 0)) = true)) (gv_gd rfl rfl rfl) decide_eq_true_iff (fun hc228 => ?_), ?_⟩
      · have hS226 := hS157.ext hX225
        have hB227 := hB156.trans (Ext.stp hX225 hS157.base)
        have hcq3 : (¬ (¬ (r183 = true))) ∧ (v140 > 0) := ⟨(i_neg (i_not Iff.rfl) (hc228).1), decide_eq_true_iff.mp (hc228).2⟩
        have hcq2 := (hcq3).1
        exact is_ext (q_load (i := v140) (v := .int .i64 (p0[(Int.toNat v140)]!)) ON3 (hp0.bel hB227) (hg223 hcq3) rfl (if_pos hc228))
      refine ⟨if ((!r183) = false) ∧ (decide (v140 > 0)) = true then .slice a0 n0 c0 else undef, fun w229 hX230 => od_guard (c := ((!r183) = false) ∧ (decide (v140 > 0)) = true) (val := .slice a0 n0 c0) (b := decide (((!r183) = false) ∧ (decide (v140 > 0)) = true)) (gv_gd rfl rfl rfl) decide_eq_true_iff (fun hc233 => ?_), ?_⟩
      · have hS231 := hS157.ext hX230
        have hB232 := hB156.trans (Ext.stp hX230 hS157.base)
        have hcq3 : (¬ (¬ (r183 = true))) ∧ (v140 > 0) := ⟨(i_neg (i_not Iff.rfl) (hc233).1), decide_eq_true_iff.mp (hc233).2⟩
        have hcq2 := (hcq3).1
        exact is_ext (g_move (v := .slice a0 n0 c0) rfl)
      refine ⟨if ((!r183) = false) ∧ (decide (v140 > 0)) = true then .int .i64 v140 else undef, fun w234 hX235 => od_guard (c := ((!r183) = false) ∧ (decide (v140 > 0)) = true) (val := .int .i64 v140) (b := decide (((!r183) = false) ∧ (decide (v140 > 0)) = true)) (gv_gd rfl rfl rfl) decide_eq_true_iff (fun hc238 => ?_), ?_⟩
      · have hS236 := hS157.ext hX235
        have hB237 := hB156.trans (Ext.stp hX235 hS157.base)
        have hcq3 : (¬ (¬ (r183 = true))) ∧ (v140 > 0) := ⟨(i_neg (i_not Iff.rfl) (hc238).1), decide_eq_true_iff.mp (hc238).2⟩
        have hcq2 := (hcq3).1
        exact is_ext (g_move (v := .int .i64 v140) rfl)
      obtain ⟨hg244, hm⟩ := hm
      refine ⟨if ((!r183) = false) ∧ (decide (v140 > 0)) = true then .int .i64 (v140 - 1) else undef, fun w239 hX240 => od_guard (c := ((!r183) = false) ∧ (decide (v140 > 0)) = true) (val := .int .i64 (v140 - 1)) (b := decide (((!r183) = false) ∧ (decide (v140 > 0)) = true)) (gv_gd rfl rfl rfl) decide_eq_true_iff (fun hc243 => ?_), ?_⟩
      · have hS241 := hS157.ext hX240
        have hB242 := hB156.trans (Ext.stp hX240 hS157.base)
        have hcq3 : (¬ (¬ (r183 = true))) ∧ (v140 > 0) := ⟨(i_neg (i_not Iff.rfl) (hc243).1), decide_eq_true_iff.mp (hc243).2⟩
        have hcq2 := (hcq3).1
        exact is_ext (g_sub (a := v140) (b := 1) (if_pos hc243) rfl (hg244 hcq3))
      obtain ⟨hg250, hm⟩ := hm
      refine ⟨if ((!r183) = false) ∧ (decide (v140 > 0)) = true then .pointer (some ((adr a0).add ((Int.toNat (v140 - 1)) * El.m Int))) else undef, fun w245 hX246 => od_guard (c := ((!r183) = false) ∧ (decide (v140 > 0)) = true) (val := .pointer (some ((adr a0).add ((Int.toNat (v140 - 1)) * El.m Int)))) (b := decide (((!r183) = false) ∧ (decide (v140 > 0)) = true)) (gv_gd rfl rfl rfl) decide_eq_true_iff (fun hc249 => ?_), ?_⟩
      · have hS247 := hS157.ext hX246
        have hB248 := hB156.trans (Ext.stp hX246 hS157.base)
        have hcq3 : (¬ (¬ (r183 = true))) ∧ (v140 > 0) := ⟨(i_neg (i_not Iff.rfl) (hc249).1), decide_eq_true_iff.mp (hc249).2⟩
        have hcq2 := (hcq3).1
        exact is_ext (q_index (i := (v140 - 1)) SL23 (if_pos hc249) (if_pos hc249) (hp0.bel hB248) (hg250 hcq3))
      refine ⟨if ((!r183) = false) ∧ (decide (v140 > 0)) = true then .int .i64 (p0[(Int.toNat (v140 - 1))]!) else undef, fun w251 hX252 => od_guard (c := ((!r183) = false) ∧ (decide (v140 > 0)) = true) (val := .int .i64 (p0[(Int.toNat (v140 - 1))]!)) (b := decide (((!r183) = false) ∧ (decide (v140 > 0)) = true)) (gv_gd rfl rfl rfl) decide_eq_true_iff (fun hc255 => ?_), ?_⟩
      · have hS253 := hS157.ext hX252
        have hB254 := hB156.trans (Ext.stp hX252 hS157.base)
        have hcq3 : (¬ (¬ (r183 = true))) ∧ (v140 > 0) := ⟨(i_neg (i_not Iff.rfl) (hc255).1), decide_eq_true_iff.mp (hc255).2⟩
        have hcq2 := (hcq3).1
        exact is_ext (q_load (i := (v140 - 1)) (v := .int .i64 (p0[(Int.toNat (v140 - 1))]!)) ON3 (hp0.bel hB254) (hg250 hcq3) rfl (if_pos hc255))
      refine ⟨if ((!r183) = false) ∧ (decide (v140 > 0)) = true then .bool (decide (p0[(Int.toNat v140)]! ≤ p0[(Int.toNat (v140 - 1))]!)) else undef, fun w256 hX257 => od_guard (c := ((!r183) = false) ∧ (decide (v140 > 0)) = true) (val := .bool (decide (p0[(Int.toNat v140)]! ≤ p0[(Int.toNat (v140 - 1))]!))) (b := decide (((!r183) = false) ∧ (decide (v140 > 0)) = true)) (gv_gd rfl rfl rfl) decide_eq_true_iff (fun hc260 => ?_), ?_⟩
      · have hS258 := hS157.ext hX257
        have hB259 := hB156.trans (Ext.stp hX257 hS157.base)
        have hcq3 : (¬ (¬ (r183 = true))) ∧ (v140 > 0) := ⟨(i_neg (i_not Iff.rfl) (hc260).1), decide_eq_true_iff.mp (hc260).2⟩
        have hcq2 := (hcq3).1
        exact is_ext (g_leq (a := p0[(Int.toNat v140)]!) (b := p0[(Int.toNat (v140 - 1))]!) (if_pos hc260) (if_pos hc260))
      refine ⟨if (!r183) = false then .bool ((decide (v140 > 0)) && (decide (p0[(Int.toNat v140)]! ≤ p0[(Int.toNat (v140 - 1))]!))) else undef, fun w261 hX262 => od_guard (c := (!r183) = false) (val := .bool ((decide (v140 > 0)) && (decide (p0[(Int.toNat v140)]! ≤ p0[(Int.toNat (v140 - 1))]!)))) (b := ((!r183) == false)) (gv_some rfl rfl rfl) beq_iff_eq (fun hc265 => ?_), ?_⟩
      · have hS263 := hS157.ext hX262
        have hB264 := hB156.trans (Ext.stp hX262 hS157.base)
        have hcq2 : ¬ (¬ (r183 = true)) := (i_neg (i_not Iff.rfl) hc265)
        exact is_ext (g_pick_and (b := (decide (v140 > 0))) (q := (decide (p0[(Int.toNat v140)]! ≤ p0[(Int.toNat (v140 - 1))]!))) (if_pos hc265) (gd_in hc265))
      refine ⟨.bool ((!r183) || ((decide (v140 > 0)) && (decide (p0[(Int.toNat v140)]! ≤ p0[(Int.toNat (v140 - 1))]!)))), fun w266 hX267 => od_plain rfl (by have hS268 := hS157.ext hX267; have hB269 := hB156.trans (Ext.stp hX267 hS157.base); exact is_ext (g_pick_or (b := (!r183)) (q := ((decide (v140 > 0)) && (decide (p0[(Int.toNat v140)]! ≤ p0[(Int.toNat (v140 - 1))]!)))) rfl rfl)), ?_⟩
      intro w270 hX271
      have hB272 := hB156.trans (Ext.stp hX271 hS157.base)
      have hS273 := hS157.ext hX271
      refine hK153 _ _ ?_
      refine w_condI (p := ((¬ (r183 = true)) ∨ (((v140 > 0) ∧ (p0[(Int.toNat v140)]! ≤ p0[(Int.toNat (v140 - 1))]!))))) (b := ((!r183) || ((decide (v140 > 0)) && (decide (p0[(Int.toNat v140)]! ≤ p0[(Int.toNat (v140 - 1))]!))))) rfl (i_or (i_not Iff.rfl) (i_and decide_eq_true_iff decide_eq_true_iff)) (fun h274 => ?_) (fun h274 => ?_)
      · replace hm := hm.1 h274
        refine w_seq fun K275 hK275 => ?_
        refine w_region ?_
        refine wl_val (g_assign (v := .bool false) rfl) rfl ?_
        refine wl_nil ?_
        refine hK275 _ _ ?_
        refine w_ret ?_
        repeat first | with_reducible refine q_then ?_ | with_reducible refine q_block ?_
        exact ret1 rfl (by decide) ⟨_, hm, rfl, toExt hB272⟩
      · replace hm := hm.2 h274
        refine w_skip ?_
        refine hK152 _ _ ?_
        refine w_region ?_
        refine wl_val (g_move (v := .int .i64 v140) rfl) rfl ?_
        obtain ⟨hg276, hm⟩ := hm
        refine wl_val (g_add (a := v140) (b := 1) rfl rfl hg276) rfl ?_
        refine wl_val (g_assign (v := .int .i64 (v140 + 1)) rfl) rfl ?_
        refine wl_nil ?_
        exact ⟨((v140 + 1)), hm.2, ⟨rfl, rfl, rfl, trivial⟩, ⟨hm.1, hB272, hS273⟩⟩
    · replace hm := hm.2 h151
      refine w_exit ?_
      exact ⟨(), trivial, ⟨hm, hB146, hS147⟩⟩
  · rintro _ b_ w277 ⟨hm, hB278, hS279⟩
    show Wp _ _ _ _ (upds b_ []) w277
    refine w_seq fun K280 hK280 => ?_
    refine w_region ?_
    refine wl_val (g_assign (v := .bool true) rfl) rfl ?_
    refine wl_nil ?_
    refine hK280 _ _ ?_
    refine w_ret ?_
    repeat first | with_reducible refine q_then ?_ | with_reducible refine q_block ?_
    exact ret1 rfl (by decide) ⟨_, hm, rfl, toExt hB278⟩

theorem m_spec_PlayersOk_fn {w : World} {a0 : Option Addr} {n0 c0 : Nat} {y0 : List PlayerD} {p0 : List PlayerC} {Q : Bool → Prop} (hp0 : Tv w.heap.size w a0 n0 c0 y0 p0) (hm : m_spec_PlayersOk p0 Q) :
    Fn Try.prog 57 #[.slice a0 n0 c0] w (fun v w' => ∃ (r0 : Bool), Q r0 ∧ v = .bool r0 ∧ Ext w w') := by
  unfold m_spec_PlayersOk at hm
  have hB0 := Below.refl w.heap.size w
  have hS0 : Sep w w.heap.size [] := Sep.nil (Nat.le_refl _)
  refine fn_of_wp Try.func57 rfl (by kernel_rfl) (Nat.le_of_ble_eq_true rfl) ?_
  refine w_seq fun K1 hK1 => ?_
  refine w_region ?_
  refine wl_val (g_assign (v := .bool false) rfl) rfl ?_
  refine wl_nil ?_
  refine hK1 _ _ ?_
  refine w_cut (σ := Unit) (fun _ => [(0, .slice a0 n0 c0)]) (fun _ w' => m_spec_PlayersOk_K0 p0 Q ∧ Below w.heap.size w w' ∧ Sep w' w.heap.size []) ?_ ?_
  · refine w_seq fun K3 hK3 => ?_
    refine w_region ?_
    refine wl_val (g_assign (v := .int .i64 0) rfl) rfl ?_
    refine wl_nil ?_
    refine hK3 _ _ ?_
    refine w_block ?_
    obtain ⟨I42, μ43, h044, hr45⟩ := hm
    refine w_for (σ := Int) (fun v41 => [(0, .slice a0 n0 c0), (3, .int .i64 v41)]) (fun v41 w' => I42 v41 ∧ Below w.heap.size w w' ∧ Sep w' w.heap.size []) (fun v41 => μ43 v41) (0) ⟨rfl, rfl, trivial⟩ ⟨h044, hB0, hS0⟩ ?_
    rintro v41 b_ w46 ⟨hi_, hB47, hS48⟩
    show Wp _ _ _ _ (upds b_ [(0, .slice a0 n0 c0), (3, .int .i64 v41)]) w46
    have hm := hr45 v41 hi_
    refine w_seq fun K50 hK50 => ?_
    refine w_seq fun K51 hK51 => ?_
    refine w_region ?_
    refine wl_val (g_move (v := .int .i64 v41) rfl) rfl ?_
    refine wl_val (g_move (v := .slice a0 n0 c0) rfl) rfl ?_
    refine wl_val (q_len SL27 rfl (Tv.len (hp0.bel hB47))) rfl ?_
    refine wl_val (g_lss (a := v41) (b := (p0.length : Int)) rfl rfl) rfl ?_
    refine wl_nil ?_
    refine hK51 _ _ ?_
    refine w_condI (p := v41 < (p0.length : Int)) (b := (decide (v41 < (p0.length : Int)))) rfl decide_eq_true_iff (fun h52 => ?_) (fun h52 => ?_)
    · replace hm := hm.1 h52
      refine w_skip ?_
      refine hK50 _ _ ?_
      refine w_seq fun K53 hK53 => ?_
      refine w_block ?_
      refine w_seq fun K54 hK54 => ?_
      refine w_region ?_
      refine wl_val (g_move (v := .slice a0 n0 c0) rfl) rfl ?_
      refine wl_val (g_move (v := .int .i64 v41) rfl) rfl ?_
      obtain ⟨hg55, hm⟩ := hm
      refine wl_val (q_index (i := v41) SL27 rfl rfl (Tv.o (hp0.bel hB47)) (Tv.g (hp0.bel hB47) hg55)) rfl ?_
      refine wl_val (g_fieldAddr (q := (adr a0).add ((Int.toNat v41) * El.m PlayerD)) FL54_0 ON23 rfl) rfl ?_
      refine wl_val (q_loadF (i := v41) (j := 0) (v := .slice ((y0[(Int.toNat v41)]!).1.1) ((y0[(Int.toNat v41)]!).1.2.2.length) ((y0[(Int.toNat v41)]!).1.2.1)) ON23 (Tv.o (hp0.bel hB47)) (Tv.g (hp0.bel hB47) hg55) rfl rfl) rfl ?_
      refine wl_step rfl (g_call (vs := #[.slice ((y0[(Int.toNat v41)]!).1.1) ((y0[(Int.toNat v41)]!).1.2.2.length) ((y0[(Int.toNat v41)]!).1.2.1), .int .i64 6]) CF58 (args2 rfl rfl) (m_spec_l11Rising_fn ((Tv.rowP (hp0.bel hB47) hg55).up hS48) 6 hm)) ?_
      rintro _ w56 ⟨r59, hm, rfl, hE57⟩
      have hB60 := hB47.trans (Ext.stp hE57 hS48.base)
      have hS61 := hS48.ext hE57
      refine wl_val (g_not (a := r59) rfl) rfl ?_
      refine wl_val (g_move (v := .bool (!r59)) rfl) rfl ?_
      refine wl_guard (c := (!r59) = false) (val := .slice a0 n0 c0) (b := ((!r59) == false)) (gv_some rfl rfl rfl) beq_iff_eq (fun hc62 => ?_) ?_
      · have hcq1 : ¬ (¬ (r59 = true)) := (i_neg (i_not Iff.rfl) hc62)
        exact g_move (v := .slice a0 n0 c0) rfl
      refine wl_guard (c := (!r59) = false) (val := .int .i64 v41) (b := ((!r59) == false)) (gv_some rfl rfl rfl) beq_iff_eq (fun hc63 => ?_) ?_
      · have hcq1 : ¬ (¬ (r59 = true)) := (i_neg (i_not Iff.rfl) hc63)
        exact g_move (v := .int .i64 v41) rfl
      obtain ⟨hg65, hm⟩ := hm
      refine wl_guard (c := (!r59) = false) (val := .pointer (some ((adr a0).add ((Int.toNat v41) * El.m PlayerD)))) (b := ((!r59) == false)) (gv_some rfl rfl rfl) beq_iff_eq (fun hc64 => ?_) ?_
      · have hcq1 : ¬ (¬ (r59 = true)) := (i_neg (i_not Iff.rfl) hc64)
        exact q_index (i := v41) SL27 (if_pos hc64) (if_pos hc64) (Tv.o (hp0.bel hB60)) (Tv.g (hp0.bel hB60) (hg65 hcq1))
      refine wl_guard (c := (!r59) = false) (val := .pointer (some (((adr a0).add ((Int.toNat v41) * El.m PlayerD)).add 1))) (b := ((!r59) == false)) (gv_some rfl rfl rfl) beq_iff_eq (fun hc66 => ?_) ?_
      · have hcq1 : ¬ (¬ (r59 = true)) := (i_neg (i_not Iff.rfl) hc66)
        exact g_fieldAddr (q := (adr a0).add ((Int.toNat v41) * El.m PlayerD)) FL54_1 ON3 (if_pos hc66)
      refine wl_guard (c := (!r59) = false) (val := .int .i64 (p0[(Int.toNat v41)]!.2)) (b := ((!r59) == false)) (gv_some rfl rfl rfl) beq_iff_eq (fun hc67 => ?_) ?_
      · have hcq1 : ¬ (¬ (r59 = true)) := (i_neg (i_not Iff.rfl) hc67)
        exact q_loadF (i := v41) (j := 1) (v := .int .i64 (p0[(Int.toNat v41)]!.2)) ON3 (Tv.o (hp0.bel hB60)) (Tv.g (hp0.bel hB60) (hg65 hcq1)) (by rw [← Tv.free (hp0.bel hB60) (hg65 hcq1)]; rfl) (if_pos hc67)
      obtain ⟨r69, hk70, hm⟩ := hm
      refine wl_guardE (X := Ext) (c := (!r59) = false) (val := .bool r69) (Ext.refl _) (b := ((!r59) == false)) (gv_some rfl rfl rfl) beq_iff_eq (fun hc68 => ?_) (fun w71 hE72 => ?_)
      · have hcq1 : ¬ (¬ (r59 = true)) := (i_neg (i_not Iff.rfl) hc68)
        exact (g_call (vs := #[.int .i64 (p0[(Int.toNat v41)]!.2), .int .i64 0, .int .i64 2]) CF88 (args3 (if_pos hc68) rfl rfl) ((m_spec_l01In_fn (p0[(Int.toNat v41)]!.2) 0 2 (hk70 hcq1)).mono fun _ _ ⟨_, h1, h2, h3⟩ => ⟨by rw [h2, h1], h3⟩))
      have hB73 := hB60.trans (Ext.stp hE72 hS61.base)
      have hS74 := hS61.ext hE72
      refine wl_guard (c := (!r59) = false) (val := .bool (!r69)) (b := ((!r59) == false)) (gv_some rfl rfl rfl) beq_iff_eq (fun hc75 => ?_) ?_
      · have hcq1 : ¬ (¬ (r59 = true)) := (i_neg (i_not Iff.rfl) hc75)
        exact g_not (a := r69) (if_pos hc75)
      refine wl_val (g_pick_or (b := (!r59)) (q := (!r69)) rfl rfl) rfl ?_
      refine wl_nil ?_
      refine hK54 _ _ ?_
      refine w_condI (p := ((¬ (r59 = true)) ∨ (¬ (r69 = true)))) (b := ((!r59) || (!r69))) rfl (i_or (i_not Iff.rfl) (i_not Iff.rfl)) (fun h76 => ?_) (fun h76 => ?_)
      · replace hm := hm.1 h76
        refine w_seq fun K77 hK77 => ?_
        refine w_region ?_
        refine wl_val (g_assign (v := .bool false) rfl) rfl ?_
        refine wl_nil ?_
        refine hK77 _ _ ?_
        refine w_ret ?_
        repeat first | with_reducible refine q_then ?_ | with_reducible refine q_block ?_
        exact ret1 rfl (by decide) ⟨_, hm, rfl, toExt hB73⟩
      · replace hm := hm.2 h76
        refine w_skip ?_
        refine hK53 _ _ ?_
        refine w_region ?_
        refine wl_val (g_move (v := .int .i64 v41) rfl) rfl ?_
        obtain ⟨hg78, hm⟩ := hm
        refine wl_val (g_add (a := v41) (b := 1) rfl rfl hg78) rfl ?_
        refine wl_val (g_assign (v := .int .i64 (v41 + 1)) rfl) rfl ?_
        refine wl_nil ?_
        exact ⟨((v41 + 1)), hm.2, ⟨rfl, rfl, trivial⟩, ⟨hm.1, hB73, hS74⟩⟩
    · replace hm := hm.2 h52
      refine w_exit ?_
      exact ⟨(), ⟨rfl, trivial⟩, ⟨hm, hB47, hS48⟩⟩
  · rintro _ b_ w79 ⟨hm, hB80, hS81⟩
    show Wp _ _ _ _ (upds b_ [(0, .slice a0 n0 c0)]) w79
    refine w_seq fun K82 hK82 => ?_
    refine w_region ?_
    refine wl_val (g_move (v := .slice a0 n0 c0) rfl) rfl ?_
    refine wl_val (q_len SL27 rfl (Tv.len (hp0.bel hB80))) rfl ?_
    refine wl_step rfl (g_call (vs := #[.int .i64 (p0.length : Int), .int .i64 1, .int .i64 6]) CF88 (args3 rfl rfl rfl) (m_spec_l01In_fn (p0.length : Int) 1 6 hm)) ?_
    rintro _ w83 ⟨r86, hm, rfl, hE84⟩
    have hB87 := hB80.trans (Ext.stp hE84 hS81.base)
    have hS88 := hS81.ext hE84
    refine wl_val (g_assign (v := .bool r86) rfl) rfl ?_
    refine wl_nil ?_
    refine hK82 _ _ ?_
    refine w_ret ?_
    repeat first | with_reducible refine q_then ?_ | with_reducible refine q_block ?_
    exact ret1 rfl (by decide) ⟨_, hm, rfl, toExt hB87⟩

theorem m_spec_NightOk_fn {w : World} {a0 : Option Addr} {n0 c0 : Nat} {y0 : List PlayerD} {p0 : List PlayerC} {a1 : Option Addr} {n1 c1 : Nat} {y1 : List (Hd Int)} {p1 : List (List Int)} {Q : Bool → Prop} (hp0 : Tv w.heap.size w a0 n0 c0 y0 p0) (hp1 : Tv w.heap.size w a1 n1 c1 y1 p1) (hm : m_spec_NightOk p0 p1 Q) :
    Fn Try.prog 74 #[.slice a0 n0 c0, .slice a1 n1 c1] w (fun v w' => ∃ (r0 : Bool), Q r0 ∧ v = .bool r0 ∧ Ext w w') := by
  unfold m_spec_NightOk at hm
  have hB0 := Below.refl w.heap.size w
  have hS0 : Sep w w.heap.size [] := Sep.nil (Nat.le_refl _)
  refine fn_of_wp Try.func74 rfl (by kernel_rfl) (Nat.le_of_ble_eq_true rfl) ?_
  refine w_seq fun K1 hK1 => ?_
  refine w_region ?_
  refine wl_val (g_assign (v := .bool false) rfl) rfl ?_
  refine wl_nil ?_
  refine hK1 _ _ ?_
  refine w_cut (σ := Unit) (fun _ => [(0, .slice a0 n0 c0), (1, .slice a1 n1 c1)]) (fun _ w' => m_spec_NightOk_K0 p0 p1 Q ∧ Below w.heap.size w w' ∧ Sep w' w.heap.size []) ?_ ?_
  · refine w_seq fun K3 hK3 => ?_
    refine w_region ?_
    refine wl_val (g_assign (v := .int .i64 0) rfl) rfl ?_
    refine wl_nil ?_
    refine hK3 _ _ ?_
    refine w_block ?_
    obtain ⟨I35, μ36, h037, hr38⟩ := hm
    refine w_for (σ := Int) (fun v34 => [(0, .slice a0 n0 c0), (1, .slice a1 n1 c1), (5, .int .i64 v34)]) (fun v34 w' => I35 v34 ∧ Below w.heap.size w w' ∧ Sep w' w.heap.size []) (fun v34 => μ36 v34) (0) ⟨rfl, rfl, rfl, trivial⟩ ⟨h037, hB0, hS0⟩ ?_
    rintro v34 b_ w39 ⟨hi_, hB40, hS41⟩
    show Wp _ _ _ _ (upds b_ [(0, .slice a0 n0 c0), (1, .slice a1 n1 c1), (5, .int .i64 v34)]) w39
    have hm := hr38 v34 hi_
    refine w_seq fun K43 hK43 => ?_
    refine w_seq fun K44 hK44 => ?_
    refine w_region ?_
    refine wl_val (g_move (v := .int .i64 v34) rfl) rfl ?_
    refine wl_val (g_move (v := .slice a1 n1 c1) rfl) rfl ?_
    refine wl_val (q_len SL37 rfl (Tv.len (hp1.bel hB40))) rfl ?_
    refine wl_val (g_lss (a := v34) (b := (p1.length : Int)) rfl rfl) rfl ?_
    refine wl_nil ?_
    refine hK44 _ _ ?_
    refine w_condI (p := v34 < (p1.length : Int)) (b := (decide (v34 < (p1.length : Int)))) rfl decide_eq_true_iff (fun h45 => ?_) (fun h45 => ?_)
    · replace hm := hm.1 h45
      refine w_skip ?_
      refine hK43 _ _ ?_
      refine w_seq fun K46 hK46 => ?_
      refine w_block ?_
      refine w_seq fun K47 hK47 => ?_
      refine w_region ?_
      refine wl_val (g_move (v := .slice a1 n1 c1) rfl) rfl ?_
      refine wl_val (g_move (v := .int .i64 v34) rfl) rfl ?_
      obtain ⟨hg48, hm⟩ := hm
      refine wl_val (q_index (i := v34) SL37 rfl rfl (Tv.o (hp1.bel hB40)) (Tv.g (hp1.bel hB40) hg48)) rfl ?_
      refine wl_val (q_load (i := v34) (v := .slice ((y1[(Int.toNat v34)]!).1) ((y1[(Int.toNat v34)]!).2.2.length) ((y1[(Int.toNat v34)]!).2.1)) ON23 (Tv.o (hp1.bel hB40)) (Tv.g (hp1.bel hB40) hg48) rfl rfl) rfl ?_
      refine wl_val (q_len SL23 rfl (Vw.len (Tv.row (hp1.bel hB40) hg48))) rfl ?_
      refine wl_val (g_gtr (a := ((p1[(Int.toNat v34)]!).length : Int)) (b := 4) rfl rfl) rfl ?_
      refine wl_val (g_move (v := .bool (decide (((p1[(Int.toNat v34)]!).length : Int) > 4))) rfl) rfl ?_
      refine wl_guard (c := (decide (((p1[(Int.toNat v34)]!).length : Int) > 4)) = false) (val := .slice a1 n1 c1) (b := ((decide (((p1[(Int.toNat v34)]!).length : Int) > 4)) == false)) (gv_some rfl rfl rfl) beq_iff_eq (fun hc49 => ?_) ?_
      · have hcq1 : ¬ (((p1[(Int.toNat v34)]!).length : Int) > 4) := (i_neg decide_eq_true_iff hc49)
        exact g_move (v := .slice a1 n1 c1) rfl
      refine wl_guard (c := (decide (((p1[(Int.toNat v34)]!).length : Int) > 4)) = false) (val := .int .i64 v34) (b := ((decide (((p1[(Int.toNat v34)]!).length : Int) > 4)) == false)) (gv_some rfl rfl rfl) beq_iff_eq (fun hc50 => ?_) ?_
      · have hcq1 : ¬ (((p1[(Int.toNat v34)]!).length : Int) > 4) := (i_neg decide_eq_true_iff hc50)
        exact g_move (v := .int .i64 v34) rfl
      obtain ⟨hg52, hm⟩ := hm
      refine wl_guard (c := (decide (((p1[(Int.toNat v34)]!).length : Int) > 4)) = false) (val := .pointer (some ((adr a1).add ((Int.toNat v34) * El.m (Hd Int))))) (b := ((decide (((p1[(Int.toNat v34)]!).length : Int) > 4)) == false)) (gv_some rfl rfl rfl) beq_iff_eq (fun hc51 => ?_) ?_
      · have hcq1 : ¬ (((p1[(Int.toNat v34)]!).length : Int) > 4) := (i_neg decide_eq_true_iff hc51)
        exact q_index (i := v34) SL37 (if_pos hc51) (if_pos hc51) (Tv.o (hp1.bel hB40)) (Tv.g (hp1.bel hB40) (hg52 hcq1))
      refine wl_guard (c := (decide (((p1[(Int.toNat v34)]!).length : Int) > 4)) = false) (val := .slice ((y1[(Int.toNat v34)]!).1) ((y1[(Int.toNat v34)]!).2.2.length) ((y1[(Int.toNat v34)]!).2.1)) (b := ((decide (((p1[(Int.toNat v34)]!).length : Int) > 4)) == false)) (gv_some rfl rfl rfl) beq_iff_eq (fun hc53 => ?_) ?_
      · have hcq1 : ¬ (((p1[(Int.toNat v34)]!).length : Int) > 4) := (i_neg decide_eq_true_iff hc53)
        exact q_load (i := v34) (v := .slice ((y1[(Int.toNat v34)]!).1) ((y1[(Int.toNat v34)]!).2.2.length) ((y1[(Int.toNat v34)]!).2.1)) ON23 (Tv.o (hp1.bel hB40)) (Tv.g (hp1.bel hB40) (hg52 hcq1)) rfl (if_pos hc53)
      obtain ⟨r55, hk56, hm⟩ := hm
      refine wl_guardE (X := Ext) (c := (decide (((p1[(Int.toNat v34)]!).length : Int) > 4)) = false) (val := .bool r55) (Ext.refl _) (b := ((decide (((p1[(Int.toNat v34)]!).length : Int) > 4)) == false)) (gv_some rfl rfl rfl) beq_iff_eq (fun hc54 => ?_) (fun w57 hE58 => ?_)
      · have hcq1 : ¬ (((p1[(Int.toNat v34)]!).length : Int) > 4) := (i_neg decide_eq_true_iff hc54)
        exact (g_call (vs := #[.slice ((y1[(Int.toNat v34)]!).1) ((y1[(Int.toNat v34)]!).2.2.length) ((y1[(Int.toNat v34)]!).2.1), .int .i64 6]) CF58 (args2 (if_pos hc54) rfl) ((m_spec_l11Rising_fn ((Tv.row (hp1.bel hB40) (hg52 hcq1)).up hS41) 6 (hk56 hcq1)).mono fun _ _ ⟨_, h1, h2, h3⟩ => ⟨by rw [h2, h1], h3⟩))
      have hB59 := hB40.trans (Ext.stp hE58 hS41.base)
      have hS60 := hS41.ext hE58
      refine wl_guard (c := (decide (((p1[(Int.toNat v34)]!).length : Int) > 4)) = false) (val := .bool (!r55)) (b := ((decide (((p1[(Int.toNat v34)]!).length : Int) > 4)) == false)) (gv_some rfl rfl rfl) beq_iff_eq (fun hc61 => ?_) ?_
      · have hcq1 : ¬ (((p1[(Int.toNat v34)]!).length : Int) > 4) := (i_neg decide_eq_true_iff hc61)
        exact g_not (a := r55) (if_pos hc61)
      refine wl_val (g_pick_or (b := (decide (((p1[(Int.toNat v34)]!).length : Int) > 4))) (q := (!r55)) rfl rfl) rfl ?_
      refine wl_nil ?_
      refine hK47 _ _ ?_
      refine w_condI (p := ((((p1[(Int.toNat v34)]!).length : Int) > 4) ∨ (¬ (r55 = true)))) (b := ((decide (((p1[(Int.toNat v34)]!).length : Int) > 4)) || (!r55))) rfl (i_or decide_eq_true_iff (i_not Iff.rfl)) (fun h62 => ?_) (fun h62 => ?_)
      · replace hm := hm.1 h62
        refine w_seq fun K63 hK63 => ?_
        refine w_region ?_
        refine wl_val (g_assign (v := .bool false) rfl) rfl ?_
        refine wl_nil ?_
        refine hK63 _ _ ?_
        refine w_ret ?_
        repeat first | with_reducible refine q_then ?_ | with_reducible refine q_block ?_
        exact ret1 rfl (by decide) ⟨_, hm, rfl, toExt hB59⟩
      · replace hm := hm.2 h62
        refine w_skip ?_
        refine hK46 _ _ ?_
        refine w_region ?_
        refine wl_val (g_move (v := .int .i64 v34) rfl) rfl ?_
        obtain ⟨hg64, hm⟩ := hm
        refine wl_val (g_add (a := v34) (b := 1) rfl rfl hg64) rfl ?_
        refine wl_val (g_assign (v := .int .i64 (v34 + 1)) rfl) rfl ?_
        refine wl_nil ?_
        exact ⟨((v34 + 1)), hm.2, ⟨rfl, rfl, rfl, trivial⟩, ⟨hm.1, hB59, hS60⟩⟩
    · replace hm := hm.2 h45
      refine w_exit ?_
      exact ⟨(), ⟨rfl, rfl, trivial⟩, ⟨hm, hB40, hS41⟩⟩
  · rintro _ b_ w65 ⟨hm, hB66, hS67⟩
    show Wp _ _ _ _ (upds b_ [(0, .slice a0 n0 c0), (1, .slice a1 n1 c1)]) w65
    refine w_seq fun K68 hK68 => ?_
    refine w_region ?_
    refine wl_val (g_move (v := .slice a0 n0 c0) rfl) rfl ?_
    refine wl_step rfl (g_call (vs := #[.slice a0 n0 c0]) CF57 (args1 rfl) (m_spec_PlayersOk_fn ((hp0.bel hB66).up hS67) hm)) ?_
    rintro _ w69 ⟨r72, hm, rfl, hE70⟩
    have hB73 := hB66.trans (Ext.stp hE70 hS67.base)
    have hS74 := hS67.ext hE70
    refine wl_val (g_move (v := .bool r72) rfl) rfl ?_
    refine wl_guard (c := r72 = true) (val := .slice a1 n1 c1) (b := (r72 == true)) (gv_some rfl rfl rfl) beq_iff_eq (fun hc75 => ?_) ?_
    · have hcq2 : r72 = true := (Iff.rfl.mp hc75)
      exact g_move (v := .slice a1 n1 c1) rfl
    refine wl_guard (c := r72 = true) (val := .int .i64 (p1.length : Int)) (b := (r72 == true)) (gv_some rfl rfl rfl) beq_iff_eq (fun hc76 => ?_) ?_
    · have hcq2 : r72 = true := (Iff.rfl.mp hc76)
      exact q_len SL37 (if_pos hc76) (Tv.len (hp1.bel hB73))
    obtain ⟨r78, hk79, hm⟩ := hm
    refine wl_guardE (X := Ext) (c := r72 = true) (val := .bool r78) (Ext.refl _) (b := (r72 == true)) (gv_some rfl rfl rfl) beq_iff_eq (fun hc77 => ?_) (fun w80 hE81 => ?_)
    · have hcq2 : r72 = true := (Iff.rfl.mp hc77)
      exact (g_call (vs := #[.int .i64 (p1.length : Int), .int .i64 1, .int .i64 6]) CF88 (args3 (if_pos hc77) rfl rfl) ((m_spec_l01In_fn (p1.length : Int) 1 6 (hk79 hcq2)).mono fun _ _ ⟨_, h1, h2, h3⟩ => ⟨by rw [h2, h1], h3⟩))
    have hB82 := hB73.trans (Ext.stp hE81 hS74.base)
    have hS83 := hS74.ext hE81
    refine wl_val (g_pick_and (b := r72) (q := r78) rfl rfl) rfl ?_
    refine wl_val (g_assign (v := .bool (r72 && r78)) rfl) rfl ?_
    refine wl_nil ?_
    refine hK68 _ _ ?_
    refine w_ret ?_
    repeat first | with_reducible refine q_then ?_ | with_reducible refine q_block ?_
    exact ret1 rfl (by decide) ⟨_, hm, rfl, toExt hB82⟩

theorem m_spec_l14Ok_fn {w : World} {a0 : Option Addr} {n0 c0 : Nat} {y0 : List PlayerD} {p0 : List PlayerC} {a1 : Option Addr} {n1 c1 : Nat} {p1 : List Int} {Q : Bool → Prop} (hp0 : Tv w.heap.size w a0 n0 c0 y0 p0) (hp1 : Vw w.heap.size w a1 n1 c1 p1) (hm : m_spec_l14Ok p0 p1 Q) :
    Fn Try.prog 65 #[.slice a0 n0 c0, .slice a1 n1 c1] w (fun v w' => ∃ (r0 : Bool), Q r0 ∧ v = .bool r0 ∧ Ext w w') := by
  unfold m_spec_l14Ok at hm
  have hB0 := Below.refl w.heap.size w
  have hS0 : Sep w w.heap.size [] := Sep.nil (Nat.le_refl _)
  refine fn_of_wp Try.func65 rfl (by kernel_rfl) (Nat.le_of_ble_eq_true rfl) ?_
  refine w_seq fun K1 hK1 => ?_
  refine w_region ?_
  refine wl_val (g_assign (v := .bool false) rfl) rfl ?_
  refine wl_nil ?_
  refine hK1 _ _ ?_
  refine w_seq fun K2 hK2 => ?_
  refine w_region ?_
  refine wl_val (g_move (v := .slice a0 n0 c0) rfl) rfl ?_
  refine wl_step rfl (g_call (vs := #[.slice a0 n0 c0]) CF57 (args1 rfl) (m_spec_PlayersOk_fn ((hp0.bel hB0).up hS0) hm)) ?_
  rintro _ w3 ⟨r6, hm, rfl, hE4⟩
  have hB7 := hB0.trans (Ext.stp hE4 hS0.base)
  have hS8 := hS0.ext hE4
  refine wl_val (g_move (v := .bool r6) rfl) rfl ?_
  refine wl_guard (c := r6 = true) (val := .slice a1 n1 c1) (b := (r6 == true)) (gv_some rfl rfl rfl) beq_iff_eq (fun hc9 => ?_) ?_
  · have hcq0 : r6 = true := (Iff.rfl.mp hc9)
    exact g_move (v := .slice a1 n1 c1) rfl
  obtain ⟨r11, hk12, hm⟩ := hm
  refine wl_guardE (X := Ext) (c := r6 = true) (val := .bool r11) (Ext.refl _) (b := (r6 == true)) (gv_some rfl rfl rfl) beq_iff_eq (fun hc10 => ?_) (fun w13 hE14 => ?_)
  · have hcq0 : r6 = true := (Iff.rfl.mp hc10)
    exact (g_call (vs := #[.slice a1 n1 c1, .int .i64 6]) CF58 (args2 (if_pos hc10) rfl) ((m_spec_l11Rising_fn ((hp1.bel hB7).up hS8) 6 (hk12 hcq0)).mono fun _ _ ⟨_, h1, h2, h3⟩ => ⟨by rw [h2, h1], h3⟩))
  have hB15 := hB7.trans (Ext.stp hE14 hS8.base)
  have hS16 := hS8.ext hE14
  refine wl_val (g_pick_and (b := r6) (q := r11) rfl rfl) rfl ?_
  refine wl_val (g_assign (v := .bool (r6 && r11)) rfl) rfl ?_
  refine wl_nil ?_
  refine hK2 _ _ ?_
  refine w_ret ?_
  repeat first | with_reducible refine q_then ?_ | with_reducible refine q_block ?_
  exact ret1 rfl (by decide) ⟨_, hm, rfl, toExt hB15⟩

theorem m_spec_l13Knows_fn {w : World} {a0_0 : Option Addr} {n0_0 c0_0 : Nat} {Q : Bool → Prop} (p0 : PlayerC) (hp0_0 : Vw w.heap.size w a0_0 n0_0 c0_0 p0.1) (p1 : Int) (hm : m_spec_l13Knows p0 p1 Q) :
    Fn Try.prog 89 #[.agg #[.slice a0_0 n0_0 c0_0, .int .i64 p0.2], .int .i64 p1] w (fun v w' => ∃ (r0 : Bool), Q r0 ∧ v = .bool r0 ∧ Ext w w') := by
  unfold m_spec_l13Knows at hm
  have hB0 := Below.refl w.heap.size w
  have hS0 : Sep w w.heap.size [] := Sep.nil (Nat.le_refl _)
  refine fn_of_wp Try.func89 rfl (by kernel_rfl) (Nat.le_of_ble_eq_true rfl) ?_
  refine w_seq fun K1 hK1 => ?_
  refine w_region ?_
  refine wl_step rfl (q_box (cs := #[.slice a0_0 n0_0 c0_0, .int .i64 p0.2]) rfl rfl hS0) ?_
  rintro _ w2 ⟨g3, rfl, hS5, hE4⟩
  have hB7 := hB0.trans (Ext.stp hE4 hS0.base)
  refine wl_val (g_assign (v := .bool false) rfl) rfl ?_
  refine wl_nil ?_
  refine hK1 _ _ ?_
  refine w_cut (σ := Unit) (fun _ => []) (fun _ w' => m_spec_l13Knows_K0 Q ∧ Below w.heap.size w w' ∧ Sep w' w.heap.size []) ?_ ?_
  · refine w_seq fun K9 hK9 => ?_
    refine w_region ?_
    refine wl_val (g_assign (v := .int .i64 0) rfl) rfl ?_
    refine wl_nil ?_
    refine hK9 _ _ ?_
    refine w_block ?_
    obtain ⟨I28, μ29, h030, hr31⟩ := hm
    refine w_for (σ := Int) (fun v27 => [(1, .int .i64 p1), (2, .pointer (some (⟨g3, 0, none⟩ : Addr))), (5, .int .i64 v27)]) (fun v27 w' => I28 v27 ∧ Below w.heap.size w w' ∧ Sep w' w.heap.size [oB g3 54 #[.slice a0_0 n0_0 c0_0, .int .i64 p0.2]]) (fun v27 => μ29 v27) (0) ⟨rfl, rfl, rfl, trivial⟩ ⟨h030, hB7, hS5⟩ ?_
    rintro v27 b_ w32 ⟨hi_, hB33, hS34⟩
    show Wp _ _ _ _ (upds b_ [(1, .int .i64 p1), (2, .pointer (some (⟨g3, 0, none⟩ : Addr))), (5, .int .i64 v27)]) w32
    have hm := hr31 v27 hi_
    refine w_seq fun K36 hK36 => ?_
    refine w_seq fun K37 hK37 => ?_
    refine w_region ?_
    refine wl_val (g_move (v := .int .i64 v27) rfl) rfl ?_
    refine wl_val (g_fieldAddr (q := (⟨g3, 0, none⟩ : Addr)) FL54_0 ON23 rfl) rfl ?_
    refine wl_val (q_loadB (i := 0) (bs := #[.slice a0_0 n0_0 c0_0, .int .i64 p0.2]) hS34.g0 ON23 rfl rfl) rfl ?_
    refine wl_val (q_len SL23 rfl (Vw.len (hp0_0.bel hB33))) rfl ?_
    refine wl_val (g_lss (a := v27) (b := (p0.1.length : Int)) rfl rfl) rfl ?_
    refine wl_nil ?_
    refine hK37 _ _ ?_
    refine w_condI (p := v27 < (p0.1.length : Int)) (b := (decide (v27 < (p0.1.length : Int)))) rfl decide_eq_true_iff (fun h38 => ?_) (fun h38 => ?_)
    · replace hm := hm.1 h38
      refine w_skip ?_
      refine hK36 _ _ ?_
      refine w_seq fun K39 hK39 => ?_
      refine w_block ?_
      refine w_seq fun K40 hK40 => ?_
      refine w_region ?_
      refine wl_val (g_fieldAddr (q := (⟨g3, 0, none⟩ : Addr)) FL54_0 ON23 rfl) rfl ?_
      refine wl_val (q_loadB (i := 0) (bs := #[.slice a0_0 n0_0 c0_0, .int .i64 p0.2]) hS34.g0 ON23 rfl rfl) rfl ?_
      refine wl_val (g_move (v := .int .i64 v27) rfl) rfl ?_
      obtain ⟨hg41, hm⟩ := hm
      refine wl_val (q_index (i := v27) SL23 rfl rfl (hp0_0.bel hB33) hg41) rfl ?_
      refine wl_val (q_load (i := v27) (v := .int .i64 (p0.1[(Int.toNat v27)]!)) ON3 (hp0_0.bel hB33) hg41 rfl rfl) rfl ?_
      refine wl_val (g_move (v := .int .i64 p1) rfl) rfl ?_
      refine wl_val (g_eql (a := p0.1[(Int.toNat v27)]!) (b := p1) rfl rfl) rfl ?_
      refine wl_nil ?_
      refine hK40 _ _ ?_
      refine w_condI (p := p0.1[(Int.toNat v27)]! = p1) (b := (decide (p0.1[(Int.toNat v27)]! = p1))) rfl decide_eq_true_iff (fun h42 => ?_) (fun h42 => ?_)
      · replace hm := hm.1 h42
        refine w_seq fun K43 hK43 => ?_
        refine w_region ?_
        refine wl_val (g_assign (v := .bool true) rfl) rfl ?_
        refine wl_nil ?_
        refine hK43 _ _ ?_
        refine w_ret ?_
        repeat first | with_reducible refine q_then ?_ | with_reducible refine q_block ?_
        exact ret1 rfl (by decide) ⟨_, hm, rfl, toExt hB33⟩
      · replace hm := hm.2 h42
        refine w_skip ?_
        refine hK39 _ _ ?_
        refine w_region ?_
        refine wl_val (g_move (v := .int .i64 v27) rfl) rfl ?_
        obtain ⟨hg44, hm⟩ := hm
        refine wl_val (g_add (a := v27) (b := 1) rfl rfl hg44) rfl ?_
        refine wl_val (g_assign (v := .int .i64 (v27 + 1)) rfl) rfl ?_
        refine wl_nil ?_
        exact ⟨((v27 + 1)), hm.2, ⟨rfl, rfl, rfl, trivial⟩, ⟨hm.1, hB33, hS34⟩⟩
    · replace hm := hm.2 h38
      refine w_exit ?_
      have hS45 := hS34.tail
      exact ⟨(), trivial, ⟨hm, hB33, hS45⟩⟩
  · rintro _ b_ w46 ⟨hm, hB47, hS48⟩
    show Wp _ _ _ _ (upds b_ []) w46
    refine w_seq fun K49 hK49 => ?_
    refine w_region ?_
    refine wl_val (g_assign (v := .bool false) rfl) rfl ?_
    refine wl_nil ?_
    refine hK49 _ _ ?_
    refine w_ret ?_
    repeat first | with_reducible refine q_then ?_ | with_reducible refine q_block ?_
    exact ret1 rfl (by decide) ⟨_, hm, rfl, toExt hB47⟩

theorem m_spec_LoadOf_fn {w : World} {a0 : Option Addr} {n0 c0 : Nat} {y0 : List PlayerD} {p0 : List PlayerC} {a1 : Option Addr} {n1 c1 : Nat} {p1 : List Int} {Q : (List Int) → Prop} (hp0 : Tv w.heap.size w a0 n0 c0 y0 p0) (hp1 : Vw w.heap.size w a1 n1 c1 p1) (hm : m_spec_LoadOf p0 p1 Q) :
    Fn Try.prog 90 #[.slice a0 n0 c0, .slice a1 n1 c1] w (fun v w' => ∃ (r0 : List Int) (a0 : Option Addr) (n0 c0 : Nat), Q r0 ∧ v = .slice a0 n0 c0 ∧ Ext w w' ∧ Sep w' w.heap.size [oS 3 a0 n0 c0 r0]) := by
  unfold m_spec_LoadOf at hm
  have hB0 := Below.refl w.heap.size w
  have hS0 : Sep w w.heap.size [] := Sep.nil (Nat.le_refl _)
  refine fn_of_wp Try.func90 rfl (by kernel_rfl) (Nat.le_of_ble_eq_true rfl) ?_
  refine w_seq fun K1 hK1 => ?_
  refine w_region ?_
  refine wl_val (g_assign (v := .slice none 0 0) rfl) rfl ?_
  refine wl_nil ?_
  refine hK1 _ _ ?_
  refine w_seq fun K2 hK2 => ?_
  refine w_region ?_
  refine wl_step rfl (q_lit0 (α := Int) rfl SL23 hS0) ?_
  rintro _ w3 ⟨a4, rfl, hS6, hE5⟩
  have hB8 := hB0.trans (Ext.stp hE5 hS0.base)
  refine wl_val (g_assign (v := .slice a4 0 0) rfl) rfl ?_
  refine wl_nil ?_
  refine hK2 _ _ ?_
  refine w_seq fun K9 hK9 => ?_
  refine w_seq fun K10 hK10 => ?_
  refine w_region ?_
  refine wl_val (g_move (v := .slice a0 n0 c0) rfl) rfl ?_
  refine wl_step rfl (g_call (vs := #[.slice a0 n0 c0]) CF57 (args1 rfl) (m_spec_PlayersOk_fn ((hp0.bel hB8).up hS6) hm)) ?_
  rintro _ w11 ⟨r14, hm, rfl, hE12⟩
  have hB15 := hB8.trans (Ext.stp hE12 hS6.base)
  have hS16 := hS6.ext hE12
  refine wl_val (g_not (a := r14) rfl) rfl ?_
  refine wl_nil ?_
  refine hK10 _ _ ?_
  refine w_condI (p := ¬ (r14 = true)) (b := (!r14)) rfl (i_not Iff.rfl) (fun h17 => ?_) (fun h17 => ?_)
  · replace hm := hm.1 h17
    refine w_seq fun K18 hK18 => ?_
    refine w_region ?_
    refine wl_val (g_move (v := .slice a4 0 0) rfl) rfl ?_
    refine wl_val (g_assign (v := .slice a4 0 0) rfl) rfl ?_
    refine wl_nil ?_
    refine hK18 _ _ ?_
    refine w_ret ?_
    repeat first | with_reducible refine q_then ?_ | with_reducible refine q_block ?_
    exact ret1 rfl (by decide) ⟨_, _, _, _, hm, rfl, toExt hB15, hS16⟩
  · replace hm := hm.2 h17
    refine w_skip ?_
    refine hK9 _ _ ?_
    refine w_cut (σ := List Int × Option Addr × Nat × Nat) (fun ⟨x233, a234, n235, c236⟩ => [(5, .slice a234 n235 c236)]) (fun ⟨x233, a234, n235, c236⟩ w' => m_spec_LoadOf_K2 Q x233 ∧ Below w.heap.size w w' ∧ Sep w' w.heap.size [oS 3 a234 n235 c236 (x233 : List Int)]) ?_ ?_
    · refine w_seq fun K238 hK238 => ?_
      refine w_region ?_
      refine wl_val (g_assign (v := .int .i64 0) rfl) rfl ?_
      refine wl_nil ?_
      refine hK238 _ _ ?_
      refine w_block ?_
      obtain ⟨I244, μ245, h0246, hr247⟩ := hm
      refine w_for (σ := List Int × Option Addr × Nat × Nat × Int) (fun ⟨x239, a240, n241, c242, v243⟩ => [(0, .slice a0 n0 c0), (1, .slice a1 n1 c1), (5, .slice a240 n241 c242), (6, .int .i64 v243)]) (fun ⟨x239, a240, n241, c242, v243⟩ w' => I244 x239 v243 ∧ Below w.heap.size w w' ∧ Sep w' w.heap.size [oS 3 a240 n241 c242 (x239 : List Int)]) (fun ⟨x239, a240, n241, c242, v243⟩ => μ245 x239 v243) ([], a4, 0, 0, 0) ⟨rfl, rfl, rfl, rfl, trivial⟩ ⟨h0246, hB15, hS16⟩ ?_
      rintro ⟨x239, a240, n241, c242, v243⟩ b_ w248 ⟨hi_, hB249, hS250⟩
      show Wp _ _ _ _ (upds b_ [(0, .slice a0 n0 c0), (1, .slice a1 n1 c1), (5, .slice a240 n241 c242), (6, .int .i64 v243)]) w248
      have hm := hr247 x239 v243 hi_
      refine w_seq fun K252 hK252 => ?_
      refine w_seq fun K253 hK253 => ?_
      refine w_region ?_
      refine wl_val (g_move (v := .int .i64 v243) rfl) rfl ?_
      refine wl_val (g_move (v := .slice a0 n0 c0) rfl) rfl ?_
      refine wl_val (q_len SL27 rfl (Tv.len (hp0.bel hB249))) rfl ?_
      refine wl_val (g_lss (a := v243) (b := (p0.length : Int)) rfl rfl) rfl ?_
      refine wl_nil ?_
      refine hK253 _ _ ?_
      refine w_condI (p := v243 < (p0.length : Int)) (b := (decide (v243 < (p0.length : Int)))) rfl decide_eq_true_iff (fun h254 => ?_) (fun h254 => ?_)
      · replace hm := hm.1 h254
        refine w_skip ?_
        refine hK252 _ _ ?_
        refine w_cut (σ := List Int × Option Addr × Nat × Nat) (fun ⟨x255, a256, n257, c258⟩ => [(0, .slice a0 n0 c0), (1, .slice a1 n1 c1), (5, .slice a256 n257 c258), (6, .int .i64 v243)]) (fun ⟨x255, a256, n257, c258⟩ w' => m_spec_LoadOf_K1 v243 (fun x239' v243' => I244 x239' v243' ∧ μ245 x239' v243' < μ245 x239 v243) x255 ∧ Below w.heap.size w w' ∧ Sep w' w.heap.size [oS 3 a256 n257 c258 (x255 : List Int)]) ?_ ?_
        · refine w_block ?_
          refine w_seq fun K260 hK260 => ?_
          refine w_region ?_
          refine wl_val (g_assign (v := .int .i64 0) rfl) rfl ?_
          refine wl_nil ?_
          refine hK260 _ _ ?_
          refine w_cut (σ := Int) (fun v261 => [(0, .slice a0 n0 c0), (1, .slice a1 n1 c1), (5, .slice a240 n241 c242), (6, .int .i64 v243), (7, .int .i64 v261)]) (fun v261 w' => m_spec_LoadOf_K0 x239 (m_spec_LoadOf_K1 v243 (fun x239' v243' => I244 x239' v243' ∧ μ245 x239' v243' < μ245 x239 v243)) v261 ∧ Below w.heap.size w w' ∧ Sep w' w.heap.size [oS 3 a240 n241 c242 (x239 : List Int)]) ?_ ?_
          · refine w_seq fun K263 hK263 => ?_
            refine w_region ?_
            refine wl_val (g_assign (v := .int .i64 0) rfl) rfl ?_
            refine wl_nil ?_
            refine hK263 _ _ ?_
            refine w_block ?_
            obtain ⟨I266, μ267, h0268, hr269⟩ := hm
            refine w_for (σ := Int × Int) (fun ⟨v264, v265⟩ => [(0, .slice a0 n0 c0), (1, .slice a1 n1 c1), (5, .slice a240 n241 c242), (6, .int .i64 v243), (7, .int .i64 v264), (8, .int .i64 v265)]) (fun ⟨v264, v265⟩ w' => I266 v264 v265 ∧ Below w.heap.size w w' ∧ Sep w' w.heap.size [oS 3 a240 n241 c242 (x239 : List Int)]) (fun ⟨v264, v265⟩ => μ267 v264 v265) (0, 0) ⟨rfl, rfl, rfl, rfl, rfl, rfl, trivial⟩ ⟨h0268, hB249, hS250⟩ ?_
            rintro ⟨v264, v265⟩ b_ w270 ⟨hi_, hB271, hS272⟩
            show Wp _ _ _ _ (upds b_ [(0, .slice a0 n0 c0), (1, .slice a1 n1 c1), (5, .slice a240 n241 c242), (6, .int .i64 v243), (7, .int .i64 v264), (8, .int .i64 v265)]) w270
            have hm := hr269 v264 v265 hi_
            refine w_seq fun K274 hK274 => ?_
            refine w_seq fun K275 hK275 => ?_
            refine w_region ?_
            refine wl_val (g_move (v := .int .i64 v265) rfl) rfl ?_
            refine wl_val (g_move (v := .slice a1 n1 c1) rfl) rfl ?_
            refine wl_val (q_len SL23 rfl (Vw.len (hp1.bel hB271))) rfl ?_
            refine wl_val (g_lss (a := v265) (b := (p1.length : Int)) rfl rfl) rfl ?_
            refine wl_nil ?_
            refine hK275 _ _ ?_
            refine w_condI (p := v265 < (p1.length : Int)) (b := (decide (v265 < (p1.length : Int)))) rfl decide_eq_true_iff (fun h276 => ?_) (fun h276 => ?_)
            · replace hm := hm.1 h276
              refine w_skip ?_
              refine hK274 _ _ ?_
              refine w_seq fun K277 hK277 => ?_
              refine w_block ?_
              refine w_seq fun K278 hK278 => ?_
              refine w_region ?_
              refine wl_val (g_move (v := .slice a1 n1 c1) rfl) rfl ?_
              refine wl_val (g_move (v := .int .i64 v265) rfl) rfl ?_
              obtain ⟨hg279, hm⟩ := hm
              refine wl_val (q_index (i := v265) SL23 rfl rfl (hp1.bel hB271) hg279) rfl ?_
              refine wl_val (q_load (i := v265) (v := .int .i64 (p1[(Int.toNat v265)]!)) ON3 (hp1.bel hB271) hg279 rfl rfl) rfl ?_
              refine wl_val (g_move (v := .int .i64 v243) rfl) rfl ?_
              refine wl_val (g_eql (a := p1[(Int.toNat v265)]!) (b := v243) rfl rfl) rfl ?_
              refine wl_nil ?_
              refine hK278 _ _ ?_
              refine w_condI (p := p1[(Int.toNat v265)]! = v243) (b := (decide (p1[(Int.toNat v265)]! = v243))) rfl decide_eq_true_iff (fun h280 => ?_) (fun h280 => ?_)
              · replace hm := hm.1 h280
                refine w_region ?_
                refine wl_val (g_move (v := .int .i64 v264) rfl) rfl ?_
                obtain ⟨hg281, hm⟩ := hm
                refine wl_val (g_add (a := v264) (b := 1) rfl rfl hg281) rfl ?_
                refine wl_val (g_assign (v := .int .i64 (v264 + 1)) rfl) rfl ?_
                refine wl_nil ?_
                refine hK277 _ _ ?_
                refine w_region ?_
                refine wl_val (g_move (v := .int .i64 v265) rfl) rfl ?_
                obtain ⟨hg282, hm⟩ := hm
                refine wl_val (g_add (a := v265) (b := 1) rfl rfl hg282) rfl ?_
                refine wl_val (g_assign (v := .int .i64 (v265 + 1)) rfl) rfl ?_
                refine wl_nil ?_
                exact ⟨((v264 + 1), (v265 + 1)), hm.2, ⟨rfl, rfl, rfl, rfl, rfl, rfl, trivial⟩, ⟨hm.1, hB271, hS272⟩⟩
              · replace hm := hm.2 h280
                refine w_skip ?_
                refine hK277 _ _ ?_
                refine w_region ?_
                refine wl_val (g_move (v := .int .i64 v265) rfl) rfl ?_
                obtain ⟨hg283, hm⟩ := hm
                refine wl_val (g_add (a := v265) (b := 1) rfl rfl hg283) rfl ?_
                refine wl_val (g_assign (v := .int .i64 (v265 + 1)) rfl) rfl ?_
                refine wl_nil ?_
                exact ⟨(v264, (v265 + 1)), hm.2, ⟨rfl, rfl, rfl, rfl, rfl, rfl, trivial⟩, ⟨hm.1, hB271, hS272⟩⟩
            · replace hm := hm.2 h276
              refine w_exit ?_
              exact ⟨(v264), ⟨rfl, rfl, rfl, rfl, rfl, trivial⟩, ⟨hm, hB271, hS272⟩⟩
          · rintro v261 b_ w284 ⟨hm, hB285, hS286⟩
            show Wp _ _ _ _ (upds b_ [(0, .slice a0 n0 c0), (1, .slice a1 n1 c1), (5, .slice a240 n241 c242), (6, .int .i64 v243), (7, .int .i64 v261)]) w284
            refine w_region ?_
            refine wl_val (g_move (v := .slice a240 n241 c242) rfl) rfl ?_
            refine wl_val (g_move (v := .int .i64 v261) rfl) rfl ?_
            refine wl_step rfl (q_lit1 (y := (v261 : Int)) SL23 rfl rfl (by decide) hS286) ?_
            rintro _ w287 ⟨a288, rfl, hS290, hE289⟩
            have hB292 := hB285.trans (Ext.stp hE289 hS286.base)
            have hS298 := hS290.f1
            obtain ⟨hg299, hm⟩ := hm
            refine wl_step rfl (q_append SL23 rfl rfl hS298 (oS.vw hS298.g1) hg299 (by decide)) ?_
            rintro _ w293 ⟨a294, c295, rfl, hS297, hb296⟩
            have hB300 := hB292.trans hb296
            refine wl_val (g_assign (v := .slice a294 (n241 + 1) c295) rfl) rfl ?_
            refine wl_nil ?_
            have hS301 := hS297.f1
            have hS302 := hS301.tail
            exact ⟨((x239 ++ ([v261])), a294, (n241 + 1), c295), ⟨rfl, rfl, rfl, rfl, trivial⟩, ⟨hm, hB300, hS302⟩⟩
        · rintro ⟨x255, a256, n257, c258⟩ b_ w303 ⟨hm, hB304, hS305⟩
          show Wp _ _ _ _ (upds b_ [(0, .slice a0 n0 c0), (1, .slice a1 n1 c1), (5, .slice a256 n257 c258), (6, .int .i64 v243)]) w303
          refine w_region ?_
          refine wl_val (g_move (v := .int .i64 v243) rfl) rfl ?_
          obtain ⟨hg306, hm⟩ := hm
          refine wl_val (g_add (a := v243) (b := 1) rfl rfl hg306) rfl ?_
          refine wl_val (g_assign (v := .int .i64 (v243 + 1)) rfl) rfl ?_
          refine wl_nil ?_
          exact ⟨(x255, a256, n257, c258, (v243 + 1)), hm.2, ⟨rfl, rfl, rfl, rfl, trivial⟩, ⟨hm.1, hB304, hS305⟩⟩
      · replace hm := hm.2 h254
        refine w_exit ?_
        exact ⟨(x239, a240, n241, c242), ⟨rfl, trivial⟩, ⟨hm, hB249, hS250⟩⟩
    · rintro ⟨x233, a234, n235, c236⟩ b_ w307 ⟨hm, hB308, hS309⟩
      show Wp _ _ _ _ (upds b_ [(5, .slice a234 n235 c236)]) w307
      refine w_seq fun K310 hK310 => ?_
      refine w_region ?_
      refine wl_val (g_move (v := .slice a234 n235 c236) rfl) rfl ?_
      refine wl_val (g_assign (v := .slice a234 n235 c236) rfl) rfl ?_
      refine wl_nil ?_
      refine hK310 _ _ ?_
      refine w_ret ?_
      repeat first | with_reducible refine q_then ?_ | with_reducible refine q_block ?_
      exact ret1 rfl (by decide) ⟨_, _, _, _, hm, rfl, toExt hB308, hS309⟩

theorem m_spec_IsCasting_fn {w : World} {a0 : Option Addr} {n0 c0 : Nat} {y0 : List PlayerD} {p0 : List PlayerC} {a1 : Option Addr} {n1 c1 : Nat} {p1 : List Int} {a2 : Option Addr} {n2 c2 : Nat} {p2 : List Int} {Q : Bool → Prop} (hp0 : Tv w.heap.size w a0 n0 c0 y0 p0) (hp1 : Vw w.heap.size w a1 n1 c1 p1) (hp2 : Vw w.heap.size w a2 n2 c2 p2) (hm : m_spec_IsCasting p0 p1 p2 Q) :
    Fn Try.prog 53 #[.slice a0 n0 c0, .slice a1 n1 c1, .slice a2 n2 c2] w (fun v w' => ∃ (r0 : Bool), Q r0 ∧ v = .bool r0 ∧ Ext w w') := by
  unfold m_spec_IsCasting at hm
  have hB0 := Below.refl w.heap.size w
  have hS0 : Sep w w.heap.size [] := Sep.nil (Nat.le_refl _)
  refine fn_of_wp Try.func53 rfl (by kernel_rfl) (Nat.le_of_ble_eq_true rfl) ?_
  refine w_seq fun K1 hK1 => ?_
  refine w_region ?_
  refine wl_val (g_assign (v := .bool false) rfl) rfl ?_
  refine wl_nil ?_
  refine hK1 _ _ ?_
  refine w_seq fun K2 hK2 => ?_
  refine w_seq fun K3 hK3 => ?_
  refine w_region ?_
  refine wl_val (g_move (v := .slice a0 n0 c0) rfl) rfl ?_
  refine wl_step rfl (g_call (vs := #[.slice a0 n0 c0]) CF57 (args1 rfl) (m_spec_PlayersOk_fn ((hp0.bel hB0).up hS0) hm)) ?_
  rintro _ w4 ⟨r7, hm, rfl, hE5⟩
  have hB8 := hB0.trans (Ext.stp hE5 hS0.base)
  have hS9 := hS0.ext hE5
  refine wl_val (g_not (a := r7) rfl) rfl ?_
  refine wl_val (g_move (v := .bool (!r7)) rfl) rfl ?_
  refine wl_guard (c := (!r7) = false) (val := .slice a1 n1 c1) (b := ((!r7) == false)) (gv_some rfl rfl rfl) beq_iff_eq (fun hc10 => ?_) ?_
  · have hcq0 : ¬ (¬ (r7 = true)) := (i_neg (i_not Iff.rfl) hc10)
    exact g_move (v := .slice a1 n1 c1) rfl
  obtain ⟨r12, hk13, hm⟩ := hm
  refine wl_guardE (X := Ext) (c := (!r7) = false) (val := .bool r12) (Ext.refl _) (b := ((!r7) == false)) (gv_some rfl rfl rfl) beq_iff_eq (fun hc11 => ?_) (fun w14 hE15 => ?_)
  · have hcq0 : ¬ (¬ (r7 = true)) := (i_neg (i_not Iff.rfl) hc11)
    exact (g_call (vs := #[.slice a1 n1 c1, .int .i64 6]) CF58 (args2 (if_pos hc11) rfl) ((m_spec_l11Rising_fn ((hp1.bel hB8).up hS9) 6 (hk13 hcq0)).mono fun _ _ ⟨_, h1, h2, h3⟩ => ⟨by rw [h2, h1], h3⟩))
  have hB16 := hB8.trans (Ext.stp hE15 hS9.base)
  have hS17 := hS9.ext hE15
  refine wl_guard (c := (!r7) = false) (val := .bool (!r12)) (b := ((!r7) == false)) (gv_some rfl rfl rfl) beq_iff_eq (fun hc18 => ?_) ?_
  · have hcq0 : ¬ (¬ (r7 = true)) := (i_neg (i_not Iff.rfl) hc18)
    exact g_not (a := r12) (if_pos hc18)
  refine wl_val (g_pick_or (b := (!r7)) (q := (!r12)) rfl rfl) rfl ?_
  refine wl_val (g_move (v := .bool ((!r7) || (!r12))) rfl) rfl ?_
  refine wl_guard (c := ((!r7) || (!r12)) = false) (val := .slice a2 n2 c2) (b := (((!r7) || (!r12)) == false)) (gv_some rfl rfl rfl) beq_iff_eq (fun hc19 => ?_) ?_
  · have hcq1 : ¬ (((¬ (r7 = true)) ∨ (¬ (r12 = true)))) := (i_neg (i_or (i_not Iff.rfl) (i_not Iff.rfl)) hc19)
    exact g_move (v := .slice a2 n2 c2) rfl
  refine wl_guard (c := ((!r7) || (!r12)) = false) (val := .int .i64 (p2.length : Int)) (b := (((!r7) || (!r12)) == false)) (gv_some rfl rfl rfl) beq_iff_eq (fun hc20 => ?_) ?_
  · have hcq1 : ¬ (((¬ (r7 = true)) ∨ (¬ (r12 = true)))) := (i_neg (i_or (i_not Iff.rfl) (i_not Iff.rfl)) hc20)
    exact q_len SL23 (if_pos hc20) (Vw.len (hp2.bel hB16))
  refine wl_guard (c := ((!r7) || (!r12)) = false) (val := .slice a1 n1 c1) (b := (((!r7) || (!r12)) == false)) (gv_some rfl rfl rfl) beq_iff_eq (fun hc21 => ?_) ?_
  · have hcq1 : ¬ (((¬ (r7 = true)) ∨ (¬ (r12 = true)))) := (i_neg (i_or (i_not Iff.rfl) (i_not Iff.rfl)) hc21)
    exact g_move (v := .slice a1 n1 c1) rfl
  refine wl_guard (c := ((!r7) || (!r12)) = false) (val := .int .i64 (p1.length : Int)) (b := (((!r7) || (!r12)) == false)) (gv_some rfl rfl rfl) beq_iff_eq (fun hc22 => ?_) ?_
  · have hcq1 : ¬ (((¬ (r7 = true)) ∨ (¬ (r12 = true)))) := (i_neg (i_or (i_not Iff.rfl) (i_not Iff.rfl)) hc22)
    exact q_len SL23 (if_pos hc22) (Vw.len (hp1.bel hB16))
  refine wl_guard (c := ((!r7) || (!r12)) = false) (val := .bool (decide ((p2.length : Int) ≠ (p1.length : Int)))) (b := (((!r7) || (!r12)) == false)) (gv_some rfl rfl rfl) beq_iff_eq (fun hc23 => ?_) ?_
  · have hcq1 : ¬ (((¬ (r7 = true)) ∨ (¬ (r12 = true)))) := (i_neg (i_or (i_not Iff.rfl) (i_not Iff.rfl)) hc23)
    exact g_neq (a := (p2.length : Int)) (b := (p1.length : Int)) (if_pos hc23) (if_pos hc23)
  refine wl_val (g_pick_or (b := ((!r7) || (!r12))) (q := (decide ((p2.length : Int) ≠ (p1.length : Int)))) rfl rfl) rfl ?_
  refine wl_nil ?_
  refine hK3 _ _ ?_
  refine w_condI (p := ((((¬ (r7 = true)) ∨ (¬ (r12 = true)))) ∨ ((p2.length : Int) ≠ (p1.length : Int)))) (b := (((!r7) || (!r12)) || (decide ((p2.length : Int) ≠ (p1.length : Int))))) rfl (i_or (i_or (i_not Iff.rfl) (i_not Iff.rfl)) decide_eq_true_iff) (fun h24 => ?_) (fun h24 => ?_)
  · replace hm := hm.1 h24
    refine w_seq fun K25 hK25 => ?_
    refine w_region ?_
    refine wl_val (g_assign (v := .bool false) rfl) rfl ?_
    refine wl_nil ?_
    refine hK25 _ _ ?_
    refine w_ret ?_
    repeat first | with_reducible refine q_then ?_ | with_reducible refine q_block ?_
    exact ret1 rfl (by decide) ⟨_, hm, rfl, toExt hB16⟩
  · replace hm := hm.2 h24
    refine w_skip ?_
    refine hK2 _ _ ?_
    refine w_cut (σ := Unit) (fun _ => [(0, .slice a0 n0 c0), (2, .slice a2 n2 c2)]) (fun _ w' => m_spec_IsCasting_K1 p0 p2 Q ∧ Below w.heap.size w w' ∧ Sep w' w.heap.size []) ?_ ?_
    · refine w_seq fun K27 hK27 => ?_
      refine w_region ?_
      refine wl_val (g_assign (v := .int .i64 0) rfl) rfl ?_
      refine wl_nil ?_
      refine hK27 _ _ ?_
      refine w_block ?_
      obtain ⟨I171, μ172, h0173, hr174⟩ := hm
      refine w_for (σ := Int) (fun v170 => [(0, .slice a0 n0 c0), (1, .slice a1 n1 c1), (2, .slice a2 n2 c2), (7, .int .i64 v170)]) (fun v170 w' => I171 v170 ∧ Below w.heap.size w w' ∧ Sep w' w.heap.size []) (fun v170 => μ172 v170) (0) ⟨rfl, rfl, rfl, rfl, trivial⟩ ⟨h0173, hB16, hS17⟩ ?_
      rintro v170 b_ w175 ⟨hi_, hB176, hS177⟩
      show Wp _ _ _ _ (upds b_ [(0, .slice a0 n0 c0), (1, .slice a1 n1 c1), (2, .slice a2 n2 c2), (7, .int .i64 v170)]) w175
      have hm := hr174 v170 hi_
      refine w_seq fun K179 hK179 => ?_
      refine w_seq fun K180 hK180 => ?_
      refine w_region ?_
      refine wl_val (g_move (v := .int .i64 v170) rfl) rfl ?_
      refine wl_val (g_move (v := .slice a2 n2 c2) rfl) rfl ?_
      refine wl_val (q_len SL23 rfl (Vw.len (hp2.bel hB176))) rfl ?_
      refine wl_val (g_lss (a := v170) (b := (p2.length : Int)) rfl rfl) rfl ?_
      refine wl_nil ?_
      refine hK180 _ _ ?_
      refine w_condI (p := v170 < (p2.length : Int)) (b := (decide (v170 < (p2.length : Int)))) rfl decide_eq_true_iff (fun h181 => ?_) (fun h181 => ?_)
      · replace hm := hm.1 h181
        refine w_skip ?_
        refine hK179 _ _ ?_
        refine w_seq fun K182 hK182 => ?_
        refine w_block ?_
        refine w_seq fun K183 hK183 => ?_
        refine w_draw (X := Ext) (Y := Ext) [] MIX (by decide +kernel) rfl Ext.refl (fun _ _ _ => Ext.trans) (fun _ _ _ => Chg.trans) (fun _ _ h => Ext.chg h _) (fun w184 hE185 => ?_)
        have hB186 := hB176.trans (Ext.stp hE185 hS177.base)
        have hS187 := hS177.ext hE185
        refine ⟨.slice a2 n2 c2, fun w188 hX189 => od_plain rfl (by have hS190 := hS187.ext hX189; have hB191 := hB186.trans (Ext.stp hX189 hS187.base); exact is_ext (g_move (v := .slice a2 n2 c2) rfl)), ?_⟩
        refine ⟨.int .i64 v170, fun w192 hX193 => od_plain rfl (by have hS194 := hS187.ext hX193; have hB195 := hB186.trans (Ext.stp hX193 hS187.base); exact is_ext (g_move (v := .int .i64 v170) rfl)), ?_⟩
        obtain ⟨hg200, hm⟩ := hm
        refine ⟨.pointer (some ((adr a2).add ((Int.toNat v170) * El.m Int))), fun w196 hX197 => od_plain rfl (by have hS198 := hS187.ext hX197; have hB199 := hB186.trans (Ext.stp hX197 hS187.base); exact is_ext (q_index (i := v170) SL23 rfl rfl (hp2.bel hB199) hg200)), ?_⟩
        refine ⟨.int .i64 (p2[(Int.toNat v170)]!), fun w201 hX202 => od_plain rfl (by have hS203 := hS187.ext hX202; have hB204 := hB186.trans (Ext.stp hX202 hS187.base); exact is_ext (q_load (i := v170) (v := .int .i64 (p2[(Int.toNat v170)]!)) ON3 (hp2.bel hB204) hg200 rfl rfl)), ?_⟩
        refine ⟨.slice a0 n0 c0, fun w205 hX206 => od_plain rfl (by have hS207 := hS187.ext hX206; have hB208 := hB186.trans (Ext.stp hX206 hS187.base); exact is_ext (g_move (v := .slice a0 n0 c0) rfl)), ?_⟩
        refine ⟨.int .i64 (p0.length : Int), fun w209 hX210 => od_plain rfl (by have hS211 := hS187.ext hX210; have hB212 := hB186.trans (Ext.stp hX210 hS187.base); exact is_ext (q_len SL27 rfl (Tv.len (hp0.bel hB212)))), ?_⟩
        obtain ⟨hg217, hm⟩ := hm
        refine ⟨.int .i64 ((p0.length : Int) - 1), fun w213 hX214 => od_plain rfl (by have hS215 := hS187.ext hX214; have hB216 := hB186.trans (Ext.stp hX214 hS187.base); exact is_ext (g_sub (a := (p0.length : Int)) (b := 1) rfl rfl hg217)), ?_⟩
        obtain ⟨r222, hk223, hm⟩ := hm
        refine ⟨.bool r222, fun w218 hX219 => od_plain rfl (by have hS220 := hS187.ext hX219; have hB221 := hB186.trans (Ext.stp hX219 hS187.base); exact (g_call (vs := #[.int .i64 (p2[(Int.toNat v170)]!), .int .i64 0, .int .i64 ((p0.length : Int) - 1)]) CF88 (args3 rfl rfl rfl) ((m_spec_l01In_fn (p2[(Int.toNat v170)]!) 0 ((p0.length : Int) - 1) hk223).mono fun _ _ ⟨_, h1, h2, h3⟩ => ⟨by rw [h2, h1], h3⟩))), ?_⟩
        refine ⟨.bool (!r222), fun w224 hX225 => od_plain rfl (by have hS226 := hS187.ext hX225; have hB227 := hB186.trans (Ext.stp hX225 hS187.base); exact is_ext (g_not (a := r222) rfl)), ?_⟩
        refine ⟨.bool (!r222), fun w228 hX229 => od_plain rfl (by have hS230 := hS187.ext hX229; have hB231 := hB186.trans (Ext.stp hX229 hS187.base); exact is_ext (g_move (v := .bool (!r222)) rfl)), ?_⟩
        refine ⟨if (!r222) = false then .slice a0 n0 c0 else undef, fun w232 hX233 => od_guard (c := (!r222) = false) (val := .slice a0 n0 c0) (b := ((!r222) == false)) (gv_some rfl rfl rfl) beq_iff_eq (fun hc236 => ?_), ?_⟩
        · have hS234 := hS187.ext hX233
          have hB235 := hB186.trans (Ext.stp hX233 hS187.base)
          have hcq3 : ¬ (¬ (r222 = true)) := (i_neg (i_not Iff.rfl) hc236)
          exact is_ext (g_move (v := .slice a0 n0 c0) rfl)
        refine ⟨if (!r222) = false then .slice a2 n2 c2 else undef, fun w237 hX238 => od_guard (c := (!r222) = false) (val := .slice a2 n2 c2) (b := ((!r222) == false)) (gv_some rfl rfl rfl) beq_iff_eq (fun hc241 => ?_), ?_⟩
        · have hS239 := hS187.ext hX238
          have hB240 := hB186.trans (Ext.stp hX238 hS187.base)
          have hcq3 : ¬ (¬ (r222 = true)) := (i_neg (i_not Iff.rfl) hc241)
          exact is_ext (g_move (v := .slice a2 n2 c2) rfl)
        refine ⟨if (!r222) = false then .int .i64 v170 else undef, fun w242 hX243 => od_guard (c := (!r222) = false) (val := .int .i64 v170) (b := ((!r222) == false)) (gv_some rfl rfl rfl) beq_iff_eq (fun hc246 => ?_), ?_⟩
        · have hS244 := hS187.ext hX243
          have hB245 := hB186.trans (Ext.stp hX243 hS187.base)
          have hcq3 : ¬ (¬ (r222 = true)) := (i_neg (i_not Iff.rfl) hc246)
          exact is_ext (g_move (v := .int .i64 v170) rfl)
        obtain ⟨hg252, hm⟩ := hm
        refine ⟨if (!r222) = false then .pointer (some ((adr a2).add ((Int.toNat v170) * El.m Int))) else undef, fun w247 hX248 => od_guard (c := (!r222) = false) (val := .pointer (some ((adr a2).add ((Int.toNat v170) * El.m Int)))) (b := ((!r222) == false)) (gv_some rfl rfl rfl) beq_iff_eq (fun hc251 => ?_), ?_⟩
        · have hS249 := hS187.ext hX248
          have hB250 := hB186.trans (Ext.stp hX248 hS187.base)
          have hcq3 : ¬ (¬ (r222 = true)) := (i_neg (i_not Iff.rfl) hc251)
          exact is_ext (q_index (i := v170) SL23 (if_pos hc251) (if_pos hc251) (hp2.bel hB250) (hg252 hcq3))
        refine ⟨if (!r222) = false then .int .i64 (p2[(Int.toNat v170)]!) else undef, fun w253 hX254 => od_guard (c := (!r222) = false) (val := .int .i64 (p2[(Int.toNat v170)]!)) (b := ((!r222) == false)) (gv_some rfl rfl rfl) beq_iff_eq (fun hc257 => ?_), ?_⟩
        · have hS255 := hS187.ext hX254
          have hB256 := hB186.trans (Ext.stp hX254 hS187.base)
          have hcq3 : ¬ (¬ (r222 = true)) := (i_neg (i_not Iff.rfl) hc257)
          exact is_ext (q_load (i := v170) (v := .int .i64 (p2[(Int.toNat v170)]!)) ON3 (hp2.bel hB256) (hg252 hcq3) rfl (if_pos hc257))
        obtain ⟨hg263, hm⟩ := hm
        refine ⟨if (!r222) = false then .pointer (some ((adr a0).add ((Int.toNat (p2[(Int.toNat v170)]!)) * El.m PlayerD))) else undef, fun w258 hX259 => od_guard (c := (!r222) = false) (val := .pointer (some ((adr a0).add ((Int.toNat (p2[(Int.toNat v170)]!)) * El.m PlayerD)))) (b := ((!r222) == false)) (gv_some rfl rfl rfl) beq_iff_eq (fun hc262 => ?_), ?_⟩
        · have hS260 := hS187.ext hX259
          have hB261 := hB186.trans (Ext.stp hX259 hS187.base)
          have hcq3 : ¬ (¬ (r222 = true)) := (i_neg (i_not Iff.rfl) hc262)
          exact is_ext (q_index (i := p2[(Int.toNat v170)]!) SL27 (if_pos hc262) (if_pos hc262) (Tv.o (hp0.bel hB261)) (Tv.g (hp0.bel hB261) (hg263 hcq3)))
        refine ⟨if (!r222) = false then .agg #[.slice ((y0[(Int.toNat (p2[(Int.toNat v170)]!))]!).1.1) ((y0[(Int.toNat (p2[(Int.toNat v170)]!))]!).1.2.2.length) ((y0[(Int.toNat (p2[(Int.toNat v170)]!))]!).1.2.1), .int .i64 (p0[(Int.toNat (p2[(Int.toNat v170)]!))]!.2)] else undef, fun w264 hX265 => od_guard (c := (!r222) = false) (val := .agg #[.slice ((y0[(Int.toNat (p2[(Int.toNat v170)]!))]!).1.1) ((y0[(Int.toNat (p2[(Int.toNat v170)]!))]!).1.2.2.length) ((y0[(Int.toNat (p2[(Int.toNat v170)]!))]!).1.2.1), .int .i64 (p0[(Int.toNat (p2[(Int.toNat v170)]!))]!.2)]) (b := ((!r222) == false)) (gv_some rfl rfl rfl) beq_iff_eq (fun hc268 => ?_), ?_⟩
        · have hS266 := hS187.ext hX265
          have hB267 := hB186.trans (Ext.stp hX265 hS187.base)
          have hcq3 : ¬ (¬ (r222 = true)) := (i_neg (i_not Iff.rfl) hc268)
          exact is_ext (q_loadS (i := p2[(Int.toNat v170)]!) (cs := [.slice ((y0[(Int.toNat (p2[(Int.toNat v170)]!))]!).1.1) ((y0[(Int.toNat (p2[(Int.toNat v170)]!))]!).1.2.2.length) ((y0[(Int.toNat (p2[(Int.toNat v170)]!))]!).1.2.1), .int .i64 (p0[(Int.toNat (p2[(Int.toNat v170)]!))]!.2)]) AG54 (Tv.o (hp0.bel hB267)) (Tv.g (hp0.bel hB267) (hg263 hcq3)) (by rw [← Tv.free (hp0.bel hB267) (hg263 hcq3)]; rfl) (if_pos hc268))
        refine ⟨if (!r222) = false then .slice a1 n1 c1 else undef, fun w269 hX270 => od_guard (c := (!r222) = false) (val := .slice a1 n1 c1) (b := ((!r222) == false)) (gv_some rfl rfl rfl) beq_iff_eq (fun hc273 => ?_), ?_⟩
        · have hS271 := hS187.ext hX270
          have hB272 := hB186.trans (Ext.stp hX270 hS187.base)
          have hcq3 : ¬ (¬ (r222 = true)) := (i_neg (i_not Iff.rfl) hc273)
          exact is_ext (g_move (v := .slice a1 n1 c1) rfl)
        refine ⟨if (!r222) = false then .int .i64 v170 else undef, fun w274 hX275 => od_guard (c := (!r222) = false) (val := .int .i64 v170) (b := ((!r222) == false)) (gv_some rfl rfl rfl) beq_iff_eq (fun hc278 => ?_), ?_⟩
        · have hS276 := hS187.ext hX275
          have hB277 := hB186.trans (Ext.stp hX275 hS187.base)
          have hcq3 : ¬ (¬ (r222 = true)) := (i_neg (i_not Iff.rfl) hc278)
          exact is_ext (g_move (v := .int .i64 v170) rfl)
        obtain ⟨hg284, hm⟩ := hm
        refine ⟨if (!r222) = false then .pointer (some ((adr a1).add ((Int.toNat v170) * El.m Int))) else undef, fun w279 hX280 => od_guard (c := (!r222) = false) (val := .pointer (some ((adr a1).add ((Int.toNat v170) * El.m Int)))) (b := ((!r222) == false)) (gv_some rfl rfl rfl) beq_iff_eq (fun hc283 => ?_), ?_⟩
        · have hS281 := hS187.ext hX280
          have hB282 := hB186.trans (Ext.stp hX280 hS187.base)
          have hcq3 : ¬ (¬ (r222 = true)) := (i_neg (i_not Iff.rfl) hc283)
          exact is_ext (q_index (i := v170) SL23 (if_pos hc283) (if_pos hc283) (hp1.bel hB282) (hg284 hcq3))
        refine ⟨if (!r222) = false then .int .i64 (p1[(Int.toNat v170)]!) else undef, fun w285 hX286 => od_guard (c := (!r222) = false) (val := .int .i64 (p1[(Int.toNat v170)]!)) (b := ((!r222) == false)) (gv_some rfl rfl rfl) beq_iff_eq (fun hc289 => ?_), ?_⟩
        · have hS287 := hS187.ext hX286
          have hB288 := hB186.trans (Ext.stp hX286 hS187.base)
          have hcq3 : ¬ (¬ (r222 = true)) := (i_neg (i_not Iff.rfl) hc289)
          exact is_ext (q_load (i := v170) (v := .int .i64 (p1[(Int.toNat v170)]!)) ON3 (hp1.bel hB288) (hg284 hcq3) rfl (if_pos hc289))
        obtain ⟨r295, hk296, hm⟩ := hm
        refine ⟨if (!r222) = false then .bool r295 else undef, fun w290 hX291 => od_guard (c := (!r222) = false) (val := .bool r295) (b := ((!r222) == false)) (gv_some rfl rfl rfl) beq_iff_eq (fun hc294 => ?_), ?_⟩
        · have hS292 := hS187.ext hX291
          have hB293 := hB186.trans (Ext.stp hX291 hS187.base)
          have hcq3 : ¬ (¬ (r222 = true)) := (i_neg (i_not Iff.rfl) hc294)
          exact (g_call (vs := #[.agg #[.slice ((y0[(Int.toNat (p2[(Int.toNat v170)]!))]!).1.1) ((y0[(Int.toNat (p2[(Int.toNat v170)]!))]!).1.2.2.length) ((y0[(Int.toNat (p2[(Int.toNat v170)]!))]!).1.2.1), .int .i64 (p0[(Int.toNat (p2[(Int.toNat v170)]!))]!.2)], .int .i64 (p1[(Int.toNat v170)]!)]) CF89 (args2 (if_pos hc294) (if_pos hc294)) ((m_spec_l13Knows_fn (p0[(Int.toNat (p2[(Int.toNat v170)]!))]!) ((Tv.rowP (hp0.bel hB293) (hg263 hcq3)).up hS292) (p1[(Int.toNat v170)]!) (hk296 hcq3)).mono fun _ _ ⟨_, h1, h2, h3⟩ => ⟨by rw [h2, h1], h3⟩))
        refine ⟨if (!r222) = false then .bool (!r295) else undef, fun w297 hX298 => od_guard (c := (!r222) = false) (val := .bool (!r295)) (b := ((!r222) == false)) (gv_some rfl rfl rfl) beq_iff_eq (fun hc301 => ?_), ?_⟩
        · have hS299 := hS187.ext hX298
          have hB300 := hB186.trans (Ext.stp hX298 hS187.base)
          have hcq3 : ¬ (¬ (r222 = true)) := (i_neg (i_not Iff.rfl) hc301)
          exact is_ext (g_not (a := r295) (if_pos hc301))
        refine ⟨.bool ((!r222) || (!r295)), fun w302 hX303 => od_plain rfl (by have hS304 := hS187.ext hX303; have hB305 := hB186.trans (Ext.stp hX303 hS187.base); exact is_ext (g_pick_or (b := (!r222)) (q := (!r295)) rfl rfl)), ?_⟩
        intro w306 hX307
        have hB308 := hB186.trans (Ext.stp hX307 hS187.base)
        have hS309 := hS187.ext hX307
        refine hK183 _ _ ?_
        refine w_condI (p := ((¬ (r222 = true)) ∨ (¬ (r295 = true)))) (b := ((!r222) || (!r295))) rfl (i_or (i_not Iff.rfl) (i_not Iff.rfl)) (fun h310 => ?_) (fun h310 => ?_)
        · replace hm := hm.1 h310
          refine w_seq fun K311 hK311 => ?_
          refine w_region ?_
          refine wl_val (g_assign (v := .bool false) rfl) rfl ?_
          refine wl_nil ?_
          refine hK311 _ _ ?_
          refine w_ret ?_
          repeat first | with_reducible refine q_then ?_ | with_reducible refine q_block ?_
          exact ret1 rfl (by decide) ⟨_, hm, rfl, toExt hB308⟩
        · replace hm := hm.2 h310
          refine w_skip ?_
          refine hK182 _ _ ?_
          refine w_region ?_
          refine wl_val (g_move (v := .int .i64 v170) rfl) rfl ?_
          obtain ⟨hg312, hm⟩ := hm
          refine wl_val (g_add (a := v170) (b := 1) rfl rfl hg312) rfl ?_
          refine wl_val (g_assign (v := .int .i64 (v170 + 1)) rfl) rfl ?_
          refine wl_nil ?_
          exact ⟨((v170 + 1)), hm.2, ⟨rfl, rfl, rfl, rfl, trivial⟩, ⟨hm.1, hB308, hS309⟩⟩
      · replace hm := hm.2 h181
        refine w_exit ?_
        exact ⟨(), ⟨rfl, rfl, trivial⟩, ⟨hm, hB176, hS177⟩⟩
    · rintro _ b_ w313 ⟨hm, hB314, hS315⟩
      show Wp _ _ _ _ (upds b_ [(0, .slice a0 n0 c0), (2, .slice a2 n2 c2)]) w313
      refine w_seq fun K316 hK316 => ?_
      refine w_region ?_
      refine wl_val (g_move (v := .slice a0 n0 c0) rfl) rfl ?_
      refine wl_val (g_move (v := .slice a2 n2 c2) rfl) rfl ?_
      refine wl_step rfl (g_call (vs := #[.slice a0 n0 c0, .slice a2 n2 c2]) CF90 (args2 rfl rfl) (m_spec_LoadOf_fn ((hp0.bel hB314).up hS315) ((hp2.bel hB314).up hS315) hm)) ?_
      rintro _ w317 ⟨r320, a321, n322, c323, hm, rfl, hE318, hN319⟩
      have hS325 := hS315.call1 hE318 hN319
      have hB326 := hB314.trans (Ext.stp hE318 hS315.base)
      refine wl_val (g_assign (v := .slice a321 n322 c323) rfl) rfl ?_
      refine wl_nil ?_
      refine hK316 _ _ ?_
      refine w_cut (σ := Unit) (fun _ => []) (fun _ w' => m_spec_IsCasting_K0 Q ∧ Below w.heap.size w w' ∧ Sep w' w.heap.size []) ?_ ?_
      · refine w_seq fun K328 hK328 => ?_
        refine w_region ?_
        refine wl_val (g_assign (v := .int .i64 0) rfl) rfl ?_
        refine wl_nil ?_
        refine hK328 _ _ ?_
        refine w_block ?_
        obtain ⟨I396, μ397, h0398, hr399⟩ := hm
        refine w_for (σ := Int) (fun v395 => [(0, .slice a0 n0 c0), (8, .slice a321 n322 c323), (9, .int .i64 v395)]) (fun v395 w' => I396 v395 ∧ Below w.heap.size w w' ∧ Sep w' w.heap.size [oS 3 a321 n322 c323 (r320 : List Int)]) (fun v395 => μ397 v395) (0) ⟨rfl, rfl, rfl, trivial⟩ ⟨h0398, hB326, hS325⟩ ?_
        rintro v395 b_ w400 ⟨hi_, hB401, hS402⟩
        show Wp _ _ _ _ (upds b_ [(0, .slice a0 n0 c0), (8, .slice a321 n322 c323), (9, .int .i64 v395)]) w400
        have hm := hr399 v395 hi_
        refine w_seq fun K404 hK404 => ?_
        refine w_seq fun K405 hK405 => ?_
        refine w_region ?_
        refine wl_val (g_move (v := .int .i64 v395) rfl) rfl ?_
        refine wl_val (g_move (v := .slice a321 n322 c323) rfl) rfl ?_
        refine wl_val (q_len SL23 rfl (Vw.len (oS.vw hS402.g0))) rfl ?_
        refine wl_val (g_lss (a := v395) (b := (r320.length : Int)) rfl rfl) rfl ?_
        refine wl_nil ?_
        refine hK405 _ _ ?_
        refine w_condI (p := v395 < (r320.length : Int)) (b := (decide (v395 < (r320.length : Int)))) rfl decide_eq_true_iff (fun h406 => ?_) (fun h406 => ?_)
        · replace hm := hm.1 h406
          refine w_skip ?_
          refine hK404 _ _ ?_
          refine w_seq fun K407 hK407 => ?_
          refine w_block ?_
          refine w_seq fun K408 hK408 => ?_
          refine w_draw (X := Ext) (Y := Ext) [] MIX (by decide +kernel) rfl Ext.refl (fun _ _ _ => Ext.trans) (fun _ _ _ => Chg.trans) (fun _ _ h => Ext.chg h _) (fun w409 hE410 => ?_)
          have hB411 := hB401.trans (Ext.stp hE410 hS402.base)
          have hS412 := hS402.ext hE410
          refine ⟨.slice a321 n322 c323, fun w413 hX414 => od_plain rfl (by have hS415 := hS412.ext hX414; have hB416 := hB411.trans (Ext.stp hX414 hS412.base); exact is_ext (g_move (v := .slice a321 n322 c323) rfl)), ?_⟩
          refine ⟨.int .i64 v395, fun w417 hX418 => od_plain rfl (by have hS419 := hS412.ext hX418; have hB420 := hB411.trans (Ext.stp hX418 hS412.base); exact is_ext (g_move (v := .int .i64 v395) rfl)), ?_⟩
          obtain ⟨hg425, hm⟩ := hm
          refine ⟨.pointer (some ((adr a321).add ((Int.toNat v395) * El.m Int))), fun w421 hX422 => od_plain rfl (by have hS423 := hS412.ext hX422; have hB424 := hB411.trans (Ext.stp hX422 hS412.base); exact is_ext (q_index (i := v395) SL23 rfl rfl (oS.vw hS423.g0) hg425)), ?_⟩
          refine ⟨.int .i64 (r320[(Int.toNat v395)]!), fun w426 hX427 => od_plain rfl (by have hS428 := hS412.ext hX427; have hB429 := hB411.trans (Ext.stp hX427 hS412.base); exact is_ext (q_load (i := v395) (v := .int .i64 (r320[(Int.toNat v395)]!)) ON3 (oS.vw hS428.g0) hg425 rfl rfl)), ?_⟩
          refine ⟨.slice a0 n0 c0, fun w430 hX431 => od_plain rfl (by have hS432 := hS412.ext hX431; have hB433 := hB411.trans (Ext.stp hX431 hS412.base); exact is_ext (g_move (v := .slice a0 n0 c0) rfl)), ?_⟩
          refine ⟨.int .i64 v395, fun w434 hX435 => od_plain rfl (by have hS436 := hS412.ext hX435; have hB437 := hB411.trans (Ext.stp hX435 hS412.base); exact is_ext (g_move (v := .int .i64 v395) rfl)), ?_⟩
          obtain ⟨hg442, hm⟩ := hm
          refine ⟨.pointer (some ((adr a0).add ((Int.toNat v395) * El.m PlayerD))), fun w438 hX439 => od_plain rfl (by have hS440 := hS412.ext hX439; have hB441 := hB411.trans (Ext.stp hX439 hS412.base); exact is_ext (q_index (i := v395) SL27 rfl rfl (Tv.o (hp0.bel hB441)) (Tv.g (hp0.bel hB441) hg442))), ?_⟩
          refine ⟨.pointer (some (((adr a0).add ((Int.toNat v395) * El.m PlayerD)).add 1)), fun w443 hX444 => od_plain rfl (by have hS445 := hS412.ext hX444; have hB446 := hB411.trans (Ext.stp hX444 hS412.base); exact is_ext (g_fieldAddr (q := (adr a0).add ((Int.toNat v395) * El.m PlayerD)) FL54_1 ON3 rfl)), ?_⟩
          refine ⟨.int .i64 (p0[(Int.toNat v395)]!.2), fun w447 hX448 => od_plain rfl (by have hS449 := hS412.ext hX448; have hB450 := hB411.trans (Ext.stp hX448 hS412.base); exact is_ext (q_loadF (i := v395) (j := 1) (v := .int .i64 (p0[(Int.toNat v395)]!.2)) ON3 (Tv.o (hp0.bel hB450)) (Tv.g (hp0.bel hB450) hg442) (by rw [← Tv.free (hp0.bel hB450) hg442]; rfl) rfl)), ?_⟩
          refine ⟨.bool (decide (r320[(Int.toNat v395)]! > p0[(Int.toNat v395)]!.2)), fun w451 hX452 => od_plain rfl (by have hS453 := hS412.ext hX452; have hB454 := hB411.trans (Ext.stp hX452 hS412.base); exact is_ext (g_gtr (a := r320[(Int.toNat v395)]!) (b := p0[(Int.toNat v395)]!.2) rfl rfl)), ?_⟩
          intro w455 hX456
          have hB457 := hB411.trans (Ext.stp hX456 hS412.base)
          have hS458 := hS412.ext hX456
          refine hK408 _ _ ?_
          refine w_condI (p := r320[(Int.toNat v395)]! > p0[(Int.toNat v395)]!.2) (b := (decide (r320[(Int.toNat v395)]! > p0[(Int.toNat v395)]!.2))) rfl decide_eq_true_iff (fun h459 => ?_) (fun h459 => ?_)
          · replace hm := hm.1 h459
            refine w_seq fun K460 hK460 => ?_
            refine w_region ?_
            refine wl_val (g_assign (v := .bool false) rfl) rfl ?_
            refine wl_nil ?_
            refine hK460 _ _ ?_
            refine w_ret ?_
            repeat first | with_reducible refine q_then ?_ | with_reducible refine q_block ?_
            exact ret1 rfl (by decide) ⟨_, hm, rfl, toExt hB457⟩
          · replace hm := hm.2 h459
            refine w_skip ?_
            refine hK407 _ _ ?_
            refine w_region ?_
            refine wl_val (g_move (v := .int .i64 v395) rfl) rfl ?_
            obtain ⟨hg461, hm⟩ := hm
            refine wl_val (g_add (a := v395) (b := 1) rfl rfl hg461) rfl ?_
            refine wl_val (g_assign (v := .int .i64 (v395 + 1)) rfl) rfl ?_
            refine wl_nil ?_
            exact ⟨((v395 + 1)), hm.2, ⟨rfl, rfl, rfl, trivial⟩, ⟨hm.1, hB457, hS458⟩⟩
        · replace hm := hm.2 h406
          refine w_exit ?_
          have hS462 := hS402.tail
          exact ⟨(), trivial, ⟨hm, hB401, hS462⟩⟩
      · rintro _ b_ w463 ⟨hm, hB464, hS465⟩
        show Wp _ _ _ _ (upds b_ []) w463
        refine w_seq fun K466 hK466 => ?_
        refine w_region ?_
        refine wl_val (g_assign (v := .bool true) rfl) rfl ?_
        refine wl_nil ?_
        refine hK466 _ _ ?_
        refine w_ret ?_
        repeat first | with_reducible refine q_then ?_ | with_reducible refine q_block ?_
        exact ret1 rfl (by decide) ⟨_, hm, rfl, toExt hB464⟩

theorem m_spec_CastingsOf_fn {w : World} {a0 : Option Addr} {n0 c0 : Nat} {y0 : List PlayerD} {p0 : List PlayerC} {a1 : Option Addr} {n1 c1 : Nat} {p1 : List Int} {Q : (List (List Int)) → Prop} (hp0 : Tv w.heap.size w a0 n0 c0 y0 p0) (hp1 : Vw w.heap.size w a1 n1 c1 p1) (hm : m_spec_CastingsOf p0 p1 Q) :
    Fn Try.prog 26 #[.slice a0 n0 c0, .slice a1 n1 c1] w (fun v w' => ∃ (r0 : List (List Int)) (a0 : Option Addr) (n0 c0 : Nat) (y0 : List (Hd Int)), Q r0 ∧ ers y0 = r0 ∧ v = .slice a0 n0 c0 ∧ Ext w w' ∧ Sep w' w.heap.size [oS 23 a0 n0 c0 y0, oT 3 y0]) := by
  unfold m_spec_CastingsOf at hm
  have hB0 := Below.refl w.heap.size w
  have hS0 : Sep w w.heap.size [] := Sep.nil (Nat.le_refl _)
  refine fn_of_wp Try.func26 rfl (by kernel_rfl) (Nat.le_of_ble_eq_true rfl) ?_
  refine w_seq fun K1 hK1 => ?_
  refine w_region ?_
  refine wl_val (g_assign (v := .slice none 0 0) rfl) rfl ?_
  refine wl_nil ?_
  refine hK1 _ _ ?_
  refine w_seq fun K2 hK2 => ?_
  refine w_region ?_
  refine wl_step rfl (q_lit0 (α := (Hd Int)) rfl SL37 hS0) ?_
  rintro _ w3 ⟨a4, rfl, hS6, hE5⟩
  have hB8 := hB0.trans (Ext.stp hE5 hS0.base)
  have hS9 := hS6.noRows (δ := Hd Int) (E := 3)
  have he11 : ers ([] : List (Hd Int)) = ([] : List (List Int)) := rfl
  refine wl_val (g_assign (v := .slice a4 0 0) rfl) rfl ?_
  refine wl_nil ?_
  refine hK2 _ _ ?_
  refine w_seq fun K13 hK13 => ?_
  refine w_seq fun K14 hK14 => ?_
  refine w_region ?_
  refine wl_val (g_move (v := .slice a0 n0 c0) rfl) rfl ?_
  refine wl_val (g_move (v := .slice a1 n1 c1) rfl) rfl ?_
  refine wl_step rfl (g_call (vs := #[.slice a0 n0 c0, .slice a1 n1 c1]) CF65 (args2 rfl rfl) (m_spec_l14Ok_fn ((hp0.bel hB8).up hS9) ((hp1.bel hB8).up hS9) hm)) ?_
  rintro _ w15 ⟨r18, hm, rfl, hE16⟩
  have hB19 := hB8.trans (Ext.stp hE16 hS9.base)
  have hS20 := hS9.ext hE16
  refine wl_val (g_not (a := r18) rfl) rfl ?_
  refine wl_val (g_move (v := .bool (!r18)) rfl) rfl ?_
  refine wl_guard (c := (!r18) = false) (val := .slice a1 n1 c1) (b := ((!r18) == false)) (gv_some rfl rfl rfl) beq_iff_eq (fun hc21 => ?_) ?_
  · have hcq0 : ¬ (¬ (r18 = true)) := (i_neg (i_not Iff.rfl) hc21)
    exact g_move (v := .slice a1 n1 c1) rfl
  refine wl_guard (c := (!r18) = false) (val := .int .i64 (p1.length : Int)) (b := ((!r18) == false)) (gv_some rfl rfl rfl) beq_iff_eq (fun hc22 => ?_) ?_
  · have hcq0 : ¬ (¬ (r18 = true)) := (i_neg (i_not Iff.rfl) hc22)
    exact q_len SL23 (if_pos hc22) (Vw.len (hp1.bel hB19))
  refine wl_guard (c := (!r18) = false) (val := .bool (decide ((p1.length : Int) > 4))) (b := ((!r18) == false)) (gv_some rfl rfl rfl) beq_iff_eq (fun hc23 => ?_) ?_
  · have hcq0 : ¬ (¬ (r18 = true)) := (i_neg (i_not Iff.rfl) hc23)
    exact g_gtr (a := (p1.length : Int)) (b := 4) (if_pos hc23) rfl
  refine wl_val (g_pick_or (b := (!r18)) (q := (decide ((p1.length : Int) > 4))) rfl rfl) rfl ?_
  refine wl_nil ?_
  refine hK14 _ _ ?_
  refine w_condI (p := ((¬ (r18 = true)) ∨ ((p1.length : Int) > 4))) (b := ((!r18) || (decide ((p1.length : Int) > 4)))) rfl (i_or (i_not Iff.rfl) decide_eq_true_iff) (fun h24 => ?_) (fun h24 => ?_)
  · replace hm := hm.1 h24
    refine w_seq fun K25 hK25 => ?_
    refine w_region ?_
    refine wl_val (g_move (v := .slice a4 0 0) rfl) rfl ?_
    refine wl_val (g_assign (v := .slice a4 0 0) rfl) rfl ?_
    refine wl_nil ?_
    refine hK25 _ _ ?_
    refine w_ret ?_
    have hS26 := hS20.f1
    repeat first | with_reducible refine q_then ?_ | with_reducible refine q_block ?_
    exact ret1 rfl (by decide) ⟨_, _, _, _, _, hm, he11, rfl, toExt hB19, hS26⟩
  · replace hm := hm.2 h24
    refine w_skip ?_
    refine hK13 _ _ ?_
    refine w_seq fun K27 hK27 => ?_
    refine w_region ?_
    refine wl_val (g_assign (v := .int .i64 1) rfl) rfl ?_
    refine wl_nil ?_
    refine hK27 _ _ ?_
    refine w_cut (σ := Int) (fun v62 => [(0, .slice a0 n0 c0), (1, .slice a1 n1 c1), (5, .slice a4 0 0), (6, .int .i64 v62)]) (fun v62 w' => m_spec_CastingsOf_K3 p0 p1 Q v62 ∧ Below w.heap.size w w' ∧ Sep w' w.heap.size [oS 23 a4 0 0 ([] : List (Hd Int)), oT 3 ([] : List (Hd Int))]) ?_ ?_
    · refine w_seq fun K64 hK64 => ?_
      refine w_region ?_
      refine wl_val (g_assign (v := .int .i64 0) rfl) rfl ?_
      refine wl_nil ?_
      refine hK64 _ _ ?_
      refine w_block ?_
      have hS67 := hS20.f1
      obtain ⟨I68, μ69, h070, hr71⟩ := hm
      refine w_for (σ := Int × Int) (fun ⟨v65, v66⟩ => [(0, .slice a0 n0 c0), (1, .slice a1 n1 c1), (5, .slice a4 0 0), (6, .int .i64 v65), (7, .int .i64 v66)]) (fun ⟨v65, v66⟩ w' => I68 v65 v66 ∧ Below w.heap.size w w' ∧ Sep w' w.heap.size [oS 23 a4 0 0 ([] : List (Hd Int)), oT 3 ([] : List (Hd Int))]) (fun ⟨v65, v66⟩ => μ69 v65 v66) (1, 0) ⟨rfl, rfl, rfl, rfl, rfl, trivial⟩ ⟨h070, hB19, hS67⟩ ?_
      rintro ⟨v65, v66⟩ b_ w72 ⟨hi_, hB73, hS74⟩
      show Wp _ _ _ _ (upds b_ [(0, .slice a0 n0 c0), (1, .slice a1 n1 c1), (5, .slice a4 0 0), (6, .int .i64 v65), (7, .int .i64 v66)]) w72
      have hm := hr71 v65 v66 hi_
      refine w_seq fun K76 hK76 => ?_
      refine w_seq fun K77 hK77 => ?_
      refine w_region ?_
      refine wl_val (g_move (v := .int .i64 v66) rfl) rfl ?_
      refine wl_val (g_move (v := .slice a1 n1 c1) rfl) rfl ?_
      refine wl_val (q_len SL23 rfl (Vw.len (hp1.bel hB73))) rfl ?_
      refine wl_val (g_lss (a := v66) (b := (p1.length : Int)) rfl rfl) rfl ?_
      refine wl_nil ?_
      refine hK77 _ _ ?_
      refine w_condI (p := v66 < (p1.length : Int)) (b := (decide (v66 < (p1.length : Int)))) rfl decide_eq_true_iff (fun h78 => ?_) (fun h78 => ?_)
      · replace hm := hm.1 h78
        refine w_skip ?_
        refine hK76 _ _ ?_
        refine w_seq fun K79 hK79 => ?_
        refine w_block ?_
        refine w_region ?_
        refine wl_val (g_move (v := .int .i64 v65) rfl) rfl ?_
        refine wl_val (g_move (v := .slice a0 n0 c0) rfl) rfl ?_
        refine wl_val (q_len SL27 rfl (Tv.len (hp0.bel hB73))) rfl ?_
        obtain ⟨hg80, hm⟩ := hm
        refine wl_val (g_mul (a := v65) (b := (p0.length : Int)) rfl rfl hg80) rfl ?_
        refine wl_val (g_assign (v := .int .i64 (v65 * (p0.length : Int))) rfl) rfl ?_
        refine wl_nil ?_
        refine hK79 _ _ ?_
        refine w_region ?_
        refine wl_val (g_move (v := .int .i64 v66) rfl) rfl ?_
        obtain ⟨hg81, hm⟩ := hm
        refine wl_val (g_add (a := v66) (b := 1) rfl rfl hg81) rfl ?_
        refine wl_val (g_assign (v := .int .i64 (v66 + 1)) rfl) rfl ?_
        refine wl_nil ?_
        exact ⟨((v65 * (p0.length : Int)), (v66 + 1)), hm.2, ⟨rfl, rfl, rfl, rfl, rfl, trivial⟩, ⟨hm.1, hB73, hS74⟩⟩
      · replace hm := hm.2 h78
        refine w_exit ?_
        exact ⟨(v65), ⟨rfl, rfl, rfl, rfl, trivial⟩, ⟨hm, hB73, hS74⟩⟩
    · rintro v62 b_ w82 ⟨hm, hB83, hS84⟩
      show Wp _ _ _ _ (upds b_ [(0, .slice a0 n0 c0), (1, .slice a1 n1 c1), (5, .slice a4 0 0), (6, .int .i64 v62)]) w82
      refine w_cut (σ := List (List Int) × Option Addr × Nat × Nat × List (Hd Int)) (fun ⟨x446, a447, n448, c449, y450⟩ => [(5, .slice a447 n448 c449)]) (fun ⟨x446, a447, n448, c449, y450⟩ w' => m_spec_CastingsOf_K2 Q x446 ∧ ers y450 = x446 ∧ Below w.heap.size w w' ∧ Sep w' w.heap.size [oS 23 a447 n448 c449 (y450 : List (Hd Int)), oT 3 (y450 : List (Hd Int))]) ?_ ?_
      · refine w_seq fun K453 hK453 => ?_
        refine w_region ?_
        refine wl_val (g_assign (v := .int .i64 0) rfl) rfl ?_
        refine wl_nil ?_
        refine hK453 _ _ ?_
        refine w_block ?_
        obtain ⟨I461, μ462, h0463, hr464⟩ := hm
        refine w_for (σ := List (List Int) × Option Addr × Nat × Nat × List (Hd Int) × Int) (fun ⟨x454, a455, n456, c457, y458, v460⟩ => [(0, .slice a0 n0 c0), (1, .slice a1 n1 c1), (5, .slice a455 n456 c457), (6, .int .i64 v62), (8, .int .i64 v460)]) (fun ⟨x454, a455, n456, c457, y458, v460⟩ w' => I461 x454 v460 ∧ ers y458 = x454 ∧ Below w.heap.size w w' ∧ Sep w' w.heap.size [oS 23 a455 n456 c457 (y458 : List (Hd Int)), oT 3 (y458 : List (Hd Int))]) (fun ⟨x454, a455, n456, c457, y458, v460⟩ => μ462 x454 v460) ([], a4, 0, 0, [], 0) ⟨rfl, rfl, rfl, rfl, rfl, trivial⟩ ⟨h0463, he11, hB83, hS84⟩ ?_
        rintro ⟨x454, a455, n456, c457, y458, v460⟩ b_ w465 ⟨hi_, he459, hB466, hS467⟩
        show Wp _ _ _ _ (upds b_ [(0, .slice a0 n0 c0), (1, .slice a1 n1 c1), (5, .slice a455 n456 c457), (6, .int .i64 v62), (8, .int .i64 v460)]) w465
        have hm := hr464 x454 v460 hi_
        refine w_seq fun K469 hK469 => ?_
        refine w_seq fun K470 hK470 => ?_
        refine w_region ?_
        refine wl_val (g_move (v := .int .i64 v460) rfl) rfl ?_
        refine wl_val (g_move (v := .int .i64 v62) rfl) rfl ?_
        refine wl_val (g_lss (a := v460) (b := v62) rfl rfl) rfl ?_
        refine wl_nil ?_
        refine hK470 _ _ ?_
        refine w_condI (p := v460 < v62) (b := (decide (v460 < v62))) rfl decide_eq_true_iff (fun h471 => ?_) (fun h471 => ?_)
        · replace hm := hm.1 h471
          refine w_skip ?_
          refine hK469 _ _ ?_
          refine w_cut (σ := List (List Int) × Option Addr × Nat × Nat × List (Hd Int)) (fun ⟨x472, a473, n474, c475, y476⟩ => [(0, .slice a0 n0 c0), (1, .slice a1 n1 c1), (5, .slice a473 n474 c475), (6, .int .i64 v62), (8, .int .i64 v460)]) (fun ⟨x472, a473, n474, c475, y476⟩ w' => m_spec_CastingsOf_K1 v460 (fun x454' v460' => I461 x454' v460' ∧ μ462 x454' v460' < μ462 x454 v460) x472 ∧ ers y476 = x472 ∧ Below w.heap.size w w' ∧ Sep w' w.heap.size [oS 23 a473 n474 c475 (y476 : List (Hd Int)), oT 3 (y476 : List (Hd Int))]) ?_ ?_
          · refine w_block ?_
            refine w_seq fun K479 hK479 => ?_
            refine w_region ?_
            refine wl_val (g_move (v := .slice a1 n1 c1) rfl) rfl ?_
            refine wl_val (q_len SL23 rfl (Vw.len (hp1.bel hB466))) rfl ?_
            obtain ⟨hg480, hm⟩ := hm
            refine wl_step rfl (q_make (y := (0 : Int)) SL23 rfl rfl hg480.1 hg480.2 (by decide) hS467) ?_
            rintro _ w481 ⟨a482, rfl, hS484, hE483⟩
            have hB486 := hB466.trans (Ext.stp hE483 hS467.base)
            refine wl_val (g_assign (v := .slice a482 (Int.toNat (p1.length : Int)) (Int.toNat (p1.length : Int))) rfl) rfl ?_
            refine wl_nil ?_
            refine hK479 _ _ ?_
            refine w_seq fun K487 hK487 => ?_
            refine w_region ?_
            refine wl_val (g_move (v := .int .i64 v460) rfl) rfl ?_
            refine wl_val (g_assign (v := .int .i64 v460) rfl) rfl ?_
            refine wl_nil ?_
            refine hK487 _ _ ?_
            refine w_cut (σ := List Int) (fun x488 => [(0, .slice a0 n0 c0), (1, .slice a1 n1 c1), (5, .slice a455 n456 c457), (6, .int .i64 v62), (8, .int .i64 v460), (9, .slice a482 (Int.toNat (p1.length : Int)) (Int.toNat (p1.length : Int)))]) (fun x488 w' => m_spec_CastingsOf_K0 p0 p1 x454 (m_spec_CastingsOf_K1 v460 (fun x454' v460' => I461 x454' v460' ∧ μ462 x454' v460' < μ462 x454 v460)) x488 ∧ Below w.heap.size w w' ∧ Sep w' w.heap.size [oS 23 a455 n456 c457 (y458 : List (Hd Int)), oT 3 (y458 : List (Hd Int)), oS 3 a482 (Int.toNat (p1.length : Int)) (Int.toNat (p1.length : Int)) (x488 : List Int)]) ?_ ?_
            · refine w_seq fun K490 hK490 => ?_
              refine w_region ?_
              refine wl_val (g_move (v := .slice a1 n1 c1) rfl) rfl ?_
              refine wl_val (q_len SL23 rfl (Vw.len (hp1.bel hB486))) rfl ?_
              obtain ⟨hg491, hm⟩ := hm
              refine wl_val (g_sub (a := (p1.length : Int)) (b := 1) rfl rfl hg491) rfl ?_
              refine wl_val (g_assign (v := .int .i64 ((p1.length : Int) - 1)) rfl) rfl ?_
              refine wl_nil ?_
              refine hK490 _ _ ?_
              refine w_block ?_
              have hS495 := hS484.f2
              have hS496 := hS495.f2
              obtain ⟨I497, μ498, h0499, hr500⟩ := hm
              refine w_for (σ := List Int × Int × Int) (fun ⟨x492, v493, v494⟩ => [(0, .slice a0 n0 c0), (1, .slice a1 n1 c1), (5, .slice a455 n456 c457), (6, .int .i64 v62), (8, .int .i64 v460), (9, .slice a482 (Int.toNat (p1.length : Int)) (Int.toNat (p1.length : Int))), (10, .int .i64 v493), (11, .int .i64 v494)]) (fun ⟨x492, v493, v494⟩ w' => I497 x492 v493 v494 ∧ Below w.heap.size w w' ∧ Sep w' w.heap.size [oS 23 a455 n456 c457 (y458 : List (Hd Int)), oT 3 (y458 : List (Hd Int)), oS 3 a482 (Int.toNat (p1.length : Int)) (Int.toNat (p1.length : Int)) (x492 : List Int)]) (fun ⟨x492, v493, v494⟩ => μ498 x492 v493 v494) (List.replicate (Int.toNat (p1.length : Int)) (0 : Int), v460, ((p1.length : Int) - 1)) ⟨rfl, rfl, rfl, rfl, rfl, rfl, rfl, rfl, trivial⟩ ⟨h0499, hB486, hS496⟩ ?_
              rintro ⟨x492, v493, v494⟩ b_ w501 ⟨hi_, hB502, hS503⟩
              show Wp _ _ _ _ (upds b_ [(0, .slice a0 n0 c0), (1, .slice a1 n1 c1), (5, .slice a455 n456 c457), (6, .int .i64 v62), (8, .int .i64 v460), (9, .slice a482 (Int.toNat (p1.length : Int)) (Int.toNat (p1.length : Int))), (10, .int .i64 v493), (11, .int .i64 v494)]) w501
              have hm := hr500 x492 v493 v494 hi_
              refine w_seq fun K505 hK505 => ?_
              refine w_seq fun K506 hK506 => ?_
              refine w_region ?_
              refine wl_val (g_move (v := .int .i64 v494) rfl) rfl ?_
              refine wl_val (g_geq (a := v494) (b := 0) rfl rfl) rfl ?_
              refine wl_nil ?_
              refine hK506 _ _ ?_
              refine w_condI (p := v494 ≥ 0) (b := (decide (v494 ≥ 0))) rfl decide_eq_true_iff (fun h507 => ?_) (fun h507 => ?_)
              · replace hm := hm.1 h507
                refine w_skip ?_
                refine hK505 _ _ ?_
                refine w_seq fun K508 hK508 => ?_
                refine w_block ?_
                refine w_seq fun K509 hK509 => ?_
                refine w_region ?_
                refine wl_val (g_move (v := .slice a482 (Int.toNat (p1.length : Int)) (Int.toNat (p1.length : Int))) rfl) rfl ?_
                refine wl_val (g_move (v := .int .i64 v494) rfl) rfl ?_
                refine wl_val (g_move (v := .int .i64 v493) rfl) rfl ?_
                refine wl_val (g_move (v := .slice a0 n0 c0) rfl) rfl ?_
                refine wl_val (q_len SL27 rfl (Tv.len (hp0.bel hB502))) rfl ?_
                obtain ⟨hg510, hm⟩ := hm
                refine wl_val (g_rem (a := v493) (b := (p0.length : Int)) rfl rfl hg510) rfl ?_
                obtain ⟨hg511, hm⟩ := hm
                refine wl_val (q_index (i := v494) SL23 rfl rfl (oS.vw hS503.g2) hg511) rfl ?_
                have hS515 := hS503.f2
                refine wl_step rfl (q_store (i := v494) (v := ((Int.tmod v493 (p0.length : Int)) : Int)) hS515 ON3.sz hg511 rfl rfl rfl) ?_
                rintro _ w512 ⟨rfl, hS513, hb514⟩
                have hB516 := hB502.trans hb514
                refine wl_nil ?_
                refine hK509 _ _ ?_
                refine w_region ?_
                refine wl_val (g_move (v := .int .i64 v493) rfl) rfl ?_
                refine wl_val (g_move (v := .slice a0 n0 c0) rfl) rfl ?_
                refine wl_val (q_len SL27 rfl (Tv.len (hp0.bel hB516))) rfl ?_
                obtain ⟨hg517, hm⟩ := hm
                obtain ⟨hg518, hm⟩ := hm
                refine wl_val (g_quo (a := v493) (b := (p0.length : Int)) rfl rfl hg517 hg518) rfl ?_
                refine wl_val (g_assign (v := .int .i64 (Int.tdiv v493 (p0.length : Int))) rfl) rfl ?_
                refine wl_nil ?_
                refine hK508 _ _ ?_
                refine w_region ?_
                refine wl_val (g_move (v := .int .i64 v494) rfl) rfl ?_
                obtain ⟨hg519, hm⟩ := hm
                refine wl_val (g_sub (a := v494) (b := 1) rfl rfl hg519) rfl ?_
                refine wl_val (g_assign (v := .int .i64 (v494 - 1)) rfl) rfl ?_
                refine wl_nil ?_
                have hS520 := hS513.f2
                have hS521 := hS520.f2
                exact ⟨((x492.set (Int.toNat v494) (Int.tmod v493 (p0.length : Int))), (Int.tdiv v493 (p0.length : Int)), (v494 - 1)), hm.2, ⟨rfl, rfl, rfl, rfl, rfl, rfl, rfl, rfl, trivial⟩, ⟨hm.1, hB516, hS521⟩⟩
              · replace hm := hm.2 h507
                refine w_exit ?_
                exact ⟨(x492), ⟨rfl, rfl, rfl, rfl, rfl, rfl, trivial⟩, ⟨hm, hB502, hS503⟩⟩
            · rintro x488 b_ w522 ⟨hm, hB523, hS524⟩
              show Wp _ _ _ _ (upds b_ [(0, .slice a0 n0 c0), (1, .slice a1 n1 c1), (5, .slice a455 n456 c457), (6, .int .i64 v62), (8, .int .i64 v460), (9, .slice a482 (Int.toNat (p1.length : Int)) (Int.toNat (p1.length : Int)))]) w522
              refine w_seq fun K525 hK525 => ?_
              refine w_region ?_
              refine wl_val (g_move (v := .slice a0 n0 c0) rfl) rfl ?_
              refine wl_val (g_move (v := .slice a1 n1 c1) rfl) rfl ?_
              refine wl_val (g_move (v := .slice a482 (Int.toNat (p1.length : Int)) (Int.toNat (p1.length : Int))) rfl) rfl ?_
              refine wl_step rfl (g_call (vs := #[.slice a0 n0 c0, .slice a1 n1 c1, .slice a482 (Int.toNat (p1.length : Int)) (Int.toNat (p1.length : Int))]) CF53 (args3 rfl rfl rfl) (m_spec_IsCasting_fn ((hp0.bel hB523).up hS524) ((hp1.bel hB523).up hS524) (oS.vw hS524.g2) hm)) ?_
              rintro _ w526 ⟨r529, hm, rfl, hE527⟩
              have hB530 := hB523.trans (Ext.stp hE527 hS524.base)
              have hS531 := hS524.ext hE527
              refine wl_nil ?_
              refine hK525 _ _ ?_
              refine w_condI (p := r529 = true) (b := r529) rfl Iff.rfl (fun h532 => ?_) (fun h532 => ?_)
              · replace hm := hm.1 h532
                refine w_region ?_
                refine wl_val (g_move (v := .slice a455 n456 c457) rfl) rfl ?_
                refine wl_val (g_move (v := .slice a482 (Int.toNat (p1.length : Int)) (Int.toNat (p1.length : Int))) rfl) rfl ?_
                have hS538 := hS531.f2
                have hn539 := oS.len hS538.g0
                have hS540 := hS538.oneRow
                have he537 : ers [((a482, (Int.toNat (p1.length : Int)), x488) : Hd Int)] = [x488] := rfl
                refine wl_step rfl (q_lit1 (y := ((a482, (Int.toNat (p1.length : Int)), x488) : Hd Int)) SL37 rfl (hd_cells hn539) (by decide) hS540) ?_
                rintro _ w533 ⟨a534, rfl, hS536, hE535⟩
                have hB543 := hB530.trans (Ext.stp hE535 hS540.base)
                have hS550 := hS536.f2
                obtain ⟨hg551, hm⟩ := hm
                have hl552 : (y458).length + ([(a482, (Int.toNat (p1.length : Int)), x488)]).length ≤ 1099511627776 := by have h1 := congrArg List.length he459; have h2 := congrArg List.length he537; have h3 := hg551; simp only [ers, List.length_map, List.length_append, List.length_cons, List.length_nil, List.length_replicate, List.length_set] at h1 h2 h3 ⊢; omega
                refine wl_step rfl (q_append SL37 rfl rfl hS550 (oS.vw hS550.g1) hl552 (by decide)) ?_
                rintro _ w545 ⟨a546, c547, rfl, hS549, hb548⟩
                have hB553 := hB543.trans hb548
                have hS554 := hS549.f1
                have hS555 := hS554.tail
                have hS556 := hS555.f2
                have hS557 := hS556.f2
                have hS558 := hS557.catRows
                have he559 : ers (y458 ++ ([(a482, (Int.toNat (p1.length : Int)), x488)])) = (x454 ++ ([x488])) := by rw [← he459, ← he537]; exact List.map_append
                refine wl_val (g_assign (v := .slice a546 (n456 + 1) c547) rfl) rfl ?_
                refine wl_nil ?_
                have hS560 := hS558.f1
                exact ⟨((x454 ++ ([x488])), a546, (n456 + 1), c547, (y458 ++ ([(a482, (Int.toNat (p1.length : Int)), x488)]))), ⟨rfl, rfl, rfl, rfl, rfl, trivial⟩, ⟨hm, he559, hB553, hS560⟩⟩
              · replace hm := hm.2 h532
                refine w_skip ?_
                have hS561 := hS531.f2
                have hS562 := hS561.tail
                exact ⟨(x454, a455, n456, c457, y458), ⟨rfl, rfl, rfl, rfl, rfl, trivial⟩, ⟨hm, he459, hB530, hS562⟩⟩
          · rintro ⟨x472, a473, n474, c475, y476⟩ b_ w563 ⟨hm, he477, hB564, hS565⟩
            show Wp _ _ _ _ (upds b_ [(0, .slice a0 n0 c0), (1, .slice a1 n1 c1), (5, .slice a473 n474 c475), (6, .int .i64 v62), (8, .int .i64 v460)]) w563
            refine w_region ?_
            refine wl_val (g_move (v := .int .i64 v460) rfl) rfl ?_
            obtain ⟨hg566, hm⟩ := hm
            refine wl_val (g_add (a := v460) (b := 1) rfl rfl hg566) rfl ?_
            refine wl_val (g_assign (v := .int .i64 (v460 + 1)) rfl) rfl ?_
            refine wl_nil ?_
            exact ⟨(x472, a473, n474, c475, y476, (v460 + 1)), hm.2, ⟨rfl, rfl, rfl, rfl, rfl, trivial⟩, ⟨hm.1, he477, hB564, hS565⟩⟩
        · replace hm := hm.2 h471
          refine w_exit ?_
          exact ⟨(x454, a455, n456, c457, y458), ⟨rfl, trivial⟩, ⟨hm, he459, hB466, hS467⟩⟩
      · rintro ⟨x446, a447, n448, c449, y450⟩ b_ w567 ⟨hm, he451, hB568, hS569⟩
        show Wp _ _ _ _ (upds b_ [(5, .slice a447 n448 c449)]) w567
        refine w_seq fun K570 hK570 => ?_
        refine w_region ?_
        refine wl_val (g_move (v := .slice a447 n448 c449) rfl) rfl ?_
        refine wl_val (g_assign (v := .slice a447 n448 c449) rfl) rfl ?_
        refine wl_nil ?_
        refine hK570 _ _ ?_
        refine w_ret ?_
        repeat first | with_reducible refine q_then ?_ | with_reducible refine q_block ?_
        exact ret1 rfl (by decide) ⟨_, _, _, _, _, hm, he451, rfl, toExt hB568, hS569⟩

theorem m_spec_ChangesBetween_fn {w : World} {a0 : Option Addr} {n0 c0 : Nat} {p0 : List Int} {a1 : Option Addr} {n1 c1 : Nat} {p1 : List Int} {a2 : Option Addr} {n2 c2 : Nat} {p2 : List Int} {a3 : Option Addr} {n3 c3 : Nat} {p3 : List Int} {Q : Int → Prop} (hp0 : Vw w.heap.size w a0 n0 c0 p0) (hp1 : Vw w.heap.size w a1 n1 c1 p1) (hp2 : Vw w.heap.size w a2 n2 c2 p2) (hp3 : Vw w.heap.size w a3 n3 c3 p3) (hm : m_spec_ChangesBetween p0 p1 p2 p3 Q) :
    Fn Try.prog 76 #[.slice a0 n0 c0, .slice a1 n1 c1, .slice a2 n2 c2, .slice a3 n3 c3] w (fun v w' => ∃ (r0 : Int), Q r0 ∧ v = .int .i64 r0 ∧ Ext w w') := by
  unfold m_spec_ChangesBetween at hm
  have hB0 := Below.refl w.heap.size w
  have hS0 : Sep w w.heap.size [] := Sep.nil (Nat.le_refl _)
  refine fn_of_wp Try.func76 rfl (by kernel_rfl) (Nat.le_of_ble_eq_true rfl) ?_
  refine w_seq fun K1 hK1 => ?_
  refine w_region ?_
  refine wl_val (g_assign (v := .int .i64 0) rfl) rfl ?_
  refine wl_nil ?_
  refine hK1 _ _ ?_
  refine w_seq fun K2 hK2 => ?_
  refine w_seq fun K3 hK3 => ?_
  refine w_region ?_
  refine wl_val (g_move (v := .slice a0 n0 c0) rfl) rfl ?_
  refine wl_val (q_len SL23 rfl (Vw.len (hp0.bel hB0))) rfl ?_
  refine wl_val (g_move (v := .slice a1 n1 c1) rfl) rfl ?_
  refine wl_val (q_len SL23 rfl (Vw.len (hp1.bel hB0))) rfl ?_
  refine wl_val (g_neq (a := (p0.length : Int)) (b := (p1.length : Int)) rfl rfl) rfl ?_
  refine wl_val (g_move (v := .bool (decide ((p0.length : Int) ≠ (p1.length : Int)))) rfl) rfl ?_
  refine wl_guard (c := (decide ((p0.length : Int) ≠ (p1.length : Int))) = false) (val := .slice a2 n2 c2) (b := ((decide ((p0.length : Int) ≠ (p1.length : Int))) == false)) (gv_some rfl rfl rfl) beq_iff_eq (fun hc4 => ?_) ?_
  · have hcq0 : ¬ ((p0.length : Int) ≠ (p1.length : Int)) := (i_neg decide_eq_true_iff hc4)
    exact g_move (v := .slice a2 n2 c2) rfl
  refine wl_guard (c := (decide ((p0.length : Int) ≠ (p1.length : Int))) = false) (val := .int .i64 (p2.length : Int)) (b := ((decide ((p0.length : Int) ≠ (p1.length : Int))) == false)) (gv_some rfl rfl rfl) beq_iff_eq (fun hc5 => ?_) ?_
  · have hcq0 : ¬ ((p0.length : Int) ≠ (p1.length : Int)) := (i_neg decide_eq_true_iff hc5)
    exact q_len SL23 (if_pos hc5) (Vw.len (hp2.bel hB0))
  refine wl_guard (c := (decide ((p0.length : Int) ≠ (p1.length : Int))) = false) (val := .slice a3 n3 c3) (b := ((decide ((p0.length : Int) ≠ (p1.length : Int))) == false)) (gv_some rfl rfl rfl) beq_iff_eq (fun hc6 => ?_) ?_
  · have hcq0 : ¬ ((p0.length : Int) ≠ (p1.length : Int)) := (i_neg decide_eq_true_iff hc6)
    exact g_move (v := .slice a3 n3 c3) rfl
  refine wl_guard (c := (decide ((p0.length : Int) ≠ (p1.length : Int))) = false) (val := .int .i64 (p3.length : Int)) (b := ((decide ((p0.length : Int) ≠ (p1.length : Int))) == false)) (gv_some rfl rfl rfl) beq_iff_eq (fun hc7 => ?_) ?_
  · have hcq0 : ¬ ((p0.length : Int) ≠ (p1.length : Int)) := (i_neg decide_eq_true_iff hc7)
    exact q_len SL23 (if_pos hc7) (Vw.len (hp3.bel hB0))
  refine wl_guard (c := (decide ((p0.length : Int) ≠ (p1.length : Int))) = false) (val := .bool (decide ((p2.length : Int) ≠ (p3.length : Int)))) (b := ((decide ((p0.length : Int) ≠ (p1.length : Int))) == false)) (gv_some rfl rfl rfl) beq_iff_eq (fun hc8 => ?_) ?_
  · have hcq0 : ¬ ((p0.length : Int) ≠ (p1.length : Int)) := (i_neg decide_eq_true_iff hc8)
    exact g_neq (a := (p2.length : Int)) (b := (p3.length : Int)) (if_pos hc8) (if_pos hc8)
  refine wl_val (g_pick_or (b := (decide ((p0.length : Int) ≠ (p1.length : Int)))) (q := (decide ((p2.length : Int) ≠ (p3.length : Int)))) rfl rfl) rfl ?_
  refine wl_nil ?_
  refine hK3 _ _ ?_
  refine w_condI (p := (((p0.length : Int) ≠ (p1.length : Int)) ∨ ((p2.length : Int) ≠ (p3.length : Int)))) (b := ((decide ((p0.length : Int) ≠ (p1.length : Int))) || (decide ((p2.length : Int) ≠ (p3.length : Int))))) rfl (i_or decide_eq_true_iff decide_eq_true_iff) (fun h9 => ?_) (fun h9 => ?_)
  · replace hm := hm.1 h9
    refine w_seq fun K10 hK10 => ?_
    refine w_region ?_
    refine wl_val (g_assign (v := .int .i64 (-1)) rfl) rfl ?_
    refine wl_nil ?_
    refine hK10 _ _ ?_
    refine w_ret ?_
    repeat first | with_reducible refine q_then ?_ | with_reducible refine q_block ?_
    exact ret1 rfl (by decide) ⟨_, hm, rfl, toExt hB0⟩
  · replace hm := hm.2 h9
    refine w_skip ?_
    refine hK2 _ _ ?_
    refine w_seq fun K11 hK11 => ?_
    refine w_region ?_
    refine wl_val (g_assign (v := .int .i64 0) rfl) rfl ?_
    refine wl_nil ?_
    refine hK11 _ _ ?_
    refine w_cut (σ := Int) (fun v531 => [(9, .int .i64 v531)]) (fun v531 w' => m_spec_ChangesBetween_K1 Q v531 ∧ Below w.heap.size w w' ∧ Sep w' w.heap.size []) ?_ ?_
    · refine w_seq fun K533 hK533 => ?_
      refine w_region ?_
      refine wl_val (g_assign (v := .int .i64 0) rfl) rfl ?_
      refine wl_nil ?_
      refine hK533 _ _ ?_
      refine w_block ?_
      obtain ⟨I536, μ537, h0538, hr539⟩ := hm
      refine w_for (σ := Int × Int) (fun ⟨v534, v535⟩ => [(0, .slice a0 n0 c0), (1, .slice a1 n1 c1), (2, .slice a2 n2 c2), (3, .slice a3 n3 c3), (9, .int .i64 v534), (10, .int .i64 v535)]) (fun ⟨v534, v535⟩ w' => I536 v534 v535 ∧ Below w.heap.size w w' ∧ Sep w' w.heap.size []) (fun ⟨v534, v535⟩ => μ537 v534 v535) (0, 0) ⟨rfl, rfl, rfl, rfl, rfl, rfl, trivial⟩ ⟨h0538, hB0, hS0⟩ ?_
      rintro ⟨v534, v535⟩ b_ w540 ⟨hi_, hB541, hS542⟩
      show Wp _ _ _ _ (upds b_ [(0, .slice a0 n0 c0), (1, .slice a1 n1 c1), (2, .slice a2 n2 c2), (3, .slice a3 n3 c3), (9, .int .i64 v534), (10, .int .i64 v535)]) w540
      have hm := hr539 v534 v535 hi_
      refine w_seq fun K544 hK544 => ?_
      refine w_seq fun K545 hK545 => ?_
      refine w_region ?_
      refine wl_val (g_move (v := .int .i64 v535) rfl) rfl ?_
      refine wl_val (g_move (v := .slice a0 n0 c0) rfl) rfl ?_
      refine wl_val (q_len SL23 rfl (Vw.len (hp0.bel hB541))) rfl ?_
      refine wl_val (g_lss (a := v535) (b := (p0.length : Int)) rfl rfl) rfl ?_
      refine wl_nil ?_
      refine hK545 _ _ ?_
      refine w_condI (p := v535 < (p0.length : Int)) (b := (decide (v535 < (p0.length : Int)))) rfl decide_eq_true_iff (fun h546 => ?_) (fun h546 => ?_)
      · replace hm := hm.1 h546
        refine w_skip ?_
        refine hK544 _ _ ?_
        refine w_cut (σ := Int) (fun v547 => [(0, .slice a0 n0 c0), (1, .slice a1 n1 c1), (2, .slice a2 n2 c2), (3, .slice a3 n3 c3), (9, .int .i64 v547), (10, .int .i64 v535)]) (fun v547 w' => m_spec_ChangesBetween_K0 v535 (fun v534' v535' => I536 v534' v535' ∧ μ537 v534' v535' < μ537 v534 v535) v547 ∧ Below w.heap.size w w' ∧ Sep w' w.heap.size []) ?_ ?_
        · refine w_block ?_
          refine w_seq fun K549 hK549 => ?_
          refine w_region ?_
          refine wl_val (g_assign (v := .int .i64 0) rfl) rfl ?_
          refine wl_nil ?_
          refine hK549 _ _ ?_
          refine w_block ?_
          obtain ⟨I552, μ553, h0554, hr555⟩ := hm
          refine w_for (σ := Int × Int) (fun ⟨v550, v551⟩ => [(0, .slice a0 n0 c0), (1, .slice a1 n1 c1), (2, .slice a2 n2 c2), (3, .slice a3 n3 c3), (9, .int .i64 v550), (10, .int .i64 v535), (11, .int .i64 v551)]) (fun ⟨v550, v551⟩ w' => I552 v550 v551 ∧ Below w.heap.size w w' ∧ Sep w' w.heap.size []) (fun ⟨v550, v551⟩ => μ553 v550 v551) (v534, 0) ⟨rfl, rfl, rfl, rfl, rfl, rfl, rfl, trivial⟩ ⟨h0554, hB541, hS542⟩ ?_
          rintro ⟨v550, v551⟩ b_ w556 ⟨hi_, hB557, hS558⟩
          show Wp _ _ _ _ (upds b_ [(0, .slice a0 n0 c0), (1, .slice a1 n1 c1), (2, .slice a2 n2 c2), (3, .slice a3 n3 c3), (9, .int .i64 v550), (10, .int .i64 v535), (11, .int .i64 v551)]) w556
          have hm := hr555 v550 v551 hi_
          refine w_seq fun K560 hK560 => ?_
          refine w_seq fun K561 hK561 => ?_
          refine w_region ?_
          refine wl_val (g_move (v := .int .i64 v551) rfl) rfl ?_
          refine wl_val (g_move (v := .slice a2 n2 c2) rfl) rfl ?_
          refine wl_val (q_len SL23 rfl (Vw.len (hp2.bel hB557))) rfl ?_
          refine wl_val (g_lss (a := v551) (b := (p2.length : Int)) rfl rfl) rfl ?_
          refine wl_nil ?_
          refine hK561 _ _ ?_
          refine w_condI (p := v551 < (p2.length : Int)) (b := (decide (v551 < (p2.length : Int)))) rfl decide_eq_true_iff (fun h562 => ?_) (fun h562 => ?_)
          · replace hm := hm.1 h562
            refine w_skip ?_
            refine hK560 _ _ ?_
            refine w_seq fun K563 hK563 => ?_
            refine w_block ?_
            refine w_seq fun K564 hK564 => ?_
            refine w_draw (X := Ext) (Y := Ext) [] MIX (by decide +kernel) rfl Ext.refl (fun _ _ _ => Ext.trans) (fun _ _ _ => Chg.trans) (fun _ _ h => Ext.chg h _) (fun w565 hE566 => ?_)
            have hB567 := hB557.trans (Ext.stp hE566 hS558.base)
            have hS568 := hS558.ext hE566
            refine ⟨.slice a0 n0 c0, fun w569 hX570 => od_plain rfl (by have hS571 := hS568.ext hX570; have hB572 := hB567.trans (Ext.stp hX570 hS568.base); exact is_ext (g_move (v := .slice a0 n0 c0) rfl)), ?_⟩
            refine ⟨.int .i64 v535, fun w573 hX574 => od_plain rfl (by have hS575 := hS568.ext hX574; have hB576 := hB567.trans (Ext.stp hX574 hS568.base); exact is_ext (g_move (v := .int .i64 v535) rfl)), ?_⟩
            obtain ⟨hg581, hm⟩ := hm
            refine ⟨.pointer (some ((adr a0).add ((Int.toNat v535) * El.m Int))), fun w577 hX578 => od_plain rfl (by have hS579 := hS568.ext hX578; have hB580 := hB567.trans (Ext.stp hX578 hS568.base); exact is_ext (q_index (i := v535) SL23 rfl rfl (hp0.bel hB580) hg581)), ?_⟩
            refine ⟨.int .i64 (p0[(Int.toNat v535)]!), fun w582 hX583 => od_plain rfl (by have hS584 := hS568.ext hX583; have hB585 := hB567.trans (Ext.stp hX583 hS568.base); exact is_ext (q_load (i := v535) (v := .int .i64 (p0[(Int.toNat v535)]!)) ON3 (hp0.bel hB585) hg581 rfl rfl)), ?_⟩
            refine ⟨.slice a2 n2 c2, fun w586 hX587 => od_plain rfl (by have hS588 := hS568.ext hX587; have hB589 := hB567.trans (Ext.stp hX587 hS568.base); exact is_ext (g_move (v := .slice a2 n2 c2) rfl)), ?_⟩
            refine ⟨.int .i64 v551, fun w590 hX591 => od_plain rfl (by have hS592 := hS568.ext hX591; have hB593 := hB567.trans (Ext.stp hX591 hS568.base); exact is_ext (g_move (v := .int .i64 v551) rfl)), ?_⟩
            obtain ⟨hg598, hm⟩ := hm
            refine ⟨.pointer (some ((adr a2).add ((Int.toNat v551) * El.m Int))), fun w594 hX595 => od_plain rfl (by have hS596 := hS568.ext hX595; have hB597 := hB567.trans (Ext.stp hX595 hS568.base); exact is_ext (q_index (i := v551) SL23 rfl rfl (hp2.bel hB597) hg598)), ?_⟩
            refine ⟨.int .i64 (p2[(Int.toNat v551)]!), fun w599 hX600 => od_plain rfl (by have hS601 := hS568.ext hX600; have hB602 := hB567.trans (Ext.stp hX600 hS568.base); exact is_ext (q_load (i := v551) (v := .int .i64 (p2[(Int.toNat v551)]!)) ON3 (hp2.bel hB602) hg598 rfl rfl)), ?_⟩
            refine ⟨.bool (decide (p0[(Int.toNat v535)]! = p2[(Int.toNat v551)]!)), fun w603 hX604 => od_plain rfl (by have hS605 := hS568.ext hX604; have hB606 := hB567.trans (Ext.stp hX604 hS568.base); exact is_ext (g_eql (a := p0[(Int.toNat v535)]!) (b := p2[(Int.toNat v551)]!) rfl rfl)), ?_⟩
            refine ⟨.bool (decide (p0[(Int.toNat v535)]! = p2[(Int.toNat v551)]!)), fun w607 hX608 => od_plain rfl (by have hS609 := hS568.ext hX608; have hB610 := hB567.trans (Ext.stp hX608 hS568.base); exact is_ext (g_move (v := .bool (decide (p0[(Int.toNat v535)]! = p2[(Int.toNat v551)]!))) rfl)), ?_⟩
            refine ⟨if (decide (p0[(Int.toNat v535)]! = p2[(Int.toNat v551)]!)) = true then .slice a1 n1 c1 else undef, fun w611 hX612 => od_guard (c := (decide (p0[(Int.toNat v535)]! = p2[(Int.toNat v551)]!)) = true) (val := .slice a1 n1 c1) (b := ((decide (p0[(Int.toNat v535)]! = p2[(Int.toNat v551)]!)) == true)) (gv_some rfl rfl rfl) beq_iff_eq (fun hc615 => ?_), ?_⟩
            · have hS613 := hS568.ext hX612
              have hB614 := hB567.trans (Ext.stp hX612 hS568.base)
              have hcq5 : p0[(Int.toNat v535)]! = p2[(Int.toNat v551)]! := (decide_eq_true_iff.mp hc615)
              exact is_ext (g_move (v := .slice a1 n1 c1) rfl)
            refine ⟨if (decide (p0[(Int.toNat v535)]! = p2[(Int.toNat v551)]!)) = true then .int .i64 v535 else undef, fun w616 hX617 => od_guard (c := (decide (p0[(Int.toNat v535)]! = p2[(Int.toNat v551)]!)) = true) (val := .int .i64 v535) (b := ((decide (p0[(Int.toNat v535)]! = p2[(Int.toNat v551)]!)) == true)) (gv_some rfl rfl rfl) beq_iff_eq (fun hc620 => ?_), ?_⟩
            · have hS618 := hS568.ext hX617
              have hB619 := hB567.trans (Ext.stp hX617 hS568.base)
              have hcq5 : p0[(Int.toNat v535)]! = p2[(Int.toNat v551)]! := (decide_eq_true_iff.mp hc620)
              exact is_ext (g_move (v := .int .i64 v535) rfl)
            obtain ⟨hg626, hm⟩ := hm
            refine ⟨if (decide (p0[(Int.toNat v535)]! = p2[(Int.toNat v551)]!)) = true then .pointer (some ((adr a1).add ((Int.toNat v535) * El.m Int))) else undef, fun w621 hX622 => od_guard (c := (decide (p0[(Int.toNat v535)]! = p2[(Int.toNat v551)]!)) = true) (val := .pointer (some ((adr a1).add ((Int.toNat v535) * El.m Int)))) (b := ((decide (p0[(Int.toNat v535)]! = p2[(Int.toNat v551)]!)) == true)) (gv_some rfl rfl rfl) beq_iff_eq (fun hc625 => ?_), ?_⟩
            · have hS623 := hS568.ext hX622
              have hB624 := hB567.trans (Ext.stp hX622 hS568.base)
              have hcq5 : p0[(Int.toNat v535)]! = p2[(Int.toNat v551)]! := (decide_eq_true_iff.mp hc625)
              exact is_ext (q_index (i := v535) SL23 (if_pos hc625) (if_pos hc625) (hp1.bel hB624) (hg626 hcq5))
            refine ⟨if (decide (p0[(Int.toNat v535)]! = p2[(Int.toNat v551)]!)) = true then .int .i64 (p1[(Int.toNat v535)]!) else undef, fun w627 hX628 => od_guard (c := (decide (p0[(Int.toNat v535)]! = p2[(Int.toNat v551)]!)) = true) (val := .int .i64 (p1[(Int.toNat v535)]!)) (b := ((decide (p0[(Int.toNat v535)]! = p2[(Int.toNat v551)]!)) == true)) (gv_some rfl rfl rfl) beq_iff_eq (fun hc631 => ?_), ?_⟩
            · have hS629 := hS568.ext hX628
              have hB630 := hB567.trans (Ext.stp hX628 hS568.base)
              have hcq5 : p0[(Int.toNat v535)]! = p2[(Int.toNat v551)]! := (decide_eq_true_iff.mp hc631)
              exact is_ext (q_load (i := v535) (v := .int .i64 (p1[(Int.toNat v535)]!)) ON3 (hp1.bel hB630) (hg626 hcq5) rfl (if_pos hc631))
            refine ⟨if (decide (p0[(Int.toNat v535)]! = p2[(Int.toNat v551)]!)) = true then .slice a3 n3 c3 else undef, fun w632 hX633 => od_guard (c := (decide (p0[(Int.toNat v535)]! = p2[(Int.toNat v551)]!)) = true) (val := .slice a3 n3 c3) (b := ((decide (p0[(Int.toNat v535)]! = p2[(Int.toNat v551)]!)) == true)) (gv_some rfl rfl rfl) beq_iff_eq (fun hc636 => ?_), ?_⟩
            · have hS634 := hS568.ext hX633
              have hB635 := hB567.trans (Ext.stp hX633 hS568.base)
              have hcq5 : p0[(Int.toNat v535)]! = p2[(Int.toNat v551)]! := (decide_eq_true_iff.mp hc636)
              exact is_ext (g_move (v := .slice a3 n3 c3) rfl)
            refine ⟨if (decide (p0[(Int.toNat v535)]! = p2[(Int.toNat v551)]!)) = true then .int .i64 v551 else undef, fun w637 hX638 => od_guard (c := (decide (p0[(Int.toNat v535)]! = p2[(Int.toNat v551)]!)) = true) (val := .int .i64 v551) (b := ((decide (p0[(Int.toNat v535)]! = p2[(Int.toNat v551)]!)) == true)) (gv_some rfl rfl rfl) beq_iff_eq (fun hc641 => ?_), ?_⟩
            · have hS639 := hS568.ext hX638
              have hB640 := hB567.trans (Ext.stp hX638 hS568.base)
              have hcq5 : p0[(Int.toNat v535)]! = p2[(Int.toNat v551)]! := (decide_eq_true_iff.mp hc641)
              exact is_ext (g_move (v := .int .i64 v551) rfl)
            obtain ⟨hg647, hm⟩ := hm
            refine ⟨if (decide (p0[(Int.toNat v535)]! = p2[(Int.toNat v551)]!)) = true then .pointer (some ((adr a3).add ((Int.toNat v551) * El.m Int))) else undef, fun w642 hX643 => od_guard (c := (decide (p0[(Int.toNat v535)]! = p2[(Int.toNat v551)]!)) = true) (val := .pointer (some ((adr a3).add ((Int.toNat v551) * El.m Int)))) (b := ((decide (p0[(Int.toNat v535)]! = p2[(Int.toNat v551)]!)) == true)) (gv_some rfl rfl rfl) beq_iff_eq (fun hc646 => ?_), ?_⟩
            · have hS644 := hS568.ext hX643
              have hB645 := hB567.trans (Ext.stp hX643 hS568.base)
              have hcq5 : p0[(Int.toNat v535)]! = p2[(Int.toNat v551)]! := (decide_eq_true_iff.mp hc646)
              exact is_ext (q_index (i := v551) SL23 (if_pos hc646) (if_pos hc646) (hp3.bel hB645) (hg647 hcq5))
            refine ⟨if (decide (p0[(Int.toNat v535)]! = p2[(Int.toNat v551)]!)) = true then .int .i64 (p3[(Int.toNat v551)]!) else undef, fun w648 hX649 => od_guard (c := (decide (p0[(Int.toNat v535)]! = p2[(Int.toNat v551)]!)) = true) (val := .int .i64 (p3[(Int.toNat v551)]!)) (b := ((decide (p0[(Int.toNat v535)]! = p2[(Int.toNat v551)]!)) == true)) (gv_some rfl rfl rfl) beq_iff_eq (fun hc652 => ?_), ?_⟩
            · have hS650 := hS568.ext hX649
              have hB651 := hB567.trans (Ext.stp hX649 hS568.base)
              have hcq5 : p0[(Int.toNat v535)]! = p2[(Int.toNat v551)]! := (decide_eq_true_iff.mp hc652)
              exact is_ext (q_load (i := v551) (v := .int .i64 (p3[(Int.toNat v551)]!)) ON3 (hp3.bel hB651) (hg647 hcq5) rfl (if_pos hc652))
            refine ⟨if (decide (p0[(Int.toNat v535)]! = p2[(Int.toNat v551)]!)) = true then .bool (decide (p1[(Int.toNat v535)]! ≠ p3[(Int.toNat v551)]!)) else undef, fun w653 hX654 => od_guard (c := (decide (p0[(Int.toNat v535)]! = p2[(Int.toNat v551)]!)) = true) (val := .bool (decide (p1[(Int.toNat v535)]! ≠ p3[(Int.toNat v551)]!))) (b := ((decide (p0[(Int.toNat v535)]! = p2[(Int.toNat v551)]!)) == true)) (gv_some rfl rfl rfl) beq_iff_eq (fun hc657 => ?_), ?_⟩
            · have hS655 := hS568.ext hX654
              have hB656 := hB567.trans (Ext.stp hX654 hS568.base)
              have hcq5 : p0[(Int.toNat v535)]! = p2[(Int.toNat v551)]! := (decide_eq_true_iff.mp hc657)
              exact is_ext (g_neq (a := p1[(Int.toNat v535)]!) (b := p3[(Int.toNat v551)]!) (if_pos hc657) (if_pos hc657))
            refine ⟨.bool ((decide (p0[(Int.toNat v535)]! = p2[(Int.toNat v551)]!)) && (decide (p1[(Int.toNat v535)]! ≠ p3[(Int.toNat v551)]!))), fun w658 hX659 => od_plain rfl (by have hS660 := hS568.ext hX659; have hB661 := hB567.trans (Ext.stp hX659 hS568.base); exact is_ext (g_pick_and (b := (decide (p0[(Int.toNat v535)]! = p2[(Int.toNat v551)]!))) (q := (decide (p1[(Int.toNat v535)]! ≠ p3[(Int.toNat v551)]!))) rfl rfl)), ?_⟩
            intro w662 hX663
            have hB664 := hB567.trans (Ext.stp hX663 hS568.base)
            have hS665 := hS568.ext hX663
            refine hK564 _ _ ?_
            refine w_condI (p := ((p0[(Int.toNat v535)]! = p2[(Int.toNat v551)]!) ∧ (p1[(Int.toNat v535)]! ≠ p3[(Int.toNat v551)]!))) (b := ((decide (p0[(Int.toNat v535)]! = p2[(Int.toNat v551)]!)) && (decide (p1[(Int.toNat v535)]! ≠ p3[(Int.toNat v551)]!)))) rfl (i_and decide_eq_true_iff decide_eq_true_iff) (fun h666 => ?_) (fun h666 => ?_)
            · replace hm := hm.1 h666
              refine w_region ?_
              refine wl_val (g_move (v := .int .i64 v550) rfl) rfl ?_
              obtain ⟨hg667, hm⟩ := hm
              refine wl_val (g_add (a := v550) (b := 1) rfl rfl hg667) rfl ?_
              refine wl_val (g_assign (v := .int .i64 (v550 + 1)) rfl) rfl ?_
              refine wl_nil ?_
              refine hK563 _ _ ?_
              refine w_region ?_
              refine wl_val (g_move (v := .int .i64 v551) rfl) rfl ?_
              obtain ⟨hg668, hm⟩ := hm
              refine wl_val (g_add (a := v551) (b := 1) rfl rfl hg668) rfl ?_
              refine wl_val (g_assign (v := .int .i64 (v551 + 1)) rfl) rfl ?_
              refine wl_nil ?_
              exact ⟨((v550 + 1), (v551 + 1)), hm.2, ⟨rfl, rfl, rfl, rfl, rfl, rfl, rfl, trivial⟩, ⟨hm.1, hB664, hS665⟩⟩
            · replace hm := hm.2 h666
              refine w_skip ?_
              refine hK563 _ _ ?_
              refine w_region ?_
              refine wl_val (g_move (v := .int .i64 v551) rfl) rfl ?_
              obtain ⟨hg669, hm⟩ := hm
              refine wl_val (g_add (a := v551) (b := 1) rfl rfl hg669) rfl ?_
              refine wl_val (g_assign (v := .int .i64 (v551 + 1)) rfl) rfl ?_
              refine wl_nil ?_
              exact ⟨(v550, (v551 + 1)), hm.2, ⟨rfl, rfl, rfl, rfl, rfl, rfl, rfl, trivial⟩, ⟨hm.1, hB664, hS665⟩⟩
          · replace hm := hm.2 h562
            refine w_exit ?_
            exact ⟨(v550), ⟨rfl, rfl, rfl, rfl, rfl, rfl, trivial⟩, ⟨hm, hB557, hS558⟩⟩
        · rintro v547 b_ w670 ⟨hm, hB671, hS672⟩
          show Wp _ _ _ _ (upds b_ [(0, .slice a0 n0 c0), (1, .slice a1 n1 c1), (2, .slice a2 n2 c2), (3, .slice a3 n3 c3), (9, .int .i64 v547), (10, .int .i64 v535)]) w670
          refine w_region ?_
          refine wl_val (g_move (v := .int .i64 v535) rfl) rfl ?_
          obtain ⟨hg673, hm⟩ := hm
          refine wl_val (g_add (a := v535) (b := 1) rfl rfl hg673) rfl ?_
          refine wl_val (g_assign (v := .int .i64 (v535 + 1)) rfl) rfl ?_
          refine wl_nil ?_
          exact ⟨(v547, (v535 + 1)), hm.2, ⟨rfl, rfl, rfl, rfl, rfl, rfl, trivial⟩, ⟨hm.1, hB671, hS672⟩⟩
      · replace hm := hm.2 h546
        refine w_exit ?_
        exact ⟨(v534), ⟨rfl, trivial⟩, ⟨hm, hB541, hS542⟩⟩
    · rintro v531 b_ w674 ⟨hm, hB675, hS676⟩
      show Wp _ _ _ _ (upds b_ [(9, .int .i64 v531)]) w674
      refine w_seq fun K677 hK677 => ?_
      refine w_region ?_
      refine wl_val (g_move (v := .int .i64 v531) rfl) rfl ?_
      refine wl_val (g_assign (v := .int .i64 v531) rfl) rfl ?_
      refine wl_nil ?_
      refine hK677 _ _ ?_
      refine w_ret ?_
      repeat first | with_reducible refine q_then ?_ | with_reducible refine q_block ?_
      exact ret1 rfl (by decide) ⟨_, hm, rfl, toExt hB675⟩

end Go.Proofs.Ytddjkiefadiijaa
