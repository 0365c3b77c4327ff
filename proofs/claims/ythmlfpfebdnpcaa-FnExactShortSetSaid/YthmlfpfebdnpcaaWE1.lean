/- The walks: the code does what its model says. Printed by a program (gen2.py). No statement of the claim stands here. -/
import Derived.Test.YthmlfpfebdnpcaaSop
import Derived.Test.YthmlfpfebdnpcaaFacts
import Derived.Test.YthmlfpfebdnpcaaME
namespace Go.Proofs.Ythmlfpfebdnpcaa
open Go Go.RowKit
set_option maxRecDepth 100000
theorem m_laws_szIntS_fn {w : World} {a0 : Option Addr} {n0 c0 : Nat} {p0 : List Int} {Q : Int → Prop} (hp0 : Vw w.heap.size w a0 n0 c0 p0) (p1 : Int) (hm : m_laws_szIntS p0 p1 Q) :
    Fn Try.prog 54 #[.slice a0 n0 c0, .int .i64 p1] w (fun v w' => ∃ (r0 : Int), Q r0 ∧ v = .int .i64 r0 ∧ Ext w w') := by
  unfold m_laws_szIntS at hm
  have hB0 := Below.refl w.heap.size w
  have hS0 : Sep w w.heap.size [] := Sep.nil (Nat.le_refl _)
  refine fn_of_wp Try.func54 rfl (by kernel_rfl) (Nat.le_of_ble_eq_true rfl) ?_
  refine w_seq fun K1 hK1 => ?_
  refine w_region ?_
  refine wl_val (g_assign (v := .int .i64 0) rfl) rfl ?_
  refine wl_nil ?_
  refine hK1 _ _ ?_
  refine w_seq fun K2 hK2 => ?_
  refine w_region ?_
  refine wl_val (g_move (v := .int .i64 p1) rfl) rfl ?_
  refine wl_val (g_move (v := .slice a0 n0 c0) rfl) rfl ?_
  refine wl_val (q_len SL35 rfl (Vw.len (hp0.bel hB0))) rfl ?_
  obtain ⟨hg3, hm⟩ := hm
  refine wl_val (g_sub (a := p1) (b := (p0.length : Int)) rfl rfl hg3) rfl ?_
  refine wl_val (g_assign (v := .int .i64 (p1 - (p0.length : Int))) rfl) rfl ?_
  refine wl_nil ?_
  refine hK2 _ _ ?_
  refine w_seq fun K4 hK4 => ?_
  refine w_seq fun K5 hK5 => ?_
  refine w_region ?_
  refine wl_val (g_move (v := .int .i64 (p1 - (p0.length : Int))) rfl) rfl ?_
  refine wl_val (g_lss (a := (p1 - (p0.length : Int))) (b := 0) rfl rfl) rfl ?_
  refine wl_nil ?_
  refine hK5 _ _ ?_
  refine w_condI (p := (p1 - (p0.length : Int)) < 0) (b := (decide ((p1 - (p0.length : Int)) < 0))) rfl decide_eq_true_iff (fun h6 => ?_) (fun h6 => ?_)
  · replace hm := hm.1 h6
    refine w_seq fun K7 hK7 => ?_
    refine w_region ?_
    refine wl_val (g_assign (v := .int .i64 (-1)) rfl) rfl ?_
    refine wl_nil ?_
    refine hK7 _ _ ?_
    refine w_ret ?_
    repeat first | with_reducible refine q_then ?_ | with_reducible refine q_block ?_
    exact ret1 rfl (by decide) ⟨_, hm, rfl, toExt hB0⟩
  · replace hm := hm.2 h6
    refine w_skip ?_
    refine hK4 _ _ ?_
    refine w_seq fun K8 hK8 => ?_
    refine w_region ?_
    refine wl_val (g_move (v := .int .i64 (p1 - (p0.length : Int))) rfl) rfl ?_
    refine wl_val (g_assign (v := .int .i64 (p1 - (p0.length : Int))) rfl) rfl ?_
    refine wl_nil ?_
    refine hK8 _ _ ?_
    refine w_ret ?_
    repeat first | with_reducible refine q_then ?_ | with_reducible refine q_block ?_
    exact ret1 rfl (by decide) ⟨_, hm, rfl, toExt hB0⟩

theorem m_laws_szIntSS_fn {w : World} {a0 : Option Addr} {n0 c0 : Nat} {y0 : List (Hd Int)} {p0 : List (List Int)} {Q : Int → Prop} (hp0 : Tv w.heap.size w a0 n0 c0 y0 p0) (p1 : Int) (hm : m_laws_szIntSS p0 p1 Q) :
    Fn Try.prog 16 #[.slice a0 n0 c0, .int .i64 p1] w (fun v w' => ∃ (r0 : Int), Q r0 ∧ v = .int .i64 r0 ∧ Ext w w') := by
  unfold m_laws_szIntSS at hm
  have hB0 := Below.refl w.heap.size w
  have hS0 : Sep w w.heap.size [] := Sep.nil (Nat.le_refl _)
  refine fn_of_wp Try.func16 rfl (by kernel_rfl) (Nat.le_of_ble_eq_true rfl) ?_
  refine w_seq fun K1 hK1 => ?_
  refine w_region ?_
  refine wl_val (g_assign (v := .int .i64 0) rfl) rfl ?_
  refine wl_nil ?_
  refine hK1 _ _ ?_
  refine w_seq fun K2 hK2 => ?_
  refine w_region ?_
  refine wl_val (g_move (v := .int .i64 p1) rfl) rfl ?_
  refine wl_val (g_move (v := .slice a0 n0 c0) rfl) rfl ?_
  refine wl_val (q_len SL22 rfl (Tv.len (hp0.bel hB0))) rfl ?_
  obtain ⟨hg3, hm⟩ := hm
  refine wl_val (g_sub (a := p1) (b := (p0.length : Int)) rfl rfl hg3) rfl ?_
  refine wl_val (g_assign (v := .int .i64 (p1 - (p0.length : Int))) rfl) rfl ?_
  refine wl_nil ?_
  refine hK2 _ _ ?_
  refine w_seq fun K4 hK4 => ?_
  refine w_seq fun K5 hK5 => ?_
  refine w_region ?_
  refine wl_val (g_move (v := .int .i64 (p1 - (p0.length : Int))) rfl) rfl ?_
  refine wl_val (g_lss (a := (p1 - (p0.length : Int))) (b := 0) rfl rfl) rfl ?_
  refine wl_nil ?_
  refine hK5 _ _ ?_
  refine w_condI (p := (p1 - (p0.length : Int)) < 0) (b := (decide ((p1 - (p0.length : Int)) < 0))) rfl decide_eq_true_iff (fun h6 => ?_) (fun h6 => ?_)
  · replace hm := hm.1 h6
    refine w_seq fun K7 hK7 => ?_
    refine w_region ?_
    refine wl_val (g_assign (v := .int .i64 (-1)) rfl) rfl ?_
    refine wl_nil ?_
    refine hK7 _ _ ?_
    refine w_ret ?_
    repeat first | with_reducible refine q_then ?_ | with_reducible refine q_block ?_
    exact ret1 rfl (by decide) ⟨_, hm, rfl, toExt hB0⟩
  · replace hm := hm.2 h6
    refine w_skip ?_
    refine hK4 _ _ ?_
    refine w_cut (σ := Int) (fun v60 => [(1, .int .i64 v60)]) (fun v60 w' => m_laws_szIntSS_K0 Q v60 ∧ Below w.heap.size w w' ∧ Sep w' w.heap.size []) ?_ ?_
    · refine w_seq fun K62 hK62 => ?_
      refine w_region ?_
      refine wl_val (g_assign (v := .int .i64 0) rfl) rfl ?_
      refine wl_nil ?_
      refine hK62 _ _ ?_
      refine w_block ?_
      obtain ⟨I65, μ66, h067, hr68⟩ := hm
      refine w_for (σ := Int × Int) (fun ⟨v63, v64⟩ => [(0, .slice a0 n0 c0), (1, .int .i64 v63), (5, .int .i64 v64)]) (fun ⟨v63, v64⟩ w' => I65 v63 v64 ∧ Below w.heap.size w w' ∧ Sep w' w.heap.size []) (fun ⟨v63, v64⟩ => μ66 v63 v64) ((p1 - (p0.length : Int)), 0) ⟨rfl, rfl, rfl, trivial⟩ ⟨h067, hB0, hS0⟩ ?_
      rintro ⟨v63, v64⟩ b_ w69 ⟨hi_, hB70, hS71⟩
      show Wp _ _ _ _ (upds b_ [(0, .slice a0 n0 c0), (1, .int .i64 v63), (5, .int .i64 v64)]) w69
      have hm := hr68 v63 v64 hi_
      refine w_seq fun K73 hK73 => ?_
      refine w_seq fun K74 hK74 => ?_
      refine w_region ?_
      refine wl_val (g_move (v := .int .i64 v64) rfl) rfl ?_
      refine wl_val (g_move (v := .slice a0 n0 c0) rfl) rfl ?_
      refine wl_val (q_len SL22 rfl (Tv.len (hp0.bel hB70))) rfl ?_
      refine wl_val (g_lss (a := v64) (b := (p0.length : Int)) rfl rfl) rfl ?_
      refine wl_nil ?_
      refine hK74 _ _ ?_
      refine w_condI (p := v64 < (p0.length : Int)) (b := (decide (v64 < (p0.length : Int)))) rfl decide_eq_true_iff (fun h75 => ?_) (fun h75 => ?_)
      · replace hm := hm.1 h75
        refine w_skip ?_
        refine hK73 _ _ ?_
        refine w_seq fun K76 hK76 => ?_
        refine w_block ?_
        refine w_seq fun K77 hK77 => ?_
        refine w_region ?_
        refine wl_val (g_move (v := .slice a0 n0 c0) rfl) rfl ?_
        refine wl_val (g_move (v := .int .i64 v64) rfl) rfl ?_
        obtain ⟨hg78, hm⟩ := hm
        refine wl_val (q_index (i := v64) SL22 rfl rfl (Tv.o (hp0.bel hB70)) (Tv.g (hp0.bel hB70) hg78)) rfl ?_
        refine wl_val (q_load (i := v64) (v := .slice ((y0[(Int.toNat v64)]!).1) ((y0[(Int.toNat v64)]!).2.2.length) ((y0[(Int.toNat v64)]!).2.1)) ON35 (Tv.o (hp0.bel hB70)) (Tv.g (hp0.bel hB70) hg78) rfl rfl) rfl ?_
        refine wl_val (g_move (v := .int .i64 v63) rfl) rfl ?_
        refine wl_step rfl (g_call (vs := #[.slice ((y0[(Int.toNat v64)]!).1) ((y0[(Int.toNat v64)]!).2.2.length) ((y0[(Int.toNat v64)]!).2.1), .int .i64 v63]) CF54 (args2 rfl rfl) (m_laws_szIntS_fn ((Tv.row (hp0.bel hB70) hg78).up hS71) v63 hm)) ?_
        rintro _ w79 ⟨r82, hm, rfl, hE80⟩
        have hB83 := hB70.trans (Ext.stp hE80 hS71.base)
        have hS84 := hS71.ext hE80
        refine wl_val (g_assign (v := .int .i64 r82) rfl) rfl ?_
        refine wl_nil ?_
        refine hK77 _ _ ?_
        refine w_seq fun K85 hK85 => ?_
        refine w_region ?_
        refine wl_val (g_move (v := .int .i64 r82) rfl) rfl ?_
        refine wl_val (g_lss (a := r82) (b := 0) rfl rfl) rfl ?_
        refine wl_nil ?_
        refine hK85 _ _ ?_
        refine w_condI (p := r82 < 0) (b := (decide (r82 < 0))) rfl decide_eq_true_iff (fun h86 => ?_) (fun h86 => ?_)
        · replace hm := hm.1 h86
          refine w_seq fun K87 hK87 => ?_
          refine w_region ?_
          refine wl_val (g_assign (v := .int .i64 (-1)) rfl) rfl ?_
          refine wl_nil ?_
          refine hK87 _ _ ?_
          refine w_ret ?_
          repeat first | with_reducible refine q_then ?_ | with_reducible refine q_block ?_
          exact ret1 rfl (by decide) ⟨_, hm, rfl, toExt hB83⟩
        · replace hm := hm.2 h86
          refine w_skip ?_
          refine hK76 _ _ ?_
          refine w_region ?_
          refine wl_val (g_move (v := .int .i64 v64) rfl) rfl ?_
          obtain ⟨hg88, hm⟩ := hm
          refine wl_val (g_add (a := v64) (b := 1) rfl rfl hg88) rfl ?_
          refine wl_val (g_assign (v := .int .i64 (v64 + 1)) rfl) rfl ?_
          refine wl_nil ?_
          exact ⟨(r82, (v64 + 1)), hm.2, ⟨rfl, rfl, rfl, trivial⟩, ⟨hm.1, hB83, hS84⟩⟩
      · replace hm := hm.2 h75
        refine w_exit ?_
        exact ⟨(v63), ⟨rfl, trivial⟩, ⟨hm, hB70, hS71⟩⟩
    · rintro v60 b_ w89 ⟨hm, hB90, hS91⟩
      show Wp _ _ _ _ (upds b_ [(1, .int .i64 v60)]) w89
      refine w_seq fun K92 hK92 => ?_
      refine w_region ?_
      refine wl_val (g_move (v := .int .i64 v60) rfl) rfl ?_
      refine wl_val (g_assign (v := .int .i64 v60) rfl) rfl ?_
      refine wl_nil ?_
      refine hK92 _ _ ?_
      refine w_ret ?_
      repeat first | with_reducible refine q_then ?_ | with_reducible refine q_block ?_
      exact ret1 rfl (by decide) ⟨_, hm, rfl, toExt hB90⟩

theorem m_laws_toIntS_fn {w : World} {a0 : Option Addr} {n0 c0 : Nat} {p0 : List Int} {Q : (List Int) → Prop} (hp0 : Vw w.heap.size w a0 n0 c0 p0) (hm : m_laws_toIntS p0 Q) :
    Fn Try.prog 29 #[.slice a0 n0 c0] w (fun v w' => ∃ (r0 : List Int) (a0 : Option Addr) (n0 c0 : Nat), Q r0 ∧ v = .slice a0 n0 c0 ∧ Ext w w' ∧ Sep w' w.heap.size [oS 3 a0 n0 c0 r0]) := by
  unfold m_laws_toIntS at hm
  have hB0 := Below.refl w.heap.size w
  have hS0 : Sep w w.heap.size [] := Sep.nil (Nat.le_refl _)
  refine fn_of_wp Try.func29 rfl (by kernel_rfl) (Nat.le_of_ble_eq_true rfl) ?_
  refine w_seq fun K1 hK1 => ?_
  refine w_region ?_
  refine wl_val (g_assign (v := .slice none 0 0) rfl) rfl ?_
  refine wl_nil ?_
  refine hK1 _ _ ?_
  refine w_seq fun K2 hK2 => ?_
  refine w_region ?_
  refine wl_val (g_move (v := .slice a0 n0 c0) rfl) rfl ?_
  refine wl_val (q_len SL35 rfl (Vw.len (hp0.bel hB0))) rfl ?_
  obtain ⟨hg3, hm⟩ := hm
  refine wl_step rfl (q_make (y := (0 : Int)) SL35 rfl rfl hg3.1 hg3.2 (by decide) hS0) ?_
  rintro _ w4 ⟨a5, rfl, hS7, hE6⟩
  have hB9 := hB0.trans (Ext.stp hE6 hS0.base)
  refine wl_val (g_assign (v := .slice a5 (Int.toNat (p0.length : Int)) (Int.toNat (p0.length : Int))) rfl) rfl ?_
  refine wl_nil ?_
  refine hK2 _ _ ?_
  refine w_cut (σ := List Int) (fun x52 => [(3, .slice a5 (Int.toNat (p0.length : Int)) (Int.toNat (p0.length : Int)))]) (fun x52 w' => m_laws_toIntS_K0 Q x52 ∧ Below w.heap.size w w' ∧ Sep w' w.heap.size [oS 3 a5 (Int.toNat (p0.length : Int)) (Int.toNat (p0.length : Int)) (x52 : List Int)]) ?_ ?_
  · refine w_seq fun K54 hK54 => ?_
    refine w_region ?_
    refine wl_val (g_assign (v := .int .i64 0) rfl) rfl ?_
    refine wl_nil ?_
    refine hK54 _ _ ?_
    refine w_block ?_
    obtain ⟨I57, μ58, h059, hr60⟩ := hm
    refine w_for (σ := List Int × Int) (fun ⟨x55, v56⟩ => [(0, .slice a0 n0 c0), (3, .slice a5 (Int.toNat (p0.length : Int)) (Int.toNat (p0.length : Int))), (4, .int .i64 v56)]) (fun ⟨x55, v56⟩ w' => I57 x55 v56 ∧ Below w.heap.size w w' ∧ Sep w' w.heap.size [oS 3 a5 (Int.toNat (p0.length : Int)) (Int.toNat (p0.length : Int)) (x55 : List Int)]) (fun ⟨x55, v56⟩ => μ58 x55 v56) (List.replicate (Int.toNat (p0.length : Int)) (0 : Int), 0) ⟨rfl, rfl, rfl, trivial⟩ ⟨h059, hB9, hS7⟩ ?_
    rintro ⟨x55, v56⟩ b_ w61 ⟨hi_, hB62, hS63⟩
    show Wp _ _ _ _ (upds b_ [(0, .slice a0 n0 c0), (3, .slice a5 (Int.toNat (p0.length : Int)) (Int.toNat (p0.length : Int))), (4, .int .i64 v56)]) w61
    have hm := hr60 x55 v56 hi_
    refine w_seq fun K65 hK65 => ?_
    refine w_seq fun K66 hK66 => ?_
    refine w_region ?_
    refine wl_val (g_move (v := .int .i64 v56) rfl) rfl ?_
    refine wl_val (g_move (v := .slice a0 n0 c0) rfl) rfl ?_
    refine wl_val (q_len SL35 rfl (Vw.len (hp0.bel hB62))) rfl ?_
    refine wl_val (g_lss (a := v56) (b := (p0.length : Int)) rfl rfl) rfl ?_
    refine wl_nil ?_
    refine hK66 _ _ ?_
    refine w_condI (p := v56 < (p0.length : Int)) (b := (decide (v56 < (p0.length : Int)))) rfl decide_eq_true_iff (fun h67 => ?_) (fun h67 => ?_)
    · replace hm := hm.1 h67
      refine w_skip ?_
      refine hK65 _ _ ?_
      refine w_seq fun K68 hK68 => ?_
      refine w_block ?_
      refine w_region ?_
      refine wl_val (g_move (v := .slice a5 (Int.toNat (p0.length : Int)) (Int.toNat (p0.length : Int))) rfl) rfl ?_
      refine wl_val (g_move (v := .int .i64 v56) rfl) rfl ?_
      refine wl_val (g_move (v := .slice a0 n0 c0) rfl) rfl ?_
      refine wl_val (g_move (v := .int .i64 v56) rfl) rfl ?_
      obtain ⟨hg69, hm⟩ := hm
      refine wl_val (q_index (i := v56) SL35 rfl rfl (hp0.bel hB62) hg69) rfl ?_
      refine wl_val (q_load (i := v56) (v := .int .i64 (p0[(Int.toNat v56)]!)) ON3 (hp0.bel hB62) hg69 rfl rfl) rfl ?_
      obtain ⟨hg70, hm⟩ := hm
      refine wl_val (q_index (i := v56) SL35 rfl rfl (oS.vw hS63.g0) hg70) rfl ?_
      refine wl_step rfl (q_store (i := v56) (v := (p0[(Int.toNat v56)]! : Int)) hS63 ON3.sz hg70 rfl rfl rfl) ?_
      rintro _ w71 ⟨rfl, hS72, hb73⟩
      have hB74 := hB62.trans hb73
      refine wl_nil ?_
      refine hK68 _ _ ?_
      refine w_region ?_
      refine wl_val (g_move (v := .int .i64 v56) rfl) rfl ?_
      obtain ⟨hg75, hm⟩ := hm
      refine wl_val (g_add (a := v56) (b := 1) rfl rfl hg75) rfl ?_
      refine wl_val (g_assign (v := .int .i64 (v56 + 1)) rfl) rfl ?_
      refine wl_nil ?_
      exact ⟨((x55.set (Int.toNat v56) (p0[(Int.toNat v56)]!)), (v56 + 1)), hm.2, ⟨rfl, rfl, rfl, trivial⟩, ⟨hm.1, hB74, hS72⟩⟩
    · replace hm := hm.2 h67
      refine w_exit ?_
      exact ⟨(x55), ⟨rfl, trivial⟩, ⟨hm, hB62, hS63⟩⟩
  · rintro x52 b_ w76 ⟨hm, hB77, hS78⟩
    show Wp _ _ _ _ (upds b_ [(3, .slice a5 (Int.toNat (p0.length : Int)) (Int.toNat (p0.length : Int)))]) w76
    refine w_seq fun K79 hK79 => ?_
    refine w_region ?_
    refine wl_val (g_move (v := .slice a5 (Int.toNat (p0.length : Int)) (Int.toNat (p0.length : Int))) rfl) rfl ?_
    refine wl_val (g_assign (v := .slice a5 (Int.toNat (p0.length : Int)) (Int.toNat (p0.length : Int))) rfl) rfl ?_
    refine wl_nil ?_
    refine hK79 _ _ ?_
    refine w_ret ?_
    repeat first | with_reducible refine q_then ?_ | with_reducible refine q_block ?_
    exact ret1 rfl (by decide) ⟨_, _, _, _, hm, rfl, toExt hB77, hS78⟩

theorem m_laws_toIntSS_fn {w : World} {a0 : Option Addr} {n0 c0 : Nat} {y0 : List (Hd Int)} {p0 : List (List Int)} {Q : (List (List Int)) → Prop} (hp0 : Tv w.heap.size w a0 n0 c0 y0 p0) (hm : m_laws_toIntSS p0 Q) :
    Fn Try.prog 18 #[.slice a0 n0 c0] w (fun v w' => ∃ (r0 : List (List Int)) (a0 : Option Addr) (n0 c0 : Nat) (y0 : List (Hd Int)), Q r0 ∧ ers y0 = r0 ∧ v = .slice a0 n0 c0 ∧ Ext w w' ∧ Sep w' w.heap.size [oS 35 a0 n0 c0 y0, oT 3 y0]) := by
  unfold m_laws_toIntSS at hm
  have hB0 := Below.refl w.heap.size w
  have hS0 : Sep w w.heap.size [] := Sep.nil (Nat.le_refl _)
  refine fn_of_wp Try.func18 rfl (by kernel_rfl) (Nat.le_of_ble_eq_true rfl) ?_
  refine w_seq fun K1 hK1 => ?_
  refine w_region ?_
  refine wl_val (g_assign (v := .slice none 0 0) rfl) rfl ?_
  refine wl_nil ?_
  refine hK1 _ _ ?_
  refine w_seq fun K2 hK2 => ?_
  refine w_region ?_
  refine wl_val (g_move (v := .slice a0 n0 c0) rfl) rfl ?_
  refine wl_val (q_len SL22 rfl (Tv.len (hp0.bel hB0))) rfl ?_
  obtain ⟨hg3, hm⟩ := hm
  refine wl_step rfl (q_make (y := ((none, 0, []) : Hd Int)) SL22 rfl rfl hg3.1 hg3.2 (by decide) hS0) ?_
  rintro _ w4 ⟨a5, rfl, hS7, hE6⟩
  have hB9 := hB0.trans (Ext.stp hE6 hS0.base)
  have hS10 := hS7.nilRows (y := ((none, 0, []) : Hd Int)) (E := 3) (fun j hj => by first | rfl | (show (if j = 0 then _ else _) = _; split <;> rfl)) (Int.toNat (p0.length : Int))
  have he12 : ers (List.replicate (Int.toNat (p0.length : Int)) ((none, 0, []) : Hd Int)) = List.replicate (Int.toNat (p0.length : Int)) ([] : List Int) := by simp only [ers, List.map_replicate]; rfl
  refine wl_val (g_assign (v := .slice a5 (Int.toNat (p0.length : Int)) (Int.toNat (p0.length : Int))) rfl) rfl ?_
  refine wl_nil ?_
  refine hK2 _ _ ?_
  refine w_cut (σ := List (List Int) × List (Hd Int)) (fun ⟨x100, y101⟩ => [(3, .slice a5 (Int.toNat (p0.length : Int)) (Int.toNat (p0.length : Int)))]) (fun ⟨x100, y101⟩ w' => m_laws_toIntSS_K0 Q x100 ∧ ers y101 = x100 ∧ Below w.heap.size w w' ∧ Sep w' w.heap.size [oS 35 a5 (Int.toNat (p0.length : Int)) (Int.toNat (p0.length : Int)) (y101 : List (Hd Int)), oT 3 (y101 : List (Hd Int))]) ?_ ?_
  · refine w_seq fun K104 hK104 => ?_
    refine w_region ?_
    refine wl_val (g_assign (v := .int .i64 0) rfl) rfl ?_
    refine wl_nil ?_
    refine hK104 _ _ ?_
    refine w_block ?_
    have hS109 := hS10.f1
    obtain ⟨I110, μ111, h0112, hr113⟩ := hm
    refine w_for (σ := List (List Int) × List (Hd Int) × Int) (fun ⟨x105, y106, v108⟩ => [(0, .slice a0 n0 c0), (3, .slice a5 (Int.toNat (p0.length : Int)) (Int.toNat (p0.length : Int))), (4, .int .i64 v108)]) (fun ⟨x105, y106, v108⟩ w' => I110 x105 v108 ∧ ers y106 = x105 ∧ Below w.heap.size w w' ∧ Sep w' w.heap.size [oS 35 a5 (Int.toNat (p0.length : Int)) (Int.toNat (p0.length : Int)) (y106 : List (Hd Int)), oT 3 (y106 : List (Hd Int))]) (fun ⟨x105, y106, v108⟩ => μ111 x105 v108) (List.replicate (Int.toNat (p0.length : Int)) ([] : List Int), List.replicate (Int.toNat (p0.length : Int)) ((none, 0, []) : Hd Int), 0) ⟨rfl, rfl, rfl, trivial⟩ ⟨h0112, he12, hB9, hS109⟩ ?_
    rintro ⟨x105, y106, v108⟩ b_ w114 ⟨hi_, he107, hB115, hS116⟩
    show Wp _ _ _ _ (upds b_ [(0, .slice a0 n0 c0), (3, .slice a5 (Int.toNat (p0.length : Int)) (Int.toNat (p0.length : Int))), (4, .int .i64 v108)]) w114
    have hm := hr113 x105 v108 hi_
    refine w_seq fun K118 hK118 => ?_
    refine w_seq fun K119 hK119 => ?_
    refine w_region ?_
    refine wl_val (g_move (v := .int .i64 v108) rfl) rfl ?_
    refine wl_val (g_move (v := .slice a0 n0 c0) rfl) rfl ?_
    refine wl_val (q_len SL22 rfl (Tv.len (hp0.bel hB115))) rfl ?_
    refine wl_val (g_lss (a := v108) (b := (p0.length : Int)) rfl rfl) rfl ?_
    refine wl_nil ?_
    refine hK119 _ _ ?_
    refine w_condI (p := v108 < (p0.length : Int)) (b := (decide (v108 < (p0.length : Int)))) rfl decide_eq_true_iff (fun h120 => ?_) (fun h120 => ?_)
    · replace hm := hm.1 h120
      refine w_skip ?_
      refine hK118 _ _ ?_
      refine w_seq fun K121 hK121 => ?_
      refine w_block ?_
      refine w_region ?_
      refine wl_val (g_move (v := .slice a5 (Int.toNat (p0.length : Int)) (Int.toNat (p0.length : Int))) rfl) rfl ?_
      refine wl_val (g_move (v := .int .i64 v108) rfl) rfl ?_
      refine wl_val (g_move (v := .slice a0 n0 c0) rfl) rfl ?_
      refine wl_val (g_move (v := .int .i64 v108) rfl) rfl ?_
      obtain ⟨hg122, hm⟩ := hm
      refine wl_val (q_index (i := v108) SL22 rfl rfl (Tv.o (hp0.bel hB115)) (Tv.g (hp0.bel hB115) hg122)) rfl ?_
      refine wl_val (q_load (i := v108) (v := .slice ((y0[(Int.toNat v108)]!).1) ((y0[(Int.toNat v108)]!).2.2.length) ((y0[(Int.toNat v108)]!).2.1)) ON35 (Tv.o (hp0.bel hB115)) (Tv.g (hp0.bel hB115) hg122) rfl rfl) rfl ?_
      refine wl_step rfl (g_call (vs := #[.slice ((y0[(Int.toNat v108)]!).1) ((y0[(Int.toNat v108)]!).2.2.length) ((y0[(Int.toNat v108)]!).2.1)]) CF29 (args1 rfl) (m_laws_toIntS_fn ((Tv.row (hp0.bel hB115) hg122).up hS116) hm)) ?_
      rintro _ w123 ⟨r126, a127, n128, c129, hm, rfl, hE124, hN125⟩
      have hS131 := hS116.call1 hE124 hN125
      have hB132 := hB115.trans (Ext.stp hE124 hS116.base)
      obtain ⟨hg133, hm⟩ := hm
      refine wl_val (q_index (i := v108) SL22 rfl rfl (Tv.o (oT.vw hS131.g1 hS131.g2 he107)) (Tv.g (oT.vw hS131.g1 hS131.g2 he107) hg133)) rfl ?_
      have hn138 := oS.len hS131.g0
      have hS139 := hS131.oneRow
      have he137 : ers [((a127, c129, r126) : Hd Int)] = [r126] := rfl
      have hS141 := hS139.f2
      have hS142 := hS141.f2
      have hS143 := hS142.f2
      refine wl_step rfl (q_setT (i := v108) hS143 he107 hg133 ON35.sz rfl rfl (hd_cells hn138)) ?_
      rintro _ w134 ⟨rfl, y144, he145, hS135, hb136⟩
      have he146 := he145.trans (congrArg (List.set _ _) (ers_one he137))
      have hB147 := hB132.trans hb136
      refine wl_nil ?_
      refine hK121 _ _ ?_
      refine w_region ?_
      refine wl_val (g_move (v := .int .i64 v108) rfl) rfl ?_
      obtain ⟨hg148, hm⟩ := hm
      refine wl_val (g_add (a := v108) (b := 1) rfl rfl hg148) rfl ?_
      refine wl_val (g_assign (v := .int .i64 (v108 + 1)) rfl) rfl ?_
      refine wl_nil ?_
      exact ⟨((x105.set (Int.toNat v108) r126), y144, (v108 + 1)), hm.2, ⟨rfl, rfl, rfl, trivial⟩, ⟨hm.1, he146, hB147, hS135⟩⟩
    · replace hm := hm.2 h120
      refine w_exit ?_
      exact ⟨(x105, y106), ⟨rfl, trivial⟩, ⟨hm, he107, hB115, hS116⟩⟩
  · rintro ⟨x100, y101⟩ b_ w149 ⟨hm, he102, hB150, hS151⟩
    show Wp _ _ _ _ (upds b_ [(3, .slice a5 (Int.toNat (p0.length : Int)) (Int.toNat (p0.length : Int)))]) w149
    refine w_seq fun K152 hK152 => ?_
    refine w_region ?_
    refine wl_val (g_move (v := .slice a5 (Int.toNat (p0.length : Int)) (Int.toNat (p0.length : Int))) rfl) rfl ?_
    refine wl_val (g_assign (v := .slice a5 (Int.toNat (p0.length : Int)) (Int.toNat (p0.length : Int))) rfl) rfl ?_
    refine wl_nil ?_
    refine hK152 _ _ ?_
    refine w_ret ?_
    repeat first | with_reducible refine q_then ?_ | with_reducible refine q_block ?_
    exact ret1 rfl (by decide) ⟨_, _, _, _, _, hm, he102, rfl, toExt hB150, hS151⟩

theorem m_spec_ChangesBetween_fn {w : World} {a0 : Option Addr} {n0 c0 : Nat} {p0 : List Int} {a1 : Option Addr} {n1 c1 : Nat} {p1 : List Int} {a2 : Option Addr} {n2 c2 : Nat} {p2 : List Int} {a3 : Option Addr} {n3 c3 : Nat} {p3 : List Int} {Q : Int → Prop} (hp0 : Vw w.heap.size w a0 n0 c0 p0) (hp1 : Vw w.heap.size w a1 n1 c1 p1) (hp2 : Vw w.heap.size w a2 n2 c2 p2) (hp3 : Vw w.heap.size w a3 n3 c3 p3) (hm : m_spec_ChangesBetween p0 p1 p2 p3 Q) :
    Fn Try.prog 55 #[.slice a0 n0 c0, .slice a1 n1 c1, .slice a2 n2 c2, .slice a3 n3 c3] w (fun v w' => ∃ (r0 : Int), Q r0 ∧ v = .int .i64 r0 ∧ Ext w w') := by
  unfold m_spec_ChangesBetween at hm
  have hB0 := Below.refl w.heap.size w
  have hS0 : Sep w w.heap.size [] := Sep.nil (Nat.le_refl _)
  refine fn_of_wp Try.func55 rfl (by kernel_rfl) (Nat.le_of_ble_eq_true rfl) ?_
  refine w_seq fun K1 hK1 => ?_
  refine w_region ?_
  refine wl_val (g_assign (v := .int .i64 0) rfl) rfl ?_
  refine wl_nil ?_
  refine hK1 _ _ ?_
  refine w_seq fun K2 hK2 => ?_
  refine w_seq fun K3 hK3 => ?_
  refine w_region ?_
  refine wl_val (g_move (v := .slice a0 n0 c0) rfl) rfl ?_
  refine wl_val (q_len SL35 rfl (Vw.len (hp0.bel hB0))) rfl ?_
  refine wl_val (g_move (v := .slice a1 n1 c1) rfl) rfl ?_
  refine wl_val (q_len SL35 rfl (Vw.len (hp1.bel hB0))) rfl ?_
  refine wl_val (g_neq (a := (p0.length : Int)) (b := (p1.length : Int)) rfl rfl) rfl ?_
  refine wl_val (g_move (v := .bool (decide ((p0.length : Int) ≠ (p1.length : Int)))) rfl) rfl ?_
  refine wl_guard (c := (decide ((p0.length : Int) ≠ (p1.length : Int))) = false) (val := .slice a2 n2 c2) (b := ((decide ((p0.length : Int) ≠ (p1.length : Int))) == false)) (gv_some rfl rfl rfl) beq_iff_eq (fun hc4 => ?_) ?_
  · have hq0 : ¬ ((p0.length : Int) ≠ (p1.length : Int)) := (i_neg decide_eq_true_iff hc4)
    exact g_move (v := .slice a2 n2 c2) rfl
  refine wl_guard (c := (decide ((p0.length : Int) ≠ (p1.length : Int))) = false) (val := .int .i64 (p2.length : Int)) (b := ((decide ((p0.length : Int) ≠ (p1.length : Int))) == false)) (gv_some rfl rfl rfl) beq_iff_eq (fun hc5 => ?_) ?_
  · have hq0 : ¬ ((p0.length : Int) ≠ (p1.length : Int)) := (i_neg decide_eq_true_iff hc5)
    exact q_len SL35 (if_pos hc5) (Vw.len (hp2.bel hB0))
  refine wl_guard (c := (decide ((p0.length : Int) ≠ (p1.length : Int))) = false) (val := .slice a3 n3 c3) (b := ((decide ((p0.length : Int) ≠ (p1.length : Int))) == false)) (gv_some rfl rfl rfl) beq_iff_eq (fun hc6 => ?_) ?_
  · have hq0 : ¬ ((p0.length : Int) ≠ (p1.length : Int)) := (i_neg decide_eq_true_iff hc6)
    exact g_move (v := .slice a3 n3 c3) rfl
  refine wl_guard (c := (decide ((p0.length : Int) ≠ (p1.length : Int))) = false) (val := .int .i64 (p3.length : Int)) (b := ((decide ((p0.length : Int) ≠ (p1.length : Int))) == false)) (gv_some rfl rfl rfl) beq_iff_eq (fun hc7 => ?_) ?_
  · have hq0 : ¬ ((p0.length : Int) ≠ (p1.length : Int)) := (i_neg decide_eq_true_iff hc7)
    exact q_len SL35 (if_pos hc7) (Vw.len (hp3.bel hB0))
  refine wl_guard (c := (decide ((p0.length : Int) ≠ (p1.length : Int))) = false) (val := .bool (decide ((p2.length : Int) ≠ (p3.length : Int)))) (b := ((decide ((p0.length : Int) ≠ (p1.length : Int))) == false)) (gv_some rfl rfl rfl) beq_iff_eq (fun hc8 => ?_) ?_
  · have hq0 : ¬ ((p0.length : Int) ≠ (p1.length : Int)) := (i_neg decide_eq_true_iff hc8)
    exact g_neq (a := (p2.length : Int)) (b := (p3.length : Int)) (if_pos hc8) (if_pos hc8)
  refine wl_val (g_pick_or (b := (decide ((p0.length : Int) ≠ (p1.length : Int)))) (q := (decide ((p2.length : Int) ≠ (p3.length : Int)))) rfl rfl) rfl ?_
  refine wl_nil ?_
  refine hK3 _ _ ?_
  refine w_condI (p := (((p0.length : Int) ≠ (p1.length : Int)) ∨ ((p2.length : Int) ≠ (p3.length : Int)))) (b := ((decide ((p0.length : Int) ≠ (p1.length : Int))) || (decide ((p2.length : Int) ≠ (p3.length : Int))))) rfl (i_or decide_eq_true_iff decide_eq_true_iff) (fun h9 => ?_) (fun h9 => ?_)
  · replace hm := hm.1 h9
    refine w_seq fun K10 hK10 => ?_
    refine w_region ?_
    refine wl_val (g_assign (v := .int .i64 (-1)) rfl) rfl ?_
    refine wl_nil ?_
    refine hK10 _ _ ?_
    refine w_ret ?_
    repeat first | with_reducible refine q_then ?_ | with_reducible refine q_block ?_
    exact ret1 rfl (by decide) ⟨_, hm, rfl, toExt hB0⟩
  · replace hm := hm.2 h9
    refine w_skip ?_
    refine hK2 _ _ ?_
    refine w_seq fun K11 hK11 => ?_
    refine w_region ?_
    refine wl_val (g_assign (v := .int .i64 0) rfl) rfl ?_
    refine wl_nil ?_
    refine hK11 _ _ ?_
    refine w_cut (σ := Int) (fun v531 => [(9, .int .i64 v531)]) (fun v531 w' => m_spec_ChangesBetween_K1 Q v531 ∧ Below w.heap.size w w' ∧ Sep w' w.heap.size []) ?_ ?_
    · refine w_seq fun K533 hK533 => ?_
      refine w_region ?_
      refine wl_val (g_assign (v := .int .i64 0) rfl) rfl ?_
      refine wl_nil ?_
      refine hK533 _ _ ?_
      refine w_block ?_
      obtain ⟨I536, μ537, h0538, hr539⟩ := hm
      refine w_for (σ := Int × Int) (fun ⟨v534, v535⟩ => [(0, .slice a0 n0 c0), (1, .slice a1 n1 c1), (2, .slice a2 n2 c2), (3, .slice a3 n3 c3), (9, .int .i64 v534), (10, .int .i64 v535)]) (fun ⟨v534, v535⟩ w' => I536 v534 v535 ∧ Below w.heap.size w w' ∧ Sep w' w.heap.size []) (fun ⟨v534, v535⟩ => μ537 v534 v535) (0, 0) ⟨rfl, rfl, rfl, rfl, rfl, rfl, trivial⟩ ⟨h0538, hB0, hS0⟩ ?_
      rintro ⟨v534, v535⟩ b_ w540 ⟨hi_, hB541, hS542⟩
      show Wp _ _ _ _ (upds b_ [(0, .slice a0 n0 c0), (1, .slice a1 n1 c1), (2, .slice a2 n2 c2), (3, .slice a3 n3 c3), (9, .int .i64 v534), (10, .int .i64 v535)]) w540
      have hm := hr539 v534 v535 hi_
      refine w_seq fun K544 hK544 => ?_
      refine w_seq fun K545 hK545 => ?_
      refine w_region ?_
      refine wl_val (g_move (v := .int .i64 v535) rfl) rfl ?_
      refine wl_val (g_move (v := .slice a0 n0 c0) rfl) rfl ?_
      refine wl_val (q_len SL35 rfl (Vw.len (hp0.bel hB541))) rfl ?_
      refine wl_val (g_lss (a := v535) (b := (p0.length : Int)) rfl rfl) rfl ?_
      refine wl_nil ?_
      refine hK545 _ _ ?_
      refine w_condI (p := v535 < (p0.length : Int)) (b := (decide (v535 < (p0.length : Int)))) rfl decide_eq_true_iff (fun h546 => ?_) (fun h546 => ?_)
      · replace hm := hm.1 h546
        refine w_skip ?_
        refine hK544 _ _ ?_
        refine w_cut (σ := Int) (fun v547 => [(0, .slice a0 n0 c0), (1, .slice a1 n1 c1), (2, .slice a2 n2 c2), (3, .slice a3 n3 c3), (9, .int .i64 v547), (10, .int .i64 v535)]) (fun v547 w' => m_spec_ChangesBetween_K0 v535 (fun v534' v535' => I536 v534' v535' ∧ μ537 v534' v535' < μ537 v534 v535) v547 ∧ Below w.heap.size w w' ∧ Sep w' w.heap.size []) ?_ ?_
        · refine w_block ?_
          refine w_seq fun K549 hK549 => ?_
          refine w_region ?_
          refine wl_val (g_assign (v := .int .i64 0) rfl) rfl ?_
          refine wl_nil ?_
          refine hK549 _ _ ?_
          refine w_block ?_
          obtain ⟨I552, μ553, h0554, hr555⟩ := hm
          refine w_for (σ := Int × Int) (fun ⟨v550, v551⟩ => [(0, .slice a0 n0 c0), (1, .slice a1 n1 c1), (2, .slice a2 n2 c2), (3, .slice a3 n3 c3), (9, .int .i64 v550), (10, .int .i64 v535), (11, .int .i64 v551)]) (fun ⟨v550, v551⟩ w' => I552 v550 v551 ∧ Below w.heap.size w w' ∧ Sep w' w.heap.size []) (fun ⟨v550, v551⟩ => μ553 v550 v551) (v534, 0) ⟨rfl, rfl, rfl, rfl, rfl, rfl, rfl, trivial⟩ ⟨h0554, hB541, hS542⟩ ?_
          rintro ⟨v550, v551⟩ b_ w556 ⟨hi_, hB557, hS558⟩
          show Wp _ _ _ _ (upds b_ [(0, .slice a0 n0 c0), (1, .slice a1 n1 c1), (2, .slice a2 n2 c2), (3, .slice a3 n3 c3), (9, .int .i64 v550), (10, .int .i64 v535), (11, .int .i64 v551)]) w556
          have hm := hr555 v550 v551 hi_
          refine w_seq fun K560 hK560 => ?_
          refine w_seq fun K561 hK561 => ?_
          refine w_region ?_
          refine wl_val (g_move (v := .int .i64 v551) rfl) rfl ?_
          refine wl_val (g_move (v := .slice a2 n2 c2) rfl) rfl ?_
          refine wl_val (q_len SL35 rfl (Vw.len (hp2.bel hB557))) rfl ?_
          refine wl_val (g_lss (a := v551) (b := (p2.length : Int)) rfl rfl) rfl ?_
          refine wl_nil ?_
          refine hK561 _ _ ?_
          refine w_condI (p := v551 < (p2.length : Int)) (b := (decide (v551 < (p2.length : Int)))) rfl decide_eq_true_iff (fun h562 => ?_) (fun h562 => ?_)
          · replace hm := hm.1 h562
            refine w_skip ?_
            refine hK560 _ _ ?_
            refine w_seq fun K563 hK563 => ?_
            refine w_block ?_
            refine w_seq fun K564 hK564 => ?_
            refine w_draw (X := Ext) (Y := Ext) [] MIX (by decide +kernel) rfl Ext.refl (fun _ _ _ => Ext.trans) (fun _ _ _ => Chg.trans) (fun _ _ h => Ext.chg h _) (fun w565 hE566 => ?_)
            have hB567 := hB557.trans (Ext.stp hE566 hS558.base)
            have hS568 := hS558.ext hE566
            refine ⟨.slice a0 n0 c0, fun w569 hX570 => od_plain rfl (by have hS571 := hS568.ext hX570; have hB572 := hB567.trans (Ext.stp hX570 hS568.base); exact is_ext (g_move (v := .slice a0 n0 c0) rfl)), ?_⟩
            refine ⟨.int .i64 v535, fun w573 hX574 => od_plain rfl (by have hS575 := hS568.ext hX574; have hB576 := hB567.trans (Ext.stp hX574 hS568.base); exact is_ext (g_move (v := .int .i64 v535) rfl)), ?_⟩
            obtain ⟨hg581, hm⟩ := hm
            refine ⟨.pointer (some ((adr a0).add ((Int.toNat v535) * El.m Int))), fun w577 hX578 => od_plain rfl (by have hS579 := hS568.ext hX578; have hB580 := hB567.trans (Ext.stp hX578 hS568.base); exact is_ext (q_index (i := v535) SL35 rfl rfl (hp0.bel hB580) hg581)), ?_⟩
            refine ⟨.int .i64 (p0[(Int.toNat v535)]!), fun w582 hX583 => od_plain rfl (by have hS584 := hS568.ext hX583; have hB585 := hB567.trans (Ext.stp hX583 hS568.base); exact is_ext (q_load (i := v535) (v := .int .i64 (p0[(Int.toNat v535)]!)) ON3 (hp0.bel hB585) hg581 rfl rfl)), ?_⟩
            refine ⟨.slice a2 n2 c2, fun w586 hX587 => od_plain rfl (by have hS588 := hS568.ext hX587; have hB589 := hB567.trans (Ext.stp hX587 hS568.base); exact is_ext (g_move (v := .slice a2 n2 c2) rfl)), ?_⟩
            refine ⟨.int .i64 v551, fun w590 hX591 => od_plain rfl (by have hS592 := hS568.ext hX591; have hB593 := hB567.trans (Ext.stp hX591 hS568.base); exact is_ext (g_move (v := .int .i64 v551) rfl)), ?_⟩
            obtain ⟨hg598, hm⟩ := hm
            refine ⟨.pointer (some ((adr a2).add ((Int.toNat v551) * El.m Int))), fun w594 hX595 => od_plain rfl (by have hS596 := hS568.ext hX595; have hB597 := hB567.trans (Ext.stp hX595 hS568.base); exact is_ext (q_index (i := v551) SL35 rfl rfl (hp2.bel hB597) hg598)), ?_⟩
            refine ⟨.int .i64 (p2[(Int.toNat v551)]!), fun w599 hX600 => od_plain rfl (by have hS601 := hS568.ext hX600; have hB602 := hB567.trans (Ext.stp hX600 hS568.base); exact is_ext (q_load (i := v551) (v := .int .i64 (p2[(Int.toNat v551)]!)) ON3 (hp2.bel hB602) hg598 rfl rfl)), ?_⟩
            refine ⟨.bool (decide (p0[(Int.toNat v535)]! = p2[(Int.toNat v551)]!)), fun w603 hX604 => od_plain rfl (by have hS605 := hS568.ext hX604; have hB606 := hB567.trans (Ext.stp hX604 hS568.base); exact is_ext (g_eql (a := p0[(Int.toNat v535)]!) (b := p2[(Int.toNat v551)]!) rfl rfl)), ?_⟩
            refine ⟨.bool (decide (p0[(Int.toNat v535)]! = p2[(Int.toNat v551)]!)), fun w607 hX608 => od_plain rfl (by have hS609 := hS568.ext hX608; have hB610 := hB567.trans (Ext.stp hX608 hS568.base); exact is_ext (g_move (v := .bool (decide (p0[(Int.toNat v535)]! = p2[(Int.toNat v551)]!))) rfl)), ?_⟩
            refine ⟨if (decide (p0[(Int.toNat v535)]! = p2[(Int.toNat v551)]!)) = true then .slice a1 n1 c1 else undef, fun w611 hX612 => od_guard (c := (decide (p0[(Int.toNat v535)]! = p2[(Int.toNat v551)]!)) = true) (val := .slice a1 n1 c1) (b := ((decide (p0[(Int.toNat v535)]! = p2[(Int.toNat v551)]!)) == true)) (gv_some rfl rfl rfl) beq_iff_eq (fun hc615 => ?_), ?_⟩
            · have hS613 := hS568.ext hX612
              have hB614 := hB567.trans (Ext.stp hX612 hS568.base)
              have hq5 : p0[(Int.toNat v535)]! = p2[(Int.toNat v551)]! := (decide_eq_true_iff.mp hc615)
              exact is_ext (g_move (v := .slice a1 n1 c1) rfl)
            refine ⟨if (decide (p0[(Int.toNat v535)]! = p2[(Int.toNat v551)]!)) = true then .int .i64 v535 else undef, fun w616 hX617 => od_guard (c := (decide (p0[(Int.toNat v535)]! = p2[(Int.toNat v551)]!)) = true) (val := .int .i64 v535) (b := ((decide (p0[(Int.toNat v535)]! = p2[(Int.toNat v551)]!)) == true)) (gv_some rfl rfl rfl) beq_iff_eq (fun hc620 => ?_), ?_⟩
            · have hS618 := hS568.ext hX617
              have hB619 := hB567.trans (Ext.stp hX617 hS568.base)
              have hq5 : p0[(Int.toNat v535)]! = p2[(Int.toNat v551)]! := (decide_eq_true_iff.mp hc620)
              exact is_ext (g_move (v := .int .i64 v535) rfl)
            obtain ⟨hg626, hm⟩ := hm
            refine ⟨if (decide (p0[(Int.toNat v535)]! = p2[(Int.toNat v551)]!)) = true then .pointer (some ((adr a1).add ((Int.toNat v535) * El.m Int))) else undef, fun w621 hX622 => od_guard (c := (decide (p0[(Int.toNat v535)]! = p2[(Int.toNat v551)]!)) = true) (val := .pointer (some ((adr a1).add ((Int.toNat v535) * El.m Int)))) (b := ((decide (p0[(Int.toNat v535)]! = p2[(Int.toNat v551)]!)) == true)) (gv_some rfl rfl rfl) beq_iff_eq (fun hc625 => ?_), ?_⟩
            · have hS623 := hS568.ext hX622
              have hB624 := hB567.trans (Ext.stp hX622 hS568.base)
              have hq5 : p0[(Int.toNat v535)]! = p2[(Int.toNat v551)]! := (decide_eq_true_iff.mp hc625)
              exact is_ext (q_index (i := v535) SL35 (if_pos hc625) (if_pos hc625) (hp1.bel hB624) (hg626 hq5))
            refine ⟨if (decide (p0[(Int.toNat v535)]! = p2[(Int.toNat v551)]!)) = true then .int .i64 (p1[(Int.toNat v535)]!) else undef, fun w627 hX628 => od_guard (c := (decide (p0[(Int.toNat v535)]! = p2[(Int.toNat v551)]!)) = true) (val := .int .i64 (p1[(Int.toNat v535)]!)) (b := ((decide (p0[(Int.toNat v535)]! = p2[(Int.toNat v551)]!)) == true)) (gv_some rfl rfl rfl) beq_iff_eq (fun hc631 => ?_), ?_⟩
            · have hS629 := hS568.ext hX628
              have hB630 := hB567.trans (Ext.stp hX628 hS568.base)
              have hq5 : p0[(Int.toNat v535)]! = p2[(Int.toNat v551)]! := (decide_eq_true_iff.mp hc631)
              exact is_ext (q_load (i := v535) (v := .int .i64 (p1[(Int.toNat v535)]!)) ON3 (hp1.bel hB630) (hg626 hq5) rfl (if_pos hc631))
            refine ⟨if (decide (p0[(Int.toNat v535)]! = p2[(Int.toNat v551)]!)) = true then .slice a3 n3 c3 else undef, fun w632 hX633 => od_guard (c := (decide (p0[(Int.toNat v535)]! = p2[(Int.toNat v551)]!)) = true) (val := .slice a3 n3 c3) (b := ((decide (p0[(Int.toNat v535)]! = p2[(Int.toNat v551)]!)) == true)) (gv_some rfl rfl rfl) beq_iff_eq (fun hc636 => ?_), ?_⟩
            · have hS634 := hS568.ext hX633
              have hB635 := hB567.trans (Ext.stp hX633 hS568.base)
              have hq5 : p0[(Int.toNat v535)]! = p2[(Int.toNat v551)]! := (decide_eq_true_iff.mp hc636)
              exact is_ext (g_move (v := .slice a3 n3 c3) rfl)
            refine ⟨if (decide (p0[(Int.toNat v535)]! = p2[(Int.toNat v551)]!)) = true then .int .i64 v551 else undef, fun w637 hX638 => od_guard (c := (decide (p0[(Int.toNat v535)]! = p2[(Int.toNat v551)]!)) = true) (val := .int .i64 v551) (b := ((decide (p0[(Int.toNat v535)]! = p2[(Int.toNat v551)]!)) == true)) (gv_some rfl rfl rfl) beq_iff_eq (fun hc641 => ?_), ?_⟩
            · have hS639 := hS568.ext hX638
              have hB640 := hB567.trans (Ext.stp hX638 hS568.base)
              have hq5 : p0[(Int.toNat v535)]! = p2[(Int.toNat v551)]! := (decide_eq_true_iff.mp hc641)
              exact is_ext (g_move (v := .int .i64 v551) rfl)
            obtain ⟨hg647, hm⟩ := hm
            refine ⟨if (decide (p0[(Int.toNat v535)]! = p2[(Int.toNat v551)]!)) = true then .pointer (some ((adr a3).add ((Int.toNat v551) * El.m Int))) else undef, fun w642 hX643 => od_guard (c := (decide (p0[(Int.toNat v535)]! = p2[(Int.toNat v551)]!)) = true) (val := .pointer (some ((adr a3).add ((Int.toNat v551) * El.m Int)))) (b := ((decide (p0[(Int.toNat v535)]! = p2[(Int.toNat v551)]!)) == true)) (gv_some rfl rfl rfl) beq_iff_eq (fun hc646 => ?_), ?_⟩
            · have hS644 := hS568.ext hX643
              have hB645 := hB567.trans (Ext.stp hX643 hS568.base)
              have hq5 : p0[(Int.toNat v535)]! = p2[(Int.toNat v551)]! := (decide_eq_true_iff.mp hc646)
              exact is_ext (q_index (i := v551) SL35 (if_pos hc646) (if_pos hc646) (hp3.bel hB645) (hg647 hq5))
            refine ⟨if (decide (p0[(Int.toNat v535)]! = p2[(Int.toNat v551)]!)) = true then .int .i64 (p3[(Int.toNat v551)]!) else undef, fun w648 hX649 => od_guard (c := (decide (p0[(Int.toNat v535)]! = p2[(Int.toNat v551)]!)) = true) (val := .int .i64 (p3[(Int.toNat v551)]!)) (b := ((decide (p0[(Int.toNat v535)]! = p2[(Int.toNat v551)]!)) == true)) (gv_some rfl rfl rfl) beq_iff_eq (fun hc652 => ?_), ?_⟩
            · have hS650 := hS568.ext hX649
              have hB651 := hB567.trans (Ext.stp hX649 hS568.base)
              have hq5 : p0[(Int.toNat v535)]! = p2[(Int.toNat v551)]! := (decide_eq_true_iff.mp hc652)
              exact is_ext (q_load (i := v551) (v := .int .i64 (p3[(Int.toNat v551)]!)) ON3 (hp3.bel hB651) (hg647 hq5) rfl (if_pos hc652))
            refine ⟨if (decide (p0[(Int.toNat v535)]! = p2[(Int.toNat v551)]!)) = true then .bool (decide (p1[(Int.toNat v535)]! ≠ p3[(Int.toNat v551)]!)) else undef, fun w653 hX654 => od_guard (c := (decide (p0[(Int.toNat v535)]! = p2[(Int.toNat v551)]!)) = true) (val := .bool (decide (p1[(Int.toNat v535)]! ≠ p3[(Int.toNat v551)]!))) (b := ((decide (p0[(Int.toNat v535)]! = p2[(Int.toNat v551)]!)) == true)) (gv_some rfl rfl rfl) beq_iff_eq (fun hc657 => ?_), ?_⟩
            · have hS655 := hS568.ext hX654
              have hB656 := hB567.trans (Ext.stp hX654 hS568.base)
              have hq5 : p0[(Int.toNat v535)]! = p2[(Int.toNat v551)]! := (decide_eq_true_iff.mp hc657)
              exact is_ext (g_neq (a := p1[(Int.toNat v535)]!) (b := p3[(Int.toNat v551)]!) (if_pos hc657) (if_pos hc657))
            refine ⟨.bool ((decide (p0[(Int.toNat v535)]! = p2[(Int.toNat v551)]!)) && (decide (p1[(Int.toNat v535)]! ≠ p3[(Int.toNat v551)]!))), fun w658 hX659 => od_plain rfl (by have hS660 := hS568.ext hX659; have hB661 := hB567.trans (Ext.stp hX659 hS568.base); exact is_ext (g_pick_and (b := (decide (p0[(Int.toNat v535)]! = p2[(Int.toNat v551)]!))) (q := (decide (p1[(Int.toNat v535)]! ≠ p3[(Int.toNat v551)]!))) rfl rfl)), ?_⟩
            intro w662 hX663
            have hB664 := hB567.trans (Ext.stp hX663 hS568.base)
            have hS665 := hS568.ext hX663
            refine hK564 _ _ ?_
            refine w_condI (p := ((p0[(Int.toNat v535)]! = p2[(Int.toNat v551)]!) ∧ (p1[(Int.toNat v535)]! ≠ p3[(Int.toNat v551)]!))) (b := ((decide (p0[(Int.toNat v535)]! = p2[(Int.toNat v551)]!)) && (decide (p1[(Int.toNat v535)]! ≠ p3[(Int.toNat v551)]!)))) rfl (i_and decide_eq_true_iff decide_eq_true_iff) (fun h666 => ?_) (fun h666 => ?_)
            · replace hm := hm.1 h666
              refine w_region ?_
              refine wl_val (g_move (v := .int .i64 v550) rfl) rfl ?_
              obtain ⟨hg667, hm⟩ := hm
              refine wl_val (g_add (a := v550) (b := 1) rfl rfl hg667) rfl ?_
              refine wl_val (g_assign (v := .int .i64 (v550 + 1)) rfl) rfl ?_
              refine wl_nil ?_
              refine hK563 _ _ ?_
              refine w_region ?_
              refine wl_val (g_move (v := .int .i64 v551) rfl) rfl ?_
              obtain ⟨hg668, hm⟩ := hm
              refine wl_val (g_add (a := v551) (b := 1) rfl rfl hg668) rfl ?_
              refine wl_val (g_assign (v := .int .i64 (v551 + 1)) rfl) rfl ?_
              refine wl_nil ?_
              exact ⟨((v550 + 1), (v551 + 1)), hm.2, ⟨rfl, rfl, rfl, rfl, rfl, rfl, rfl, trivial⟩, ⟨hm.1, hB664, hS665⟩⟩
            · replace hm := hm.2 h666
              refine w_skip ?_
              refine hK563 _ _ ?_
              refine w_region ?_
              refine wl_val (g_move (v := .int .i64 v551) rfl) rfl ?_
              obtain ⟨hg669, hm⟩ := hm
              refine wl_val (g_add (a := v551) (b := 1) rfl rfl hg669) rfl ?_
              refine wl_val (g_assign (v := .int .i64 (v551 + 1)) rfl) rfl ?_
              refine wl_nil ?_
              exact ⟨(v550, (v551 + 1)), hm.2, ⟨rfl, rfl, rfl, rfl, rfl, rfl, rfl, trivial⟩, ⟨hm.1, hB664, hS665⟩⟩
          · replace hm := hm.2 h562
            refine w_exit ?_
            exact ⟨(v550), ⟨rfl, rfl, rfl, rfl, rfl, rfl, trivial⟩, ⟨hm, hB557, hS558⟩⟩
        · rintro v547 b_ w670 ⟨hm, hB671, hS672⟩
          show Wp _ _ _ _ (upds b_ [(0, .slice a0 n0 c0), (1, .slice a1 n1 c1), (2, .slice a2 n2 c2), (3, .slice a3 n3 c3), (9, .int .i64 v547), (10, .int .i64 v535)]) w670
          refine w_region ?_
          refine wl_val (g_move (v := .int .i64 v535) rfl) rfl ?_
          obtain ⟨hg673, hm⟩ := hm
          refine wl_val (g_add (a := v535) (b := 1) rfl rfl hg673) rfl ?_
          refine wl_val (g_assign (v := .int .i64 (v535 + 1)) rfl) rfl ?_
          refine wl_nil ?_
          exact ⟨(v547, (v535 + 1)), hm.2, ⟨rfl, rfl, rfl, rfl, rfl, rfl, trivial⟩, ⟨hm.1, hB671, hS672⟩⟩
      · replace hm := hm.2 h546
        refine w_exit ?_
        exact ⟨(v534), ⟨rfl, trivial⟩, ⟨hm, hB541, hS542⟩⟩
    · rintro v531 b_ w674 ⟨hm, hB675, hS676⟩
      show Wp _ _ _ _ (upds b_ [(9, .int .i64 v531)]) w674
      refine w_seq fun K677 hK677 => ?_
      refine w_region ?_
      refine wl_val (g_move (v := .int .i64 v531) rfl) rfl ?_
      refine wl_val (g_assign (v := .int .i64 v531) rfl) rfl ?_
      refine wl_nil ?_
      refine hK677 _ _ ?_
      refine w_ret ?_
      repeat first | with_reducible refine q_then ?_ | with_reducible refine q_block ?_
      exact ret1 rfl (by decide) ⟨_, hm, rfl, toExt hB675⟩

theorem m_spec_CountChanges_fn {w : World} {a0 : Option Addr} {n0 c0 : Nat} {y0 : List (Hd Int)} {p0 : List (List Int)} {a1 : Option Addr} {n1 c1 : Nat} {y1 : List (Hd Int)} {p1 : List (List Int)} {Q : Int → Prop} (hp0 : Tv w.heap.size w a0 n0 c0 y0 p0) (hp1 : Tv w.heap.size w a1 n1 c1 y1 p1) (hm : m_spec_CountChanges p0 p1 Q) :
    Fn Try.prog 17 #[.slice a0 n0 c0, .slice a1 n1 c1] w (fun v w' => ∃ (r0 : Int), Q r0 ∧ v = .int .i64 r0 ∧ Ext w w') := by
  unfold m_spec_CountChanges at hm
  have hB0 := Below.refl w.heap.size w
  have hS0 : Sep w w.heap.size [] := Sep.nil (Nat.le_refl _)
  refine fn_of_wp Try.func17 rfl (by kernel_rfl) (Nat.le_of_ble_eq_true rfl) ?_
  refine w_seq fun K1 hK1 => ?_
  refine w_region ?_
  refine wl_val (g_assign (v := .int .i64 0) rfl) rfl ?_
  refine wl_nil ?_
  refine hK1 _ _ ?_
  refine w_seq fun K2 hK2 => ?_
  refine w_seq fun K3 hK3 => ?_
  refine w_region ?_
  refine wl_val (g_move (v := .slice a0 n0 c0) rfl) rfl ?_
  refine wl_val (q_len SL22 rfl (Tv.len (hp0.bel hB0))) rfl ?_
  refine wl_val (g_move (v := .slice a1 n1 c1) rfl) rfl ?_
  refine wl_val (q_len SL22 rfl (Tv.len (hp1.bel hB0))) rfl ?_
  refine wl_val (g_neq (a := (p0.length : Int)) (b := (p1.length : Int)) rfl rfl) rfl ?_
  refine wl_nil ?_
  refine hK3 _ _ ?_
  refine w_condI (p := (p0.length : Int) ≠ (p1.length : Int)) (b := (decide ((p0.length : Int) ≠ (p1.length : Int)))) rfl decide_eq_true_iff (fun h4 => ?_) (fun h4 => ?_)
  · replace hm := hm.1 h4
    refine w_seq fun K5 hK5 => ?_
    refine w_region ?_
    refine wl_val (g_assign (v := .int .i64 (-1)) rfl) rfl ?_
    refine wl_nil ?_
    refine hK5 _ _ ?_
    refine w_ret ?_
    repeat first | with_reducible refine q_then ?_ | with_reducible refine q_block ?_
    exact ret1 rfl (by decide) ⟨_, hm, rfl, toExt hB0⟩
  · replace hm := hm.2 h4
    refine w_skip ?_
    refine hK2 _ _ ?_
    refine w_seq fun K6 hK6 => ?_
    refine w_region ?_
    refine wl_val (g_assign (v := .int .i64 0) rfl) rfl ?_
    refine wl_nil ?_
    refine hK6 _ _ ?_
    refine w_cut (σ := Int) (fun v241 => [(5, .int .i64 v241)]) (fun v241 w' => m_spec_CountChanges_K0 Q v241 ∧ Below w.heap.size w w' ∧ Sep w' w.heap.size []) ?_ ?_
    · refine w_seq fun K243 hK243 => ?_
      refine w_region ?_
      refine wl_val (g_assign (v := .int .i64 1) rfl) rfl ?_
      refine wl_nil ?_
      refine hK243 _ _ ?_
      refine w_block ?_
      obtain ⟨I246, μ247, h0248, hr249⟩ := hm
      refine w_for (σ := Int × Int) (fun ⟨v244, v245⟩ => [(0, .slice a0 n0 c0), (1, .slice a1 n1 c1), (5, .int .i64 v244), (6, .int .i64 v245)]) (fun ⟨v244, v245⟩ w' => I246 v244 v245 ∧ Below w.heap.size w w' ∧ Sep w' w.heap.size []) (fun ⟨v244, v245⟩ => μ247 v244 v245) (0, 1) ⟨rfl, rfl, rfl, rfl, trivial⟩ ⟨h0248, hB0, hS0⟩ ?_
      rintro ⟨v244, v245⟩ b_ w250 ⟨hi_, hB251, hS252⟩
      show Wp _ _ _ _ (upds b_ [(0, .slice a0 n0 c0), (1, .slice a1 n1 c1), (5, .int .i64 v244), (6, .int .i64 v245)]) w250
      have hm := hr249 v244 v245 hi_
      refine w_seq fun K254 hK254 => ?_
      refine w_seq fun K255 hK255 => ?_
      refine w_region ?_
      refine wl_val (g_move (v := .int .i64 v245) rfl) rfl ?_
      refine wl_val (g_move (v := .slice a0 n0 c0) rfl) rfl ?_
      refine wl_val (q_len SL22 rfl (Tv.len (hp0.bel hB251))) rfl ?_
      refine wl_val (g_lss (a := v245) (b := (p0.length : Int)) rfl rfl) rfl ?_
      refine wl_nil ?_
      refine hK255 _ _ ?_
      refine w_condI (p := v245 < (p0.length : Int)) (b := (decide (v245 < (p0.length : Int)))) rfl decide_eq_true_iff (fun h256 => ?_) (fun h256 => ?_)
      · replace hm := hm.1 h256
        refine w_skip ?_
        refine hK254 _ _ ?_
        refine w_seq fun K257 hK257 => ?_
        refine w_block ?_
        refine w_seq fun K258 hK258 => ?_
        refine w_draw (X := Ext) (Y := Ext) [] MIX (by decide +kernel) rfl Ext.refl (fun _ _ _ => Ext.trans) (fun _ _ _ => Chg.trans) (fun _ _ h => Ext.chg h _) (fun w259 hE260 => ?_)
        have hB261 := hB251.trans (Ext.stp hE260 hS252.base)
        have hS262 := hS252.ext hE260
        refine ⟨.slice a0 n0 c0, fun w263 hX264 => od_plain rfl (by have hS265 := hS262.ext hX264; have hB266 := hB261.trans (Ext.stp hX264 hS262.base); exact is_ext (g_move (v := .slice a0 n0 c0) rfl)), ?_⟩
        refine ⟨.int .i64 v245, fun w267 hX268 => od_plain rfl (by have hS269 := hS262.ext hX268; have hB270 := hB261.trans (Ext.stp hX268 hS262.base); exact is_ext (g_move (v := .int .i64 v245) rfl)), ?_⟩
        obtain ⟨hg275, hm⟩ := hm
        refine ⟨.int .i64 (v245 - 1), fun w271 hX272 => od_plain rfl (by have hS273 := hS262.ext hX272; have hB274 := hB261.trans (Ext.stp hX272 hS262.base); exact is_ext (g_sub (a := v245) (b := 1) rfl rfl hg275)), ?_⟩
        obtain ⟨hg280, hm⟩ := hm
        refine ⟨.pointer (some ((adr a0).add ((Int.toNat (v245 - 1)) * El.m (Hd Int)))), fun w276 hX277 => od_plain rfl (by have hS278 := hS262.ext hX277; have hB279 := hB261.trans (Ext.stp hX277 hS262.base); exact is_ext (q_index (i := (v245 - 1)) SL22 rfl rfl (Tv.o (hp0.bel hB279)) (Tv.g (hp0.bel hB279) hg280))), ?_⟩
        refine ⟨.slice ((y0[(Int.toNat (v245 - 1))]!).1) ((y0[(Int.toNat (v245 - 1))]!).2.2.length) ((y0[(Int.toNat (v245 - 1))]!).2.1), fun w281 hX282 => od_plain rfl (by have hS283 := hS262.ext hX282; have hB284 := hB261.trans (Ext.stp hX282 hS262.base); exact is_ext (q_load (i := (v245 - 1)) (v := .slice ((y0[(Int.toNat (v245 - 1))]!).1) ((y0[(Int.toNat (v245 - 1))]!).2.2.length) ((y0[(Int.toNat (v245 - 1))]!).2.1)) ON35 (Tv.o (hp0.bel hB284)) (Tv.g (hp0.bel hB284) hg280) rfl rfl)), ?_⟩
        refine ⟨.slice a1 n1 c1, fun w285 hX286 => od_plain rfl (by have hS287 := hS262.ext hX286; have hB288 := hB261.trans (Ext.stp hX286 hS262.base); exact is_ext (g_move (v := .slice a1 n1 c1) rfl)), ?_⟩
        refine ⟨.int .i64 v245, fun w289 hX290 => od_plain rfl (by have hS291 := hS262.ext hX290; have hB292 := hB261.trans (Ext.stp hX290 hS262.base); exact is_ext (g_move (v := .int .i64 v245) rfl)), ?_⟩
        obtain ⟨hg297, hm⟩ := hm
        refine ⟨.int .i64 (v245 - 1), fun w293 hX294 => od_plain rfl (by have hS295 := hS262.ext hX294; have hB296 := hB261.trans (Ext.stp hX294 hS262.base); exact is_ext (g_sub (a := v245) (b := 1) rfl rfl hg297)), ?_⟩
        obtain ⟨hg302, hm⟩ := hm
        refine ⟨.pointer (some ((adr a1).add ((Int.toNat (v245 - 1)) * El.m (Hd Int)))), fun w298 hX299 => od_plain rfl (by have hS300 := hS262.ext hX299; have hB301 := hB261.trans (Ext.stp hX299 hS262.base); exact is_ext (q_index (i := (v245 - 1)) SL22 rfl rfl (Tv.o (hp1.bel hB301)) (Tv.g (hp1.bel hB301) hg302))), ?_⟩
        refine ⟨.slice ((y1[(Int.toNat (v245 - 1))]!).1) ((y1[(Int.toNat (v245 - 1))]!).2.2.length) ((y1[(Int.toNat (v245 - 1))]!).2.1), fun w303 hX304 => od_plain rfl (by have hS305 := hS262.ext hX304; have hB306 := hB261.trans (Ext.stp hX304 hS262.base); exact is_ext (q_load (i := (v245 - 1)) (v := .slice ((y1[(Int.toNat (v245 - 1))]!).1) ((y1[(Int.toNat (v245 - 1))]!).2.2.length) ((y1[(Int.toNat (v245 - 1))]!).2.1)) ON35 (Tv.o (hp1.bel hB306)) (Tv.g (hp1.bel hB306) hg302) rfl rfl)), ?_⟩
        refine ⟨.slice a0 n0 c0, fun w307 hX308 => od_plain rfl (by have hS309 := hS262.ext hX308; have hB310 := hB261.trans (Ext.stp hX308 hS262.base); exact is_ext (g_move (v := .slice a0 n0 c0) rfl)), ?_⟩
        refine ⟨.int .i64 v245, fun w311 hX312 => od_plain rfl (by have hS313 := hS262.ext hX312; have hB314 := hB261.trans (Ext.stp hX312 hS262.base); exact is_ext (g_move (v := .int .i64 v245) rfl)), ?_⟩
        obtain ⟨hg319, hm⟩ := hm
        refine ⟨.pointer (some ((adr a0).add ((Int.toNat v245) * El.m (Hd Int)))), fun w315 hX316 => od_plain rfl (by have hS317 := hS262.ext hX316; have hB318 := hB261.trans (Ext.stp hX316 hS262.base); exact is_ext (q_index (i := v245) SL22 rfl rfl (Tv.o (hp0.bel hB318)) (Tv.g (hp0.bel hB318) hg319))), ?_⟩
        refine ⟨.slice ((y0[(Int.toNat v245)]!).1) ((y0[(Int.toNat v245)]!).2.2.length) ((y0[(Int.toNat v245)]!).2.1), fun w320 hX321 => od_plain rfl (by have hS322 := hS262.ext hX321; have hB323 := hB261.trans (Ext.stp hX321 hS262.base); exact is_ext (q_load (i := v245) (v := .slice ((y0[(Int.toNat v245)]!).1) ((y0[(Int.toNat v245)]!).2.2.length) ((y0[(Int.toNat v245)]!).2.1)) ON35 (Tv.o (hp0.bel hB323)) (Tv.g (hp0.bel hB323) hg319) rfl rfl)), ?_⟩
        refine ⟨.slice a1 n1 c1, fun w324 hX325 => od_plain rfl (by have hS326 := hS262.ext hX325; have hB327 := hB261.trans (Ext.stp hX325 hS262.base); exact is_ext (g_move (v := .slice a1 n1 c1) rfl)), ?_⟩
        refine ⟨.int .i64 v245, fun w328 hX329 => od_plain rfl (by have hS330 := hS262.ext hX329; have hB331 := hB261.trans (Ext.stp hX329 hS262.base); exact is_ext (g_move (v := .int .i64 v245) rfl)), ?_⟩
        obtain ⟨hg336, hm⟩ := hm
        refine ⟨.pointer (some ((adr a1).add ((Int.toNat v245) * El.m (Hd Int)))), fun w332 hX333 => od_plain rfl (by have hS334 := hS262.ext hX333; have hB335 := hB261.trans (Ext.stp hX333 hS262.base); exact is_ext (q_index (i := v245) SL22 rfl rfl (Tv.o (hp1.bel hB335)) (Tv.g (hp1.bel hB335) hg336))), ?_⟩
        refine ⟨.slice ((y1[(Int.toNat v245)]!).1) ((y1[(Int.toNat v245)]!).2.2.length) ((y1[(Int.toNat v245)]!).2.1), fun w337 hX338 => od_plain rfl (by have hS339 := hS262.ext hX338; have hB340 := hB261.trans (Ext.stp hX338 hS262.base); exact is_ext (q_load (i := v245) (v := .slice ((y1[(Int.toNat v245)]!).1) ((y1[(Int.toNat v245)]!).2.2.length) ((y1[(Int.toNat v245)]!).2.1)) ON35 (Tv.o (hp1.bel hB340)) (Tv.g (hp1.bel hB340) hg336) rfl rfl)), ?_⟩
        obtain ⟨r345, hk346, hm⟩ := hm
        refine ⟨.int .i64 r345, fun w341 hX342 => od_plain rfl (by have hS343 := hS262.ext hX342; have hB344 := hB261.trans (Ext.stp hX342 hS262.base); exact (g_call (vs := #[.slice ((y0[(Int.toNat (v245 - 1))]!).1) ((y0[(Int.toNat (v245 - 1))]!).2.2.length) ((y0[(Int.toNat (v245 - 1))]!).2.1), .slice ((y1[(Int.toNat (v245 - 1))]!).1) ((y1[(Int.toNat (v245 - 1))]!).2.2.length) ((y1[(Int.toNat (v245 - 1))]!).2.1), .slice ((y0[(Int.toNat v245)]!).1) ((y0[(Int.toNat v245)]!).2.2.length) ((y0[(Int.toNat v245)]!).2.1), .slice ((y1[(Int.toNat v245)]!).1) ((y1[(Int.toNat v245)]!).2.2.length) ((y1[(Int.toNat v245)]!).2.1)]) CF55 (args4 rfl rfl rfl rfl) ((m_spec_ChangesBetween_fn ((Tv.row (hp0.bel hB344) hg280).up hS343) ((Tv.row (hp1.bel hB344) hg302).up hS343) ((Tv.row (hp0.bel hB344) hg319).up hS343) ((Tv.row (hp1.bel hB344) hg336).up hS343) hk346).mono fun _ _ ⟨_, h1, h2, h3⟩ => ⟨by rw [h2, h1], h3⟩))), ?_⟩
        refine ⟨.int .i64 r345, fun w347 hX348 => od_plain rfl (by have hS349 := hS262.ext hX348; have hB350 := hB261.trans (Ext.stp hX348 hS262.base); exact is_ext (g_assign (v := .int .i64 r345) rfl)), ?_⟩
        intro w351 hX352
        have hB353 := hB261.trans (Ext.stp hX352 hS262.base)
        have hS354 := hS262.ext hX352
        refine hK258 _ _ ?_
        refine w_seq fun K355 hK355 => ?_
        refine w_seq fun K356 hK356 => ?_
        refine w_region ?_
        refine wl_val (g_move (v := .int .i64 r345) rfl) rfl ?_
        refine wl_val (g_lss (a := r345) (b := 0) rfl rfl) rfl ?_
        refine wl_nil ?_
        refine hK356 _ _ ?_
        refine w_condI (p := r345 < 0) (b := (decide (r345 < 0))) rfl decide_eq_true_iff (fun h357 => ?_) (fun h357 => ?_)
        · replace hm := hm.1 h357
          refine w_seq fun K358 hK358 => ?_
          refine w_region ?_
          refine wl_val (g_assign (v := .int .i64 (-1)) rfl) rfl ?_
          refine wl_nil ?_
          refine hK358 _ _ ?_
          refine w_ret ?_
          repeat first | with_reducible refine q_then ?_ | with_reducible refine q_block ?_
          exact ret1 rfl (by decide) ⟨_, hm, rfl, toExt hB353⟩
        · replace hm := hm.2 h357
          refine w_skip ?_
          refine hK355 _ _ ?_
          refine w_region ?_
          refine wl_val (g_move (v := .int .i64 v244) rfl) rfl ?_
          refine wl_val (g_move (v := .int .i64 r345) rfl) rfl ?_
          obtain ⟨hg359, hm⟩ := hm
          refine wl_val (g_add (a := v244) (b := r345) rfl rfl hg359) rfl ?_
          refine wl_val (g_assign (v := .int .i64 (v244 + r345)) rfl) rfl ?_
          refine wl_nil ?_
          refine hK257 _ _ ?_
          refine w_region ?_
          refine wl_val (g_move (v := .int .i64 v245) rfl) rfl ?_
          obtain ⟨hg360, hm⟩ := hm
          refine wl_val (g_add (a := v245) (b := 1) rfl rfl hg360) rfl ?_
          refine wl_val (g_assign (v := .int .i64 (v245 + 1)) rfl) rfl ?_
          refine wl_nil ?_
          exact ⟨((v244 + r345), (v245 + 1)), hm.2, ⟨rfl, rfl, rfl, rfl, trivial⟩, ⟨hm.1, hB353, hS354⟩⟩
      · replace hm := hm.2 h256
        refine w_exit ?_
        exact ⟨(v244), ⟨rfl, trivial⟩, ⟨hm, hB251, hS252⟩⟩
    · rintro v241 b_ w361 ⟨hm, hB362, hS363⟩
      show Wp _ _ _ _ (upds b_ [(5, .int .i64 v241)]) w361
      refine w_seq fun K364 hK364 => ?_
      refine w_region ?_
      refine wl_val (g_move (v := .int .i64 v241) rfl) rfl ?_
      refine wl_val (g_assign (v := .int .i64 v241) rfl) rfl ?_
      refine wl_nil ?_
      refine hK364 _ _ ?_
      refine w_ret ?_
      repeat first | with_reducible refine q_then ?_ | with_reducible refine q_block ?_
      exact ret1 rfl (by decide) ⟨_, hm, rfl, toExt hB362⟩

theorem m_impl_changes_fn {w : World} {a0 : Option Addr} {n0 c0 : Nat} {p0 : List Int} {a1 : Option Addr} {n1 c1 : Nat} {p1 : List Int} {a2 : Option Addr} {n2 c2 : Nat} {p2 : List Int} {a3 : Option Addr} {n3 c3 : Nat} {p3 : List Int} {Q : Int → Prop} (hp0 : Vw w.heap.size w a0 n0 c0 p0) (hp1 : Vw w.heap.size w a1 n1 c1 p1) (hp2 : Vw w.heap.size w a2 n2 c2 p2) (hp3 : Vw w.heap.size w a3 n3 c3 p3) (hm : m_impl_changes p0 p1 p2 p3 Q) :
    Fn Try.prog 73 #[.slice a0 n0 c0, .slice a1 n1 c1, .slice a2 n2 c2, .slice a3 n3 c3] w (fun v w' => ∃ (r0 : Int), Q r0 ∧ v = .int .i64 r0 ∧ Ext w w') := by
  unfold m_impl_changes at hm
  have hB0 := Below.refl w.heap.size w
  have hS0 : Sep w w.heap.size [] := Sep.nil (Nat.le_refl _)
  refine fn_of_wp Try.func73 rfl (by kernel_rfl) (Nat.le_of_ble_eq_true rfl) ?_
  refine w_seq fun K1 hK1 => ?_
  refine w_region ?_
  refine wl_val (g_assign (v := .int .i64 0) rfl) rfl ?_
  refine wl_nil ?_
  refine hK1 _ _ ?_
  refine w_seq fun K2 hK2 => ?_
  refine w_region ?_
  refine wl_val (g_assign (v := .int .i64 0) rfl) rfl ?_
  refine wl_nil ?_
  refine hK2 _ _ ?_
  refine w_cut (σ := Int) (fun v432 => [(9, .int .i64 v432)]) (fun v432 w' => m_impl_changes_K1 Q v432 ∧ Below w.heap.size w w' ∧ Sep w' w.heap.size []) ?_ ?_
  · refine w_seq fun K434 hK434 => ?_
    refine w_region ?_
    refine wl_val (g_move (v := .slice a0 n0 c0) rfl) rfl ?_
    refine wl_val (q_len SL35 rfl (Vw.len (hp0.bel hB0))) rfl ?_
    refine wl_val (g_move (v := .int .i64 0) rfl) rfl ?_
    refine wl_nil ?_
    refine hK434 _ _ ?_
    refine w_block ?_
    obtain ⟨I437, μ438, h0439, hr440⟩ := hm
    refine w_for (σ := Int × Int) (fun ⟨v435, v436⟩ => [(1, .slice a1 n1 c1), (2, .slice a2 n2 c2), (3, .slice a3 n3 c3), (9, .int .i64 v435), (14, .slice a0 n0 c0), (15, .int .i64 (p0.length : Int)), (16, .int .i64 v436)]) (fun ⟨v435, v436⟩ w' => I437 v435 v436 ∧ Below w.heap.size w w' ∧ Sep w' w.heap.size []) (fun ⟨v435, v436⟩ => μ438 v435 v436) (0, 0) ⟨rfl, rfl, rfl, rfl, rfl, rfl, rfl, trivial⟩ ⟨h0439, hB0, hS0⟩ ?_
    rintro ⟨v435, v436⟩ b_ w441 ⟨hi_, hB442, hS443⟩
    show Wp _ _ _ _ (upds b_ [(1, .slice a1 n1 c1), (2, .slice a2 n2 c2), (3, .slice a3 n3 c3), (9, .int .i64 v435), (14, .slice a0 n0 c0), (15, .int .i64 (p0.length : Int)), (16, .int .i64 v436)]) w441
    have hm := hr440 v435 v436 hi_
    refine w_seq fun K445 hK445 => ?_
    refine w_region ?_
    refine wl_val (g_lss (a := v436) (b := (p0.length : Int)) rfl rfl) rfl ?_
    refine wl_nil ?_
    refine hK445 _ _ ?_
    refine w_seq fun K446 hK446 => ?_
    refine w_condI (p := v436 < (p0.length : Int)) (b := (decide (v436 < (p0.length : Int)))) rfl decide_eq_true_iff (fun h447 => ?_) (fun h447 => ?_)
    · replace hm := hm.1 h447
      refine w_skip ?_
      refine hK446 _ _ ?_
      refine w_cut (σ := Int) (fun v448 => [(1, .slice a1 n1 c1), (2, .slice a2 n2 c2), (3, .slice a3 n3 c3), (9, .int .i64 v448), (14, .slice a0 n0 c0), (15, .int .i64 (p0.length : Int)), (16, .int .i64 v436)]) (fun v448 w' => m_impl_changes_K0 v436 (fun v435' v436' => I437 v435' v436' ∧ μ438 v435' v436' < μ438 v435 v436) v448 ∧ Below w.heap.size w w' ∧ Sep w' w.heap.size []) ?_ ?_
      · refine w_block ?_
        refine w_seq fun K450 hK450 => ?_
        refine w_region ?_
        refine wl_val (g_move (v := .int .i64 v436) rfl) rfl ?_
        obtain ⟨hg451, hm⟩ := hm
        refine wl_val (q_index (i := v436) SL35 rfl rfl (hp0.bel hB442) hg451) rfl ?_
        refine wl_val (q_load (i := v436) (v := .int .i64 (p0[(Int.toNat v436)]!)) ON3 (hp0.bel hB442) hg451 rfl rfl) rfl ?_
        refine wl_val (g_assign (v := .int .i64 v436) rfl) rfl ?_
        refine wl_val (g_assign (v := .int .i64 (p0[(Int.toNat v436)]!)) rfl) rfl ?_
        refine wl_nil ?_
        refine hK450 _ _ ?_
        refine w_seq fun K452 hK452 => ?_
        refine w_region ?_
        refine wl_val (g_move (v := .slice a2 n2 c2) rfl) rfl ?_
        refine wl_val (q_len SL35 rfl (Vw.len (hp2.bel hB442))) rfl ?_
        refine wl_val (g_move (v := .int .i64 0) rfl) rfl ?_
        refine wl_nil ?_
        refine hK452 _ _ ?_
        refine w_block ?_
        obtain ⟨I455, μ456, h0457, hr458⟩ := hm
        refine w_for (σ := Int × Int) (fun ⟨v453, v454⟩ => [(1, .slice a1 n1 c1), (2, .slice a2 n2 c2), (3, .slice a3 n3 c3), (9, .int .i64 v453), (10, .int .i64 v436), (11, .int .i64 (p0[(Int.toNat v436)]!)), (14, .slice a0 n0 c0), (15, .int .i64 (p0.length : Int)), (16, .int .i64 v436), (21, .slice a2 n2 c2), (22, .int .i64 (p2.length : Int)), (23, .int .i64 v454)]) (fun ⟨v453, v454⟩ w' => I455 v453 v454 ∧ Below w.heap.size w w' ∧ Sep w' w.heap.size []) (fun ⟨v453, v454⟩ => μ456 v453 v454) (v435, 0) ⟨rfl, rfl, rfl, rfl, rfl, rfl, rfl, rfl, rfl, rfl, rfl, rfl, trivial⟩ ⟨h0457, hB442, hS443⟩ ?_
        rintro ⟨v453, v454⟩ b_ w459 ⟨hi_, hB460, hS461⟩
        show Wp _ _ _ _ (upds b_ [(1, .slice a1 n1 c1), (2, .slice a2 n2 c2), (3, .slice a3 n3 c3), (9, .int .i64 v453), (10, .int .i64 v436), (11, .int .i64 (p0[(Int.toNat v436)]!)), (14, .slice a0 n0 c0), (15, .int .i64 (p0.length : Int)), (16, .int .i64 v436), (21, .slice a2 n2 c2), (22, .int .i64 (p2.length : Int)), (23, .int .i64 v454)]) w459
        have hm := hr458 v453 v454 hi_
        refine w_seq fun K463 hK463 => ?_
        refine w_region ?_
        refine wl_val (g_lss (a := v454) (b := (p2.length : Int)) rfl rfl) rfl ?_
        refine wl_nil ?_
        refine hK463 _ _ ?_
        refine w_seq fun K464 hK464 => ?_
        refine w_condI (p := v454 < (p2.length : Int)) (b := (decide (v454 < (p2.length : Int)))) rfl decide_eq_true_iff (fun h465 => ?_) (fun h465 => ?_)
        · replace hm := hm.1 h465
          refine w_skip ?_
          refine hK464 _ _ ?_
          refine w_seq fun K466 hK466 => ?_
          refine w_block ?_
          refine w_seq fun K467 hK467 => ?_
          refine w_region ?_
          refine wl_val (g_move (v := .int .i64 v454) rfl) rfl ?_
          obtain ⟨hg468, hm⟩ := hm
          refine wl_val (q_index (i := v454) SL35 rfl rfl (hp2.bel hB460) hg468) rfl ?_
          refine wl_val (q_load (i := v454) (v := .int .i64 (p2[(Int.toNat v454)]!)) ON3 (hp2.bel hB460) hg468 rfl rfl) rfl ?_
          refine wl_val (g_assign (v := .int .i64 v454) rfl) rfl ?_
          refine wl_val (g_assign (v := .int .i64 (p2[(Int.toNat v454)]!)) rfl) rfl ?_
          refine wl_nil ?_
          refine hK467 _ _ ?_
          refine w_seq fun K469 hK469 => ?_
          refine w_draw (X := Ext) (Y := Ext) [] MIX (by decide +kernel) rfl Ext.refl (fun _ _ _ => Ext.trans) (fun _ _ _ => Chg.trans) (fun _ _ h => Ext.chg h _) (fun w470 hE471 => ?_)
          have hB472 := hB460.trans (Ext.stp hE471 hS461.base)
          have hS473 := hS461.ext hE471
          refine ⟨.int .i64 (p0[(Int.toNat v436)]!), fun w474 hX475 => od_plain rfl (by have hS476 := hS473.ext hX475; have hB477 := hB472.trans (Ext.stp hX475 hS473.base); exact is_ext (g_move (v := .int .i64 (p0[(Int.toNat v436)]!)) rfl)), ?_⟩
          refine ⟨.int .i64 (p2[(Int.toNat v454)]!), fun w478 hX479 => od_plain rfl (by have hS480 := hS473.ext hX479; have hB481 := hB472.trans (Ext.stp hX479 hS473.base); exact is_ext (g_move (v := .int .i64 (p2[(Int.toNat v454)]!)) rfl)), ?_⟩
          refine ⟨.bool (decide (p0[(Int.toNat v436)]! = p2[(Int.toNat v454)]!)), fun w482 hX483 => od_plain rfl (by have hS484 := hS473.ext hX483; have hB485 := hB472.trans (Ext.stp hX483 hS473.base); exact is_ext (g_eql (a := p0[(Int.toNat v436)]!) (b := p2[(Int.toNat v454)]!) rfl rfl)), ?_⟩
          refine ⟨.bool (decide (p0[(Int.toNat v436)]! = p2[(Int.toNat v454)]!)), fun w486 hX487 => od_plain rfl (by have hS488 := hS473.ext hX487; have hB489 := hB472.trans (Ext.stp hX487 hS473.base); exact is_ext (g_move (v := .bool (decide (p0[(Int.toNat v436)]! = p2[(Int.toNat v454)]!))) rfl)), ?_⟩
          refine ⟨if (decide (p0[(Int.toNat v436)]! = p2[(Int.toNat v454)]!)) = true then .slice a1 n1 c1 else undef, fun w490 hX491 => od_guard (c := (decide (p0[(Int.toNat v436)]! = p2[(Int.toNat v454)]!)) = true) (val := .slice a1 n1 c1) (b := ((decide (p0[(Int.toNat v436)]! = p2[(Int.toNat v454)]!)) == true)) (gv_some rfl rfl rfl) beq_iff_eq (fun hc494 => ?_), ?_⟩
          · have hS492 := hS473.ext hX491
            have hB493 := hB472.trans (Ext.stp hX491 hS473.base)
            have hq4 : p0[(Int.toNat v436)]! = p2[(Int.toNat v454)]! := (decide_eq_true_iff.mp hc494)
            exact is_ext (g_move (v := .slice a1 n1 c1) rfl)
          refine ⟨if (decide (p0[(Int.toNat v436)]! = p2[(Int.toNat v454)]!)) = true then .int .i64 v436 else undef, fun w495 hX496 => od_guard (c := (decide (p0[(Int.toNat v436)]! = p2[(Int.toNat v454)]!)) = true) (val := .int .i64 v436) (b := ((decide (p0[(Int.toNat v436)]! = p2[(Int.toNat v454)]!)) == true)) (gv_some rfl rfl rfl) beq_iff_eq (fun hc499 => ?_), ?_⟩
          · have hS497 := hS473.ext hX496
            have hB498 := hB472.trans (Ext.stp hX496 hS473.base)
            have hq4 : p0[(Int.toNat v436)]! = p2[(Int.toNat v454)]! := (decide_eq_true_iff.mp hc499)
            exact is_ext (g_move (v := .int .i64 v436) rfl)
          obtain ⟨hg505, hm⟩ := hm
          refine ⟨if (decide (p0[(Int.toNat v436)]! = p2[(Int.toNat v454)]!)) = true then .pointer (some ((adr a1).add ((Int.toNat v436) * El.m Int))) else undef, fun w500 hX501 => od_guard (c := (decide (p0[(Int.toNat v436)]! = p2[(Int.toNat v454)]!)) = true) (val := .pointer (some ((adr a1).add ((Int.toNat v436) * El.m Int)))) (b := ((decide (p0[(Int.toNat v436)]! = p2[(Int.toNat v454)]!)) == true)) (gv_some rfl rfl rfl) beq_iff_eq (fun hc504 => ?_), ?_⟩
          · have hS502 := hS473.ext hX501
            have hB503 := hB472.trans (Ext.stp hX501 hS473.base)
            have hq4 : p0[(Int.toNat v436)]! = p2[(Int.toNat v454)]! := (decide_eq_true_iff.mp hc504)
            exact is_ext (q_index (i := v436) SL35 (if_pos hc504) (if_pos hc504) (hp1.bel hB503) (hg505 hq4))
          refine ⟨if (decide (p0[(Int.toNat v436)]! = p2[(Int.toNat v454)]!)) = true then .int .i64 (p1[(Int.toNat v436)]!) else undef, fun w506 hX507 => od_guard (c := (decide (p0[(Int.toNat v436)]! = p2[(Int.toNat v454)]!)) = true) (val := .int .i64 (p1[(Int.toNat v436)]!)) (b := ((decide (p0[(Int.toNat v436)]! = p2[(Int.toNat v454)]!)) == true)) (gv_some rfl rfl rfl) beq_iff_eq (fun hc510 => ?_), ?_⟩
          · have hS508 := hS473.ext hX507
            have hB509 := hB472.trans (Ext.stp hX507 hS473.base)
            have hq4 : p0[(Int.toNat v436)]! = p2[(Int.toNat v454)]! := (decide_eq_true_iff.mp hc510)
            exact is_ext (q_load (i := v436) (v := .int .i64 (p1[(Int.toNat v436)]!)) ON3 (hp1.bel hB509) (hg505 hq4) rfl (if_pos hc510))
          refine ⟨if (decide (p0[(Int.toNat v436)]! = p2[(Int.toNat v454)]!)) = true then .slice a3 n3 c3 else undef, fun w511 hX512 => od_guard (c := (decide (p0[(Int.toNat v436)]! = p2[(Int.toNat v454)]!)) = true) (val := .slice a3 n3 c3) (b := ((decide (p0[(Int.toNat v436)]! = p2[(Int.toNat v454)]!)) == true)) (gv_some rfl rfl rfl) beq_iff_eq (fun hc515 => ?_), ?_⟩
          · have hS513 := hS473.ext hX512
            have hB514 := hB472.trans (Ext.stp hX512 hS473.base)
            have hq4 : p0[(Int.toNat v436)]! = p2[(Int.toNat v454)]! := (decide_eq_true_iff.mp hc515)
            exact is_ext (g_move (v := .slice a3 n3 c3) rfl)
          refine ⟨if (decide (p0[(Int.toNat v436)]! = p2[(Int.toNat v454)]!)) = true then .int .i64 v454 else undef, fun w516 hX517 => od_guard (c := (decide (p0[(Int.toNat v436)]! = p2[(Int.toNat v454)]!)) = true) (val := .int .i64 v454) (b := ((decide (p0[(Int.toNat v436)]! = p2[(Int.toNat v454)]!)) == true)) (gv_some rfl rfl rfl) beq_iff_eq (fun hc520 => ?_), ?_⟩
          · have hS518 := hS473.ext hX517
            have hB519 := hB472.trans (Ext.stp hX517 hS473.base)
            have hq4 : p0[(Int.toNat v436)]! = p2[(Int.toNat v454)]! := (decide_eq_true_iff.mp hc520)
            exact is_ext (g_move (v := .int .i64 v454) rfl)
          obtain ⟨hg526, hm⟩ := hm
          refine ⟨if (decide (p0[(Int.toNat v436)]! = p2[(Int.toNat v454)]!)) = true then .pointer (some ((adr a3).add ((Int.toNat v454) * El.m Int))) else undef, fun w521 hX522 => od_guard (c := (decide (p0[(Int.toNat v436)]! = p2[(Int.toNat v454)]!)) = true) (val := .pointer (some ((adr a3).add ((Int.toNat v454) * El.m Int)))) (b := ((decide (p0[(Int.toNat v436)]! = p2[(Int.toNat v454)]!)) == true)) (gv_some rfl rfl rfl) beq_iff_eq (fun hc525 => ?_), ?_⟩
          · have hS523 := hS473.ext hX522
            have hB524 := hB472.trans (Ext.stp hX522 hS473.base)
            have hq4 : p0[(Int.toNat v436)]! = p2[(Int.toNat v454)]! := (decide_eq_true_iff.mp hc525)
            exact is_ext (q_index (i := v454) SL35 (if_pos hc525) (if_pos hc525) (hp3.bel hB524) (hg526 hq4))
          refine ⟨if (decide (p0[(Int.toNat v436)]! = p2[(Int.toNat v454)]!)) = true then .int .i64 (p3[(Int.toNat v454)]!) else undef, fun w527 hX528 => od_guard (c := (decide (p0[(Int.toNat v436)]! = p2[(Int.toNat v454)]!)) = true) (val := .int .i64 (p3[(Int.toNat v454)]!)) (b := ((decide (p0[(Int.toNat v436)]! = p2[(Int.toNat v454)]!)) == true)) (gv_some rfl rfl rfl) beq_iff_eq (fun hc531 => ?_), ?_⟩
          · have hS529 := hS473.ext hX528
            have hB530 := hB472.trans (Ext.stp hX528 hS473.base)
            have hq4 : p0[(Int.toNat v436)]! = p2[(Int.toNat v454)]! := (decide_eq_true_iff.mp hc531)
            exact is_ext (q_load (i := v454) (v := .int .i64 (p3[(Int.toNat v454)]!)) ON3 (hp3.bel hB530) (hg526 hq4) rfl (if_pos hc531))
          refine ⟨if (decide (p0[(Int.toNat v436)]! = p2[(Int.toNat v454)]!)) = true then .bool (decide (p1[(Int.toNat v436)]! ≠ p3[(Int.toNat v454)]!)) else undef, fun w532 hX533 => od_guard (c := (decide (p0[(Int.toNat v436)]! = p2[(Int.toNat v454)]!)) = true) (val := .bool (decide (p1[(Int.toNat v436)]! ≠ p3[(Int.toNat v454)]!))) (b := ((decide (p0[(Int.toNat v436)]! = p2[(Int.toNat v454)]!)) == true)) (gv_some rfl rfl rfl) beq_iff_eq (fun hc536 => ?_), ?_⟩
          · have hS534 := hS473.ext hX533
            have hB535 := hB472.trans (Ext.stp hX533 hS473.base)
            have hq4 : p0[(Int.toNat v436)]! = p2[(Int.toNat v454)]! := (decide_eq_true_iff.mp hc536)
            exact is_ext (g_neq (a := p1[(Int.toNat v436)]!) (b := p3[(Int.toNat v454)]!) (if_pos hc536) (if_pos hc536))
          refine ⟨.bool ((decide (p0[(Int.toNat v436)]! = p2[(Int.toNat v454)]!)) && (decide (p1[(Int.toNat v436)]! ≠ p3[(Int.toNat v454)]!))), fun w537 hX538 => od_plain rfl (by have hS539 := hS473.ext hX538; have hB540 := hB472.trans (Ext.stp hX538 hS473.base); exact is_ext (g_pick_and (b := (decide (p0[(Int.toNat v436)]! = p2[(Int.toNat v454)]!))) (q := (decide (p1[(Int.toNat v436)]! ≠ p3[(Int.toNat v454)]!))) rfl rfl)), ?_⟩
          intro w541 hX542
          have hB543 := hB472.trans (Ext.stp hX542 hS473.base)
          have hS544 := hS473.ext hX542
          refine hK469 _ _ ?_
          refine w_condI (p := ((p0[(Int.toNat v436)]! = p2[(Int.toNat v454)]!) ∧ (p1[(Int.toNat v436)]! ≠ p3[(Int.toNat v454)]!))) (b := ((decide (p0[(Int.toNat v436)]! = p2[(Int.toNat v454)]!)) && (decide (p1[(Int.toNat v436)]! ≠ p3[(Int.toNat v454)]!)))) rfl (i_and decide_eq_true_iff decide_eq_true_iff) (fun h545 => ?_) (fun h545 => ?_)
          · replace hm := hm.1 h545
            refine w_region ?_
            refine wl_val (g_move (v := .int .i64 v453) rfl) rfl ?_
            obtain ⟨hg546, hm⟩ := hm
            refine wl_val (g_add (a := v453) (b := 1) rfl rfl hg546) rfl ?_
            refine wl_val (g_assign (v := .int .i64 (v453 + 1)) rfl) rfl ?_
            refine wl_nil ?_
            refine hK466 _ _ ?_
            refine w_region ?_
            obtain ⟨hg547, hm⟩ := hm
            refine wl_val (g_add (a := v454) (b := 1) rfl rfl hg547) rfl ?_
            refine wl_val (g_move (v := .int .i64 (v454 + 1)) rfl) rfl ?_
            refine wl_nil ?_
            exact ⟨((v453 + 1), (v454 + 1)), hm.2, ⟨rfl, rfl, rfl, rfl, rfl, rfl, rfl, rfl, rfl, rfl, rfl, rfl, trivial⟩, ⟨hm.1, hB543, hS544⟩⟩
          · replace hm := hm.2 h545
            refine w_skip ?_
            refine hK466 _ _ ?_
            refine w_region ?_
            obtain ⟨hg548, hm⟩ := hm
            refine wl_val (g_add (a := v454) (b := 1) rfl rfl hg548) rfl ?_
            refine wl_val (g_move (v := .int .i64 (v454 + 1)) rfl) rfl ?_
            refine wl_nil ?_
            exact ⟨(v453, (v454 + 1)), hm.2, ⟨rfl, rfl, rfl, rfl, rfl, rfl, rfl, rfl, rfl, rfl, rfl, rfl, trivial⟩, ⟨hm.1, hB543, hS544⟩⟩
        · replace hm := hm.2 h465
          refine w_exit ?_
          exact ⟨(v453), ⟨rfl, rfl, rfl, rfl, rfl, rfl, rfl, trivial⟩, ⟨hm, hB460, hS461⟩⟩
      · rintro v448 b_ w549 ⟨hm, hB550, hS551⟩
        show Wp _ _ _ _ (upds b_ [(1, .slice a1 n1 c1), (2, .slice a2 n2 c2), (3, .slice a3 n3 c3), (9, .int .i64 v448), (14, .slice a0 n0 c0), (15, .int .i64 (p0.length : Int)), (16, .int .i64 v436)]) w549
        refine w_region ?_
        obtain ⟨hg552, hm⟩ := hm
        refine wl_val (g_add (a := v436) (b := 1) rfl rfl hg552) rfl ?_
        refine wl_val (g_move (v := .int .i64 (v436 + 1)) rfl) rfl ?_
        refine wl_nil ?_
        exact ⟨(v448, (v436 + 1)), hm.2, ⟨rfl, rfl, rfl, rfl, rfl, rfl, rfl, trivial⟩, ⟨hm.1, hB550, hS551⟩⟩
    · replace hm := hm.2 h447
      refine w_exit ?_
      exact ⟨(v435), ⟨rfl, trivial⟩, ⟨hm, hB442, hS443⟩⟩
  · rintro v432 b_ w553 ⟨hm, hB554, hS555⟩
    show Wp _ _ _ _ (upds b_ [(9, .int .i64 v432)]) w553
    refine w_seq fun K556 hK556 => ?_
    refine w_region ?_
    refine wl_val (g_move (v := .int .i64 v432) rfl) rfl ?_
    refine wl_val (g_assign (v := .int .i64 v432) rfl) rfl ?_
    refine wl_nil ?_
    refine hK556 _ _ ?_
    refine w_ret ?_
    repeat first | with_reducible refine q_then ?_ | with_reducible refine q_block ?_
    exact ret1 rfl (by decide) ⟨_, hm, rfl, toExt hB554⟩

theorem m_impl_ChangesBetween_fn {w : World} {a0 : Option Addr} {n0 c0 : Nat} {p0 : List Int} {a1 : Option Addr} {n1 c1 : Nat} {p1 : List Int} {a2 : Option Addr} {n2 c2 : Nat} {p2 : List Int} {a3 : Option Addr} {n3 c3 : Nat} {p3 : List Int} {Q : Int → Prop} (hp0 : Vw w.heap.size w a0 n0 c0 p0) (hp1 : Vw w.heap.size w a1 n1 c1 p1) (hp2 : Vw w.heap.size w a2 n2 c2 p2) (hp3 : Vw w.heap.size w a3 n3 c3 p3) (hm : m_impl_ChangesBetween p0 p1 p2 p3 Q) :
    Fn Try.prog 56 #[.slice a0 n0 c0, .slice a1 n1 c1, .slice a2 n2 c2, .slice a3 n3 c3] w (fun v w' => ∃ (r0 : Int), Q r0 ∧ v = .int .i64 r0 ∧ Ext w w') := by
  unfold m_impl_ChangesBetween at hm
  have hB0 := Below.refl w.heap.size w
  have hS0 : Sep w w.heap.size [] := Sep.nil (Nat.le_refl _)
  refine fn_of_wp Try.func56 rfl (by kernel_rfl) (Nat.le_of_ble_eq_true rfl) ?_
  refine w_seq fun K1 hK1 => ?_
  refine w_region ?_
  refine wl_val (g_assign (v := .int .i64 0) rfl) rfl ?_
  refine wl_nil ?_
  refine hK1 _ _ ?_
  refine w_seq fun K2 hK2 => ?_
  refine w_seq fun K3 hK3 => ?_
  refine w_region ?_
  refine wl_val (g_move (v := .slice a0 n0 c0) rfl) rfl ?_
  refine wl_val (q_len SL35 rfl (Vw.len (hp0.bel hB0))) rfl ?_
  refine wl_val (g_move (v := .slice a1 n1 c1) rfl) rfl ?_
  refine wl_val (q_len SL35 rfl (Vw.len (hp1.bel hB0))) rfl ?_
  refine wl_val (g_neq (a := (p0.length : Int)) (b := (p1.length : Int)) rfl rfl) rfl ?_
  refine wl_val (g_move (v := .bool (decide ((p0.length : Int) ≠ (p1.length : Int)))) rfl) rfl ?_
  refine wl_guard (c := (decide ((p0.length : Int) ≠ (p1.length : Int))) = false) (val := .slice a2 n2 c2) (b := ((decide ((p0.length : Int) ≠ (p1.length : Int))) == false)) (gv_some rfl rfl rfl) beq_iff_eq (fun hc4 => ?_) ?_
  · have hq0 : ¬ ((p0.length : Int) ≠ (p1.length : Int)) := (i_neg decide_eq_true_iff hc4)
    exact g_move (v := .slice a2 n2 c2) rfl
  refine wl_guard (c := (decide ((p0.length : Int) ≠ (p1.length : Int))) = false) (val := .int .i64 (p2.length : Int)) (b := ((decide ((p0.length : Int) ≠ (p1.length : Int))) == false)) (gv_some rfl rfl rfl) beq_iff_eq (fun hc5 => ?_) ?_
  · have hq0 : ¬ ((p0.length : Int) ≠ (p1.length : Int)) := (i_neg decide_eq_true_iff hc5)
    exact q_len SL35 (if_pos hc5) (Vw.len (hp2.bel hB0))
  refine wl_guard (c := (decide ((p0.length : Int) ≠ (p1.length : Int))) = false) (val := .slice a3 n3 c3) (b := ((decide ((p0.length : Int) ≠ (p1.length : Int))) == false)) (gv_some rfl rfl rfl) beq_iff_eq (fun hc6 => ?_) ?_
  · have hq0 : ¬ ((p0.length : Int) ≠ (p1.length : Int)) := (i_neg decide_eq_true_iff hc6)
    exact g_move (v := .slice a3 n3 c3) rfl
  refine wl_guard (c := (decide ((p0.length : Int) ≠ (p1.length : Int))) = false) (val := .int .i64 (p3.length : Int)) (b := ((decide ((p0.length : Int) ≠ (p1.length : Int))) == false)) (gv_some rfl rfl rfl) beq_iff_eq (fun hc7 => ?_) ?_
  · have hq0 : ¬ ((p0.length : Int) ≠ (p1.length : Int)) := (i_neg decide_eq_true_iff hc7)
    exact q_len SL35 (if_pos hc7) (Vw.len (hp3.bel hB0))
  refine wl_guard (c := (decide ((p0.length : Int) ≠ (p1.length : Int))) = false) (val := .bool (decide ((p2.length : Int) ≠ (p3.length : Int)))) (b := ((decide ((p0.length : Int) ≠ (p1.length : Int))) == false)) (gv_some rfl rfl rfl) beq_iff_eq (fun hc8 => ?_) ?_
  · have hq0 : ¬ ((p0.length : Int) ≠ (p1.length : Int)) := (i_neg decide_eq_true_iff hc8)
    exact g_neq (a := (p2.length : Int)) (b := (p3.length : Int)) (if_pos hc8) (if_pos hc8)
  refine wl_val (g_pick_or (b := (decide ((p0.length : Int) ≠ (p1.length : Int)))) (q := (decide ((p2.length : Int) ≠ (p3.length : Int)))) rfl rfl) rfl ?_
  refine wl_nil ?_
  refine hK3 _ _ ?_
  refine w_condI (p := (((p0.length : Int) ≠ (p1.length : Int)) ∨ ((p2.length : Int) ≠ (p3.length : Int)))) (b := ((decide ((p0.length : Int) ≠ (p1.length : Int))) || (decide ((p2.length : Int) ≠ (p3.length : Int))))) rfl (i_or decide_eq_true_iff decide_eq_true_iff) (fun h9 => ?_) (fun h9 => ?_)
  · replace hm := hm.1 h9
    refine w_seq fun K10 hK10 => ?_
    refine w_region ?_
    refine wl_val (g_assign (v := .int .i64 (-1)) rfl) rfl ?_
    refine wl_nil ?_
    refine hK10 _ _ ?_
    refine w_ret ?_
    repeat first | with_reducible refine q_then ?_ | with_reducible refine q_block ?_
    exact ret1 rfl (by decide) ⟨_, hm, rfl, toExt hB0⟩
  · replace hm := hm.2 h9
    refine w_skip ?_
    refine hK2 _ _ ?_
    refine w_seq fun K11 hK11 => ?_
    refine w_region ?_
    refine wl_val (g_move (v := .slice a0 n0 c0) rfl) rfl ?_
    refine wl_val (g_move (v := .slice a1 n1 c1) rfl) rfl ?_
    refine wl_val (g_move (v := .slice a2 n2 c2) rfl) rfl ?_
    refine wl_val (g_move (v := .slice a3 n3 c3) rfl) rfl ?_
    refine wl_step rfl (g_call (vs := #[.slice a0 n0 c0, .slice a1 n1 c1, .slice a2 n2 c2, .slice a3 n3 c3]) CF73 (args4 rfl rfl rfl rfl) (m_impl_changes_fn ((hp0.bel hB0).up hS0) ((hp1.bel hB0).up hS0) ((hp2.bel hB0).up hS0) ((hp3.bel hB0).up hS0) hm)) ?_
    rintro _ w12 ⟨r15, hm, rfl, hE13⟩
    have hB16 := hB0.trans (Ext.stp hE13 hS0.base)
    have hS17 := hS0.ext hE13
    refine wl_val (g_assign (v := .int .i64 r15) rfl) rfl ?_
    refine wl_nil ?_
    refine hK11 _ _ ?_
    refine w_ret ?_
    repeat first | with_reducible refine q_then ?_ | with_reducible refine q_block ?_
    exact ret1 rfl (by decide) ⟨_, hm, rfl, toExt hB16⟩

theorem m_impl_CountChanges_fn {w : World} {a0 : Option Addr} {n0 c0 : Nat} {y0 : List (Hd Int)} {p0 : List (List Int)} {a1 : Option Addr} {n1 c1 : Nat} {y1 : List (Hd Int)} {p1 : List (List Int)} {Q : Int → Prop} (hp0 : Tv w.heap.size w a0 n0 c0 y0 p0) (hp1 : Tv w.heap.size w a1 n1 c1 y1 p1) (hm : m_impl_CountChanges p0 p1 Q) :
    Fn Try.prog 19 #[.slice a0 n0 c0, .slice a1 n1 c1] w (fun v w' => ∃ (r0 : Int), Q r0 ∧ v = .int .i64 r0 ∧ Ext w w') := by
  unfold m_impl_CountChanges at hm
  have hB0 := Below.refl w.heap.size w
  have hS0 : Sep w w.heap.size [] := Sep.nil (Nat.le_refl _)
  refine fn_of_wp Try.func19 rfl (by kernel_rfl) (Nat.le_of_ble_eq_true rfl) ?_
  refine w_seq fun K1 hK1 => ?_
  refine w_region ?_
  refine wl_val (g_assign (v := .int .i64 0) rfl) rfl ?_
  refine wl_nil ?_
  refine hK1 _ _ ?_
  refine w_seq fun K2 hK2 => ?_
  refine w_seq fun K3 hK3 => ?_
  refine w_region ?_
  refine wl_val (g_move (v := .slice a0 n0 c0) rfl) rfl ?_
  refine wl_val (q_len SL22 rfl (Tv.len (hp0.bel hB0))) rfl ?_
  refine wl_val (g_move (v := .slice a1 n1 c1) rfl) rfl ?_
  refine wl_val (q_len SL22 rfl (Tv.len (hp1.bel hB0))) rfl ?_
  refine wl_val (g_neq (a := (p0.length : Int)) (b := (p1.length : Int)) rfl rfl) rfl ?_
  refine wl_nil ?_
  refine hK3 _ _ ?_
  refine w_condI (p := (p0.length : Int) ≠ (p1.length : Int)) (b := (decide ((p0.length : Int) ≠ (p1.length : Int)))) rfl decide_eq_true_iff (fun h4 => ?_) (fun h4 => ?_)
  · replace hm := hm.1 h4
    refine w_seq fun K5 hK5 => ?_
    refine w_region ?_
    refine wl_val (g_assign (v := .int .i64 (-1)) rfl) rfl ?_
    refine wl_nil ?_
    refine hK5 _ _ ?_
    refine w_ret ?_
    repeat first | with_reducible refine q_then ?_ | with_reducible refine q_block ?_
    exact ret1 rfl (by decide) ⟨_, hm, rfl, toExt hB0⟩
  · replace hm := hm.2 h4
    refine w_skip ?_
    refine hK2 _ _ ?_
    refine w_seq fun K6 hK6 => ?_
    refine w_region ?_
    refine wl_val (g_assign (v := .int .i64 0) rfl) rfl ?_
    refine wl_nil ?_
    refine hK6 _ _ ?_
    refine w_cut (σ := Int) (fun v243 => [(5, .int .i64 v243)]) (fun v243 w' => m_impl_CountChanges_K0 Q v243 ∧ Below w.heap.size w w' ∧ Sep w' w.heap.size []) ?_ ?_
    · refine w_seq fun K245 hK245 => ?_
      refine w_region ?_
      refine wl_val (g_assign (v := .int .i64 0) rfl) rfl ?_
      refine wl_nil ?_
      refine hK245 _ _ ?_
      refine w_block ?_
      obtain ⟨I248, μ249, h0250, hr251⟩ := hm
      refine w_for (σ := Int × Int) (fun ⟨v246, v247⟩ => [(0, .slice a0 n0 c0), (1, .slice a1 n1 c1), (5, .int .i64 v246), (6, .int .i64 v247)]) (fun ⟨v246, v247⟩ w' => I248 v246 v247 ∧ Below w.heap.size w w' ∧ Sep w' w.heap.size []) (fun ⟨v246, v247⟩ => μ249 v246 v247) (0, 0) ⟨rfl, rfl, rfl, rfl, trivial⟩ ⟨h0250, hB0, hS0⟩ ?_
      rintro ⟨v246, v247⟩ b_ w252 ⟨hi_, hB253, hS254⟩
      show Wp _ _ _ _ (upds b_ [(0, .slice a0 n0 c0), (1, .slice a1 n1 c1), (5, .int .i64 v246), (6, .int .i64 v247)]) w252
      have hm := hr251 v246 v247 hi_
      refine w_seq fun K256 hK256 => ?_
      refine w_seq fun K257 hK257 => ?_
      refine w_region ?_
      refine wl_val (g_move (v := .int .i64 v247) rfl) rfl ?_
      obtain ⟨hg258, hm⟩ := hm
      refine wl_val (g_add (a := v247) (b := 1) rfl rfl hg258) rfl ?_
      refine wl_val (g_move (v := .slice a0 n0 c0) rfl) rfl ?_
      refine wl_val (q_len SL22 rfl (Tv.len (hp0.bel hB253))) rfl ?_
      refine wl_val (g_lss (a := (v247 + 1)) (b := (p0.length : Int)) rfl rfl) rfl ?_
      refine wl_nil ?_
      refine hK257 _ _ ?_
      refine w_condI (p := (v247 + 1) < (p0.length : Int)) (b := (decide ((v247 + 1) < (p0.length : Int)))) rfl decide_eq_true_iff (fun h259 => ?_) (fun h259 => ?_)
      · replace hm := hm.1 h259
        refine w_skip ?_
        refine hK256 _ _ ?_
        refine w_seq fun K260 hK260 => ?_
        refine w_block ?_
        refine w_seq fun K261 hK261 => ?_
        refine w_draw (X := Ext) (Y := Ext) [] MIX (by decide +kernel) rfl Ext.refl (fun _ _ _ => Ext.trans) (fun _ _ _ => Chg.trans) (fun _ _ h => Ext.chg h _) (fun w262 hE263 => ?_)
        have hB264 := hB253.trans (Ext.stp hE263 hS254.base)
        have hS265 := hS254.ext hE263
        refine ⟨.slice a0 n0 c0, fun w266 hX267 => od_plain rfl (by have hS268 := hS265.ext hX267; have hB269 := hB264.trans (Ext.stp hX267 hS265.base); exact is_ext (g_move (v := .slice a0 n0 c0) rfl)), ?_⟩
        refine ⟨.int .i64 v247, fun w270 hX271 => od_plain rfl (by have hS272 := hS265.ext hX271; have hB273 := hB264.trans (Ext.stp hX271 hS265.base); exact is_ext (g_move (v := .int .i64 v247) rfl)), ?_⟩
        obtain ⟨hg278, hm⟩ := hm
        refine ⟨.pointer (some ((adr a0).add ((Int.toNat v247) * El.m (Hd Int)))), fun w274 hX275 => od_plain rfl (by have hS276 := hS265.ext hX275; have hB277 := hB264.trans (Ext.stp hX275 hS265.base); exact is_ext (q_index (i := v247) SL22 rfl rfl (Tv.o (hp0.bel hB277)) (Tv.g (hp0.bel hB277) hg278))), ?_⟩
        refine ⟨.slice ((y0[(Int.toNat v247)]!).1) ((y0[(Int.toNat v247)]!).2.2.length) ((y0[(Int.toNat v247)]!).2.1), fun w279 hX280 => od_plain rfl (by have hS281 := hS265.ext hX280; have hB282 := hB264.trans (Ext.stp hX280 hS265.base); exact is_ext (q_load (i := v247) (v := .slice ((y0[(Int.toNat v247)]!).1) ((y0[(Int.toNat v247)]!).2.2.length) ((y0[(Int.toNat v247)]!).2.1)) ON35 (Tv.o (hp0.bel hB282)) (Tv.g (hp0.bel hB282) hg278) rfl rfl)), ?_⟩
        refine ⟨.slice a1 n1 c1, fun w283 hX284 => od_plain rfl (by have hS285 := hS265.ext hX284; have hB286 := hB264.trans (Ext.stp hX284 hS265.base); exact is_ext (g_move (v := .slice a1 n1 c1) rfl)), ?_⟩
        refine ⟨.int .i64 v247, fun w287 hX288 => od_plain rfl (by have hS289 := hS265.ext hX288; have hB290 := hB264.trans (Ext.stp hX288 hS265.base); exact is_ext (g_move (v := .int .i64 v247) rfl)), ?_⟩
        obtain ⟨hg295, hm⟩ := hm
        refine ⟨.pointer (some ((adr a1).add ((Int.toNat v247) * El.m (Hd Int)))), fun w291 hX292 => od_plain rfl (by have hS293 := hS265.ext hX292; have hB294 := hB264.trans (Ext.stp hX292 hS265.base); exact is_ext (q_index (i := v247) SL22 rfl rfl (Tv.o (hp1.bel hB294)) (Tv.g (hp1.bel hB294) hg295))), ?_⟩
        refine ⟨.slice ((y1[(Int.toNat v247)]!).1) ((y1[(Int.toNat v247)]!).2.2.length) ((y1[(Int.toNat v247)]!).2.1), fun w296 hX297 => od_plain rfl (by have hS298 := hS265.ext hX297; have hB299 := hB264.trans (Ext.stp hX297 hS265.base); exact is_ext (q_load (i := v247) (v := .slice ((y1[(Int.toNat v247)]!).1) ((y1[(Int.toNat v247)]!).2.2.length) ((y1[(Int.toNat v247)]!).2.1)) ON35 (Tv.o (hp1.bel hB299)) (Tv.g (hp1.bel hB299) hg295) rfl rfl)), ?_⟩
        refine ⟨.slice a0 n0 c0, fun w300 hX301 => od_plain rfl (by have hS302 := hS265.ext hX301; have hB303 := hB264.trans (Ext.stp hX301 hS265.base); exact is_ext (g_move (v := .slice a0 n0 c0) rfl)), ?_⟩
        refine ⟨.int .i64 v247, fun w304 hX305 => od_plain rfl (by have hS306 := hS265.ext hX305; have hB307 := hB264.trans (Ext.stp hX305 hS265.base); exact is_ext (g_move (v := .int .i64 v247) rfl)), ?_⟩
        obtain ⟨hg312, hm⟩ := hm
        refine ⟨.int .i64 (v247 + 1), fun w308 hX309 => od_plain rfl (by have hS310 := hS265.ext hX309; have hB311 := hB264.trans (Ext.stp hX309 hS265.base); exact is_ext (g_add (a := v247) (b := 1) rfl rfl hg312)), ?_⟩
        obtain ⟨hg317, hm⟩ := hm
        refine ⟨.pointer (some ((adr a0).add ((Int.toNat (v247 + 1)) * El.m (Hd Int)))), fun w313 hX314 => od_plain rfl (by have hS315 := hS265.ext hX314; have hB316 := hB264.trans (Ext.stp hX314 hS265.base); exact is_ext (q_index (i := (v247 + 1)) SL22 rfl rfl (Tv.o (hp0.bel hB316)) (Tv.g (hp0.bel hB316) hg317))), ?_⟩
        refine ⟨.slice ((y0[(Int.toNat (v247 + 1))]!).1) ((y0[(Int.toNat (v247 + 1))]!).2.2.length) ((y0[(Int.toNat (v247 + 1))]!).2.1), fun w318 hX319 => od_plain rfl (by have hS320 := hS265.ext hX319; have hB321 := hB264.trans (Ext.stp hX319 hS265.base); exact is_ext (q_load (i := (v247 + 1)) (v := .slice ((y0[(Int.toNat (v247 + 1))]!).1) ((y0[(Int.toNat (v247 + 1))]!).2.2.length) ((y0[(Int.toNat (v247 + 1))]!).2.1)) ON35 (Tv.o (hp0.bel hB321)) (Tv.g (hp0.bel hB321) hg317) rfl rfl)), ?_⟩
        refine ⟨.slice a1 n1 c1, fun w322 hX323 => od_plain rfl (by have hS324 := hS265.ext hX323; have hB325 := hB264.trans (Ext.stp hX323 hS265.base); exact is_ext (g_move (v := .slice a1 n1 c1) rfl)), ?_⟩
        refine ⟨.int .i64 v247, fun w326 hX327 => od_plain rfl (by have hS328 := hS265.ext hX327; have hB329 := hB264.trans (Ext.stp hX327 hS265.base); exact is_ext (g_move (v := .int .i64 v247) rfl)), ?_⟩
        obtain ⟨hg334, hm⟩ := hm
        refine ⟨.int .i64 (v247 + 1), fun w330 hX331 => od_plain rfl (by have hS332 := hS265.ext hX331; have hB333 := hB264.trans (Ext.stp hX331 hS265.base); exact is_ext (g_add (a := v247) (b := 1) rfl rfl hg334)), ?_⟩
        obtain ⟨hg339, hm⟩ := hm
        refine ⟨.pointer (some ((adr a1).add ((Int.toNat (v247 + 1)) * El.m (Hd Int)))), fun w335 hX336 => od_plain rfl (by have hS337 := hS265.ext hX336; have hB338 := hB264.trans (Ext.stp hX336 hS265.base); exact is_ext (q_index (i := (v247 + 1)) SL22 rfl rfl (Tv.o (hp1.bel hB338)) (Tv.g (hp1.bel hB338) hg339))), ?_⟩
        refine ⟨.slice ((y1[(Int.toNat (v247 + 1))]!).1) ((y1[(Int.toNat (v247 + 1))]!).2.2.length) ((y1[(Int.toNat (v247 + 1))]!).2.1), fun w340 hX341 => od_plain rfl (by have hS342 := hS265.ext hX341; have hB343 := hB264.trans (Ext.stp hX341 hS265.base); exact is_ext (q_load (i := (v247 + 1)) (v := .slice ((y1[(Int.toNat (v247 + 1))]!).1) ((y1[(Int.toNat (v247 + 1))]!).2.2.length) ((y1[(Int.toNat (v247 + 1))]!).2.1)) ON35 (Tv.o (hp1.bel hB343)) (Tv.g (hp1.bel hB343) hg339) rfl rfl)), ?_⟩
        obtain ⟨r348, hk349, hm⟩ := hm
        refine ⟨.int .i64 r348, fun w344 hX345 => od_plain rfl (by have hS346 := hS265.ext hX345; have hB347 := hB264.trans (Ext.stp hX345 hS265.base); exact (g_call (vs := #[.slice ((y0[(Int.toNat v247)]!).1) ((y0[(Int.toNat v247)]!).2.2.length) ((y0[(Int.toNat v247)]!).2.1), .slice ((y1[(Int.toNat v247)]!).1) ((y1[(Int.toNat v247)]!).2.2.length) ((y1[(Int.toNat v247)]!).2.1), .slice ((y0[(Int.toNat (v247 + 1))]!).1) ((y0[(Int.toNat (v247 + 1))]!).2.2.length) ((y0[(Int.toNat (v247 + 1))]!).2.1), .slice ((y1[(Int.toNat (v247 + 1))]!).1) ((y1[(Int.toNat (v247 + 1))]!).2.2.length) ((y1[(Int.toNat (v247 + 1))]!).2.1)]) CF56 (args4 rfl rfl rfl rfl) ((m_impl_ChangesBetween_fn ((Tv.row (hp0.bel hB347) hg278).up hS346) ((Tv.row (hp1.bel hB347) hg295).up hS346) ((Tv.row (hp0.bel hB347) hg317).up hS346) ((Tv.row (hp1.bel hB347) hg339).up hS346) hk349).mono fun _ _ ⟨_, h1, h2, h3⟩ => ⟨by rw [h2, h1], h3⟩))), ?_⟩
        refine ⟨.int .i64 r348, fun w350 hX351 => od_plain rfl (by have hS352 := hS265.ext hX351; have hB353 := hB264.trans (Ext.stp hX351 hS265.base); exact is_ext (g_assign (v := .int .i64 r348) rfl)), ?_⟩
        intro w354 hX355
        have hB356 := hB264.trans (Ext.stp hX355 hS265.base)
        have hS357 := hS265.ext hX355
        refine hK261 _ _ ?_
        refine w_seq fun K358 hK358 => ?_
        refine w_seq fun K359 hK359 => ?_
        refine w_region ?_
        refine wl_val (g_move (v := .int .i64 r348) rfl) rfl ?_
        refine wl_val (g_lss (a := r348) (b := 0) rfl rfl) rfl ?_
        refine wl_nil ?_
        refine hK359 _ _ ?_
        refine w_condI (p := r348 < 0) (b := (decide (r348 < 0))) rfl decide_eq_true_iff (fun h360 => ?_) (fun h360 => ?_)
        · replace hm := hm.1 h360
          refine w_seq fun K361 hK361 => ?_
          refine w_region ?_
          refine wl_val (g_assign (v := .int .i64 (-1)) rfl) rfl ?_
          refine wl_nil ?_
          refine hK361 _ _ ?_
          refine w_ret ?_
          repeat first | with_reducible refine q_then ?_ | with_reducible refine q_block ?_
          exact ret1 rfl (by decide) ⟨_, hm, rfl, toExt hB356⟩
        · replace hm := hm.2 h360
          refine w_skip ?_
          refine hK358 _ _ ?_
          refine w_region ?_
          refine wl_val (g_move (v := .int .i64 v246) rfl) rfl ?_
          refine wl_val (g_move (v := .int .i64 r348) rfl) rfl ?_
          obtain ⟨hg362, hm⟩ := hm
          refine wl_val (g_add (a := v246) (b := r348) rfl rfl hg362) rfl ?_
          refine wl_val (g_assign (v := .int .i64 (v246 + r348)) rfl) rfl ?_
          refine wl_nil ?_
          refine hK260 _ _ ?_
          refine w_region ?_
          refine wl_val (g_move (v := .int .i64 v247) rfl) rfl ?_
          obtain ⟨hg363, hm⟩ := hm
          refine wl_val (g_add (a := v247) (b := 1) rfl rfl hg363) rfl ?_
          refine wl_val (g_assign (v := .int .i64 (v247 + 1)) rfl) rfl ?_
          refine wl_nil ?_
          exact ⟨((v246 + r348), (v247 + 1)), hm.2, ⟨rfl, rfl, rfl, rfl, trivial⟩, ⟨hm.1, hB356, hS357⟩⟩
      · replace hm := hm.2 h259
        refine w_exit ?_
        exact ⟨(v246), ⟨rfl, trivial⟩, ⟨hm, hB253, hS254⟩⟩
    · rintro v243 b_ w364 ⟨hm, hB365, hS366⟩
      show Wp _ _ _ _ (upds b_ [(5, .int .i64 v243)]) w364
      refine w_seq fun K367 hK367 => ?_
      refine w_region ?_
      refine wl_val (g_move (v := .int .i64 v243) rfl) rfl ?_
      refine wl_val (g_assign (v := .int .i64 v243) rfl) rfl ?_
      refine wl_nil ?_
      refine hK367 _ _ ?_
      refine w_ret ?_
      repeat first | with_reducible refine q_then ?_ | with_reducible refine q_block ?_
      exact ret1 rfl (by decide) ⟨_, hm, rfl, toExt hB365⟩

theorem m_laws_eqIntS_fn {w : World} {a0 : Option Addr} {n0 c0 : Nat} {p0 : List Int} {a1 : Option Addr} {n1 c1 : Nat} {p1 : List Int} {Q : Bool → Prop} (hp0 : Vw w.heap.size w a0 n0 c0 p0) (hp1 : Vw w.heap.size w a1 n1 c1 p1) (hm : m_laws_eqIntS p0 p1 Q) :
    Fn Try.prog 31 #[.slice a0 n0 c0, .slice a1 n1 c1] w (fun v w' => ∃ (r0 : Bool), Q r0 ∧ v = .bool r0 ∧ Ext w w') := by
  unfold m_laws_eqIntS at hm
  have hB0 := Below.refl w.heap.size w
  have hS0 : Sep w w.heap.size [] := Sep.nil (Nat.le_refl _)
  refine fn_of_wp Try.func31 rfl (by kernel_rfl) (Nat.le_of_ble_eq_true rfl) ?_
  refine w_seq fun K1 hK1 => ?_
  refine w_region ?_
  refine wl_val (g_assign (v := .bool false) rfl) rfl ?_
  refine wl_nil ?_
  refine hK1 _ _ ?_
  refine w_seq fun K2 hK2 => ?_
  refine w_seq fun K3 hK3 => ?_
  refine w_region ?_
  refine wl_val (g_move (v := .slice a0 n0 c0) rfl) rfl ?_
  refine wl_val (q_len SL35 rfl (Vw.len (hp0.bel hB0))) rfl ?_
  refine wl_val (g_move (v := .slice a1 n1 c1) rfl) rfl ?_
  refine wl_val (q_len SL35 rfl (Vw.len (hp1.bel hB0))) rfl ?_
  refine wl_val (g_neq (a := (p0.length : Int)) (b := (p1.length : Int)) rfl rfl) rfl ?_
  refine wl_nil ?_
  refine hK3 _ _ ?_
  refine w_condI (p := (p0.length : Int) ≠ (p1.length : Int)) (b := (decide ((p0.length : Int) ≠ (p1.length : Int)))) rfl decide_eq_true_iff (fun h4 => ?_) (fun h4 => ?_)
  · replace hm := hm.1 h4
    refine w_seq fun K5 hK5 => ?_
    refine w_region ?_
    refine wl_val (g_assign (v := .bool false) rfl) rfl ?_
    refine wl_nil ?_
    refine hK5 _ _ ?_
    refine w_ret ?_
    repeat first | with_reducible refine q_then ?_ | with_reducible refine q_block ?_
    exact ret1 rfl (by decide) ⟨_, hm, rfl, toExt hB0⟩
  · replace hm := hm.2 h4
    refine w_skip ?_
    refine hK2 _ _ ?_
    refine w_cut (σ := Unit) (fun _ => []) (fun _ w' => m_laws_eqIntS_K0 Q ∧ Below w.heap.size w w' ∧ Sep w' w.heap.size []) ?_ ?_
    · refine w_seq fun K7 hK7 => ?_
      refine w_region ?_
      refine wl_val (g_assign (v := .int .i64 0) rfl) rfl ?_
      refine wl_nil ?_
      refine hK7 _ _ ?_
      refine w_block ?_
      obtain ⟨I71, μ72, h073, hr74⟩ := hm
      refine w_for (σ := Int) (fun v70 => [(0, .slice a0 n0 c0), (1, .slice a1 n1 c1), (5, .int .i64 v70)]) (fun v70 w' => I71 v70 ∧ Below w.heap.size w w' ∧ Sep w' w.heap.size []) (fun v70 => μ72 v70) (0) ⟨rfl, rfl, rfl, trivial⟩ ⟨h073, hB0, hS0⟩ ?_
      rintro v70 b_ w75 ⟨hi_, hB76, hS77⟩
      show Wp _ _ _ _ (upds b_ [(0, .slice a0 n0 c0), (1, .slice a1 n1 c1), (5, .int .i64 v70)]) w75
      have hm := hr74 v70 hi_
      refine w_seq fun K79 hK79 => ?_
      refine w_seq fun K80 hK80 => ?_
      refine w_region ?_
      refine wl_val (g_move (v := .int .i64 v70) rfl) rfl ?_
      refine wl_val (g_move (v := .slice a0 n0 c0) rfl) rfl ?_
      refine wl_val (q_len SL35 rfl (Vw.len (hp0.bel hB76))) rfl ?_
      refine wl_val (g_lss (a := v70) (b := (p0.length : Int)) rfl rfl) rfl ?_
      refine wl_nil ?_
      refine hK80 _ _ ?_
      refine w_condI (p := v70 < (p0.length : Int)) (b := (decide (v70 < (p0.length : Int)))) rfl decide_eq_true_iff (fun h81 => ?_) (fun h81 => ?_)
      · replace hm := hm.1 h81
        refine w_skip ?_
        refine hK79 _ _ ?_
        refine w_seq fun K82 hK82 => ?_
        refine w_block ?_
        refine w_seq fun K83 hK83 => ?_
        refine w_draw (X := Ext) (Y := Ext) [] MIX (by decide +kernel) rfl Ext.refl (fun _ _ _ => Ext.trans) (fun _ _ _ => Chg.trans) (fun _ _ h => Ext.chg h _) (fun w84 hE85 => ?_)
        have hB86 := hB76.trans (Ext.stp hE85 hS77.base)
        have hS87 := hS77.ext hE85
        refine ⟨.slice a0 n0 c0, fun w88 hX89 => od_plain rfl (by have hS90 := hS87.ext hX89; have hB91 := hB86.trans (Ext.stp hX89 hS87.base); exact is_ext (g_move (v := .slice a0 n0 c0) rfl)), ?_⟩
        refine ⟨.int .i64 v70, fun w92 hX93 => od_plain rfl (by have hS94 := hS87.ext hX93; have hB95 := hB86.trans (Ext.stp hX93 hS87.base); exact is_ext (g_move (v := .int .i64 v70) rfl)), ?_⟩
        obtain ⟨hg100, hm⟩ := hm
        refine ⟨.pointer (some ((adr a0).add ((Int.toNat v70) * El.m Int))), fun w96 hX97 => od_plain rfl (by have hS98 := hS87.ext hX97; have hB99 := hB86.trans (Ext.stp hX97 hS87.base); exact is_ext (q_index (i := v70) SL35 rfl rfl (hp0.bel hB99) hg100)), ?_⟩
        refine ⟨.int .i64 (p0[(Int.toNat v70)]!), fun w101 hX102 => od_plain rfl (by have hS103 := hS87.ext hX102; have hB104 := hB86.trans (Ext.stp hX102 hS87.base); exact is_ext (q_load (i := v70) (v := .int .i64 (p0[(Int.toNat v70)]!)) ON3 (hp0.bel hB104) hg100 rfl rfl)), ?_⟩
        refine ⟨.slice a1 n1 c1, fun w105 hX106 => od_plain rfl (by have hS107 := hS87.ext hX106; have hB108 := hB86.trans (Ext.stp hX106 hS87.base); exact is_ext (g_move (v := .slice a1 n1 c1) rfl)), ?_⟩
        refine ⟨.int .i64 v70, fun w109 hX110 => od_plain rfl (by have hS111 := hS87.ext hX110; have hB112 := hB86.trans (Ext.stp hX110 hS87.base); exact is_ext (g_move (v := .int .i64 v70) rfl)), ?_⟩
        obtain ⟨hg117, hm⟩ := hm
        refine ⟨.pointer (some ((adr a1).add ((Int.toNat v70) * El.m Int))), fun w113 hX114 => od_plain rfl (by have hS115 := hS87.ext hX114; have hB116 := hB86.trans (Ext.stp hX114 hS87.base); exact is_ext (q_index (i := v70) SL35 rfl rfl (hp1.bel hB116) hg117)), ?_⟩
        refine ⟨.int .i64 (p1[(Int.toNat v70)]!), fun w118 hX119 => od_plain rfl (by have hS120 := hS87.ext hX119; have hB121 := hB86.trans (Ext.stp hX119 hS87.base); exact is_ext (q_load (i := v70) (v := .int .i64 (p1[(Int.toNat v70)]!)) ON3 (hp1.bel hB121) hg117 rfl rfl)), ?_⟩
        refine ⟨.bool (decide (p0[(Int.toNat v70)]! ≠ p1[(Int.toNat v70)]!)), fun w122 hX123 => od_plain rfl (by have hS124 := hS87.ext hX123; have hB125 := hB86.trans (Ext.stp hX123 hS87.base); exact is_ext (g_neq (a := p0[(Int.toNat v70)]!) (b := p1[(Int.toNat v70)]!) rfl rfl)), ?_⟩
        intro w126 hX127
        have hB128 := hB86.trans (Ext.stp hX127 hS87.base)
        have hS129 := hS87.ext hX127
        refine hK83 _ _ ?_
        refine w_condI (p := p0[(Int.toNat v70)]! ≠ p1[(Int.toNat v70)]!) (b := (decide (p0[(Int.toNat v70)]! ≠ p1[(Int.toNat v70)]!))) rfl decide_eq_true_iff (fun h130 => ?_) (fun h130 => ?_)
        · replace hm := hm.1 h130
          refine w_seq fun K131 hK131 => ?_
          refine w_region ?_
          refine wl_val (g_assign (v := .bool false) rfl) rfl ?_
          refine wl_nil ?_
          refine hK131 _ _ ?_
          refine w_ret ?_
          repeat first | with_reducible refine q_then ?_ | with_reducible refine q_block ?_
          exact ret1 rfl (by decide) ⟨_, hm, rfl, toExt hB128⟩
        · replace hm := hm.2 h130
          refine w_skip ?_
          refine hK82 _ _ ?_
          refine w_region ?_
          refine wl_val (g_move (v := .int .i64 v70) rfl) rfl ?_
          obtain ⟨hg132, hm⟩ := hm
          refine wl_val (g_add (a := v70) (b := 1) rfl rfl hg132) rfl ?_
          refine wl_val (g_assign (v := .int .i64 (v70 + 1)) rfl) rfl ?_
          refine wl_nil ?_
          exact ⟨((v70 + 1)), hm.2, ⟨rfl, rfl, rfl, trivial⟩, ⟨hm.1, hB128, hS129⟩⟩
      · replace hm := hm.2 h81
        refine w_exit ?_
        exact ⟨(), trivial, ⟨hm, hB76, hS77⟩⟩
    · rintro _ b_ w133 ⟨hm, hB134, hS135⟩
      show Wp _ _ _ _ (upds b_ []) w133
      refine w_seq fun K136 hK136 => ?_
      refine w_region ?_
      refine wl_val (g_assign (v := .bool true) rfl) rfl ?_
      refine wl_nil ?_
      refine hK136 _ _ ?_
      refine w_ret ?_
      repeat first | with_reducible refine q_then ?_ | with_reducible refine q_block ?_
      exact ret1 rfl (by decide) ⟨_, hm, rfl, toExt hB134⟩

theorem m_laws_eqIntSS_fn {w : World} {a0 : Option Addr} {n0 c0 : Nat} {y0 : List (Hd Int)} {p0 : List (List Int)} {a1 : Option Addr} {n1 c1 : Nat} {y1 : List (Hd Int)} {p1 : List (List Int)} {Q : Bool → Prop} (hp0 : Tv w.heap.size w a0 n0 c0 y0 p0) (hp1 : Tv w.heap.size w a1 n1 c1 y1 p1) (hm : m_laws_eqIntSS p0 p1 Q) :
    Fn Try.prog 20 #[.slice a0 n0 c0, .slice a1 n1 c1] w (fun v w' => ∃ (r0 : Bool), Q r0 ∧ v = .bool r0 ∧ Ext w w') := by
  unfold m_laws_eqIntSS at hm
  have hB0 := Below.refl w.heap.size w
  have hS0 : Sep w w.heap.size [] := Sep.nil (Nat.le_refl _)
  refine fn_of_wp Try.func20 rfl (by kernel_rfl) (Nat.le_of_ble_eq_true rfl) ?_
  refine w_seq fun K1 hK1 => ?_
  refine w_region ?_
  refine wl_val (g_assign (v := .bool false) rfl) rfl ?_
  refine wl_nil ?_
  refine hK1 _ _ ?_
  refine w_seq fun K2 hK2 => ?_
  refine w_seq fun K3 hK3 => ?_
  refine w_region ?_
  refine wl_val (g_move (v := .slice a0 n0 c0) rfl) rfl ?_
  refine wl_val (q_len SL22 rfl (Tv.len (hp0.bel hB0))) rfl ?_
  refine wl_val (g_move (v := .slice a1 n1 c1) rfl) rfl ?_
  refine wl_val (q_len SL22 rfl (Tv.len (hp1.bel hB0))) rfl ?_
  refine wl_val (g_neq (a := (p0.length : Int)) (b := (p1.length : Int)) rfl rfl) rfl ?_
  refine wl_nil ?_
  refine hK3 _ _ ?_
  refine w_condI (p := (p0.length : Int) ≠ (p1.length : Int)) (b := (decide ((p0.length : Int) ≠ (p1.length : Int)))) rfl decide_eq_true_iff (fun h4 => ?_) (fun h4 => ?_)
  · replace hm := hm.1 h4
    refine w_seq fun K5 hK5 => ?_
    refine w_region ?_
    refine wl_val (g_assign (v := .bool false) rfl) rfl ?_
    refine wl_nil ?_
    refine hK5 _ _ ?_
    refine w_ret ?_
    repeat first | with_reducible refine q_then ?_ | with_reducible refine q_block ?_
    exact ret1 rfl (by decide) ⟨_, hm, rfl, toExt hB0⟩
  · replace hm := hm.2 h4
    refine w_skip ?_
    refine hK2 _ _ ?_
    refine w_cut (σ := Unit) (fun _ => []) (fun _ w' => m_laws_eqIntSS_K0 Q ∧ Below w.heap.size w w' ∧ Sep w' w.heap.size []) ?_ ?_
    · refine w_seq fun K7 hK7 => ?_
      refine w_region ?_
      refine wl_val (g_assign (v := .int .i64 0) rfl) rfl ?_
      refine wl_nil ?_
      refine hK7 _ _ ?_
      refine w_block ?_
      obtain ⟨I77, μ78, h079, hr80⟩ := hm
      refine w_for (σ := Int) (fun v76 => [(0, .slice a0 n0 c0), (1, .slice a1 n1 c1), (5, .int .i64 v76)]) (fun v76 w' => I77 v76 ∧ Below w.heap.size w w' ∧ Sep w' w.heap.size []) (fun v76 => μ78 v76) (0) ⟨rfl, rfl, rfl, trivial⟩ ⟨h079, hB0, hS0⟩ ?_
      rintro v76 b_ w81 ⟨hi_, hB82, hS83⟩
      show Wp _ _ _ _ (upds b_ [(0, .slice a0 n0 c0), (1, .slice a1 n1 c1), (5, .int .i64 v76)]) w81
      have hm := hr80 v76 hi_
      refine w_seq fun K85 hK85 => ?_
      refine w_seq fun K86 hK86 => ?_
      refine w_region ?_
      refine wl_val (g_move (v := .int .i64 v76) rfl) rfl ?_
      refine wl_val (g_move (v := .slice a0 n0 c0) rfl) rfl ?_
      refine wl_val (q_len SL22 rfl (Tv.len (hp0.bel hB82))) rfl ?_
      refine wl_val (g_lss (a := v76) (b := (p0.length : Int)) rfl rfl) rfl ?_
      refine wl_nil ?_
      refine hK86 _ _ ?_
      refine w_condI (p := v76 < (p0.length : Int)) (b := (decide (v76 < (p0.length : Int)))) rfl decide_eq_true_iff (fun h87 => ?_) (fun h87 => ?_)
      · replace hm := hm.1 h87
        refine w_skip ?_
        refine hK85 _ _ ?_
        refine w_seq fun K88 hK88 => ?_
        refine w_block ?_
        refine w_seq fun K89 hK89 => ?_
        refine w_draw (X := Ext) (Y := Ext) [] MIX (by decide +kernel) rfl Ext.refl (fun _ _ _ => Ext.trans) (fun _ _ _ => Chg.trans) (fun _ _ h => Ext.chg h _) (fun w90 hE91 => ?_)
        have hB92 := hB82.trans (Ext.stp hE91 hS83.base)
        have hS93 := hS83.ext hE91
        refine ⟨.slice a0 n0 c0, fun w94 hX95 => od_plain rfl (by have hS96 := hS93.ext hX95; have hB97 := hB92.trans (Ext.stp hX95 hS93.base); exact is_ext (g_move (v := .slice a0 n0 c0) rfl)), ?_⟩
        refine ⟨.int .i64 v76, fun w98 hX99 => od_plain rfl (by have hS100 := hS93.ext hX99; have hB101 := hB92.trans (Ext.stp hX99 hS93.base); exact is_ext (g_move (v := .int .i64 v76) rfl)), ?_⟩
        obtain ⟨hg106, hm⟩ := hm
        refine ⟨.pointer (some ((adr a0).add ((Int.toNat v76) * El.m (Hd Int)))), fun w102 hX103 => od_plain rfl (by have hS104 := hS93.ext hX103; have hB105 := hB92.trans (Ext.stp hX103 hS93.base); exact is_ext (q_index (i := v76) SL22 rfl rfl (Tv.o (hp0.bel hB105)) (Tv.g (hp0.bel hB105) hg106))), ?_⟩
        refine ⟨.slice ((y0[(Int.toNat v76)]!).1) ((y0[(Int.toNat v76)]!).2.2.length) ((y0[(Int.toNat v76)]!).2.1), fun w107 hX108 => od_plain rfl (by have hS109 := hS93.ext hX108; have hB110 := hB92.trans (Ext.stp hX108 hS93.base); exact is_ext (q_load (i := v76) (v := .slice ((y0[(Int.toNat v76)]!).1) ((y0[(Int.toNat v76)]!).2.2.length) ((y0[(Int.toNat v76)]!).2.1)) ON35 (Tv.o (hp0.bel hB110)) (Tv.g (hp0.bel hB110) hg106) rfl rfl)), ?_⟩
        refine ⟨.slice a1 n1 c1, fun w111 hX112 => od_plain rfl (by have hS113 := hS93.ext hX112; have hB114 := hB92.trans (Ext.stp hX112 hS93.base); exact is_ext (g_move (v := .slice a1 n1 c1) rfl)), ?_⟩
        refine ⟨.int .i64 v76, fun w115 hX116 => od_plain rfl (by have hS117 := hS93.ext hX116; have hB118 := hB92.trans (Ext.stp hX116 hS93.base); exact is_ext (g_move (v := .int .i64 v76) rfl)), ?_⟩
        obtain ⟨hg123, hm⟩ := hm
        refine ⟨.pointer (some ((adr a1).add ((Int.toNat v76) * El.m (Hd Int)))), fun w119 hX120 => od_plain rfl (by have hS121 := hS93.ext hX120; have hB122 := hB92.trans (Ext.stp hX120 hS93.base); exact is_ext (q_index (i := v76) SL22 rfl rfl (Tv.o (hp1.bel hB122)) (Tv.g (hp1.bel hB122) hg123))), ?_⟩
        refine ⟨.slice ((y1[(Int.toNat v76)]!).1) ((y1[(Int.toNat v76)]!).2.2.length) ((y1[(Int.toNat v76)]!).2.1), fun w124 hX125 => od_plain rfl (by have hS126 := hS93.ext hX125; have hB127 := hB92.trans (Ext.stp hX125 hS93.base); exact is_ext (q_load (i := v76) (v := .slice ((y1[(Int.toNat v76)]!).1) ((y1[(Int.toNat v76)]!).2.2.length) ((y1[(Int.toNat v76)]!).2.1)) ON35 (Tv.o (hp1.bel hB127)) (Tv.g (hp1.bel hB127) hg123) rfl rfl)), ?_⟩
        obtain ⟨r132, hk133, hm⟩ := hm
        refine ⟨.bool r132, fun w128 hX129 => od_plain rfl (by have hS130 := hS93.ext hX129; have hB131 := hB92.trans (Ext.stp hX129 hS93.base); exact (g_call (vs := #[.slice ((y0[(Int.toNat v76)]!).1) ((y0[(Int.toNat v76)]!).2.2.length) ((y0[(Int.toNat v76)]!).2.1), .slice ((y1[(Int.toNat v76)]!).1) ((y1[(Int.toNat v76)]!).2.2.length) ((y1[(Int.toNat v76)]!).2.1)]) CF31 (args2 rfl rfl) ((m_laws_eqIntS_fn ((Tv.row (hp0.bel hB131) hg106).up hS130) ((Tv.row (hp1.bel hB131) hg123).up hS130) hk133).mono fun _ _ ⟨_, h1, h2, h3⟩ => ⟨by rw [h2, h1], h3⟩))), ?_⟩
        refine ⟨.bool (!r132), fun w134 hX135 => od_plain rfl (by have hS136 := hS93.ext hX135; have hB137 := hB92.trans (Ext.stp hX135 hS93.base); exact is_ext (g_not (a := r132) rfl)), ?_⟩
        intro w138 hX139
        have hB140 := hB92.trans (Ext.stp hX139 hS93.base)
        have hS141 := hS93.ext hX139
        refine hK89 _ _ ?_
        refine w_condI (p := ¬ (r132 = true)) (b := (!r132)) rfl (i_not Iff.rfl) (fun h142 => ?_) (fun h142 => ?_)
        · replace hm := hm.1 h142
          refine w_seq fun K143 hK143 => ?_
          refine w_region ?_
          refine wl_val (g_assign (v := .bool false) rfl) rfl ?_
          refine wl_nil ?_
          refine hK143 _ _ ?_
          refine w_ret ?_
          repeat first | with_reducible refine q_then ?_ | with_reducible refine q_block ?_
          exact ret1 rfl (by decide) ⟨_, hm, rfl, toExt hB140⟩
        · replace hm := hm.2 h142
          refine w_skip ?_
          refine hK88 _ _ ?_
          refine w_region ?_
          refine wl_val (g_move (v := .int .i64 v76) rfl) rfl ?_
          obtain ⟨hg144, hm⟩ := hm
          refine wl_val (g_add (a := v76) (b := 1) rfl rfl hg144) rfl ?_
          refine wl_val (g_assign (v := .int .i64 (v76 + 1)) rfl) rfl ?_
          refine wl_nil ?_
          exact ⟨((v76 + 1)), hm.2, ⟨rfl, rfl, rfl, trivial⟩, ⟨hm.1, hB140, hS141⟩⟩
      · replace hm := hm.2 h87
        refine w_exit ?_
        exact ⟨(), trivial, ⟨hm, hB82, hS83⟩⟩
    · rintro _ b_ w145 ⟨hm, hB146, hS147⟩
      show Wp _ _ _ _ (upds b_ []) w145
      refine w_seq fun K148 hK148 => ?_
      refine w_region ?_
      refine wl_val (g_assign (v := .bool true) rfl) rfl ?_
      refine wl_nil ?_
      refine hK148 _ _ ?_
      refine w_ret ?_
      repeat first | with_reducible refine q_then ?_ | with_reducible refine q_block ?_
      exact ret1 rfl (by decide) ⟨_, hm, rfl, toExt hB146⟩

theorem m_laws_szPlayer_fn {w : World} {a0_0 : Option Addr} {n0_0 c0_0 : Nat} {Q : Int → Prop} (p0 : PlayerC) (hp0_0 : Vw w.heap.size w a0_0 n0_0 c0_0 p0.1) (p1 : Int) (hm : m_laws_szPlayer p0 p1 Q) :
    Fn Try.prog 57 #[.agg #[.slice a0_0 n0_0 c0_0, .int .i64 p0.2], .int .i64 p1] w (fun v w' => ∃ (r0 : Int), Q r0 ∧ v = .int .i64 r0 ∧ Ext w w') := by
  unfold m_laws_szPlayer at hm
  have hB0 := Below.refl w.heap.size w
  have hS0 : Sep w w.heap.size [] := Sep.nil (Nat.le_refl _)
  refine fn_of_wp Try.func57 rfl (by kernel_rfl) (Nat.le_of_ble_eq_true rfl) ?_
  refine w_seq fun K1 hK1 => ?_
  refine w_region ?_
  refine wl_step rfl (q_box (cs := #[.slice a0_0 n0_0 c0_0, .int .i64 p0.2]) rfl rfl hS0) ?_
  rintro _ w2 ⟨g3, rfl, hS5, hE4⟩
  have hB7 := hB0.trans (Ext.stp hE4 hS0.base)
  refine wl_val (g_assign (v := .int .i64 0) rfl) rfl ?_
  refine wl_nil ?_
  refine hK1 _ _ ?_
  refine w_seq fun K8 hK8 => ?_
  refine w_region ?_
  refine wl_val (g_fieldAddr (q := (⟨g3, 0, none⟩ : Addr)) FL59_0 ON35 rfl) rfl ?_
  refine wl_val (q_loadB (i := 0) (bs := #[.slice a0_0 n0_0 c0_0, .int .i64 p0.2]) hS5.g0 ON35 rfl rfl) rfl ?_
  refine wl_val (g_move (v := .int .i64 p1) rfl) rfl ?_
  refine wl_step rfl (g_call (vs := #[.slice a0_0 n0_0 c0_0, .int .i64 p1]) CF54 (args2 rfl rfl) (m_laws_szIntS_fn ((hp0_0.bel hB7).up hS5) p1 hm)) ?_
  rintro _ w9 ⟨r12, hm, rfl, hE10⟩
  have hB13 := hB7.trans (Ext.stp hE10 hS5.base)
  have hS14 := hS5.ext hE10
  refine wl_val (g_assign (v := .int .i64 r12) rfl) rfl ?_
  refine wl_nil ?_
  refine hK8 _ _ ?_
  refine w_seq fun K15 hK15 => ?_
  refine w_seq fun K16 hK16 => ?_
  refine w_region ?_
  refine wl_val (g_move (v := .int .i64 r12) rfl) rfl ?_
  refine wl_val (g_lss (a := r12) (b := 0) rfl rfl) rfl ?_
  refine wl_nil ?_
  refine hK16 _ _ ?_
  refine w_condI (p := r12 < 0) (b := (decide (r12 < 0))) rfl decide_eq_true_iff (fun h17 => ?_) (fun h17 => ?_)
  · replace hm := hm.1 h17
    refine w_seq fun K18 hK18 => ?_
    refine w_region ?_
    refine wl_val (g_assign (v := .int .i64 (-1)) rfl) rfl ?_
    refine wl_nil ?_
    refine hK18 _ _ ?_
    refine w_ret ?_
    repeat first | with_reducible refine q_then ?_ | with_reducible refine q_block ?_
    exact ret1 rfl (by decide) ⟨_, hm, rfl, toExt hB13⟩
  · replace hm := hm.2 h17
    refine w_skip ?_
    refine hK15 _ _ ?_
    refine w_seq fun K19 hK19 => ?_
    refine w_region ?_
    refine wl_val (g_move (v := .int .i64 r12) rfl) rfl ?_
    refine wl_val (g_assign (v := .int .i64 r12) rfl) rfl ?_
    refine wl_nil ?_
    refine hK19 _ _ ?_
    refine w_ret ?_
    repeat first | with_reducible refine q_then ?_ | with_reducible refine q_block ?_
    exact ret1 rfl (by decide) ⟨_, hm, rfl, toExt hB13⟩

theorem m_laws_szPlayerS_fn {w : World} {a0 : Option Addr} {n0 c0 : Nat} {y0 : List PlayerD} {p0 : List PlayerC} {Q : Int → Prop} (hp0 : Tv w.heap.size w a0 n0 c0 y0 p0) (p1 : Int) (hm : m_laws_szPlayerS p0 p1 Q) :
    Fn Try.prog 21 #[.slice a0 n0 c0, .int .i64 p1] w (fun v w' => ∃ (r0 : Int), Q r0 ∧ v = .int .i64 r0 ∧ Ext w w') := by
  unfold m_laws_szPlayerS at hm
  have hB0 := Below.refl w.heap.size w
  have hS0 : Sep w w.heap.size [] := Sep.nil (Nat.le_refl _)
  refine fn_of_wp Try.func21 rfl (by kernel_rfl) (Nat.le_of_ble_eq_true rfl) ?_
  refine w_seq fun K1 hK1 => ?_
  refine w_region ?_
  refine wl_val (g_assign (v := .int .i64 0) rfl) rfl ?_
  refine wl_nil ?_
  refine hK1 _ _ ?_
  refine w_seq fun K2 hK2 => ?_
  refine w_region ?_
  refine wl_val (g_move (v := .int .i64 p1) rfl) rfl ?_
  refine wl_val (g_move (v := .slice a0 n0 c0) rfl) rfl ?_
  refine wl_val (q_len SL27 rfl (Tv.len (hp0.bel hB0))) rfl ?_
  obtain ⟨hg3, hm⟩ := hm
  refine wl_val (g_sub (a := p1) (b := (p0.length : Int)) rfl rfl hg3) rfl ?_
  refine wl_val (g_assign (v := .int .i64 (p1 - (p0.length : Int))) rfl) rfl ?_
  refine wl_nil ?_
  refine hK2 _ _ ?_
  refine w_seq fun K4 hK4 => ?_
  refine w_seq fun K5 hK5 => ?_
  refine w_region ?_
  refine wl_val (g_move (v := .int .i64 (p1 - (p0.length : Int))) rfl) rfl ?_
  refine wl_val (g_lss (a := (p1 - (p0.length : Int))) (b := 0) rfl rfl) rfl ?_
  refine wl_nil ?_
  refine hK5 _ _ ?_
  refine w_condI (p := (p1 - (p0.length : Int)) < 0) (b := (decide ((p1 - (p0.length : Int)) < 0))) rfl decide_eq_true_iff (fun h6 => ?_) (fun h6 => ?_)
  · replace hm := hm.1 h6
    refine w_seq fun K7 hK7 => ?_
    refine w_region ?_
    refine wl_val (g_assign (v := .int .i64 (-1)) rfl) rfl ?_
    refine wl_nil ?_
    refine hK7 _ _ ?_
    refine w_ret ?_
    repeat first | with_reducible refine q_then ?_ | with_reducible refine q_block ?_
    exact ret1 rfl (by decide) ⟨_, hm, rfl, toExt hB0⟩
  · replace hm := hm.2 h6
    refine w_skip ?_
    refine hK4 _ _ ?_
    refine w_cut (σ := Int) (fun v60 => [(1, .int .i64 v60)]) (fun v60 w' => m_laws_szPlayerS_K0 Q v60 ∧ Below w.heap.size w w' ∧ Sep w' w.heap.size []) ?_ ?_
    · refine w_seq fun K62 hK62 => ?_
      refine w_region ?_
      refine wl_val (g_assign (v := .int .i64 0) rfl) rfl ?_
      refine wl_nil ?_
      refine hK62 _ _ ?_
      refine w_block ?_
      obtain ⟨I65, μ66, h067, hr68⟩ := hm
      refine w_for (σ := Int × Int) (fun ⟨v63, v64⟩ => [(0, .slice a0 n0 c0), (1, .int .i64 v63), (5, .int .i64 v64)]) (fun ⟨v63, v64⟩ w' => I65 v63 v64 ∧ Below w.heap.size w w' ∧ Sep w' w.heap.size []) (fun ⟨v63, v64⟩ => μ66 v63 v64) ((p1 - (p0.length : Int)), 0) ⟨rfl, rfl, rfl, trivial⟩ ⟨h067, hB0, hS0⟩ ?_
      rintro ⟨v63, v64⟩ b_ w69 ⟨hi_, hB70, hS71⟩
      show Wp _ _ _ _ (upds b_ [(0, .slice a0 n0 c0), (1, .int .i64 v63), (5, .int .i64 v64)]) w69
      have hm := hr68 v63 v64 hi_
      refine w_seq fun K73 hK73 => ?_
      refine w_seq fun K74 hK74 => ?_
      refine w_region ?_
      refine wl_val (g_move (v := .int .i64 v64) rfl) rfl ?_
      refine wl_val (g_move (v := .slice a0 n0 c0) rfl) rfl ?_
      refine wl_val (q_len SL27 rfl (Tv.len (hp0.bel hB70))) rfl ?_
      refine wl_val (g_lss (a := v64) (b := (p0.length : Int)) rfl rfl) rfl ?_
      refine wl_nil ?_
      refine hK74 _ _ ?_
      refine w_condI (p := v64 < (p0.length : Int)) (b := (decide (v64 < (p0.length : Int)))) rfl decide_eq_true_iff (fun h75 => ?_) (fun h75 => ?_)
      · replace hm := hm.1 h75
        refine w_skip ?_
        refine hK73 _ _ ?_
        refine w_seq fun K76 hK76 => ?_
        refine w_block ?_
        refine w_seq fun K77 hK77 => ?_
        refine w_region ?_
        refine wl_val (g_move (v := .slice a0 n0 c0) rfl) rfl ?_
        refine wl_val (g_move (v := .int .i64 v64) rfl) rfl ?_
        obtain ⟨hg78, hm⟩ := hm
        refine wl_val (q_index (i := v64) SL27 rfl rfl (Tv.o (hp0.bel hB70)) (Tv.g (hp0.bel hB70) hg78)) rfl ?_
        refine wl_val (q_loadS (i := v64) (cs := [.slice ((y0[(Int.toNat v64)]!).1.1) ((y0[(Int.toNat v64)]!).1.2.2.length) ((y0[(Int.toNat v64)]!).1.2.1), .int .i64 (p0[(Int.toNat v64)]!.2)]) AG59 (Tv.o (hp0.bel hB70)) (Tv.g (hp0.bel hB70) hg78) (by rw [← Tv.free (hp0.bel hB70) hg78]; rfl) rfl) rfl ?_
        refine wl_val (g_move (v := .int .i64 v63) rfl) rfl ?_
        refine wl_step rfl (g_call (vs := #[.agg #[.slice ((y0[(Int.toNat v64)]!).1.1) ((y0[(Int.toNat v64)]!).1.2.2.length) ((y0[(Int.toNat v64)]!).1.2.1), .int .i64 (p0[(Int.toNat v64)]!.2)], .int .i64 v63]) CF57 (args2 rfl rfl) (m_laws_szPlayer_fn (p0[(Int.toNat v64)]!) ((Tv.rowP (hp0.bel hB70) hg78).up hS71) v63 hm)) ?_
        rintro _ w79 ⟨r82, hm, rfl, hE80⟩
        have hB83 := hB70.trans (Ext.stp hE80 hS71.base)
        have hS84 := hS71.ext hE80
        refine wl_val (g_assign (v := .int .i64 r82) rfl) rfl ?_
        refine wl_nil ?_
        refine hK77 _ _ ?_
        refine w_seq fun K85 hK85 => ?_
        refine w_region ?_
        refine wl_val (g_move (v := .int .i64 r82) rfl) rfl ?_
        refine wl_val (g_lss (a := r82) (b := 0) rfl rfl) rfl ?_
        refine wl_nil ?_
        refine hK85 _ _ ?_
        refine w_condI (p := r82 < 0) (b := (decide (r82 < 0))) rfl decide_eq_true_iff (fun h86 => ?_) (fun h86 => ?_)
        · replace hm := hm.1 h86
          refine w_seq fun K87 hK87 => ?_
          refine w_region ?_
          refine wl_val (g_assign (v := .int .i64 (-1)) rfl) rfl ?_
          refine wl_nil ?_
          refine hK87 _ _ ?_
          refine w_ret ?_
          repeat first | with_reducible refine q_then ?_ | with_reducible refine q_block ?_
          exact ret1 rfl (by decide) ⟨_, hm, rfl, toExt hB83⟩
        · replace hm := hm.2 h86
          refine w_skip ?_
          refine hK76 _ _ ?_
          refine w_region ?_
          refine wl_val (g_move (v := .int .i64 v64) rfl) rfl ?_
          obtain ⟨hg88, hm⟩ := hm
          refine wl_val (g_add (a := v64) (b := 1) rfl rfl hg88) rfl ?_
          refine wl_val (g_assign (v := .int .i64 (v64 + 1)) rfl) rfl ?_
          refine wl_nil ?_
          exact ⟨(r82, (v64 + 1)), hm.2, ⟨rfl, rfl, rfl, trivial⟩, ⟨hm.1, hB83, hS84⟩⟩
      · replace hm := hm.2 h75
        refine w_exit ?_
        exact ⟨(v63), ⟨rfl, trivial⟩, ⟨hm, hB70, hS71⟩⟩
    · rintro v60 b_ w89 ⟨hm, hB90, hS91⟩
      show Wp _ _ _ _ (upds b_ [(1, .int .i64 v60)]) w89
      refine w_seq fun K92 hK92 => ?_
      refine w_region ?_
      refine wl_val (g_move (v := .int .i64 v60) rfl) rfl ?_
      refine wl_val (g_assign (v := .int .i64 v60) rfl) rfl ?_
      refine wl_nil ?_
      refine hK92 _ _ ?_
      refine w_ret ?_
      repeat first | with_reducible refine q_then ?_ | with_reducible refine q_block ?_
      exact ret1 rfl (by decide) ⟨_, hm, rfl, toExt hB90⟩

theorem m_laws_toPlayer_fn {w : World} {a0_0 : Option Addr} {n0_0 c0_0 : Nat} {Q : PlayerC → Prop} (p0 : PlayerC) (hp0_0 : Vw w.heap.size w a0_0 n0_0 c0_0 p0.1) (hm : m_laws_toPlayer p0 Q) :
    Fn Try.prog 60 #[.agg #[.slice a0_0 n0_0 c0_0, .int .i64 p0.2]] w (fun v w' => ∃ (r0 : PlayerC) (y0 : PlayerD), Q r0 ∧ Er.er y0 = r0 ∧ v = .agg (El.enc y0).toArray ∧ Ext w w' ∧ Sep w' w.heap.size [oT 3 [y0]]) := by
  unfold m_laws_toPlayer at hm
  have hB0 := Below.refl w.heap.size w
  have hS0 : Sep w w.heap.size [] := Sep.nil (Nat.le_refl _)
  refine fn_of_wp Try.func60 rfl (by kernel_rfl) (Nat.le_of_ble_eq_true rfl) ?_
  refine w_seq fun K1 hK1 => ?_
  refine w_region ?_
  refine wl_step rfl (q_box (cs := #[.slice a0_0 n0_0 c0_0, .int .i64 p0.2]) rfl rfl hS0) ?_
  rintro _ w2 ⟨g3, rfl, hS5, hE4⟩
  have hB7 := hB0.trans (Ext.stp hE4 hS0.base)
  refine wl_step rfl (q_alloc (cs := #[.slice none 0 0, .int .i64 0]) ZR61 rfl hS5) ?_
  rintro _ w8 ⟨g9, rfl, hS11, hE10⟩
  have hB13 := hB7.trans (Ext.stp hE10 hS5.base)
  refine wl_nil ?_
  refine hK1 _ _ ?_
  refine w_seq fun K14 hK14 => ?_
  refine w_region ?_
  refine wl_step rfl (q_alloc (cs := #[.slice none 0 0, .int .i64 0]) ZR61 rfl hS11) ?_
  rintro _ w15 ⟨g16, rfl, hS18, hE17⟩
  have hB20 := hB13.trans (Ext.stp hE17 hS11.base)
  refine wl_nil ?_
  refine hK14 _ _ ?_
  refine w_seq fun K21 hK21 => ?_
  refine w_region ?_
  refine wl_val (g_fieldAddr (q := (⟨g3, 0, none⟩ : Addr)) FL59_0 ON35 rfl) rfl ?_
  refine wl_val (q_loadB (i := 0) (bs := #[.slice a0_0 n0_0 c0_0, .int .i64 p0.2]) hS18.g2 ON35 rfl rfl) rfl ?_
  refine wl_step rfl (g_call (vs := #[.slice a0_0 n0_0 c0_0]) CF29 (args1 rfl) (m_laws_toIntS_fn ((hp0_0.bel hB20).up hS18) hm)) ?_
  rintro _ w22 ⟨r25, a26, n27, c28, hm, rfl, hE23, hN24⟩
  have hS30 := hS18.call1 hE23 hN24
  have hB31 := hB20.trans (Ext.stp hE23 hS18.base)
  refine wl_val (g_fieldAddr (q := (⟨g16, 0, none⟩ : Addr)) FL61_0 ON35 rfl) rfl ?_
  have hS35 := hS30.f1
  refine wl_step rfl (q_storeB (i := 0) (bs' := #[.slice a26 n27 c28, .int .i64 0]) (vs := [.slice a26 n27 c28]) hS35 ON35.sz rfl rfl rfl (by simp [Value.oneCell']) (Nat.le_of_ble_eq_true rfl) rfl) ?_
  rintro _ w32 ⟨rfl, hS33, hb34⟩
  have hB36 := hB31.trans hb34
  refine wl_nil ?_
  refine hK21 _ _ ?_
  refine w_seq fun K37 hK37 => ?_
  refine w_region ?_
  refine wl_val (g_fieldAddr (q := (⟨g3, 0, none⟩ : Addr)) FL59_1 ON3 rfl) rfl ?_
  refine wl_val (q_loadB (i := 1) (bs := #[.slice a0_0 n0_0 c0_0, .int .i64 p0.2]) hS33.g3 ON3 rfl rfl) rfl ?_
  refine wl_val (g_fieldAddr (q := (⟨g16, 0, none⟩ : Addr)) FL61_1 ON3 rfl) rfl ?_
  refine wl_step rfl (q_storeB (i := 1) (bs' := #[.slice a26 n27 c28, .int .i64 p0.2]) (vs := [.int .i64 p0.2]) hS33 ON3.sz rfl rfl rfl (by simp [Value.oneCell']) (Nat.le_of_ble_eq_true rfl) rfl) ?_
  rintro _ w38 ⟨rfl, hS39, hb40⟩
  have hB41 := hB36.trans hb40
  refine wl_nil ?_
  refine hK37 _ _ ?_
  refine w_seq fun K42 hK42 => ?_
  refine w_region ?_
  refine wl_val (q_loadBS (bs := #[.slice a26 n27 c28, .int .i64 p0.2]) hS39.g0 AG61 rfl) rfl ?_
  have hS46 := hS39.f2
  refine wl_step rfl (q_storeB (i := 0) (bs' := #[.slice a26 n27 c28, .int .i64 p0.2]) (vs := [.slice a26 n27 c28, .int .i64 p0.2]) hS46 AG61.sz rfl rfl rfl (by simp [Value.oneCell']) (Nat.le_of_ble_eq_true rfl) rfl) ?_
  rintro _ w43 ⟨rfl, hS44, hb45⟩
  have hB47 := hB41.trans hb45
  refine wl_nil ?_
  refine hK42 _ _ ?_
  refine w_ret ?_
  have hS48 := hS44.f2
  have hn49 := oS.len hS48.g0
  have hS50 := hS48.rowsPlayer p0.2
  have hcell_ : (oB g9 61 #[.slice a26 n27 c28, .int .i64 p0.2]).ok w43 := hS50.g1
  have hS52 := hS50.f1
  have hS53 := hS52.tail
  have hS54 := hS53.f1
  have hS55 := hS54.tail
  have hS56 := hS55.f1
  have hS57 := hS56.tail
  repeat first | with_reducible refine q_then ?_ | with_reducible refine q_block ?_
  exact ret_cell (q := ⟨g9, 0, none⟩) (cs := [.slice a26 n27 c28, .int .i64 p0.2]) rfl (by decide) rfl AG61 (Blk.all hcell_ rfl) ⟨_, (((a26, c28, r25), p0.2) : PlayerD), hm, rfl, (by rw [hn49]; rfl), toExt hB47, hS57⟩

theorem m_laws_toPlayerS_fn {w : World} {a0 : Option Addr} {n0 c0 : Nat} {y0 : List PlayerD} {p0 : List PlayerC} {Q : (List PlayerC) → Prop} (hp0 : Tv w.heap.size w a0 n0 c0 y0 p0) (hm : m_laws_toPlayerS p0 Q) :
    Fn Try.prog 23 #[.slice a0 n0 c0] w (fun v w' => ∃ (r0 : List PlayerC) (a0 : Option Addr) (n0 c0 : Nat) (y0 : List PlayerD), Q r0 ∧ ers y0 = r0 ∧ v = .slice a0 n0 c0 ∧ Ext w w' ∧ Sep w' w.heap.size [oS 61 a0 n0 c0 y0, oT 3 y0]) := by
  unfold m_laws_toPlayerS at hm
  have hB0 := Below.refl w.heap.size w
  have hS0 : Sep w w.heap.size [] := Sep.nil (Nat.le_refl _)
  refine fn_of_wp Try.func23 rfl (by kernel_rfl) (Nat.le_of_ble_eq_true rfl) ?_
  refine w_seq fun K1 hK1 => ?_
  refine w_region ?_
  refine wl_val (g_assign (v := .slice none 0 0) rfl) rfl ?_
  refine wl_nil ?_
  refine hK1 _ _ ?_
  refine w_seq fun K2 hK2 => ?_
  refine w_region ?_
  refine wl_val (g_move (v := .slice a0 n0 c0) rfl) rfl ?_
  refine wl_val (q_len SL27 rfl (Tv.len (hp0.bel hB0))) rfl ?_
  obtain ⟨hg3, hm⟩ := hm
  refine wl_step rfl (q_make (y := (((none, 0, []), 0) : PlayerD)) SL30 rfl rfl hg3.1 hg3.2 (by decide) hS0) ?_
  rintro _ w4 ⟨a5, rfl, hS7, hE6⟩
  have hB9 := hB0.trans (Ext.stp hE6 hS0.base)
  have hS10 := hS7.nilRows (y := (((none, 0, []), 0) : PlayerD)) (E := 3) (fun j hj => by first | rfl | (show (if j = 0 then _ else _) = _; split <;> rfl)) (Int.toNat (p0.length : Int))
  have he12 : ers (List.replicate (Int.toNat (p0.length : Int)) (((none, 0, []), 0) : PlayerD)) = List.replicate (Int.toNat (p0.length : Int)) (([], 0) : PlayerC) := by simp only [ers, List.map_replicate]; rfl
  refine wl_val (g_assign (v := .slice a5 (Int.toNat (p0.length : Int)) (Int.toNat (p0.length : Int))) rfl) rfl ?_
  refine wl_nil ?_
  refine hK2 _ _ ?_
  refine w_cut (σ := List PlayerC × List PlayerD) (fun ⟨x92, y93⟩ => [(3, .slice a5 (Int.toNat (p0.length : Int)) (Int.toNat (p0.length : Int)))]) (fun ⟨x92, y93⟩ w' => m_laws_toPlayerS_K0 Q x92 ∧ ers y93 = x92 ∧ Below w.heap.size w w' ∧ Sep w' w.heap.size [oS 61 a5 (Int.toNat (p0.length : Int)) (Int.toNat (p0.length : Int)) (y93 : List PlayerD), oT 3 (y93 : List PlayerD)]) ?_ ?_
  · refine w_seq fun K96 hK96 => ?_
    refine w_region ?_
    refine wl_val (g_assign (v := .int .i64 0) rfl) rfl ?_
    refine wl_nil ?_
    refine hK96 _ _ ?_
    refine w_block ?_
    have hS101 := hS10.f1
    obtain ⟨I102, μ103, h0104, hr105⟩ := hm
    refine w_for (σ := List PlayerC × List PlayerD × Int) (fun ⟨x97, y98, v100⟩ => [(0, .slice a0 n0 c0), (3, .slice a5 (Int.toNat (p0.length : Int)) (Int.toNat (p0.length : Int))), (4, .int .i64 v100)]) (fun ⟨x97, y98, v100⟩ w' => I102 x97 v100 ∧ ers y98 = x97 ∧ Below w.heap.size w w' ∧ Sep w' w.heap.size [oS 61 a5 (Int.toNat (p0.length : Int)) (Int.toNat (p0.length : Int)) (y98 : List PlayerD), oT 3 (y98 : List PlayerD)]) (fun ⟨x97, y98, v100⟩ => μ103 x97 v100) (List.replicate (Int.toNat (p0.length : Int)) (([], 0) : PlayerC), List.replicate (Int.toNat (p0.length : Int)) (((none, 0, []), 0) : PlayerD), 0) ⟨rfl, rfl, rfl, trivial⟩ ⟨h0104, he12, hB9, hS101⟩ ?_
    rintro ⟨x97, y98, v100⟩ b_ w106 ⟨hi_, he99, hB107, hS108⟩
    show Wp _ _ _ _ (upds b_ [(0, .slice a0 n0 c0), (3, .slice a5 (Int.toNat (p0.length : Int)) (Int.toNat (p0.length : Int))), (4, .int .i64 v100)]) w106
    have hm := hr105 x97 v100 hi_
    refine w_seq fun K110 hK110 => ?_
    refine w_seq fun K111 hK111 => ?_
    refine w_region ?_
    refine wl_val (g_move (v := .int .i64 v100) rfl) rfl ?_
    refine wl_val (g_move (v := .slice a0 n0 c0) rfl) rfl ?_
    refine wl_val (q_len SL27 rfl (Tv.len (hp0.bel hB107))) rfl ?_
    refine wl_val (g_lss (a := v100) (b := (p0.length : Int)) rfl rfl) rfl ?_
    refine wl_nil ?_
    refine hK111 _ _ ?_
    refine w_condI (p := v100 < (p0.length : Int)) (b := (decide (v100 < (p0.length : Int)))) rfl decide_eq_true_iff (fun h112 => ?_) (fun h112 => ?_)
    · replace hm := hm.1 h112
      refine w_skip ?_
      refine hK110 _ _ ?_
      refine w_seq fun K113 hK113 => ?_
      refine w_block ?_
      refine w_region ?_
      refine wl_val (g_move (v := .slice a5 (Int.toNat (p0.length : Int)) (Int.toNat (p0.length : Int))) rfl) rfl ?_
      refine wl_val (g_move (v := .int .i64 v100) rfl) rfl ?_
      refine wl_val (g_move (v := .slice a0 n0 c0) rfl) rfl ?_
      refine wl_val (g_move (v := .int .i64 v100) rfl) rfl ?_
      obtain ⟨hg114, hm⟩ := hm
      refine wl_val (q_index (i := v100) SL27 rfl rfl (Tv.o (hp0.bel hB107)) (Tv.g (hp0.bel hB107) hg114)) rfl ?_
      refine wl_val (q_loadS (i := v100) (cs := [.slice ((y0[(Int.toNat v100)]!).1.1) ((y0[(Int.toNat v100)]!).1.2.2.length) ((y0[(Int.toNat v100)]!).1.2.1), .int .i64 (p0[(Int.toNat v100)]!.2)]) AG59 (Tv.o (hp0.bel hB107)) (Tv.g (hp0.bel hB107) hg114) (by rw [← Tv.free (hp0.bel hB107) hg114]; rfl) rfl) rfl ?_
      refine wl_step rfl (g_call (vs := #[.agg #[.slice ((y0[(Int.toNat v100)]!).1.1) ((y0[(Int.toNat v100)]!).1.2.2.length) ((y0[(Int.toNat v100)]!).1.2.1), .int .i64 (p0[(Int.toNat v100)]!.2)]]) CF60 (args1 rfl) (m_laws_toPlayer_fn (p0[(Int.toNat v100)]!) ((Tv.rowP (hp0.bel hB107) hg114).up hS108) hm)) ?_
      rintro _ w115 ⟨r118, y119, hm, he120, rfl, hE116, hN117⟩
      have hS122 := hS108.call1 hE116 hN117
      have hB123 := hB107.trans (Ext.stp hE116 hS108.base)
      obtain ⟨hg124, hm⟩ := hm
      refine wl_val (q_index (i := v100) SL30 rfl rfl (Tv.o (oT.vw hS122.g1 hS122.g2 he99)) (Tv.g (oT.vw hS122.g1 hS122.g2 he99) hg124)) rfl ?_
      have he128 : ers [y119] = [r118] := by rw [← he120]; rfl
      have hS129 := hS122.f2
      have hS130 := hS129.f2
      have hS131 := hS130.f2
      refine wl_step rfl (q_setT (i := v100) hS131 he99 hg124 AG61.sz rfl rfl rfl) ?_
      rintro _ w125 ⟨rfl, y132, he133, hS126, hb127⟩
      have he134 := he133.trans (congrArg (List.set _ _) (ers_one he128))
      have hB135 := hB123.trans hb127
      refine wl_nil ?_
      refine hK113 _ _ ?_
      refine w_region ?_
      refine wl_val (g_move (v := .int .i64 v100) rfl) rfl ?_
      obtain ⟨hg136, hm⟩ := hm
      refine wl_val (g_add (a := v100) (b := 1) rfl rfl hg136) rfl ?_
      refine wl_val (g_assign (v := .int .i64 (v100 + 1)) rfl) rfl ?_
      refine wl_nil ?_
      exact ⟨((x97.set (Int.toNat v100) r118), y132, (v100 + 1)), hm.2, ⟨rfl, rfl, rfl, trivial⟩, ⟨hm.1, he134, hB135, hS126⟩⟩
    · replace hm := hm.2 h112
      refine w_exit ?_
      exact ⟨(x97, y98), ⟨rfl, trivial⟩, ⟨hm, he99, hB107, hS108⟩⟩
  · rintro ⟨x92, y93⟩ b_ w137 ⟨hm, he94, hB138, hS139⟩
    show Wp _ _ _ _ (upds b_ [(3, .slice a5 (Int.toNat (p0.length : Int)) (Int.toNat (p0.length : Int)))]) w137
    refine w_seq fun K140 hK140 => ?_
    refine w_region ?_
    refine wl_val (g_move (v := .slice a5 (Int.toNat (p0.length : Int)) (Int.toNat (p0.length : Int))) rfl) rfl ?_
    refine wl_val (g_assign (v := .slice a5 (Int.toNat (p0.length : Int)) (Int.toNat (p0.length : Int))) rfl) rfl ?_
    refine wl_nil ?_
    refine hK140 _ _ ?_
    refine w_ret ?_
    repeat first | with_reducible refine q_then ?_ | with_reducible refine q_block ?_
    exact ret1 rfl (by decide) ⟨_, _, _, _, _, hm, he94, rfl, toExt hB138, hS139⟩

theorem m_spec_l01In_fn {w : World}  {Q : Bool → Prop} (p0 : Int) (p1 : Int) (p2 : Int) (hm : m_spec_l01In p0 p1 p2 Q) :
    Fn Try.prog 59 #[.int .i64 p0, .int .i64 p1, .int .i64 p2] w (fun v w' => ∃ (r0 : Bool), Q r0 ∧ v = .bool r0 ∧ Ext w w') := by
  unfold m_spec_l01In at hm
  have hB0 := Below.refl w.heap.size w
  have hS0 : Sep w w.heap.size [] := Sep.nil (Nat.le_refl _)
  refine fn_of_wp Try.func59 rfl (by kernel_rfl) (Nat.le_of_ble_eq_true rfl) ?_
  refine w_seq fun K1 hK1 => ?_
  refine w_region ?_
  refine wl_val (g_assign (v := .bool false) rfl) rfl ?_
  refine wl_nil ?_
  refine hK1 _ _ ?_
  refine w_seq fun K2 hK2 => ?_
  refine w_region ?_
  refine wl_val (g_move (v := .int .i64 p0) rfl) rfl ?_
  refine wl_val (g_move (v := .int .i64 p1) rfl) rfl ?_
  refine wl_val (g_geq (a := p0) (b := p1) rfl rfl) rfl ?_
  refine wl_val (g_move (v := .bool (decide (p0 ≥ p1))) rfl) rfl ?_
  refine wl_guard (c := (decide (p0 ≥ p1)) = true) (val := .int .i64 p0) (b := ((decide (p0 ≥ p1)) == true)) (gv_some rfl rfl rfl) beq_iff_eq (fun hc3 => ?_) ?_
  · have hq0 : p0 ≥ p1 := (decide_eq_true_iff.mp hc3)
    exact g_move (v := .int .i64 p0) rfl
  refine wl_guard (c := (decide (p0 ≥ p1)) = true) (val := .int .i64 p2) (b := ((decide (p0 ≥ p1)) == true)) (gv_some rfl rfl rfl) beq_iff_eq (fun hc4 => ?_) ?_
  · have hq0 : p0 ≥ p1 := (decide_eq_true_iff.mp hc4)
    exact g_move (v := .int .i64 p2) rfl
  refine wl_guard (c := (decide (p0 ≥ p1)) = true) (val := .bool (decide (p0 ≤ p2))) (b := ((decide (p0 ≥ p1)) == true)) (gv_some rfl rfl rfl) beq_iff_eq (fun hc5 => ?_) ?_
  · have hq0 : p0 ≥ p1 := (decide_eq_true_iff.mp hc5)
    exact g_leq (a := p0) (b := p2) (if_pos hc5) (if_pos hc5)
  refine wl_val (g_pick_and (b := (decide (p0 ≥ p1))) (q := (decide (p0 ≤ p2))) rfl rfl) rfl ?_
  refine wl_val (g_assign (v := .bool ((decide (p0 ≥ p1)) && (decide (p0 ≤ p2)))) rfl) rfl ?_
  refine wl_nil ?_
  refine hK2 _ _ ?_
  refine w_ret ?_
  repeat first | with_reducible refine q_then ?_ | with_reducible refine q_block ?_
  exact ret1 rfl (by decide) ⟨_, hm, rfl, toExt hB0⟩

theorem m_spec_l11Rising_fn {w : World} {a0 : Option Addr} {n0 c0 : Nat} {p0 : List Int} {Q : Bool → Prop} (hp0 : Vw w.heap.size w a0 n0 c0 p0) (p1 : Int) (hm : m_spec_l11Rising p0 p1 Q) :
    Fn Try.prog 58 #[.slice a0 n0 c0, .int .i64 p1] w (fun v w' => ∃ (r0 : Bool), Q r0 ∧ v = .bool r0 ∧ Ext w w') := by
  unfold m_spec_l11Rising at hm
  have hB0 := Below.refl w.heap.size w
  have hS0 : Sep w w.heap.size [] := Sep.nil (Nat.le_refl _)
  refine fn_of_wp Try.func58 rfl (by kernel_rfl) (Nat.le_of_ble_eq_true rfl) ?_
  refine w_seq fun K1 hK1 => ?_
  refine w_region ?_
  refine wl_val (g_assign (v := .bool false) rfl) rfl ?_
  refine wl_nil ?_
  refine hK1 _ _ ?_
  refine w_cut (σ := Unit) (fun _ => []) (fun _ w' => m_spec_l11Rising_K0 Q ∧ Below w.heap.size w w' ∧ Sep w' w.heap.size []) ?_ ?_
  · refine w_seq fun K3 hK3 => ?_
    refine w_region ?_
    refine wl_val (g_assign (v := .int .i64 0) rfl) rfl ?_
    refine wl_nil ?_
    refine hK3 _ _ ?_
    refine w_block ?_
    obtain ⟨I141, μ142, h0143, hr144⟩ := hm
    refine w_for (σ := Int) (fun v140 => [(0, .slice a0 n0 c0), (1, .int .i64 p1), (5, .int .i64 v140)]) (fun v140 w' => I141 v140 ∧ Below w.heap.size w w' ∧ Sep w' w.heap.size []) (fun v140 => μ142 v140) (0) ⟨rfl, rfl, rfl, trivial⟩ ⟨h0143, hB0, hS0⟩ ?_
    rintro v140 b_ w145 ⟨hi_, hB146, hS147⟩
    show Wp _ _ _ _ (upds b_ [(0, .slice a0 n0 c0), (1, .int .i64 p1), (5, .int .i64 v140)]) w145
    have hm := hr144 v140 hi_
    refine w_seq fun K149 hK149 => ?_
    refine w_seq fun K150 hK150 => ?_
    refine w_region ?_
    refine wl_val (g_move (v := .int .i64 v140) rfl) rfl ?_
    refine wl_val (g_move (v := .slice a0 n0 c0) rfl) rfl ?_
    refine wl_val (q_len SL35 rfl (Vw.len (hp0.bel hB146))) rfl ?_
    refine wl_val (g_lss (a := v140) (b := (p0.length : Int)) rfl rfl) rfl ?_
    refine wl_nil ?_
    refine hK150 _ _ ?_
    refine w_condI (p := v140 < (p0.length : Int)) (b := (decide (v140 < (p0.length : Int)))) rfl decide_eq_true_iff (fun h151 => ?_) (fun h151 => ?_)
    · replace hm := hm.1 h151
      refine w_skip ?_
      refine hK149 _ _ ?_
      refine w_seq fun K152 hK152 => ?_
      refine w_block ?_
      refine w_seq fun K153 hK153 => ?_
      refine w_draw (X := Ext) (Y := Ext) [] MIX (by decide +kernel) rfl Ext.refl (fun _ _ _ => Ext.trans) (fun _ _ _ => Chg.trans) (fun _ _ h => Ext.chg h _) (fun w154 hE155 => ?_)
      have hB156 := hB146.trans (Ext.stp hE155 hS147.base)
      have hS157 := hS147.ext hE155
      refine ⟨.slice a0 n0 c0, fun w158 hX159 => od_plain rfl (by have hS160 := hS157.ext hX159; have hB161 := hB156.trans (Ext.stp hX159 hS157.base); exact is_ext (g_move (v := .slice a0 n0 c0) rfl)), ?_⟩
      refine ⟨.int .i64 v140, fun w162 hX163 => od_plain rfl (by have hS164 := hS157.ext hX163; have hB165 := hB156.trans (Ext.stp hX163 hS157.base); exact is_ext (g_move (v := .int .i64 v140) rfl)), ?_⟩
      obtain ⟨hg170, hm⟩ := hm
      refine ⟨.pointer (some ((adr a0).add ((Int.toNat v140) * El.m Int))), fun w166 hX167 => od_plain rfl (by have hS168 := hS157.ext hX167; have hB169 := hB156.trans (Ext.stp hX167 hS157.base); exact is_ext (q_index (i := v140) SL35 rfl rfl (hp0.bel hB169) hg170)), ?_⟩
      refine ⟨.int .i64 (p0[(Int.toNat v140)]!), fun w171 hX172 => od_plain rfl (by have hS173 := hS157.ext hX172; have hB174 := hB156.trans (Ext.stp hX172 hS157.base); exact is_ext (q_load (i := v140) (v := .int .i64 (p0[(Int.toNat v140)]!)) ON3 (hp0.bel hB174) hg170 rfl rfl)), ?_⟩
      refine ⟨.int .i64 p1, fun w175 hX176 => od_plain rfl (by have hS177 := hS157.ext hX176; have hB178 := hB156.trans (Ext.stp hX176 hS157.base); exact is_ext (g_move (v := .int .i64 p1) rfl)), ?_⟩
      obtain ⟨r183, hk184, hm⟩ := hm
      refine ⟨.bool r183, fun w179 hX180 => od_plain rfl (by have hS181 := hS157.ext hX180; have hB182 := hB156.trans (Ext.stp hX180 hS157.base); exact (g_call (vs := #[.int .i64 (p0[(Int.toNat v140)]!), .int .i64 0, .int .i64 p1]) CF59 (args3 rfl rfl rfl) ((m_spec_l01In_fn (p0[(Int.toNat v140)]!) 0 p1 hk184).mono fun _ _ ⟨_, h1, h2, h3⟩ => ⟨by rw [h2, h1], h3⟩))), ?_⟩
      refine ⟨.bool (!r183), fun w185 hX186 => od_plain rfl (by have hS187 := hS157.ext hX186; have hB188 := hB156.trans (Ext.stp hX186 hS157.base); exact is_ext (g_not (a := r183) rfl)), ?_⟩
      refine ⟨.bool (!r183), fun w189 hX190 => od_plain rfl (by have hS191 := hS157.ext hX190; have hB192 := hB156.trans (Ext.stp hX190 hS157.base); exact is_ext (g_move (v := .bool (!r183)) rfl)), ?_⟩
      refine ⟨if (!r183) = false then .int .i64 v140 else undef, fun w193 hX194 => od_guard (c := (!r183) = false) (val := .int .i64 v140) (b := ((!r183) == false)) (gv_some rfl rfl rfl) beq_iff_eq (fun hc197 => ?_), ?_⟩
      · have hS195 := hS157.ext hX194
        have hB196 := hB156.trans (Ext.stp hX194 hS157.base)
        have hq2 : ¬ (¬ (r183 = true)) := (i_neg (i_not Iff.rfl) hc197)
        exact is_ext (g_move (v := .int .i64 v140) rfl)
      refine ⟨if (!r183) = false then .bool (decide (v140 > 0)) else undef, fun w198 hX199 => od_guard (c := (!r183) = false) (val := .bool (decide (v140 > 0))) (b := ((!r183) == false)) (gv_some rfl rfl rfl) beq_iff_eq (fun hc202 => ?_), ?_⟩
      · have hS200 := hS157.ext hX199
        have hB201 := hB156.trans (Ext.stp hX199 hS157.base)
        have hq2 : ¬ (¬ (r183 = true)) := (i_neg (i_not Iff.rfl) hc202)
        exact is_ext (g_gtr (a := v140) (b := 0) (if_pos hc202) rfl)
      refine ⟨if (!r183) = false then .bool (decide (v140 > 0)) else undef, fun w203 hX204 => od_guard (c := (!r183) = false) (val := .bool (decide (v140 > 0))) (b := ((!r183) == false)) (gv_some rfl rfl rfl) beq_iff_eq (fun hc207 => ?_), ?_⟩
      · have hS205 := hS157.ext hX204
        have hB206 := hB156.trans (Ext.stp hX204 hS157.base)
        have hq2 : ¬ (¬ (r183 = true)) := (i_neg (i_not Iff.rfl) hc207)
        exact is_ext (g_move (v := .bool (decide (v140 > 0))) (if_pos hc207))
      refine ⟨if ((!r183) = false) ∧ (decide (v140 > 0)) = true then .slice a0 n0 c0 else undef, fun w208 hX209 => od_guard (c := ((!r183) = false) ∧ (decide (v140 > 0)) = true) (val := .slice a0 n0 c0) (b := decide (((!r183) = false) ∧ (decide (v140 > 0)) = true)) (gv_gd rfl rfl rfl) decide_eq_true_iff (fun hc212 => ?_), ?_⟩
      · have hS210 := hS157.ext hX209
        have hB211 := hB156.trans (Ext.stp hX209 hS157.base)
        have hq3 : (¬ (¬ (r183 = true))) ∧ (v140 > 0) := ⟨(i_neg (i_not Iff.rfl) (hc212).1), decide_eq_true_iff.mp (hc212).2⟩
        have hq2 := (hq3).1
        exact is_ext (g_move (v := .slice a0 n0 c0) rfl)
      refine ⟨if ((!r183) = false) ∧ (decide (v140 > 0)) = true then .int .i64 v140 else undef, fun w213 hX214 => od_guard (c := ((!r183) = false) ∧ (decide (v140 > 0)) = true) (val := .int .i64 v140) (b := decide (((!r183) = false) ∧ (decide (v140 > 0)) = true)) (gv_gd rfl rfl rfl) decide_eq_true_iff (fun hc217 => ?_), ?_⟩
      · have hS215 := hS157.ext hX214
        have hB216 := hB156.trans (Ext.stp hX214 hS157.base)
        have hq3 : (¬ (¬ (r183 = true))) ∧ (v140 > 0) := ⟨(i_neg (i_not Iff.rfl) (hc217).1), decide_eq_true_iff.mp (hc217).2⟩
        have hq2 := (hq3).1
        exact is_ext (g_move (v := .int .i64 v140) rfl)
      obtain ⟨hg223, hm⟩ := hm
      refine ⟨if ((!r183) = false) ∧ (decide (v140 > 0)) = true then .pointer (some ((adr a0).add ((Int.toNat v140) * El.m Int))) else undef, fun w218 hX219 => od_guard (c := ((!r183) = false) ∧ (decide (v140 > 0)) = true) (val := .pointer (some ((adr a0).add ((Int.toNat v140) * El.m Int)))) (b := decide (((!r183) = false) ∧ (decide (v140 > 0)) = true)) (gv_gd rfl rfl rfl) decide_eq_true_iff (fun hc222 => ?_), ?_⟩
      · have hS220 := hS157.ext hX219
        have hB221 := hB156.trans (Ext.stp hX219 hS157.base)
        have hq3 : (¬ (¬ (r183 = true))) ∧ (v140 > 0) := ⟨(i_neg (i_not Iff.rfl) (hc222).1), decide_eq_true_iff.mp (hc222).2⟩
        have hq2 := (hq3).1
        exact is_ext (q_index (i := v140) SL35 (if_pos hc222) (if_pos hc222) (hp0.bel hB221) (hg223 hq3))
      refine ⟨if ((!r183) = false) ∧ (decide (v140 > 0)) = true then .int .i64 (p0[(Int.toNat v140)]!) else undef, fun w224 hX225 => od_guard (c := ((!r183) = false) ∧ (decide (v140 > 0)) = true) (val := .int .i64 (p0[(Int.toNat v140)]!)) (b := decide (((!r183) = false) ∧ (decide (v140 > 0)) = true)) (gv_gd rfl rfl rfl) decide_eq_true_iff (fun hc228 => ?_), ?_⟩
      · have hS226 := hS157.ext hX225
        have hB227 := hB156.trans (Ext.stp hX225 hS157.base)
        have hq3 : (¬ (¬ (r183 = true))) ∧ (v140 > 0) := ⟨(i_neg (i_not Iff.rfl) (hc228).1), decide_eq_true_iff.mp (hc228).2⟩
        have hq2 := (hq3).1
        exact is_ext (q_load (i := v140) (v := .int .i64 (p0[(Int.toNat v140)]!)) ON3 (hp0.bel hB227) (hg223 hq3) rfl (if_pos hc228))
      refine ⟨if ((!r183) = false) ∧ (decide (v140 > 0)) = true then .slice a0 n0 c0 else undef, fun w229 hX230 => od_guard (c := ((!r183) = false) ∧ (decide (v140 > 0)) = true) (val := .slice a0 n0 c0) (b := decide (((!r183) = false) ∧ (decide (v140 > 0)) = true)) (gv_gd rfl rfl rfl) decide_eq_true_iff (fun hc233 => ?_), ?_⟩
      · have hS231 := hS157.ext hX230
        have hB232 := hB156.trans (Ext.stp hX230 hS157.base)
        have hq3 : (¬ (¬ (r183 = true))) ∧ (v140 > 0) := ⟨(i_neg (i_not Iff.rfl) (hc233).1), decide_eq_true_iff.mp (hc233).2⟩
        have hq2 := (hq3).1
        exact is_ext (g_move (v := .slice a0 n0 c0) rfl)
      refine ⟨if ((!r183) = false) ∧ (decide (v140 > 0)) = true then .int .i64 v140 else undef, fun w234 hX235 => od_guard (c := ((!r183) = false) ∧ (decide (v140 > 0)) = true) (val := .int .i64 v140) (b := decide (((!r183) = false) ∧ (decide (v140 > 0)) = true)) (gv_gd rfl rfl rfl) decide_eq_true_iff (fun hc238 => ?_), ?_⟩
      · have hS236 := hS157.ext hX235
        have hB237 := hB156.trans (Ext.stp hX235 hS157.base)
        have hq3 : (¬ (¬ (r183 = true))) ∧ (v140 > 0) := ⟨(i_neg (i_not Iff.rfl) (hc238).1), decide_eq_true_iff.mp (hc238).2⟩
        have hq2 := (hq3).1
        exact is_ext (g_move (v := .int .i64 v140) rfl)
      obtain ⟨hg244, hm⟩ := hm
      refine ⟨if ((!r183) = false) ∧ (decide (v140 > 0)) = true then .int .i64 (v140 - 1) else undef, fun w239 hX240 => od_guard (c := ((!r183) = false) ∧ (decide (v140 > 0)) = true) (val := .int .i64 (v140 - 1)) (b := decide (((!r183) = false) ∧ (decide (v140 > 0)) = true)) (gv_gd rfl rfl rfl) decide_eq_true_iff (fun hc243 => ?_), ?_⟩
      · have hS241 := hS157.ext hX240
        have hB242 := hB156.trans (Ext.stp hX240 hS157.base)
        have hq3 : (¬ (¬ (r183 = true))) ∧ (v140 > 0) := ⟨(i_neg (i_not Iff.rfl) (hc243).1), decide_eq_true_iff.mp (hc243).2⟩
        have hq2 := (hq3).1
        exact is_ext (g_sub (a := v140) (b := 1) (if_pos hc243) rfl (hg244 hq3))
      obtain ⟨hg250, hm⟩ := hm
      refine ⟨if ((!r183) = false) ∧ (decide (v140 > 0)) = true then .pointer (some ((adr a0).add ((Int.toNat (v140 - 1)) * El.m Int))) else undef, fun w245 hX246 => od_guard (c := ((!r183) = false) ∧ (decide (v140 > 0)) = true) (val := .pointer (some ((adr a0).add ((Int.toNat (v140 - 1)) * El.m Int)))) (b := decide (((!r183) = false) ∧ (decide (v140 > 0)) = true)) (gv_gd rfl rfl rfl) decide_eq_true_iff (fun hc249 => ?_), ?_⟩
      · have hS247 := hS157.ext hX246
        have hB248 := hB156.trans (Ext.stp hX246 hS157.base)
        have hq3 : (¬ (¬ (r183 = true))) ∧ (v140 > 0) := ⟨(i_neg (i_not Iff.rfl) (hc249).1), decide_eq_true_iff.mp (hc249).2⟩
        have hq2 := (hq3).1
        exact is_ext (q_index (i := (v140 - 1)) SL35 (if_pos hc249) (if_pos hc249) (hp0.bel hB248) (hg250 hq3))
      refine ⟨if ((!r183) = false) ∧ (decide (v140 > 0)) = true then .int .i64 (p0[(Int.toNat (v140 - 1))]!) else undef, fun w251 hX252 => od_guard (c := ((!r183) = false) ∧ (decide (v140 > 0)) = true) (val := .int .i64 (p0[(Int.toNat (v140 - 1))]!)) (b := decide (((!r183) = false) ∧ (decide (v140 > 0)) = true)) (gv_gd rfl rfl rfl) decide_eq_true_iff (fun hc255 => ?_), ?_⟩
      · have hS253 := hS157.ext hX252
        have hB254 := hB156.trans (Ext.stp hX252 hS157.base)
        have hq3 : (¬ (¬ (r183 = true))) ∧ (v140 > 0) := ⟨(i_neg (i_not Iff.rfl) (hc255).1), decide_eq_true_iff.mp (hc255).2⟩
        have hq2 := (hq3).1
        exact is_ext (q_load (i := (v140 - 1)) (v := .int .i64 (p0[(Int.toNat (v140 - 1))]!)) ON3 (hp0.bel hB254) (hg250 hq3) rfl (if_pos hc255))
      refine ⟨if ((!r183) = false) ∧ (decide (v140 > 0)) = true then .bool (decide (p0[(Int.toNat v140)]! ≤ p0[(Int.toNat (v140 - 1))]!)) else undef, fun w256 hX257 => od_guard (c := ((!r183) = false) ∧ (decide (v140 > 0)) = true) (val := .bool (decide (p0[(Int.toNat v140)]! ≤ p0[(Int.toNat (v140 - 1))]!))) (b := decide (((!r183) = false) ∧ (decide (v140 > 0)) = true)) (gv_gd rfl rfl rfl) decide_eq_true_iff (fun hc260 => ?_), ?_⟩
      · have hS258 := hS157.ext hX257
        have hB259 := hB156.trans (Ext.stp hX257 hS157.base)
        have hq3 : (¬ (¬ (r183 = true))) ∧ (v140 > 0) := ⟨(i_neg (i_not Iff.rfl) (hc260).1), decide_eq_true_iff.mp (hc260).2⟩
        have hq2 := (hq3).1
        exact is_ext (g_leq (a := p0[(Int.toNat v140)]!) (b := p0[(Int.toNat (v140 - 1))]!) (if_pos hc260) (if_pos hc260))
      refine ⟨if (!r183) = false then .bool ((decide (v140 > 0)) && (decide (p0[(Int.toNat v140)]! ≤ p0[(Int.toNat (v140 - 1))]!))) else undef, fun w261 hX262 => od_guard (c := (!r183) = false) (val := .bool ((decide (v140 > 0)) && (decide (p0[(Int.toNat v140)]! ≤ p0[(Int.toNat (v140 - 1))]!)))) (b := ((!r183) == false)) (gv_some rfl rfl rfl) beq_iff_eq (fun hc265 => ?_), ?_⟩
      · have hS263 := hS157.ext hX262
        have hB264 := hB156.trans (Ext.stp hX262 hS157.base)
        have hq2 : ¬ (¬ (r183 = true)) := (i_neg (i_not Iff.rfl) hc265)
        exact is_ext (g_pick_and (b := (decide (v140 > 0))) (q := (decide (p0[(Int.toNat v140)]! ≤ p0[(Int.toNat (v140 - 1))]!))) (if_pos hc265) (gd_in hc265))
      refine ⟨.bool ((!r183) || ((decide (v140 > 0)) && (decide (p0[(Int.toNat v140)]! ≤ p0[(Int.toNat (v140 - 1))]!)))), fun w266 hX267 => od_plain rfl (by have hS268 := hS157.ext hX267; have hB269 := hB156.trans (Ext.stp hX267 hS157.base); exact is_ext (g_pick_or (b := (!r183)) (q := ((decide (v140 > 0)) && (decide (p0[(Int.toNat v140)]! ≤ p0[(Int.toNat (v140 - 1))]!)))) rfl rfl)), ?_⟩
      intro w270 hX271
      have hB272 := hB156.trans (Ext.stp hX271 hS157.base)
      have hS273 := hS157.ext hX271
      refine hK153 _ _ ?_
      refine w_condI (p := ((¬ (r183 = true)) ∨ (((v140 > 0) ∧ (p0[(Int.toNat v140)]! ≤ p0[(Int.toNat (v140 - 1))]!))))) (b := ((!r183) || ((decide (v140 > 0)) && (decide (p0[(Int.toNat v140)]! ≤ p0[(Int.toNat (v140 - 1))]!))))) rfl (i_or (i_not Iff.rfl) (i_and decide_eq_true_iff decide_eq_true_iff)) (fun h274 => ?_) (fun h274 => ?_)
      · replace hm := hm.1 h274
        refine w_seq fun K275 hK275 => ?_
        refine w_region ?_
        refine wl_val (g_assign (v := .bool false) rfl) rfl ?_
        refine wl_nil ?_
        refine hK275 _ _ ?_
        refine w_ret ?_
        repeat first | with_reducible refine q_then ?_ | with_reducible refine q_block ?_
        exact ret1 rfl (by decide) ⟨_, hm, rfl, toExt hB272⟩
      · replace hm := hm.2 h274
        refine w_skip ?_
        refine hK152 _ _ ?_
        refine w_region ?_
        refine wl_val (g_move (v := .int .i64 v140) rfl) rfl ?_
        obtain ⟨hg276, hm⟩ := hm
        refine wl_val (g_add (a := v140) (b := 1) rfl rfl hg276) rfl ?_
        refine wl_val (g_assign (v := .int .i64 (v140 + 1)) rfl) rfl ?_
        refine wl_nil ?_
        exact ⟨((v140 + 1)), hm.2, ⟨rfl, rfl, rfl, trivial⟩, ⟨hm.1, hB272, hS273⟩⟩
    · replace hm := hm.2 h151
      refine w_exit ?_
      exact ⟨(), trivial, ⟨hm, hB146, hS147⟩⟩
  · rintro _ b_ w277 ⟨hm, hB278, hS279⟩
    show Wp _ _ _ _ (upds b_ []) w277
    refine w_seq fun K280 hK280 => ?_
    refine w_region ?_
    refine wl_val (g_assign (v := .bool true) rfl) rfl ?_
    refine wl_nil ?_
    refine hK280 _ _ ?_
    refine w_ret ?_
    repeat first | with_reducible refine q_then ?_ | with_reducible refine q_block ?_
    exact ret1 rfl (by decide) ⟨_, hm, rfl, toExt hB278⟩

theorem m_spec_PlayersOk_fn {w : World} {a0 : Option Addr} {n0 c0 : Nat} {y0 : List PlayerD} {p0 : List PlayerC} {Q : Bool → Prop} (hp0 : Tv w.heap.size w a0 n0 c0 y0 p0) (hm : m_spec_PlayersOk p0 Q) :
    Fn Try.prog 22 #[.slice a0 n0 c0] w (fun v w' => ∃ (r0 : Bool), Q r0 ∧ v = .bool r0 ∧ Ext w w') := by
  unfold m_spec_PlayersOk at hm
  have hB0 := Below.refl w.heap.size w
  have hS0 : Sep w w.heap.size [] := Sep.nil (Nat.le_refl _)
  refine fn_of_wp Try.func22 rfl (by kernel_rfl) (Nat.le_of_ble_eq_true rfl) ?_
  refine w_seq fun K1 hK1 => ?_
  refine w_region ?_
  refine wl_val (g_assign (v := .bool false) rfl) rfl ?_
  refine wl_nil ?_
  refine hK1 _ _ ?_
  refine w_cut (σ := Unit) (fun _ => [(0, .slice a0 n0 c0)]) (fun _ w' => m_spec_PlayersOk_K0 p0 Q ∧ Below w.heap.size w w' ∧ Sep w' w.heap.size []) ?_ ?_
  · refine w_seq fun K3 hK3 => ?_
    refine w_region ?_
    refine wl_val (g_assign (v := .int .i64 0) rfl) rfl ?_
    refine wl_nil ?_
    refine hK3 _ _ ?_
    refine w_block ?_
    obtain ⟨I42, μ43, h044, hr45⟩ := hm
    refine w_for (σ := Int) (fun v41 => [(0, .slice a0 n0 c0), (3, .int .i64 v41)]) (fun v41 w' => I42 v41 ∧ Below w.heap.size w w' ∧ Sep w' w.heap.size []) (fun v41 => μ43 v41) (0) ⟨rfl, rfl, trivial⟩ ⟨h044, hB0, hS0⟩ ?_
    rintro v41 b_ w46 ⟨hi_, hB47, hS48⟩
    show Wp _ _ _ _ (upds b_ [(0, .slice a0 n0 c0), (3, .int .i64 v41)]) w46
    have hm := hr45 v41 hi_
    refine w_seq fun K50 hK50 => ?_
    refine w_seq fun K51 hK51 => ?_
    refine w_region ?_
    refine wl_val (g_move (v := .int .i64 v41) rfl) rfl ?_
    refine wl_val (g_move (v := .slice a0 n0 c0) rfl) rfl ?_
    refine wl_val (q_len SL30 rfl (Tv.len (hp0.bel hB47))) rfl ?_
    refine wl_val (g_lss (a := v41) (b := (p0.length : Int)) rfl rfl) rfl ?_
    refine wl_nil ?_
    refine hK51 _ _ ?_
    refine w_condI (p := v41 < (p0.length : Int)) (b := (decide (v41 < (p0.length : Int)))) rfl decide_eq_true_iff (fun h52 => ?_) (fun h52 => ?_)
    · replace hm := hm.1 h52
      refine w_skip ?_
      refine hK50 _ _ ?_
      refine w_seq fun K53 hK53 => ?_
      refine w_block ?_
      refine w_seq fun K54 hK54 => ?_
      refine w_region ?_
      refine wl_val (g_move (v := .slice a0 n0 c0) rfl) rfl ?_
      refine wl_val (g_move (v := .int .i64 v41) rfl) rfl ?_
      obtain ⟨hg55, hm⟩ := hm
      refine wl_val (q_index (i := v41) SL30 rfl rfl (Tv.o (hp0.bel hB47)) (Tv.g (hp0.bel hB47) hg55)) rfl ?_
      refine wl_val (g_fieldAddr (q := (adr a0).add ((Int.toNat v41) * El.m PlayerD)) FL61_0 ON35 rfl) rfl ?_
      refine wl_val (q_loadF (i := v41) (j := 0) (v := .slice ((y0[(Int.toNat v41)]!).1.1) ((y0[(Int.toNat v41)]!).1.2.2.length) ((y0[(Int.toNat v41)]!).1.2.1)) ON35 (Tv.o (hp0.bel hB47)) (Tv.g (hp0.bel hB47) hg55) rfl rfl) rfl ?_
      refine wl_step rfl (g_call (vs := #[.slice ((y0[(Int.toNat v41)]!).1.1) ((y0[(Int.toNat v41)]!).1.2.2.length) ((y0[(Int.toNat v41)]!).1.2.1), .int .i64 6]) CF58 (args2 rfl rfl) (m_spec_l11Rising_fn ((Tv.rowP (hp0.bel hB47) hg55).up hS48) 6 hm)) ?_
      rintro _ w56 ⟨r59, hm, rfl, hE57⟩
      have hB60 := hB47.trans (Ext.stp hE57 hS48.base)
      have hS61 := hS48.ext hE57
      refine wl_val (g_not (a := r59) rfl) rfl ?_
      refine wl_val (g_move (v := .bool (!r59)) rfl) rfl ?_
      refine wl_guard (c := (!r59) = false) (val := .slice a0 n0 c0) (b := ((!r59) == false)) (gv_some rfl rfl rfl) beq_iff_eq (fun hc62 => ?_) ?_
      · have hq1 : ¬ (¬ (r59 = true)) := (i_neg (i_not Iff.rfl) hc62)
        exact g_move (v := .slice a0 n0 c0) rfl
      refine wl_guard (c := (!r59) = false) (val := .int .i64 v41) (b := ((!r59) == false)) (gv_some rfl rfl rfl) beq_iff_eq (fun hc63 => ?_) ?_
      · have hq1 : ¬ (¬ (r59 = true)) := (i_neg (i_not Iff.rfl) hc63)
        exact g_move (v := .int .i64 v41) rfl
      obtain ⟨hg65, hm⟩ := hm
      refine wl_guard (c := (!r59) = false) (val := .pointer (some ((adr a0).add ((Int.toNat v41) * El.m PlayerD)))) (b := ((!r59) == false)) (gv_some rfl rfl rfl) beq_iff_eq (fun hc64 => ?_) ?_
      · have hq1 : ¬ (¬ (r59 = true)) := (i_neg (i_not Iff.rfl) hc64)
        exact q_index (i := v41) SL30 (if_pos hc64) (if_pos hc64) (Tv.o (hp0.bel hB60)) (Tv.g (hp0.bel hB60) (hg65 hq1))
      refine wl_guard (c := (!r59) = false) (val := .pointer (some (((adr a0).add ((Int.toNat v41) * El.m PlayerD)).add 1))) (b := ((!r59) == false)) (gv_some rfl rfl rfl) beq_iff_eq (fun hc66 => ?_) ?_
      · have hq1 : ¬ (¬ (r59 = true)) := (i_neg (i_not Iff.rfl) hc66)
        exact g_fieldAddr (q := (adr a0).add ((Int.toNat v41) * El.m PlayerD)) FL61_1 ON3 (if_pos hc66)
      refine wl_guard (c := (!r59) = false) (val := .int .i64 (p0[(Int.toNat v41)]!.2)) (b := ((!r59) == false)) (gv_some rfl rfl rfl) beq_iff_eq (fun hc67 => ?_) ?_
      · have hq1 : ¬ (¬ (r59 = true)) := (i_neg (i_not Iff.rfl) hc67)
        exact q_loadF (i := v41) (j := 1) (v := .int .i64 (p0[(Int.toNat v41)]!.2)) ON3 (Tv.o (hp0.bel hB60)) (Tv.g (hp0.bel hB60) (hg65 hq1)) (by rw [← Tv.free (hp0.bel hB60) (hg65 hq1)]; rfl) (if_pos hc67)
      obtain ⟨r69, hk70, hm⟩ := hm
      refine wl_guardE (X := Ext) (c := (!r59) = false) (val := .bool r69) (Ext.refl _) (b := ((!r59) == false)) (gv_some rfl rfl rfl) beq_iff_eq (fun hc68 => ?_) (fun w71 hE72 => ?_)
      · have hq1 : ¬ (¬ (r59 = true)) := (i_neg (i_not Iff.rfl) hc68)
        exact (g_call (vs := #[.int .i64 (p0[(Int.toNat v41)]!.2), .int .i64 0, .int .i64 2]) CF59 (args3 (if_pos hc68) rfl rfl) ((m_spec_l01In_fn (p0[(Int.toNat v41)]!.2) 0 2 (hk70 hq1)).mono fun _ _ ⟨_, h1, h2, h3⟩ => ⟨by rw [h2, h1], h3⟩))
      have hB73 := hB60.trans (Ext.stp hE72 hS61.base)
      have hS74 := hS61.ext hE72
      refine wl_guard (c := (!r59) = false) (val := .bool (!r69)) (b := ((!r59) == false)) (gv_some rfl rfl rfl) beq_iff_eq (fun hc75 => ?_) ?_
      · have hq1 : ¬ (¬ (r59 = true)) := (i_neg (i_not Iff.rfl) hc75)
        exact g_not (a := r69) (if_pos hc75)
      refine wl_val (g_pick_or (b := (!r59)) (q := (!r69)) rfl rfl) rfl ?_
      refine wl_nil ?_
      refine hK54 _ _ ?_
      refine w_condI (p := ((¬ (r59 = true)) ∨ (¬ (r69 = true)))) (b := ((!r59) || (!r69))) rfl (i_or (i_not Iff.rfl) (i_not Iff.rfl)) (fun h76 => ?_) (fun h76 => ?_)
      · replace hm := hm.1 h76
        refine w_seq fun K77 hK77 => ?_
        refine w_region ?_
        refine wl_val (g_assign (v := .bool false) rfl) rfl ?_
        refine wl_nil ?_
        refine hK77 _ _ ?_
        refine w_ret ?_
        repeat first | with_reducible refine q_then ?_ | with_reducible refine q_block ?_
        exact ret1 rfl (by decide) ⟨_, hm, rfl, toExt hB73⟩
      · replace hm := hm.2 h76
        refine w_skip ?_
        refine hK53 _ _ ?_
        refine w_region ?_
        refine wl_val (g_move (v := .int .i64 v41) rfl) rfl ?_
        obtain ⟨hg78, hm⟩ := hm
        refine wl_val (g_add (a := v41) (b := 1) rfl rfl hg78) rfl ?_
        refine wl_val (g_assign (v := .int .i64 (v41 + 1)) rfl) rfl ?_
        refine wl_nil ?_
        exact ⟨((v41 + 1)), hm.2, ⟨rfl, rfl, trivial⟩, ⟨hm.1, hB73, hS74⟩⟩
    · replace hm := hm.2 h52
      refine w_exit ?_
      exact ⟨(), ⟨rfl, trivial⟩, ⟨hm, hB47, hS48⟩⟩
  · rintro _ b_ w79 ⟨hm, hB80, hS81⟩
    show Wp _ _ _ _ (upds b_ [(0, .slice a0 n0 c0)]) w79
    refine w_seq fun K82 hK82 => ?_
    refine w_region ?_
    refine wl_val (g_move (v := .slice a0 n0 c0) rfl) rfl ?_
    refine wl_val (q_len SL30 rfl (Tv.len (hp0.bel hB80))) rfl ?_
    refine wl_step rfl (g_call (vs := #[.int .i64 (p0.length : Int), .int .i64 1, .int .i64 6]) CF59 (args3 rfl rfl rfl) (m_spec_l01In_fn (p0.length : Int) 1 6 hm)) ?_
    rintro _ w83 ⟨r86, hm, rfl, hE84⟩
    have hB87 := hB80.trans (Ext.stp hE84 hS81.base)
    have hS88 := hS81.ext hE84
    refine wl_val (g_assign (v := .bool r86) rfl) rfl ?_
    refine wl_nil ?_
    refine hK82 _ _ ?_
    refine w_ret ?_
    repeat first | with_reducible refine q_then ?_ | with_reducible refine q_block ?_
    exact ret1 rfl (by decide) ⟨_, hm, rfl, toExt hB87⟩

theorem m_impl_within_fn {w : World}  {Q : Bool → Prop} (p0 : Int) (p1 : Int) (p2 : Int) (hm : m_impl_within p0 p1 p2 Q) :
    Fn Try.prog 62 #[.int .i64 p0, .int .i64 p1, .int .i64 p2] w (fun v w' => ∃ (r0 : Bool), Q r0 ∧ v = .bool r0 ∧ Ext w w') := by
  unfold m_impl_within at hm
  have hB0 := Below.refl w.heap.size w
  have hS0 : Sep w w.heap.size [] := Sep.nil (Nat.le_refl _)
  refine fn_of_wp Try.func62 rfl (by kernel_rfl) (Nat.le_of_ble_eq_true rfl) ?_
  refine w_seq fun K1 hK1 => ?_
  refine w_region ?_
  refine wl_val (g_assign (v := .bool false) rfl) rfl ?_
  refine wl_nil ?_
  refine hK1 _ _ ?_
  refine w_seq fun K2 hK2 => ?_
  refine w_region ?_
  refine wl_val (g_move (v := .int .i64 p0) rfl) rfl ?_
  refine wl_val (g_move (v := .int .i64 p1) rfl) rfl ?_
  refine wl_val (g_geq (a := p0) (b := p1) rfl rfl) rfl ?_
  refine wl_val (g_move (v := .bool (decide (p0 ≥ p1))) rfl) rfl ?_
  refine wl_guard (c := (decide (p0 ≥ p1)) = true) (val := .int .i64 p0) (b := ((decide (p0 ≥ p1)) == true)) (gv_some rfl rfl rfl) beq_iff_eq (fun hc3 => ?_) ?_
  · have hq0 : p0 ≥ p1 := (decide_eq_true_iff.mp hc3)
    exact g_move (v := .int .i64 p0) rfl
  refine wl_guard (c := (decide (p0 ≥ p1)) = true) (val := .int .i64 p2) (b := ((decide (p0 ≥ p1)) == true)) (gv_some rfl rfl rfl) beq_iff_eq (fun hc4 => ?_) ?_
  · have hq0 : p0 ≥ p1 := (decide_eq_true_iff.mp hc4)
    exact g_move (v := .int .i64 p2) rfl
  refine wl_guard (c := (decide (p0 ≥ p1)) = true) (val := .bool (decide (p0 ≤ p2))) (b := ((decide (p0 ≥ p1)) == true)) (gv_some rfl rfl rfl) beq_iff_eq (fun hc5 => ?_) ?_
  · have hq0 : p0 ≥ p1 := (decide_eq_true_iff.mp hc5)
    exact g_leq (a := p0) (b := p2) (if_pos hc5) (if_pos hc5)
  refine wl_val (g_pick_and (b := (decide (p0 ≥ p1))) (q := (decide (p0 ≤ p2))) rfl rfl) rfl ?_
  refine wl_val (g_assign (v := .bool ((decide (p0 ≥ p1)) && (decide (p0 ≤ p2)))) rfl) rfl ?_
  refine wl_nil ?_
  refine hK2 _ _ ?_
  refine w_ret ?_
  repeat first | with_reducible refine q_then ?_ | with_reducible refine q_block ?_
  exact ret1 rfl (by decide) ⟨_, hm, rfl, toExt hB0⟩

theorem m_impl_allWithin_fn {w : World} {a0 : Option Addr} {n0 c0 : Nat} {p0 : List Int} {Q : Bool → Prop} (hp0 : Vw w.heap.size w a0 n0 c0 p0) (p1 : Int) (p2 : Int) (hm : m_impl_allWithin p0 p1 p2 Q) :
    Fn Try.prog 74 #[.slice a0 n0 c0, .int .i64 p1, .int .i64 p2] w (fun v w' => ∃ (r0 : Bool), Q r0 ∧ v = .bool r0 ∧ Ext w w') := by
  unfold m_impl_allWithin at hm
  have hB0 := Below.refl w.heap.size w
  have hS0 : Sep w w.heap.size [] := Sep.nil (Nat.le_refl _)
  refine fn_of_wp Try.func74 rfl (by kernel_rfl) (Nat.le_of_ble_eq_true rfl) ?_
  refine w_seq fun K1 hK1 => ?_
  refine w_region ?_
  refine wl_val (g_assign (v := .bool false) rfl) rfl ?_
  refine wl_nil ?_
  refine hK1 _ _ ?_
  refine w_cut (σ := Unit) (fun _ => []) (fun _ w' => m_impl_allWithin_K0 Q ∧ Below w.heap.size w w' ∧ Sep w' w.heap.size []) ?_ ?_
  · refine w_seq fun K3 hK3 => ?_
    refine w_region ?_
    refine wl_val (g_move (v := .slice a0 n0 c0) rfl) rfl ?_
    refine wl_val (q_len SL35 rfl (Vw.len (hp0.bel hB0))) rfl ?_
    refine wl_val (g_move (v := .int .i64 0) rfl) rfl ?_
    refine wl_nil ?_
    refine hK3 _ _ ?_
    refine w_block ?_
    obtain ⟨I29, μ30, h031, hr32⟩ := hm
    refine w_for (σ := Int) (fun v28 => [(1, .int .i64 p1), (2, .int .i64 p2), (9, .slice a0 n0 c0), (10, .int .i64 (p0.length : Int)), (11, .int .i64 v28)]) (fun v28 w' => I29 v28 ∧ Below w.heap.size w w' ∧ Sep w' w.heap.size []) (fun v28 => μ30 v28) (0) ⟨rfl, rfl, rfl, rfl, rfl, trivial⟩ ⟨h031, hB0, hS0⟩ ?_
    rintro v28 b_ w33 ⟨hi_, hB34, hS35⟩
    show Wp _ _ _ _ (upds b_ [(1, .int .i64 p1), (2, .int .i64 p2), (9, .slice a0 n0 c0), (10, .int .i64 (p0.length : Int)), (11, .int .i64 v28)]) w33
    have hm := hr32 v28 hi_
    refine w_seq fun K37 hK37 => ?_
    refine w_region ?_
    refine wl_val (g_lss (a := v28) (b := (p0.length : Int)) rfl rfl) rfl ?_
    refine wl_nil ?_
    refine hK37 _ _ ?_
    refine w_seq fun K38 hK38 => ?_
    refine w_condI (p := v28 < (p0.length : Int)) (b := (decide (v28 < (p0.length : Int)))) rfl decide_eq_true_iff (fun h39 => ?_) (fun h39 => ?_)
    · replace hm := hm.1 h39
      refine w_skip ?_
      refine hK38 _ _ ?_
      refine w_seq fun K40 hK40 => ?_
      refine w_block ?_
      refine w_seq fun K41 hK41 => ?_
      refine w_region ?_
      obtain ⟨hg42, hm⟩ := hm
      refine wl_val (q_index (i := v28) SL35 rfl rfl (hp0.bel hB34) hg42) rfl ?_
      refine wl_val (q_load (i := v28) (v := .int .i64 (p0[(Int.toNat v28)]!)) ON3 (hp0.bel hB34) hg42 rfl rfl) rfl ?_
      refine wl_val (g_assign (v := .int .i64 (p0[(Int.toNat v28)]!)) rfl) rfl ?_
      refine wl_nil ?_
      refine hK41 _ _ ?_
      refine w_seq fun K43 hK43 => ?_
      refine w_region ?_
      refine wl_val (g_move (v := .int .i64 (p0[(Int.toNat v28)]!)) rfl) rfl ?_
      refine wl_val (g_move (v := .int .i64 p1) rfl) rfl ?_
      refine wl_val (g_move (v := .int .i64 p2) rfl) rfl ?_
      refine wl_step rfl (g_call (vs := #[.int .i64 (p0[(Int.toNat v28)]!), .int .i64 p1, .int .i64 p2]) CF62 (args3 rfl rfl rfl) (m_impl_within_fn (p0[(Int.toNat v28)]!) p1 p2 hm)) ?_
      rintro _ w44 ⟨r47, hm, rfl, hE45⟩
      have hB48 := hB34.trans (Ext.stp hE45 hS35.base)
      have hS49 := hS35.ext hE45
      refine wl_val (g_not (a := r47) rfl) rfl ?_
      refine wl_nil ?_
      refine hK43 _ _ ?_
      refine w_condI (p := ¬ (r47 = true)) (b := (!r47)) rfl (i_not Iff.rfl) (fun h50 => ?_) (fun h50 => ?_)
      · replace hm := hm.1 h50
        refine w_seq fun K51 hK51 => ?_
        refine w_region ?_
        refine wl_val (g_assign (v := .bool false) rfl) rfl ?_
        refine wl_nil ?_
        refine hK51 _ _ ?_
        refine w_ret ?_
        repeat first | with_reducible refine q_then ?_ | with_reducible refine q_block ?_
        exact ret1 rfl (by decide) ⟨_, hm, rfl, toExt hB48⟩
      · replace hm := hm.2 h50
        refine w_skip ?_
        refine hK40 _ _ ?_
        refine w_region ?_
        obtain ⟨hg52, hm⟩ := hm
        refine wl_val (g_add (a := v28) (b := 1) rfl rfl hg52) rfl ?_
        refine wl_val (g_move (v := .int .i64 (v28 + 1)) rfl) rfl ?_
        refine wl_nil ?_
        exact ⟨((v28 + 1)), hm.2, ⟨rfl, rfl, rfl, rfl, rfl, trivial⟩, ⟨hm.1, hB48, hS49⟩⟩
    · replace hm := hm.2 h39
      refine w_exit ?_
      exact ⟨(), trivial, ⟨hm, hB34, hS35⟩⟩
  · rintro _ b_ w53 ⟨hm, hB54, hS55⟩
    show Wp _ _ _ _ (upds b_ []) w53
    refine w_seq fun K56 hK56 => ?_
    refine w_region ?_
    refine wl_val (g_assign (v := .bool true) rfl) rfl ?_
    refine wl_nil ?_
    refine hK56 _ _ ?_
    refine w_ret ?_
    repeat first | with_reducible refine q_then ?_ | with_reducible refine q_block ?_
    exact ret1 rfl (by decide) ⟨_, hm, rfl, toExt hB54⟩

theorem m_impl_isStrict_fn {w : World} {a0 : Option Addr} {n0 c0 : Nat} {p0 : List Int} {Q : Bool → Prop} (hp0 : Vw w.heap.size w a0 n0 c0 p0) (p1 : Int) (p2 : Int) (hm : m_impl_isStrict p0 p1 p2 Q) :
    Fn Try.prog 61 #[.slice a0 n0 c0, .int .i64 p1, .int .i64 p2] w (fun v w' => ∃ (r0 : Bool), Q r0 ∧ v = .bool r0 ∧ Ext w w') := by
  unfold m_impl_isStrict at hm
  have hB0 := Below.refl w.heap.size w
  have hS0 : Sep w w.heap.size [] := Sep.nil (Nat.le_refl _)
  refine fn_of_wp Try.func61 rfl (by kernel_rfl) (Nat.le_of_ble_eq_true rfl) ?_
  refine w_seq fun K1 hK1 => ?_
  refine w_region ?_
  refine wl_val (g_assign (v := .bool false) rfl) rfl ?_
  refine wl_nil ?_
  refine hK1 _ _ ?_
  refine w_cut (σ := Unit) (fun _ => [(0, .slice a0 n0 c0), (1, .int .i64 p1), (2, .int .i64 p2)]) (fun _ w' => m_impl_isStrict_K0 p0 p1 p2 Q ∧ Below w.heap.size w w' ∧ Sep w' w.heap.size []) ?_ ?_
  · refine w_seq fun K3 hK3 => ?_
    refine w_region ?_
    refine wl_val (g_move (v := .slice a0 n0 c0) rfl) rfl ?_
    refine wl_val (q_len SL35 rfl (Vw.len (hp0.bel hB0))) rfl ?_
    refine wl_val (g_move (v := .int .i64 0) rfl) rfl ?_
    refine wl_nil ?_
    refine hK3 _ _ ?_
    refine w_block ?_
    obtain ⟨I99, μ100, h0101, hr102⟩ := hm
    refine w_for (σ := Int) (fun v98 => [(0, .slice a0 n0 c0), (1, .int .i64 p1), (2, .int .i64 p2), (9, .int .i64 (p0.length : Int)), (10, .int .i64 v98)]) (fun v98 w' => I99 v98 ∧ Below w.heap.size w w' ∧ Sep w' w.heap.size []) (fun v98 => μ100 v98) (0) ⟨rfl, rfl, rfl, rfl, rfl, trivial⟩ ⟨h0101, hB0, hS0⟩ ?_
    rintro v98 b_ w103 ⟨hi_, hB104, hS105⟩
    show Wp _ _ _ _ (upds b_ [(0, .slice a0 n0 c0), (1, .int .i64 p1), (2, .int .i64 p2), (9, .int .i64 (p0.length : Int)), (10, .int .i64 v98)]) w103
    have hm := hr102 v98 hi_
    refine w_seq fun K107 hK107 => ?_
    refine w_region ?_
    refine wl_val (g_lss (a := v98) (b := (p0.length : Int)) rfl rfl) rfl ?_
    refine wl_nil ?_
    refine hK107 _ _ ?_
    refine w_seq fun K108 hK108 => ?_
    refine w_condI (p := v98 < (p0.length : Int)) (b := (decide (v98 < (p0.length : Int)))) rfl decide_eq_true_iff (fun h109 => ?_) (fun h109 => ?_)
    · replace hm := hm.1 h109
      refine w_skip ?_
      refine hK108 _ _ ?_
      refine w_seq fun K110 hK110 => ?_
      refine w_block ?_
      refine w_seq fun K111 hK111 => ?_
      refine w_region ?_
      refine wl_val (g_move (v := .int .i64 v98) rfl) rfl ?_
      refine wl_val (g_assign (v := .int .i64 v98) rfl) rfl ?_
      refine wl_nil ?_
      refine hK111 _ _ ?_
      refine w_seq fun K112 hK112 => ?_
      refine w_draw (X := Ext) (Y := Ext) [] MIX (by decide +kernel) rfl Ext.refl (fun _ _ _ => Ext.trans) (fun _ _ _ => Chg.trans) (fun _ _ h => Ext.chg h _) (fun w113 hE114 => ?_)
      have hB115 := hB104.trans (Ext.stp hE114 hS105.base)
      have hS116 := hS105.ext hE114
      refine ⟨.int .i64 v98, fun w117 hX118 => od_plain rfl (by have hS119 := hS116.ext hX118; have hB120 := hB115.trans (Ext.stp hX118 hS116.base); exact is_ext (g_move (v := .int .i64 v98) rfl)), ?_⟩
      refine ⟨.bool (decide (v98 > 0)), fun w121 hX122 => od_plain rfl (by have hS123 := hS116.ext hX122; have hB124 := hB115.trans (Ext.stp hX122 hS116.base); exact is_ext (g_gtr (a := v98) (b := 0) rfl rfl)), ?_⟩
      refine ⟨.bool (decide (v98 > 0)), fun w125 hX126 => od_plain rfl (by have hS127 := hS116.ext hX126; have hB128 := hB115.trans (Ext.stp hX126 hS116.base); exact is_ext (g_move (v := .bool (decide (v98 > 0))) rfl)), ?_⟩
      refine ⟨if (decide (v98 > 0)) = true then .slice a0 n0 c0 else undef, fun w129 hX130 => od_guard (c := (decide (v98 > 0)) = true) (val := .slice a0 n0 c0) (b := ((decide (v98 > 0)) == true)) (gv_some rfl rfl rfl) beq_iff_eq (fun hc133 => ?_), ?_⟩
      · have hS131 := hS116.ext hX130
        have hB132 := hB115.trans (Ext.stp hX130 hS116.base)
        have hq1 : v98 > 0 := (decide_eq_true_iff.mp hc133)
        exact is_ext (g_move (v := .slice a0 n0 c0) rfl)
      refine ⟨if (decide (v98 > 0)) = true then .int .i64 v98 else undef, fun w134 hX135 => od_guard (c := (decide (v98 > 0)) = true) (val := .int .i64 v98) (b := ((decide (v98 > 0)) == true)) (gv_some rfl rfl rfl) beq_iff_eq (fun hc138 => ?_), ?_⟩
      · have hS136 := hS116.ext hX135
        have hB137 := hB115.trans (Ext.stp hX135 hS116.base)
        have hq1 : v98 > 0 := (decide_eq_true_iff.mp hc138)
        exact is_ext (g_move (v := .int .i64 v98) rfl)
      obtain ⟨hg144, hm⟩ := hm
      refine ⟨if (decide (v98 > 0)) = true then .pointer (some ((adr a0).add ((Int.toNat v98) * El.m Int))) else undef, fun w139 hX140 => od_guard (c := (decide (v98 > 0)) = true) (val := .pointer (some ((adr a0).add ((Int.toNat v98) * El.m Int)))) (b := ((decide (v98 > 0)) == true)) (gv_some rfl rfl rfl) beq_iff_eq (fun hc143 => ?_), ?_⟩
      · have hS141 := hS116.ext hX140
        have hB142 := hB115.trans (Ext.stp hX140 hS116.base)
        have hq1 : v98 > 0 := (decide_eq_true_iff.mp hc143)
        exact is_ext (q_index (i := v98) SL35 (if_pos hc143) (if_pos hc143) (hp0.bel hB142) (hg144 hq1))
      refine ⟨if (decide (v98 > 0)) = true then .int .i64 (p0[(Int.toNat v98)]!) else undef, fun w145 hX146 => od_guard (c := (decide (v98 > 0)) = true) (val := .int .i64 (p0[(Int.toNat v98)]!)) (b := ((decide (v98 > 0)) == true)) (gv_some rfl rfl rfl) beq_iff_eq (fun hc149 => ?_), ?_⟩
      · have hS147 := hS116.ext hX146
        have hB148 := hB115.trans (Ext.stp hX146 hS116.base)
        have hq1 : v98 > 0 := (decide_eq_true_iff.mp hc149)
        exact is_ext (q_load (i := v98) (v := .int .i64 (p0[(Int.toNat v98)]!)) ON3 (hp0.bel hB148) (hg144 hq1) rfl (if_pos hc149))
      refine ⟨if (decide (v98 > 0)) = true then .slice a0 n0 c0 else undef, fun w150 hX151 => od_guard (c := (decide (v98 > 0)) = true) (val := .slice a0 n0 c0) (b := ((decide (v98 > 0)) == true)) (gv_some rfl rfl rfl) beq_iff_eq (fun hc154 => ?_), ?_⟩
      · have hS152 := hS116.ext hX151
        have hB153 := hB115.trans (Ext.stp hX151 hS116.base)
        have hq1 : v98 > 0 := (decide_eq_true_iff.mp hc154)
        exact is_ext (g_move (v := .slice a0 n0 c0) rfl)
      refine ⟨if (decide (v98 > 0)) = true then .int .i64 v98 else undef, fun w155 hX156 => od_guard (c := (decide (v98 > 0)) = true) (val := .int .i64 v98) (b := ((decide (v98 > 0)) == true)) (gv_some rfl rfl rfl) beq_iff_eq (fun hc159 => ?_), ?_⟩
      · have hS157 := hS116.ext hX156
        have hB158 := hB115.trans (Ext.stp hX156 hS116.base)
        have hq1 : v98 > 0 := (decide_eq_true_iff.mp hc159)
        exact is_ext (g_move (v := .int .i64 v98) rfl)
      obtain ⟨hg165, hm⟩ := hm
      refine ⟨if (decide (v98 > 0)) = true then .int .i64 (v98 - 1) else undef, fun w160 hX161 => od_guard (c := (decide (v98 > 0)) = true) (val := .int .i64 (v98 - 1)) (b := ((decide (v98 > 0)) == true)) (gv_some rfl rfl rfl) beq_iff_eq (fun hc164 => ?_), ?_⟩
      · have hS162 := hS116.ext hX161
        have hB163 := hB115.trans (Ext.stp hX161 hS116.base)
        have hq1 : v98 > 0 := (decide_eq_true_iff.mp hc164)
        exact is_ext (g_sub (a := v98) (b := 1) (if_pos hc164) rfl (hg165 hq1))
      obtain ⟨hg171, hm⟩ := hm
      refine ⟨if (decide (v98 > 0)) = true then .pointer (some ((adr a0).add ((Int.toNat (v98 - 1)) * El.m Int))) else undef, fun w166 hX167 => od_guard (c := (decide (v98 > 0)) = true) (val := .pointer (some ((adr a0).add ((Int.toNat (v98 - 1)) * El.m Int)))) (b := ((decide (v98 > 0)) == true)) (gv_some rfl rfl rfl) beq_iff_eq (fun hc170 => ?_), ?_⟩
      · have hS168 := hS116.ext hX167
        have hB169 := hB115.trans (Ext.stp hX167 hS116.base)
        have hq1 : v98 > 0 := (decide_eq_true_iff.mp hc170)
        exact is_ext (q_index (i := (v98 - 1)) SL35 (if_pos hc170) (if_pos hc170) (hp0.bel hB169) (hg171 hq1))
      refine ⟨if (decide (v98 > 0)) = true then .int .i64 (p0[(Int.toNat (v98 - 1))]!) else undef, fun w172 hX173 => od_guard (c := (decide (v98 > 0)) = true) (val := .int .i64 (p0[(Int.toNat (v98 - 1))]!)) (b := ((decide (v98 > 0)) == true)) (gv_some rfl rfl rfl) beq_iff_eq (fun hc176 => ?_), ?_⟩
      · have hS174 := hS116.ext hX173
        have hB175 := hB115.trans (Ext.stp hX173 hS116.base)
        have hq1 : v98 > 0 := (decide_eq_true_iff.mp hc176)
        exact is_ext (q_load (i := (v98 - 1)) (v := .int .i64 (p0[(Int.toNat (v98 - 1))]!)) ON3 (hp0.bel hB175) (hg171 hq1) rfl (if_pos hc176))
      refine ⟨if (decide (v98 > 0)) = true then .bool (decide (p0[(Int.toNat v98)]! ≤ p0[(Int.toNat (v98 - 1))]!)) else undef, fun w177 hX178 => od_guard (c := (decide (v98 > 0)) = true) (val := .bool (decide (p0[(Int.toNat v98)]! ≤ p0[(Int.toNat (v98 - 1))]!))) (b := ((decide (v98 > 0)) == true)) (gv_some rfl rfl rfl) beq_iff_eq (fun hc181 => ?_), ?_⟩
      · have hS179 := hS116.ext hX178
        have hB180 := hB115.trans (Ext.stp hX178 hS116.base)
        have hq1 : v98 > 0 := (decide_eq_true_iff.mp hc181)
        exact is_ext (g_leq (a := p0[(Int.toNat v98)]!) (b := p0[(Int.toNat (v98 - 1))]!) (if_pos hc181) (if_pos hc181))
      refine ⟨.bool ((decide (v98 > 0)) && (decide (p0[(Int.toNat v98)]! ≤ p0[(Int.toNat (v98 - 1))]!))), fun w182 hX183 => od_plain rfl (by have hS184 := hS116.ext hX183; have hB185 := hB115.trans (Ext.stp hX183 hS116.base); exact is_ext (g_pick_and (b := (decide (v98 > 0))) (q := (decide (p0[(Int.toNat v98)]! ≤ p0[(Int.toNat (v98 - 1))]!))) rfl rfl)), ?_⟩
      intro w186 hX187
      have hB188 := hB115.trans (Ext.stp hX187 hS116.base)
      have hS189 := hS116.ext hX187
      refine hK112 _ _ ?_
      refine w_condI (p := ((v98 > 0) ∧ (p0[(Int.toNat v98)]! ≤ p0[(Int.toNat (v98 - 1))]!))) (b := ((decide (v98 > 0)) && (decide (p0[(Int.toNat v98)]! ≤ p0[(Int.toNat (v98 - 1))]!)))) rfl (i_and decide_eq_true_iff decide_eq_true_iff) (fun h190 => ?_) (fun h190 => ?_)
      · replace hm := hm.1 h190
        refine w_seq fun K191 hK191 => ?_
        refine w_region ?_
        refine wl_val (g_assign (v := .bool false) rfl) rfl ?_
        refine wl_nil ?_
        refine hK191 _ _ ?_
        refine w_ret ?_
        repeat first | with_reducible refine q_then ?_ | with_reducible refine q_block ?_
        exact ret1 rfl (by decide) ⟨_, hm, rfl, toExt hB188⟩
      · replace hm := hm.2 h190
        refine w_skip ?_
        refine hK110 _ _ ?_
        refine w_region ?_
        obtain ⟨hg192, hm⟩ := hm
        refine wl_val (g_add (a := v98) (b := 1) rfl rfl hg192) rfl ?_
        refine wl_val (g_move (v := .int .i64 (v98 + 1)) rfl) rfl ?_
        refine wl_nil ?_
        exact ⟨((v98 + 1)), hm.2, ⟨rfl, rfl, rfl, rfl, rfl, trivial⟩, ⟨hm.1, hB188, hS189⟩⟩
    · replace hm := hm.2 h109
      refine w_exit ?_
      exact ⟨(), ⟨rfl, rfl, rfl, trivial⟩, ⟨hm, hB104, hS105⟩⟩
  · rintro _ b_ w193 ⟨hm, hB194, hS195⟩
    show Wp _ _ _ _ (upds b_ [(0, .slice a0 n0 c0), (1, .int .i64 p1), (2, .int .i64 p2)]) w193
    refine w_seq fun K196 hK196 => ?_
    refine w_region ?_
    refine wl_val (g_move (v := .slice a0 n0 c0) rfl) rfl ?_
    refine wl_val (g_move (v := .int .i64 p1) rfl) rfl ?_
    refine wl_val (g_move (v := .int .i64 p2) rfl) rfl ?_
    refine wl_step rfl (g_call (vs := #[.slice a0 n0 c0, .int .i64 p1, .int .i64 p2]) CF74 (args3 rfl rfl rfl) (m_impl_allWithin_fn ((hp0.bel hB194).up hS195) p1 p2 hm)) ?_
    rintro _ w197 ⟨r200, hm, rfl, hE198⟩
    have hB201 := hB194.trans (Ext.stp hE198 hS195.base)
    have hS202 := hS195.ext hE198
    refine wl_val (g_assign (v := .bool r200) rfl) rfl ?_
    refine wl_nil ?_
    refine hK196 _ _ ?_
    refine w_ret ?_
    repeat first | with_reducible refine q_then ?_ | with_reducible refine q_block ?_
    exact ret1 rfl (by decide) ⟨_, hm, rfl, toExt hB201⟩

theorem m_impl_PlayersOk_fn {w : World} {a0 : Option Addr} {n0 c0 : Nat} {y0 : List PlayerD} {p0 : List PlayerC} {Q : Bool → Prop} (hp0 : Tv w.heap.size w a0 n0 c0 y0 p0) (hm : m_impl_PlayersOk p0 Q) :
    Fn Try.prog 24 #[.slice a0 n0 c0] w (fun v w' => ∃ (r0 : Bool), Q r0 ∧ v = .bool r0 ∧ Ext w w') := by
  unfold m_impl_PlayersOk at hm
  have hB0 := Below.refl w.heap.size w
  have hS0 : Sep w w.heap.size [] := Sep.nil (Nat.le_refl _)
  refine fn_of_wp Try.func24 rfl (by kernel_rfl) (Nat.le_of_ble_eq_true rfl) ?_
  refine w_seq fun K1 hK1 => ?_
  refine w_region ?_
  refine wl_val (g_assign (v := .bool false) rfl) rfl ?_
  refine wl_nil ?_
  refine hK1 _ _ ?_
  refine w_cut (σ := Unit) (fun _ => [(0, .slice a0 n0 c0)]) (fun _ w' => m_impl_PlayersOk_K0 p0 Q ∧ Below w.heap.size w w' ∧ Sep w' w.heap.size []) ?_ ?_
  · refine w_seq fun K3 hK3 => ?_
    refine w_region ?_
    refine wl_val (g_move (v := .slice a0 n0 c0) rfl) rfl ?_
    refine wl_val (q_len SL30 rfl (Tv.len (hp0.bel hB0))) rfl ?_
    refine wl_val (g_move (v := .int .i64 0) rfl) rfl ?_
    refine wl_nil ?_
    refine hK3 _ _ ?_
    refine w_block ?_
    obtain ⟨I49, μ50, h051, hr52⟩ := hm
    refine w_for (σ := Int) (fun v48 => [(0, .slice a0 n0 c0), (5, .slice a0 n0 c0), (6, .int .i64 (p0.length : Int)), (7, .int .i64 v48)]) (fun v48 w' => I49 v48 ∧ Below w.heap.size w w' ∧ Sep w' w.heap.size []) (fun v48 => μ50 v48) (0) ⟨rfl, rfl, rfl, rfl, trivial⟩ ⟨h051, hB0, hS0⟩ ?_
    rintro v48 b_ w53 ⟨hi_, hB54, hS55⟩
    show Wp _ _ _ _ (upds b_ [(0, .slice a0 n0 c0), (5, .slice a0 n0 c0), (6, .int .i64 (p0.length : Int)), (7, .int .i64 v48)]) w53
    have hm := hr52 v48 hi_
    refine w_seq fun K57 hK57 => ?_
    refine w_region ?_
    refine wl_val (g_lss (a := v48) (b := (p0.length : Int)) rfl rfl) rfl ?_
    refine wl_nil ?_
    refine hK57 _ _ ?_
    refine w_seq fun K58 hK58 => ?_
    refine w_condI (p := v48 < (p0.length : Int)) (b := (decide (v48 < (p0.length : Int)))) rfl decide_eq_true_iff (fun h59 => ?_) (fun h59 => ?_)
    · replace hm := hm.1 h59
      refine w_skip ?_
      refine hK58 _ _ ?_
      refine w_seq fun K60 hK60 => ?_
      refine w_block ?_
      refine w_seq fun K61 hK61 => ?_
      refine w_region ?_
      obtain ⟨hg62, hm⟩ := hm
      refine wl_val (q_index (i := v48) SL30 rfl rfl (Tv.o (hp0.bel hB54)) (Tv.g (hp0.bel hB54) hg62)) rfl ?_
      refine wl_val (q_loadS (i := v48) (cs := [.slice ((y0[(Int.toNat v48)]!).1.1) ((y0[(Int.toNat v48)]!).1.2.2.length) ((y0[(Int.toNat v48)]!).1.2.1), .int .i64 (p0[(Int.toNat v48)]!.2)]) AG61 (Tv.o (hp0.bel hB54)) (Tv.g (hp0.bel hB54) hg62) (by rw [← Tv.free (hp0.bel hB54) hg62]; rfl) rfl) rfl ?_
      refine wl_step rfl (q_alloc (cs := #[.slice none 0 0, .int .i64 0]) ZR61 rfl hS55) ?_
      rintro _ w63 ⟨g64, rfl, hS66, hE65⟩
      have hB68 := hB54.trans (Ext.stp hE65 hS55.base)
      refine wl_step rfl (q_storeB (i := 0) (bs' := #[.slice ((y0[(Int.toNat v48)]!).1.1) ((y0[(Int.toNat v48)]!).1.2.2.length) ((y0[(Int.toNat v48)]!).1.2.1), .int .i64 (p0[(Int.toNat v48)]!.2)]) (vs := [.slice ((y0[(Int.toNat v48)]!).1.1) ((y0[(Int.toNat v48)]!).1.2.2.length) ((y0[(Int.toNat v48)]!).1.2.1), .int .i64 (p0[(Int.toNat v48)]!.2)]) hS66 AG61.sz rfl rfl rfl (by simp [Value.oneCell']) (Nat.le_of_ble_eq_true rfl) rfl) ?_
      rintro _ w69 ⟨rfl, hS70, hb71⟩
      have hB72 := hB68.trans hb71
      refine wl_nil ?_
      refine hK61 _ _ ?_
      refine w_seq fun K73 hK73 => ?_
      refine w_region ?_
      refine wl_val (g_fieldAddr (q := (⟨g64, 0, none⟩ : Addr)) FL61_0 ON35 rfl) rfl ?_
      refine wl_val (q_loadB (i := 0) (bs := #[.slice ((y0[(Int.toNat v48)]!).1.1) ((y0[(Int.toNat v48)]!).1.2.2.length) ((y0[(Int.toNat v48)]!).1.2.1), .int .i64 (p0[(Int.toNat v48)]!.2)]) hS70.g0 ON35 rfl rfl) rfl ?_
      refine wl_step rfl (g_call (vs := #[.slice ((y0[(Int.toNat v48)]!).1.1) ((y0[(Int.toNat v48)]!).1.2.2.length) ((y0[(Int.toNat v48)]!).1.2.1), .int .i64 0, .int .i64 6]) CF61 (args3 rfl rfl rfl) (m_impl_isStrict_fn ((Tv.rowP (hp0.bel hB72) hg62).up hS70) 0 6 hm)) ?_
      rintro _ w74 ⟨r77, hm, rfl, hE75⟩
      have hB78 := hB72.trans (Ext.stp hE75 hS70.base)
      have hS79 := hS70.ext hE75
      refine wl_val (g_not (a := r77) rfl) rfl ?_
      refine wl_val (g_move (v := .bool (!r77)) rfl) rfl ?_
      refine wl_guard (c := (!r77) = false) (val := .pointer (some (((⟨g64, 0, none⟩ : Addr)).add 1))) (b := ((!r77) == false)) (gv_some rfl rfl rfl) beq_iff_eq (fun hc80 => ?_) ?_
      · have hq1 : ¬ (¬ (r77 = true)) := (i_neg (i_not Iff.rfl) hc80)
        exact g_fieldAddr (q := (⟨g64, 0, none⟩ : Addr)) FL61_1 ON3 rfl
      refine wl_guard (c := (!r77) = false) (val := .int .i64 (p0[(Int.toNat v48)]!.2)) (b := ((!r77) == false)) (gv_some rfl rfl rfl) beq_iff_eq (fun hc81 => ?_) ?_
      · have hq1 : ¬ (¬ (r77 = true)) := (i_neg (i_not Iff.rfl) hc81)
        exact q_loadB (i := 1) (bs := #[.slice ((y0[(Int.toNat v48)]!).1.1) ((y0[(Int.toNat v48)]!).1.2.2.length) ((y0[(Int.toNat v48)]!).1.2.1), .int .i64 (p0[(Int.toNat v48)]!.2)]) hS79.g0 ON3 (if_pos hc81) rfl
      obtain ⟨r83, hk84, hm⟩ := hm
      refine wl_guardE (X := Ext) (c := (!r77) = false) (val := .bool r83) (Ext.refl _) (b := ((!r77) == false)) (gv_some rfl rfl rfl) beq_iff_eq (fun hc82 => ?_) (fun w85 hE86 => ?_)
      · have hq1 : ¬ (¬ (r77 = true)) := (i_neg (i_not Iff.rfl) hc82)
        exact (g_call (vs := #[.int .i64 (p0[(Int.toNat v48)]!.2), .int .i64 0, .int .i64 2]) CF62 (args3 (if_pos hc82) rfl rfl) ((m_impl_within_fn (p0[(Int.toNat v48)]!.2) 0 2 (hk84 hq1)).mono fun _ _ ⟨_, h1, h2, h3⟩ => ⟨by rw [h2, h1], h3⟩))
      have hB87 := hB78.trans (Ext.stp hE86 hS79.base)
      have hS88 := hS79.ext hE86
      refine wl_guard (c := (!r77) = false) (val := .bool (!r83)) (b := ((!r77) == false)) (gv_some rfl rfl rfl) beq_iff_eq (fun hc89 => ?_) ?_
      · have hq1 : ¬ (¬ (r77 = true)) := (i_neg (i_not Iff.rfl) hc89)
        exact g_not (a := r83) (if_pos hc89)
      refine wl_val (g_pick_or (b := (!r77)) (q := (!r83)) rfl rfl) rfl ?_
      refine wl_nil ?_
      refine hK73 _ _ ?_
      refine w_condI (p := ((¬ (r77 = true)) ∨ (¬ (r83 = true)))) (b := ((!r77) || (!r83))) rfl (i_or (i_not Iff.rfl) (i_not Iff.rfl)) (fun h90 => ?_) (fun h90 => ?_)
      · replace hm := hm.1 h90
        refine w_seq fun K91 hK91 => ?_
        refine w_region ?_
        refine wl_val (g_assign (v := .bool false) rfl) rfl ?_
        refine wl_nil ?_
        refine hK91 _ _ ?_
        refine w_ret ?_
        repeat first | with_reducible refine q_then ?_ | with_reducible refine q_block ?_
        exact ret1 rfl (by decide) ⟨_, hm, rfl, toExt hB87⟩
      · replace hm := hm.2 h90
        refine w_skip ?_
        refine hK60 _ _ ?_
        refine w_region ?_
        obtain ⟨hg92, hm⟩ := hm
        refine wl_val (g_add (a := v48) (b := 1) rfl rfl hg92) rfl ?_
        refine wl_val (g_move (v := .int .i64 (v48 + 1)) rfl) rfl ?_
        refine wl_nil ?_
        have hS93 := hS88.tail
        exact ⟨((v48 + 1)), hm.2, ⟨rfl, rfl, rfl, rfl, trivial⟩, ⟨hm.1, hB87, hS93⟩⟩
    · replace hm := hm.2 h59
      refine w_exit ?_
      exact ⟨(), ⟨rfl, trivial⟩, ⟨hm, hB54, hS55⟩⟩
  · rintro _ b_ w94 ⟨hm, hB95, hS96⟩
    show Wp _ _ _ _ (upds b_ [(0, .slice a0 n0 c0)]) w94
    refine w_seq fun K97 hK97 => ?_
    refine w_region ?_
    refine wl_val (g_move (v := .slice a0 n0 c0) rfl) rfl ?_
    refine wl_val (q_len SL30 rfl (Tv.len (hp0.bel hB95))) rfl ?_
    refine wl_step rfl (g_call (vs := #[.int .i64 (p0.length : Int), .int .i64 1, .int .i64 6]) CF62 (args3 rfl rfl rfl) (m_impl_within_fn (p0.length : Int) 1 6 hm)) ?_
    rintro _ w98 ⟨r101, hm, rfl, hE99⟩
    have hB102 := hB95.trans (Ext.stp hE99 hS96.base)
    have hS103 := hS96.ext hE99
    refine wl_val (g_assign (v := .bool r101) rfl) rfl ?_
    refine wl_nil ?_
    refine hK97 _ _ ?_
    refine w_ret ?_
    repeat first | with_reducible refine q_then ?_ | with_reducible refine q_block ?_
    exact ret1 rfl (by decide) ⟨_, hm, rfl, toExt hB102⟩

theorem m_laws_eqPlayer_fn {w : World} {a0_0 : Option Addr} {n0_0 c0_0 : Nat} {a1_0 : Option Addr} {n1_0 c1_0 : Nat} {Q : Bool → Prop} (p0 : PlayerC) (hp0_0 : Vw w.heap.size w a0_0 n0_0 c0_0 p0.1) (p1 : PlayerC) (hp1_0 : Vw w.heap.size w a1_0 n1_0 c1_0 p1.1) (hm : m_laws_eqPlayer p0 p1 Q) :
    Fn Try.prog 63 #[.agg #[.slice a0_0 n0_0 c0_0, .int .i64 p0.2], .agg #[.slice a1_0 n1_0 c1_0, .int .i64 p1.2]] w (fun v w' => ∃ (r0 : Bool), Q r0 ∧ v = .bool r0 ∧ Ext w w') := by
  unfold m_laws_eqPlayer at hm
  have hB0 := Below.refl w.heap.size w
  have hS0 : Sep w w.heap.size [] := Sep.nil (Nat.le_refl _)
  refine fn_of_wp Try.func63 rfl (by kernel_rfl) (Nat.le_of_ble_eq_true rfl) ?_
  refine w_seq fun K1 hK1 => ?_
  refine w_region ?_
  refine wl_step rfl (q_box (cs := #[.slice a0_0 n0_0 c0_0, .int .i64 p0.2]) rfl rfl hS0) ?_
  rintro _ w2 ⟨g3, rfl, hS5, hE4⟩
  have hB7 := hB0.trans (Ext.stp hE4 hS0.base)
  refine wl_step rfl (q_box (cs := #[.slice a1_0 n1_0 c1_0, .int .i64 p1.2]) rfl rfl hS5) ?_
  rintro _ w8 ⟨g9, rfl, hS11, hE10⟩
  have hB13 := hB7.trans (Ext.stp hE10 hS5.base)
  refine wl_val (g_assign (v := .bool false) rfl) rfl ?_
  refine wl_nil ?_
  refine hK1 _ _ ?_
  refine w_seq fun K14 hK14 => ?_
  refine w_seq fun K15 hK15 => ?_
  refine w_region ?_
  refine wl_val (g_fieldAddr (q := (⟨g3, 0, none⟩ : Addr)) FL61_0 ON35 rfl) rfl ?_
  refine wl_val (q_loadB (i := 0) (bs := #[.slice a0_0 n0_0 c0_0, .int .i64 p0.2]) hS11.g1 ON35 rfl rfl) rfl ?_
  refine wl_val (g_fieldAddr (q := (⟨g9, 0, none⟩ : Addr)) FL61_0 ON35 rfl) rfl ?_
  refine wl_val (q_loadB (i := 0) (bs := #[.slice a1_0 n1_0 c1_0, .int .i64 p1.2]) hS11.g0 ON35 rfl rfl) rfl ?_
  refine wl_step rfl (g_call (vs := #[.slice a0_0 n0_0 c0_0, .slice a1_0 n1_0 c1_0]) CF31 (args2 rfl rfl) (m_laws_eqIntS_fn ((hp0_0.bel hB13).up hS11) ((hp1_0.bel hB13).up hS11) hm)) ?_
  rintro _ w16 ⟨r19, hm, rfl, hE17⟩
  have hB20 := hB13.trans (Ext.stp hE17 hS11.base)
  have hS21 := hS11.ext hE17
  refine wl_val (g_not (a := r19) rfl) rfl ?_
  refine wl_nil ?_
  refine hK15 _ _ ?_
  refine w_condI (p := ¬ (r19 = true)) (b := (!r19)) rfl (i_not Iff.rfl) (fun h22 => ?_) (fun h22 => ?_)
  · replace hm := hm.1 h22
    refine w_seq fun K23 hK23 => ?_
    refine w_region ?_
    refine wl_val (g_assign (v := .bool false) rfl) rfl ?_
    refine wl_nil ?_
    refine hK23 _ _ ?_
    refine w_ret ?_
    repeat first | with_reducible refine q_then ?_ | with_reducible refine q_block ?_
    exact ret1 rfl (by decide) ⟨_, hm, rfl, toExt hB20⟩
  · replace hm := hm.2 h22
    refine w_skip ?_
    refine hK14 _ _ ?_
    refine w_seq fun K24 hK24 => ?_
    refine w_seq fun K25 hK25 => ?_
    refine w_region ?_
    refine wl_val (g_fieldAddr (q := (⟨g3, 0, none⟩ : Addr)) FL61_1 ON3 rfl) rfl ?_
    refine wl_val (q_loadB (i := 1) (bs := #[.slice a0_0 n0_0 c0_0, .int .i64 p0.2]) hS21.g1 ON3 rfl rfl) rfl ?_
    refine wl_val (g_fieldAddr (q := (⟨g9, 0, none⟩ : Addr)) FL61_1 ON3 rfl) rfl ?_
    refine wl_val (q_loadB (i := 1) (bs := #[.slice a1_0 n1_0 c1_0, .int .i64 p1.2]) hS21.g0 ON3 rfl rfl) rfl ?_
    refine wl_val (g_neq (a := p0.2) (b := p1.2) rfl rfl) rfl ?_
    refine wl_nil ?_
    refine hK25 _ _ ?_
    refine w_condI (p := p0.2 ≠ p1.2) (b := (decide (p0.2 ≠ p1.2))) rfl decide_eq_true_iff (fun h26 => ?_) (fun h26 => ?_)
    · replace hm := hm.1 h26
      refine w_seq fun K27 hK27 => ?_
      refine w_region ?_
      refine wl_val (g_assign (v := .bool false) rfl) rfl ?_
      refine wl_nil ?_
      refine hK27 _ _ ?_
      refine w_ret ?_
      repeat first | with_reducible refine q_then ?_ | with_reducible refine q_block ?_
      exact ret1 rfl (by decide) ⟨_, hm, rfl, toExt hB20⟩
    · replace hm := hm.2 h26
      refine w_skip ?_
      refine hK24 _ _ ?_
      refine w_seq fun K28 hK28 => ?_
      refine w_region ?_
      refine wl_val (g_assign (v := .bool true) rfl) rfl ?_
      refine wl_nil ?_
      refine hK28 _ _ ?_
      refine w_ret ?_
      repeat first | with_reducible refine q_then ?_ | with_reducible refine q_block ?_
      exact ret1 rfl (by decide) ⟨_, hm, rfl, toExt hB20⟩

theorem m_laws_eqPlayerS_fn {w : World} {a0 : Option Addr} {n0 c0 : Nat} {y0 : List PlayerD} {p0 : List PlayerC} {a1 : Option Addr} {n1 c1 : Nat} {y1 : List PlayerD} {p1 : List PlayerC} {Q : Bool → Prop} (hp0 : Tv w.heap.size w a0 n0 c0 y0 p0) (hp1 : Tv w.heap.size w a1 n1 c1 y1 p1) (hm : m_laws_eqPlayerS p0 p1 Q) :
    Fn Try.prog 25 #[.slice a0 n0 c0, .slice a1 n1 c1] w (fun v w' => ∃ (r0 : Bool), Q r0 ∧ v = .bool r0 ∧ Ext w w') := by
  unfold m_laws_eqPlayerS at hm
  have hB0 := Below.refl w.heap.size w
  have hS0 : Sep w w.heap.size [] := Sep.nil (Nat.le_refl _)
  refine fn_of_wp Try.func25 rfl (by kernel_rfl) (Nat.le_of_ble_eq_true rfl) ?_
  refine w_seq fun K1 hK1 => ?_
  refine w_region ?_
  refine wl_val (g_assign (v := .bool false) rfl) rfl ?_
  refine wl_nil ?_
  refine hK1 _ _ ?_
  refine w_seq fun K2 hK2 => ?_
  refine w_seq fun K3 hK3 => ?_
  refine w_region ?_
  refine wl_val (g_move (v := .slice a0 n0 c0) rfl) rfl ?_
  refine wl_val (q_len SL30 rfl (Tv.len (hp0.bel hB0))) rfl ?_
  refine wl_val (g_move (v := .slice a1 n1 c1) rfl) rfl ?_
  refine wl_val (q_len SL30 rfl (Tv.len (hp1.bel hB0))) rfl ?_
  refine wl_val (g_neq (a := (p0.length : Int)) (b := (p1.length : Int)) rfl rfl) rfl ?_
  refine wl_nil ?_
  refine hK3 _ _ ?_
  refine w_condI (p := (p0.length : Int) ≠ (p1.length : Int)) (b := (decide ((p0.length : Int) ≠ (p1.length : Int)))) rfl decide_eq_true_iff (fun h4 => ?_) (fun h4 => ?_)
  · replace hm := hm.1 h4
    refine w_seq fun K5 hK5 => ?_
    refine w_region ?_
    refine wl_val (g_assign (v := .bool false) rfl) rfl ?_
    refine wl_nil ?_
    refine hK5 _ _ ?_
    refine w_ret ?_
    repeat first | with_reducible refine q_then ?_ | with_reducible refine q_block ?_
    exact ret1 rfl (by decide) ⟨_, hm, rfl, toExt hB0⟩
  · replace hm := hm.2 h4
    refine w_skip ?_
    refine hK2 _ _ ?_
    refine w_cut (σ := Unit) (fun _ => []) (fun _ w' => m_laws_eqPlayerS_K0 Q ∧ Below w.heap.size w w' ∧ Sep w' w.heap.size []) ?_ ?_
    · refine w_seq fun K7 hK7 => ?_
      refine w_region ?_
      refine wl_val (g_assign (v := .int .i64 0) rfl) rfl ?_
      refine wl_nil ?_
      refine hK7 _ _ ?_
      refine w_block ?_
      obtain ⟨I77, μ78, h079, hr80⟩ := hm
      refine w_for (σ := Int) (fun v76 => [(0, .slice a0 n0 c0), (1, .slice a1 n1 c1), (5, .int .i64 v76)]) (fun v76 w' => I77 v76 ∧ Below w.heap.size w w' ∧ Sep w' w.heap.size []) (fun v76 => μ78 v76) (0) ⟨rfl, rfl, rfl, trivial⟩ ⟨h079, hB0, hS0⟩ ?_
      rintro v76 b_ w81 ⟨hi_, hB82, hS83⟩
      show Wp _ _ _ _ (upds b_ [(0, .slice a0 n0 c0), (1, .slice a1 n1 c1), (5, .int .i64 v76)]) w81
      have hm := hr80 v76 hi_
      refine w_seq fun K85 hK85 => ?_
      refine w_seq fun K86 hK86 => ?_
      refine w_region ?_
      refine wl_val (g_move (v := .int .i64 v76) rfl) rfl ?_
      refine wl_val (g_move (v := .slice a0 n0 c0) rfl) rfl ?_
      refine wl_val (q_len SL30 rfl (Tv.len (hp0.bel hB82))) rfl ?_
      refine wl_val (g_lss (a := v76) (b := (p0.length : Int)) rfl rfl) rfl ?_
      refine wl_nil ?_
      refine hK86 _ _ ?_
      refine w_condI (p := v76 < (p0.length : Int)) (b := (decide (v76 < (p0.length : Int)))) rfl decide_eq_true_iff (fun h87 => ?_) (fun h87 => ?_)
      · replace hm := hm.1 h87
        refine w_skip ?_
        refine hK85 _ _ ?_
        refine w_seq fun K88 hK88 => ?_
        refine w_block ?_
        refine w_seq fun K89 hK89 => ?_
        refine w_draw (X := Ext) (Y := Ext) [] MIX (by decide +kernel) rfl Ext.refl (fun _ _ _ => Ext.trans) (fun _ _ _ => Chg.trans) (fun _ _ h => Ext.chg h _) (fun w90 hE91 => ?_)
        have hB92 := hB82.trans (Ext.stp hE91 hS83.base)
        have hS93 := hS83.ext hE91
        refine ⟨.slice a0 n0 c0, fun w94 hX95 => od_plain rfl (by have hS96 := hS93.ext hX95; have hB97 := hB92.trans (Ext.stp hX95 hS93.base); exact is_ext (g_move (v := .slice a0 n0 c0) rfl)), ?_⟩
        refine ⟨.int .i64 v76, fun w98 hX99 => od_plain rfl (by have hS100 := hS93.ext hX99; have hB101 := hB92.trans (Ext.stp hX99 hS93.base); exact is_ext (g_move (v := .int .i64 v76) rfl)), ?_⟩
        obtain ⟨hg106, hm⟩ := hm
        refine ⟨.pointer (some ((adr a0).add ((Int.toNat v76) * El.m PlayerD))), fun w102 hX103 => od_plain rfl (by have hS104 := hS93.ext hX103; have hB105 := hB92.trans (Ext.stp hX103 hS93.base); exact is_ext (q_index (i := v76) SL30 rfl rfl (Tv.o (hp0.bel hB105)) (Tv.g (hp0.bel hB105) hg106))), ?_⟩
        refine ⟨.agg #[.slice ((y0[(Int.toNat v76)]!).1.1) ((y0[(Int.toNat v76)]!).1.2.2.length) ((y0[(Int.toNat v76)]!).1.2.1), .int .i64 (p0[(Int.toNat v76)]!.2)], fun w107 hX108 => od_plain rfl (by have hS109 := hS93.ext hX108; have hB110 := hB92.trans (Ext.stp hX108 hS93.base); exact is_ext (q_loadS (i := v76) (cs := [.slice ((y0[(Int.toNat v76)]!).1.1) ((y0[(Int.toNat v76)]!).1.2.2.length) ((y0[(Int.toNat v76)]!).1.2.1), .int .i64 (p0[(Int.toNat v76)]!.2)]) AG61 (Tv.o (hp0.bel hB110)) (Tv.g (hp0.bel hB110) hg106) (by rw [← Tv.free (hp0.bel hB110) hg106]; rfl) rfl)), ?_⟩
        refine ⟨.slice a1 n1 c1, fun w111 hX112 => od_plain rfl (by have hS113 := hS93.ext hX112; have hB114 := hB92.trans (Ext.stp hX112 hS93.base); exact is_ext (g_move (v := .slice a1 n1 c1) rfl)), ?_⟩
        refine ⟨.int .i64 v76, fun w115 hX116 => od_plain rfl (by have hS117 := hS93.ext hX116; have hB118 := hB92.trans (Ext.stp hX116 hS93.base); exact is_ext (g_move (v := .int .i64 v76) rfl)), ?_⟩
        obtain ⟨hg123, hm⟩ := hm
        refine ⟨.pointer (some ((adr a1).add ((Int.toNat v76) * El.m PlayerD))), fun w119 hX120 => od_plain rfl (by have hS121 := hS93.ext hX120; have hB122 := hB92.trans (Ext.stp hX120 hS93.base); exact is_ext (q_index (i := v76) SL30 rfl rfl (Tv.o (hp1.bel hB122)) (Tv.g (hp1.bel hB122) hg123))), ?_⟩
        refine ⟨.agg #[.slice ((y1[(Int.toNat v76)]!).1.1) ((y1[(Int.toNat v76)]!).1.2.2.length) ((y1[(Int.toNat v76)]!).1.2.1), .int .i64 (p1[(Int.toNat v76)]!.2)], fun w124 hX125 => od_plain rfl (by have hS126 := hS93.ext hX125; have hB127 := hB92.trans (Ext.stp hX125 hS93.base); exact is_ext (q_loadS (i := v76) (cs := [.slice ((y1[(Int.toNat v76)]!).1.1) ((y1[(Int.toNat v76)]!).1.2.2.length) ((y1[(Int.toNat v76)]!).1.2.1), .int .i64 (p1[(Int.toNat v76)]!.2)]) AG61 (Tv.o (hp1.bel hB127)) (Tv.g (hp1.bel hB127) hg123) (by rw [← Tv.free (hp1.bel hB127) hg123]; rfl) rfl)), ?_⟩
        obtain ⟨r132, hk133, hm⟩ := hm
        refine ⟨.bool r132, fun w128 hX129 => od_plain rfl (by have hS130 := hS93.ext hX129; have hB131 := hB92.trans (Ext.stp hX129 hS93.base); exact (g_call (vs := #[.agg #[.slice ((y0[(Int.toNat v76)]!).1.1) ((y0[(Int.toNat v76)]!).1.2.2.length) ((y0[(Int.toNat v76)]!).1.2.1), .int .i64 (p0[(Int.toNat v76)]!.2)], .agg #[.slice ((y1[(Int.toNat v76)]!).1.1) ((y1[(Int.toNat v76)]!).1.2.2.length) ((y1[(Int.toNat v76)]!).1.2.1), .int .i64 (p1[(Int.toNat v76)]!.2)]]) CF63 (args2 rfl rfl) ((m_laws_eqPlayer_fn (p0[(Int.toNat v76)]!) ((Tv.rowP (hp0.bel hB131) hg106).up hS130) (p1[(Int.toNat v76)]!) ((Tv.rowP (hp1.bel hB131) hg123).up hS130) hk133).mono fun _ _ ⟨_, h1, h2, h3⟩ => ⟨by rw [h2, h1], h3⟩))), ?_⟩
        refine ⟨.bool (!r132), fun w134 hX135 => od_plain rfl (by have hS136 := hS93.ext hX135; have hB137 := hB92.trans (Ext.stp hX135 hS93.base); exact is_ext (g_not (a := r132) rfl)), ?_⟩
        intro w138 hX139
        have hB140 := hB92.trans (Ext.stp hX139 hS93.base)
        have hS141 := hS93.ext hX139
        refine hK89 _ _ ?_
        refine w_condI (p := ¬ (r132 = true)) (b := (!r132)) rfl (i_not Iff.rfl) (fun h142 => ?_) (fun h142 => ?_)
        · replace hm := hm.1 h142
          refine w_seq fun K143 hK143 => ?_
          refine w_region ?_
          refine wl_val (g_assign (v := .bool false) rfl) rfl ?_
          refine wl_nil ?_
          refine hK143 _ _ ?_
          refine w_ret ?_
          repeat first | with_reducible refine q_then ?_ | with_reducible refine q_block ?_
          exact ret1 rfl (by decide) ⟨_, hm, rfl, toExt hB140⟩
        · replace hm := hm.2 h142
          refine w_skip ?_
          refine hK88 _ _ ?_
          refine w_region ?_
          refine wl_val (g_move (v := .int .i64 v76) rfl) rfl ?_
          obtain ⟨hg144, hm⟩ := hm
          refine wl_val (g_add (a := v76) (b := 1) rfl rfl hg144) rfl ?_
          refine wl_val (g_assign (v := .int .i64 (v76 + 1)) rfl) rfl ?_
          refine wl_nil ?_
          exact ⟨((v76 + 1)), hm.2, ⟨rfl, rfl, rfl, trivial⟩, ⟨hm.1, hB140, hS141⟩⟩
      · replace hm := hm.2 h87
        refine w_exit ?_
        exact ⟨(), trivial, ⟨hm, hB82, hS83⟩⟩
    · rintro _ b_ w145 ⟨hm, hB146, hS147⟩
      show Wp _ _ _ _ (upds b_ []) w145
      refine w_seq fun K148 hK148 => ?_
      refine w_region ?_
      refine wl_val (g_assign (v := .bool true) rfl) rfl ?_
      refine wl_nil ?_
      refine hK148 _ _ ?_
      refine w_ret ?_
      repeat first | with_reducible refine q_then ?_ | with_reducible refine q_block ?_
      exact ret1 rfl (by decide) ⟨_, hm, rfl, toExt hB146⟩

end Go.Proofs.Ythmlfpfebdnpcaa
