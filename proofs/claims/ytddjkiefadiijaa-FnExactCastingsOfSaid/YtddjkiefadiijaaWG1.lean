/- The walks: the code does what its model says. Printed by a program (gen2.py). No statement of the claim stands here. -/
import Derived.Test.YtddjkiefadiijaaSop
import Derived.Test.YtddjkiefadiijaaFacts
import Derived.Test.YtddjkiefadiijaaMG
namespace Go.Proofs.Ytddjkiefadiijaa
open Go Go.RowKit
set_option maxRecDepth 100000
theorem m_laws_szIntS_fn {w : World} {a0 : Option Addr} {n0 c0 : Nat} {p0 : List Int} {Q : Int → Prop} (hp0 : Vw w.heap.size w a0 n0 c0 p0) (p1 : Int) (hm : m_laws_szIntS p0 p1 Q) :
    Fn Try.prog 73 #[.slice a0 n0 c0, .int .i64 p1] w (fun v w' => ∃ (r0 : Int), Q r0 ∧ v = .int .i64 r0 ∧ Ext w w') := by
  unfold m_laws_szIntS at hm
  have hB0 := Below.refl w.heap.size w
  have hS0 : Sep w w.heap.size [] := Sep.nil (Nat.le_refl _)
  refine fn_of_wp Try.func73 rfl (by kernel_rfl) (Nat.le_of_ble_eq_true rfl) ?_
  refine w_seq fun K1 hK1 => ?_
  refine w_region ?_
  refine wl_val (g_assign (v := .int .i64 0) rfl) rfl ?_
  refine wl_nil ?_
  refine hK1 _ _ ?_
  refine w_seq fun K2 hK2 => ?_
  refine w_region ?_
  refine wl_val (g_move (v := .int .i64 p1) rfl) rfl ?_
  refine wl_val (g_move (v := .slice a0 n0 c0) rfl) rfl ?_
  refine wl_val (q_len SL23 rfl (Vw.len (hp0.bel hB0))) rfl ?_
  obtain ⟨hg3, hm⟩ := hm
  refine wl_val (g_sub (a := p1) (b := (p0.length : Int)) rfl rfl hg3) rfl ?_
  refine wl_val (g_assign (v := .int .i64 (p1 - (p0.length : Int))) rfl) rfl ?_
  refine wl_nil ?_
  refine hK2 _ _ ?_
  refine w_seq fun K4 hK4 => ?_
  refine w_seq fun K5 hK5 => ?_
  refine w_region ?_
  refine wl_val (g_move (v := .int .i64 (p1 - (p0.length : Int))) rfl) rfl ?_
  refine wl_val (g_lss (a := (p1 - (p0.length : Int))) (b := 0) rfl rfl) rfl ?_
  refine wl_nil ?_
  refine hK5 _ _ ?_
  refine w_condI (p := (p1 - (p0.length : Int)) < 0) (b := (decide ((p1 - (p0.length : Int)) < 0))) rfl decide_eq_true_iff (fun h6 => ?_) (fun h6 => ?_)
  · replace hm := hm.1 h6
    refine w_seq fun K7 hK7 => ?_
    refine w_region ?_
    refine wl_val (g_assign (v := .int .i64 (-1)) rfl) rfl ?_
    refine wl_nil ?_
    refine hK7 _ _ ?_
    refine w_ret ?_
    repeat first | with_reducible refine q_then ?_ | with_reducible refine q_block ?_
    exact ret1 rfl (by decide) ⟨_, hm, rfl, toExt hB0⟩
  · replace hm := hm.2 h6
    refine w_skip ?_
    refine hK4 _ _ ?_
    refine w_seq fun K8 hK8 => ?_
    refine w_region ?_
    refine wl_val (g_move (v := .int .i64 (p1 - (p0.length : Int))) rfl) rfl ?_
    refine wl_val (g_assign (v := .int .i64 (p1 - (p0.length : Int))) rfl) rfl ?_
    refine wl_nil ?_
    refine hK8 _ _ ?_
    refine w_ret ?_
    repeat first | with_reducible refine q_then ?_ | with_reducible refine q_block ?_
    exact ret1 rfl (by decide) ⟨_, hm, rfl, toExt hB0⟩

theorem m_laws_szPlayer_fn {w : World} {a0_0 : Option Addr} {n0_0 c0_0 : Nat} {Q : Int → Prop} (p0 : PlayerC) (hp0_0 : Vw w.heap.size w a0_0 n0_0 c0_0 p0.1) (p1 : Int) (hm : m_laws_szPlayer p0 p1 Q) :
    Fn Try.prog 56 #[.agg #[.slice a0_0 n0_0 c0_0, .int .i64 p0.2], .int .i64 p1] w (fun v w' => ∃ (r0 : Int), Q r0 ∧ v = .int .i64 r0 ∧ Ext w w') := by
  unfold m_laws_szPlayer at hm
  have hB0 := Below.refl w.heap.size w
  have hS0 : Sep w w.heap.size [] := Sep.nil (Nat.le_refl _)
  refine fn_of_wp Try.func56 rfl (by kernel_rfl) (Nat.le_of_ble_eq_true rfl) ?_
  refine w_seq fun K1 hK1 => ?_
  refine w_region ?_
  refine wl_step rfl (q_box (cs := #[.slice a0_0 n0_0 c0_0, .int .i64 p0.2]) rfl rfl hS0) ?_
  rintro _ w2 ⟨g3, rfl, hS5, hE4⟩
  have hB7 := hB0.trans (Ext.stp hE4 hS0.base)
  refine wl_val (g_assign (v := .int .i64 0) rfl) rfl ?_
  refine wl_nil ?_
  refine hK1 _ _ ?_
  refine w_seq fun K8 hK8 => ?_
  refine w_region ?_
  refine wl_val (g_fieldAddr (q := (⟨g3, 0, none⟩ : Addr)) FL64_0 ON23 rfl) rfl ?_
  refine wl_val (q_loadB (i := 0) (bs := #[.slice a0_0 n0_0 c0_0, .int .i64 p0.2]) hS5.g0 ON23 rfl rfl) rfl ?_
  refine wl_val (g_move (v := .int .i64 p1) rfl) rfl ?_
  refine wl_step rfl (g_call (vs := #[.slice a0_0 n0_0 c0_0, .int .i64 p1]) CF73 (args2 rfl rfl) (m_laws_szIntS_fn ((hp0_0.bel hB7).up hS5) p1 hm)) ?_
  rintro _ w9 ⟨r12, hm, rfl, hE10⟩
  have hB13 := hB7.trans (Ext.stp hE10 hS5.base)
  have hS14 := hS5.ext hE10
  refine wl_val (g_assign (v := .int .i64 r12) rfl) rfl ?_
  refine wl_nil ?_
  refine hK8 _ _ ?_
  refine w_seq fun K15 hK15 => ?_
  refine w_seq fun K16 hK16 => ?_
  refine w_region ?_
  refine wl_val (g_move (v := .int .i64 r12) rfl) rfl ?_
  refine wl_val (g_lss (a := r12) (b := 0) rfl rfl) rfl ?_
  refine wl_nil ?_
  refine hK16 _ _ ?_
  refine w_condI (p := r12 < 0) (b := (decide (r12 < 0))) rfl decide_eq_true_iff (fun h17 => ?_) (fun h17 => ?_)
  · replace hm := hm.1 h17
    refine w_seq fun K18 hK18 => ?_
    refine w_region ?_
    refine wl_val (g_assign (v := .int .i64 (-1)) rfl) rfl ?_
    refine wl_nil ?_
    refine hK18 _ _ ?_
    refine w_ret ?_
    repeat first | with_reducible refine q_then ?_ | with_reducible refine q_block ?_
    exact ret1 rfl (by decide) ⟨_, hm, rfl, toExt hB13⟩
  · replace hm := hm.2 h17
    refine w_skip ?_
    refine hK15 _ _ ?_
    refine w_seq fun K19 hK19 => ?_
    refine w_region ?_
    refine wl_val (g_move (v := .int .i64 r12) rfl) rfl ?_
    refine wl_val (g_assign (v := .int .i64 r12) rfl) rfl ?_
    refine wl_nil ?_
    refine hK19 _ _ ?_
    refine w_ret ?_
    repeat first | with_reducible refine q_then ?_ | with_reducible refine q_block ?_
    exact ret1 rfl (by decide) ⟨_, hm, rfl, toExt hB13⟩

theorem m_laws_szPlayerS_fn {w : World} {a0 : Option Addr} {n0 c0 : Nat} {y0 : List PlayerD} {p0 : List PlayerC} {Q : Int → Prop} (hp0 : Tv w.heap.size w a0 n0 c0 y0 p0) (p1 : Int) (hm : m_laws_szPlayerS p0 p1 Q) :
    Fn Try.prog 12 #[.slice a0 n0 c0, .int .i64 p1] w (fun v w' => ∃ (r0 : Int), Q r0 ∧ v = .int .i64 r0 ∧ Ext w w') := by
  unfold m_laws_szPlayerS at hm
  have hB0 := Below.refl w.heap.size w
  have hS0 : Sep w w.heap.size [] := Sep.nil (Nat.le_refl _)
  refine fn_of_wp Try.func12 rfl (by kernel_rfl) (Nat.le_of_ble_eq_true rfl) ?_
  refine w_seq fun K1 hK1 => ?_
  refine w_region ?_
  refine wl_val (g_assign (v := .int .i64 0) rfl) rfl ?_
  refine wl_nil ?_
  refine hK1 _ _ ?_
  refine w_seq fun K2 hK2 => ?_
  refine w_region ?_
  refine wl_val (g_move (v := .int .i64 p1) rfl) rfl ?_
  refine wl_val (g_move (v := .slice a0 n0 c0) rfl) rfl ?_
  refine wl_val (q_len SL22 rfl (Tv.len (hp0.bel hB0))) rfl ?_
  obtain ⟨hg3, hm⟩ := hm
  refine wl_val (g_sub (a := p1) (b := (p0.length : Int)) rfl rfl hg3) rfl ?_
  refine wl_val (g_assign (v := .int .i64 (p1 - (p0.length : Int))) rfl) rfl ?_
  refine wl_nil ?_
  refine hK2 _ _ ?_
  refine w_seq fun K4 hK4 => ?_
  refine w_seq fun K5 hK5 => ?_
  refine w_region ?_
  refine wl_val (g_move (v := .int .i64 (p1 - (p0.length : Int))) rfl) rfl ?_
  refine wl_val (g_lss (a := (p1 - (p0.length : Int))) (b := 0) rfl rfl) rfl ?_
  refine wl_nil ?_
  refine hK5 _ _ ?_
  refine w_condI (p := (p1 - (p0.length : Int)) < 0) (b := (decide ((p1 - (p0.length : Int)) < 0))) rfl decide_eq_true_iff (fun h6 => ?_) (fun h6 => ?_)
  · replace hm := hm.1 h6
    refine w_seq fun K7 hK7 => ?_
    refine w_region ?_
    refine wl_val (g_assign (v := .int .i64 (-1)) rfl) rfl ?_
    refine wl_nil ?_
    refine hK7 _ _ ?_
    refine w_ret ?_
    repeat first | with_reducible refine q_then ?_ | with_reducible refine q_block ?_
    exact ret1 rfl (by decide) ⟨_, hm, rfl, toExt hB0⟩
  · replace hm := hm.2 h6
    refine w_skip ?_
    refine hK4 _ _ ?_
    refine w_cut (σ := Int) (fun v60 => [(1, .int .i64 v60)]) (fun v60 w' => m_laws_szPlayerS_K0 Q v60 ∧ Below w.heap.size w w' ∧ Sep w' w.heap.size []) ?_ ?_
    · refine w_seq fun K62 hK62 => ?_
      refine w_region ?_
      refine wl_val (g_assign (v := .int .i64 0) rfl) rfl ?_
      refine wl_nil ?_
      refine hK62 _ _ ?_
      refine w_block ?_
      obtain ⟨I65, μ66, h067, hr68⟩ := hm
      refine w_for (σ := Int × Int) (fun ⟨v63, v64⟩ => [(0, .slice a0 n0 c0), (1, .int .i64 v63), (5, .int .i64 v64)]) (fun ⟨v63, v64⟩ w' => I65 v63 v64 ∧ Below w.heap.size w w' ∧ Sep w' w.heap.size []) (fun ⟨v63, v64⟩ => μ66 v63 v64) ((p1 - (p0.length : Int)), 0) ⟨rfl, rfl, rfl, trivial⟩ ⟨h067, hB0, hS0⟩ ?_
      rintro ⟨v63, v64⟩ b_ w69 ⟨hi_, hB70, hS71⟩
      show Wp _ _ _ _ (upds b_ [(0, .slice a0 n0 c0), (1, .int .i64 v63), (5, .int .i64 v64)]) w69
      have hm := hr68 v63 v64 hi_
      refine w_seq fun K73 hK73 => ?_
      refine w_seq fun K74 hK74 => ?_
      refine w_region ?_
      refine wl_val (g_move (v := .int .i64 v64) rfl) rfl ?_
      refine wl_val (g_move (v := .slice a0 n0 c0) rfl) rfl ?_
      refine wl_val (q_len SL22 rfl (Tv.len (hp0.bel hB70))) rfl ?_
      refine wl_val (g_lss (a := v64) (b := (p0.length : Int)) rfl rfl) rfl ?_
      refine wl_nil ?_
      refine hK74 _ _ ?_
      refine w_condI (p := v64 < (p0.length : Int)) (b := (decide (v64 < (p0.length : Int)))) rfl decide_eq_true_iff (fun h75 => ?_) (fun h75 => ?_)
      · replace hm := hm.1 h75
        refine w_skip ?_
        refine hK73 _ _ ?_
        refine w_seq fun K76 hK76 => ?_
        refine w_block ?_
        refine w_seq fun K77 hK77 => ?_
        refine w_region ?_
        refine wl_val (g_move (v := .slice a0 n0 c0) rfl) rfl ?_
        refine wl_val (g_move (v := .int .i64 v64) rfl) rfl ?_
        obtain ⟨hg78, hm⟩ := hm
        refine wl_val (q_index (i := v64) SL22 rfl rfl (Tv.o (hp0.bel hB70)) (Tv.g (hp0.bel hB70) hg78)) rfl ?_
        refine wl_val (q_loadS (i := v64) (cs := [.slice ((y0[(Int.toNat v64)]!).1.1) ((y0[(Int.toNat v64)]!).1.2.2.length) ((y0[(Int.toNat v64)]!).1.2.1), .int .i64 (p0[(Int.toNat v64)]!.2)]) AG64 (Tv.o (hp0.bel hB70)) (Tv.g (hp0.bel hB70) hg78) (by rw [← Tv.free (hp0.bel hB70) hg78]; rfl) rfl) rfl ?_
        refine wl_val (g_move (v := .int .i64 v63) rfl) rfl ?_
        refine wl_step rfl (g_call (vs := #[.agg #[.slice ((y0[(Int.toNat v64)]!).1.1) ((y0[(Int.toNat v64)]!).1.2.2.length) ((y0[(Int.toNat v64)]!).1.2.1), .int .i64 (p0[(Int.toNat v64)]!.2)], .int .i64 v63]) CF56 (args2 rfl rfl) (m_laws_szPlayer_fn (p0[(Int.toNat v64)]!) ((Tv.rowP (hp0.bel hB70) hg78).up hS71) v63 hm)) ?_
        rintro _ w79 ⟨r82, hm, rfl, hE80⟩
        have hB83 := hB70.trans (Ext.stp hE80 hS71.base)
        have hS84 := hS71.ext hE80
        refine wl_val (g_assign (v := .int .i64 r82) rfl) rfl ?_
        refine wl_nil ?_
        refine hK77 _ _ ?_
        refine w_seq fun K85 hK85 => ?_
        refine w_region ?_
        refine wl_val (g_move (v := .int .i64 r82) rfl) rfl ?_
        refine wl_val (g_lss (a := r82) (b := 0) rfl rfl) rfl ?_
        refine wl_nil ?_
        refine hK85 _ _ ?_
        refine w_condI (p := r82 < 0) (b := (decide (r82 < 0))) rfl decide_eq_true_iff (fun h86 => ?_) (fun h86 => ?_)
        · replace hm := hm.1 h86
          refine w_seq fun K87 hK87 => ?_
          refine w_region ?_
          refine wl_val (g_assign (v := .int .i64 (-1)) rfl) rfl ?_
          refine wl_nil ?_
          refine hK87 _ _ ?_
          refine w_ret ?_
          repeat first | with_reducible refine q_then ?_ | with_reducible refine q_block ?_
          exact ret1 rfl (by decide) ⟨_, hm, rfl, toExt hB83⟩
        · replace hm := hm.2 h86
          refine w_skip ?_
          refine hK76 _ _ ?_
          refine w_region ?_
          refine wl_val (g_move (v := .int .i64 v64) rfl) rfl ?_
          obtain ⟨hg88, hm⟩ := hm
          refine wl_val (g_add (a := v64) (b := 1) rfl rfl hg88) rfl ?_
          refine wl_val (g_assign (v := .int .i64 (v64 + 1)) rfl) rfl ?_
          refine wl_nil ?_
          exact ⟨(r82, (v64 + 1)), hm.2, ⟨rfl, rfl, rfl, trivial⟩, ⟨hm.1, hB83, hS84⟩⟩
      · replace hm := hm.2 h75
        refine w_exit ?_
        exact ⟨(v63), ⟨rfl, trivial⟩, ⟨hm, hB70, hS71⟩⟩
    · rintro v60 b_ w89 ⟨hm, hB90, hS91⟩
      show Wp _ _ _ _ (upds b_ [(1, .int .i64 v60)]) w89
      refine w_seq fun K92 hK92 => ?_
      refine w_region ?_
      refine wl_val (g_move (v := .int .i64 v60) rfl) rfl ?_
      refine wl_val (g_assign (v := .int .i64 v60) rfl) rfl ?_
      refine wl_nil ?_
      refine hK92 _ _ ?_
      refine w_ret ?_
      repeat first | with_reducible refine q_then ?_ | with_reducible refine q_block ?_
      exact ret1 rfl (by decide) ⟨_, hm, rfl, toExt hB90⟩

theorem m_laws_toIntS_fn {w : World} {a0 : Option Addr} {n0 c0 : Nat} {p0 : List Int} {Q : (List Int) → Prop} (hp0 : Vw w.heap.size w a0 n0 c0 p0) (hm : m_laws_toIntS p0 Q) :
    Fn Try.prog 15 #[.slice a0 n0 c0] w (fun v w' => ∃ (r0 : List Int) (a0 : Option Addr) (n0 c0 : Nat), Q r0 ∧ v = .slice a0 n0 c0 ∧ Ext w w' ∧ Sep w' w.heap.size [oS 3 a0 n0 c0 r0]) := by
  unfold m_laws_toIntS at hm
  have hB0 := Below.refl w.heap.size w
  have hS0 : Sep w w.heap.size [] := Sep.nil (Nat.le_refl _)
  refine fn_of_wp Try.func15 rfl (by kernel_rfl) (Nat.le_of_ble_eq_true rfl) ?_
  refine w_seq fun K1 hK1 => ?_
  refine w_region ?_
  refine wl_val (g_assign (v := .slice none 0 0) rfl) rfl ?_
  refine wl_nil ?_
  refine hK1 _ _ ?_
  refine w_seq fun K2 hK2 => ?_
  refine w_region ?_
  refine wl_val (g_move (v := .slice a0 n0 c0) rfl) rfl ?_
  refine wl_val (q_len SL23 rfl (Vw.len (hp0.bel hB0))) rfl ?_
  obtain ⟨hg3, hm⟩ := hm
  refine wl_step rfl (q_make (y := (0 : Int)) SL23 rfl rfl hg3.1 hg3.2 (by decide) hS0) ?_
  rintro _ w4 ⟨a5, rfl, hS7, hE6⟩
  have hB9 := hB0.trans (Ext.stp hE6 hS0.base)
  refine wl_val (g_assign (v := .slice a5 (Int.toNat (p0.length : Int)) (Int.toNat (p0.length : Int))) rfl) rfl ?_
  refine wl_nil ?_
  refine hK2 _ _ ?_
  refine w_cut (σ := List Int) (fun x52 => [(3, .slice a5 (Int.toNat (p0.length : Int)) (Int.toNat (p0.length : Int)))]) (fun x52 w' => m_laws_toIntS_K0 Q x52 ∧ Below w.heap.size w w' ∧ Sep w' w.heap.size [oS 3 a5 (Int.toNat (p0.length : Int)) (Int.toNat (p0.length : Int)) (x52 : List Int)]) ?_ ?_
  · refine w_seq fun K54 hK54 => ?_
    refine w_region ?_
    refine wl_val (g_assign (v := .int .i64 0) rfl) rfl ?_
    refine wl_nil ?_
    refine hK54 _ _ ?_
    refine w_block ?_
    obtain ⟨I57, μ58, h059, hr60⟩ := hm
    refine w_for (σ := List Int × Int) (fun ⟨x55, v56⟩ => [(0, .slice a0 n0 c0), (3, .slice a5 (Int.toNat (p0.length : Int)) (Int.toNat (p0.length : Int))), (4, .int .i64 v56)]) (fun ⟨x55, v56⟩ w' => I57 x55 v56 ∧ Below w.heap.size w w' ∧ Sep w' w.heap.size [oS 3 a5 (Int.toNat (p0.length : Int)) (Int.toNat (p0.length : Int)) (x55 : List Int)]) (fun ⟨x55, v56⟩ => μ58 x55 v56) (List.replicate (Int.toNat (p0.length : Int)) (0 : Int), 0) ⟨rfl, rfl, rfl, trivial⟩ ⟨h059, hB9, hS7⟩ ?_
    rintro ⟨x55, v56⟩ b_ w61 ⟨hi_, hB62, hS63⟩
    show Wp _ _ _ _ (upds b_ [(0, .slice a0 n0 c0), (3, .slice a5 (Int.toNat (p0.length : Int)) (Int.toNat (p0.length : Int))), (4, .int .i64 v56)]) w61
    have hm := hr60 x55 v56 hi_
    refine w_seq fun K65 hK65 => ?_
    refine w_seq fun K66 hK66 => ?_
    refine w_region ?_
    refine wl_val (g_move (v := .int .i64 v56) rfl) rfl ?_
    refine wl_val (g_move (v := .slice a0 n0 c0) rfl) rfl ?_
    refine wl_val (q_len SL23 rfl (Vw.len (hp0.bel hB62))) rfl ?_
    refine wl_val (g_lss (a := v56) (b := (p0.length : Int)) rfl rfl) rfl ?_
    refine wl_nil ?_
    refine hK66 _ _ ?_
    refine w_condI (p := v56 < (p0.length : Int)) (b := (decide (v56 < (p0.length : Int)))) rfl decide_eq_true_iff (fun h67 => ?_) (fun h67 => ?_)
    · replace hm := hm.1 h67
      refine w_skip ?_
      refine hK65 _ _ ?_
      refine w_seq fun K68 hK68 => ?_
      refine w_block ?_
      refine w_region ?_
      refine wl_val (g_move (v := .slice a5 (Int.toNat (p0.length : Int)) (Int.toNat (p0.length : Int))) rfl) rfl ?_
      refine wl_val (g_move (v := .int .i64 v56) rfl) rfl ?_
      refine wl_val (g_move (v := .slice a0 n0 c0) rfl) rfl ?_
      refine wl_val (g_move (v := .int .i64 v56) rfl) rfl ?_
      obtain ⟨hg69, hm⟩ := hm
      refine wl_val (q_index (i := v56) SL23 rfl rfl (hp0.bel hB62) hg69) rfl ?_
      refine wl_val (q_load (i := v56) (v := .int .i64 (p0[(Int.toNat v56)]!)) ON3 (hp0.bel hB62) hg69 rfl rfl) rfl ?_
      obtain ⟨hg70, hm⟩ := hm
      refine wl_val (q_index (i := v56) SL23 rfl rfl (oS.vw hS63.g0) hg70) rfl ?_
      refine wl_step rfl (q_store (i := v56) (v := (p0[(Int.toNat v56)]! : Int)) hS63 ON3.sz hg70 rfl rfl rfl) ?_
      rintro _ w71 ⟨rfl, hS72, hb73⟩
      have hB74 := hB62.trans hb73
      refine wl_nil ?_
      refine hK68 _ _ ?_
      refine w_region ?_
      refine wl_val (g_move (v := .int .i64 v56) rfl) rfl ?_
      obtain ⟨hg75, hm⟩ := hm
      refine wl_val (g_add (a := v56) (b := 1) rfl rfl hg75) rfl ?_
      refine wl_val (g_assign (v := .int .i64 (v56 + 1)) rfl) rfl ?_
      refine wl_nil ?_
      exact ⟨((x55.set (Int.toNat v56) (p0[(Int.toNat v56)]!)), (v56 + 1)), hm.2, ⟨rfl, rfl, rfl, trivial⟩, ⟨hm.1, hB74, hS72⟩⟩
    · replace hm := hm.2 h67
      refine w_exit ?_
      exact ⟨(x55), ⟨rfl, trivial⟩, ⟨hm, hB62, hS63⟩⟩
  · rintro x52 b_ w76 ⟨hm, hB77, hS78⟩
    show Wp _ _ _ _ (upds b_ [(3, .slice a5 (Int.toNat (p0.length : Int)) (Int.toNat (p0.length : Int)))]) w76
    refine w_seq fun K79 hK79 => ?_
    refine w_region ?_
    refine wl_val (g_move (v := .slice a5 (Int.toNat (p0.length : Int)) (Int.toNat (p0.length : Int))) rfl) rfl ?_
    refine wl_val (g_assign (v := .slice a5 (Int.toNat (p0.length : Int)) (Int.toNat (p0.length : Int))) rfl) rfl ?_
    refine wl_nil ?_
    refine hK79 _ _ ?_
    refine w_ret ?_
    repeat first | with_reducible refine q_then ?_ | with_reducible refine q_block ?_
    exact ret1 rfl (by decide) ⟨_, _, _, _, hm, rfl, toExt hB77, hS78⟩

theorem m_laws_toPlayer_fn {w : World} {a0_0 : Option Addr} {n0_0 c0_0 : Nat} {Q : PlayerC → Prop} (p0 : PlayerC) (hp0_0 : Vw w.heap.size w a0_0 n0_0 c0_0 p0.1) (hm : m_laws_toPlayer p0 Q) :
    Fn Try.prog 60 #[.agg #[.slice a0_0 n0_0 c0_0, .int .i64 p0.2]] w (fun v w' => ∃ (r0 : PlayerC) (y0 : PlayerD), Q r0 ∧ Er.er y0 = r0 ∧ v = .agg (El.enc y0).toArray ∧ Ext w w' ∧ Sep w' w.heap.size [oT 3 [y0]]) := by
  unfold m_laws_toPlayer at hm
  have hB0 := Below.refl w.heap.size w
  have hS0 : Sep w w.heap.size [] := Sep.nil (Nat.le_refl _)
  refine fn_of_wp Try.func60 rfl (by kernel_rfl) (Nat.le_of_ble_eq_true rfl) ?_
  refine w_seq fun K1 hK1 => ?_
  refine w_region ?_
  refine wl_step rfl (q_box (cs := #[.slice a0_0 n0_0 c0_0, .int .i64 p0.2]) rfl rfl hS0) ?_
  rintro _ w2 ⟨g3, rfl, hS5, hE4⟩
  have hB7 := hB0.trans (Ext.stp hE4 hS0.base)
  refine wl_step rfl (q_alloc (cs := #[.slice none 0 0, .int .i64 0]) ZR54 rfl hS5) ?_
  rintro _ w8 ⟨g9, rfl, hS11, hE10⟩
  have hB13 := hB7.trans (Ext.stp hE10 hS5.base)
  refine wl_nil ?_
  refine hK1 _ _ ?_
  refine w_seq fun K14 hK14 => ?_
  refine w_region ?_
  refine wl_step rfl (q_alloc (cs := #[.slice none 0 0, .int .i64 0]) ZR54 rfl hS11) ?_
  rintro _ w15 ⟨g16, rfl, hS18, hE17⟩
  have hB20 := hB13.trans (Ext.stp hE17 hS11.base)
  refine wl_nil ?_
  refine hK14 _ _ ?_
  refine w_seq fun K21 hK21 => ?_
  refine w_region ?_
  refine wl_val (g_fieldAddr (q := (⟨g3, 0, none⟩ : Addr)) FL64_0 ON23 rfl) rfl ?_
  refine wl_val (q_loadB (i := 0) (bs := #[.slice a0_0 n0_0 c0_0, .int .i64 p0.2]) hS18.g2 ON23 rfl rfl) rfl ?_
  refine wl_step rfl (g_call (vs := #[.slice a0_0 n0_0 c0_0]) CF15 (args1 rfl) (m_laws_toIntS_fn ((hp0_0.bel hB20).up hS18) hm)) ?_
  rintro _ w22 ⟨r25, a26, n27, c28, hm, rfl, hE23, hN24⟩
  have hS30 := hS18.call1 hE23 hN24
  have hB31 := hB20.trans (Ext.stp hE23 hS18.base)
  refine wl_val (g_fieldAddr (q := (⟨g16, 0, none⟩ : Addr)) FL54_0 ON23 rfl) rfl ?_
  have hS35 := hS30.f1
  refine wl_step rfl (q_storeB (i := 0) (bs' := #[.slice a26 n27 c28, .int .i64 0]) (vs := [.slice a26 n27 c28]) hS35 ON23.sz rfl rfl rfl (by simp [Value.oneCell']) (Nat.le_of_ble_eq_true rfl) rfl) ?_
  rintro _ w32 ⟨rfl, hS33, hb34⟩
  have hB36 := hB31.trans hb34
  refine wl_nil ?_
  refine hK21 _ _ ?_
  refine w_seq fun K37 hK37 => ?_
  refine w_region ?_
  refine wl_val (g_fieldAddr (q := (⟨g3, 0, none⟩ : Addr)) FL64_1 ON3 rfl) rfl ?_
  refine wl_val (q_loadB (i := 1) (bs := #[.slice a0_0 n0_0 c0_0, .int .i64 p0.2]) hS33.g3 ON3 rfl rfl) rfl ?_
  refine wl_val (g_fieldAddr (q := (⟨g16, 0, none⟩ : Addr)) FL54_1 ON3 rfl) rfl ?_
  refine wl_step rfl (q_storeB (i := 1) (bs' := #[.slice a26 n27 c28, .int .i64 p0.2]) (vs := [.int .i64 p0.2]) hS33 ON3.sz rfl rfl rfl (by simp [Value.oneCell']) (Nat.le_of_ble_eq_true rfl) rfl) ?_
  rintro _ w38 ⟨rfl, hS39, hb40⟩
  have hB41 := hB36.trans hb40
  refine wl_nil ?_
  refine hK37 _ _ ?_
  refine w_seq fun K42 hK42 => ?_
  refine w_region ?_
  refine wl_val (q_loadBS (bs := #[.slice a26 n27 c28, .int .i64 p0.2]) hS39.g0 AG54 rfl) rfl ?_
  have hS46 := hS39.f2
  refine wl_step rfl (q_storeB (i := 0) (bs' := #[.slice a26 n27 c28, .int .i64 p0.2]) (vs := [.slice a26 n27 c28, .int .i64 p0.2]) hS46 AG54.sz rfl rfl rfl (by simp [Value.oneCell']) (Nat.le_of_ble_eq_true rfl) rfl) ?_
  rintro _ w43 ⟨rfl, hS44, hb45⟩
  have hB47 := hB41.trans hb45
  refine wl_nil ?_
  refine hK42 _ _ ?_
  refine w_ret ?_
  have hS48 := hS44.f2
  have hn49 := oS.len hS48.g0
  have hS50 := hS48.rowsPlayer p0.2
  have hcell_ : (oB g9 54 #[.slice a26 n27 c28, .int .i64 p0.2]).ok w43 := hS50.g1
  have hS52 := hS50.f1
  have hS53 := hS52.tail
  have hS54 := hS53.f1
  have hS55 := hS54.tail
  have hS56 := hS55.f1
  have hS57 := hS56.tail
  repeat first | with_reducible refine q_then ?_ | with_reducible refine q_block ?_
  exact ret_cell (q := ⟨g9, 0, none⟩) (cs := [.slice a26 n27 c28, .int .i64 p0.2]) rfl (by decide) rfl AG54 (Blk.all hcell_ rfl) ⟨_, (((a26, c28, r25), p0.2) : PlayerD), hm, rfl, (by rw [hn49]; rfl), toExt hB47, hS57⟩

theorem m_laws_toPlayerS_fn {w : World} {a0 : Option Addr} {n0 c0 : Nat} {y0 : List PlayerD} {p0 : List PlayerC} {Q : (List PlayerC) → Prop} (hp0 : Tv w.heap.size w a0 n0 c0 y0 p0) (hm : m_laws_toPlayerS p0 Q) :
    Fn Try.prog 14 #[.slice a0 n0 c0] w (fun v w' => ∃ (r0 : List PlayerC) (a0 : Option Addr) (n0 c0 : Nat) (y0 : List PlayerD), Q r0 ∧ ers y0 = r0 ∧ v = .slice a0 n0 c0 ∧ Ext w w' ∧ Sep w' w.heap.size [oS 54 a0 n0 c0 y0, oT 3 y0]) := by
  unfold m_laws_toPlayerS at hm
  have hB0 := Below.refl w.heap.size w
  have hS0 : Sep w w.heap.size [] := Sep.nil (Nat.le_refl _)
  refine fn_of_wp Try.func14 rfl (by kernel_rfl) (Nat.le_of_ble_eq_true rfl) ?_
  refine w_seq fun K1 hK1 => ?_
  refine w_region ?_
  refine wl_val (g_assign (v := .slice none 0 0) rfl) rfl ?_
  refine wl_nil ?_
  refine hK1 _ _ ?_
  refine w_seq fun K2 hK2 => ?_
  refine w_region ?_
  refine wl_val (g_move (v := .slice a0 n0 c0) rfl) rfl ?_
  refine wl_val (q_len SL22 rfl (Tv.len (hp0.bel hB0))) rfl ?_
  obtain ⟨hg3, hm⟩ := hm
  refine wl_step rfl (q_make (y := (((none, 0, []), 0) : PlayerD)) SL27 rfl rfl hg3.1 hg3.2 (by decide) hS0) ?_
  rintro _ w4 ⟨a5, rfl, hS7, hE6⟩
  have hB9 := hB0.trans (Ext.stp hE6 hS0.base)
  have hS10 := hS7.nilRows (y := (((none, 0, []), 0) : PlayerD)) (E := 3) (fun j hj => by first | rfl | (show (if j = 0 then _ else _) = _; split <;> rfl)) (Int.toNat (p0.length : Int))
  have he12 : ers (List.replicate (Int.toNat (p0.length : Int)) (((none, 0, []), 0) : PlayerD)) = List.replicate (Int.toNat (p0.length : Int)) (([], 0) : PlayerC) := by simp only [ers, List.map_replicate]; rfl
  refine wl_val (g_assign (v := .slice a5 (Int.toNat (p0.length : Int)) (Int.toNat (p0.length : Int))) rfl) rfl ?_
  refine wl_nil ?_
  refine hK2 _ _ ?_
  refine w_cut (σ := List PlayerC × List PlayerD) (fun ⟨x92, y93⟩ => [(3, .slice a5 (Int.toNat (p0.length : Int)) (Int.toNat (p0.length : Int)))]) (fun ⟨x92, y93⟩ w' => m_laws_toPlayerS_K0 Q x92 ∧ ers y93 = x92 ∧ Below w.heap.size w w' ∧ Sep w' w.heap.size [oS 54 a5 (Int.toNat (p0.length : Int)) (Int.toNat (p0.length : Int)) (y93 : List PlayerD), oT 3 (y93 : List PlayerD)]) ?_ ?_
  · refine w_seq fun K96 hK96 => ?_
    refine w_region ?_
    refine wl_val (g_assign (v := .int .i64 0) rfl) rfl ?_
    refine wl_nil ?_
    refine hK96 _ _ ?_
    refine w_block ?_
    have hS101 := hS10.f1
    obtain ⟨I102, μ103, h0104, hr105⟩ := hm
    refine w_for (σ := List PlayerC × List PlayerD × Int) (fun ⟨x97, y98, v100⟩ => [(0, .slice a0 n0 c0), (3, .slice a5 (Int.toNat (p0.length : Int)) (Int.toNat (p0.length : Int))), (4, .int .i64 v100)]) (fun ⟨x97, y98, v100⟩ w' => I102 x97 v100 ∧ ers y98 = x97 ∧ Below w.heap.size w w' ∧ Sep w' w.heap.size [oS 54 a5 (Int.toNat (p0.length : Int)) (Int.toNat (p0.length : Int)) (y98 : List PlayerD), oT 3 (y98 : List PlayerD)]) (fun ⟨x97, y98, v100⟩ => μ103 x97 v100) (List.replicate (Int.toNat (p0.length : Int)) (([], 0) : PlayerC), List.replicate (Int.toNat (p0.length : Int)) (((none, 0, []), 0) : PlayerD), 0) ⟨rfl, rfl, rfl, trivial⟩ ⟨h0104, he12, hB9, hS101⟩ ?_
    rintro ⟨x97, y98, v100⟩ b_ w106 ⟨hi_, he99, hB107, hS108⟩
    show Wp _ _ _ _ (upds b_ [(0, .slice a0 n0 c0), (3, .slice a5 (Int.toNat (p0.length : Int)) (Int.toNat (p0.length : Int))), (4, .int .i64 v100)]) w106
    have hm := hr105 x97 v100 hi_
    refine w_seq fun K110 hK110 => ?_
    refine w_seq fun K111 hK111 => ?_
    refine w_region ?_
    refine wl_val (g_move (v := .int .i64 v100) rfl) rfl ?_
    refine wl_val (g_move (v := .slice a0 n0 c0) rfl) rfl ?_
    refine wl_val (q_len SL22 rfl (Tv.len (hp0.bel hB107))) rfl ?_
    refine wl_val (g_lss (a := v100) (b := (p0.length : Int)) rfl rfl) rfl ?_
    refine wl_nil ?_
    refine hK111 _ _ ?_
    refine w_condI (p := v100 < (p0.length : Int)) (b := (decide (v100 < (p0.length : Int)))) rfl decide_eq_true_iff (fun h112 => ?_) (fun h112 => ?_)
    · replace hm := hm.1 h112
      refine w_skip ?_
      refine hK110 _ _ ?_
      refine w_seq fun K113 hK113 => ?_
      refine w_block ?_
      refine w_region ?_
      refine wl_val (g_move (v := .slice a5 (Int.toNat (p0.length : Int)) (Int.toNat (p0.length : Int))) rfl) rfl ?_
      refine wl_val (g_move (v := .int .i64 v100) rfl) rfl ?_
      refine wl_val (g_move (v := .slice a0 n0 c0) rfl) rfl ?_
      refine wl_val (g_move (v := .int .i64 v100) rfl) rfl ?_
      obtain ⟨hg114, hm⟩ := hm
      refine wl_val (q_index (i := v100) SL22 rfl rfl (Tv.o (hp0.bel hB107)) (Tv.g (hp0.bel hB107) hg114)) rfl ?_
      refine wl_val (q_loadS (i := v100) (cs := [.slice ((y0[(Int.toNat v100)]!).1.1) ((y0[(Int.toNat v100)]!).1.2.2.length) ((y0[(Int.toNat v100)]!).1.2.1), .int .i64 (p0[(Int.toNat v100)]!.2)]) AG64 (Tv.o (hp0.bel hB107)) (Tv.g (hp0.bel hB107) hg114) (by rw [← Tv.free (hp0.bel hB107) hg114]; rfl) rfl) rfl ?_
      refine wl_step rfl (g_call (vs := #[.agg #[.slice ((y0[(Int.toNat v100)]!).1.1) ((y0[(Int.toNat v100)]!).1.2.2.length) ((y0[(Int.toNat v100)]!).1.2.1), .int .i64 (p0[(Int.toNat v100)]!.2)]]) CF60 (args1 rfl) (m_laws_toPlayer_fn (p0[(Int.toNat v100)]!) ((Tv.rowP (hp0.bel hB107) hg114).up hS108) hm)) ?_
      rintro _ w115 ⟨r118, y119, hm, he120, rfl, hE116, hN117⟩
      have hS122 := hS108.call1 hE116 hN117
      have hB123 := hB107.trans (Ext.stp hE116 hS108.base)
      obtain ⟨hg124, hm⟩ := hm
      refine wl_val (q_index (i := v100) SL27 rfl rfl (Tv.o (oT.vw hS122.g1 hS122.g2 he99)) (Tv.g (oT.vw hS122.g1 hS122.g2 he99) hg124)) rfl ?_
      have he128 : ers [y119] = [r118] := by rw [← he120]; rfl
      have hS129 := hS122.f2
      have hS130 := hS129.f2
      have hS131 := hS130.f2
      refine wl_step rfl (q_setT (i := v100) hS131 he99 hg124 AG54.sz rfl rfl rfl) ?_
      rintro _ w125 ⟨rfl, y132, he133, hS126, hb127⟩
      have he134 := he133.trans (congrArg (List.set _ _) (ers_one he128))
      have hB135 := hB123.trans hb127
      refine wl_nil ?_
      refine hK113 _ _ ?_
      refine w_region ?_
      refine wl_val (g_move (v := .int .i64 v100) rfl) rfl ?_
      obtain ⟨hg136, hm⟩ := hm
      refine wl_val (g_add (a := v100) (b := 1) rfl rfl hg136) rfl ?_
      refine wl_val (g_assign (v := .int .i64 (v100 + 1)) rfl) rfl ?_
      refine wl_nil ?_
      exact ⟨((x97.set (Int.toNat v100) r118), y132, (v100 + 1)), hm.2, ⟨rfl, rfl, rfl, trivial⟩, ⟨hm.1, he134, hB135, hS126⟩⟩
    · replace hm := hm.2 h112
      refine w_exit ?_
      exact ⟨(x97, y98), ⟨rfl, trivial⟩, ⟨hm, he99, hB107, hS108⟩⟩
  · rintro ⟨x92, y93⟩ b_ w137 ⟨hm, he94, hB138, hS139⟩
    show Wp _ _ _ _ (upds b_ [(3, .slice a5 (Int.toNat (p0.length : Int)) (Int.toNat (p0.length : Int)))]) w137
    refine w_seq fun K140 hK140 => ?_
    refine w_region ?_
    refine wl_val (g_move (v := .slice a5 (Int.toNat (p0.length : Int)) (Int.toNat (p0.length : Int))) rfl) rfl ?_
    refine wl_val (g_assign (v := .slice a5 (Int.toNat (p0.length : Int)) (Int.toNat (p0.length : Int))) rfl) rfl ?_
    refine wl_nil ?_
    refine hK140 _ _ ?_
    refine w_ret ?_
    repeat first | with_reducible refine q_then ?_ | with_reducible refine q_block ?_
    exact ret1 rfl (by decide) ⟨_, _, _, _, _, hm, he94, rfl, toExt hB138, hS139⟩

theorem m_spec_l01In_fn {w : World}  {Q : Bool → Prop} (p0 : Int) (p1 : Int) (p2 : Int) (hm : m_spec_l01In p0 p1 p2 Q) :
    Fn Try.prog 88 #[.int .i64 p0, .int .i64 p1, .int .i64 p2] w (fun v w' => ∃ (r0 : Bool), Q r0 ∧ v = .bool r0 ∧ Ext w w') := by
  unfold m_spec_l01In at hm
  have hB0 := Below.refl w.heap.size w
  have hS0 : Sep w w.heap.size [] := Sep.nil (Nat.le_refl _)
  refine fn_of_wp Try.func88 rfl (by kernel_rfl) (Nat.le_of_ble_eq_true rfl) ?_
  refine w_seq fun K1 hK1 => ?_
  refine w_region ?_
  refine wl_val (g_assign (v := .bool false) rfl) rfl ?_
  refine wl_nil ?_
  refine hK1 _ _ ?_
  refine w_seq fun K2 hK2 => ?_
  refine w_region ?_
  refine wl_val (g_move (v := .int .i64 p0) rfl) rfl ?_
  refine wl_val (g_move (v := .int .i64 p1) rfl) rfl ?_
  refine wl_val (g_geq (a := p0) (b := p1) rfl rfl) rfl ?_
  refine wl_val (g_move (v := .bool (decide (p0 ≥ p1))) rfl) rfl ?_
  refine wl_guard (c := (decide (p0 ≥ p1)) = true) (val := .int .i64 p0) (b := ((decide (p0 ≥ p1)) == true)) (gv_some rfl rfl rfl) beq_iff_eq (fun hc3 => ?_) ?_
  · have hcq0 : p0 ≥ p1 := (decide_eq_true_iff.mp hc3)
    exact g_move (v := .int .i64 p0) rfl
  refine wl_guard (c := (decide (p0 ≥ p1)) = true) (val := .int .i64 p2) (b := ((decide (p0 ≥ p1)) == true)) (gv_some rfl rfl rfl) beq_iff_eq (fun hc4 => ?_) ?_
  · have hcq0 : p0 ≥ p1 := (decide_eq_true_iff.mp hc4)
    exact g_move (v := .int .i64 p2) rfl
  refine wl_guard (c := (decide (p0 ≥ p1)) = true) (val := .bool (decide (p0 ≤ p2))) (b := ((decide (p0 ≥ p1)) == true)) (gv_some rfl rfl rfl) beq_iff_eq (fun hc5 => ?_) ?_
  · have hcq0 : p0 ≥ p1 := (decide_eq_true_iff.mp hc5)
    exact g_leq (a := p0) (b := p2) (if_pos hc5) (if_pos hc5)
  refine wl_val (g_pick_and (b := (decide (p0 ≥ p1))) (q := (decide (p0 ≤ p2))) rfl rfl) rfl ?_
  refine wl_val (g_assign (v := .bool ((decide (p0 ≥ p1)) && (decide (p0 ≤ p2)))) rfl) rfl ?_
  refine wl_nil ?_
  refine hK2 _ _ ?_
  refine w_ret ?_
  repeat first | with_reducible refine q_then ?_ | with_reducible refine q_block ?_
  exact ret1 rfl (by decide) ⟨_, hm, rfl, toExt hB0⟩

theorem m_spec_l11Rising_fn {w : World} {a0 : Option Addr} {n0 c0 : Nat} {p0 : List Int} {Q : Bool → Prop} (hp0 : Vw w.heap.size w a0 n0 c0 p0) (p1 : Int) (hm : m_spec_l11Rising p0 p1 Q) :
    Fn Try.prog 58 #[.slice a0 n0 c0, .int .i64 p1] w (fun v w' => ∃ (r0 : Bool), Q r0 ∧ v = .bool r0 ∧ Ext w w') := by
  unfold m_spec_l11Rising at hm
  have hB0 := Below.refl w.heap.size w
  have hS0 : Sep w w.heap.size [] := Sep.nil (Nat.le_refl _)
  refine fn_of_wp Try.func58 rfl (by kernel_rfl) (Nat.le_of_ble_eq_true rfl) ?_
  refine w_seq fun K1 hK1 => ?_
  refine w_region ?_
  refine wl_val (g_assign (v := .bool false) rfl) rfl ?_
  refine wl_nil ?_
  refine hK1 _ _ ?_
  refine w_cut (σ := Unit) (fun _ => []) (fun _ w' => m_spec_l11Rising_K0 Q ∧ Below w.heap.size w w' ∧ Sep w' w.heap.size []) ?_ ?_
  · refine w_seq fun K3 hK3 => ?_
    refine w_region ?_
    refine wl_val (g_assign (v := .int .i64 0) rfl) rfl ?_
    refine wl_nil ?_
    refine hK3 _ _ ?_
    refine w_block ?_
    obtain ⟨I141, μ142, h0143, hr144⟩ := hm
    refine w_for (σ := Int) (fun v140 => [(0, .slice a0 n0 c0), (1, .int .i64 p1), (5, .int .i64 v140)]) (fun v140 w' => I141 v140 ∧ Below w.heap.size w w' ∧ Sep w' w.heap.size []) (fun v140 => μ142 v140) (0) ⟨rfl, rfl, rfl, trivial⟩ ⟨h0143, hB0, hS0⟩ ?_
    rintro v140 b_ w145 ⟨hi_, hB146, hS147⟩
    show Wp _ _ _ _ (upds b_ [(0, .slice a0 n0 c0), (1, .int .i64 p1), (5, .int .i64 v140)]) w145
    have hm := hr144 v140 hi_
    refine w_seq fun K149 hK149 => ?_
    refine w_seq fun K150 hK150 => ?_
    refine w_region ?_
    refine wl_val (g_move (v := .int .i64 v140) rfl) rfl ?_
    refine wl_val (g_move (v := .slice a0 n0 c0) rfl) rfl ?_
    refine wl_val (q_len SL23 rfl (Vw.len (hp0.bel hB146))) rfl ?_
    refine wl_val (g_lss (a := v140) (b := (p0.length : Int)) rfl rfl) rfl ?_
    refine wl_nil ?_
    refine hK150 _ _ ?_
    refine w_condI (p := v140 < (p0.length : Int)) (b := (decide (v140 < (p0.length : Int)))) rfl decide_eq_true_iff (fun h151 => ?_) (fun h151 => ?_)
    · replace hm := hm.1 h151
      refine w_skip ?_
      refine hK149 _ _ ?_
      refine w_seq fun K152 hK152 => ?_
      refine w_block ?_
      refine w_seq fun K153 hK153 => ?_
      refine w_draw (X := Ext) (Y := Ext) [] MIX (by decide +kernel) rfl Ext.refl (fun _ _ _ => Ext.trans) (fun _ _ _ => Chg.trans) (fun _ _ h => Ext.chg h _) (fun w154 hE155 => ?_)
      have hB156 := hB146.trans (Ext.stp hE155 hS147.base)
      have hS157 := hS147.ext hE155
      refine ⟨.slice a0 n0 c0, fun w158 hX159 => od_plain rfl (by have hS160 := hS157.ext hX159; have hB161 := hB156.trans (Ext.stp hX159 hS157.base); exact is_ext (g_move (v := .slice a0 n0 c0) rfl)), ?_⟩
      refine ⟨.int .i64 v140, fun w162 hX163 => od_plain rfl (by have hS164 := hS157.ext hX163; have hB165 := hB156.trans (Ext.stp hX163 hS157.base); exact is_ext (g_move (v := .int .i64 v140) rfl)), ?_⟩
      obtain ⟨hg170, hm⟩ := hm
      refine ⟨.pointer (some ((adr a0).add ((Int.toNat v140) * El.m Int))), fun w166 hX167 => od_plain rfl (by have hS168 := hS157.ext hX167; have hB169 := hB156.trans (Ext.stp hX167 hS157.base); exact is_ext (q_index (i := v140) SL23 rfl rfl (hp0.bel hB169) hg170)), ?_⟩
      refine ⟨.int .i64 (p0[(Int.toNat v140)]!), fun w171 hX172 => od_plain rfl (by have hS173 := hS157.ext hX172; have hB174 := hB156.trans (Ext.stp hX172 hS157.base); exact is_ext (q_load (i := v140) (v := .int .i64 (p0[(Int.toNat v140)]!)) ON3 (hp0.bel hB174) hg170 rfl rfl)), ?_⟩
      refine ⟨.int .i64 p1, fun w175 hX176 => od_plain rfl (by have hS177 := hS157.ext hX176; have hB178 := hB156.trans (Ext.stp hX176 hS157.base); exact is_ext (g_move (v := .int .i64 p1) rfl)), ?_⟩
      obtain ⟨r183, hk184, hm⟩ := hm
      refine ⟨.bool r183, fun w179 hX180 => od_plain rfl (by have hS181 := hS157.ext hX180; have hB182 := hB156.trans (Ext.stp hX180 hS157.base); exact (g_call (vs := #[.int .i64 (p0[(Int.toNat v140)]!), .int .i64 0, .int .i64 p1]) CF88 (args3 rfl rfl rfl) ((m_spec_l01In_fn (p0[(Int.toNat v140)]!) 0 p1 hk184).mono fun _ _ ⟨_, h1, h2, h3⟩ => ⟨by rw [h2, h1], h3⟩))), ?_⟩
      refine ⟨.bool (!r183), fun w185 hX186 => od_plain rfl (by have hS187 := hS157.ext hX186; have hB188 := hB156.trans (Ext.stp hX186 hS157.base); exact is_ext (g_not (a := r183) rfl)), ?_⟩
      refine ⟨.bool (!r183), fun w189 hX190 => od_plain rfl (by have hS191 := hS157.ext hX190; have hB192 := hB156.trans (Ext.stp hX190 hS157.base); exact is_ext (g_move (v := .bool (!r183)) rfl)), ?_⟩
      refine ⟨if (!r183) = false then .int .i64 v140 else undef, fun w193 hX194 => od_guard (c := (!r183) = false) (val := .int .i64 v140) (b := ((!r183) == false)) (gv_some rfl rfl rfl) beq_iff_eq (fun hc197 => ?_), ?_⟩
      · have hS195 := hS157.ext hX194
        have hB196 := hB156.trans (Ext.stp hX194 hS157.base)
        have hcq2 : ¬ (¬ (r183 = true)) := (i_neg (i_not Iff.rfl) hc197)
        exact is_ext (g_move (v := .int .i64 v140) rfl)
      refine ⟨if (!r183) = false then .bool (decide (v140 > 0)) else undef, fun w198 hX199 => od_guard (c := (!r183) = false) (val := .bool (decide (v140 > 0))) (b := ((!r183) == false)) (gv_some rfl rfl rfl) beq_iff_eq (fun hc202 => ?_), ?_⟩
      · have hS200 := hS157.ext hX199
        have hB201 := hB156.trans (Ext.stp hX199 hS157.base)
        have hcq2 : ¬ (¬ (r183 = true)) := (i_neg (i_not Iff.rfl) hc202)
        exact is_ext (g_gtr (a := v140) (b := 0) (if_pos hc202) rfl)
      refine ⟨if (!r183) = false then .bool (decide (v140 > 0)) else undef, fun w203 hX204 => od_guard (c := (!r183) = false) (val := .bool (decide (v140 > 0))) (b := ((!r183) == false)) (gv_some rfl rfl rfl) beq_iff_eq (fun hc207 => ?_), ?_⟩
      · have hS205 := hS157.ext hX204
        have hB206 := hB156.trans (Ext.stp hX204 hS157.base)
        have hcq2 : ¬ (¬ (r183 = true)) := (i_neg (i_not Iff.rfl) hc207)
        exact is_ext (g_move (v := .bool (decide (v140 > 0))) (if_pos hc207))
      refine ⟨if ((!r183) = false) ∧ (decide (v140 > 0)) = true then .slice a0 n0 c0 else undef, fun w208 hX209 => od_guard (c := ((!r183) = false) ∧ (decide (v140 > 0)) = true) (val := .slice a0 n0 c0) (b := decide (((!r183) = false) ∧ (decide (v140 > 0)) = true)) (gv_gd rfl rfl rfl) decide_eq_true_iff (fun hc212 => ?_), ?_⟩
      · have hS210 := hS157.ext hX209
        have hB211 := hB156.trans (Ext.stp hX209 hS157.base)
        have hcq3 : (¬ (¬ (r183 = true))) ∧ (v140 > 0) := ⟨(i_neg (i_not Iff.rfl) (hc212).1), decide_eq_true_iff.mp (hc212).2⟩
        have hcq2 := (hcq3).1
        exact is_ext (g_move (v := .slice a0 n0 c0) rfl)
      refine ⟨if ((!r183) = false) ∧ (decide (v140 > 0)) = true then .int .i64 v140 else undef, fun w213 hX214 => od_guard (c := ((!r183) = false) ∧ (decide (v140 > 0)) = true) (val := .int .i64 v140) (b := decide (((!r183) = false) ∧ (decide (v140 > 0)) = true)) (gv_gd rfl rfl rfl) decide_eq_true_iff (fun hc217 => ?_), ?_⟩
      · have hS215 := hS157.ext hX214
        have hB216 := hB156.trans (Ext.stp hX214 hS157.base)
        have hcq3 : (¬ (¬ (r183 = true))) ∧ (v140 > 0) := ⟨(i_neg (i_not Iff.rfl) (hc217).1), decide_eq_true_iff.mp (hc217).2⟩
        have hcq2 := (hcq3).1
        exact is_ext (g_move (v := .int .i64 v140) rfl)
      obtain ⟨hg223, hm⟩ := hm
      refine ⟨if ((!r183) = false) ∧ (decide (v140 > 0)) = true then .pointer (some ((adr a0).add ((Int.toNat v140) * El.m Int))) else undef, fun w218 hX219 => od_guard (c := ((!r183) = false) ∧ (decide (v140 > 0)) = true) (val := .pointer (some ((adr a0).add ((Int.toNat v140) * El.m Int)))) (b := decide (((!r183) = false) ∧ (decide (v140 > 0)) = true)) (gv_gd rfl rfl rfl) decide_eq_true_iff (fun hc222 => ?_), ?_⟩
      · have hS220 := hS157.ext hX219
        have hB221 := hB156.trans (Ext.stp hX219 hS157.base)
        have hcq3 : (¬ (¬ (r183 = true))) ∧ (v140 > 0) := ⟨(i_neg (i_not Iff.rfl) (hc222).1), decide_eq_true_iff.mp (hc222).2⟩
        have hcq2 := (hcq3).1
        exact is_ext (q_index (i := v140) SL23 (if_pos hc222) (if_pos hc222) (hp0.bel hB221) (hg223 hcq3))
      refine ⟨if ((!r183) = false) ∧ (decide (v140 > 0)) = true then .int .i64 (p0[(Int.toNat v140)]!) else undef, fun w224 hX225 => od_guard (c := ((!r183) = false) ∧ (decide (v140 > 0)) = true) (val := .int .i64 (p0[(Int.toNat v140)]!)) (b := decide (((!r183) = false) ∧ (decide (v140 > 0)) = true)) (gv_gd rfl rfl rfl) decide_eq_true_iff (fun hc228 => ?_), ?_⟩
      · have hS226 := hS157.ext hX225
        have hB227 := hB156.trans (Ext.stp hX225 hS157.base)
        have hcq3 : (¬ (¬ (r183 = true))) ∧ (v140 > 0) := ⟨(i_neg (i_not Iff.rfl) (hc228).1), decide_eq_true_iff.mp (hc228).2⟩
        have hcq2 := (hcq3).1
        exact is_ext (q_load (i := v140) (v := .int .i64 (p0[(Int.toNat v140)]!)) ON3 (hp0.bel hB227) (hg223 hcq3) rfl (if_pos hc228))
      refine ⟨if ((!r183) = false) ∧ (decide (v140 > 0)) = true then .slice a0 n0 c0 else undef, fun w229 hX230 => od_guard (c := ((!r183) = false) ∧ (decide (v140 > 0)) = true) (val := .slice a0 n0 c0) (b := decide (((!r183) = false) ∧ (decide (v140 > 0)) = true)) (gv_gd rfl rfl rfl) decide_eq_true_iff (fun hc233 => ?_), ?_⟩
      · have hS231 := hS157.ext hX230
        have hB232 := hB156.trans (Ext.stp hX230 hS157.base)
        have hcq3 : (¬ (¬ (r183 = true))) ∧ (v140 > 0) := ⟨(i_neg (i_not Iff.rfl) (hc233).1), decide_eq_true_iff.mp (hc233).2⟩
        have hcq2 := (hcq3).1
        exact is_ext (g_move (v := .slice a0 n0 c0) rfl)
      refine ⟨if ((!r183) = false) ∧ (decide (v140 > 0)) = true then .int .i64 v140 else undef, fun w234 hX235 => od_guard (c := ((!r183) = false) ∧ (decide (v140 > 0)) = true) (val := .int .i64 v140) (b := decide (((!r183) = false) ∧ (decide (v140 > 0)) = true)) (gv_gd rfl rfl rfl) decide_eq_true_iff (fun hc238 => ?_), ?_⟩
      · have hS236 := hS157.ext hX235
        have hB237 := hB156.trans (Ext.stp hX235 hS157.base)
        have hcq3 : (¬ (¬ (r183 = true))) ∧ (v140 > 0) := ⟨(i_neg (i_not Iff.rfl) (hc238).1), decide_eq_true_iff.mp (hc238).2⟩
        have hcq2 := (hcq3).1
        exact is_ext (g_move (v := .int .i64 v140) rfl)
      obtain ⟨hg244, hm⟩ := hm
      refine ⟨if ((!r183) = false) ∧ (decide (v140 > 0)) = true then .int .i64 (v140 - 1) else undef, fun w239 hX240 => od_guard (c := ((!r183) = false) ∧ (decide (v140 > 0)) = true) (val := .int .i64 (v140 - 1)) (b := decide (((!r183) = false) ∧ (decide (v140 > 0)) = true)) (gv_gd rfl rfl rfl) decide_eq_true_iff (fun hc243 => ?_), ?_⟩
      · have hS241 := hS157.ext hX240
        have hB242 := hB156.trans (Ext.stp hX240 hS157.base)
        have hcq3 : (¬ (¬ (r183 = true))) ∧ (v140 > 0) := ⟨(i_neg (i_not Iff.rfl) (hc243).1), decide_eq_true_iff.mp (hc243).2⟩
        have hcq2 := (hcq3).1
        exact is_ext (g_sub (a := v140) (b := 1) (if_pos hc243) rfl (hg244 hcq3))
      obtain ⟨hg250, hm⟩ := hm
      refine ⟨if ((!r183) = false) ∧ (decide (v140 > 0)) = true then .pointer (some ((adr a0).add ((Int.toNat (v140 - 1)) * El.m Int))) else undef, fun w245 hX246 => od_guard (c := ((!r183) = false) ∧ (decide (v140 > 0)) = true) (val := .pointer (some ((adr a0).add ((Int.toNat (v140 - 1)) * El.m Int)))) (b := decide (((!r183) = false) ∧ (decide (v140 > 0)) = true)) (gv_gd rfl rfl rfl) decide_eq_true_iff (fun hc249 => ?_), ?_⟩
      · have hS247 := hS157.ext hX246
        have hB248 := hB156.trans (Ext.stp hX246 hS157.base)
        have hcq3 : (¬ (¬ (r183 = true))) ∧ (v140 > 0) := ⟨(i_neg (i_not Iff.rfl) (hc249).1), decide_eq_true_iff.mp (hc249).2⟩
        have hcq2 := (hcq3).1
        exact is_ext (q_index (i := (v140 - 1)) SL23 (if_pos hc249) (if_pos hc249) (hp0.bel hB248) (hg250 hcq3))
      refine ⟨if ((!r183) = false) ∧ (decide (v140 > 0)) = true then .int .i64 (p0[(Int.toNat (v140 - 1))]!) else undef, fun w251 hX252 => od_guard (c := ((!r183) = false) ∧ (decide (v140 > 0)) = true) (val := .int .i64 (p0[(Int.toNat (v140 - 1))]!)) (b := decide (((!r183) = false) ∧ (decide (v140 > 0)) = true)) (gv_gd rfl rfl rfl) decide_eq_true_iff (fun hc255 => ?_), ?_⟩
      · have hS253 := hS157.ext hX252
        have hB254 := hB156.trans (Ext.stp hX252 hS157.base)
        have hcq3 : (¬ (¬ (r183 = true))) ∧ (v140 > 0) := ⟨(i_neg (i_not Iff.rfl) (hc255).1), decide_eq_true_iff.mp (hc255).2⟩
        have hcq2 := (hcq3).1
        exact is_ext (q_load (i := (v140 - 1)) (v := .int .i64 (p0[(Int.toNat (v140 - 1))]!)) ON3 (hp0.bel hB254) (hg250 hcq3) rfl (if_pos hc255))
      refine ⟨if ((!r183) = false) ∧ (decide (v140 > 0)) = true then .bool (decide (p0[(Int.toNat v140)]! ≤ p0[(Int.toNat (v140 - 1))]!)) else undef, fun w256 hX257 => od_guard (c := ((!r183) = false) ∧ (decide (v140 > 0)) = true) (val := .bool (decide (p0[(Int.toNat v140)]! ≤ p0[(Int.toNat (v140 - 1))]!))) (b := decide (((!r183) = false) ∧ (decide (v140 > 0)) = true)) (gv_gd rfl rfl rfl) decide_eq_true_iff (fun hc260 => ?_), ?_⟩
      · have hS258 := hS157.ext hX257
        have hB259 := hB156.trans (Ext.stp hX257 hS157.base)
        have hcq3 : (¬ (¬ (r183 = true))) ∧ (v140 > 0) := ⟨(i_neg (i_not Iff.rfl) (hc260).1), decide_eq_true_iff.mp (hc260).2⟩
        have hcq2 := (hcq3).1
        exact is_ext (g_leq (a := p0[(Int.toNat v140)]!) (b := p0[(Int.toNat (v140 - 1))]!) (if_pos hc260) (if_pos hc260))
      refine ⟨if (!r183) = false then .bool ((decide (v140 > 0)) && (decide (p0[(Int.toNat v140)]! ≤ p0[(Int.toNat (v140 - 1))]!))) else undef, fun w261 hX262 => od_guard (c := (!r183) = false) (val := .bool ((decide (v140 > 0)) && (decide (p0[(Int.toNat v140)]! ≤ p0[(Int.toNat (v140 - 1))]!)))) (b := ((!r183) == false)) (gv_some rfl rfl rfl) beq_iff_eq (fun hc265 => ?_), ?_⟩
      · have hS263 := hS157.ext hX262
        have hB264 := hB156.trans (Ext.stp hX262 hS157.base)
        have hcq2 : ¬ (¬ (r183 = true)) := (i_neg (i_not Iff.rfl) hc265)
        exact is_ext (g_pick_and (b := (decide (v140 > 0))) (q := (decide (p0[(Int.toNat v140)]! ≤ p0[(Int.toNat (v140 - 1))]!))) (if_pos hc265) (gd_in hc265))
      refine ⟨.bool ((!r183) || ((decide (v140 > 0)) && (decide (p0[(Int.toNat v140)]! ≤ p0[(Int.toNat (v140 - 1))]!)))), fun w266 hX267 => od_plain rfl (by have hS268 := hS157.ext hX267; have hB269 := hB156.trans (Ext.stp hX267 hS157.base); exact is_ext (g_pick_or (b := (!r183)) (q := ((decide (v140 > 0)) && (decide (p0[(Int.toNat v140)]! ≤ p0[(Int.toNat (v140 - 1))]!)))) rfl rfl)), ?_⟩
      intro w270 hX271
      have hB272 := hB156.trans (Ext.stp hX271 hS157.base)
      have hS273 := hS157.ext hX271
      refine hK153 _ _ ?_
      refine w_condI (p := ((¬ (r183 = true)) ∨ (((v140 > 0) ∧ (p0[(Int.toNat v140)]! ≤ p0[(Int.toNat (v140 - 1))]!))))) (b := ((!r183) || ((decide (v140 > 0)) && (decide (p0[(Int.toNat v140)]! ≤ p0[(Int.toNat (v140 - 1))]!))))) rfl (i_or (i_not Iff.rfl) (i_and decide_eq_true_iff decide_eq_true_iff)) (fun h274 => ?_) (fun h274 => ?_)
      · replace hm := hm.1 h274
        refine w_seq fun K275 hK275 => ?_
        refine w_region ?_
        refine wl_val (g_assign (v := .bool false) rfl) rfl ?_
        refine wl_nil ?_
        refine hK275 _ _ ?_
        refine w_ret ?_
        repeat first | with_reducible refine q_then ?_ | with_reducible refine q_block ?_
        exact ret1 rfl (by decide) ⟨_, hm, rfl, toExt hB272⟩
      · replace hm := hm.2 h274
        refine w_skip ?_
        refine hK152 _ _ ?_
        refine w_region ?_
        refine wl_val (g_move (v := .int .i64 v140) rfl) rfl ?_
        obtain ⟨hg276, hm⟩ := hm
        refine wl_val (g_add (a := v140) (b := 1) rfl rfl hg276) rfl ?_
        refine wl_val (g_assign (v := .int .i64 (v140 + 1)) rfl) rfl ?_
        refine wl_nil ?_
        exact ⟨((v140 + 1)), hm.2, ⟨rfl, rfl, rfl, trivial⟩, ⟨hm.1, hB272, hS273⟩⟩
    · replace hm := hm.2 h151
      refine w_exit ?_
      exact ⟨(), trivial, ⟨hm, hB146, hS147⟩⟩
  · rintro _ b_ w277 ⟨hm, hB278, hS279⟩
    show Wp _ _ _ _ (upds b_ []) w277
    refine w_seq fun K280 hK280 => ?_
    refine w_region ?_
    refine wl_val (g_assign (v := .bool true) rfl) rfl ?_
    refine wl_nil ?_
    refine hK280 _ _ ?_
    refine w_ret ?_
    repeat first | with_reducible refine q_then ?_ | with_reducible refine q_block ?_
    exact ret1 rfl (by decide) ⟨_, hm, rfl, toExt hB278⟩

theorem m_spec_PlayersOk_fn {w : World} {a0 : Option Addr} {n0 c0 : Nat} {y0 : List PlayerD} {p0 : List PlayerC} {Q : Bool → Prop} (hp0 : Tv w.heap.size w a0 n0 c0 y0 p0) (hm : m_spec_PlayersOk p0 Q) :
    Fn Try.prog 57 #[.slice a0 n0 c0] w (fun v w' => ∃ (r0 : Bool), Q r0 ∧ v = .bool r0 ∧ Ext w w') := by
  unfold m_spec_PlayersOk at hm
  have hB0 := Below.refl w.heap.size w
  have hS0 : Sep w w.heap.size [] := Sep.nil (Nat.le_refl _)
  refine fn_of_wp Try.func57 rfl (by kernel_rfl) (Nat.le_of_ble_eq_true rfl) ?_
  refine w_seq fun K1 hK1 => ?_
  refine w_region ?_
  refine wl_val (g_assign (v := .bool false) rfl) rfl ?_
  refine wl_nil ?_
  refine hK1 _ _ ?_
  refine w_cut (σ := Unit) (fun _ => [(0, .slice a0 n0 c0)]) (fun _ w' => m_spec_PlayersOk_K0 p0 Q ∧ Below w.heap.size w w' ∧ Sep w' w.heap.size []) ?_ ?_
  · refine w_seq fun K3 hK3 => ?_
    refine w_region ?_
    refine wl_val (g_assign (v := .int .i64 0) rfl) rfl ?_
    refine wl_nil ?_
    refine hK3 _ _ ?_
    refine w_block ?_
    obtain ⟨I42, μ43, h044, hr45⟩ := hm
    refine w_for (σ := Int) (fun v41 => [(0, .slice a0 n0 c0), (3, .int .i64 v41)]) (fun v41 w' => I42 v41 ∧ Below w.heap.size w w' ∧ Sep w' w.heap.size []) (fun v41 => μ43 v41) (0) ⟨rfl, rfl, trivial⟩ ⟨h044, hB0, hS0⟩ ?_
    rintro v41 b_ w46 ⟨hi_, hB47, hS48⟩
    show Wp _ _ _ _ (upds b_ [(0, .slice a0 n0 c0), (3, .int .i64 v41)]) w46
    have hm := hr45 v41 hi_
    refine w_seq fun K50 hK50 => ?_
    refine w_seq fun K51 hK51 => ?_
    refine w_region ?_
    refine wl_val (g_move (v := .int .i64 v41) rfl) rfl ?_
    refine wl_val (g_move (v := .slice a0 n0 c0) rfl) rfl ?_
    refine wl_val (q_len SL27 rfl (Tv.len (hp0.bel hB47))) rfl ?_
    refine wl_val (g_lss (a := v41) (b := (p0.length : Int)) rfl rfl) rfl ?_
    refine wl_nil ?_
    refine hK51 _ _ ?_
    refine w_condI (p := v41 < (p0.length : Int)) (b := (decide (v41 < (p0.length : Int)))) rfl decide_eq_true_iff (fun h52 => ?_) (fun h52 => ?_)
    · replace hm := hm.1 h52
      refine w_skip ?_
      refine hK50 _ _ ?_
      refine w_seq fun K53 hK53 => ?_
      refine w_block ?_
      refine w_seq fun K54 hK54 => ?_
      refine w_region ?_
      refine wl_val (g_move (v := .slice a0 n0 c0) rfl) rfl ?_
      refine wl_val (g_move (v := .int .i64 v41) rfl) rfl ?_
      obtain ⟨hg55, hm⟩ := hm
      refine wl_val (q_index (i := v41) SL27 rfl rfl (Tv.o (hp0.bel hB47)) (Tv.g (hp0.bel hB47) hg55)) rfl ?_
      refine wl_val (g_fieldAddr (q := (adr a0).add ((Int.toNat v41) * El.m PlayerD)) FL54_0 ON23 rfl) rfl ?_
      refine wl_val (q_loadF (i := v41) (j := 0) (v := .slice ((y0[(Int.toNat v41)]!).1.1) ((y0[(Int.toNat v41)]!).1.2.2.length) ((y0[(Int.toNat v41)]!).1.2.1)) ON23 (Tv.o (hp0.bel hB47)) (Tv.g (hp0.bel hB47) hg55) rfl rfl) rfl ?_
      refine wl_step rfl (g_call (vs := #[.slice ((y0[(Int.toNat v41)]!).1.1) ((y0[(Int.toNat v41)]!).1.2.2.length) ((y0[(Int.toNat v41)]!).1.2.1), .int .i64 6]) CF58 (args2 rfl rfl) (m_spec_l11Rising_fn ((Tv.rowP (hp0.bel hB47) hg55).up hS48) 6 hm)) ?_
      rintro _ w56 ⟨r59, hm, rfl, hE57⟩
      have hB60 := hB47.trans (Ext.stp hE57 hS48.base)
      have hS61 := hS48.ext hE57
      refine wl_val (g_not (a := r59) rfl) rfl ?_
      refine wl_val (g_move (v := .bool (!r59)) rfl) rfl ?_
      refine wl_guard (c := (!r59) = false) (val := .slice a0 n0 c0) (b := ((!r59) == false)) (gv_some rfl rfl rfl) beq_iff_eq (fun hc62 => ?_) ?_
      · have hcq1 : ¬ (¬ (r59 = true)) := (i_neg (i_not Iff.rfl) hc62)
        exact g_move (v := .slice a0 n0 c0) rfl
      refine wl_guard (c := (!r59) = false) (val := .int .i64 v41) (b := ((!r59) == false)) (gv_some rfl rfl rfl) beq_iff_eq (fun hc63 => ?_) ?_
      · have hcq1 : ¬ (¬ (r59 = true)) := (i_neg (i_not Iff.rfl) hc63)
        exact g_move (v := .int .i64 v41) rfl
      obtain ⟨hg65, hm⟩ := hm
      refine wl_guard (c := (!r59) = false) (val := .pointer (some ((adr a0).add ((Int.toNat v41) * El.m PlayerD)))) (b := ((!r59) == false)) (gv_some rfl rfl rfl) beq_iff_eq (fun hc64 => ?_) ?_
      · have hcq1 : ¬ (¬ (r59 = true)) := (i_neg (i_not Iff.rfl) hc64)
        exact q_index (i := v41) SL27 (if_pos hc64) (if_pos hc64) (Tv.o (hp0.bel hB60)) (Tv.g (hp0.bel hB60) (hg65 hcq1))
      refine wl_guard (c := (!r59) = false) (val := .pointer (some (((adr a0).add ((Int.toNat v41) * El.m PlayerD)).add 1))) (b := ((!r59) == false)) (gv_some rfl rfl rfl) beq_iff_eq (fun hc66 => ?_) ?_
      · have hcq1 : ¬ (¬ (r59 = true)) := (i_neg (i_not Iff.rfl) hc66)
        exact g_fieldAddr (q := (adr a0).add ((Int.toNat v41) * El.m PlayerD)) FL54_1 ON3 (if_pos hc66)
      refine wl_guard (c := (!r59) = false) (val := .int .i64 (p0[(Int.toNat v41)]!.2)) (b := ((!r59) == false)) (gv_some rfl rfl rfl) beq_iff_eq (fun hc67 => ?_) ?_
      · have hcq1 : ¬ (¬ (r59 = true)) := (i_neg (i_not Iff.rfl) hc67)
        exact q_loadF (i := v41) (j := 1) (v := .int .i64 (p0[(Int.toNat v41)]!.2)) ON3 (Tv.o (hp0.bel hB60)) (Tv.g (hp0.bel hB60) (hg65 hcq1)) (by rw [← Tv.free (hp0.bel hB60) (hg65 hcq1)]; rfl) (if_pos hc67)
      obtain ⟨r69, hk70, hm⟩ := hm
      refine wl_guardE (X := Ext) (c := (!r59) = false) (val := .bool r69) (Ext.refl _) (b := ((!r59) == false)) (gv_some rfl rfl rfl) beq_iff_eq (fun hc68 => ?_) (fun w71 hE72 => ?_)
      · have hcq1 : ¬ (¬ (r59 = true)) := (i_neg (i_not Iff.rfl) hc68)
        exact (g_call (vs := #[.int .i64 (p0[(Int.toNat v41)]!.2), .int .i64 0, .int .i64 2]) CF88 (args3 (if_pos hc68) rfl rfl) ((m_spec_l01In_fn (p0[(Int.toNat v41)]!.2) 0 2 (hk70 hcq1)).mono fun _ _ ⟨_, h1, h2, h3⟩ => ⟨by rw [h2, h1], h3⟩))
      have hB73 := hB60.trans (Ext.stp hE72 hS61.base)
      have hS74 := hS61.ext hE72
      refine wl_guard (c := (!r59) = false) (val := .bool (!r69)) (b := ((!r59) == false)) (gv_some rfl rfl rfl) beq_iff_eq (fun hc75 => ?_) ?_
      · have hcq1 : ¬ (¬ (r59 = true)) := (i_neg (i_not Iff.rfl) hc75)
        exact g_not (a := r69) (if_pos hc75)
      refine wl_val (g_pick_or (b := (!r59)) (q := (!r69)) rfl rfl) rfl ?_
      refine wl_nil ?_
      refine hK54 _ _ ?_
      refine w_condI (p := ((¬ (r59 = true)) ∨ (¬ (r69 = true)))) (b := ((!r59) || (!r69))) rfl (i_or (i_not Iff.rfl) (i_not Iff.rfl)) (fun h76 => ?_) (fun h76 => ?_)
      · replace hm := hm.1 h76
        refine w_seq fun K77 hK77 => ?_
        refine w_region ?_
        refine wl_val (g_assign (v := .bool false) rfl) rfl ?_
        refine wl_nil ?_
        refine hK77 _ _ ?_
        refine w_ret ?_
        repeat first | with_reducible refine q_then ?_ | with_reducible refine q_block ?_
        exact ret1 rfl (by decide) ⟨_, hm, rfl, toExt hB73⟩
      · replace hm := hm.2 h76
        refine w_skip ?_
        refine hK53 _ _ ?_
        refine w_region ?_
        refine wl_val (g_move (v := .int .i64 v41) rfl) rfl ?_
        obtain ⟨hg78, hm⟩ := hm
        refine wl_val (g_add (a := v41) (b := 1) rfl rfl hg78) rfl ?_
        refine wl_val (g_assign (v := .int .i64 (v41 + 1)) rfl) rfl ?_
        refine wl_nil ?_
        exact ⟨((v41 + 1)), hm.2, ⟨rfl, rfl, trivial⟩, ⟨hm.1, hB73, hS74⟩⟩
    · replace hm := hm.2 h52
      refine w_exit ?_
      exact ⟨(), ⟨rfl, trivial⟩, ⟨hm, hB47, hS48⟩⟩
  · rintro _ b_ w79 ⟨hm, hB80, hS81⟩
    show Wp _ _ _ _ (upds b_ [(0, .slice a0 n0 c0)]) w79
    refine w_seq fun K82 hK82 => ?_
    refine w_region ?_
    refine wl_val (g_move (v := .slice a0 n0 c0) rfl) rfl ?_
    refine wl_val (q_len SL27 rfl (Tv.len (hp0.bel hB80))) rfl ?_
    refine wl_step rfl (g_call (vs := #[.int .i64 (p0.length : Int), .int .i64 1, .int .i64 6]) CF88 (args3 rfl rfl rfl) (m_spec_l01In_fn (p0.length : Int) 1 6 hm)) ?_
    rintro _ w83 ⟨r86, hm, rfl, hE84⟩
    have hB87 := hB80.trans (Ext.stp hE84 hS81.base)
    have hS88 := hS81.ext hE84
    refine wl_val (g_assign (v := .bool r86) rfl) rfl ?_
    refine wl_nil ?_
    refine hK82 _ _ ?_
    refine w_ret ?_
    repeat first | with_reducible refine q_then ?_ | with_reducible refine q_block ?_
    exact ret1 rfl (by decide) ⟨_, hm, rfl, toExt hB87⟩

theorem m_spec_l13Knows_fn {w : World} {a0_0 : Option Addr} {n0_0 c0_0 : Nat} {Q : Bool → Prop} (p0 : PlayerC) (hp0_0 : Vw w.heap.size w a0_0 n0_0 c0_0 p0.1) (p1 : Int) (hm : m_spec_l13Knows p0 p1 Q) :
    Fn Try.prog 89 #[.agg #[.slice a0_0 n0_0 c0_0, .int .i64 p0.2], .int .i64 p1] w (fun v w' => ∃ (r0 : Bool), Q r0 ∧ v = .bool r0 ∧ Ext w w') := by
  unfold m_spec_l13Knows at hm
  have hB0 := Below.refl w.heap.size w
  have hS0 : Sep w w.heap.size [] := Sep.nil (Nat.le_refl _)
  refine fn_of_wp Try.func89 rfl (by kernel_rfl) (Nat.le_of_ble_eq_true rfl) ?_
  refine w_seq fun K1 hK1 => ?_
  refine w_region ?_
  refine wl_step rfl (q_box (cs := #[.slice a0_0 n0_0 c0_0, .int .i64 p0.2]) rfl rfl hS0) ?_
  rintro _ w2 ⟨g3, rfl, hS5, hE4⟩
  have hB7 := hB0.trans (Ext.stp hE4 hS0.base)
  refine wl_val (g_assign (v := .bool false) rfl) rfl ?_
  refine wl_nil ?_
  refine hK1 _ _ ?_
  refine w_cut (σ := Unit) (fun _ => []) (fun _ w' => m_spec_l13Knows_K0 Q ∧ Below w.heap.size w w' ∧ Sep w' w.heap.size []) ?_ ?_
  · refine w_seq fun K9 hK9 => ?_
    refine w_region ?_
    refine wl_val (g_assign (v := .int .i64 0) rfl) rfl ?_
    refine wl_nil ?_
    refine hK9 _ _ ?_
    refine w_block ?_
    obtain ⟨I28, μ29, h030, hr31⟩ := hm
    refine w_for (σ := Int) (fun v27 => [(1, .int .i64 p1), (2, .pointer (some (⟨g3, 0, none⟩ : Addr))), (5, .int .i64 v27)]) (fun v27 w' => I28 v27 ∧ Below w.heap.size w w' ∧ Sep w' w.heap.size [oB g3 54 #[.slice a0_0 n0_0 c0_0, .int .i64 p0.2]]) (fun v27 => μ29 v27) (0) ⟨rfl, rfl, rfl, trivial⟩ ⟨h030, hB7, hS5⟩ ?_
    rintro v27 b_ w32 ⟨hi_, hB33, hS34⟩
    show Wp _ _ _ _ (upds b_ [(1, .int .i64 p1), (2, .pointer (some (⟨g3, 0, none⟩ : Addr))), (5, .int .i64 v27)]) w32
    have hm := hr31 v27 hi_
    refine w_seq fun K36 hK36 => ?_
    refine w_seq fun K37 hK37 => ?_
    refine w_region ?_
    refine wl_val (g_move (v := .int .i64 v27) rfl) rfl ?_
    refine wl_val (g_fieldAddr (q := (⟨g3, 0, none⟩ : Addr)) FL54_0 ON23 rfl) rfl ?_
    refine wl_val (q_loadB (i := 0) (bs := #[.slice a0_0 n0_0 c0_0, .int .i64 p0.2]) hS34.g0 ON23 rfl rfl) rfl ?_
    refine wl_val (q_len SL23 rfl (Vw.len (hp0_0.bel hB33))) rfl ?_
    refine wl_val (g_lss (a := v27) (b := (p0.1.length : Int)) rfl rfl) rfl ?_
    refine wl_nil ?_
    refine hK37 _ _ ?_
    refine w_condI (p := v27 < (p0.1.length : Int)) (b := (decide (v27 < (p0.1.length : Int)))) rfl decide_eq_true_iff (fun h38 => ?_) (fun h38 => ?_)
    · replace hm := hm.1 h38
      refine w_skip ?_
      refine hK36 _ _ ?_
      refine w_seq fun K39 hK39 => ?_
      refine w_block ?_
      refine w_seq fun K40 hK40 => ?_
      refine w_region ?_
      refine wl_val (g_fieldAddr (q := (⟨g3, 0, none⟩ : Addr)) FL54_0 ON23 rfl) rfl ?_
      refine wl_val (q_loadB (i := 0) (bs := #[.slice a0_0 n0_0 c0_0, .int .i64 p0.2]) hS34.g0 ON23 rfl rfl) rfl ?_
      refine wl_val (g_move (v := .int .i64 v27) rfl) rfl ?_
      obtain ⟨hg41, hm⟩ := hm
      refine wl_val (q_index (i := v27) SL23 rfl rfl (hp0_0.bel hB33) hg41) rfl ?_
      refine wl_val (q_load (i := v27) (v := .int .i64 (p0.1[(Int.toNat v27)]!)) ON3 (hp0_0.bel hB33) hg41 rfl rfl) rfl ?_
      refine wl_val (g_move (v := .int .i64 p1) rfl) rfl ?_
      refine wl_val (g_eql (a := p0.1[(Int.toNat v27)]!) (b := p1) rfl rfl) rfl ?_
      refine wl_nil ?_
      refine hK40 _ _ ?_
      refine w_condI (p := p0.1[(Int.toNat v27)]! = p1) (b := (decide (p0.1[(Int.toNat v27)]! = p1))) rfl decide_eq_true_iff (fun h42 => ?_) (fun h42 => ?_)
      · replace hm := hm.1 h42
        refine w_seq fun K43 hK43 => ?_
        refine w_region ?_
        refine wl_val (g_assign (v := .bool true) rfl) rfl ?_
        refine wl_nil ?_
        refine hK43 _ _ ?_
        refine w_ret ?_
        repeat first | with_reducible refine q_then ?_ | with_reducible refine q_block ?_
        exact ret1 rfl (by decide) ⟨_, hm, rfl, toExt hB33⟩
      · replace hm := hm.2 h42
        refine w_skip ?_
        refine hK39 _ _ ?_
        refine w_region ?_
        refine wl_val (g_move (v := .int .i64 v27) rfl) rfl ?_
        obtain ⟨hg44, hm⟩ := hm
        refine wl_val (g_add (a := v27) (b := 1) rfl rfl hg44) rfl ?_
        refine wl_val (g_assign (v := .int .i64 (v27 + 1)) rfl) rfl ?_
        refine wl_nil ?_
        exact ⟨((v27 + 1)), hm.2, ⟨rfl, rfl, rfl, trivial⟩, ⟨hm.1, hB33, hS34⟩⟩
    · replace hm := hm.2 h38
      refine w_exit ?_
      have hS45 := hS34.tail
      exact ⟨(), trivial, ⟨hm, hB33, hS45⟩⟩
  · rintro _ b_ w46 ⟨hm, hB47, hS48⟩
    show Wp _ _ _ _ (upds b_ []) w46
    refine w_seq fun K49 hK49 => ?_
    refine w_region ?_
    refine wl_val (g_assign (v := .bool false) rfl) rfl ?_
    refine wl_nil ?_
    refine hK49 _ _ ?_
    refine w_ret ?_
    repeat first | with_reducible refine q_then ?_ | with_reducible refine q_block ?_
    exact ret1 rfl (by decide) ⟨_, hm, rfl, toExt hB47⟩

theorem m_spec_l13Search_step_fn {rec_ : (List PlayerC) → (List Int) → (List Int) → (List Int) → ((List Int) → Bool → (List Int) → (List Int) → Prop) → Prop} (ih : ∀ {w : World} {B_ : Nat} {L_ : List Ob} {a0 : Option Addr} {n0 c0 : Nat} {y0 : List PlayerD} {p0 : List PlayerC} {a1 : Option Addr} {n1 c1 : Nat} {p1 : List Int} {a2 : Option Addr} {n2 c2 : Nat} {p2 : List Int} {a3 : Option Addr} {n3 c3 : Nat} {p3 : List Int} {Q : (List Int) → Bool → (List Int) → (List Int) → Prop} (hS0 : Sep w B_ (oS 3 a2 n2 c2 (p2 : List Int) :: oS 3 a3 n3 c3 (p3 : List Int) :: L_)) (hp0 : Tv B_ w a0 n0 c0 y0 p0) (hp1 : Vw B_ w a1 n1 c1 p1) (hm : rec_ p0 p1 p2 p3 Q), Fn Try.prog 59 #[.slice a0 n0 c0, .slice a1 n1 c1, .slice a2 n2 c2, .slice a3 n3 c3] w (fun v w' => ∃ (r0 : List Int) (a0 : Option Addr) (n0 c0 : Nat) (r1 : Bool) (x0 : List Int) (x1 : List Int), Q r0 r1 x0 x1 ∧ v = .tuple #[.slice a0 n0 c0, .bool r1] ∧ Below B_ w w' ∧ Sep w' B_ (oS 3 a0 n0 c0 r0 :: oS 3 a2 n2 c2 x0 :: oS 3 a3 n3 c3 x1 :: L_))) {w : World} {B_ : Nat} {L_ : List Ob} {a0 : Option Addr} {n0 c0 : Nat} {y0 : List PlayerD} {p0 : List PlayerC} {a1 : Option Addr} {n1 c1 : Nat} {p1 : List Int} {a2 : Option Addr} {n2 c2 : Nat} {p2 : List Int} {a3 : Option Addr} {n3 c3 : Nat} {p3 : List Int} {Q : (List Int) → Bool → (List Int) → (List Int) → Prop} (hS0 : Sep w B_ (oS 3 a2 n2 c2 (p2 : List Int) :: oS 3 a3 n3 c3 (p3 : List Int) :: L_)) (hp0 : Tv B_ w a0 n0 c0 y0 p0) (hp1 : Vw B_ w a1 n1 c1 p1) (hm : m_spec_l13Search_step rec_ p0 p1 p2 p3 Q) :
    Fn Try.prog 59 #[.slice a0 n0 c0, .slice a1 n1 c1, .slice a2 n2 c2, .slice a3 n3 c3] w (fun v w' => ∃ (r0 : List Int) (a0 : Option Addr) (n0 c0 : Nat) (r1 : Bool) (x0 : List Int) (x1 : List Int), Q r0 r1 x0 x1 ∧ v = .tuple #[.slice a0 n0 c0, .bool r1] ∧ Below B_ w w' ∧ Sep w' B_ (oS 3 a0 n0 c0 r0 :: oS 3 a2 n2 c2 x0 :: oS 3 a3 n3 c3 x1 :: L_)) := by
  unfold m_spec_l13Search_step at hm
  have hB0 := Below.refl B_ w
  refine fn_of_wp Try.func59 rfl (by kernel_rfl) (Nat.le_of_ble_eq_true rfl) ?_
  refine w_seq fun K3 hK3 => ?_
  refine w_region ?_
  refine wl_val (g_assign (v := .slice none 0 0) rfl) rfl ?_
  refine wl_val (g_assign (v := .bool false) rfl) rfl ?_
  refine wl_nil ?_
  refine hK3 _ _ ?_
  refine w_seq fun K4 hK4 => ?_
  refine w_region ?_
  refine wl_val (g_move (v := .slice a2 n2 c2) rfl) rfl ?_
  refine wl_val (q_len SL23 rfl (Vw.len (oS.vw hS0.g0))) rfl ?_
  refine wl_val (g_assign (v := .int .i64 (p2.length : Int)) rfl) rfl ?_
  refine wl_nil ?_
  refine hK4 _ _ ?_
  refine w_seq fun K5 hK5 => ?_
  refine w_seq fun K6 hK6 => ?_
  refine w_region ?_
  refine wl_val (g_move (v := .int .i64 (p2.length : Int)) rfl) rfl ?_
  refine wl_val (g_move (v := .slice a1 n1 c1) rfl) rfl ?_
  refine wl_val (q_len SL23 rfl (Vw.len (hp1.bel hB0))) rfl ?_
  refine wl_val (g_eql (a := (p2.length : Int)) (b := (p1.length : Int)) rfl rfl) rfl ?_
  refine wl_nil ?_
  refine hK6 _ _ ?_
  refine w_condI (p := (p2.length : Int) = (p1.length : Int)) (b := (decide ((p2.length : Int) = (p1.length : Int)))) rfl decide_eq_true_iff (fun h7 => ?_) (fun h7 => ?_)
  · replace hm := hm.1 h7
    refine w_seq fun K8 hK8 => ?_
    refine w_region ?_
    refine wl_step rfl (q_lit0 (α := Int) rfl SL23 hS0) ?_
    rintro _ w9 ⟨a10, rfl, hS12, hE11⟩
    have hB14 := hB0.trans (Ext.stp hE11 hS0.base)
    refine wl_val (g_move (v := .slice a2 n2 c2) rfl) rfl ?_
    obtain ⟨hg20, hm⟩ := hm
    refine wl_step rfl (q_append SL23 rfl rfl hS12 (oS.vw hS12.g1) hg20 (by decide)) ?_
    rintro _ w15 ⟨a16, c17, rfl, hS19, hb18⟩
    have hB21 := hB14.trans hb18
    refine wl_val (g_assign (v := .slice a16 (0 + n2) c17) rfl) rfl ?_
    refine wl_val (g_assign (v := .bool true) rfl) rfl ?_
    refine wl_nil ?_
    refine hK8 _ _ ?_
    refine w_ret ?_
    repeat first | with_reducible refine q_then ?_ | with_reducible refine q_block ?_
    exact ret2 rfl (by decide) (by decide) ⟨_, _, _, _, _, _, _, hm, rfl, hB21, hS19⟩
  · replace hm := hm.2 h7
    refine w_skip ?_
    refine hK5 _ _ ?_
    refine w_cut (σ := List Int) (fun x558 => []) (fun x558 w' => m_spec_l13Search_K0 p2 Q x558 ∧ Below B_ w w' ∧ Sep w' B_ (oS 3 a3 n3 c3 (x558 : List Int) :: oS 3 a2 n2 c2 (p2 : List Int) :: L_)) ?_ ?_
    · refine w_seq fun K560 hK560 => ?_
      refine w_region ?_
      refine wl_val (g_assign (v := .int .i64 0) rfl) rfl ?_
      refine wl_nil ?_
      refine hK560 _ _ ?_
      refine w_block ?_
      have hS563 := hS0.f1
      obtain ⟨I564, μ565, h0566, hr567⟩ := hm
      refine w_for (σ := List Int × Int) (fun ⟨x561, v562⟩ => [(0, .slice a0 n0 c0), (1, .slice a1 n1 c1), (2, .slice a2 n2 c2), (3, .slice a3 n3 c3), (10, .int .i64 (p2.length : Int)), (11, .int .i64 v562)]) (fun ⟨x561, v562⟩ w' => I564 x561 v562 ∧ Below B_ w w' ∧ Sep w' B_ (oS 3 a3 n3 c3 (x561 : List Int) :: oS 3 a2 n2 c2 (p2 : List Int) :: L_)) (fun ⟨x561, v562⟩ => μ565 x561 v562) (p3, 0) ⟨rfl, rfl, rfl, rfl, rfl, rfl, trivial⟩ ⟨h0566, hB0, hS563⟩ ?_
      rintro ⟨x561, v562⟩ b_ w568 ⟨hi_, hB569, hS570⟩
      show Wp _ _ _ _ (upds b_ [(0, .slice a0 n0 c0), (1, .slice a1 n1 c1), (2, .slice a2 n2 c2), (3, .slice a3 n3 c3), (10, .int .i64 (p2.length : Int)), (11, .int .i64 v562)]) w568
      have hm := hr567 x561 v562 hi_
      refine w_seq fun K572 hK572 => ?_
      refine w_seq fun K573 hK573 => ?_
      refine w_region ?_
      refine wl_val (g_move (v := .int .i64 v562) rfl) rfl ?_
      refine wl_val (g_move (v := .slice a0 n0 c0) rfl) rfl ?_
      refine wl_val (q_len SL27 rfl (Tv.len (hp0.bel hB569))) rfl ?_
      refine wl_val (g_lss (a := v562) (b := (p0.length : Int)) rfl rfl) rfl ?_
      refine wl_nil ?_
      refine hK573 _ _ ?_
      refine w_condI (p := v562 < (p0.length : Int)) (b := (decide (v562 < (p0.length : Int)))) rfl decide_eq_true_iff (fun h574 => ?_) (fun h574 => ?_)
      · replace hm := hm.1 h574
        refine w_skip ?_
        refine hK572 _ _ ?_
        refine w_seq fun K575 hK575 => ?_
        refine w_block ?_
        refine w_seq fun K576 hK576 => ?_
        refine w_seq fun K577 hK577 => ?_
        refine w_draw (X := Ext) (Y := Ext) [] MIX (by decide +kernel) rfl Ext.refl (fun _ _ _ => Ext.trans) (fun _ _ _ => Chg.trans) (fun _ _ h => Ext.chg h _) (fun w578 hE579 => ?_)
        have hB580 := hB569.trans (Ext.stp hE579 hS570.base)
        have hS581 := hS570.ext hE579
        refine ⟨.slice a3 n3 c3, fun w582 hX583 => od_plain rfl (by have hS584 := hS581.ext hX583; have hB585 := hB580.trans (Ext.stp hX583 hS581.base); exact is_ext (g_move (v := .slice a3 n3 c3) rfl)), ?_⟩
        refine ⟨.int .i64 v562, fun w586 hX587 => od_plain rfl (by have hS588 := hS581.ext hX587; have hB589 := hB580.trans (Ext.stp hX587 hS581.base); exact is_ext (g_move (v := .int .i64 v562) rfl)), ?_⟩
        obtain ⟨hg594, hm⟩ := hm
        refine ⟨.pointer (some ((adr a3).add ((Int.toNat v562) * El.m Int))), fun w590 hX591 => od_plain rfl (by have hS592 := hS581.ext hX591; have hB593 := hB580.trans (Ext.stp hX591 hS581.base); exact is_ext (q_index (i := v562) SL23 rfl rfl (oS.vw hS592.g0) hg594)), ?_⟩
        refine ⟨.int .i64 (x561[(Int.toNat v562)]!), fun w595 hX596 => od_plain rfl (by have hS597 := hS581.ext hX596; have hB598 := hB580.trans (Ext.stp hX596 hS581.base); exact is_ext (q_load (i := v562) (v := .int .i64 (x561[(Int.toNat v562)]!)) ON3 (oS.vw hS597.g0) hg594 rfl rfl)), ?_⟩
        refine ⟨.slice a0 n0 c0, fun w599 hX600 => od_plain rfl (by have hS601 := hS581.ext hX600; have hB602 := hB580.trans (Ext.stp hX600 hS581.base); exact is_ext (g_move (v := .slice a0 n0 c0) rfl)), ?_⟩
        refine ⟨.int .i64 v562, fun w603 hX604 => od_plain rfl (by have hS605 := hS581.ext hX604; have hB606 := hB580.trans (Ext.stp hX604 hS581.base); exact is_ext (g_move (v := .int .i64 v562) rfl)), ?_⟩
        obtain ⟨hg611, hm⟩ := hm
        refine ⟨.pointer (some ((adr a0).add ((Int.toNat v562) * El.m PlayerD))), fun w607 hX608 => od_plain rfl (by have hS609 := hS581.ext hX608; have hB610 := hB580.trans (Ext.stp hX608 hS581.base); exact is_ext (q_index (i := v562) SL27 rfl rfl (Tv.o (hp0.bel hB610)) (Tv.g (hp0.bel hB610) hg611))), ?_⟩
        refine ⟨.pointer (some (((adr a0).add ((Int.toNat v562) * El.m PlayerD)).add 1)), fun w612 hX613 => od_plain rfl (by have hS614 := hS581.ext hX613; have hB615 := hB580.trans (Ext.stp hX613 hS581.base); exact is_ext (g_fieldAddr (q := (adr a0).add ((Int.toNat v562) * El.m PlayerD)) FL54_1 ON3 rfl)), ?_⟩
        refine ⟨.int .i64 (p0[(Int.toNat v562)]!.2), fun w616 hX617 => od_plain rfl (by have hS618 := hS581.ext hX617; have hB619 := hB580.trans (Ext.stp hX617 hS581.base); exact is_ext (q_loadF (i := v562) (j := 1) (v := .int .i64 (p0[(Int.toNat v562)]!.2)) ON3 (Tv.o (hp0.bel hB619)) (Tv.g (hp0.bel hB619) hg611) (by rw [← Tv.free (hp0.bel hB619) hg611]; rfl) rfl)), ?_⟩
        refine ⟨.bool (decide (x561[(Int.toNat v562)]! ≥ p0[(Int.toNat v562)]!.2)), fun w620 hX621 => od_plain rfl (by have hS622 := hS581.ext hX621; have hB623 := hB580.trans (Ext.stp hX621 hS581.base); exact is_ext (g_geq (a := x561[(Int.toNat v562)]!) (b := p0[(Int.toNat v562)]!.2) rfl rfl)), ?_⟩
        refine ⟨.bool (decide (x561[(Int.toNat v562)]! ≥ p0[(Int.toNat v562)]!.2)), fun w624 hX625 => od_plain rfl (by have hS626 := hS581.ext hX625; have hB627 := hB580.trans (Ext.stp hX625 hS581.base); exact is_ext (g_move (v := .bool (decide (x561[(Int.toNat v562)]! ≥ p0[(Int.toNat v562)]!.2))) rfl)), ?_⟩
        refine ⟨if (decide (x561[(Int.toNat v562)]! ≥ p0[(Int.toNat v562)]!.2)) = false then .slice a0 n0 c0 else undef, fun w628 hX629 => od_guard (c := (decide (x561[(Int.toNat v562)]! ≥ p0[(Int.toNat v562)]!.2)) = false) (val := .slice a0 n0 c0) (b := ((decide (x561[(Int.toNat v562)]! ≥ p0[(Int.toNat v562)]!.2)) == false)) (gv_some rfl rfl rfl) beq_iff_eq (fun hc632 => ?_), ?_⟩
        · have hS630 := hS581.ext hX629
          have hB631 := hB580.trans (Ext.stp hX629 hS581.base)
          have hcq3 : ¬ (x561[(Int.toNat v562)]! ≥ p0[(Int.toNat v562)]!.2) := (i_neg decide_eq_true_iff hc632)
          exact is_ext (g_move (v := .slice a0 n0 c0) rfl)
        refine ⟨if (decide (x561[(Int.toNat v562)]! ≥ p0[(Int.toNat v562)]!.2)) = false then .int .i64 v562 else undef, fun w633 hX634 => od_guard (c := (decide (x561[(Int.toNat v562)]! ≥ p0[(Int.toNat v562)]!.2)) = false) (val := .int .i64 v562) (b := ((decide (x561[(Int.toNat v562)]! ≥ p0[(Int.toNat v562)]!.2)) == false)) (gv_some rfl rfl rfl) beq_iff_eq (fun hc637 => ?_), ?_⟩
        · have hS635 := hS581.ext hX634
          have hB636 := hB580.trans (Ext.stp hX634 hS581.base)
          have hcq3 : ¬ (x561[(Int.toNat v562)]! ≥ p0[(Int.toNat v562)]!.2) := (i_neg decide_eq_true_iff hc637)
          exact is_ext (g_move (v := .int .i64 v562) rfl)
        obtain ⟨hg643, hm⟩ := hm
        refine ⟨if (decide (x561[(Int.toNat v562)]! ≥ p0[(Int.toNat v562)]!.2)) = false then .pointer (some ((adr a0).add ((Int.toNat v562) * El.m PlayerD))) else undef, fun w638 hX639 => od_guard (c := (decide (x561[(Int.toNat v562)]! ≥ p0[(Int.toNat v562)]!.2)) = false) (val := .pointer (some ((adr a0).add ((Int.toNat v562) * El.m PlayerD)))) (b := ((decide (x561[(Int.toNat v562)]! ≥ p0[(Int.toNat v562)]!.2)) == false)) (gv_some rfl rfl rfl) beq_iff_eq (fun hc642 => ?_), ?_⟩
        · have hS640 := hS581.ext hX639
          have hB641 := hB580.trans (Ext.stp hX639 hS581.base)
          have hcq3 : ¬ (x561[(Int.toNat v562)]! ≥ p0[(Int.toNat v562)]!.2) := (i_neg decide_eq_true_iff hc642)
          exact is_ext (q_index (i := v562) SL27 (if_pos hc642) (if_pos hc642) (Tv.o (hp0.bel hB641)) (Tv.g (hp0.bel hB641) (hg643 hcq3)))
        refine ⟨if (decide (x561[(Int.toNat v562)]! ≥ p0[(Int.toNat v562)]!.2)) = false then .agg #[.slice ((y0[(Int.toNat v562)]!).1.1) ((y0[(Int.toNat v562)]!).1.2.2.length) ((y0[(Int.toNat v562)]!).1.2.1), .int .i64 (p0[(Int.toNat v562)]!.2)] else undef, fun w644 hX645 => od_guard (c := (decide (x561[(Int.toNat v562)]! ≥ p0[(Int.toNat v562)]!.2)) = false) (val := .agg #[.slice ((y0[(Int.toNat v562)]!).1.1) ((y0[(Int.toNat v562)]!).1.2.2.length) ((y0[(Int.toNat v562)]!).1.2.1), .int .i64 (p0[(Int.toNat v562)]!.2)]) (b := ((decide (x561[(Int.toNat v562)]! ≥ p0[(Int.toNat v562)]!.2)) == false)) (gv_some rfl rfl rfl) beq_iff_eq (fun hc648 => ?_), ?_⟩
        · have hS646 := hS581.ext hX645
          have hB647 := hB580.trans (Ext.stp hX645 hS581.base)
          have hcq3 : ¬ (x561[(Int.toNat v562)]! ≥ p0[(Int.toNat v562)]!.2) := (i_neg decide_eq_true_iff hc648)
          exact is_ext (q_loadS (i := v562) (cs := [.slice ((y0[(Int.toNat v562)]!).1.1) ((y0[(Int.toNat v562)]!).1.2.2.length) ((y0[(Int.toNat v562)]!).1.2.1), .int .i64 (p0[(Int.toNat v562)]!.2)]) AG54 (Tv.o (hp0.bel hB647)) (Tv.g (hp0.bel hB647) (hg643 hcq3)) (by rw [← Tv.free (hp0.bel hB647) (hg643 hcq3)]; rfl) (if_pos hc648))
        refine ⟨if (decide (x561[(Int.toNat v562)]! ≥ p0[(Int.toNat v562)]!.2)) = false then .slice a1 n1 c1 else undef, fun w649 hX650 => od_guard (c := (decide (x561[(Int.toNat v562)]! ≥ p0[(Int.toNat v562)]!.2)) = false) (val := .slice a1 n1 c1) (b := ((decide (x561[(Int.toNat v562)]! ≥ p0[(Int.toNat v562)]!.2)) == false)) (gv_some rfl rfl rfl) beq_iff_eq (fun hc653 => ?_), ?_⟩
        · have hS651 := hS581.ext hX650
          have hB652 := hB580.trans (Ext.stp hX650 hS581.base)
          have hcq3 : ¬ (x561[(Int.toNat v562)]! ≥ p0[(Int.toNat v562)]!.2) := (i_neg decide_eq_true_iff hc653)
          exact is_ext (g_move (v := .slice a1 n1 c1) rfl)
        refine ⟨if (decide (x561[(Int.toNat v562)]! ≥ p0[(Int.toNat v562)]!.2)) = false then .int .i64 (p2.length : Int) else undef, fun w654 hX655 => od_guard (c := (decide (x561[(Int.toNat v562)]! ≥ p0[(Int.toNat v562)]!.2)) = false) (val := .int .i64 (p2.length : Int)) (b := ((decide (x561[(Int.toNat v562)]! ≥ p0[(Int.toNat v562)]!.2)) == false)) (gv_some rfl rfl rfl) beq_iff_eq (fun hc658 => ?_), ?_⟩
        · have hS656 := hS581.ext hX655
          have hB657 := hB580.trans (Ext.stp hX655 hS581.base)
          have hcq3 : ¬ (x561[(Int.toNat v562)]! ≥ p0[(Int.toNat v562)]!.2) := (i_neg decide_eq_true_iff hc658)
          exact is_ext (g_move (v := .int .i64 (p2.length : Int)) rfl)
        obtain ⟨hg664, hm⟩ := hm
        refine ⟨if (decide (x561[(Int.toNat v562)]! ≥ p0[(Int.toNat v562)]!.2)) = false then .pointer (some ((adr a1).add ((Int.toNat (p2.length : Int)) * El.m Int))) else undef, fun w659 hX660 => od_guard (c := (decide (x561[(Int.toNat v562)]! ≥ p0[(Int.toNat v562)]!.2)) = false) (val := .pointer (some ((adr a1).add ((Int.toNat (p2.length : Int)) * El.m Int)))) (b := ((decide (x561[(Int.toNat v562)]! ≥ p0[(Int.toNat v562)]!.2)) == false)) (gv_some rfl rfl rfl) beq_iff_eq (fun hc663 => ?_), ?_⟩
        · have hS661 := hS581.ext hX660
          have hB662 := hB580.trans (Ext.stp hX660 hS581.base)
          have hcq3 : ¬ (x561[(Int.toNat v562)]! ≥ p0[(Int.toNat v562)]!.2) := (i_neg decide_eq_true_iff hc663)
          exact is_ext (q_index (i := (p2.length : Int)) SL23 (if_pos hc663) (if_pos hc663) (hp1.bel hB662) (hg664 hcq3))
        refine ⟨if (decide (x561[(Int.toNat v562)]! ≥ p0[(Int.toNat v562)]!.2)) = false then .int .i64 (p1[(Int.toNat (p2.length : Int))]!) else undef, fun w665 hX666 => od_guard (c := (decide (x561[(Int.toNat v562)]! ≥ p0[(Int.toNat v562)]!.2)) = false) (val := .int .i64 (p1[(Int.toNat (p2.length : Int))]!)) (b := ((decide (x561[(Int.toNat v562)]! ≥ p0[(Int.toNat v562)]!.2)) == false)) (gv_some rfl rfl rfl) beq_iff_eq (fun hc669 => ?_), ?_⟩
        · have hS667 := hS581.ext hX666
          have hB668 := hB580.trans (Ext.stp hX666 hS581.base)
          have hcq3 : ¬ (x561[(Int.toNat v562)]! ≥ p0[(Int.toNat v562)]!.2) := (i_neg decide_eq_true_iff hc669)
          exact is_ext (q_load (i := (p2.length : Int)) (v := .int .i64 (p1[(Int.toNat (p2.length : Int))]!)) ON3 (hp1.bel hB668) (hg664 hcq3) rfl (if_pos hc669))
        obtain ⟨r675, hk676, hm⟩ := hm
        refine ⟨if (decide (x561[(Int.toNat v562)]! ≥ p0[(Int.toNat v562)]!.2)) = false then .bool r675 else undef, fun w670 hX671 => od_guard (c := (decide (x561[(Int.toNat v562)]! ≥ p0[(Int.toNat v562)]!.2)) = false) (val := .bool r675) (b := ((decide (x561[(Int.toNat v562)]! ≥ p0[(Int.toNat v562)]!.2)) == false)) (gv_some rfl rfl rfl) beq_iff_eq (fun hc674 => ?_), ?_⟩
        · have hS672 := hS581.ext hX671
          have hB673 := hB580.trans (Ext.stp hX671 hS581.base)
          have hcq3 : ¬ (x561[(Int.toNat v562)]! ≥ p0[(Int.toNat v562)]!.2) := (i_neg decide_eq_true_iff hc674)
          exact (g_call (vs := #[.agg #[.slice ((y0[(Int.toNat v562)]!).1.1) ((y0[(Int.toNat v562)]!).1.2.2.length) ((y0[(Int.toNat v562)]!).1.2.1), .int .i64 (p0[(Int.toNat v562)]!.2)], .int .i64 (p1[(Int.toNat (p2.length : Int))]!)]) CF89 (args2 (if_pos hc674) (if_pos hc674)) ((m_spec_l13Knows_fn (p0[(Int.toNat v562)]!) ((Tv.rowP (hp0.bel hB673) (hg643 hcq3)).up hS672) (p1[(Int.toNat (p2.length : Int))]!) (hk676 hcq3)).mono fun _ _ ⟨_, h1, h2, h3⟩ => ⟨by rw [h2, h1], h3⟩))
        refine ⟨if (decide (x561[(Int.toNat v562)]! ≥ p0[(Int.toNat v562)]!.2)) = false then .bool (!r675) else undef, fun w677 hX678 => od_guard (c := (decide (x561[(Int.toNat v562)]! ≥ p0[(Int.toNat v562)]!.2)) = false) (val := .bool (!r675)) (b := ((decide (x561[(Int.toNat v562)]! ≥ p0[(Int.toNat v562)]!.2)) == false)) (gv_some rfl rfl rfl) beq_iff_eq (fun hc681 => ?_), ?_⟩
        · have hS679 := hS581.ext hX678
          have hB680 := hB580.trans (Ext.stp hX678 hS581.base)
          have hcq3 : ¬ (x561[(Int.toNat v562)]! ≥ p0[(Int.toNat v562)]!.2) := (i_neg decide_eq_true_iff hc681)
          exact is_ext (g_not (a := r675) (if_pos hc681))
        refine ⟨.bool ((decide (x561[(Int.toNat v562)]! ≥ p0[(Int.toNat v562)]!.2)) || (!r675)), fun w682 hX683 => od_plain rfl (by have hS684 := hS581.ext hX683; have hB685 := hB580.trans (Ext.stp hX683 hS581.base); exact is_ext (g_pick_or (b := (decide (x561[(Int.toNat v562)]! ≥ p0[(Int.toNat v562)]!.2))) (q := (!r675)) rfl rfl)), ?_⟩
        intro w686 hX687
        have hB688 := hB580.trans (Ext.stp hX687 hS581.base)
        have hS689 := hS581.ext hX687
        refine hK577 _ _ ?_
        refine w_condI (p := ((x561[(Int.toNat v562)]! ≥ p0[(Int.toNat v562)]!.2) ∨ (¬ (r675 = true)))) (b := ((decide (x561[(Int.toNat v562)]! ≥ p0[(Int.toNat v562)]!.2)) || (!r675))) rfl (i_or decide_eq_true_iff (i_not Iff.rfl)) (fun h690 => ?_) (fun h690 => ?_)
        · replace hm := hm.1 h690
          refine w_exit ?_
          refine hK575 _ _ ?_
          refine w_region ?_
          refine wl_val (g_move (v := .int .i64 v562) rfl) rfl ?_
          obtain ⟨hg691, hm⟩ := hm
          refine wl_val (g_add (a := v562) (b := 1) rfl rfl hg691) rfl ?_
          refine wl_val (g_assign (v := .int .i64 (v562 + 1)) rfl) rfl ?_
          refine wl_nil ?_
          exact ⟨(x561, (v562 + 1)), hm.2, ⟨rfl, rfl, rfl, rfl, rfl, rfl, trivial⟩, ⟨hm.1, hB688, hS689⟩⟩
        · replace hm := hm.2 h690
          refine w_skip ?_
          refine hK576 _ _ ?_
          refine w_seq fun K692 hK692 => ?_
          refine w_region ?_
          refine wl_val (g_move (v := .slice a3 n3 c3) rfl) rfl ?_
          refine wl_val (g_move (v := .int .i64 v562) rfl) rfl ?_
          refine wl_val (g_move (v := .slice a3 n3 c3) rfl) rfl ?_
          refine wl_val (g_move (v := .int .i64 v562) rfl) rfl ?_
          obtain ⟨hg693, hm⟩ := hm
          refine wl_val (q_index (i := v562) SL23 rfl rfl (oS.vw hS689.g0) hg693) rfl ?_
          refine wl_val (q_load (i := v562) (v := .int .i64 (x561[(Int.toNat v562)]!)) ON3 (oS.vw hS689.g0) hg693 rfl rfl) rfl ?_
          obtain ⟨hg694, hm⟩ := hm
          refine wl_val (g_add (a := x561[(Int.toNat v562)]!) (b := 1) rfl rfl hg694) rfl ?_
          obtain ⟨hg695, hm⟩ := hm
          refine wl_val (q_index (i := v562) SL23 rfl rfl (oS.vw hS689.g0) hg695) rfl ?_
          refine wl_step rfl (q_store (i := v562) (v := ((x561[(Int.toNat v562)]! + 1) : Int)) hS689 ON3.sz hg695 rfl rfl rfl) ?_
          rintro _ w696 ⟨rfl, hS697, hb698⟩
          have hB699 := hB688.trans hb698
          refine wl_nil ?_
          refine hK692 _ _ ?_
          refine w_seq fun K700 hK700 => ?_
          refine w_region ?_
          refine wl_val (g_move (v := .slice a0 n0 c0) rfl) rfl ?_
          refine wl_val (g_move (v := .slice a1 n1 c1) rfl) rfl ?_
          refine wl_step rfl (q_lit0 (α := Int) rfl SL23 hS697) ?_
          rintro _ w701 ⟨a702, rfl, hS704, hE703⟩
          have hB706 := hB699.trans (Ext.stp hE703 hS697.base)
          refine wl_val (g_move (v := .slice a2 n2 c2) rfl) rfl ?_
          obtain ⟨hg712, hm⟩ := hm
          refine wl_step rfl (q_append SL23 rfl rfl hS704 (oS.vw hS704.g2) hg712 (by decide)) ?_
          rintro _ w707 ⟨a708, c709, rfl, hS711, hb710⟩
          have hB713 := hB706.trans hb710
          refine wl_val (g_move (v := .int .i64 v562) rfl) rfl ?_
          refine wl_step rfl (q_lit1 (y := (v562 : Int)) SL23 rfl rfl (by decide) hS711) ?_
          rintro _ w714 ⟨a715, rfl, hS717, hE716⟩
          have hB719 := hB713.trans (Ext.stp hE716 hS711.base)
          have hS725 := hS717.f1
          obtain ⟨hg726, hm⟩ := hm
          refine wl_step rfl (q_append SL23 rfl rfl hS725 (oS.vw hS725.g1) hg726 (by decide)) ?_
          rintro _ w720 ⟨a721, c722, rfl, hS724, hb723⟩
          have hB727 := hB719.trans hb723
          refine wl_val (g_move (v := .slice a3 n3 c3) rfl) rfl ?_
          have hS728 := hS724.f2
          have hS729 := hS728.f1
          refine wl_step rfl (g_call (vs := #[.slice a0 n0 c0, .slice a1 n1 c1, .slice a721 ((0 + n2) + 1) c722, .slice a3 n3 c3]) CF59 (args4 rfl rfl rfl rfl) (ih hS729 (hp0.bel hB727) (hp1.bel hB727) hm)) ?_
          rintro _ w730 ⟨r733, a734, n735, c736, r738, x739, x740, hm, rfl, hb731, hS732⟩
          have hB741 := hB727.trans hb731
          refine wl_val (g_move (v := .tuple #[.slice a734 n735 c736, .bool r738]) rfl) rfl ?_
          refine wl_val (g_extract (vs := #[.slice a734 n735 c736, .bool r738]) rfl rfl) rfl ?_
          refine wl_val (g_extract (vs := #[.slice a734 n735 c736, .bool r738]) rfl rfl) rfl ?_
          refine wl_val (g_assign (v := .slice a734 n735 c736) rfl) rfl ?_
          refine wl_val (g_assign (v := .bool r738) rfl) rfl ?_
          refine wl_nil ?_
          refine hK700 _ _ ?_
          refine w_seq fun K742 hK742 => ?_
          refine w_region ?_
          refine wl_val (g_move (v := .slice a3 n3 c3) rfl) rfl ?_
          refine wl_val (g_move (v := .int .i64 v562) rfl) rfl ?_
          refine wl_val (g_move (v := .slice a3 n3 c3) rfl) rfl ?_
          refine wl_val (g_move (v := .int .i64 v562) rfl) rfl ?_
          obtain ⟨hg743, hm⟩ := hm
          refine wl_val (q_index (i := v562) SL23 rfl rfl (oS.vw hS732.g2) hg743) rfl ?_
          refine wl_val (q_load (i := v562) (v := .int .i64 (x740[(Int.toNat v562)]!)) ON3 (oS.vw hS732.g2) hg743 rfl rfl) rfl ?_
          obtain ⟨hg744, hm⟩ := hm
          refine wl_val (g_sub (a := x740[(Int.toNat v562)]!) (b := 1) rfl rfl hg744) rfl ?_
          obtain ⟨hg745, hm⟩ := hm
          refine wl_val (q_index (i := v562) SL23 rfl rfl (oS.vw hS732.g2) hg745) rfl ?_
          have hS749 := hS732.f2
          refine wl_step rfl (q_store (i := v562) (v := ((x740[(Int.toNat v562)]! - 1) : Int)) hS749 ON3.sz hg745 rfl rfl rfl) ?_
          rintro _ w746 ⟨rfl, hS747, hb748⟩
          have hB750 := hB741.trans hb748
          refine wl_nil ?_
          refine hK742 _ _ ?_
          refine w_seq fun K751 hK751 => ?_
          refine w_region ?_
          refine wl_val (g_move (v := .bool r738) rfl) rfl ?_
          refine wl_nil ?_
          refine hK751 _ _ ?_
          refine w_condI (p := r738 = true) (b := r738) rfl Iff.rfl (fun h752 => ?_) (fun h752 => ?_)
          · replace hm := hm.1 h752
            refine w_seq fun K753 hK753 => ?_
            refine w_region ?_
            refine wl_val (g_move (v := .slice a734 n735 c736) rfl) rfl ?_
            refine wl_val (g_assign (v := .slice a734 n735 c736) rfl) rfl ?_
            refine wl_val (g_assign (v := .bool true) rfl) rfl ?_
            refine wl_nil ?_
            refine hK753 _ _ ?_
            refine w_ret ?_
            have hS754 := hS747.f2
            have hS755 := hS754.tail
            have hS756 := hS755.f2
            have hS757 := hS756.tail
            have hS758 := hS757.f2
            have hS759 := hS758.f2
            repeat first | with_reducible refine q_then ?_ | with_reducible refine q_block ?_
            exact ret2 rfl (by decide) (by decide) ⟨_, _, _, _, _, _, _, hm, rfl, hB750, hS759⟩
          · replace hm := hm.2 h752
            refine w_skip ?_
            refine hK575 _ _ ?_
            refine w_region ?_
            refine wl_val (g_move (v := .int .i64 v562) rfl) rfl ?_
            obtain ⟨hg760, hm⟩ := hm
            refine wl_val (g_add (a := v562) (b := 1) rfl rfl hg760) rfl ?_
            refine wl_val (g_assign (v := .int .i64 (v562 + 1)) rfl) rfl ?_
            refine wl_nil ?_
            have hS761 := hS747.f1
            have hS762 := hS761.tail
            have hS763 := hS762.f1
            have hS764 := hS763.tail
            have hS765 := hS764.f1
            have hS766 := hS765.tail
            exact ⟨((x740.set (Int.toNat v562) (x740[(Int.toNat v562)]! - 1)), (v562 + 1)), hm.2, ⟨rfl, rfl, rfl, rfl, rfl, rfl, trivial⟩, ⟨hm.1, hB750, hS766⟩⟩
      · replace hm := hm.2 h574
        refine w_exit ?_
        exact ⟨(x561), trivial, ⟨hm, hB569, hS570⟩⟩
    · rintro x558 b_ w767 ⟨hm, hB768, hS769⟩
      show Wp _ _ _ _ (upds b_ []) w767
      refine w_seq fun K770 hK770 => ?_
      refine w_region ?_
      refine wl_step rfl (q_lit0 (α := Int) rfl SL23 hS769) ?_
      rintro _ w771 ⟨a772, rfl, hS774, hE773⟩
      have hB776 := hB768.trans (Ext.stp hE773 hS769.base)
      refine wl_val (g_assign (v := .slice a772 0 0) rfl) rfl ?_
      refine wl_val (g_assign (v := .bool false) rfl) rfl ?_
      refine wl_nil ?_
      refine hK770 _ _ ?_
      refine w_ret ?_
      have hS777 := hS774.f1
      have hS778 := hS777.f2
      have hS779 := hS778.f2
      repeat first | with_reducible refine q_then ?_ | with_reducible refine q_block ?_
      exact ret2 rfl (by decide) (by decide) ⟨_, _, _, _, _, _, _, hm, rfl, hB776, hS779⟩
theorem m_spec_l13Search_fn : ∀ (f_ : Nat) {w : World} {B_ : Nat} {L_ : List Ob} {a0 : Option Addr} {n0 c0 : Nat} {y0 : List PlayerD} {p0 : List PlayerC} {a1 : Option Addr} {n1 c1 : Nat} {p1 : List Int} {a2 : Option Addr} {n2 c2 : Nat} {p2 : List Int} {a3 : Option Addr} {n3 c3 : Nat} {p3 : List Int} {Q : (List Int) → Bool → (List Int) → (List Int) → Prop} (hS0 : Sep w B_ (oS 3 a2 n2 c2 (p2 : List Int) :: oS 3 a3 n3 c3 (p3 : List Int) :: L_)) (hp0 : Tv B_ w a0 n0 c0 y0 p0) (hp1 : Vw B_ w a1 n1 c1 p1) (hm : m_spec_l13Search f_ p0 p1 p2 p3 Q), Fn Try.prog 59 #[.slice a0 n0 c0, .slice a1 n1 c1, .slice a2 n2 c2, .slice a3 n3 c3] w (fun v w' => ∃ (r0 : List Int) (a0 : Option Addr) (n0 c0 : Nat) (r1 : Bool) (x0 : List Int) (x1 : List Int), Q r0 r1 x0 x1 ∧ v = .tuple #[.slice a0 n0 c0, .bool r1] ∧ Below B_ w w' ∧ Sep w' B_ (oS 3 a0 n0 c0 r0 :: oS 3 a2 n2 c2 x0 :: oS 3 a3 n3 c3 x1 :: L_)) := by
  intro f_
  induction f_ with
  | zero =>
    intro w B_ L_ a0 n0 c0 y0 p0 a1 n1 c1 p1 a2 n2 c2 p2 a3 n3 c3 p3 Q hS0 hp0 hp1 hm
    exact False.elim hm
  | succ f_ ih =>
    intro w B_ L_ a0 n0 c0 y0 p0 a1 n1 c1 p1 a2 n2 c2 p2 a3 n3 c3 p3 Q hS0 hp0 hp1 hm
    exact m_spec_l13Search_step_fn @ih hS0 hp0 hp1 hm

theorem m_spec_FirstCasting_fn {w : World} {a0 : Option Addr} {n0 c0 : Nat} {y0 : List PlayerD} {p0 : List PlayerC} {a1 : Option Addr} {n1 c1 : Nat} {p1 : List Int} {Q : (List Int) → Bool → Prop} (hp0 : Tv w.heap.size w a0 n0 c0 y0 p0) (hp1 : Vw w.heap.size w a1 n1 c1 p1) (hm : m_spec_FirstCasting p0 p1 Q) :
    Fn Try.prog 13 #[.slice a0 n0 c0, .slice a1 n1 c1] w (fun v w' => ∃ (r0 : List Int) (a0 : Option Addr) (n0 c0 : Nat) (r1 : Bool), Q r0 r1 ∧ v = .tuple #[.slice a0 n0 c0, .bool r1] ∧ Ext w w' ∧ Sep w' w.heap.size [oS 3 a0 n0 c0 r0]) := by
  unfold m_spec_FirstCasting at hm
  have hB0 := Below.refl w.heap.size w
  have hS0 : Sep w w.heap.size [] := Sep.nil (Nat.le_refl _)
  refine fn_of_wp Try.func13 rfl (by kernel_rfl) (Nat.le_of_ble_eq_true rfl) ?_
  refine w_seq fun K1 hK1 => ?_
  refine w_region ?_
  refine wl_val (g_assign (v := .slice none 0 0) rfl) rfl ?_
  refine wl_val (g_assign (v := .bool false) rfl) rfl ?_
  refine wl_nil ?_
  refine hK1 _ _ ?_
  refine w_seq fun K2 hK2 => ?_
  refine w_seq fun K3 hK3 => ?_
  refine w_region ?_
  refine wl_val (g_move (v := .slice a0 n0 c0) rfl) rfl ?_
  refine wl_step rfl (g_call (vs := #[.slice a0 n0 c0]) CF57 (args1 rfl) (m_spec_PlayersOk_fn ((hp0.bel hB0).up hS0) hm)) ?_
  rintro _ w4 ⟨r7, hm, rfl, hE5⟩
  have hB8 := hB0.trans (Ext.stp hE5 hS0.base)
  have hS9 := hS0.ext hE5
  refine wl_val (g_not (a := r7) rfl) rfl ?_
  refine wl_val (g_move (v := .bool (!r7)) rfl) rfl ?_
  refine wl_guard (c := (!r7) = false) (val := .slice a1 n1 c1) (b := ((!r7) == false)) (gv_some rfl rfl rfl) beq_iff_eq (fun hc10 => ?_) ?_
  · have hcq0 : ¬ (¬ (r7 = true)) := (i_neg (i_not Iff.rfl) hc10)
    exact g_move (v := .slice a1 n1 c1) rfl
  obtain ⟨r12, hk13, hm⟩ := hm
  refine wl_guardE (X := Ext) (c := (!r7) = false) (val := .bool r12) (Ext.refl _) (b := ((!r7) == false)) (gv_some rfl rfl rfl) beq_iff_eq (fun hc11 => ?_) (fun w14 hE15 => ?_)
  · have hcq0 : ¬ (¬ (r7 = true)) := (i_neg (i_not Iff.rfl) hc11)
    exact (g_call (vs := #[.slice a1 n1 c1, .int .i64 6]) CF58 (args2 (if_pos hc11) rfl) ((m_spec_l11Rising_fn ((hp1.bel hB8).up hS9) 6 (hk13 hcq0)).mono fun _ _ ⟨_, h1, h2, h3⟩ => ⟨by rw [h2, h1], h3⟩))
  have hB16 := hB8.trans (Ext.stp hE15 hS9.base)
  have hS17 := hS9.ext hE15
  refine wl_guard (c := (!r7) = false) (val := .bool (!r12)) (b := ((!r7) == false)) (gv_some rfl rfl rfl) beq_iff_eq (fun hc18 => ?_) ?_
  · have hcq0 : ¬ (¬ (r7 = true)) := (i_neg (i_not Iff.rfl) hc18)
    exact g_not (a := r12) (if_pos hc18)
  refine wl_val (g_pick_or (b := (!r7)) (q := (!r12)) rfl rfl) rfl ?_
  refine wl_nil ?_
  refine hK3 _ _ ?_
  refine w_condI (p := ((¬ (r7 = true)) ∨ (¬ (r12 = true)))) (b := ((!r7) || (!r12))) rfl (i_or (i_not Iff.rfl) (i_not Iff.rfl)) (fun h19 => ?_) (fun h19 => ?_)
  · replace hm := hm.1 h19
    refine w_seq fun K20 hK20 => ?_
    refine w_region ?_
    refine wl_step rfl (q_lit0 (α := Int) rfl SL23 hS17) ?_
    rintro _ w21 ⟨a22, rfl, hS24, hE23⟩
    have hB26 := hB16.trans (Ext.stp hE23 hS17.base)
    refine wl_val (g_assign (v := .slice a22 0 0) rfl) rfl ?_
    refine wl_val (g_assign (v := .bool false) rfl) rfl ?_
    refine wl_nil ?_
    refine hK20 _ _ ?_
    refine w_ret ?_
    repeat first | with_reducible refine q_then ?_ | with_reducible refine q_block ?_
    exact ret2 rfl (by decide) (by decide) ⟨_, _, _, _, _, hm, rfl, toExt hB26, hS24⟩
  · replace hm := hm.2 h19
    refine w_skip ?_
    refine hK2 _ _ ?_
    refine w_seq fun K27 hK27 => ?_
    refine w_region ?_
    refine wl_val (g_move (v := .slice a0 n0 c0) rfl) rfl ?_
    refine wl_val (g_move (v := .slice a1 n1 c1) rfl) rfl ?_
    refine wl_step rfl (q_lit0 (α := Int) rfl SL23 hS17) ?_
    rintro _ w28 ⟨a29, rfl, hS31, hE30⟩
    have hB33 := hB16.trans (Ext.stp hE30 hS17.base)
    refine wl_val (g_move (v := .slice a0 n0 c0) rfl) rfl ?_
    refine wl_val (q_len SL27 rfl (Tv.len (hp0.bel hB33))) rfl ?_
    obtain ⟨hg34, hm⟩ := hm
    refine wl_step rfl (q_make (y := (0 : Int)) SL23 rfl rfl hg34.1 hg34.2 (by decide) hS31) ?_
    rintro _ w35 ⟨a36, rfl, hS38, hE37⟩
    have hB40 := hB33.trans (Ext.stp hE37 hS31.base)
    have hS41 := hS38.f1
    obtain ⟨f42, hm⟩ := hm
    refine wl_step rfl (g_call (vs := #[.slice a0 n0 c0, .slice a1 n1 c1, .slice a29 0 0, .slice a36 (Int.toNat (p0.length : Int)) (Int.toNat (p0.length : Int))]) CF59 (args4 rfl rfl rfl rfl) (m_spec_l13Search_fn f42 hS41 (hp0.bel hB40) (hp1.bel hB40) hm)) ?_
    rintro _ w43 ⟨r46, a47, n48, c49, r51, x52, x53, hm, rfl, hb44, hS45⟩
    have hB54 := hB40.trans hb44
    refine wl_val (g_move (v := .tuple #[.slice a47 n48 c49, .bool r51]) rfl) rfl ?_
    refine wl_val (g_extract (vs := #[.slice a47 n48 c49, .bool r51]) rfl rfl) rfl ?_
    refine wl_val (g_extract (vs := #[.slice a47 n48 c49, .bool r51]) rfl rfl) rfl ?_
    refine wl_val (g_assign (v := .slice a47 n48 c49) rfl) rfl ?_
    refine wl_val (g_assign (v := .bool r51) rfl) rfl ?_
    refine wl_nil ?_
    refine hK27 _ _ ?_
    refine w_seq fun K55 hK55 => ?_
    refine w_region ?_
    refine wl_val (g_move (v := .slice a47 n48 c49) rfl) rfl ?_
    refine wl_val (g_move (v := .bool r51) rfl) rfl ?_
    refine wl_val (g_assign (v := .slice a47 n48 c49) rfl) rfl ?_
    refine wl_val (g_assign (v := .bool r51) rfl) rfl ?_
    refine wl_nil ?_
    refine hK55 _ _ ?_
    refine w_ret ?_
    have hS56 := hS45.f1
    have hS57 := hS56.tail
    have hS58 := hS57.f1
    have hS59 := hS58.tail
    repeat first | with_reducible refine q_then ?_ | with_reducible refine q_block ?_
    exact ret2 rfl (by decide) (by decide) ⟨_, _, _, _, _, hm, rfl, toExt hB54, hS59⟩

theorem m_impl_within_fn {w : World}  {Q : Bool → Prop} (p0 : Int) (p1 : Int) (p2 : Int) (hm : m_impl_within p0 p1 p2 Q) :
    Fn Try.prog 83 #[.int .i64 p0, .int .i64 p1, .int .i64 p2] w (fun v w' => ∃ (r0 : Bool), Q r0 ∧ v = .bool r0 ∧ Ext w w') := by
  unfold m_impl_within at hm
  have hB0 := Below.refl w.heap.size w
  have hS0 : Sep w w.heap.size [] := Sep.nil (Nat.le_refl _)
  refine fn_of_wp Try.func83 rfl (by kernel_rfl) (Nat.le_of_ble_eq_true rfl) ?_
  refine w_seq fun K1 hK1 => ?_
  refine w_region ?_
  refine wl_val (g_assign (v := .bool false) rfl) rfl ?_
  refine wl_nil ?_
  refine hK1 _ _ ?_
  refine w_seq fun K2 hK2 => ?_
  refine w_region ?_
  refine wl_val (g_move (v := .int .i64 p0) rfl) rfl ?_
  refine wl_val (g_move (v := .int .i64 p1) rfl) rfl ?_
  refine wl_val (g_geq (a := p0) (b := p1) rfl rfl) rfl ?_
  refine wl_val (g_move (v := .bool (decide (p0 ≥ p1))) rfl) rfl ?_
  refine wl_guard (c := (decide (p0 ≥ p1)) = true) (val := .int .i64 p0) (b := ((decide (p0 ≥ p1)) == true)) (gv_some rfl rfl rfl) beq_iff_eq (fun hc3 => ?_) ?_
  · have hcq0 : p0 ≥ p1 := (decide_eq_true_iff.mp hc3)
    exact g_move (v := .int .i64 p0) rfl
  refine wl_guard (c := (decide (p0 ≥ p1)) = true) (val := .int .i64 p2) (b := ((decide (p0 ≥ p1)) == true)) (gv_some rfl rfl rfl) beq_iff_eq (fun hc4 => ?_) ?_
  · have hcq0 : p0 ≥ p1 := (decide_eq_true_iff.mp hc4)
    exact g_move (v := .int .i64 p2) rfl
  refine wl_guard (c := (decide (p0 ≥ p1)) = true) (val := .bool (decide (p0 ≤ p2))) (b := ((decide (p0 ≥ p1)) == true)) (gv_some rfl rfl rfl) beq_iff_eq (fun hc5 => ?_) ?_
  · have hcq0 : p0 ≥ p1 := (decide_eq_true_iff.mp hc5)
    exact g_leq (a := p0) (b := p2) (if_pos hc5) (if_pos hc5)
  refine wl_val (g_pick_and (b := (decide (p0 ≥ p1))) (q := (decide (p0 ≤ p2))) rfl rfl) rfl ?_
  refine wl_val (g_assign (v := .bool ((decide (p0 ≥ p1)) && (decide (p0 ≤ p2)))) rfl) rfl ?_
  refine wl_nil ?_
  refine hK2 _ _ ?_
  refine w_ret ?_
  repeat first | with_reducible refine q_then ?_ | with_reducible refine q_block ?_
  exact ret1 rfl (by decide) ⟨_, hm, rfl, toExt hB0⟩

theorem m_impl_allWithin_fn {w : World} {a0 : Option Addr} {n0 c0 : Nat} {p0 : List Int} {Q : Bool → Prop} (hp0 : Vw w.heap.size w a0 n0 c0 p0) (p1 : Int) (p2 : Int) (hm : m_impl_allWithin p0 p1 p2 Q) :
    Fn Try.prog 96 #[.slice a0 n0 c0, .int .i64 p1, .int .i64 p2] w (fun v w' => ∃ (r0 : Bool), Q r0 ∧ v = .bool r0 ∧ Ext w w') := by
  unfold m_impl_allWithin at hm
  have hB0 := Below.refl w.heap.size w
  have hS0 : Sep w w.heap.size [] := Sep.nil (Nat.le_refl _)
  refine fn_of_wp Try.func96 rfl (by kernel_rfl) (Nat.le_of_ble_eq_true rfl) ?_
  refine w_seq fun K1 hK1 => ?_
  refine w_region ?_
  refine wl_val (g_assign (v := .bool false) rfl) rfl ?_
  refine wl_nil ?_
  refine hK1 _ _ ?_
  refine w_cut (σ := Unit) (fun _ => []) (fun _ w' => m_impl_allWithin_K0 Q ∧ Below w.heap.size w w' ∧ Sep w' w.heap.size []) ?_ ?_
  · refine w_seq fun K3 hK3 => ?_
    refine w_region ?_
    refine wl_val (g_move (v := .slice a0 n0 c0) rfl) rfl ?_
    refine wl_val (q_len SL23 rfl (Vw.len (hp0.bel hB0))) rfl ?_
    refine wl_val (g_move (v := .int .i64 0) rfl) rfl ?_
    refine wl_nil ?_
    refine hK3 _ _ ?_
    refine w_block ?_
    obtain ⟨I29, μ30, h031, hr32⟩ := hm
    refine w_for (σ := Int) (fun v28 => [(1, .int .i64 p1), (2, .int .i64 p2), (9, .slice a0 n0 c0), (10, .int .i64 (p0.length : Int)), (11, .int .i64 v28)]) (fun v28 w' => I29 v28 ∧ Below w.heap.size w w' ∧ Sep w' w.heap.size []) (fun v28 => μ30 v28) (0) ⟨rfl, rfl, rfl, rfl, rfl, trivial⟩ ⟨h031, hB0, hS0⟩ ?_
    rintro v28 b_ w33 ⟨hi_, hB34, hS35⟩
    show Wp _ _ _ _ (upds b_ [(1, .int .i64 p1), (2, .int .i64 p2), (9, .slice a0 n0 c0), (10, .int .i64 (p0.length : Int)), (11, .int .i64 v28)]) w33
    have hm := hr32 v28 hi_
    refine w_seq fun K37 hK37 => ?_
    refine w_region ?_
    refine wl_val (g_lss (a := v28) (b := (p0.length : Int)) rfl rfl) rfl ?_
    refine wl_nil ?_
    refine hK37 _ _ ?_
    refine w_seq fun K38 hK38 => ?_
    refine w_condI (p := v28 < (p0.length : Int)) (b := (decide (v28 < (p0.length : Int)))) rfl decide_eq_true_iff (fun h39 => ?_) (fun h39 => ?_)
    · replace hm := hm.1 h39
      refine w_skip ?_
      refine hK38 _ _ ?_
      refine w_seq fun K40 hK40 => ?_
      refine w_block ?_
      refine w_seq fun K41 hK41 => ?_
      refine w_region ?_
      obtain ⟨hg42, hm⟩ := hm
      refine wl_val (q_index (i := v28) SL23 rfl rfl (hp0.bel hB34) hg42) rfl ?_
      refine wl_val (q_load (i := v28) (v := .int .i64 (p0[(Int.toNat v28)]!)) ON3 (hp0.bel hB34) hg42 rfl rfl) rfl ?_
      refine wl_val (g_assign (v := .int .i64 (p0[(Int.toNat v28)]!)) rfl) rfl ?_
      refine wl_nil ?_
      refine hK41 _ _ ?_
      refine w_seq fun K43 hK43 => ?_
      refine w_region ?_
      refine wl_val (g_move (v := .int .i64 (p0[(Int.toNat v28)]!)) rfl) rfl ?_
      refine wl_val (g_move (v := .int .i64 p1) rfl) rfl ?_
      refine wl_val (g_move (v := .int .i64 p2) rfl) rfl ?_
      refine wl_step rfl (g_call (vs := #[.int .i64 (p0[(Int.toNat v28)]!), .int .i64 p1, .int .i64 p2]) CF83 (args3 rfl rfl rfl) (m_impl_within_fn (p0[(Int.toNat v28)]!) p1 p2 hm)) ?_
      rintro _ w44 ⟨r47, hm, rfl, hE45⟩
      have hB48 := hB34.trans (Ext.stp hE45 hS35.base)
      have hS49 := hS35.ext hE45
      refine wl_val (g_not (a := r47) rfl) rfl ?_
      refine wl_nil ?_
      refine hK43 _ _ ?_
      refine w_condI (p := ¬ (r47 = true)) (b := (!r47)) rfl (i_not Iff.rfl) (fun h50 => ?_) (fun h50 => ?_)
      · replace hm := hm.1 h50
        refine w_seq fun K51 hK51 => ?_
        refine w_region ?_
        refine wl_val (g_assign (v := .bool false) rfl) rfl ?_
        refine wl_nil ?_
        refine hK51 _ _ ?_
        refine w_ret ?_
        repeat first | with_reducible refine q_then ?_ | with_reducible refine q_block ?_
        exact ret1 rfl (by decide) ⟨_, hm, rfl, toExt hB48⟩
      · replace hm := hm.2 h50
        refine w_skip ?_
        refine hK40 _ _ ?_
        refine w_region ?_
        obtain ⟨hg52, hm⟩ := hm
        refine wl_val (g_add (a := v28) (b := 1) rfl rfl hg52) rfl ?_
        refine wl_val (g_move (v := .int .i64 (v28 + 1)) rfl) rfl ?_
        refine wl_nil ?_
        exact ⟨((v28 + 1)), hm.2, ⟨rfl, rfl, rfl, rfl, rfl, trivial⟩, ⟨hm.1, hB48, hS49⟩⟩
    · replace hm := hm.2 h39
      refine w_exit ?_
      exact ⟨(), trivial, ⟨hm, hB34, hS35⟩⟩
  · rintro _ b_ w53 ⟨hm, hB54, hS55⟩
    show Wp _ _ _ _ (upds b_ []) w53
    refine w_seq fun K56 hK56 => ?_
    refine w_region ?_
    refine wl_val (g_assign (v := .bool true) rfl) rfl ?_
    refine wl_nil ?_
    refine hK56 _ _ ?_
    refine w_ret ?_
    repeat first | with_reducible refine q_then ?_ | with_reducible refine q_block ?_
    exact ret1 rfl (by decide) ⟨_, hm, rfl, toExt hB54⟩

theorem m_impl_isStrict_fn {w : World} {a0 : Option Addr} {n0 c0 : Nat} {p0 : List Int} {Q : Bool → Prop} (hp0 : Vw w.heap.size w a0 n0 c0 p0) (p1 : Int) (p2 : Int) (hm : m_impl_isStrict p0 p1 p2 Q) :
    Fn Try.prog 85 #[.slice a0 n0 c0, .int .i64 p1, .int .i64 p2] w (fun v w' => ∃ (r0 : Bool), Q r0 ∧ v = .bool r0 ∧ Ext w w') := by
  unfold m_impl_isStrict at hm
  have hB0 := Below.refl w.heap.size w
  have hS0 : Sep w w.heap.size [] := Sep.nil (Nat.le_refl _)
  refine fn_of_wp Try.func85 rfl (by kernel_rfl) (Nat.le_of_ble_eq_true rfl) ?_
  refine w_seq fun K1 hK1 => ?_
  refine w_region ?_
  refine wl_val (g_assign (v := .bool false) rfl) rfl ?_
  refine wl_nil ?_
  refine hK1 _ _ ?_
  refine w_cut (σ := Unit) (fun _ => [(0, .slice a0 n0 c0), (1, .int .i64 p1), (2, .int .i64 p2)]) (fun _ w' => m_impl_isStrict_K0 p0 p1 p2 Q ∧ Below w.heap.size w w' ∧ Sep w' w.heap.size []) ?_ ?_
  · refine w_seq fun K3 hK3 => ?_
    refine w_region ?_
    refine wl_val (g_move (v := .slice a0 n0 c0) rfl) rfl ?_
    refine wl_val (q_len SL23 rfl (Vw.len (hp0.bel hB0))) rfl ?_
    refine wl_val (g_move (v := .int .i64 0) rfl) rfl ?_
    refine wl_nil ?_
    refine hK3 _ _ ?_
    refine w_block ?_
    obtain ⟨I99, μ100, h0101, hr102⟩ := hm
    refine w_for (σ := Int) (fun v98 => [(0, .slice a0 n0 c0), (1, .int .i64 p1), (2, .int .i64 p2), (9, .int .i64 (p0.length : Int)), (10, .int .i64 v98)]) (fun v98 w' => I99 v98 ∧ Below w.heap.size w w' ∧ Sep w' w.heap.size []) (fun v98 => μ100 v98) (0) ⟨rfl, rfl, rfl, rfl, rfl, trivial⟩ ⟨h0101, hB0, hS0⟩ ?_
    rintro v98 b_ w103 ⟨hi_, hB104, hS105⟩
    show Wp _ _ _ _ (upds b_ [(0, .slice a0 n0 c0), (1, .int .i64 p1), (2, .int .i64 p2), (9, .int .i64 (p0.length : Int)), (10, .int .i64 v98)]) w103
    have hm := hr102 v98 hi_
    refine w_seq fun K107 hK107 => ?_
    refine w_region ?_
    refine wl_val (g_lss (a := v98) (b := (p0.length : Int)) rfl rfl) rfl ?_
    refine wl_nil ?_
    refine hK107 _ _ ?_
    refine w_seq fun K108 hK108 => ?_
    refine w_condI (p := v98 < (p0.length : Int)) (b := (decide (v98 < (p0.length : Int)))) rfl decide_eq_true_iff (fun h109 => ?_) (fun h109 => ?_)
    · replace hm := hm.1 h109
      refine w_skip ?_
      refine hK108 _ _ ?_
      refine w_seq fun K110 hK110 => ?_
      refine w_block ?_
      refine w_seq fun K111 hK111 => ?_
      refine w_region ?_
      refine wl_val (g_move (v := .int .i64 v98) rfl) rfl ?_
      refine wl_val (g_assign (v := .int .i64 v98) rfl) rfl ?_
      refine wl_nil ?_
      refine hK111 _ _ ?_
      refine w_seq fun K112 hK112 => ?_
      refine w_draw (X := Ext) (Y := Ext) [] MIX (by decide +kernel) rfl Ext.refl (fun _ _ _ => Ext.trans) (fun _ _ _ => Chg.trans) (fun _ _ h => Ext.chg h _) (fun w113 hE114 => ?_)
      have hB115 := hB104.trans (Ext.stp hE114 hS105.base)
      have hS116 := hS105.ext hE114
      refine ⟨.int .i64 v98, fun w117 hX118 => od_plain rfl (by have hS119 := hS116.ext hX118; have hB120 := hB115.trans (Ext.stp hX118 hS116.base); exact is_ext (g_move (v := .int .i64 v98) rfl)), ?_⟩
      refine ⟨.bool (decide (v98 > 0)), fun w121 hX122 => od_plain rfl (by have hS123 := hS116.ext hX122; have hB124 := hB115.trans (Ext.stp hX122 hS116.base); exact is_ext (g_gtr (a := v98) (b := 0) rfl rfl)), ?_⟩
      refine ⟨.bool (decide (v98 > 0)), fun w125 hX126 => od_plain rfl (by have hS127 := hS116.ext hX126; have hB128 := hB115.trans (Ext.stp hX126 hS116.base); exact is_ext (g_move (v := .bool (decide (v98 > 0))) rfl)), ?_⟩
      refine ⟨if (decide (v98 > 0)) = true then .slice a0 n0 c0 else undef, fun w129 hX130 => od_guard (c := (decide (v98 > 0)) = true) (val := .slice a0 n0 c0) (b := ((decide (v98 > 0)) == true)) (gv_some rfl rfl rfl) beq_iff_eq (fun hc133 => ?_), ?_⟩
      · have hS131 := hS116.ext hX130
        have hB132 := hB115.trans (Ext.stp hX130 hS116.base)
        have hcq1 : v98 > 0 := (decide_eq_true_iff.mp hc133)
        exact is_ext (g_move (v := .slice a0 n0 c0) rfl)
      refine ⟨if (decide (v98 > 0)) = true then .int .i64 v98 else undef, fun w134 hX135 => od_guard (c := (decide (v98 > 0)) = true) (val := .int .i64 v98) (b := ((decide (v98 > 0)) == true)) (gv_some rfl rfl rfl) beq_iff_eq (fun hc138 => ?_), ?_⟩
      · have hS136 := hS116.ext hX135
        have hB137 := hB115.trans (Ext.stp hX135 hS116.base)
        have hcq1 : v98 > 0 := (decide_eq_true_iff.mp hc138)
        exact is_ext (g_move (v := .int .i64 v98) rfl)
      obtain ⟨hg144, hm⟩ := hm
      refine ⟨if (decide (v98 > 0)) = true then .pointer (some ((adr a0).add ((Int.toNat v98) * El.m Int))) else undef, fun w139 hX140 => od_guard (c := (decide (v98 > 0)) = true) (val := .pointer (some ((adr a0).add ((Int.toNat v98) * El.m Int)))) (b := ((decide (v98 > 0)) == true)) (gv_some rfl rfl rfl) beq_iff_eq (fun hc143 => ?_), ?_⟩
      · have hS141 := hS116.ext hX140
        have hB142 := hB115.trans (Ext.stp hX140 hS116.base)
        have hcq1 : v98 > 0 := (decide_eq_true_iff.mp hc143)
        exact is_ext (q_index (i := v98) SL23 (if_pos hc143) (if_pos hc143) (hp0.bel hB142) (hg144 hcq1))
      refine ⟨if (decide (v98 > 0)) = true then .int .i64 (p0[(Int.toNat v98)]!) else undef, fun w145 hX146 => od_guard (c := (decide (v98 > 0)) = true) (val := .int .i64 (p0[(Int.toNat v98)]!)) (b := ((decide (v98 > 0)) == true)) (gv_some rfl rfl rfl) beq_iff_eq (fun hc149 => ?_), ?_⟩
      · have hS147 := hS116.ext hX146
        have hB148 := hB115.trans (Ext.stp hX146 hS116.base)
        have hcq1 : v98 > 0 := (decide_eq_true_iff.mp hc149)
        exact is_ext (q_load (i := v98) (v := .int .i64 (p0[(Int.toNat v98)]!)) ON3 (hp0.bel hB148) (hg144 hcq1) rfl (if_pos hc149))
      refine ⟨if (decide (v98 > 0)) = true then .slice a0 n0 c0 else undef, fun w150 hX151 => od_guard (c := (decide (v98 > 0)) = true) (val := .slice a0 n0 c0) (b := ((decide (v98 > 0)) == true)) (gv_some rfl rfl rfl) beq_iff_eq (fun hc154 => ?_), ?_⟩
      · have hS152 := hS116.ext hX151
        have hB153 := hB115.trans (Ext.stp hX151 hS116.base)
        have hcq1 : v98 > 0 := (decide_eq_true_iff.mp hc154)
        exact is_ext (g_move (v := .slice a0 n0 c0) rfl)
      refine ⟨if (decide (v98 > 0)) = true then .int .i64 v98 else undef, fun w155 hX156 => od_guard (c := (decide (v98 > 0)) = true) (val := .int .i64 v98) (b := ((decide (v98 > 0)) == true)) (gv_some rfl rfl rfl) beq_iff_eq (fun hc159 => ?_), ?_⟩
      · have hS157 := hS116.ext hX156
        have hB158 := hB115.trans (Ext.stp hX156 hS116.base)
        have hcq1 : v98 > 0 := (decide_eq_true_iff.mp hc159)
        exact is_ext (g_move (v := .int .i64 v98) rfl)
      obtain ⟨hg165, hm⟩ := hm
      refine ⟨if (decide (v98 > 0)) = true then .int .i64 (v98 - 1) else undef, fun w160 hX161 => od_guard (c := (decide (v98 > 0)) = true) (val := .int .i64 (v98 - 1)) (b := ((decide (v98 > 0)) == true)) (gv_some rfl rfl rfl) beq_iff_eq (fun hc164 => ?_), ?_⟩
      · have hS162 := hS116.ext hX161
        have hB163 := hB115.trans (Ext.stp hX161 hS116.base)
        have hcq1 : v98 > 0 := (decide_eq_true_iff.mp hc164)
        exact is_ext (g_sub (a := v98) (b := 1) (if_pos hc164) rfl (hg165 hcq1))
      obtain ⟨hg171, hm⟩ := hm
      refine ⟨if (decide (v98 > 0)) = true then .pointer (some ((adr a0).add ((Int.toNat (v98 - 1)) * El.m Int))) else undef, fun w166 hX167 => od_guard (c := (decide (v98 > 0)) = true) (val := .pointer (some ((adr a0).add ((Int.toNat (v98 - 1)) * El.m Int)))) (b := ((decide (v98 > 0)) == true)) (gv_some rfl rfl rfl) beq_iff_eq (fun hc170 => ?_), ?_⟩
      · have hS168 := hS116.ext hX167
        have hB169 := hB115.trans (Ext.stp hX167 hS116.base)
        have hcq1 : v98 > 0 := (decide_eq_true_iff.mp hc170)
        exact is_ext (q_index (i := (v98 - 1)) SL23 (if_pos hc170) (if_pos hc170) (hp0.bel hB169) (hg171 hcq1))
      refine ⟨if (decide (v98 > 0)) = true then .int .i64 (p0[(Int.toNat (v98 - 1))]!) else undef, fun w172 hX173 => od_guard (c := (decide (v98 > 0)) = true) (val := .int .i64 (p0[(Int.toNat (v98 - 1))]!)) (b := ((decide (v98 > 0)) == true)) (gv_some rfl rfl rfl) beq_iff_eq (fun hc176 => ?_), ?_⟩
      · have hS174 := hS116.ext hX173
        have hB175 := hB115.trans (Ext.stp hX173 hS116.base)
        have hcq1 : v98 > 0 := (decide_eq_true_iff.mp hc176)
        exact is_ext (q_load (i := (v98 - 1)) (v := .int .i64 (p0[(Int.toNat (v98 - 1))]!)) ON3 (hp0.bel hB175) (hg171 hcq1) rfl (if_pos hc176))
      refine ⟨if (decide (v98 > 0)) = true then .bool (decide (p0[(Int.toNat v98)]! ≤ p0[(Int.toNat (v98 - 1))]!)) else undef, fun w177 hX178 => od_guard (c := (decide (v98 > 0)) = true) (val := .bool (decide (p0[(Int.toNat v98)]! ≤ p0[(Int.toNat (v98 - 1))]!))) (b := ((decide (v98 > 0)) == true)) (gv_some rfl rfl rfl) beq_iff_eq (fun hc181 => ?_), ?_⟩
      · have hS179 := hS116.ext hX178
        have hB180 := hB115.trans (Ext.stp hX178 hS116.base)
        have hcq1 : v98 > 0 := (decide_eq_true_iff.mp hc181)
        exact is_ext (g_leq (a := p0[(Int.toNat v98)]!) (b := p0[(Int.toNat (v98 - 1))]!) (if_pos hc181) (if_pos hc181))
      refine ⟨.bool ((decide (v98 > 0)) && (decide (p0[(Int.toNat v98)]! ≤ p0[(Int.toNat (v98 - 1))]!))), fun w182 hX183 => od_plain rfl (by have hS184 := hS116.ext hX183; have hB185 := hB115.trans (Ext.stp hX183 hS116.base); exact is_ext (g_pick_and (b := (decide (v98 > 0))) (q := (decide (p0[(Int.toNat v98)]! ≤ p0[(Int.toNat (v98 - 1))]!))) rfl rfl)), ?_⟩
      intro w186 hX187
      have hB188 := hB115.trans (Ext.stp hX187 hS116.base)
      have hS189 := hS116.ext hX187
      refine hK112 _ _ ?_
      refine w_condI (p := ((v98 > 0) ∧ (p0[(Int.toNat v98)]! ≤ p0[(Int.toNat (v98 - 1))]!))) (b := ((decide (v98 > 0)) && (decide (p0[(Int.toNat v98)]! ≤ p0[(Int.toNat (v98 - 1))]!)))) rfl (i_and decide_eq_true_iff decide_eq_true_iff) (fun h190 => ?_) (fun h190 => ?_)
      · replace hm := hm.1 h190
        refine w_seq fun K191 hK191 => ?_
        refine w_region ?_
        refine wl_val (g_assign (v := .bool false) rfl) rfl ?_
        refine wl_nil ?_
        refine hK191 _ _ ?_
        refine w_ret ?_
        repeat first | with_reducible refine q_then ?_ | with_reducible refine q_block ?_
        exact ret1 rfl (by decide) ⟨_, hm, rfl, toExt hB188⟩
      · replace hm := hm.2 h190
        refine w_skip ?_
        refine hK110 _ _ ?_
        refine w_region ?_
        obtain ⟨hg192, hm⟩ := hm
        refine wl_val (g_add (a := v98) (b := 1) rfl rfl hg192) rfl ?_
        refine wl_val (g_move (v := .int .i64 (v98 + 1)) rfl) rfl ?_
        refine wl_nil ?_
        exact ⟨((v98 + 1)), hm.2, ⟨rfl, rfl, rfl, rfl, rfl, trivial⟩, ⟨hm.1, hB188, hS189⟩⟩
    · replace hm := hm.2 h109
      refine w_exit ?_
      exact ⟨(), ⟨rfl, rfl, rfl, trivial⟩, ⟨hm, hB104, hS105⟩⟩
  · rintro _ b_ w193 ⟨hm, hB194, hS195⟩
    show Wp _ _ _ _ (upds b_ [(0, .slice a0 n0 c0), (1, .int .i64 p1), (2, .int .i64 p2)]) w193
    refine w_seq fun K196 hK196 => ?_
    refine w_region ?_
    refine wl_val (g_move (v := .slice a0 n0 c0) rfl) rfl ?_
    refine wl_val (g_move (v := .int .i64 p1) rfl) rfl ?_
    refine wl_val (g_move (v := .int .i64 p2) rfl) rfl ?_
    refine wl_step rfl (g_call (vs := #[.slice a0 n0 c0, .int .i64 p1, .int .i64 p2]) CF96 (args3 rfl rfl rfl) (m_impl_allWithin_fn ((hp0.bel hB194).up hS195) p1 p2 hm)) ?_
    rintro _ w197 ⟨r200, hm, rfl, hE198⟩
    have hB201 := hB194.trans (Ext.stp hE198 hS195.base)
    have hS202 := hS195.ext hE198
    refine wl_val (g_assign (v := .bool r200) rfl) rfl ?_
    refine wl_nil ?_
    refine hK196 _ _ ?_
    refine w_ret ?_
    repeat first | with_reducible refine q_then ?_ | with_reducible refine q_block ?_
    exact ret1 rfl (by decide) ⟨_, hm, rfl, toExt hB201⟩

theorem m_impl_PlayersOk_fn {w : World} {a0 : Option Addr} {n0 c0 : Nat} {y0 : List PlayerD} {p0 : List PlayerC} {Q : Bool → Prop} (hp0 : Tv w.heap.size w a0 n0 c0 y0 p0) (hm : m_impl_PlayersOk p0 Q) :
    Fn Try.prog 44 #[.slice a0 n0 c0] w (fun v w' => ∃ (r0 : Bool), Q r0 ∧ v = .bool r0 ∧ Ext w w') := by
  unfold m_impl_PlayersOk at hm
  have hB0 := Below.refl w.heap.size w
  have hS0 : Sep w w.heap.size [] := Sep.nil (Nat.le_refl _)
  refine fn_of_wp Try.func44 rfl (by kernel_rfl) (Nat.le_of_ble_eq_true rfl) ?_
  refine w_seq fun K1 hK1 => ?_
  refine w_region ?_
  refine wl_val (g_assign (v := .bool false) rfl) rfl ?_
  refine wl_nil ?_
  refine hK1 _ _ ?_
  refine w_cut (σ := Unit) (fun _ => [(0, .slice a0 n0 c0)]) (fun _ w' => m_impl_PlayersOk_K0 p0 Q ∧ Below w.heap.size w w' ∧ Sep w' w.heap.size []) ?_ ?_
  · refine w_seq fun K3 hK3 => ?_
    refine w_region ?_
    refine wl_val (g_move (v := .slice a0 n0 c0) rfl) rfl ?_
    refine wl_val (q_len SL27 rfl (Tv.len (hp0.bel hB0))) rfl ?_
    refine wl_val (g_move (v := .int .i64 0) rfl) rfl ?_
    refine wl_nil ?_
    refine hK3 _ _ ?_
    refine w_block ?_
    obtain ⟨I49, μ50, h051, hr52⟩ := hm
    refine w_for (σ := Int) (fun v48 => [(0, .slice a0 n0 c0), (5, .slice a0 n0 c0), (6, .int .i64 (p0.length : Int)), (7, .int .i64 v48)]) (fun v48 w' => I49 v48 ∧ Below w.heap.size w w' ∧ Sep w' w.heap.size []) (fun v48 => μ50 v48) (0) ⟨rfl, rfl, rfl, rfl, trivial⟩ ⟨h051, hB0, hS0⟩ ?_
    rintro v48 b_ w53 ⟨hi_, hB54, hS55⟩
    show Wp _ _ _ _ (upds b_ [(0, .slice a0 n0 c0), (5, .slice a0 n0 c0), (6, .int .i64 (p0.length : Int)), (7, .int .i64 v48)]) w53
    have hm := hr52 v48 hi_
    refine w_seq fun K57 hK57 => ?_
    refine w_region ?_
    refine wl_val (g_lss (a := v48) (b := (p0.length : Int)) rfl rfl) rfl ?_
    refine wl_nil ?_
    refine hK57 _ _ ?_
    refine w_seq fun K58 hK58 => ?_
    refine w_condI (p := v48 < (p0.length : Int)) (b := (decide (v48 < (p0.length : Int)))) rfl decide_eq_true_iff (fun h59 => ?_) (fun h59 => ?_)
    · replace hm := hm.1 h59
      refine w_skip ?_
      refine hK58 _ _ ?_
      refine w_seq fun K60 hK60 => ?_
      refine w_block ?_
      refine w_seq fun K61 hK61 => ?_
      refine w_region ?_
      obtain ⟨hg62, hm⟩ := hm
      refine wl_val (q_index (i := v48) SL27 rfl rfl (Tv.o (hp0.bel hB54)) (Tv.g (hp0.bel hB54) hg62)) rfl ?_
      refine wl_val (q_loadS (i := v48) (cs := [.slice ((y0[(Int.toNat v48)]!).1.1) ((y0[(Int.toNat v48)]!).1.2.2.length) ((y0[(Int.toNat v48)]!).1.2.1), .int .i64 (p0[(Int.toNat v48)]!.2)]) AG54 (Tv.o (hp0.bel hB54)) (Tv.g (hp0.bel hB54) hg62) (by rw [← Tv.free (hp0.bel hB54) hg62]; rfl) rfl) rfl ?_
      refine wl_step rfl (q_alloc (cs := #[.slice none 0 0, .int .i64 0]) ZR54 rfl hS55) ?_
      rintro _ w63 ⟨g64, rfl, hS66, hE65⟩
      have hB68 := hB54.trans (Ext.stp hE65 hS55.base)
      refine wl_step rfl (q_storeB (i := 0) (bs' := #[.slice ((y0[(Int.toNat v48)]!).1.1) ((y0[(Int.toNat v48)]!).1.2.2.length) ((y0[(Int.toNat v48)]!).1.2.1), .int .i64 (p0[(Int.toNat v48)]!.2)]) (vs := [.slice ((y0[(Int.toNat v48)]!).1.1) ((y0[(Int.toNat v48)]!).1.2.2.length) ((y0[(Int.toNat v48)]!).1.2.1), .int .i64 (p0[(Int.toNat v48)]!.2)]) hS66 AG54.sz rfl rfl rfl (by simp [Value.oneCell']) (Nat.le_of_ble_eq_true rfl) rfl) ?_
      rintro _ w69 ⟨rfl, hS70, hb71⟩
      have hB72 := hB68.trans hb71
      refine wl_nil ?_
      refine hK61 _ _ ?_
      refine w_seq fun K73 hK73 => ?_
      refine w_region ?_
      refine wl_val (g_fieldAddr (q := (⟨g64, 0, none⟩ : Addr)) FL54_0 ON23 rfl) rfl ?_
      refine wl_val (q_loadB (i := 0) (bs := #[.slice ((y0[(Int.toNat v48)]!).1.1) ((y0[(Int.toNat v48)]!).1.2.2.length) ((y0[(Int.toNat v48)]!).1.2.1), .int .i64 (p0[(Int.toNat v48)]!.2)]) hS70.g0 ON23 rfl rfl) rfl ?_
      refine wl_step rfl (g_call (vs := #[.slice ((y0[(Int.toNat v48)]!).1.1) ((y0[(Int.toNat v48)]!).1.2.2.length) ((y0[(Int.toNat v48)]!).1.2.1), .int .i64 0, .int .i64 6]) CF85 (args3 rfl rfl rfl) (m_impl_isStrict_fn ((Tv.rowP (hp0.bel hB72) hg62).up hS70) 0 6 hm)) ?_
      rintro _ w74 ⟨r77, hm, rfl, hE75⟩
      have hB78 := hB72.trans (Ext.stp hE75 hS70.base)
      have hS79 := hS70.ext hE75
      refine wl_val (g_not (a := r77) rfl) rfl ?_
      refine wl_val (g_move (v := .bool (!r77)) rfl) rfl ?_
      refine wl_guard (c := (!r77) = false) (val := .pointer (some (((⟨g64, 0, none⟩ : Addr)).add 1))) (b := ((!r77) == false)) (gv_some rfl rfl rfl) beq_iff_eq (fun hc80 => ?_) ?_
      · have hcq1 : ¬ (¬ (r77 = true)) := (i_neg (i_not Iff.rfl) hc80)
        exact g_fieldAddr (q := (⟨g64, 0, none⟩ : Addr)) FL54_1 ON3 rfl
      refine wl_guard (c := (!r77) = false) (val := .int .i64 (p0[(Int.toNat v48)]!.2)) (b := ((!r77) == false)) (gv_some rfl rfl rfl) beq_iff_eq (fun hc81 => ?_) ?_
      · have hcq1 : ¬ (¬ (r77 = true)) := (i_neg (i_not Iff.rfl) hc81)
        exact q_loadB (i := 1) (bs := #[.slice ((y0[(Int.toNat v48)]!).1.1) ((y0[(Int.toNat v48)]!).1.2.2.length) ((y0[(Int.toNat v48)]!).1.2.1), .int .i64 (p0[(Int.toNat v48)]!.2)]) hS79.g0 ON3 (if_pos hc81) rfl
      obtain ⟨r83, hk84, hm⟩ := hm
      refine wl_guardE (X := Ext) (c := (!r77) = false) (val := .bool r83) (Ext.refl _) (b := ((!r77) == false)) (gv_some rfl rfl rfl) beq_iff_eq (fun hc82 => ?_) (fun w85 hE86 => ?_)
      · have hcq1 : ¬ (¬ (r77 = true)) := (i_neg (i_not Iff.rfl) hc82)
        exact (g_call (vs := #[.int .i64 (p0[(Int.toNat v48)]!.2), .int .i64 0, .int .i64 2]) CF83 (args3 (if_pos hc82) rfl rfl) ((m_impl_within_fn (p0[(Int.toNat v48)]!.2) 0 2 (hk84 hcq1)).mono fun _ _ ⟨_, h1, h2, h3⟩ => ⟨by rw [h2, h1], h3⟩))
      have hB87 := hB78.trans (Ext.stp hE86 hS79.base)
      have hS88 := hS79.ext hE86
      refine wl_guard (c := (!r77) = false) (val := .bool (!r83)) (b := ((!r77) == false)) (gv_some rfl rfl rfl) beq_iff_eq (fun hc89 => ?_) ?_
      · have hcq1 : ¬ (¬ (r77 = true)) := (i_neg (i_not Iff.rfl) hc89)
        exact g_not (a := r83) (if_pos hc89)
      refine wl_val (g_pick_or (b := (!r77)) (q := (!r83)) rfl rfl) rfl ?_
      refine wl_nil ?_
      refine hK73 _ _ ?_
      refine w_condI (p := ((¬ (r77 = true)) ∨ (¬ (r83 = true)))) (b := ((!r77) || (!r83))) rfl (i_or (i_not Iff.rfl) (i_not Iff.rfl)) (fun h90 => ?_) (fun h90 => ?_)
      · replace hm := hm.1 h90
        refine w_seq fun K91 hK91 => ?_
        refine w_region ?_
        refine wl_val (g_assign (v := .bool false) rfl) rfl ?_
        refine wl_nil ?_
        refine hK91 _ _ ?_
        refine w_ret ?_
        repeat first | with_reducible refine q_then ?_ | with_reducible refine q_block ?_
        exact ret1 rfl (by decide) ⟨_, hm, rfl, toExt hB87⟩
      · replace hm := hm.2 h90
        refine w_skip ?_
        refine hK60 _ _ ?_
        refine w_region ?_
        obtain ⟨hg92, hm⟩ := hm
        refine wl_val (g_add (a := v48) (b := 1) rfl rfl hg92) rfl ?_
        refine wl_val (g_move (v := .int .i64 (v48 + 1)) rfl) rfl ?_
        refine wl_nil ?_
        have hS93 := hS88.tail
        exact ⟨((v48 + 1)), hm.2, ⟨rfl, rfl, rfl, rfl, trivial⟩, ⟨hm.1, hB87, hS93⟩⟩
    · replace hm := hm.2 h59
      refine w_exit ?_
      exact ⟨(), ⟨rfl, trivial⟩, ⟨hm, hB54, hS55⟩⟩
  · rintro _ b_ w94 ⟨hm, hB95, hS96⟩
    show Wp _ _ _ _ (upds b_ [(0, .slice a0 n0 c0)]) w94
    refine w_seq fun K97 hK97 => ?_
    refine w_region ?_
    refine wl_val (g_move (v := .slice a0 n0 c0) rfl) rfl ?_
    refine wl_val (q_len SL27 rfl (Tv.len (hp0.bel hB95))) rfl ?_
    refine wl_step rfl (g_call (vs := #[.int .i64 (p0.length : Int), .int .i64 1, .int .i64 6]) CF83 (args3 rfl rfl rfl) (m_impl_within_fn (p0.length : Int) 1 6 hm)) ?_
    rintro _ w98 ⟨r101, hm, rfl, hE99⟩
    have hB102 := hB95.trans (Ext.stp hE99 hS96.base)
    have hS103 := hS96.ext hE99
    refine wl_val (g_assign (v := .bool r101) rfl) rfl ?_
    refine wl_nil ?_
    refine hK97 _ _ ?_
    refine w_ret ?_
    repeat first | with_reducible refine q_then ?_ | with_reducible refine q_block ?_
    exact ret1 rfl (by decide) ⟨_, hm, rfl, toExt hB102⟩

theorem m_impl_arePuppets_fn {w : World} {a0 : Option Addr} {n0 c0 : Nat} {p0 : List Int} {Q : Bool → Prop} (hp0 : Vw w.heap.size w a0 n0 c0 p0) (hm : m_impl_arePuppets p0 Q) :
    Fn Try.prog 61 #[.slice a0 n0 c0] w (fun v w' => ∃ (r0 : Bool), Q r0 ∧ v = .bool r0 ∧ Ext w w') := by
  unfold m_impl_arePuppets at hm
  have hB0 := Below.refl w.heap.size w
  have hS0 : Sep w w.heap.size [] := Sep.nil (Nat.le_refl _)
  refine fn_of_wp Try.func61 rfl (by kernel_rfl) (Nat.le_of_ble_eq_true rfl) ?_
  refine w_seq fun K1 hK1 => ?_
  refine w_region ?_
  refine wl_val (g_assign (v := .bool false) rfl) rfl ?_
  refine wl_nil ?_
  refine hK1 _ _ ?_
  refine w_seq fun K2 hK2 => ?_
  refine w_region ?_
  refine wl_val (g_move (v := .slice a0 n0 c0) rfl) rfl ?_
  refine wl_step rfl (g_call (vs := #[.slice a0 n0 c0, .int .i64 0, .int .i64 6]) CF85 (args3 rfl rfl rfl) (m_impl_isStrict_fn ((hp0.bel hB0).up hS0) 0 6 hm)) ?_
  rintro _ w3 ⟨r6, hm, rfl, hE4⟩
  have hB7 := hB0.trans (Ext.stp hE4 hS0.base)
  have hS8 := hS0.ext hE4
  refine wl_val (g_assign (v := .bool r6) rfl) rfl ?_
  refine wl_nil ?_
  refine hK2 _ _ ?_
  refine w_ret ?_
  repeat first | with_reducible refine q_then ?_ | with_reducible refine q_block ?_
  exact ret1 rfl (by decide) ⟨_, hm, rfl, toExt hB7⟩

theorem m_impl_FirstCasting_1_fn {w : World} {B_ : Nat} {L_ : List Ob} {a0 : Option Addr} {n0 c0 : Nat} {p0 : List Int} {gq0 : Nat} {aq0 : Option Addr} {nq0 cq0 : Nat} {q0 : List Int} {gq1 : Nat} {q1 : Bool} {Q : Bool → (List Int) → Bool → Prop} (hS0 : Sep w B_ (oS 3 a0 n0 c0 (p0 : List Int) :: oB gq0 23 #[.slice aq0 nq0 cq0] :: oS 3 aq0 nq0 cq0 (q0 : List Int) :: oB gq1 4 #[.bool q1] :: L_)) (hm : m_impl_FirstCasting_1 p0 q0 q1 Q) :
    Fn Try.prog 63 #[.slice a0 n0 c0, .pointer (some (⟨gq0, 0, none⟩ : Addr)), .pointer (some (⟨gq1, 0, none⟩ : Addr))] w (fun v w' => ∃ (r0 : Bool) (x0 : List Int) (aa0 : Option Addr) (nn0 cc0 : Nat) (x1 : Bool), Q r0 x0 x1 ∧ v = .bool r0 ∧ Below B_ w w' ∧ Sep w' B_ (oB gq0 23 #[.slice aa0 nn0 cc0] :: oS 3 aa0 nn0 cc0 x0 :: oB gq1 4 #[.bool x1] :: L_)) := by
  unfold m_impl_FirstCasting_1 at hm
  have hB0 := Below.refl B_ w
  refine fn_of_wp Try.func63 rfl (by kernel_rfl) (Nat.le_of_ble_eq_true rfl) ?_
  refine w_seq fun K5 hK5 => ?_
  refine w_region ?_
  refine wl_val (g_assign (v := .bool false) rfl) rfl ?_
  refine wl_nil ?_
  refine hK5 _ _ ?_
  refine w_seq fun K6 hK6 => ?_
  refine w_region ?_
  refine wl_val (g_move (v := .slice a0 n0 c0) rfl) rfl ?_
  have hS10 := hS0.f1
  refine wl_step rfl (q_storeB (i := 0) (bs' := #[.slice a0 n0 c0]) (vs := [.slice a0 n0 c0]) hS10 ON23.sz rfl rfl rfl (by simp [Value.oneCell']) (Nat.le_of_ble_eq_true rfl) rfl) ?_
  rintro _ w7 ⟨rfl, hS8, hb9⟩
  have hB11 := hB0.trans hb9
  have hS15 := hS8.f3
  refine wl_step rfl (q_storeB (i := 0) (bs' := #[.bool true]) (vs := [.bool true]) hS15 ON4.sz rfl rfl rfl (by simp [Value.oneCell']) (Nat.le_of_ble_eq_true rfl) rfl) ?_
  rintro _ w12 ⟨rfl, hS13, hb14⟩
  have hB16 := hB11.trans hb14
  refine wl_nil ?_
  refine hK6 _ _ ?_
  refine w_seq fun K17 hK17 => ?_
  refine w_region ?_
  refine wl_val (g_assign (v := .bool false) rfl) rfl ?_
  refine wl_nil ?_
  refine hK17 _ _ ?_
  refine w_ret ?_
  have hS18 := hS13.f3
  have hS19 := hS18.tail
  have hS20 := hS19.f2
  have hS21 := hS20.f2
  repeat first | with_reducible refine q_then ?_ | with_reducible refine q_block ?_
  exact ret1 rfl (by decide) ⟨_, _, _, _, _, _, hm, rfl, hB16, hS21⟩

theorem m_impl_copyOf_fn {w : World} {a0 : Option Addr} {n0 c0 : Nat} {p0 : List Int} {Q : (List Int) → Prop} (hp0 : Vw w.heap.size w a0 n0 c0 p0) (hm : m_impl_copyOf p0 Q) :
    Fn Try.prog 79 #[.slice a0 n0 c0] w (fun v w' => ∃ (r0 : List Int) (a0 : Option Addr) (n0 c0 : Nat), Q r0 ∧ v = .slice a0 n0 c0 ∧ Ext w w' ∧ Sep w' w.heap.size [oS 3 a0 n0 c0 r0]) := by
  unfold m_impl_copyOf at hm
  have hB0 := Below.refl w.heap.size w
  have hS0 : Sep w w.heap.size [] := Sep.nil (Nat.le_refl _)
  refine fn_of_wp Try.func79 rfl (by kernel_rfl) (Nat.le_of_ble_eq_true rfl) ?_
  refine w_seq fun K1 hK1 => ?_
  refine w_region ?_
  refine wl_val (g_assign (v := .slice none 0 0) rfl) rfl ?_
  refine wl_nil ?_
  refine hK1 _ _ ?_
  refine w_seq fun K2 hK2 => ?_
  refine w_region ?_
  refine wl_step rfl (q_lit0 (α := Int) rfl SL23 hS0) ?_
  rintro _ w3 ⟨a4, rfl, hS6, hE5⟩
  have hB8 := hB0.trans (Ext.stp hE5 hS0.base)
  refine wl_val (g_move (v := .slice a0 n0 c0) rfl) rfl ?_
  obtain ⟨hg14, hm⟩ := hm
  refine wl_step rfl (q_append SL23 rfl rfl hS6 (hp0.bel hB8) hg14 (by decide)) ?_
  rintro _ w9 ⟨a10, c11, rfl, hS13, hb12⟩
  have hB15 := hB8.trans hb12
  refine wl_val (g_assign (v := .slice a10 (0 + n0) c11) rfl) rfl ?_
  refine wl_nil ?_
  refine hK2 _ _ ?_
  refine w_ret ?_
  repeat first | with_reducible refine q_then ?_ | with_reducible refine q_block ?_
  exact ret1 rfl (by decide) ⟨_, _, _, _, hm, rfl, toExt hB15, hS13⟩

theorem m_impl_indexOf_fn {w : World} {a0 : Option Addr} {n0 c0 : Nat} {p0 : List Int} {Q : Int → Prop} (hp0 : Vw w.heap.size w a0 n0 c0 p0) (p1 : Int) (hm : m_impl_indexOf p0 p1 Q) :
    Fn Try.prog 84 #[.slice a0 n0 c0, .int .i64 p1] w (fun v w' => ∃ (r0 : Int), Q r0 ∧ v = .int .i64 r0 ∧ Ext w w') := by
  unfold m_impl_indexOf at hm
  have hB0 := Below.refl w.heap.size w
  have hS0 : Sep w w.heap.size [] := Sep.nil (Nat.le_refl _)
  refine fn_of_wp Try.func84 rfl (by kernel_rfl) (Nat.le_of_ble_eq_true rfl) ?_
  refine w_seq fun K1 hK1 => ?_
  refine w_region ?_
  refine wl_val (g_assign (v := .int .i64 0) rfl) rfl ?_
  refine wl_nil ?_
  refine hK1 _ _ ?_
  refine w_cut (σ := Unit) (fun _ => []) (fun _ w' => m_impl_indexOf_K0 Q ∧ Below w.heap.size w w' ∧ Sep w' w.heap.size []) ?_ ?_
  · refine w_seq fun K3 hK3 => ?_
    refine w_region ?_
    refine wl_val (g_move (v := .slice a0 n0 c0) rfl) rfl ?_
    refine wl_val (q_len SL23 rfl (Vw.len (hp0.bel hB0))) rfl ?_
    refine wl_val (g_move (v := .int .i64 0) rfl) rfl ?_
    refine wl_nil ?_
    refine hK3 _ _ ?_
    refine w_block ?_
    obtain ⟨I23, μ24, h025, hr26⟩ := hm
    refine w_for (σ := Int) (fun v22 => [(1, .int .i64 p1), (7, .slice a0 n0 c0), (8, .int .i64 (p0.length : Int)), (9, .int .i64 v22)]) (fun v22 w' => I23 v22 ∧ Below w.heap.size w w' ∧ Sep w' w.heap.size []) (fun v22 => μ24 v22) (0) ⟨rfl, rfl, rfl, rfl, trivial⟩ ⟨h025, hB0, hS0⟩ ?_
    rintro v22 b_ w27 ⟨hi_, hB28, hS29⟩
    show Wp _ _ _ _ (upds b_ [(1, .int .i64 p1), (7, .slice a0 n0 c0), (8, .int .i64 (p0.length : Int)), (9, .int .i64 v22)]) w27
    have hm := hr26 v22 hi_
    refine w_seq fun K31 hK31 => ?_
    refine w_region ?_
    refine wl_val (g_lss (a := v22) (b := (p0.length : Int)) rfl rfl) rfl ?_
    refine wl_nil ?_
    refine hK31 _ _ ?_
    refine w_seq fun K32 hK32 => ?_
    refine w_condI (p := v22 < (p0.length : Int)) (b := (decide (v22 < (p0.length : Int)))) rfl decide_eq_true_iff (fun h33 => ?_) (fun h33 => ?_)
    · replace hm := hm.1 h33
      refine w_skip ?_
      refine hK32 _ _ ?_
      refine w_seq fun K34 hK34 => ?_
      refine w_block ?_
      refine w_seq fun K35 hK35 => ?_
      refine w_region ?_
      refine wl_val (g_move (v := .int .i64 v22) rfl) rfl ?_
      obtain ⟨hg36, hm⟩ := hm
      refine wl_val (q_index (i := v22) SL23 rfl rfl (hp0.bel hB28) hg36) rfl ?_
      refine wl_val (q_load (i := v22) (v := .int .i64 (p0[(Int.toNat v22)]!)) ON3 (hp0.bel hB28) hg36 rfl rfl) rfl ?_
      refine wl_val (g_assign (v := .int .i64 v22) rfl) rfl ?_
      refine wl_val (g_assign (v := .int .i64 (p0[(Int.toNat v22)]!)) rfl) rfl ?_
      refine wl_nil ?_
      refine hK35 _ _ ?_
      refine w_seq fun K37 hK37 => ?_
      refine w_region ?_
      refine wl_val (g_move (v := .int .i64 (p0[(Int.toNat v22)]!)) rfl) rfl ?_
      refine wl_val (g_move (v := .int .i64 p1) rfl) rfl ?_
      refine wl_val (g_eql (a := p0[(Int.toNat v22)]!) (b := p1) rfl rfl) rfl ?_
      refine wl_nil ?_
      refine hK37 _ _ ?_
      refine w_condI (p := p0[(Int.toNat v22)]! = p1) (b := (decide (p0[(Int.toNat v22)]! = p1))) rfl decide_eq_true_iff (fun h38 => ?_) (fun h38 => ?_)
      · replace hm := hm.1 h38
        refine w_seq fun K39 hK39 => ?_
        refine w_region ?_
        refine wl_val (g_move (v := .int .i64 v22) rfl) rfl ?_
        refine wl_val (g_assign (v := .int .i64 v22) rfl) rfl ?_
        refine wl_nil ?_
        refine hK39 _ _ ?_
        refine w_ret ?_
        repeat first | with_reducible refine q_then ?_ | with_reducible refine q_block ?_
        exact ret1 rfl (by decide) ⟨_, hm, rfl, toExt hB28⟩
      · replace hm := hm.2 h38
        refine w_skip ?_
        refine hK34 _ _ ?_
        refine w_region ?_
        obtain ⟨hg40, hm⟩ := hm
        refine wl_val (g_add (a := v22) (b := 1) rfl rfl hg40) rfl ?_
        refine wl_val (g_move (v := .int .i64 (v22 + 1)) rfl) rfl ?_
        refine wl_nil ?_
        exact ⟨((v22 + 1)), hm.2, ⟨rfl, rfl, rfl, rfl, trivial⟩, ⟨hm.1, hB28, hS29⟩⟩
    · replace hm := hm.2 h33
      refine w_exit ?_
      exact ⟨(), trivial, ⟨hm, hB28, hS29⟩⟩
  · rintro _ b_ w41 ⟨hm, hB42, hS43⟩
    show Wp _ _ _ _ (upds b_ []) w41
    refine w_seq fun K44 hK44 => ?_
    refine w_region ?_
    refine wl_val (g_assign (v := .int .i64 (-1)) rfl) rfl ?_
    refine wl_nil ?_
    refine hK44 _ _ ?_
    refine w_ret ?_
    repeat first | with_reducible refine q_then ?_ | with_reducible refine q_block ?_
    exact ret1 rfl (by decide) ⟨_, hm, rfl, toExt hB42⟩

theorem m_impl_castings_1_FirstCasting_1_step_fn {rec_ : (List Int) → (List Int) → (List PlayerC) → (List Int) → (List Int) → Bool → (Bool → (List Int) → (List Int) → (List Int) → Bool → Prop) → Prop} (ih : ∀ {w : World} {B_ : Nat} {L_ : List Ob} {gq0 : Nat} {aq0 : Option Addr} {nq0 cq0 : Nat} {q0 : List Int} {gq1 : Nat} {aq1 : Option Addr} {nq1 cq1 : Nat} {q1 : List Int} {gq2 : Nat} {gq3 : Nat} {aq3 : Option Addr} {nq3 cq3 : Nat} {yq3 : List PlayerD} {q3 : List PlayerC} {gq4 : Nat} {aq4 : Option Addr} {nq4 cq4 : Nat} {q4 : List Int} {gq5 : Nat} {gq2_0 : Nat} {aq2_0 : Option Addr} {nq2_0 cq2_0 : Nat} {q2_0 : List Int} {gq2_1 : Nat} {q2_1 : Bool} {Q : Bool → (List Int) → (List Int) → (List Int) → Bool → Prop} (hS0 : Sep w B_ (oB gq0 23 #[.slice aq0 nq0 cq0] :: oS 3 aq0 nq0 cq0 (q0 : List Int) :: oB gq1 23 #[.slice aq1 nq1 cq1] :: oB gq2 67 #[.func (.func 63) #[] #[.pointer (some (⟨gq2_0, 0, none⟩ : Addr)), .pointer (some (⟨gq2_1, 0, none⟩ : Addr))]] :: oB gq3 27 #[.slice aq3 nq3 cq3] :: oB gq4 23 #[.slice aq4 nq4 cq4] :: oS 3 aq4 nq4 cq4 (q4 : List Int) :: oB gq5 86 #[.func (.func 91) #[] #[.pointer (some (⟨gq0, 0, none⟩ : Addr)), .pointer (some (⟨gq1, 0, none⟩ : Addr)), .pointer (some (⟨gq2, 0, none⟩ : Addr)), .pointer (some (⟨gq3, 0, none⟩ : Addr)), .pointer (some (⟨gq4, 0, none⟩ : Addr)), .pointer (some (⟨gq5, 0, none⟩ : Addr))]] :: oB gq2_0 23 #[.slice aq2_0 nq2_0 cq2_0] :: oS 3 aq2_0 nq2_0 cq2_0 (q2_0 : List Int) :: oB gq2_1 4 #[.bool q2_1] :: L_)) (hq1 : Vw B_ w aq1 nq1 cq1 q1) (hq3 : Tv B_ w aq3 nq3 cq3 yq3 q3) (hm : rec_ q0 q1 q3 q4 q2_0 q2_1 Q), Fn Try.prog 91 #[.pointer (some (⟨gq0, 0, none⟩ : Addr)), .pointer (some (⟨gq1, 0, none⟩ : Addr)), .pointer (some (⟨gq2, 0, none⟩ : Addr)), .pointer (some (⟨gq3, 0, none⟩ : Addr)), .pointer (some (⟨gq4, 0, none⟩ : Addr)), .pointer (some (⟨gq5, 0, none⟩ : Addr))] w (fun v w' => ∃ (r0 : Bool) (x0 : List Int) (aa0 : Option Addr) (nn0 cc0 : Nat) (x1 : List Int) (aa1 : Option Addr) (nn1 cc1 : Nat) (x2 : List Int) (aa2 : Option Addr) (nn2 cc2 : Nat) (x3 : Bool), Q r0 x0 x1 x2 x3 ∧ v = .bool r0 ∧ Below B_ w w' ∧ Sep w' B_ (oB gq0 23 #[.slice aa0 nn0 cc0] :: oS 3 aa0 nn0 cc0 x0 :: oB gq1 23 #[.slice aq1 nq1 cq1] :: oB gq2 67 #[.func (.func 63) #[] #[.pointer (some (⟨gq2_0, 0, none⟩ : Addr)), .pointer (some (⟨gq2_1, 0, none⟩ : Addr))]] :: oB gq3 27 #[.slice aq3 nq3 cq3] :: oB gq4 23 #[.slice aa1 nn1 cc1] :: oS 3 aa1 nn1 cc1 x1 :: oB gq5 86 #[.func (.func 91) #[] #[.pointer (some (⟨gq0, 0, none⟩ : Addr)), .pointer (some (⟨gq1, 0, none⟩ : Addr)), .pointer (some (⟨gq2, 0, none⟩ : Addr)), .pointer (some (⟨gq3, 0, none⟩ : Addr)), .pointer (some (⟨gq4, 0, none⟩ : Addr)), .pointer (some (⟨gq5, 0, none⟩ : Addr))]] :: oB gq2_0 23 #[.slice aa2 nn2 cc2] :: oS 3 aa2 nn2 cc2 x2 :: oB gq2_1 4 #[.bool x3] :: L_))) {w : World} {B_ : Nat} {L_ : List Ob} {gq0 : Nat} {aq0 : Option Addr} {nq0 cq0 : Nat} {q0 : List Int} {gq1 : Nat} {aq1 : Option Addr} {nq1 cq1 : Nat} {q1 : List Int} {gq2 : Nat} {gq3 : Nat} {aq3 : Option Addr} {nq3 cq3 : Nat} {yq3 : List PlayerD} {q3 : List PlayerC} {gq4 : Nat} {aq4 : Option Addr} {nq4 cq4 : Nat} {q4 : List Int} {gq5 : Nat} {gq2_0 : Nat} {aq2_0 : Option Addr} {nq2_0 cq2_0 : Nat} {q2_0 : List Int} {gq2_1 : Nat} {q2_1 : Bool} {Q : Bool → (List Int) → (List Int) → (List Int) → Bool → Prop} (hS0 : Sep w B_ (oB gq0 23 #[.slice aq0 nq0 cq0] :: oS 3 aq0 nq0 cq0 (q0 : List Int) :: oB gq1 23 #[.slice aq1 nq1 cq1] :: oB gq2 67 #[.func (.func 63) #[] #[.pointer (some (⟨gq2_0, 0, none⟩ : Addr)), .pointer (some (⟨gq2_1, 0, none⟩ : Addr))]] :: oB gq3 27 #[.slice aq3 nq3 cq3] :: oB gq4 23 #[.slice aq4 nq4 cq4] :: oS 3 aq4 nq4 cq4 (q4 : List Int) :: oB gq5 86 #[.func (.func 91) #[] #[.pointer (some (⟨gq0, 0, none⟩ : Addr)), .pointer (some (⟨gq1, 0, none⟩ : Addr)), .pointer (some (⟨gq2, 0, none⟩ : Addr)), .pointer (some (⟨gq3, 0, none⟩ : Addr)), .pointer (some (⟨gq4, 0, none⟩ : Addr)), .pointer (some (⟨gq5, 0, none⟩ : Addr))]] :: oB gq2_0 23 #[.slice aq2_0 nq2_0 cq2_0] :: oS 3 aq2_0 nq2_0 cq2_0 (q2_0 : List Int) :: oB gq2_1 4 #[.bool q2_1] :: L_)) (hq1 : Vw B_ w aq1 nq1 cq1 q1) (hq3 : Tv B_ w aq3 nq3 cq3 yq3 q3) (hm : m_impl_castings_1_FirstCasting_1_step rec_ q0 q1 q3 q4 q2_0 q2_1 Q) :
    Fn Try.prog 91 #[.pointer (some (⟨gq0, 0, none⟩ : Addr)), .pointer (some (⟨gq1, 0, none⟩ : Addr)), .pointer (some (⟨gq2, 0, none⟩ : Addr)), .pointer (some (⟨gq3, 0, none⟩ : Addr)), .pointer (some (⟨gq4, 0, none⟩ : Addr)), .pointer (some (⟨gq5, 0, none⟩ : Addr))] w (fun v w' => ∃ (r0 : Bool) (x0 : List Int) (aa0 : Option Addr) (nn0 cc0 : Nat) (x1 : List Int) (aa1 : Option Addr) (nn1 cc1 : Nat) (x2 : List Int) (aa2 : Option Addr) (nn2 cc2 : Nat) (x3 : Bool), Q r0 x0 x1 x2 x3 ∧ v = .bool r0 ∧ Below B_ w w' ∧ Sep w' B_ (oB gq0 23 #[.slice aa0 nn0 cc0] :: oS 3 aa0 nn0 cc0 x0 :: oB gq1 23 #[.slice aq1 nq1 cq1] :: oB gq2 67 #[.func (.func 63) #[] #[.pointer (some (⟨gq2_0, 0, none⟩ : Addr)), .pointer (some (⟨gq2_1, 0, none⟩ : Addr))]] :: oB gq3 27 #[.slice aq3 nq3 cq3] :: oB gq4 23 #[.slice aa1 nn1 cc1] :: oS 3 aa1 nn1 cc1 x1 :: oB gq5 86 #[.func (.func 91) #[] #[.pointer (some (⟨gq0, 0, none⟩ : Addr)), .pointer (some (⟨gq1, 0, none⟩ : Addr)), .pointer (some (⟨gq2, 0, none⟩ : Addr)), .pointer (some (⟨gq3, 0, none⟩ : Addr)), .pointer (some (⟨gq4, 0, none⟩ : Addr)), .pointer (some (⟨gq5, 0, none⟩ : Addr))]] :: oB gq2_0 23 #[.slice aa2 nn2 cc2] :: oS 3 aa2 nn2 cc2 x2 :: oB gq2_1 4 #[.bool x3] :: L_)) := by
  unfold m_impl_castings_1_FirstCasting_1_step at hm
  have hB0 := Below.refl B_ w
  refine fn_of_wp Try.func91 rfl (by kernel_rfl) (Nat.le_of_ble_eq_true rfl) ?_
  refine w_seq fun K12 hK12 => ?_
  refine w_region ?_
  refine wl_val (g_assign (v := .bool false) rfl) rfl ?_
  refine wl_nil ?_
  refine hK12 _ _ ?_
  refine w_seq fun K13 hK13 => ?_
  refine w_seq fun K14 hK14 => ?_
  refine w_region ?_
  refine wl_val (q_loadB (i := 0) (bs := #[.slice aq0 nq0 cq0]) hS0.g0 ON23 rfl rfl) rfl ?_
  refine wl_val (q_len SL23 rfl (Vw.len (oS.vw hS0.g1))) rfl ?_
  refine wl_val (q_loadB (i := 0) (bs := #[.slice aq1 nq1 cq1]) hS0.g2 ON23 rfl rfl) rfl ?_
  refine wl_val (q_len SL23 rfl (Vw.len (hq1.bel hB0))) rfl ?_
  refine wl_val (g_eql (a := (q0.length : Int)) (b := (q1.length : Int)) rfl rfl) rfl ?_
  refine wl_nil ?_
  refine hK14 _ _ ?_
  refine w_condI (p := (q0.length : Int) = (q1.length : Int)) (b := (decide ((q0.length : Int) = (q1.length : Int)))) rfl decide_eq_true_iff (fun h15 => ?_) (fun h15 => ?_)
  · replace hm := hm.1 h15
    refine w_seq fun K16 hK16 => ?_
    refine w_draw (X := Ext) (Y := Ext) [0, 0, 2, 1, 0] MIX (by decide +kernel) rfl Ext.refl (fun _ _ _ => Ext.trans) (fun _ _ _ => Chg.trans) (fun _ _ h => Ext.chg h _) (fun w17 hE18 => ?_)
    have hB19 := hB0.trans (Ext.stp hE18 hS0.base)
    have hS20 := hS0.ext hE18
    refine ⟨.func (.func 63) #[] #[.pointer (some (⟨gq2_0, 0, none⟩ : Addr)), .pointer (some (⟨gq2_1, 0, none⟩ : Addr))], fun w21 hX22 => od_plain rfl (by have hS23 := hS20.ext hX22; have hB24 := hB19.trans (Ext.stp hX22 hS20.base); exact is_ext (q_loadB (i := 0) (bs := #[.func (.func 63) #[] #[.pointer (some (⟨gq2_0, 0, none⟩ : Addr)), .pointer (some (⟨gq2_1, 0, none⟩ : Addr))]]) hS23.g3 ON67 rfl rfl)), ?_⟩
    refine ⟨.slice aq0 nq0 cq0, fun w25 hX26 => od_plain rfl (by have hS27 := hS20.ext hX26; have hB28 := hB19.trans (Ext.stp hX26 hS20.base); exact is_ext (q_loadB (i := 0) (bs := #[.slice aq0 nq0 cq0]) hS27.g0 ON23 rfl rfl)), ?_⟩
    intro w29 hX30
    have hB31 := hB19.trans (Ext.stp hX30 hS20.base)
    have hS32 := hS20.ext hX30
    refine ⟨_, od_plain rfl (g_call (vs := #[.slice aq0 nq0 cq0]) CF79 (args1 rfl) (m_impl_copyOf_fn (oS.vw hS32.g1) hm)), ?_⟩
    rintro _ w33 ⟨r36, a37, n38, c39, hm, rfl, hE34, hN35⟩
    have hS41 := hS32.call1 hE34 hN35
    refine ⟨hE34, ?_⟩
    have hB42 := hB31.trans (Ext.stp hE34 hS32.base)
    intro w43 hX44
    have hB45 := hB42.trans (Ext.stp hX44 hS41.base)
    have hS46 := hS41.ext hX44
    have hS47 := hS46.f11
    have hS48 := hS47.f11
    have hS49 := hS48.f11
    have hS50 := hS49.f3
    refine ⟨_, od_plain rfl (g_callvc (f := 63) (va := #[.slice a37 n38 c39]) (cap := #[.pointer (some (⟨gq2_0, 0, none⟩ : Addr)), .pointer (some (⟨gq2_1, 0, none⟩ : Addr))]) (vs := #[.slice a37 n38 c39, .pointer (some (⟨gq2_0, 0, none⟩ : Addr)), .pointer (some (⟨gq2_1, 0, none⟩ : Addr))]) CF63 rfl (args1 rfl) rfl (m_impl_FirstCasting_1_fn hS50 hm)), ?_⟩
    rintro _ w51 ⟨r54, x55, a56, n57, c58, x59, hm, rfl, hb52, hS53⟩
    have hB60 := hB45.trans hb52
    refine ⟨.bool r54, fun w61 hX62 => od_plain rfl (by have hS63 := hS53.ext hX62; have hB64 := hB60.trans (Ext.stp hX62 hS53.base); exact is_ext (g_assign (v := .bool r54) rfl)), ?_⟩
    intro w65 hX66
    have hB67 := hB60.trans (Ext.stp hX66 hS53.base)
    have hS68 := hS53.ext hX66
    refine hK16 _ _ ?_
    refine w_ret ?_
    have hS69 := hS68.f2
    have hS70 := hS69.f2
    have hS71 := hS70.f2
    have hS72 := hS71.f10
    have hS73 := hS72.f10
    have hS74 := hS73.f10
    have hS75 := hS74.f10
    have hS76 := hS75.f10
    have hS77 := hS76.f10
    have hS78 := hS77.f10
    have hS79 := hS78.f10
    repeat first | with_reducible refine q_then ?_ | with_reducible refine q_block ?_
    exact ret1 rfl (by decide) ⟨_, _, _, _, _, _, _, _, _, _, _, _, _, _, hm, rfl, hB67, hS79⟩
  · replace hm := hm.2 h15
    refine w_skip ?_
    refine hK13 _ _ ?_
    refine w_cut (σ := Bool × List Int × Option Addr × Nat × Nat × List Int × Option Addr × Nat × Nat × List Int × Option Addr × Nat × Nat) (fun ⟨v680, x681, a682, n683, c684, x685, a686, n687, c688, x689, a690, n691, c692⟩ => []) (fun ⟨v680, x681, a682, n683, c684, x685, a686, n687, c688, x689, a690, n691, c692⟩ w' => m_impl_castings_1_FirstCasting_1_K0 Q v680 x681 x685 x689 ∧ Below B_ w w' ∧ Sep w' B_ (oB gq2_1 4 #[.bool v680] :: oB gq2_0 23 #[.slice a682 n683 c684] :: oB gq5 86 #[.func (.func 91) #[] #[.pointer (some (⟨gq0, 0, none⟩ : Addr)), .pointer (some (⟨gq1, 0, none⟩ : Addr)), .pointer (some (⟨gq2, 0, none⟩ : Addr)), .pointer (some (⟨gq3, 0, none⟩ : Addr)), .pointer (some (⟨gq4, 0, none⟩ : Addr)), .pointer (some (⟨gq5, 0, none⟩ : Addr))]] :: oB gq4 23 #[.slice a686 n687 c688] :: oB gq3 27 #[.slice aq3 nq3 cq3] :: oB gq2 67 #[.func (.func 63) #[] #[.pointer (some (⟨gq2_0, 0, none⟩ : Addr)), .pointer (some (⟨gq2_1, 0, none⟩ : Addr))]] :: oB gq1 23 #[.slice aq1 nq1 cq1] :: oB gq0 23 #[.slice a690 n691 c692] :: oS 3 a682 n683 c684 (x681 : List Int) :: oS 3 a686 n687 c688 (x685 : List Int) :: oS 3 a690 n691 c692 (x689 : List Int) :: L_)) ?_ ?_
    · refine w_seq fun K694 hK694 => ?_
      refine w_region ?_
      refine wl_val (q_loadB (i := 0) (bs := #[.slice aq3 nq3 cq3]) hS0.g4 ON27 rfl rfl) rfl ?_
      refine wl_val (q_len SL27 rfl (Tv.len (hq3.bel hB0))) rfl ?_
      refine wl_val (g_move (v := .int .i64 0) rfl) rfl ?_
      refine wl_nil ?_
      refine hK694 _ _ ?_
      refine w_block ?_
      have hS709 := hS0.f1
      have hS710 := hS709.f6
      have hS711 := hS710.f9
      have hS712 := hS711.f3
      have hS713 := hS712.f4
      have hS714 := hS713.f5
      have hS715 := hS714.f6
      have hS716 := hS715.f7
      have hS717 := hS716.f8
      have hS718 := hS717.f9
      have hS719 := hS718.f10
      obtain ⟨I720, μ721, h0722, hr723⟩ := hm
      refine w_for (σ := Int × Bool × List Int × Option Addr × Nat × Nat × List Int × Option Addr × Nat × Nat × List Int × Option Addr × Nat × Nat) (fun ⟨v695, v696, x697, a698, n699, c700, x701, a702, n703, c704, x705, a706, n707, c708⟩ => [(0, .pointer (some (⟨gq0, 0, none⟩ : Addr))), (1, .pointer (some (⟨gq1, 0, none⟩ : Addr))), (4, .pointer (some (⟨gq4, 0, none⟩ : Addr))), (5, .pointer (some (⟨gq5, 0, none⟩ : Addr))), (19, .slice aq3 nq3 cq3), (20, .int .i64 (q3.length : Int)), (21, .int .i64 v695)]) (fun ⟨v695, v696, x697, a698, n699, c700, x701, a702, n703, c704, x705, a706, n707, c708⟩ w' => I720 v695 v696 x697 x701 x705 ∧ Below B_ w w' ∧ Sep w' B_ (oB gq2_1 4 #[.bool v696] :: oB gq2_0 23 #[.slice a698 n699 c700] :: oB gq5 86 #[.func (.func 91) #[] #[.pointer (some (⟨gq0, 0, none⟩ : Addr)), .pointer (some (⟨gq1, 0, none⟩ : Addr)), .pointer (some (⟨gq2, 0, none⟩ : Addr)), .pointer (some (⟨gq3, 0, none⟩ : Addr)), .pointer (some (⟨gq4, 0, none⟩ : Addr)), .pointer (some (⟨gq5, 0, none⟩ : Addr))]] :: oB gq4 23 #[.slice a702 n703 c704] :: oB gq3 27 #[.slice aq3 nq3 cq3] :: oB gq2 67 #[.func (.func 63) #[] #[.pointer (some (⟨gq2_0, 0, none⟩ : Addr)), .pointer (some (⟨gq2_1, 0, none⟩ : Addr))]] :: oB gq1 23 #[.slice aq1 nq1 cq1] :: oB gq0 23 #[.slice a706 n707 c708] :: oS 3 a698 n699 c700 (x697 : List Int) :: oS 3 a702 n703 c704 (x701 : List Int) :: oS 3 a706 n707 c708 (x705 : List Int) :: L_)) (fun ⟨v695, v696, x697, a698, n699, c700, x701, a702, n703, c704, x705, a706, n707, c708⟩ => μ721 v695 v696 x697 x701 x705) (0, q2_1, q2_0, aq2_0, nq2_0, cq2_0, q4, aq4, nq4, cq4, q0, aq0, nq0, cq0) ⟨rfl, rfl, rfl, rfl, rfl, rfl, rfl, trivial⟩ ⟨h0722, hB0, hS719⟩ ?_
      rintro ⟨v695, v696, x697, a698, n699, c700, x701, a702, n703, c704, x705, a706, n707, c708⟩ b_ w724 ⟨hi_, hB725, hS726⟩
      show Wp _ _ _ _ (upds b_ [(0, .pointer (some (⟨gq0, 0, none⟩ : Addr))), (1, .pointer (some (⟨gq1, 0, none⟩ : Addr))), (4, .pointer (some (⟨gq4, 0, none⟩ : Addr))), (5, .pointer (some (⟨gq5, 0, none⟩ : Addr))), (19, .slice aq3 nq3 cq3), (20, .int .i64 (q3.length : Int)), (21, .int .i64 v695)]) w724
      have hm := hr723 v695 v696 x697 x701 x705 hi_
      refine w_seq fun K728 hK728 => ?_
      refine w_region ?_
      refine wl_val (g_lss (a := v695) (b := (q3.length : Int)) rfl rfl) rfl ?_
      refine wl_nil ?_
      refine hK728 _ _ ?_
      refine w_seq fun K729 hK729 => ?_
      refine w_condI (p := v695 < (q3.length : Int)) (b := (decide (v695 < (q3.length : Int)))) rfl decide_eq_true_iff (fun h730 => ?_) (fun h730 => ?_)
      · replace hm := hm.1 h730
        refine w_skip ?_
        refine hK729 _ _ ?_
        refine w_seq fun K731 hK731 => ?_
        refine w_block ?_
        refine w_seq fun K732 hK732 => ?_
        refine w_region ?_
        refine wl_val (g_move (v := .int .i64 v695) rfl) rfl ?_
        obtain ⟨hg733, hm⟩ := hm
        refine wl_val (q_index (i := v695) SL27 rfl rfl (Tv.o (hq3.bel hB725)) (Tv.g (hq3.bel hB725) hg733)) rfl ?_
        refine wl_val (q_loadS (i := v695) (cs := [.slice ((yq3[(Int.toNat v695)]!).1.1) ((yq3[(Int.toNat v695)]!).1.2.2.length) ((yq3[(Int.toNat v695)]!).1.2.1), .int .i64 (q3[(Int.toNat v695)]!.2)]) AG54 (Tv.o (hq3.bel hB725)) (Tv.g (hq3.bel hB725) hg733) (by rw [← Tv.free (hq3.bel hB725) hg733]; rfl) rfl) rfl ?_
        refine wl_step rfl (q_alloc (cs := #[.slice none 0 0, .int .i64 0]) ZR54 rfl hS726) ?_
        rintro _ w734 ⟨g735, rfl, hS737, hE736⟩
        have hB739 := hB725.trans (Ext.stp hE736 hS726.base)
        refine wl_val (g_assign (v := .int .i64 v695) rfl) rfl ?_
        refine wl_step rfl (q_storeB (i := 0) (bs' := #[.slice ((yq3[(Int.toNat v695)]!).1.1) ((yq3[(Int.toNat v695)]!).1.2.2.length) ((yq3[(Int.toNat v695)]!).1.2.1), .int .i64 (q3[(Int.toNat v695)]!.2)]) (vs := [.slice ((yq3[(Int.toNat v695)]!).1.1) ((yq3[(Int.toNat v695)]!).1.2.2.length) ((yq3[(Int.toNat v695)]!).1.2.1), .int .i64 (q3[(Int.toNat v695)]!.2)]) hS737 AG54.sz rfl rfl rfl (by simp [Value.oneCell']) (Nat.le_of_ble_eq_true rfl) rfl) ?_
        rintro _ w740 ⟨rfl, hS741, hb742⟩
        have hB743 := hB739.trans hb742
        refine wl_nil ?_
        refine hK732 _ _ ?_
        refine w_seq fun K744 hK744 => ?_
        refine w_seq fun K745 hK745 => ?_
        refine w_draw (X := Ext) (Y := Ext) [] MIX (by decide +kernel) rfl Ext.refl (fun _ _ _ => Ext.trans) (fun _ _ _ => Chg.trans) (fun _ _ h => Ext.chg h _) (fun w746 hE747 => ?_)
        have hB748 := hB743.trans (Ext.stp hE747 hS741.base)
        have hS749 := hS741.ext hE747
        refine ⟨.slice a702 n703 c704, fun w750 hX751 => od_plain rfl (by have hS752 := hS749.ext hX751; have hB753 := hB748.trans (Ext.stp hX751 hS749.base); exact is_ext (q_loadB (i := 0) (bs := #[.slice a702 n703 c704]) hS752.g4 ON23 rfl rfl)), ?_⟩
        refine ⟨.int .i64 v695, fun w754 hX755 => od_plain rfl (by have hS756 := hS749.ext hX755; have hB757 := hB748.trans (Ext.stp hX755 hS749.base); exact is_ext (g_move (v := .int .i64 v695) rfl)), ?_⟩
        obtain ⟨hg762, hm⟩ := hm
        refine ⟨.pointer (some ((adr a702).add ((Int.toNat v695) * El.m Int))), fun w758 hX759 => od_plain rfl (by have hS760 := hS749.ext hX759; have hB761 := hB748.trans (Ext.stp hX759 hS749.base); exact is_ext (q_index (i := v695) SL23 rfl rfl (oS.vw hS760.g10) hg762)), ?_⟩
        refine ⟨.int .i64 (x701[(Int.toNat v695)]!), fun w763 hX764 => od_plain rfl (by have hS765 := hS749.ext hX764; have hB766 := hB748.trans (Ext.stp hX764 hS749.base); exact is_ext (q_load (i := v695) (v := .int .i64 (x701[(Int.toNat v695)]!)) ON3 (oS.vw hS765.g10) hg762 rfl rfl)), ?_⟩
        refine ⟨.bool (decide (x701[(Int.toNat v695)]! = 0)), fun w767 hX768 => od_plain rfl (by have hS769 := hS749.ext hX768; have hB770 := hB748.trans (Ext.stp hX768 hS749.base); exact is_ext (g_eql (a := x701[(Int.toNat v695)]!) (b := 0) rfl rfl)), ?_⟩
        refine ⟨.bool (decide (x701[(Int.toNat v695)]! = 0)), fun w771 hX772 => od_plain rfl (by have hS773 := hS749.ext hX772; have hB774 := hB748.trans (Ext.stp hX772 hS749.base); exact is_ext (g_move (v := .bool (decide (x701[(Int.toNat v695)]! = 0))) rfl)), ?_⟩
        refine ⟨if (decide (x701[(Int.toNat v695)]! = 0)) = false then .pointer (some (((⟨g735, 0, none⟩ : Addr)).add 0)) else undef, fun w775 hX776 => od_guard (c := (decide (x701[(Int.toNat v695)]! = 0)) = false) (val := .pointer (some (((⟨g735, 0, none⟩ : Addr)).add 0))) (b := ((decide (x701[(Int.toNat v695)]! = 0)) == false)) (gv_some rfl rfl rfl) beq_iff_eq (fun hc779 => ?_), ?_⟩
        · have hS777 := hS749.ext hX776
          have hB778 := hB748.trans (Ext.stp hX776 hS749.base)
          have hcq3 : ¬ (x701[(Int.toNat v695)]! = 0) := (i_neg decide_eq_true_iff hc779)
          exact is_ext (g_fieldAddr (q := (⟨g735, 0, none⟩ : Addr)) FL54_0 ON23 rfl)
        refine ⟨if (decide (x701[(Int.toNat v695)]! = 0)) = false then .slice ((yq3[(Int.toNat v695)]!).1.1) ((yq3[(Int.toNat v695)]!).1.2.2.length) ((yq3[(Int.toNat v695)]!).1.2.1) else undef, fun w780 hX781 => od_guard (c := (decide (x701[(Int.toNat v695)]! = 0)) = false) (val := .slice ((yq3[(Int.toNat v695)]!).1.1) ((yq3[(Int.toNat v695)]!).1.2.2.length) ((yq3[(Int.toNat v695)]!).1.2.1)) (b := ((decide (x701[(Int.toNat v695)]! = 0)) == false)) (gv_some rfl rfl rfl) beq_iff_eq (fun hc784 => ?_), ?_⟩
        · have hS782 := hS749.ext hX781
          have hB783 := hB748.trans (Ext.stp hX781 hS749.base)
          have hcq3 : ¬ (x701[(Int.toNat v695)]! = 0) := (i_neg decide_eq_true_iff hc784)
          exact is_ext (q_loadB (i := 0) (bs := #[.slice ((yq3[(Int.toNat v695)]!).1.1) ((yq3[(Int.toNat v695)]!).1.2.2.length) ((yq3[(Int.toNat v695)]!).1.2.1), .int .i64 (q3[(Int.toNat v695)]!.2)]) hS782.g0 ON23 (if_pos hc784) rfl)
        refine ⟨if (decide (x701[(Int.toNat v695)]! = 0)) = false then .slice aq1 nq1 cq1 else undef, fun w785 hX786 => od_guard (c := (decide (x701[(Int.toNat v695)]! = 0)) = false) (val := .slice aq1 nq1 cq1) (b := ((decide (x701[(Int.toNat v695)]! = 0)) == false)) (gv_some rfl rfl rfl) beq_iff_eq (fun hc789 => ?_), ?_⟩
        · have hS787 := hS749.ext hX786
          have hB788 := hB748.trans (Ext.stp hX786 hS749.base)
          have hcq3 : ¬ (x701[(Int.toNat v695)]! = 0) := (i_neg decide_eq_true_iff hc789)
          exact is_ext (q_loadB (i := 0) (bs := #[.slice aq1 nq1 cq1]) hS787.g7 ON23 rfl rfl)
        refine ⟨if (decide (x701[(Int.toNat v695)]! = 0)) = false then .slice a706 n707 c708 else undef, fun w790 hX791 => od_guard (c := (decide (x701[(Int.toNat v695)]! = 0)) = false) (val := .slice a706 n707 c708) (b := ((decide (x701[(Int.toNat v695)]! = 0)) == false)) (gv_some rfl rfl rfl) beq_iff_eq (fun hc794 => ?_), ?_⟩
        · have hS792 := hS749.ext hX791
          have hB793 := hB748.trans (Ext.stp hX791 hS749.base)
          have hcq3 : ¬ (x701[(Int.toNat v695)]! = 0) := (i_neg decide_eq_true_iff hc794)
          exact is_ext (q_loadB (i := 0) (bs := #[.slice a706 n707 c708]) hS792.g8 ON23 rfl rfl)
        refine ⟨if (decide (x701[(Int.toNat v695)]! = 0)) = false then .int .i64 (x705.length : Int) else undef, fun w795 hX796 => od_guard (c := (decide (x701[(Int.toNat v695)]! = 0)) = false) (val := .int .i64 (x705.length : Int)) (b := ((decide (x701[(Int.toNat v695)]! = 0)) == false)) (gv_some rfl rfl rfl) beq_iff_eq (fun hc799 => ?_), ?_⟩
        · have hS797 := hS749.ext hX796
          have hB798 := hB748.trans (Ext.stp hX796 hS749.base)
          have hcq3 : ¬ (x701[(Int.toNat v695)]! = 0) := (i_neg decide_eq_true_iff hc799)
          exact is_ext (q_len SL23 (if_pos hc799) (Vw.len (oS.vw hS797.g11)))
        obtain ⟨hg805, hm⟩ := hm
        refine ⟨if (decide (x701[(Int.toNat v695)]! = 0)) = false then .pointer (some ((adr aq1).add ((Int.toNat (x705.length : Int)) * El.m Int))) else undef, fun w800 hX801 => od_guard (c := (decide (x701[(Int.toNat v695)]! = 0)) = false) (val := .pointer (some ((adr aq1).add ((Int.toNat (x705.length : Int)) * El.m Int)))) (b := ((decide (x701[(Int.toNat v695)]! = 0)) == false)) (gv_some rfl rfl rfl) beq_iff_eq (fun hc804 => ?_), ?_⟩
        · have hS802 := hS749.ext hX801
          have hB803 := hB748.trans (Ext.stp hX801 hS749.base)
          have hcq3 : ¬ (x701[(Int.toNat v695)]! = 0) := (i_neg decide_eq_true_iff hc804)
          exact is_ext (q_index (i := (x705.length : Int)) SL23 (if_pos hc804) (if_pos hc804) (hq1.bel hB803) (hg805 hcq3))
        refine ⟨if (decide (x701[(Int.toNat v695)]! = 0)) = false then .int .i64 (q1[(Int.toNat (x705.length : Int))]!) else undef, fun w806 hX807 => od_guard (c := (decide (x701[(Int.toNat v695)]! = 0)) = false) (val := .int .i64 (q1[(Int.toNat (x705.length : Int))]!)) (b := ((decide (x701[(Int.toNat v695)]! = 0)) == false)) (gv_some rfl rfl rfl) beq_iff_eq (fun hc810 => ?_), ?_⟩
        · have hS808 := hS749.ext hX807
          have hB809 := hB748.trans (Ext.stp hX807 hS749.base)
          have hcq3 : ¬ (x701[(Int.toNat v695)]! = 0) := (i_neg decide_eq_true_iff hc810)
          exact is_ext (q_load (i := (x705.length : Int)) (v := .int .i64 (q1[(Int.toNat (x705.length : Int))]!)) ON3 (hq1.bel hB809) (hg805 hcq3) rfl (if_pos hc810))
        obtain ⟨r816, hk817, hm⟩ := hm
        refine ⟨if (decide (x701[(Int.toNat v695)]! = 0)) = false then .int .i64 r816 else undef, fun w811 hX812 => od_guard (c := (decide (x701[(Int.toNat v695)]! = 0)) = false) (val := .int .i64 r816) (b := ((decide (x701[(Int.toNat v695)]! = 0)) == false)) (gv_some rfl rfl rfl) beq_iff_eq (fun hc815 => ?_), ?_⟩
        · have hS813 := hS749.ext hX812
          have hB814 := hB748.trans (Ext.stp hX812 hS749.base)
          have hcq3 : ¬ (x701[(Int.toNat v695)]! = 0) := (i_neg decide_eq_true_iff hc815)
          exact (g_call (vs := #[.slice ((yq3[(Int.toNat v695)]!).1.1) ((yq3[(Int.toNat v695)]!).1.2.2.length) ((yq3[(Int.toNat v695)]!).1.2.1), .int .i64 (q1[(Int.toNat (x705.length : Int))]!)]) CF84 (args2 (if_pos hc815) (if_pos hc815)) ((m_impl_indexOf_fn ((Tv.rowP (hq3.bel hB814) hg733).up hS813) (q1[(Int.toNat (x705.length : Int))]!) (hk817 hcq3)).mono fun _ _ ⟨_, h1, h2, h3⟩ => ⟨by rw [h2, h1], h3⟩))
        refine ⟨if (decide (x701[(Int.toNat v695)]! = 0)) = false then .bool (decide (r816 < 0)) else undef, fun w818 hX819 => od_guard (c := (decide (x701[(Int.toNat v695)]! = 0)) = false) (val := .bool (decide (r816 < 0))) (b := ((decide (x701[(Int.toNat v695)]! = 0)) == false)) (gv_some rfl rfl rfl) beq_iff_eq (fun hc822 => ?_), ?_⟩
        · have hS820 := hS749.ext hX819
          have hB821 := hB748.trans (Ext.stp hX819 hS749.base)
          have hcq3 : ¬ (x701[(Int.toNat v695)]! = 0) := (i_neg decide_eq_true_iff hc822)
          exact is_ext (g_lss (a := r816) (b := 0) (if_pos hc822) rfl)
        refine ⟨.bool ((decide (x701[(Int.toNat v695)]! = 0)) || (decide (r816 < 0))), fun w823 hX824 => od_plain rfl (by have hS825 := hS749.ext hX824; have hB826 := hB748.trans (Ext.stp hX824 hS749.base); exact is_ext (g_pick_or (b := (decide (x701[(Int.toNat v695)]! = 0))) (q := (decide (r816 < 0))) rfl rfl)), ?_⟩
        intro w827 hX828
        have hB829 := hB748.trans (Ext.stp hX828 hS749.base)
        have hS830 := hS749.ext hX828
        refine hK745 _ _ ?_
        refine w_condI (p := ((x701[(Int.toNat v695)]! = 0) ∨ (r816 < 0))) (b := ((decide (x701[(Int.toNat v695)]! = 0)) || (decide (r816 < 0)))) rfl (i_or decide_eq_true_iff decide_eq_true_iff) (fun h831 => ?_) (fun h831 => ?_)
        · replace hm := hm.1 h831
          refine w_exit ?_
          refine hK731 _ _ ?_
          refine w_region ?_
          obtain ⟨hg832, hm⟩ := hm
          refine wl_val (g_add (a := v695) (b := 1) rfl rfl hg832) rfl ?_
          refine wl_val (g_move (v := .int .i64 (v695 + 1)) rfl) rfl ?_
          refine wl_nil ?_
          have hS833 := hS830.tail
          exact ⟨((v695 + 1), v696, x697, a698, n699, c700, x701, a702, n703, c704, x705, a706, n707, c708), hm.2, ⟨rfl, rfl, rfl, rfl, rfl, rfl, rfl, trivial⟩, ⟨hm.1, hB829, hS833⟩⟩
        · replace hm := hm.2 h831
          refine w_skip ?_
          refine hK744 _ _ ?_
          refine w_seq fun K834 hK834 => ?_
          refine w_region ?_
          refine wl_val (q_loadB (i := 0) (bs := #[.slice a702 n703 c704]) hS830.g4 ON23 rfl rfl) rfl ?_
          refine wl_val (g_move (v := .int .i64 v695) rfl) rfl ?_
          obtain ⟨hg835, hm⟩ := hm
          refine wl_val (q_index (i := v695) SL23 rfl rfl (oS.vw hS830.g10) hg835) rfl ?_
          refine wl_val (q_load (i := v695) (v := .int .i64 (x701[(Int.toNat v695)]!)) ON3 (oS.vw hS830.g10) hg835 rfl rfl) rfl ?_
          obtain ⟨hg836, hm⟩ := hm
          refine wl_val (g_sub (a := x701[(Int.toNat v695)]!) (b := 1) rfl rfl hg836) rfl ?_
          obtain ⟨hg837, hm⟩ := hm
          refine wl_val (q_index (i := v695) SL23 rfl rfl (oS.vw hS830.g10) hg837) rfl ?_
          have hS841 := hS830.f10
          refine wl_step rfl (q_store (i := v695) (v := ((x701[(Int.toNat v695)]! - 1) : Int)) hS841 ON3.sz hg837 rfl rfl rfl) ?_
          rintro _ w838 ⟨rfl, hS839, hb840⟩
          have hB842 := hB829.trans hb840
          refine wl_nil ?_
          refine hK834 _ _ ?_
          refine w_seq fun K843 hK843 => ?_
          refine w_region ?_
          refine wl_val (q_loadB (i := 0) (bs := #[.slice a706 n707 c708]) hS839.g9 ON23 rfl rfl) rfl ?_
          refine wl_val (g_move (v := .int .i64 v695) rfl) rfl ?_
          refine wl_step rfl (q_lit1 (y := (v695 : Int)) SL23 rfl rfl (by decide) hS839) ?_
          rintro _ w844 ⟨a845, rfl, hS847, hE846⟩
          have hB849 := hB842.trans (Ext.stp hE846 hS839.base)
          have hS855 := hS847.f12
          obtain ⟨hg856, hm⟩ := hm
          refine wl_step rfl (q_append SL23 rfl rfl hS855 (oS.vw hS855.g1) hg856 (by decide)) ?_
          rintro _ w850 ⟨a851, c852, rfl, hS854, hb853⟩
          have hB857 := hB849.trans hb853
          have hS861 := hS854.f11
          refine wl_step rfl (q_storeB (i := 0) (bs' := #[.slice a851 (n707 + 1) c852]) (vs := [.slice a851 (n707 + 1) c852]) hS861 ON23.sz rfl rfl rfl (by simp [Value.oneCell']) (Nat.le_of_ble_eq_true rfl) rfl) ?_
          rintro _ w858 ⟨rfl, hS859, hb860⟩
          have hB862 := hB857.trans hb860
          refine wl_nil ?_
          refine hK843 _ _ ?_
          refine w_seq fun K863 hK863 => ?_
          refine w_region ?_
          refine wl_val (q_loadB (i := 0) (bs := #[.func (.func 91) #[] #[.pointer (some (⟨gq0, 0, none⟩ : Addr)), .pointer (some (⟨gq1, 0, none⟩ : Addr)), .pointer (some (⟨gq2, 0, none⟩ : Addr)), .pointer (some (⟨gq3, 0, none⟩ : Addr)), .pointer (some (⟨gq4, 0, none⟩ : Addr)), .pointer (some (⟨gq5, 0, none⟩ : Addr))]]) hS859.g7 ON86 rfl rfl) rfl ?_
          have hS864 := hS859.f5
          have hS865 := hS864.f12
          have hS866 := hS865.f7
          have hS867 := hS866.f8
          have hS868 := hS867.f7
          have hS869 := hS868.f9
          have hS870 := hS869.f10
          have hS871 := hS870.f11
          have hS872 := hS871.f12
          have hS873 := hS872.f10
          have hS874 := hS873.f10
          refine wl_step rfl (g_callvc (f := 91) (va := #[]) (cap := #[.pointer (some (⟨gq0, 0, none⟩ : Addr)), .pointer (some (⟨gq1, 0, none⟩ : Addr)), .pointer (some (⟨gq2, 0, none⟩ : Addr)), .pointer (some (⟨gq3, 0, none⟩ : Addr)), .pointer (some (⟨gq4, 0, none⟩ : Addr)), .pointer (some (⟨gq5, 0, none⟩ : Addr))]) (vs := #[.pointer (some (⟨gq0, 0, none⟩ : Addr)), .pointer (some (⟨gq1, 0, none⟩ : Addr)), .pointer (some (⟨gq2, 0, none⟩ : Addr)), .pointer (some (⟨gq3, 0, none⟩ : Addr)), .pointer (some (⟨gq4, 0, none⟩ : Addr)), .pointer (some (⟨gq5, 0, none⟩ : Addr))]) CF91 rfl args0 rfl (ih hS874 (hq1.bel hB862) (hq3.bel hB862) hm)) ?_
          rintro _ w875 ⟨r878, x879, a880, n881, c882, x883, a884, n885, c886, x887, a888, n889, c890, x891, hm, rfl, hb876, hS877⟩
          have hB892 := hB862.trans hb876
          refine wl_val (g_assign (v := .bool r878) rfl) rfl ?_
          refine wl_nil ?_
          refine hK863 _ _ ?_
          refine w_seq fun K893 hK893 => ?_
          refine w_region ?_
          refine wl_val (q_loadB (i := 0) (bs := #[.slice a880 n881 c882]) hS877.g0 ON23 rfl rfl) rfl ?_
          refine wl_val (q_loadB (i := 0) (bs := #[.slice a880 n881 c882]) hS877.g0 ON23 rfl rfl) rfl ?_
          refine wl_val (q_len SL23 rfl (Vw.len (oS.vw hS877.g1))) rfl ?_
          obtain ⟨hg894, hm⟩ := hm
          refine wl_val (g_sub (a := (x879.length : Int)) (b := 1) rfl rfl hg894) rfl ?_
          obtain ⟨hg895, hm⟩ := hm
          refine wl_val (q_sliceH (h := ((x879.length : Int) - 1)) SL23 rfl rfl (oS.vw hS877.g1) hg895) rfl ?_
          have hS899 := hS877.f1
          have hS900 := hS899.cut (Int.toNat ((x879.length : Int) - 1)) (tn_le hg895)
          have hS901 := hS900.f1
          refine wl_step rfl (q_storeB (i := 0) (bs' := #[.slice a880 (Int.toNat ((x879.length : Int) - 1)) c882]) (vs := [.slice a880 (Int.toNat ((x879.length : Int) - 1)) c882]) hS901 ON23.sz rfl rfl rfl (by simp [Value.oneCell']) (Nat.le_of_ble_eq_true rfl) rfl) ?_
          rintro _ w896 ⟨rfl, hS897, hb898⟩
          have hB902 := hB892.trans hb898
          refine wl_nil ?_
          refine hK893 _ _ ?_
          refine w_seq fun K903 hK903 => ?_
          refine w_region ?_
          refine wl_val (q_loadB (i := 0) (bs := #[.slice a884 n885 c886]) hS897.g5 ON23 rfl rfl) rfl ?_
          refine wl_val (g_move (v := .int .i64 v695) rfl) rfl ?_
          obtain ⟨hg904, hm⟩ := hm
          refine wl_val (q_index (i := v695) SL23 rfl rfl (oS.vw hS897.g6) hg904) rfl ?_
          refine wl_val (q_load (i := v695) (v := .int .i64 (x883[(Int.toNat v695)]!)) ON3 (oS.vw hS897.g6) hg904 rfl rfl) rfl ?_
          obtain ⟨hg905, hm⟩ := hm
          refine wl_val (g_add (a := x883[(Int.toNat v695)]!) (b := 1) rfl rfl hg905) rfl ?_
          obtain ⟨hg906, hm⟩ := hm
          refine wl_val (q_index (i := v695) SL23 rfl rfl (oS.vw hS897.g6) hg906) rfl ?_
          have hS910 := hS897.f6
          refine wl_step rfl (q_store (i := v695) (v := ((x883[(Int.toNat v695)]! + 1) : Int)) hS910 ON3.sz hg906 rfl rfl rfl) ?_
          rintro _ w907 ⟨rfl, hS908, hb909⟩
          have hB911 := hB902.trans hb909
          refine wl_nil ?_
          refine hK903 _ _ ?_
          refine w_seq fun K912 hK912 => ?_
          refine w_region ?_
          refine wl_val (g_move (v := .bool r878) rfl) rfl ?_
          refine wl_val (g_not (a := r878) rfl) rfl ?_
          refine wl_nil ?_
          refine hK912 _ _ ?_
          refine w_condI (p := ¬ (r878 = true)) (b := (!r878)) rfl (i_not Iff.rfl) (fun h913 => ?_) (fun h913 => ?_)
          · replace hm := hm.1 h913
            refine w_seq fun K914 hK914 => ?_
            refine w_region ?_
            refine wl_val (g_assign (v := .bool false) rfl) rfl ?_
            refine wl_nil ?_
            refine hK914 _ _ ?_
            refine w_ret ?_
            have hS915 := hS908.f11
            have hS916 := hS915.tail
            have hS917 := hS916.f11
            have hS918 := hS917.tail
            have hS919 := hS918.f10
            have hS920 := hS919.f10
            have hS921 := hS920.f10
            have hS922 := hS921.f10
            have hS923 := hS922.f4
            have hS924 := hS923.f10
            have hS925 := hS924.f10
            have hS926 := hS925.f10
            have hS927 := hS926.f10
            have hS928 := hS927.f10
            have hS929 := hS928.f10
            repeat first | with_reducible refine q_then ?_ | with_reducible refine q_block ?_
            exact ret1 rfl (by decide) ⟨_, _, _, _, _, _, _, _, _, _, _, _, _, _, hm, rfl, hB911, hS929⟩
          · replace hm := hm.2 h913
            refine w_skip ?_
            refine hK731 _ _ ?_
            refine w_region ?_
            obtain ⟨hg930, hm⟩ := hm
            refine wl_val (g_add (a := v695) (b := 1) rfl rfl hg930) rfl ?_
            refine wl_val (g_move (v := .int .i64 (v695 + 1)) rfl) rfl ?_
            refine wl_nil ?_
            have hS931 := hS908.f11
            have hS932 := hS931.tail
            have hS933 := hS932.f11
            have hS934 := hS933.tail
            have hS935 := hS934.f2
            have hS936 := hS935.f1
            have hS937 := hS936.f9
            have hS938 := hS937.f3
            have hS939 := hS938.f4
            have hS940 := hS939.f5
            have hS941 := hS940.f6
            have hS942 := hS941.f7
            have hS943 := hS942.f8
            have hS944 := hS943.f9
            have hS945 := hS944.f10
            exact ⟨((v695 + 1), x891, x887, a888, n889, c890, (x883.set (Int.toNat v695) (x883[(Int.toNat v695)]! + 1)), a884, n885, c886, (x879.take (Int.toNat ((x879.length : Int) - 1))), a880, (Int.toNat ((x879.length : Int) - 1)), c882), hm.2, ⟨rfl, rfl, rfl, rfl, rfl, rfl, rfl, trivial⟩, ⟨hm.1, hB911, hS945⟩⟩
      · replace hm := hm.2 h730
        refine w_exit ?_
        exact ⟨(v696, x697, a698, n699, c700, x701, a702, n703, c704, x705, a706, n707, c708), trivial, ⟨hm, hB725, hS726⟩⟩
    · rintro ⟨v680, x681, a682, n683, c684, x685, a686, n687, c688, x689, a690, n691, c692⟩ b_ w946 ⟨hm, hB947, hS948⟩
      show Wp _ _ _ _ (upds b_ []) w946
      refine w_seq fun K949 hK949 => ?_
      refine w_region ?_
      refine wl_val (g_assign (v := .bool true) rfl) rfl ?_
      refine wl_nil ?_
      refine hK949 _ _ ?_
      refine w_ret ?_
      have hS950 := hS948.f8
      have hS951 := hS950.f2
      have hS952 := hS951.f3
      have hS953 := hS952.f9
      have hS954 := hS953.f5
      have hS955 := hS954.f6
      have hS956 := hS955.f7
      have hS957 := hS956.f8
      have hS958 := hS957.f10
      have hS959 := hS958.f10
      repeat first | with_reducible refine q_then ?_ | with_reducible refine q_block ?_
      exact ret1 rfl (by decide) ⟨_, _, _, _, _, _, _, _, _, _, _, _, _, _, hm, rfl, hB947, hS959⟩
theorem m_impl_castings_1_FirstCasting_1_fn : ∀ (f_ : Nat) {w : World} {B_ : Nat} {L_ : List Ob} {gq0 : Nat} {aq0 : Option Addr} {nq0 cq0 : Nat} {q0 : List Int} {gq1 : Nat} {aq1 : Option Addr} {nq1 cq1 : Nat} {q1 : List Int} {gq2 : Nat} {gq3 : Nat} {aq3 : Option Addr} {nq3 cq3 : Nat} {yq3 : List PlayerD} {q3 : List PlayerC} {gq4 : Nat} {aq4 : Option Addr} {nq4 cq4 : Nat} {q4 : List Int} {gq5 : Nat} {gq2_0 : Nat} {aq2_0 : Option Addr} {nq2_0 cq2_0 : Nat} {q2_0 : List Int} {gq2_1 : Nat} {q2_1 : Bool} {Q : Bool → (List Int) → (List Int) → (List Int) → Bool → Prop} (hS0 : Sep w B_ (oB gq0 23 #[.slice aq0 nq0 cq0] :: oS 3 aq0 nq0 cq0 (q0 : List Int) :: oB gq1 23 #[.slice aq1 nq1 cq1] :: oB gq2 67 #[.func (.func 63) #[] #[.pointer (some (⟨gq2_0, 0, none⟩ : Addr)), .pointer (some (⟨gq2_1, 0, none⟩ : Addr))]] :: oB gq3 27 #[.slice aq3 nq3 cq3] :: oB gq4 23 #[.slice aq4 nq4 cq4] :: oS 3 aq4 nq4 cq4 (q4 : List Int) :: oB gq5 86 #[.func (.func 91) #[] #[.pointer (some (⟨gq0, 0, none⟩ : Addr)), .pointer (some (⟨gq1, 0, none⟩ : Addr)), .pointer (some (⟨gq2, 0, none⟩ : Addr)), .pointer (some (⟨gq3, 0, none⟩ : Addr)), .pointer (some (⟨gq4, 0, none⟩ : Addr)), .pointer (some (⟨gq5, 0, none⟩ : Addr))]] :: oB gq2_0 23 #[.slice aq2_0 nq2_0 cq2_0] :: oS 3 aq2_0 nq2_0 cq2_0 (q2_0 : List Int) :: oB gq2_1 4 #[.bool q2_1] :: L_)) (hq1 : Vw B_ w aq1 nq1 cq1 q1) (hq3 : Tv B_ w aq3 nq3 cq3 yq3 q3) (hm : m_impl_castings_1_FirstCasting_1 f_ q0 q1 q3 q4 q2_0 q2_1 Q), Fn Try.prog 91 #[.pointer (some (⟨gq0, 0, none⟩ : Addr)), .pointer (some (⟨gq1, 0, none⟩ : Addr)), .pointer (some (⟨gq2, 0, none⟩ : Addr)), .pointer (some (⟨gq3, 0, none⟩ : Addr)), .pointer (some (⟨gq4, 0, none⟩ : Addr)), .pointer (some (⟨gq5, 0, none⟩ : Addr))] w (fun v w' => ∃ (r0 : Bool) (x0 : List Int) (aa0 : Option Addr) (nn0 cc0 : Nat) (x1 : List Int) (aa1 : Option Addr) (nn1 cc1 : Nat) (x2 : List Int) (aa2 : Option Addr) (nn2 cc2 : Nat) (x3 : Bool), Q r0 x0 x1 x2 x3 ∧ v = .bool r0 ∧ Below B_ w w' ∧ Sep w' B_ (oB gq0 23 #[.slice aa0 nn0 cc0] :: oS 3 aa0 nn0 cc0 x0 :: oB gq1 23 #[.slice aq1 nq1 cq1] :: oB gq2 67 #[.func (.func 63) #[] #[.pointer (some (⟨gq2_0, 0, none⟩ : Addr)), .pointer (some (⟨gq2_1, 0, none⟩ : Addr))]] :: oB gq3 27 #[.slice aq3 nq3 cq3] :: oB gq4 23 #[.slice aa1 nn1 cc1] :: oS 3 aa1 nn1 cc1 x1 :: oB gq5 86 #[.func (.func 91) #[] #[.pointer (some (⟨gq0, 0, none⟩ : Addr)), .pointer (some (⟨gq1, 0, none⟩ : Addr)), .pointer (some (⟨gq2, 0, none⟩ : Addr)), .pointer (some (⟨gq3, 0, none⟩ : Addr)), .pointer (some (⟨gq4, 0, none⟩ : Addr)), .pointer (some (⟨gq5, 0, none⟩ : Addr))]] :: oB gq2_0 23 #[.slice aa2 nn2 cc2] :: oS 3 aa2 nn2 cc2 x2 :: oB gq2_1 4 #[.bool x3] :: L_)) := by
  intro f_
  induction f_ with
  | zero =>
    intro w B_ L_ gq0 aq0 nq0 cq0 q0 gq1 aq1 nq1 cq1 q1 gq2 gq3 aq3 nq3 cq3 yq3 q3 gq4 aq4 nq4 cq4 q4 gq5 gq2_0 aq2_0 nq2_0 cq2_0 q2_0 gq2_1 q2_1 Q hS0 hq1 hq3 hm
    exact False.elim hm
  | succ f_ ih =>
    intro w B_ L_ gq0 aq0 nq0 cq0 q0 gq1 aq1 nq1 cq1 q1 gq2 gq3 aq3 nq3 cq3 yq3 q3 gq4 aq4 nq4 cq4 q4 gq5 gq2_0 aq2_0 nq2_0 cq2_0 q2_0 gq2_1 q2_1 Q hS0 hq1 hq3 hm
    exact m_impl_castings_1_FirstCasting_1_step_fn @ih hS0 hq1 hq3 hm

theorem m_impl_castings_FirstCasting_1_fn {w : World} {B_ : Nat} {L_ : List Ob} {a0 : Option Addr} {n0 c0 : Nat} {y0 : List PlayerD} {p0 : List PlayerC} {a1 : Option Addr} {n1 c1 : Nat} {p1 : List Int} {gp2_0 : Nat} {ap2_0 : Option Addr} {np2_0 cp2_0 : Nat} {p2_0 : List Int} {gp2_1 : Nat} {p2_1 : Bool} {Q : (List Int) → Bool → Prop} (hS0 : Sep w B_ (oB gp2_0 23 #[.slice ap2_0 np2_0 cp2_0] :: oS 3 ap2_0 np2_0 cp2_0 (p2_0 : List Int) :: oB gp2_1 4 #[.bool p2_1] :: L_)) (hp0 : Tv B_ w a0 n0 c0 y0 p0) (hp1 : Vw B_ w a1 n1 c1 p1) (hm : m_impl_castings_FirstCasting_1 p0 p1 p2_0 p2_1 Q) :
    Fn Try.prog 62 #[.slice a0 n0 c0, .slice a1 n1 c1, .func (.func 63) #[] #[.pointer (some (⟨gp2_0, 0, none⟩ : Addr)), .pointer (some (⟨gp2_1, 0, none⟩ : Addr))]] w (fun v w' => ∃ (x0 : List Int) (aa0 : Option Addr) (nn0 cc0 : Nat) (x1 : Bool), Q x0 x1 ∧ v = .tuple #[] ∧ Below B_ w w' ∧ Sep w' B_ (oB gp2_0 23 #[.slice aa0 nn0 cc0] :: oS 3 aa0 nn0 cc0 x0 :: oB gp2_1 4 #[.bool x1] :: L_)) := by
  unfold m_impl_castings_FirstCasting_1 at hm
  have hB0 := Below.refl B_ w
  refine fn_of_wp Try.func62 rfl (by kernel_rfl) (Nat.le_of_ble_eq_true rfl) ?_
  refine w_seq fun K4 hK4 => ?_
  refine w_region ?_
  refine wl_step rfl (q_box (cs := #[.slice a0 n0 c0]) rfl rfl hS0) ?_
  rintro _ w5 ⟨g6, rfl, hS8, hE7⟩
  have hB10 := hB0.trans (Ext.stp hE7 hS0.base)
  refine wl_step rfl (q_box (cs := #[.slice a1 n1 c1]) rfl rfl hS8) ?_
  rintro _ w11 ⟨g12, rfl, hS14, hE13⟩
  have hB16 := hB10.trans (Ext.stp hE13 hS8.base)
  refine wl_step rfl (q_box (cs := #[.func (.func 63) #[] #[.pointer (some (⟨gp2_0, 0, none⟩ : Addr)), .pointer (some (⟨gp2_1, 0, none⟩ : Addr))]]) rfl rfl hS14) ?_
  rintro _ w17 ⟨g18, rfl, hS20, hE19⟩
  have hB22 := hB16.trans (Ext.stp hE19 hS14.base)
  refine wl_nil ?_
  refine hK4 _ _ ?_
  refine w_seq fun K23 hK23 => ?_
  refine w_region ?_
  refine wl_step rfl (q_lit0 (α := Int) rfl SL23 hS20) ?_
  rintro _ w24 ⟨a25, rfl, hS27, hE26⟩
  have hB29 := hB22.trans (Ext.stp hE26 hS20.base)
  refine wl_step rfl (q_lit0 (α := Int) rfl SL23 hS27) ?_
  rintro _ w30 ⟨a31, rfl, hS33, hE32⟩
  have hB35 := hB29.trans (Ext.stp hE32 hS27.base)
  refine wl_step rfl (q_alloc (cs := #[.slice none 0 0]) ZR23 rfl hS33) ?_
  rintro _ w36 ⟨g37, rfl, hS39, hE38⟩
  have hB41 := hB35.trans (Ext.stp hE38 hS33.base)
  refine wl_step rfl (q_alloc (cs := #[.slice none 0 0]) ZR23 rfl hS39) ?_
  rintro _ w42 ⟨g43, rfl, hS45, hE44⟩
  have hB47 := hB41.trans (Ext.stp hE44 hS39.base)
  have hS51 := hS45.f1
  refine wl_step rfl (q_storeB (i := 0) (bs' := #[.slice a25 0 0]) (vs := [.slice a25 0 0]) hS51 ON23.sz rfl rfl rfl (by simp [Value.oneCell']) (Nat.le_of_ble_eq_true rfl) rfl) ?_
  rintro _ w48 ⟨rfl, hS49, hb50⟩
  have hB52 := hB47.trans hb50
  have hS56 := hS49.f1
  refine wl_step rfl (q_storeB (i := 0) (bs' := #[.slice a31 0 0]) (vs := [.slice a31 0 0]) hS56 ON23.sz rfl rfl rfl (by simp [Value.oneCell']) (Nat.le_of_ble_eq_true rfl) rfl) ?_
  rintro _ w53 ⟨rfl, hS54, hb55⟩
  have hB57 := hB52.trans hb55
  refine wl_nil ?_
  refine hK23 _ _ ?_
  refine w_cut (σ := List Int × Option Addr × Nat × Nat) (fun ⟨x187, a188, n189, c190⟩ => [(3, .pointer (some (⟨g6, 0, none⟩ : Addr))), (4, .pointer (some (⟨g12, 0, none⟩ : Addr))), (5, .pointer (some (⟨g18, 0, none⟩ : Addr))), (6, .pointer (some (⟨g37, 0, none⟩ : Addr))), (7, .pointer (some (⟨g43, 0, none⟩ : Addr)))]) (fun ⟨x187, a188, n189, c190⟩ w' => m_impl_castings_FirstCasting_1_K0 p0 p1 p2_0 p2_1 Q x187 ∧ Below B_ w w' ∧ Sep w' B_ (oB gp2_1 4 #[.bool p2_1] :: oB gp2_0 23 #[.slice ap2_0 np2_0 cp2_0] :: oB g6 27 #[.slice a0 n0 c0] :: oB g12 23 #[.slice a1 n1 c1] :: oB g18 67 #[.func (.func 63) #[] #[.pointer (some (⟨gp2_0, 0, none⟩ : Addr)), .pointer (some (⟨gp2_1, 0, none⟩ : Addr))]] :: oB g37 23 #[.slice a188 n189 c190] :: oB g43 23 #[.slice a31 0 0] :: oS 3 ap2_0 np2_0 cp2_0 (p2_0 : List Int) :: oS 3 a188 n189 c190 (x187 : List Int) :: oS 3 a31 0 0 ([] : List Int) :: L_)) ?_ ?_
  · refine w_seq fun K192 hK192 => ?_
    refine w_region ?_
    refine wl_val (q_loadB (i := 0) (bs := #[.slice a0 n0 c0]) hS54.g6 ON27 rfl rfl) rfl ?_
    refine wl_val (q_len SL27 rfl (Tv.len (hp0.bel hB57))) rfl ?_
    refine wl_val (g_move (v := .int .i64 0) rfl) rfl ?_
    refine wl_nil ?_
    refine hK192 _ _ ?_
    refine w_block ?_
    have hS198 := hS54.f2
    have hS199 := hS198.f3
    have hS200 := hS199.f8
    have hS201 := hS200.f3
    have hS202 := hS201.f4
    have hS203 := hS202.f5
    have hS204 := hS203.f6
    have hS205 := hS204.f7
    have hS206 := hS205.f8
    have hS207 := hS206.f9
    obtain ⟨I208, μ209, h0210, hr211⟩ := hm
    refine w_for (σ := Int × List Int × Option Addr × Nat × Nat) (fun ⟨v193, x194, a195, n196, c197⟩ => [(3, .pointer (some (⟨g6, 0, none⟩ : Addr))), (4, .pointer (some (⟨g12, 0, none⟩ : Addr))), (5, .pointer (some (⟨g18, 0, none⟩ : Addr))), (6, .pointer (some (⟨g37, 0, none⟩ : Addr))), (7, .pointer (some (⟨g43, 0, none⟩ : Addr))), (13, .slice a0 n0 c0), (14, .int .i64 (p0.length : Int)), (15, .int .i64 v193)]) (fun ⟨v193, x194, a195, n196, c197⟩ w' => I208 v193 x194 ∧ Below B_ w w' ∧ Sep w' B_ (oB gp2_1 4 #[.bool p2_1] :: oB gp2_0 23 #[.slice ap2_0 np2_0 cp2_0] :: oB g6 27 #[.slice a0 n0 c0] :: oB g12 23 #[.slice a1 n1 c1] :: oB g18 67 #[.func (.func 63) #[] #[.pointer (some (⟨gp2_0, 0, none⟩ : Addr)), .pointer (some (⟨gp2_1, 0, none⟩ : Addr))]] :: oB g37 23 #[.slice a195 n196 c197] :: oB g43 23 #[.slice a31 0 0] :: oS 3 ap2_0 np2_0 cp2_0 (p2_0 : List Int) :: oS 3 a195 n196 c197 (x194 : List Int) :: oS 3 a31 0 0 ([] : List Int) :: L_)) (fun ⟨v193, x194, a195, n196, c197⟩ => μ209 v193 x194) (0, [], a25, 0, 0) ⟨rfl, rfl, rfl, rfl, rfl, rfl, rfl, rfl, trivial⟩ ⟨h0210, hB57, hS207⟩ ?_
    rintro ⟨v193, x194, a195, n196, c197⟩ b_ w212 ⟨hi_, hB213, hS214⟩
    show Wp _ _ _ _ (upds b_ [(3, .pointer (some (⟨g6, 0, none⟩ : Addr))), (4, .pointer (some (⟨g12, 0, none⟩ : Addr))), (5, .pointer (some (⟨g18, 0, none⟩ : Addr))), (6, .pointer (some (⟨g37, 0, none⟩ : Addr))), (7, .pointer (some (⟨g43, 0, none⟩ : Addr))), (13, .slice a0 n0 c0), (14, .int .i64 (p0.length : Int)), (15, .int .i64 v193)]) w212
    have hm := hr211 v193 x194 hi_
    refine w_seq fun K216 hK216 => ?_
    refine w_region ?_
    refine wl_val (g_lss (a := v193) (b := (p0.length : Int)) rfl rfl) rfl ?_
    refine wl_nil ?_
    refine hK216 _ _ ?_
    refine w_seq fun K217 hK217 => ?_
    refine w_condI (p := v193 < (p0.length : Int)) (b := (decide (v193 < (p0.length : Int)))) rfl decide_eq_true_iff (fun h218 => ?_) (fun h218 => ?_)
    · replace hm := hm.1 h218
      refine w_skip ?_
      refine hK217 _ _ ?_
      refine w_seq fun K219 hK219 => ?_
      refine w_block ?_
      refine w_seq fun K220 hK220 => ?_
      refine w_region ?_
      obtain ⟨hg221, hm⟩ := hm
      refine wl_val (q_index (i := v193) SL27 rfl rfl (Tv.o (hp0.bel hB213)) (Tv.g (hp0.bel hB213) hg221)) rfl ?_
      refine wl_val (q_loadS (i := v193) (cs := [.slice ((y0[(Int.toNat v193)]!).1.1) ((y0[(Int.toNat v193)]!).1.2.2.length) ((y0[(Int.toNat v193)]!).1.2.1), .int .i64 (p0[(Int.toNat v193)]!.2)]) AG54 (Tv.o (hp0.bel hB213)) (Tv.g (hp0.bel hB213) hg221) (by rw [← Tv.free (hp0.bel hB213) hg221]; rfl) rfl) rfl ?_
      refine wl_step rfl (q_alloc (cs := #[.slice none 0 0, .int .i64 0]) ZR54 rfl hS214) ?_
      rintro _ w222 ⟨g223, rfl, hS225, hE224⟩
      have hB227 := hB213.trans (Ext.stp hE224 hS214.base)
      refine wl_step rfl (q_storeB (i := 0) (bs' := #[.slice ((y0[(Int.toNat v193)]!).1.1) ((y0[(Int.toNat v193)]!).1.2.2.length) ((y0[(Int.toNat v193)]!).1.2.1), .int .i64 (p0[(Int.toNat v193)]!.2)]) (vs := [.slice ((y0[(Int.toNat v193)]!).1.1) ((y0[(Int.toNat v193)]!).1.2.2.length) ((y0[(Int.toNat v193)]!).1.2.1), .int .i64 (p0[(Int.toNat v193)]!.2)]) hS225 AG54.sz rfl rfl rfl (by simp [Value.oneCell']) (Nat.le_of_ble_eq_true rfl) rfl) ?_
      rintro _ w228 ⟨rfl, hS229, hb230⟩
      have hB231 := hB227.trans hb230
      refine wl_nil ?_
      refine hK220 _ _ ?_
      refine w_region ?_
      refine wl_val (q_loadB (i := 0) (bs := #[.slice a195 n196 c197]) hS229.g6 ON23 rfl rfl) rfl ?_
      refine wl_val (g_fieldAddr (q := (⟨g223, 0, none⟩ : Addr)) FL54_1 ON3 rfl) rfl ?_
      refine wl_val (q_loadB (i := 1) (bs := #[.slice ((y0[(Int.toNat v193)]!).1.1) ((y0[(Int.toNat v193)]!).1.2.2.length) ((y0[(Int.toNat v193)]!).1.2.1), .int .i64 (p0[(Int.toNat v193)]!.2)]) hS229.g0 ON3 rfl rfl) rfl ?_
      refine wl_step rfl (q_lit1 (y := (p0[(Int.toNat v193)]!.2 : Int)) SL23 rfl rfl (by decide) hS229) ?_
      rintro _ w232 ⟨a233, rfl, hS235, hE234⟩
      have hB237 := hB231.trans (Ext.stp hE234 hS229.base)
      have hS243 := hS235.f10
      obtain ⟨hg244, hm⟩ := hm
      refine wl_step rfl (q_append SL23 rfl rfl hS243 (oS.vw hS243.g1) hg244 (by decide)) ?_
      rintro _ w238 ⟨a239, c240, rfl, hS242, hb241⟩
      have hB245 := hB237.trans hb241
      have hS249 := hS242.f8
      refine wl_step rfl (q_storeB (i := 0) (bs' := #[.slice a239 (n196 + 1) c240]) (vs := [.slice a239 (n196 + 1) c240]) hS249 ON23.sz rfl rfl rfl (by simp [Value.oneCell']) (Nat.le_of_ble_eq_true rfl) rfl) ?_
      rintro _ w246 ⟨rfl, hS247, hb248⟩
      have hB250 := hB245.trans hb248
      refine wl_nil ?_
      refine hK219 _ _ ?_
      refine w_region ?_
      obtain ⟨hg251, hm⟩ := hm
      refine wl_val (g_add (a := v193) (b := 1) rfl rfl hg251) rfl ?_
      refine wl_val (g_move (v := .int .i64 (v193 + 1)) rfl) rfl ?_
      refine wl_nil ?_
      have hS252 := hS247.f2
      have hS253 := hS252.tail
      have hS254 := hS253.f2
      have hS255 := hS254.tail
      have hS256 := hS255.f9
      have hS257 := hS256.f2
      have hS258 := hS257.f9
      have hS259 := hS258.f9
      have hS260 := hS259.f4
      have hS261 := hS260.f9
      have hS262 := hS261.f9
      have hS263 := hS262.f9
      have hS264 := hS263.f9
      have hS265 := hS264.f9
      exact ⟨((v193 + 1), (x194 ++ ([p0[(Int.toNat v193)]!.2])), a239, (n196 + 1), c240), hm.2, ⟨rfl, rfl, rfl, rfl, rfl, rfl, rfl, rfl, trivial⟩, ⟨hm.1, hB250, hS265⟩⟩
    · replace hm := hm.2 h218
      refine w_exit ?_
      exact ⟨(x194, a195, n196, c197), ⟨rfl, rfl, rfl, rfl, rfl, trivial⟩, ⟨hm, hB213, hS214⟩⟩
  · rintro ⟨x187, a188, n189, c190⟩ b_ w266 ⟨hm, hB267, hS268⟩
    show Wp _ _ _ _ (upds b_ [(3, .pointer (some (⟨g6, 0, none⟩ : Addr))), (4, .pointer (some (⟨g12, 0, none⟩ : Addr))), (5, .pointer (some (⟨g18, 0, none⟩ : Addr))), (6, .pointer (some (⟨g37, 0, none⟩ : Addr))), (7, .pointer (some (⟨g43, 0, none⟩ : Addr)))]) w266
    refine w_seq fun K269 hK269 => ?_
    refine w_region ?_
    refine wl_step rfl (q_alloc (cs := #[.nilFunc]) ZR86 rfl hS268) ?_
    rintro _ w270 ⟨g271, rfl, hS273, hE272⟩
    have hB275 := hB267.trans (Ext.stp hE272 hS268.base)
    refine wl_nil ?_
    refine hK269 _ _ ?_
    refine w_seq fun K276 hK276 => ?_
    refine w_region ?_
    refine wl_val (g_makeFunc (vs := #[.pointer (some (⟨g43, 0, none⟩ : Addr)), .pointer (some (⟨g12, 0, none⟩ : Addr)), .pointer (some (⟨g18, 0, none⟩ : Addr)), .pointer (some (⟨g6, 0, none⟩ : Addr)), .pointer (some (⟨g37, 0, none⟩ : Addr)), .pointer (some (⟨g271, 0, none⟩ : Addr))]) (args6 rfl rfl rfl rfl rfl rfl)) rfl ?_
    refine wl_step rfl (q_storeB (i := 0) (bs' := #[.func (.func 91) #[] #[.pointer (some (⟨g43, 0, none⟩ : Addr)), .pointer (some (⟨g12, 0, none⟩ : Addr)), .pointer (some (⟨g18, 0, none⟩ : Addr)), .pointer (some (⟨g6, 0, none⟩ : Addr)), .pointer (some (⟨g37, 0, none⟩ : Addr)), .pointer (some (⟨g271, 0, none⟩ : Addr))]]) (vs := [.func (.func 91) #[] #[.pointer (some (⟨g43, 0, none⟩ : Addr)), .pointer (some (⟨g12, 0, none⟩ : Addr)), .pointer (some (⟨g18, 0, none⟩ : Addr)), .pointer (some (⟨g6, 0, none⟩ : Addr)), .pointer (some (⟨g37, 0, none⟩ : Addr)), .pointer (some (⟨g271, 0, none⟩ : Addr))]]) hS273 ON86.sz rfl rfl rfl (by simp [Value.oneCell']) (Nat.le_of_ble_eq_true rfl) rfl) ?_
    rintro _ w277 ⟨rfl, hS278, hb279⟩
    have hB280 := hB275.trans hb279
    refine wl_nil ?_
    refine hK276 _ _ ?_
    refine w_region ?_
    refine wl_val (q_loadB (i := 0) (bs := #[.func (.func 91) #[] #[.pointer (some (⟨g43, 0, none⟩ : Addr)), .pointer (some (⟨g12, 0, none⟩ : Addr)), .pointer (some (⟨g18, 0, none⟩ : Addr)), .pointer (some (⟨g6, 0, none⟩ : Addr)), .pointer (some (⟨g37, 0, none⟩ : Addr)), .pointer (some (⟨g271, 0, none⟩ : Addr))]]) hS278.g0 ON86 rfl rfl) rfl ?_
    have hS281 := hS278.f1
    have hS282 := hS281.f8
    have hS283 := hS282.f3
    have hS284 := hS283.f3
    have hS285 := hS284.f9
    have hS286 := hS285.f8
    have hS287 := hS286.f6
    have hS288 := hS287.f8
    have hS289 := hS288.f8
    have hS290 := hS289.f10
    have hS291 := hS290.f10
    obtain ⟨f292, hm⟩ := hm
    refine wl_step rfl (g_callvc (f := 91) (va := #[]) (cap := #[.pointer (some (⟨g43, 0, none⟩ : Addr)), .pointer (some (⟨g12, 0, none⟩ : Addr)), .pointer (some (⟨g18, 0, none⟩ : Addr)), .pointer (some (⟨g6, 0, none⟩ : Addr)), .pointer (some (⟨g37, 0, none⟩ : Addr)), .pointer (some (⟨g271, 0, none⟩ : Addr))]) (vs := #[.pointer (some (⟨g43, 0, none⟩ : Addr)), .pointer (some (⟨g12, 0, none⟩ : Addr)), .pointer (some (⟨g18, 0, none⟩ : Addr)), .pointer (some (⟨g6, 0, none⟩ : Addr)), .pointer (some (⟨g37, 0, none⟩ : Addr)), .pointer (some (⟨g271, 0, none⟩ : Addr))]) CF91 rfl args0 rfl (m_impl_castings_1_FirstCasting_1_fn f292 hS291 (hp1.bel hB280) (hp0.bel hB280) hm)) ?_
    rintro _ w293 ⟨r296, x297, a298, n299, c300, x301, a302, n303, c304, x305, a306, n307, c308, x309, hm, rfl, hb294, hS295⟩
    have hB310 := hB280.trans hb294
    refine wl_nil ?_
    have hS311 := hS295.tail
    have hS312 := hS311.tail
    have hS313 := hS312.tail
    have hS314 := hS313.tail
    have hS315 := hS314.tail
    have hS316 := hS315.tail
    have hS317 := hS316.tail
    have hS318 := hS317.tail
    repeat first | with_reducible refine q_then ?_ | with_reducible refine q_block ?_
    exact ret0n rfl ⟨_, _, _, _, _, hm, rfl, hB310, hS318⟩

theorem m_impl_FirstCasting_fn {w : World} {a0 : Option Addr} {n0 c0 : Nat} {y0 : List PlayerD} {p0 : List PlayerC} {a1 : Option Addr} {n1 c1 : Nat} {p1 : List Int} {Q : (List Int) → Bool → Prop} (hp0 : Tv w.heap.size w a0 n0 c0 y0 p0) (hp1 : Vw w.heap.size w a1 n1 c1 p1) (hm : m_impl_FirstCasting p0 p1 Q) :
    Fn Try.prog 16 #[.slice a0 n0 c0, .slice a1 n1 c1] w (fun v w' => ∃ (r0 : List Int) (a0 : Option Addr) (n0 c0 : Nat) (r1 : Bool), Q r0 r1 ∧ v = .tuple #[.slice a0 n0 c0, .bool r1] ∧ Ext w w' ∧ Sep w' w.heap.size [oS 3 a0 n0 c0 r0]) := by
  unfold m_impl_FirstCasting at hm
  have hB0 := Below.refl w.heap.size w
  have hS0 : Sep w w.heap.size [] := Sep.nil (Nat.le_refl _)
  refine fn_of_wp Try.func16 rfl (by kernel_rfl) (Nat.le_of_ble_eq_true rfl) ?_
  refine w_seq fun K1 hK1 => ?_
  refine w_region ?_
  refine wl_val (g_assign (v := .slice none 0 0) rfl) rfl ?_
  refine wl_val (g_assign (v := .bool false) rfl) rfl ?_
  refine wl_nil ?_
  refine hK1 _ _ ?_
  refine w_seq fun K2 hK2 => ?_
  refine w_seq fun K3 hK3 => ?_
  refine w_region ?_
  refine wl_val (g_move (v := .slice a0 n0 c0) rfl) rfl ?_
  refine wl_step rfl (g_call (vs := #[.slice a0 n0 c0]) CF44 (args1 rfl) (m_impl_PlayersOk_fn ((hp0.bel hB0).up hS0) hm)) ?_
  rintro _ w4 ⟨r7, hm, rfl, hE5⟩
  have hB8 := hB0.trans (Ext.stp hE5 hS0.base)
  have hS9 := hS0.ext hE5
  refine wl_val (g_not (a := r7) rfl) rfl ?_
  refine wl_val (g_move (v := .bool (!r7)) rfl) rfl ?_
  refine wl_guard (c := (!r7) = false) (val := .slice a1 n1 c1) (b := ((!r7) == false)) (gv_some rfl rfl rfl) beq_iff_eq (fun hc10 => ?_) ?_
  · have hcq0 : ¬ (¬ (r7 = true)) := (i_neg (i_not Iff.rfl) hc10)
    exact g_move (v := .slice a1 n1 c1) rfl
  obtain ⟨r12, hk13, hm⟩ := hm
  refine wl_guardE (X := Ext) (c := (!r7) = false) (val := .bool r12) (Ext.refl _) (b := ((!r7) == false)) (gv_some rfl rfl rfl) beq_iff_eq (fun hc11 => ?_) (fun w14 hE15 => ?_)
  · have hcq0 : ¬ (¬ (r7 = true)) := (i_neg (i_not Iff.rfl) hc11)
    exact (g_call (vs := #[.slice a1 n1 c1]) CF61 (args1 (if_pos hc11)) ((m_impl_arePuppets_fn ((hp1.bel hB8).up hS9) (hk13 hcq0)).mono fun _ _ ⟨_, h1, h2, h3⟩ => ⟨by rw [h2, h1], h3⟩))
  have hB16 := hB8.trans (Ext.stp hE15 hS9.base)
  have hS17 := hS9.ext hE15
  refine wl_guard (c := (!r7) = false) (val := .bool (!r12)) (b := ((!r7) == false)) (gv_some rfl rfl rfl) beq_iff_eq (fun hc18 => ?_) ?_
  · have hcq0 : ¬ (¬ (r7 = true)) := (i_neg (i_not Iff.rfl) hc18)
    exact g_not (a := r12) (if_pos hc18)
  refine wl_val (g_pick_or (b := (!r7)) (q := (!r12)) rfl rfl) rfl ?_
  refine wl_nil ?_
  refine hK3 _ _ ?_
  refine w_condI (p := ((¬ (r7 = true)) ∨ (¬ (r12 = true)))) (b := ((!r7) || (!r12))) rfl (i_or (i_not Iff.rfl) (i_not Iff.rfl)) (fun h19 => ?_) (fun h19 => ?_)
  · replace hm := hm.1 h19
    refine w_seq fun K20 hK20 => ?_
    refine w_region ?_
    refine wl_val (g_assign (v := .slice none 0 0) rfl) rfl ?_
    refine wl_val (g_assign (v := .bool false) rfl) rfl ?_
    refine wl_nil ?_
    refine hK20 _ _ ?_
    refine w_ret ?_
    have hS21 := hS17.nilS (α := Int) (E := 3)
    repeat first | with_reducible refine q_then ?_ | with_reducible refine q_block ?_
    exact ret2 rfl (by decide) (by decide) ⟨_, _, _, _, _, hm, rfl, toExt hB16, hS21⟩
  · replace hm := hm.2 h19
    refine w_skip ?_
    refine hK2 _ _ ?_
    refine w_seq fun K23 hK23 => ?_
    refine w_region ?_
    refine wl_step rfl (q_alloc (cs := #[.slice none 0 0]) ZR23 rfl hS17) ?_
    rintro _ w24 ⟨g25, rfl, hS27, hE26⟩
    have hB29 := hB16.trans (Ext.stp hE26 hS17.base)
    refine wl_nil ?_
    refine hK23 _ _ ?_
    refine w_seq fun K30 hK30 => ?_
    refine w_region ?_
    refine wl_step rfl (q_alloc (cs := #[.bool false]) ZR4 rfl hS27) ?_
    rintro _ w31 ⟨g32, rfl, hS34, hE33⟩
    have hB36 := hB29.trans (Ext.stp hE33 hS27.base)
    refine wl_step rfl (q_storeB (i := 0) (bs' := #[.bool false]) (vs := [.bool false]) hS34 ON4.sz rfl rfl rfl (by simp [Value.oneCell']) (Nat.le_of_ble_eq_true rfl) rfl) ?_
    rintro _ w37 ⟨rfl, hS38, hb39⟩
    have hB40 := hB36.trans hb39
    refine wl_nil ?_
    refine hK30 _ _ ?_
    refine w_seq fun K41 hK41 => ?_
    refine w_region ?_
    refine wl_val (g_move (v := .slice a0 n0 c0) rfl) rfl ?_
    refine wl_val (g_move (v := .slice a1 n1 c1) rfl) rfl ?_
    refine wl_val (g_makeFunc (vs := #[.pointer (some (⟨g25, 0, none⟩ : Addr)), .pointer (some (⟨g32, 0, none⟩ : Addr))]) (args2 rfl rfl)) rfl ?_
    have hS42 := hS38.nilS (α := Int) (E := 3)
    have hS44 := hS42.f1
    have hS45 := hS44.f1
    have hS46 := hS45.f2
    refine wl_step rfl (g_call (vs := #[.slice a0 n0 c0, .slice a1 n1 c1, .func (.func 63) #[] #[.pointer (some (⟨g25, 0, none⟩ : Addr)), .pointer (some (⟨g32, 0, none⟩ : Addr))]]) CF62 (args3 rfl rfl rfl) (m_impl_castings_FirstCasting_1_fn hS46 (hp0.bel hB40) (hp1.bel hB40) hm)) ?_
    rintro _ w47 ⟨x50, a51, n52, c53, x54, hm, rfl, hb48, hS49⟩
    have hB55 := hB40.trans hb48
    refine wl_nil ?_
    refine hK41 _ _ ?_
    refine w_seq fun K56 hK56 => ?_
    refine w_draw (X := Ext) (Y := Ext) [] MIX (by decide +kernel) rfl Ext.refl (fun _ _ _ => Ext.trans) (fun _ _ _ => Chg.trans) (fun _ _ h => Ext.chg h _) (fun w57 hE58 => ?_)
    have hB59 := hB55.trans (Ext.stp hE58 hS49.base)
    have hS60 := hS49.ext hE58
    refine ⟨.slice a51 n52 c53, fun w61 hX62 => od_plain rfl (by have hS63 := hS60.ext hX62; have hB64 := hB59.trans (Ext.stp hX62 hS60.base); exact is_ext (q_loadB (i := 0) (bs := #[.slice a51 n52 c53]) hS63.g0 ON23 rfl rfl)), ?_⟩
    refine ⟨.bool x54, fun w65 hX66 => od_plain rfl (by have hS67 := hS60.ext hX66; have hB68 := hB59.trans (Ext.stp hX66 hS60.base); exact is_ext (q_loadB (i := 0) (bs := #[.bool x54]) hS67.g2 ON4 rfl rfl)), ?_⟩
    refine ⟨.slice a51 n52 c53, fun w69 hX70 => od_plain rfl (by have hS71 := hS60.ext hX70; have hB72 := hB59.trans (Ext.stp hX70 hS60.base); exact is_ext (g_assign (v := .slice a51 n52 c53) rfl)), ?_⟩
    refine ⟨.bool x54, fun w73 hX74 => od_plain rfl (by have hS75 := hS60.ext hX74; have hB76 := hB59.trans (Ext.stp hX74 hS60.base); exact is_ext (g_assign (v := .bool x54) rfl)), ?_⟩
    intro w77 hX78
    have hB79 := hB59.trans (Ext.stp hX78 hS60.base)
    have hS80 := hS60.ext hX78
    refine hK56 _ _ ?_
    refine w_ret ?_
    have hS81 := hS80.tail
    have hS82 := hS81.f1
    have hS83 := hS82.tail
    repeat first | with_reducible refine q_then ?_ | with_reducible refine q_block ?_
    exact ret2 rfl (by decide) (by decide) ⟨_, _, _, _, _, hm, rfl, toExt hB79, hS83⟩

theorem m_laws_eqIntS_fn {w : World} {a0 : Option Addr} {n0 c0 : Nat} {p0 : List Int} {a1 : Option Addr} {n1 c1 : Nat} {p1 : List Int} {Q : Bool → Prop} (hp0 : Vw w.heap.size w a0 n0 c0 p0) (hp1 : Vw w.heap.size w a1 n1 c1 p1) (hm : m_laws_eqIntS p0 p1 Q) :
    Fn Try.prog 17 #[.slice a0 n0 c0, .slice a1 n1 c1] w (fun v w' => ∃ (r0 : Bool), Q r0 ∧ v = .bool r0 ∧ Ext w w') := by
  unfold m_laws_eqIntS at hm
  have hB0 := Below.refl w.heap.size w
  have hS0 : Sep w w.heap.size [] := Sep.nil (Nat.le_refl _)
  refine fn_of_wp Try.func17 rfl (by kernel_rfl) (Nat.le_of_ble_eq_true rfl) ?_
  refine w_seq fun K1 hK1 => ?_
  refine w_region ?_
  refine wl_val (g_assign (v := .bool false) rfl) rfl ?_
  refine wl_nil ?_
  refine hK1 _ _ ?_
  refine w_seq fun K2 hK2 => ?_
  refine w_seq fun K3 hK3 => ?_
  refine w_region ?_
  refine wl_val (g_move (v := .slice a0 n0 c0) rfl) rfl ?_
  refine wl_val (q_len SL23 rfl (Vw.len (hp0.bel hB0))) rfl ?_
  refine wl_val (g_move (v := .slice a1 n1 c1) rfl) rfl ?_
  refine wl_val (q_len SL23 rfl (Vw.len (hp1.bel hB0))) rfl ?_
  refine wl_val (g_neq (a := (p0.length : Int)) (b := (p1.length : Int)) rfl rfl) rfl ?_
  refine wl_nil ?_
  refine hK3 _ _ ?_
  refine w_condI (p := (p0.length : Int) ≠ (p1.length : Int)) (b := (decide ((p0.length : Int) ≠ (p1.length : Int)))) rfl decide_eq_true_iff (fun h4 => ?_) (fun h4 => ?_)
  · replace hm := hm.1 h4
    refine w_seq fun K5 hK5 => ?_
    refine w_region ?_
    refine wl_val (g_assign (v := .bool false) rfl) rfl ?_
    refine wl_nil ?_
    refine hK5 _ _ ?_
    refine w_ret ?_
    repeat first | with_reducible refine q_then ?_ | with_reducible refine q_block ?_
    exact ret1 rfl (by decide) ⟨_, hm, rfl, toExt hB0⟩
  · replace hm := hm.2 h4
    refine w_skip ?_
    refine hK2 _ _ ?_
    refine w_cut (σ := Unit) (fun _ => []) (fun _ w' => m_laws_eqIntS_K0 Q ∧ Below w.heap.size w w' ∧ Sep w' w.heap.size []) ?_ ?_
    · refine w_seq fun K7 hK7 => ?_
      refine w_region ?_
      refine wl_val (g_assign (v := .int .i64 0) rfl) rfl ?_
      refine wl_nil ?_
      refine hK7 _ _ ?_
      refine w_block ?_
      obtain ⟨I71, μ72, h073, hr74⟩ := hm
      refine w_for (σ := Int) (fun v70 => [(0, .slice a0 n0 c0), (1, .slice a1 n1 c1), (5, .int .i64 v70)]) (fun v70 w' => I71 v70 ∧ Below w.heap.size w w' ∧ Sep w' w.heap.size []) (fun v70 => μ72 v70) (0) ⟨rfl, rfl, rfl, trivial⟩ ⟨h073, hB0, hS0⟩ ?_
      rintro v70 b_ w75 ⟨hi_, hB76, hS77⟩
      show Wp _ _ _ _ (upds b_ [(0, .slice a0 n0 c0), (1, .slice a1 n1 c1), (5, .int .i64 v70)]) w75
      have hm := hr74 v70 hi_
      refine w_seq fun K79 hK79 => ?_
      refine w_seq fun K80 hK80 => ?_
      refine w_region ?_
      refine wl_val (g_move (v := .int .i64 v70) rfl) rfl ?_
      refine wl_val (g_move (v := .slice a0 n0 c0) rfl) rfl ?_
      refine wl_val (q_len SL23 rfl (Vw.len (hp0.bel hB76))) rfl ?_
      refine wl_val (g_lss (a := v70) (b := (p0.length : Int)) rfl rfl) rfl ?_
      refine wl_nil ?_
      refine hK80 _ _ ?_
      refine w_condI (p := v70 < (p0.length : Int)) (b := (decide (v70 < (p0.length : Int)))) rfl decide_eq_true_iff (fun h81 => ?_) (fun h81 => ?_)
      · replace hm := hm.1 h81
        refine w_skip ?_
        refine hK79 _ _ ?_
        refine w_seq fun K82 hK82 => ?_
        refine w_block ?_
        refine w_seq fun K83 hK83 => ?_
        refine w_draw (X := Ext) (Y := Ext) [] MIX (by decide +kernel) rfl Ext.refl (fun _ _ _ => Ext.trans) (fun _ _ _ => Chg.trans) (fun _ _ h => Ext.chg h _) (fun w84 hE85 => ?_)
        have hB86 := hB76.trans (Ext.stp hE85 hS77.base)
        have hS87 := hS77.ext hE85
        refine ⟨.slice a0 n0 c0, fun w88 hX89 => od_plain rfl (by have hS90 := hS87.ext hX89; have hB91 := hB86.trans (Ext.stp hX89 hS87.base); exact is_ext (g_move (v := .slice a0 n0 c0) rfl)), ?_⟩
        refine ⟨.int .i64 v70, fun w92 hX93 => od_plain rfl (by have hS94 := hS87.ext hX93; have hB95 := hB86.trans (Ext.stp hX93 hS87.base); exact is_ext (g_move (v := .int .i64 v70) rfl)), ?_⟩
        obtain ⟨hg100, hm⟩ := hm
        refine ⟨.pointer (some ((adr a0).add ((Int.toNat v70) * El.m Int))), fun w96 hX97 => od_plain rfl (by have hS98 := hS87.ext hX97; have hB99 := hB86.trans (Ext.stp hX97 hS87.base); exact is_ext (q_index (i := v70) SL23 rfl rfl (hp0.bel hB99) hg100)), ?_⟩
        refine ⟨.int .i64 (p0[(Int.toNat v70)]!), fun w101 hX102 => od_plain rfl (by have hS103 := hS87.ext hX102; have hB104 := hB86.trans (Ext.stp hX102 hS87.base); exact is_ext (q_load (i := v70) (v := .int .i64 (p0[(Int.toNat v70)]!)) ON3 (hp0.bel hB104) hg100 rfl rfl)), ?_⟩
        refine ⟨.slice a1 n1 c1, fun w105 hX106 => od_plain rfl (by have hS107 := hS87.ext hX106; have hB108 := hB86.trans (Ext.stp hX106 hS87.base); exact is_ext (g_move (v := .slice a1 n1 c1) rfl)), ?_⟩
        refine ⟨.int .i64 v70, fun w109 hX110 => od_plain rfl (by have hS111 := hS87.ext hX110; have hB112 := hB86.trans (Ext.stp hX110 hS87.base); exact is_ext (g_move (v := .int .i64 v70) rfl)), ?_⟩
        obtain ⟨hg117, hm⟩ := hm
        refine ⟨.pointer (some ((adr a1).add ((Int.toNat v70) * El.m Int))), fun w113 hX114 => od_plain rfl (by have hS115 := hS87.ext hX114; have hB116 := hB86.trans (Ext.stp hX114 hS87.base); exact is_ext (q_index (i := v70) SL23 rfl rfl (hp1.bel hB116) hg117)), ?_⟩
        refine ⟨.int .i64 (p1[(Int.toNat v70)]!), fun w118 hX119 => od_plain rfl (by have hS120 := hS87.ext hX119; have hB121 := hB86.trans (Ext.stp hX119 hS87.base); exact is_ext (q_load (i := v70) (v := .int .i64 (p1[(Int.toNat v70)]!)) ON3 (hp1.bel hB121) hg117 rfl rfl)), ?_⟩
        refine ⟨.bool (decide (p0[(Int.toNat v70)]! ≠ p1[(Int.toNat v70)]!)), fun w122 hX123 => od_plain rfl (by have hS124 := hS87.ext hX123; have hB125 := hB86.trans (Ext.stp hX123 hS87.base); exact is_ext (g_neq (a := p0[(Int.toNat v70)]!) (b := p1[(Int.toNat v70)]!) rfl rfl)), ?_⟩
        intro w126 hX127
        have hB128 := hB86.trans (Ext.stp hX127 hS87.base)
        have hS129 := hS87.ext hX127
        refine hK83 _ _ ?_
        refine w_condI (p := p0[(Int.toNat v70)]! ≠ p1[(Int.toNat v70)]!) (b := (decide (p0[(Int.toNat v70)]! ≠ p1[(Int.toNat v70)]!))) rfl decide_eq_true_iff (fun h130 => ?_) (fun h130 => ?_)
        · replace hm := hm.1 h130
          refine w_seq fun K131 hK131 => ?_
          refine w_region ?_
          refine wl_val (g_assign (v := .bool false) rfl) rfl ?_
          refine wl_nil ?_
          refine hK131 _ _ ?_
          refine w_ret ?_
          repeat first | with_reducible refine q_then ?_ | with_reducible refine q_block ?_
          exact ret1 rfl (by decide) ⟨_, hm, rfl, toExt hB128⟩
        · replace hm := hm.2 h130
          refine w_skip ?_
          refine hK82 _ _ ?_
          refine w_region ?_
          refine wl_val (g_move (v := .int .i64 v70) rfl) rfl ?_
          obtain ⟨hg132, hm⟩ := hm
          refine wl_val (g_add (a := v70) (b := 1) rfl rfl hg132) rfl ?_
          refine wl_val (g_assign (v := .int .i64 (v70 + 1)) rfl) rfl ?_
          refine wl_nil ?_
          exact ⟨((v70 + 1)), hm.2, ⟨rfl, rfl, rfl, trivial⟩, ⟨hm.1, hB128, hS129⟩⟩
      · replace hm := hm.2 h81
        refine w_exit ?_
        exact ⟨(), trivial, ⟨hm, hB76, hS77⟩⟩
    · rintro _ b_ w133 ⟨hm, hB134, hS135⟩
      show Wp _ _ _ _ (upds b_ []) w133
      refine w_seq fun K136 hK136 => ?_
      refine w_region ?_
      refine wl_val (g_assign (v := .bool true) rfl) rfl ?_
      refine wl_nil ?_
      refine hK136 _ _ ?_
      refine w_ret ?_
      repeat first | with_reducible refine q_then ?_ | with_reducible refine q_block ?_
      exact ret1 rfl (by decide) ⟨_, hm, rfl, toExt hB134⟩

end Go.Proofs.Ytddjkiefadiijaa
