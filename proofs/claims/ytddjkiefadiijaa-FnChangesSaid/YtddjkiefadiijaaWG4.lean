/- The walks: the code does what its model says. Printed by a program (gen2.py). No statement of the claim stands here. -/
import Derived.Test.YtddjkiefadiijaaFacts2
import Derived.Test.YtddjkiefadiijaaSop
import Derived.Test.YtddjkiefadiijaaFacts
import Derived.Test.YtddjkiefadiijaaMG
import Derived.Test.YtddjkiefadiijaaWG1
namespace Go.Proofs.Ytddjkiefadiijaa
open Go Go.RowKit
set_option maxRecDepth 100000
theorem m_laws_heldIntS_fn {w : World} {a0 : Option Addr} {n0 c0 : Nat} {p0 : List Int} {Q : Int → Prop} (hp0 : Vw w.heap.size w a0 n0 c0 p0) (p1 : Int) (hm : m_laws_heldIntS p0 p1 Q) :
    Fn Try.prog 21 #[.slice a0 n0 c0, .int .i64 p1] w (fun v w' => ∃ (r0 : Int), Q r0 ∧ v = .int .i64 r0 ∧ Ext w w') := by
  unfold m_laws_heldIntS at hm
  have hB0 := Below.refl w.heap.size w
  have hS0 : Sep w w.heap.size [] := Sep.nil (Nat.le_refl _)
  refine fn_of_wp Try.func21 rfl (by kernel_rfl) (Nat.le_of_ble_eq_true rfl) ?_
  refine w_seq fun K1 hK1 => ?_
  refine w_region ?_
  refine wl_val (g_assign (v := .int .i64 0) rfl) rfl ?_
  refine wl_nil ?_
  refine hK1 _ _ ?_
  refine w_cut (σ := Int) (fun v44 => [(1, .int .i64 v44)]) (fun v44 w' => m_laws_heldIntS_K0 Q v44 ∧ Below w.heap.size w w' ∧ Sep w' w.heap.size []) ?_ ?_
  · refine w_seq fun K46 hK46 => ?_
    refine w_region ?_
    refine wl_val (g_assign (v := .int .i64 0) rfl) rfl ?_
    refine wl_nil ?_
    refine hK46 _ _ ?_
    refine w_block ?_
    obtain ⟨I49, μ50, h051, hr52⟩ := hm
    refine w_for (σ := Int × Int) (fun ⟨v47, v48⟩ => [(0, .slice a0 n0 c0), (1, .int .i64 v47), (5, .int .i64 v48)]) (fun ⟨v47, v48⟩ w' => I49 v47 v48 ∧ Below w.heap.size w w' ∧ Sep w' w.heap.size []) (fun ⟨v47, v48⟩ => μ50 v47 v48) (p1, 0) ⟨rfl, rfl, rfl, trivial⟩ ⟨h051, hB0, hS0⟩ ?_
    rintro ⟨v47, v48⟩ b_ w53 ⟨hi_, hB54, hS55⟩
    show Wp _ _ _ _ (upds b_ [(0, .slice a0 n0 c0), (1, .int .i64 v47), (5, .int .i64 v48)]) w53
    have hm := hr52 v47 v48 hi_
    refine w_seq fun K57 hK57 => ?_
    refine w_seq fun K58 hK58 => ?_
    refine w_region ?_
    refine wl_val (g_move (v := .int .i64 v48) rfl) rfl ?_
    refine wl_val (g_move (v := .slice a0 n0 c0) rfl) rfl ?_
    refine wl_val (q_len SL23 rfl (Vw.len (hp0.bel hB54))) rfl ?_
    refine wl_val (g_lss (a := v48) (b := (p0.length : Int)) rfl rfl) rfl ?_
    refine wl_nil ?_
    refine hK58 _ _ ?_
    refine w_condI (p := v48 < (p0.length : Int)) (b := (decide (v48 < (p0.length : Int)))) rfl decide_eq_true_iff (fun h59 => ?_) (fun h59 => ?_)
    · replace hm := hm.1 h59
      refine w_skip ?_
      refine hK57 _ _ ?_
      refine w_seq fun K60 hK60 => ?_
      refine w_block ?_
      refine w_seq fun K61 hK61 => ?_
      refine w_seq fun K62 hK62 => ?_
      refine w_region ?_
      refine wl_val (g_move (v := .slice a0 n0 c0) rfl) rfl ?_
      refine wl_val (g_move (v := .int .i64 v48) rfl) rfl ?_
      obtain ⟨hg63, hm⟩ := hm
      refine wl_val (q_index (i := v48) SL23 rfl rfl (hp0.bel hB54) hg63) rfl ?_
      refine wl_val (q_load (i := v48) (v := .int .i64 (p0[(Int.toNat v48)]!)) ON3 (hp0.bel hB54) hg63 rfl rfl) rfl ?_
      refine wl_val (g_move (v := .int .i64 v47) rfl) rfl ?_
      refine wl_val (g_neq (a := p0[(Int.toNat v48)]!) (b := v47) rfl rfl) rfl ?_
      refine wl_nil ?_
      refine hK62 _ _ ?_
      refine w_condI (p := p0[(Int.toNat v48)]! ≠ v47) (b := (decide (p0[(Int.toNat v48)]! ≠ v47))) rfl decide_eq_true_iff (fun h64 => ?_) (fun h64 => ?_)
      · replace hm := hm.1 h64
        refine w_seq fun K65 hK65 => ?_
        refine w_region ?_
        refine wl_val (g_assign (v := .int .i64 (-1)) rfl) rfl ?_
        refine wl_nil ?_
        refine hK65 _ _ ?_
        refine w_ret ?_
        repeat first | with_reducible refine q_then ?_ | with_reducible refine q_block ?_
        exact ret1 rfl (by decide) ⟨_, hm, rfl, toExt hB54⟩
      · replace hm := hm.2 h64
        refine w_skip ?_
        refine hK61 _ _ ?_
        refine w_region ?_
        refine wl_val (g_move (v := .int .i64 v47) rfl) rfl ?_
        obtain ⟨hg66, hm⟩ := hm
        refine wl_val (g_add (a := v47) (b := 1) rfl rfl hg66) rfl ?_
        refine wl_val (g_assign (v := .int .i64 (v47 + 1)) rfl) rfl ?_
        refine wl_nil ?_
        refine hK60 _ _ ?_
        refine w_region ?_
        refine wl_val (g_move (v := .int .i64 v48) rfl) rfl ?_
        obtain ⟨hg67, hm⟩ := hm
        refine wl_val (g_add (a := v48) (b := 1) rfl rfl hg67) rfl ?_
        refine wl_val (g_assign (v := .int .i64 (v48 + 1)) rfl) rfl ?_
        refine wl_nil ?_
        exact ⟨((v47 + 1), (v48 + 1)), hm.2, ⟨rfl, rfl, rfl, trivial⟩, ⟨hm.1, hB54, hS55⟩⟩
    · replace hm := hm.2 h59
      refine w_exit ?_
      exact ⟨(v47), ⟨rfl, trivial⟩, ⟨hm, hB54, hS55⟩⟩
  · rintro v44 b_ w68 ⟨hm, hB69, hS70⟩
    show Wp _ _ _ _ (upds b_ [(1, .int .i64 v44)]) w68
    refine w_seq fun K71 hK71 => ?_
    refine w_region ?_
    refine wl_val (g_move (v := .int .i64 v44) rfl) rfl ?_
    refine wl_val (g_assign (v := .int .i64 v44) rfl) rfl ?_
    refine wl_nil ?_
    refine hK71 _ _ ?_
    refine w_ret ?_
    repeat first | with_reducible refine q_then ?_ | with_reducible refine q_block ?_
    exact ret1 rfl (by decide) ⟨_, hm, rfl, toExt hB69⟩

theorem m_laws_heldIntSS_fn {w : World} {a0 : Option Addr} {n0 c0 : Nat} {y0 : List (Hd Int)} {p0 : List (List Int)} {Q : Int → Prop} (hp0 : Tv w.heap.size w a0 n0 c0 y0 p0) (p1 : Int) (hm : m_laws_heldIntSS p0 p1 Q) :
    Fn Try.prog 30 #[.slice a0 n0 c0, .int .i64 p1] w (fun v w' => ∃ (r0 : Int), Q r0 ∧ v = .int .i64 r0 ∧ Ext w w') := by
  unfold m_laws_heldIntSS at hm
  have hB0 := Below.refl w.heap.size w
  have hS0 : Sep w w.heap.size [] := Sep.nil (Nat.le_refl _)
  refine fn_of_wp Try.func30 rfl (by kernel_rfl) (Nat.le_of_ble_eq_true rfl) ?_
  refine w_seq fun K1 hK1 => ?_
  refine w_region ?_
  refine wl_val (g_assign (v := .int .i64 0) rfl) rfl ?_
  refine wl_nil ?_
  refine hK1 _ _ ?_
  refine w_cut (σ := Int) (fun v54 => [(1, .int .i64 v54)]) (fun v54 w' => m_laws_heldIntSS_K0 Q v54 ∧ Below w.heap.size w w' ∧ Sep w' w.heap.size []) ?_ ?_
  · refine w_seq fun K56 hK56 => ?_
    refine w_region ?_
    refine wl_val (g_assign (v := .int .i64 0) rfl) rfl ?_
    refine wl_nil ?_
    refine hK56 _ _ ?_
    refine w_block ?_
    obtain ⟨I59, μ60, h061, hr62⟩ := hm
    refine w_for (σ := Int × Int) (fun ⟨v57, v58⟩ => [(0, .slice a0 n0 c0), (1, .int .i64 v57), (5, .int .i64 v58)]) (fun ⟨v57, v58⟩ w' => I59 v57 v58 ∧ Below w.heap.size w w' ∧ Sep w' w.heap.size []) (fun ⟨v57, v58⟩ => μ60 v57 v58) (p1, 0) ⟨rfl, rfl, rfl, trivial⟩ ⟨h061, hB0, hS0⟩ ?_
    rintro ⟨v57, v58⟩ b_ w63 ⟨hi_, hB64, hS65⟩
    show Wp _ _ _ _ (upds b_ [(0, .slice a0 n0 c0), (1, .int .i64 v57), (5, .int .i64 v58)]) w63
    have hm := hr62 v57 v58 hi_
    refine w_seq fun K67 hK67 => ?_
    refine w_seq fun K68 hK68 => ?_
    refine w_region ?_
    refine wl_val (g_move (v := .int .i64 v58) rfl) rfl ?_
    refine wl_val (g_move (v := .slice a0 n0 c0) rfl) rfl ?_
    refine wl_val (q_len SL37 rfl (Tv.len (hp0.bel hB64))) rfl ?_
    refine wl_val (g_lss (a := v58) (b := (p0.length : Int)) rfl rfl) rfl ?_
    refine wl_nil ?_
    refine hK68 _ _ ?_
    refine w_condI (p := v58 < (p0.length : Int)) (b := (decide (v58 < (p0.length : Int)))) rfl decide_eq_true_iff (fun h69 => ?_) (fun h69 => ?_)
    · replace hm := hm.1 h69
      refine w_skip ?_
      refine hK67 _ _ ?_
      refine w_seq fun K70 hK70 => ?_
      refine w_block ?_
      refine w_seq fun K71 hK71 => ?_
      refine w_region ?_
      refine wl_val (g_move (v := .slice a0 n0 c0) rfl) rfl ?_
      refine wl_val (g_move (v := .int .i64 v58) rfl) rfl ?_
      obtain ⟨hg72, hm⟩ := hm
      refine wl_val (q_index (i := v58) SL37 rfl rfl (Tv.o (hp0.bel hB64)) (Tv.g (hp0.bel hB64) hg72)) rfl ?_
      refine wl_val (q_load (i := v58) (v := .slice ((y0[(Int.toNat v58)]!).1) ((y0[(Int.toNat v58)]!).2.2.length) ((y0[(Int.toNat v58)]!).2.1)) ON23 (Tv.o (hp0.bel hB64)) (Tv.g (hp0.bel hB64) hg72) rfl rfl) rfl ?_
      refine wl_val (g_move (v := .int .i64 v57) rfl) rfl ?_
      refine wl_step rfl (g_call (vs := #[.slice ((y0[(Int.toNat v58)]!).1) ((y0[(Int.toNat v58)]!).2.2.length) ((y0[(Int.toNat v58)]!).2.1), .int .i64 v57]) CF21 (args2 rfl rfl) (m_laws_heldIntS_fn ((Tv.row (hp0.bel hB64) hg72).up hS65) v57 hm)) ?_
      rintro _ w73 ⟨r76, hm, rfl, hE74⟩
      have hB77 := hB64.trans (Ext.stp hE74 hS65.base)
      have hS78 := hS65.ext hE74
      refine wl_val (g_assign (v := .int .i64 r76) rfl) rfl ?_
      refine wl_nil ?_
      refine hK71 _ _ ?_
      refine w_seq fun K79 hK79 => ?_
      refine w_region ?_
      refine wl_val (g_move (v := .int .i64 r76) rfl) rfl ?_
      refine wl_val (g_lss (a := r76) (b := 0) rfl rfl) rfl ?_
      refine wl_nil ?_
      refine hK79 _ _ ?_
      refine w_condI (p := r76 < 0) (b := (decide (r76 < 0))) rfl decide_eq_true_iff (fun h80 => ?_) (fun h80 => ?_)
      · replace hm := hm.1 h80
        refine w_seq fun K81 hK81 => ?_
        refine w_region ?_
        refine wl_val (g_assign (v := .int .i64 (-1)) rfl) rfl ?_
        refine wl_nil ?_
        refine hK81 _ _ ?_
        refine w_ret ?_
        repeat first | with_reducible refine q_then ?_ | with_reducible refine q_block ?_
        exact ret1 rfl (by decide) ⟨_, hm, rfl, toExt hB77⟩
      · replace hm := hm.2 h80
        refine w_skip ?_
        refine hK70 _ _ ?_
        refine w_region ?_
        refine wl_val (g_move (v := .int .i64 v58) rfl) rfl ?_
        obtain ⟨hg82, hm⟩ := hm
        refine wl_val (g_add (a := v58) (b := 1) rfl rfl hg82) rfl ?_
        refine wl_val (g_assign (v := .int .i64 (v58 + 1)) rfl) rfl ?_
        refine wl_nil ?_
        exact ⟨(r76, (v58 + 1)), hm.2, ⟨rfl, rfl, rfl, trivial⟩, ⟨hm.1, hB77, hS78⟩⟩
    · replace hm := hm.2 h69
      refine w_exit ?_
      exact ⟨(v57), ⟨rfl, trivial⟩, ⟨hm, hB64, hS65⟩⟩
  · rintro v54 b_ w83 ⟨hm, hB84, hS85⟩
    show Wp _ _ _ _ (upds b_ [(1, .int .i64 v54)]) w83
    refine w_seq fun K86 hK86 => ?_
    refine w_region ?_
    refine wl_val (g_move (v := .int .i64 v54) rfl) rfl ?_
    refine wl_val (g_assign (v := .int .i64 v54) rfl) rfl ?_
    refine wl_nil ?_
    refine hK86 _ _ ?_
    refine w_ret ?_
    repeat first | with_reducible refine q_then ?_ | with_reducible refine q_block ?_
    exact ret1 rfl (by decide) ⟨_, hm, rfl, toExt hB84⟩

theorem m_laws_big_fn {w : World} {a0 : Option Addr} {n0 c0 : Nat} {p0 : List Byte} {Q : Bool → Prop} (hp0 : Vw w.heap.size w a0 n0 c0 p0) (hm : m_laws_big p0 Q) :
    Fn Try.prog 37 #[.slice a0 n0 c0] w (fun v w' => ∃ (r0 : Bool), Q r0 ∧ v = .bool r0 ∧ Ext w w') := by
  unfold m_laws_big at hm
  have hB0 := Below.refl w.heap.size w
  have hS0 : Sep w w.heap.size [] := Sep.nil (Nat.le_refl _)
  refine fn_of_wp Try.func37 rfl (by kernel_rfl) (Nat.le_of_ble_eq_true rfl) ?_
  refine w_seq fun K1 hK1 => ?_
  refine w_region ?_
  refine wl_val (g_assign (v := .bool false) rfl) rfl ?_
  refine wl_nil ?_
  refine hK1 _ _ ?_
  refine w_seq fun K2 hK2 => ?_
  refine w_region ?_
  refine wl_val (g_move (v := .slice a0 n0 c0) rfl) rfl ?_
  refine wl_val (q_len SL46 rfl (Vw.len (hp0.bel hB0))) rfl ?_
  refine wl_val (g_gtr (a := (p0.length : Int)) (b := 1048576) rfl rfl) rfl ?_
  refine wl_val (g_assign (v := .bool (decide ((p0.length : Int) > 1048576))) rfl) rfl ?_
  refine wl_nil ?_
  refine hK2 _ _ ?_
  refine w_ret ?_
  repeat first | with_reducible refine q_then ?_ | with_reducible refine q_block ?_
  exact ret1 rfl (by decide) ⟨_, hm, rfl, toExt hB0⟩

theorem m_spec_l01New_raw_fn {w : World} {a0 : Option Addr} {n0 c0 : Nat} {p0 : List Byte} {Q : Int → Int → Prop} (hp0 : Vw w.heap.size w a0 n0 c0 p0) (hm : m_spec_l01New_raw p0 Q) :
    Fn Try.prog 80 #[.slice a0 n0 c0] w (fun v w' => ∃ (g0 : Nat) (r0 r0_ : Int), Q r0 r0_ ∧ v = .pointer (some ⟨g0, 0, none⟩) ∧ Ext w w' ∧ Sep w' w.heap.size [oB g0 89 #[.slice a0 n0 c0, .int .i64 r0, .int .i64 r0_]]) := by
  unfold m_spec_l01New_raw at hm
  have hB0 := Below.refl w.heap.size w
  have hS0 : Sep w w.heap.size [] := Sep.nil (Nat.le_refl _)
  refine fn_of_wp Try.func80 rfl (by kernel_rfl) (Nat.le_of_ble_eq_true rfl) ?_
  refine w_seq fun K1 hK1 => ?_
  refine w_region ?_
  refine wl_val (g_assign (v := .pointer none) rfl) rfl ?_
  refine wl_nil ?_
  refine hK1 _ _ ?_
  refine w_seq fun K2 hK2 => ?_
  refine w_region ?_
  refine wl_val (g_move (v := .slice a0 n0 c0) rfl) rfl ?_
  refine wl_val (q_len SL46 rfl (Vw.len (hp0.bel hB0))) rfl ?_
  obtain ⟨hg3, hm⟩ := hm
  refine wl_val (g_add (a := 33061) (b := (p0.length : Int)) rfl rfl hg3) rfl ?_
  refine wl_val (g_assign (v := .int .i64 (33061 + (p0.length : Int))) rfl) rfl ?_
  refine wl_nil ?_
  refine hK2 _ _ ?_
  refine w_cut (σ := Int) (fun v40 => [(0, .slice a0 n0 c0), (3, .int .i64 v40)]) (fun v40 w' => m_spec_l01New_raw_K0 Q v40 ∧ Below w.heap.size w w' ∧ Sep w' w.heap.size []) ?_ ?_
  · refine w_seq fun K42 hK42 => ?_
    refine w_region ?_
    refine wl_val (g_assign (v := .int .i64 0) rfl) rfl ?_
    refine wl_nil ?_
    refine hK42 _ _ ?_
    refine w_block ?_
    obtain ⟨I45, μ46, h047, hr48⟩ := hm
    refine w_for (σ := Int × Int) (fun ⟨v43, v44⟩ => [(0, .slice a0 n0 c0), (3, .int .i64 v43), (4, .int .i64 v44)]) (fun ⟨v43, v44⟩ w' => I45 v43 v44 ∧ Below w.heap.size w w' ∧ Sep w' w.heap.size []) (fun ⟨v43, v44⟩ => μ46 v43 v44) ((33061 + (p0.length : Int)), 0) ⟨rfl, rfl, rfl, trivial⟩ ⟨h047, hB0, hS0⟩ ?_
    rintro ⟨v43, v44⟩ b_ w49 ⟨hi_, hB50, hS51⟩
    show Wp _ _ _ _ (upds b_ [(0, .slice a0 n0 c0), (3, .int .i64 v43), (4, .int .i64 v44)]) w49
    have hm := hr48 v43 v44 hi_
    refine w_seq fun K53 hK53 => ?_
    refine w_seq fun K54 hK54 => ?_
    refine w_region ?_
    refine wl_val (g_move (v := .int .i64 v44) rfl) rfl ?_
    refine wl_val (g_move (v := .slice a0 n0 c0) rfl) rfl ?_
    refine wl_val (q_len SL46 rfl (Vw.len (hp0.bel hB50))) rfl ?_
    refine wl_val (g_lss (a := v44) (b := (p0.length : Int)) rfl rfl) rfl ?_
    refine wl_val (g_move (v := .bool (decide (v44 < (p0.length : Int)))) rfl) rfl ?_
    refine wl_guard (c := (decide (v44 < (p0.length : Int))) = true) (val := .int .i64 v44) (b := ((decide (v44 < (p0.length : Int))) == true)) (gv_some rfl rfl rfl) beq_iff_eq (fun hc55 => ?_) ?_
    · have hcq2 : v44 < (p0.length : Int) := (decide_eq_true_iff.mp hc55)
      exact g_move (v := .int .i64 v44) rfl
    refine wl_guard (c := (decide (v44 < (p0.length : Int))) = true) (val := .bool (decide (v44 < 4000))) (b := ((decide (v44 < (p0.length : Int))) == true)) (gv_some rfl rfl rfl) beq_iff_eq (fun hc56 => ?_) ?_
    · have hcq2 : v44 < (p0.length : Int) := (decide_eq_true_iff.mp hc56)
      exact g_lss (a := v44) (b := 4000) (if_pos hc56) rfl
    refine wl_val (g_pick_and (b := (decide (v44 < (p0.length : Int)))) (q := (decide (v44 < 4000))) rfl rfl) rfl ?_
    refine wl_nil ?_
    refine hK54 _ _ ?_
    refine w_condI (p := ((v44 < (p0.length : Int)) ∧ (v44 < 4000))) (b := ((decide (v44 < (p0.length : Int))) && (decide (v44 < 4000)))) rfl (i_and decide_eq_true_iff decide_eq_true_iff) (fun h57 => ?_) (fun h57 => ?_)
    · replace hm := hm.1 h57
      refine w_skip ?_
      refine hK53 _ _ ?_
      refine w_seq fun K58 hK58 => ?_
      refine w_block ?_
      refine w_region ?_
      refine wl_val (g_move (v := .int .i64 v43) rfl) rfl ?_
      refine wl_val (q_wmul (a := v43) (b := 131) rfl rfl) rfl ?_
      refine wl_val (g_move (v := .slice a0 n0 c0) rfl) rfl ?_
      refine wl_val (g_move (v := .int .i64 v44) rfl) rfl ?_
      obtain ⟨hg59, hm⟩ := hm
      refine wl_val (q_index (i := v44) SL46 rfl rfl (hp0.bel hB50) hg59) rfl ?_
      refine wl_val (q_load (i := v44) (v := .int .u8 ((p0[(Int.toNat v44)]!).val : Int)) ON5 (hp0.bel hB50) hg59 rfl rfl) rfl ?_
      refine wl_val (g_conv8 (v := p0[(Int.toNat v44)]!) CV5_3 rfl) rfl ?_
      refine wl_val (q_wadd (a := (wmul v43 131)) (b := ((p0[(Int.toNat v44)]!).val : Int)) rfl rfl) rfl ?_
      refine wl_val (q_wadd (a := (wadd (wmul v43 131) ((p0[(Int.toNat v44)]!).val : Int))) (b := 7) rfl rfl) rfl ?_
      refine wl_val (q_wand (a := (wadd (wadd (wmul v43 131) ((p0[(Int.toNat v44)]!).val : Int)) 7)) (b := 1073741823) rfl rfl) rfl ?_
      refine wl_val (g_assign (v := .int .i64 (wand (wadd (wadd (wmul v43 131) ((p0[(Int.toNat v44)]!).val : Int)) 7) 1073741823)) rfl) rfl ?_
      refine wl_nil ?_
      refine hK58 _ _ ?_
      refine w_region ?_
      refine wl_val (g_move (v := .int .i64 v44) rfl) rfl ?_
      obtain ⟨hg60, hm⟩ := hm
      refine wl_val (g_add (a := v44) (b := 1) rfl rfl hg60) rfl ?_
      refine wl_val (g_assign (v := .int .i64 (v44 + 1)) rfl) rfl ?_
      refine wl_nil ?_
      exact ⟨((wand (wadd (wadd (wmul v43 131) ((p0[(Int.toNat v44)]!).val : Int)) 7) 1073741823), (v44 + 1)), hm.2, ⟨rfl, rfl, rfl, trivial⟩, ⟨hm.1, hB50, hS51⟩⟩
    · replace hm := hm.2 h57
      refine w_exit ?_
      exact ⟨(v43), ⟨rfl, rfl, trivial⟩, ⟨hm, hB50, hS51⟩⟩
  · rintro v40 b_ w61 ⟨hm, hB62, hS63⟩
    show Wp _ _ _ _ (upds b_ [(0, .slice a0 n0 c0), (3, .int .i64 v40)]) w61
    refine w_seq fun K64 hK64 => ?_
    refine w_region ?_
    refine wl_val (g_move (v := .slice a0 n0 c0) rfl) rfl ?_
    refine wl_val (g_move (v := .int .i64 v40) rfl) rfl ?_
    refine wl_val (g_build (v := .agg #[.slice a0 n0 c0, .int .i64 0, .int .i64 v40]) (parts2 rfl rfl) (BD89_02 a0 n0 c0 v40)) rfl ?_
    refine wl_step rfl (q_box (cs := #[.slice a0 n0 c0, .int .i64 0, .int .i64 v40]) rfl rfl hS63) ?_
    rintro _ w65 ⟨g66, rfl, hS68, hE67⟩
    have hB70 := hB62.trans (Ext.stp hE67 hS63.base)
    refine wl_val (g_assign (v := .pointer (some (⟨g66, 0, none⟩ : Addr))) rfl) rfl ?_
    refine wl_nil ?_
    refine hK64 _ _ ?_
    refine w_ret ?_
    repeat first | with_reducible refine q_then ?_ | with_reducible refine q_block ?_
    exact ret1 rfl (by decide) ⟨_, _, _, hm, rfl, toExt hB70, hS68⟩
theorem l01New_raw_ok {p0 : List Byte} {Q : Int → Int → Prop} (hl : p0.length ≤ 1099511627776) (hq : ∀ h, Q 0 h) : m_spec_l01New_raw p0 Q := by
  refine ⟨by omega, fun h i => 0 ≤ i, fun h i => (p0.length - i).toNat, Int.le_refl _, ?_⟩
  rintro h i h0
  exact ⟨fun hc => ⟨⟨h0, hc.1⟩, by omega, by omega, by dsimp only; omega⟩, fun _ => hq _⟩
theorem m_spec_l01New_fn {w : World} {a0 : Option Addr} {n0 c0 : Nat} {p0 : List Byte} {Q : Prop} (hp0 : Vw w.heap.size w a0 n0 c0 p0) (hm : m_spec_l01New p0 Q) :
    Fn Try.prog 80 #[.slice a0 n0 c0] w (fun v w' => ∃ (g0 : Nat), Q ∧ v = .pointer (some ⟨g0, 0, none⟩) ∧ Ext w w' ∧ Sep w' w.heap.size [oCur 89 g0 a0 n0 c0]) := by
  have hl := hm.1
  have hn := hp0.len
  refine (m_spec_l01New_raw_fn (Q := fun r _ => 0 ≤ r ∧ Q) hp0 (l01New_raw_ok hl fun _ => ⟨Int.le_refl _, hm.2⟩)).mono ?_
  rintro v w' ⟨g0, r, r_, ⟨h0, hQ⟩, hv, hE, hS⟩
  exact ⟨g0, hQ, hv, hE, hS.cur h0 (by omega)⟩

theorem m_spec_l01Byte_raw_fn {w : World} {B_ : Nat} {L_ : List Ob} {gp0 : Nat} {ap0 : Option Addr} {np0 cp0 : Nat} {p0 : List Byte} {i0 : Int} {h0 : Int} {Q : Int → Int → Int → Prop} (hS0 : Sep w B_ (oB gp0 89 #[.slice ap0 np0 cp0, .int .i64 i0, .int .i64 h0] :: L_)) (hp0 : Vw B_ w ap0 np0 cp0 p0) (hm : m_spec_l01Byte_raw p0 i0 h0 Q) :
    Fn Try.prog 98 #[.pointer (some (⟨gp0, 0, none⟩ : Addr))] w (fun v w' => ∃ (r0 : Int) (xi xh : Int), Q r0 xi xh ∧ v = .int .i64 r0 ∧ Below B_ w w' ∧ Sep w' B_ (oB gp0 89 #[.slice ap0 np0 cp0, .int .i64 xi, .int .i64 xh] :: L_)) := by
  unfold m_spec_l01Byte_raw at hm
  have hB0 := Below.refl B_ w
  refine fn_of_wp Try.func98 rfl (by kernel_rfl) (Nat.le_of_ble_eq_true rfl) ?_
  refine w_seq fun K2 hK2 => ?_
  refine w_region ?_
  refine wl_val (g_assign (v := .int .i64 0) rfl) rfl ?_
  refine wl_nil ?_
  refine hK2 _ _ ?_
  refine w_seq fun K3 hK3 => ?_
  refine w_region ?_
  refine wl_val (g_move (v := .pointer (some (⟨gp0, 0, none⟩ : Addr))) rfl) rfl ?_
  refine wl_val (g_move (v := .pointer (some (⟨gp0, 0, none⟩ : Addr))) rfl) rfl ?_
  refine wl_val (g_nilCheck (q := (⟨gp0, 0, none⟩ : Addr)) rfl) rfl ?_
  refine wl_val (g_fieldAddr (q := (⟨gp0, 0, none⟩ : Addr)) FL89_2 ON3 rfl) rfl ?_
  refine wl_val (q_loadB (i := 2) (bs := #[.slice ap0 np0 cp0, .int .i64 i0, .int .i64 h0]) hS0.g0 ON3 rfl rfl) rfl ?_
  refine wl_val (q_wmul (a := h0) (b := 6364136223846793005) rfl rfl) rfl ?_
  refine wl_val (q_wadd (a := (wmul h0 6364136223846793005)) (b := 1442695040888963407) rfl rfl) rfl ?_
  refine wl_val (g_nilCheck (q := (⟨gp0, 0, none⟩ : Addr)) rfl) rfl ?_
  refine wl_val (g_fieldAddr (q := (⟨gp0, 0, none⟩ : Addr)) FL89_2 ON3 rfl) rfl ?_
  refine wl_step rfl (q_storeB (i := 2) (bs' := #[.slice ap0 np0 cp0, .int .i64 i0, .int .i64 (wadd (wmul h0 6364136223846793005) 1442695040888963407)]) (vs := [.int .i64 (wadd (wmul h0 6364136223846793005) 1442695040888963407)]) hS0 ON3.sz rfl rfl rfl (by simp [Value.oneCell']) (Nat.le_of_ble_eq_true rfl) rfl) ?_
  rintro _ w4 ⟨rfl, hS5, hb6⟩
  have hB7 := hB0.trans hb6
  refine wl_nil ?_
  refine hK3 _ _ ?_
  refine w_seq fun K8 hK8 => ?_
  refine w_draw (X := Ext) (Y := Ext) [] MIX (by decide +kernel) rfl Ext.refl (fun _ _ _ => Ext.trans) (fun _ _ _ => Chg.trans) (fun _ _ h => Ext.chg h _) (fun w9 hE10 => ?_)
  have hB11 := hB7.trans (Ext.stp hE10 hS5.base)
  have hS12 := hS5.ext hE10
  refine ⟨.pointer (some (⟨gp0, 0, none⟩ : Addr)), fun w13 hX14 => od_plain rfl (by have hS15 := hS12.ext hX14; have hB16 := hB11.trans (Ext.stp hX14 hS12.base); exact is_ext (g_move (v := .pointer (some (⟨gp0, 0, none⟩ : Addr))) rfl)), ?_⟩
  refine ⟨.pointer (some (⟨gp0, 0, none⟩ : Addr)), fun w17 hX18 => od_plain rfl (by have hS19 := hS12.ext hX18; have hB20 := hB11.trans (Ext.stp hX18 hS12.base); exact is_ext (g_nilCheck (q := (⟨gp0, 0, none⟩ : Addr)) rfl)), ?_⟩
  refine ⟨.pointer (some (((⟨gp0, 0, none⟩ : Addr)).add 2)), fun w21 hX22 => od_plain rfl (by have hS23 := hS12.ext hX22; have hB24 := hB11.trans (Ext.stp hX22 hS12.base); exact is_ext (g_fieldAddr (q := (⟨gp0, 0, none⟩ : Addr)) FL89_2 ON3 rfl)), ?_⟩
  refine ⟨.int .i64 (wadd (wmul h0 6364136223846793005) 1442695040888963407), fun w25 hX26 => od_plain rfl (by have hS27 := hS12.ext hX26; have hB28 := hB11.trans (Ext.stp hX26 hS12.base); exact is_ext (q_loadB (i := 2) (bs := #[.slice ap0 np0 cp0, .int .i64 i0, .int .i64 (wadd (wmul h0 6364136223846793005) 1442695040888963407)]) hS27.g0 ON3 rfl rfl)), ?_⟩
  refine ⟨.int .i64 (sar (wadd (wmul h0 6364136223846793005) 1442695040888963407) 33), fun w29 hX30 => od_plain rfl (by have hS31 := hS12.ext hX30; have hB32 := hB11.trans (Ext.stp hX30 hS12.base); exact is_ext (g_shr (a := (wadd (wmul h0 6364136223846793005) 1442695040888963407)) (b := 33) rfl rfl ⟨by decide, by decide⟩)), ?_⟩
  refine ⟨.pointer (some (⟨gp0, 0, none⟩ : Addr)), fun w33 hX34 => od_plain rfl (by have hS35 := hS12.ext hX34; have hB36 := hB11.trans (Ext.stp hX34 hS12.base); exact is_ext (g_move (v := .pointer (some (⟨gp0, 0, none⟩ : Addr))) rfl)), ?_⟩
  refine ⟨.pointer (some (⟨gp0, 0, none⟩ : Addr)), fun w37 hX38 => od_plain rfl (by have hS39 := hS12.ext hX38; have hB40 := hB11.trans (Ext.stp hX38 hS12.base); exact is_ext (g_nilCheck (q := (⟨gp0, 0, none⟩ : Addr)) rfl)), ?_⟩
  refine ⟨.pointer (some (((⟨gp0, 0, none⟩ : Addr)).add 2)), fun w41 hX42 => od_plain rfl (by have hS43 := hS12.ext hX42; have hB44 := hB11.trans (Ext.stp hX42 hS12.base); exact is_ext (g_fieldAddr (q := (⟨gp0, 0, none⟩ : Addr)) FL89_2 ON3 rfl)), ?_⟩
  refine ⟨.int .i64 (wadd (wmul h0 6364136223846793005) 1442695040888963407), fun w45 hX46 => od_plain rfl (by have hS47 := hS12.ext hX46; have hB48 := hB11.trans (Ext.stp hX46 hS12.base); exact is_ext (q_loadB (i := 2) (bs := #[.slice ap0 np0 cp0, .int .i64 i0, .int .i64 (wadd (wmul h0 6364136223846793005) 1442695040888963407)]) hS47.g0 ON3 rfl rfl)), ?_⟩
  refine ⟨.int .i64 (sar (wadd (wmul h0 6364136223846793005) 1442695040888963407) 45), fun w49 hX50 => od_plain rfl (by have hS51 := hS12.ext hX50; have hB52 := hB11.trans (Ext.stp hX50 hS12.base); exact is_ext (g_shr (a := (wadd (wmul h0 6364136223846793005) 1442695040888963407)) (b := 45) rfl rfl ⟨by decide, by decide⟩)), ?_⟩
  refine ⟨.int .i64 (wxor (sar (wadd (wmul h0 6364136223846793005) 1442695040888963407) 33) (sar (wadd (wmul h0 6364136223846793005) 1442695040888963407) 45)), fun w53 hX54 => od_plain rfl (by have hS55 := hS12.ext hX54; have hB56 := hB11.trans (Ext.stp hX54 hS12.base); exact is_ext (q_wxor (a := (sar (wadd (wmul h0 6364136223846793005) 1442695040888963407) 33)) (b := (sar (wadd (wmul h0 6364136223846793005) 1442695040888963407) 45)) rfl rfl)), ?_⟩
  refine ⟨.int .i64 (wand (wxor (sar (wadd (wmul h0 6364136223846793005) 1442695040888963407) 33) (sar (wadd (wmul h0 6364136223846793005) 1442695040888963407) 45)) 255), fun w57 hX58 => od_plain rfl (by have hS59 := hS12.ext hX58; have hB60 := hB11.trans (Ext.stp hX58 hS12.base); exact is_ext (q_wand (a := (wxor (sar (wadd (wmul h0 6364136223846793005) 1442695040888963407) 33) (sar (wadd (wmul h0 6364136223846793005) 1442695040888963407) 45))) (b := 255) rfl rfl)), ?_⟩
  refine ⟨.int .i64 (wand (wxor (sar (wadd (wmul h0 6364136223846793005) 1442695040888963407) 33) (sar (wadd (wmul h0 6364136223846793005) 1442695040888963407) 45)) 255), fun w61 hX62 => od_plain rfl (by have hS63 := hS12.ext hX62; have hB64 := hB11.trans (Ext.stp hX62 hS12.base); exact is_ext (g_assign (v := .int .i64 (wand (wxor (sar (wadd (wmul h0 6364136223846793005) 1442695040888963407) 33) (sar (wadd (wmul h0 6364136223846793005) 1442695040888963407) 45)) 255)) rfl)), ?_⟩
  intro w65 hX66
  have hB67 := hB11.trans (Ext.stp hX66 hS12.base)
  have hS68 := hS12.ext hX66
  refine hK8 _ _ ?_
  refine w_seq fun K69 hK69 => ?_
  refine w_seq fun K70 hK70 => ?_
  refine w_draw (X := Ext) (Y := Ext) [] MIX (by decide +kernel) rfl Ext.refl (fun _ _ _ => Ext.trans) (fun _ _ _ => Chg.trans) (fun _ _ h => Ext.chg h _) (fun w71 hE72 => ?_)
  have hB73 := hB67.trans (Ext.stp hE72 hS68.base)
  have hS74 := hS68.ext hE72
  refine ⟨.pointer (some (⟨gp0, 0, none⟩ : Addr)), fun w75 hX76 => od_plain rfl (by have hS77 := hS74.ext hX76; have hB78 := hB73.trans (Ext.stp hX76 hS74.base); exact is_ext (g_move (v := .pointer (some (⟨gp0, 0, none⟩ : Addr))) rfl)), ?_⟩
  refine ⟨.pointer (some (⟨gp0, 0, none⟩ : Addr)), fun w79 hX80 => od_plain rfl (by have hS81 := hS74.ext hX80; have hB82 := hB73.trans (Ext.stp hX80 hS74.base); exact is_ext (g_nilCheck (q := (⟨gp0, 0, none⟩ : Addr)) rfl)), ?_⟩
  refine ⟨.pointer (some (((⟨gp0, 0, none⟩ : Addr)).add 1)), fun w83 hX84 => od_plain rfl (by have hS85 := hS74.ext hX84; have hB86 := hB73.trans (Ext.stp hX84 hS74.base); exact is_ext (g_fieldAddr (q := (⟨gp0, 0, none⟩ : Addr)) FL89_1 ON3 rfl)), ?_⟩
  refine ⟨.int .i64 i0, fun w87 hX88 => od_plain rfl (by have hS89 := hS74.ext hX88; have hB90 := hB73.trans (Ext.stp hX88 hS74.base); exact is_ext (q_loadB (i := 1) (bs := #[.slice ap0 np0 cp0, .int .i64 i0, .int .i64 (wadd (wmul h0 6364136223846793005) 1442695040888963407)]) hS89.g0 ON3 rfl rfl)), ?_⟩
  refine ⟨.pointer (some (⟨gp0, 0, none⟩ : Addr)), fun w91 hX92 => od_plain rfl (by have hS93 := hS74.ext hX92; have hB94 := hB73.trans (Ext.stp hX92 hS74.base); exact is_ext (g_move (v := .pointer (some (⟨gp0, 0, none⟩ : Addr))) rfl)), ?_⟩
  refine ⟨.pointer (some (⟨gp0, 0, none⟩ : Addr)), fun w95 hX96 => od_plain rfl (by have hS97 := hS74.ext hX96; have hB98 := hB73.trans (Ext.stp hX96 hS74.base); exact is_ext (g_nilCheck (q := (⟨gp0, 0, none⟩ : Addr)) rfl)), ?_⟩
  refine ⟨.pointer (some (((⟨gp0, 0, none⟩ : Addr)).add 0)), fun w99 hX100 => od_plain rfl (by have hS101 := hS74.ext hX100; have hB102 := hB73.trans (Ext.stp hX100 hS74.base); exact is_ext (g_fieldAddr (q := (⟨gp0, 0, none⟩ : Addr)) FL89_0 ON46 rfl)), ?_⟩
  refine ⟨.slice ap0 np0 cp0, fun w103 hX104 => od_plain rfl (by have hS105 := hS74.ext hX104; have hB106 := hB73.trans (Ext.stp hX104 hS74.base); exact is_ext (q_loadB (i := 0) (bs := #[.slice ap0 np0 cp0, .int .i64 i0, .int .i64 (wadd (wmul h0 6364136223846793005) 1442695040888963407)]) hS105.g0 ON46 rfl rfl)), ?_⟩
  refine ⟨.int .i64 (p0.length : Int), fun w107 hX108 => od_plain rfl (by have hS109 := hS74.ext hX108; have hB110 := hB73.trans (Ext.stp hX108 hS74.base); exact is_ext (q_len SL46 rfl (Vw.len (hp0.bel hB110)))), ?_⟩
  refine ⟨.bool (decide (i0 < (p0.length : Int))), fun w111 hX112 => od_plain rfl (by have hS113 := hS74.ext hX112; have hB114 := hB73.trans (Ext.stp hX112 hS74.base); exact is_ext (g_lss (a := i0) (b := (p0.length : Int)) rfl rfl)), ?_⟩
  intro w115 hX116
  have hB117 := hB73.trans (Ext.stp hX116 hS74.base)
  have hS118 := hS74.ext hX116
  refine hK70 _ _ ?_
  refine w_condI (p := i0 < (p0.length : Int)) (b := (decide (i0 < (p0.length : Int)))) rfl decide_eq_true_iff (fun h119 => ?_) (fun h119 => ?_)
  · replace hm := hm.1 h119
    refine w_seq fun K120 hK120 => ?_
    refine w_draw (X := Ext) (Y := Ext) [] MIX (by decide +kernel) rfl Ext.refl (fun _ _ _ => Ext.trans) (fun _ _ _ => Chg.trans) (fun _ _ h => Ext.chg h _) (fun w121 hE122 => ?_)
    have hB123 := hB117.trans (Ext.stp hE122 hS118.base)
    have hS124 := hS118.ext hE122
    refine ⟨.int .i64 (wand (wxor (sar (wadd (wmul h0 6364136223846793005) 1442695040888963407) 33) (sar (wadd (wmul h0 6364136223846793005) 1442695040888963407) 45)) 255), fun w125 hX126 => od_plain rfl (by have hS127 := hS124.ext hX126; have hB128 := hB123.trans (Ext.stp hX126 hS124.base); exact is_ext (g_move (v := .int .i64 (wand (wxor (sar (wadd (wmul h0 6364136223846793005) 1442695040888963407) 33) (sar (wadd (wmul h0 6364136223846793005) 1442695040888963407) 45)) 255)) rfl)), ?_⟩
    refine ⟨.pointer (some (⟨gp0, 0, none⟩ : Addr)), fun w129 hX130 => od_plain rfl (by have hS131 := hS124.ext hX130; have hB132 := hB123.trans (Ext.stp hX130 hS124.base); exact is_ext (g_move (v := .pointer (some (⟨gp0, 0, none⟩ : Addr))) rfl)), ?_⟩
    refine ⟨.pointer (some (⟨gp0, 0, none⟩ : Addr)), fun w133 hX134 => od_plain rfl (by have hS135 := hS124.ext hX134; have hB136 := hB123.trans (Ext.stp hX134 hS124.base); exact is_ext (g_nilCheck (q := (⟨gp0, 0, none⟩ : Addr)) rfl)), ?_⟩
    refine ⟨.pointer (some (((⟨gp0, 0, none⟩ : Addr)).add 0)), fun w137 hX138 => od_plain rfl (by have hS139 := hS124.ext hX138; have hB140 := hB123.trans (Ext.stp hX138 hS124.base); exact is_ext (g_fieldAddr (q := (⟨gp0, 0, none⟩ : Addr)) FL89_0 ON46 rfl)), ?_⟩
    refine ⟨.slice ap0 np0 cp0, fun w141 hX142 => od_plain rfl (by have hS143 := hS124.ext hX142; have hB144 := hB123.trans (Ext.stp hX142 hS124.base); exact is_ext (q_loadB (i := 0) (bs := #[.slice ap0 np0 cp0, .int .i64 i0, .int .i64 (wadd (wmul h0 6364136223846793005) 1442695040888963407)]) hS143.g0 ON46 rfl rfl)), ?_⟩
    refine ⟨.pointer (some (⟨gp0, 0, none⟩ : Addr)), fun w145 hX146 => od_plain rfl (by have hS147 := hS124.ext hX146; have hB148 := hB123.trans (Ext.stp hX146 hS124.base); exact is_ext (g_move (v := .pointer (some (⟨gp0, 0, none⟩ : Addr))) rfl)), ?_⟩
    refine ⟨.pointer (some (⟨gp0, 0, none⟩ : Addr)), fun w149 hX150 => od_plain rfl (by have hS151 := hS124.ext hX150; have hB152 := hB123.trans (Ext.stp hX150 hS124.base); exact is_ext (g_nilCheck (q := (⟨gp0, 0, none⟩ : Addr)) rfl)), ?_⟩
    refine ⟨.pointer (some (((⟨gp0, 0, none⟩ : Addr)).add 1)), fun w153 hX154 => od_plain rfl (by have hS155 := hS124.ext hX154; have hB156 := hB123.trans (Ext.stp hX154 hS124.base); exact is_ext (g_fieldAddr (q := (⟨gp0, 0, none⟩ : Addr)) FL89_1 ON3 rfl)), ?_⟩
    refine ⟨.int .i64 i0, fun w157 hX158 => od_plain rfl (by have hS159 := hS124.ext hX158; have hB160 := hB123.trans (Ext.stp hX158 hS124.base); exact is_ext (q_loadB (i := 1) (bs := #[.slice ap0 np0 cp0, .int .i64 i0, .int .i64 (wadd (wmul h0 6364136223846793005) 1442695040888963407)]) hS159.g0 ON3 rfl rfl)), ?_⟩
    obtain ⟨hg165, hm⟩ := hm
    refine ⟨.pointer (some ((adr ap0).add ((Int.toNat i0) * El.m Byte))), fun w161 hX162 => od_plain rfl (by have hS163 := hS124.ext hX162; have hB164 := hB123.trans (Ext.stp hX162 hS124.base); exact is_ext (q_index (i := i0) SL46 rfl rfl (hp0.bel hB164) hg165)), ?_⟩
    refine ⟨.int .u8 ((p0[(Int.toNat i0)]!).val : Int), fun w166 hX167 => od_plain rfl (by have hS168 := hS124.ext hX167; have hB169 := hB123.trans (Ext.stp hX167 hS124.base); exact is_ext (q_load (i := i0) (v := .int .u8 ((p0[(Int.toNat i0)]!).val : Int)) ON5 (hp0.bel hB169) hg165 rfl rfl)), ?_⟩
    refine ⟨.int .i64 ((p0[(Int.toNat i0)]!).val : Int), fun w170 hX171 => od_plain rfl (by have hS172 := hS124.ext hX171; have hB173 := hB123.trans (Ext.stp hX171 hS124.base); exact is_ext (g_conv8 (v := p0[(Int.toNat i0)]!) CV5_3 rfl)), ?_⟩
    refine ⟨.int .i64 (wadd (wand (wxor (sar (wadd (wmul h0 6364136223846793005) 1442695040888963407) 33) (sar (wadd (wmul h0 6364136223846793005) 1442695040888963407) 45)) 255) ((p0[(Int.toNat i0)]!).val : Int)), fun w174 hX175 => od_plain rfl (by have hS176 := hS124.ext hX175; have hB177 := hB123.trans (Ext.stp hX175 hS124.base); exact is_ext (q_wadd (a := (wand (wxor (sar (wadd (wmul h0 6364136223846793005) 1442695040888963407) 33) (sar (wadd (wmul h0 6364136223846793005) 1442695040888963407) 45)) 255)) (b := ((p0[(Int.toNat i0)]!).val : Int)) rfl rfl)), ?_⟩
    refine ⟨.int .i64 (wand (wadd (wand (wxor (sar (wadd (wmul h0 6364136223846793005) 1442695040888963407) 33) (sar (wadd (wmul h0 6364136223846793005) 1442695040888963407) 45)) 255) ((p0[(Int.toNat i0)]!).val : Int)) 255), fun w178 hX179 => od_plain rfl (by have hS180 := hS124.ext hX179; have hB181 := hB123.trans (Ext.stp hX179 hS124.base); exact is_ext (q_wand (a := (wadd (wand (wxor (sar (wadd (wmul h0 6364136223846793005) 1442695040888963407) 33) (sar (wadd (wmul h0 6364136223846793005) 1442695040888963407) 45)) 255) ((p0[(Int.toNat i0)]!).val : Int))) (b := 255) rfl rfl)), ?_⟩
    refine ⟨.int .i64 (wand (wadd (wand (wxor (sar (wadd (wmul h0 6364136223846793005) 1442695040888963407) 33) (sar (wadd (wmul h0 6364136223846793005) 1442695040888963407) 45)) 255) ((p0[(Int.toNat i0)]!).val : Int)) 255), fun w182 hX183 => od_plain rfl (by have hS184 := hS124.ext hX183; have hB185 := hB123.trans (Ext.stp hX183 hS124.base); exact is_ext (g_assign (v := .int .i64 (wand (wadd (wand (wxor (sar (wadd (wmul h0 6364136223846793005) 1442695040888963407) 33) (sar (wadd (wmul h0 6364136223846793005) 1442695040888963407) 45)) 255) ((p0[(Int.toNat i0)]!).val : Int)) 255)) rfl)), ?_⟩
    intro w186 hX187
    have hB188 := hB123.trans (Ext.stp hX187 hS124.base)
    have hS189 := hS124.ext hX187
    refine hK120 _ _ ?_
    refine w_region ?_
    refine wl_val (g_move (v := .pointer (some (⟨gp0, 0, none⟩ : Addr))) rfl) rfl ?_
    refine wl_val (g_move (v := .pointer (some (⟨gp0, 0, none⟩ : Addr))) rfl) rfl ?_
    refine wl_val (g_nilCheck (q := (⟨gp0, 0, none⟩ : Addr)) rfl) rfl ?_
    refine wl_val (g_fieldAddr (q := (⟨gp0, 0, none⟩ : Addr)) FL89_1 ON3 rfl) rfl ?_
    refine wl_val (q_loadB (i := 1) (bs := #[.slice ap0 np0 cp0, .int .i64 i0, .int .i64 (wadd (wmul h0 6364136223846793005) 1442695040888963407)]) hS189.g0 ON3 rfl rfl) rfl ?_
    obtain ⟨hg190, hm⟩ := hm
    refine wl_val (g_add (a := i0) (b := 1) rfl rfl hg190) rfl ?_
    refine wl_val (g_nilCheck (q := (⟨gp0, 0, none⟩ : Addr)) rfl) rfl ?_
    refine wl_val (g_fieldAddr (q := (⟨gp0, 0, none⟩ : Addr)) FL89_1 ON3 rfl) rfl ?_
    refine wl_step rfl (q_storeB (i := 1) (bs' := #[.slice ap0 np0 cp0, .int .i64 (i0 + 1), .int .i64 (wadd (wmul h0 6364136223846793005) 1442695040888963407)]) (vs := [.int .i64 (i0 + 1)]) hS189 ON3.sz rfl rfl rfl (by simp [Value.oneCell']) (Nat.le_of_ble_eq_true rfl) rfl) ?_
    rintro _ w191 ⟨rfl, hS192, hb193⟩
    have hB194 := hB188.trans hb193
    refine wl_nil ?_
    refine hK69 _ _ ?_
    refine w_seq fun K195 hK195 => ?_
    refine w_region ?_
    refine wl_val (g_move (v := .int .i64 (wand (wadd (wand (wxor (sar (wadd (wmul h0 6364136223846793005) 1442695040888963407) 33) (sar (wadd (wmul h0 6364136223846793005) 1442695040888963407) 45)) 255) ((p0[(Int.toNat i0)]!).val : Int)) 255)) rfl) rfl ?_
    refine wl_val (g_assign (v := .int .i64 (wand (wadd (wand (wxor (sar (wadd (wmul h0 6364136223846793005) 1442695040888963407) 33) (sar (wadd (wmul h0 6364136223846793005) 1442695040888963407) 45)) 255) ((p0[(Int.toNat i0)]!).val : Int)) 255)) rfl) rfl ?_
    refine wl_nil ?_
    refine hK195 _ _ ?_
    refine w_ret ?_
    repeat first | with_reducible refine q_then ?_ | with_reducible refine q_block ?_
    exact ret1 rfl (by decide) ⟨_, _, _, hm, rfl, hB194, hS192⟩
  · replace hm := hm.2 h119
    refine w_skip ?_
    refine hK69 _ _ ?_
    refine w_seq fun K196 hK196 => ?_
    refine w_region ?_
    refine wl_val (g_move (v := .int .i64 (wand (wxor (sar (wadd (wmul h0 6364136223846793005) 1442695040888963407) 33) (sar (wadd (wmul h0 6364136223846793005) 1442695040888963407) 45)) 255)) rfl) rfl ?_
    refine wl_val (g_assign (v := .int .i64 (wand (wxor (sar (wadd (wmul h0 6364136223846793005) 1442695040888963407) 33) (sar (wadd (wmul h0 6364136223846793005) 1442695040888963407) 45)) 255)) rfl) rfl ?_
    refine wl_nil ?_
    refine hK196 _ _ ?_
    refine w_ret ?_
    repeat first | with_reducible refine q_then ?_ | with_reducible refine q_block ?_
    exact ret1 rfl (by decide) ⟨_, _, _, hm, rfl, hB117, hS118⟩
theorem l01Byte_raw_ok {p0 : List Byte} {i0 h0 : Int} {Q : Int → Int → Int → Prop} (hl : p0.length ≤ 1099511627776) (hi : 0 ≤ i0) (hq : ∀ r i h, 0 ≤ r → r ≤ 255 → 0 ≤ i → Q r i h) : m_spec_l01Byte_raw p0 i0 h0 Q := by
  exact ⟨fun h => ⟨⟨hi, h⟩, by omega, hq _ _ _ (wand_rng (by decide) (by decide)).1 (wand_rng (by decide) (by decide)).2 (by omega)⟩, fun h => hq _ _ _ (wand_rng (by decide) (by decide)).1 (wand_rng (by decide) (by decide)).2 hi⟩
theorem m_spec_l01Byte_fn {B_ : Nat} {L_ : List Ob} {w : World} {gp0 : Nat} {ap0 : Option Addr} {np0 cp0 : Nat} {p0 : List Byte} {Q : Int → Prop} (hS0 : Sep w B_ (oCur 89 gp0 ap0 np0 cp0 :: L_)) (hp0 : Vw B_ w ap0 np0 cp0 p0) (hm : m_spec_l01Byte Q) :
    Fn Try.prog 98 #[.pointer (some (⟨gp0, 0, none⟩ : Addr))] w (fun v w' => ∃ (r0 : Int), Q r0 ∧ v = .int .i64 r0 ∧ Below B_ w w' ∧ Sep w' B_ (oCur 89 gp0 ap0 np0 cp0 :: L_)) := by
  obtain ⟨i, h, hi, hl, hS⟩ := hS0.uncur
  have hn := hp0.len
  refine (m_spec_l01Byte_raw_fn (Q := fun r i _ => 0 ≤ i ∧ Q r) hS hp0 (l01Byte_raw_ok (by omega) hi fun r i _ h1 h2 h3 => ⟨h3, hm r h1 h2⟩)).mono ?_
  rintro v w' ⟨r0, xi, xh, ⟨h0, hQ⟩, hv, hB, hS'⟩
  exact ⟨r0, hQ, hv, hB, hS'.cur h0 hl⟩

theorem m_spec_l01Below_fn {w : World} {B_ : Nat} {L_ : List Ob} {gp0 : Nat} {ap0 : Option Addr} {np0 cp0 : Nat} {p0 : List Byte} {Q : Int → Prop} (hS0 : Sep w B_ (oCur 89 gp0 ap0 np0 cp0 :: L_)) (hp0 : Vw B_ w ap0 np0 cp0 p0) (p1 : Int) (hm : m_spec_l01Below p1 Q) :
    Fn Try.prog 94 #[.pointer (some (⟨gp0, 0, none⟩ : Addr)), .int .i64 p1] w (fun v w' => ∃ (r0 : Int), Q r0 ∧ v = .int .i64 r0 ∧ Below B_ w w' ∧ Sep w' B_ (oCur 89 gp0 ap0 np0 cp0 :: L_)) := by
  unfold m_spec_l01Below at hm
  have hB0 := Below.refl B_ w
  refine fn_of_wp Try.func94 rfl (by kernel_rfl) (Nat.le_of_ble_eq_true rfl) ?_
  refine w_seq fun K2 hK2 => ?_
  refine w_region ?_
  refine wl_val (g_assign (v := .int .i64 0) rfl) rfl ?_
  refine wl_nil ?_
  refine hK2 _ _ ?_
  refine w_seq fun K3 hK3 => ?_
  refine w_seq fun K4 hK4 => ?_
  refine w_region ?_
  refine wl_val (g_move (v := .int .i64 p1) rfl) rfl ?_
  refine wl_val (g_leq (a := p1) (b := 0) rfl rfl) rfl ?_
  refine wl_nil ?_
  refine hK4 _ _ ?_
  refine w_condI (p := p1 ≤ 0) (b := (decide (p1 ≤ 0))) rfl decide_eq_true_iff (fun h5 => ?_) (fun h5 => ?_)
  · replace hm := hm.1 h5
    refine w_seq fun K6 hK6 => ?_
    refine w_region ?_
    refine wl_val (g_assign (v := .int .i64 0) rfl) rfl ?_
    refine wl_nil ?_
    refine hK6 _ _ ?_
    refine w_ret ?_
    repeat first | with_reducible refine q_then ?_ | with_reducible refine q_block ?_
    exact ret1 rfl (by decide) ⟨_, hm, rfl, hB0, hS0⟩
  · replace hm := hm.2 h5
    refine w_skip ?_
    refine hK3 _ _ ?_
    refine w_seq fun K7 hK7 => ?_
    refine w_seq fun K8 hK8 => ?_
    refine w_region ?_
    refine wl_val (g_move (v := .int .i64 p1) rfl) rfl ?_
    refine wl_val (g_leq (a := p1) (b := 256) rfl rfl) rfl ?_
    refine wl_nil ?_
    refine hK8 _ _ ?_
    refine w_condI (p := p1 ≤ 256) (b := (decide (p1 ≤ 256))) rfl decide_eq_true_iff (fun h9 => ?_) (fun h9 => ?_)
    · replace hm := hm.1 h9
      refine w_seq fun K10 hK10 => ?_
      refine w_region ?_
      refine wl_val (g_move (v := .pointer (some (⟨gp0, 0, none⟩ : Addr))) rfl) rfl ?_
      refine wl_step rfl (g_call (vs := #[.pointer (some (⟨gp0, 0, none⟩ : Addr))]) CF98 (args1 rfl) (m_spec_l01Byte_fn hS0 (hp0.bel hB0) hm)) ?_
      rintro _ w11 ⟨r14, hm, rfl, hb12, hS13⟩
      have hB15 := hB0.trans hb12
      refine wl_val (g_move (v := .int .i64 p1) rfl) rfl ?_
      obtain ⟨hg16, hm⟩ := hm
      refine wl_val (g_rem (a := r14) (b := p1) rfl rfl hg16) rfl ?_
      refine wl_val (g_assign (v := .int .i64 (Int.tmod r14 p1)) rfl) rfl ?_
      refine wl_nil ?_
      refine hK10 _ _ ?_
      refine w_ret ?_
      repeat first | with_reducible refine q_then ?_ | with_reducible refine q_block ?_
      exact ret1 rfl (by decide) ⟨_, hm, rfl, hB15, hS13⟩
    · replace hm := hm.2 h9
      refine w_skip ?_
      refine hK7 _ _ ?_
      refine w_seq fun K17 hK17 => ?_
      refine w_region ?_
      refine wl_val (g_move (v := .pointer (some (⟨gp0, 0, none⟩ : Addr))) rfl) rfl ?_
      refine wl_step rfl (g_call (vs := #[.pointer (some (⟨gp0, 0, none⟩ : Addr))]) CF98 (args1 rfl) (m_spec_l01Byte_fn hS0 (hp0.bel hB0) hm)) ?_
      rintro _ w18 ⟨r21, hm, rfl, hb19, hS20⟩
      have hB22 := hB0.trans hb19
      refine wl_val (g_assign (v := .int .i64 r21) rfl) rfl ?_
      refine wl_nil ?_
      refine hK17 _ _ ?_
      refine w_seq fun K23 hK23 => ?_
      refine w_region ?_
      refine wl_val (g_move (v := .pointer (some (⟨gp0, 0, none⟩ : Addr))) rfl) rfl ?_
      refine wl_step rfl (g_call (vs := #[.pointer (some (⟨gp0, 0, none⟩ : Addr))]) CF98 (args1 rfl) (m_spec_l01Byte_fn hS20 (hp0.bel hB22) hm)) ?_
      rintro _ w24 ⟨r27, hm, rfl, hb25, hS26⟩
      have hB28 := hB22.trans hb25
      refine wl_val (g_assign (v := .int .i64 r27) rfl) rfl ?_
      refine wl_nil ?_
      refine hK23 _ _ ?_
      refine w_seq fun K29 hK29 => ?_
      refine w_region ?_
      refine wl_val (g_move (v := .pointer (some (⟨gp0, 0, none⟩ : Addr))) rfl) rfl ?_
      refine wl_step rfl (g_call (vs := #[.pointer (some (⟨gp0, 0, none⟩ : Addr))]) CF98 (args1 rfl) (m_spec_l01Byte_fn hS26 (hp0.bel hB28) hm)) ?_
      rintro _ w30 ⟨r33, hm, rfl, hb31, hS32⟩
      have hB34 := hB28.trans hb31
      refine wl_val (g_assign (v := .int .i64 r33) rfl) rfl ?_
      refine wl_nil ?_
      refine hK29 _ _ ?_
      refine w_seq fun K35 hK35 => ?_
      refine w_region ?_
      refine wl_val (g_move (v := .pointer (some (⟨gp0, 0, none⟩ : Addr))) rfl) rfl ?_
      refine wl_step rfl (g_call (vs := #[.pointer (some (⟨gp0, 0, none⟩ : Addr))]) CF98 (args1 rfl) (m_spec_l01Byte_fn hS32 (hp0.bel hB34) hm)) ?_
      rintro _ w36 ⟨r39, hm, rfl, hb37, hS38⟩
      have hB40 := hB34.trans hb37
      refine wl_val (g_assign (v := .int .i64 r39) rfl) rfl ?_
      refine wl_nil ?_
      refine hK35 _ _ ?_
      refine w_seq fun K41 hK41 => ?_
      refine w_region ?_
      refine wl_val (g_move (v := .int .i64 r21) rfl) rfl ?_
      obtain ⟨hg42, hm⟩ := hm
      refine wl_val (g_mul (a := r21) (b := 16777216) rfl rfl hg42) rfl ?_
      refine wl_val (g_move (v := .int .i64 r27) rfl) rfl ?_
      obtain ⟨hg43, hm⟩ := hm
      refine wl_val (g_mul (a := r27) (b := 65536) rfl rfl hg43) rfl ?_
      obtain ⟨hg44, hm⟩ := hm
      refine wl_val (g_add (a := (r21 * 16777216)) (b := (r27 * 65536)) rfl rfl hg44) rfl ?_
      refine wl_val (g_move (v := .int .i64 r33) rfl) rfl ?_
      obtain ⟨hg45, hm⟩ := hm
      refine wl_val (g_mul (a := r33) (b := 256) rfl rfl hg45) rfl ?_
      obtain ⟨hg46, hm⟩ := hm
      refine wl_val (g_add (a := ((r21 * 16777216) + (r27 * 65536))) (b := (r33 * 256)) rfl rfl hg46) rfl ?_
      refine wl_val (g_move (v := .int .i64 r39) rfl) rfl ?_
      obtain ⟨hg47, hm⟩ := hm
      refine wl_val (g_add (a := (((r21 * 16777216) + (r27 * 65536)) + (r33 * 256))) (b := r39) rfl rfl hg47) rfl ?_
      refine wl_val (g_move (v := .int .i64 p1) rfl) rfl ?_
      obtain ⟨hg48, hm⟩ := hm
      refine wl_val (g_rem (a := ((((r21 * 16777216) + (r27 * 65536)) + (r33 * 256)) + r39)) (b := p1) rfl rfl hg48) rfl ?_
      refine wl_val (g_assign (v := .int .i64 (Int.tmod ((((r21 * 16777216) + (r27 * 65536)) + (r33 * 256)) + r39) p1)) rfl) rfl ?_
      refine wl_nil ?_
      refine hK41 _ _ ?_
      refine w_ret ?_
      repeat first | with_reducible refine q_then ?_ | with_reducible refine q_block ?_
      exact ret1 rfl (by decide) ⟨_, hm, rfl, hB40, hS38⟩

theorem m_spec_l15Players_fn {w : World} {B_ : Nat} {L_ : List Ob} {gp0 : Nat} {ap0 : Option Addr} {np0 cp0 : Nat} {p0 : List Byte} {Q : (List PlayerC) → Prop} (hS0 : Sep w B_ (oCur 89 gp0 ap0 np0 cp0 :: L_)) (hp0 : Vw B_ w ap0 np0 cp0 p0) (hm : m_spec_l15Players Q) :
    Fn Try.prog 86 #[.pointer (some (⟨gp0, 0, none⟩ : Addr))] w (fun v w' => ∃ (r0 : List PlayerC) (a0 : Option Addr) (n0 c0 : Nat) (y0 : List PlayerD), Q r0 ∧ ers y0 = r0 ∧ v = .slice a0 n0 c0 ∧ Below B_ w w' ∧ Sep w' B_ (oS 54 a0 n0 c0 y0 :: oT 3 y0 :: oCur 89 gp0 ap0 np0 cp0 :: L_)) := by
  unfold m_spec_l15Players at hm
  have hB0 := Below.refl B_ w
  refine fn_of_wp Try.func86 rfl (by kernel_rfl) (Nat.le_of_ble_eq_true rfl) ?_
  refine w_seq fun K2 hK2 => ?_
  refine w_region ?_
  refine wl_val (g_assign (v := .slice none 0 0) rfl) rfl ?_
  refine wl_nil ?_
  refine hK2 _ _ ?_
  refine w_seq fun K3 hK3 => ?_
  refine w_region ?_
  refine wl_step rfl (q_lit0 (α := PlayerD) rfl SL27 hS0) ?_
  rintro _ w4 ⟨a5, rfl, hS7, hE6⟩
  have hB9 := hB0.trans (Ext.stp hE6 hS0.base)
  have hS10 := hS7.noRows (δ := PlayerD) (E := 3)
  have he12 : ers ([] : List PlayerD) = ([] : List PlayerC) := rfl
  refine wl_val (g_assign (v := .slice a5 0 0) rfl) rfl ?_
  refine wl_nil ?_
  refine hK3 _ _ ?_
  refine w_seq fun K14 hK14 => ?_
  refine w_region ?_
  refine wl_val (g_move (v := .pointer (some (⟨gp0, 0, none⟩ : Addr))) rfl) rfl ?_
  have hS15 := hS10.f2
  refine wl_step rfl (g_call (vs := #[.pointer (some (⟨gp0, 0, none⟩ : Addr)), .int .i64 3]) CF94 (args2 rfl rfl) (m_spec_l01Below_fn hS15 (hp0.bel hB9) 3 hm)) ?_
  rintro _ w16 ⟨r19, hm, rfl, hb17, hS18⟩
  have hB20 := hB9.trans hb17
  obtain ⟨hg21, hm⟩ := hm
  refine wl_val (g_add (a := 1) (b := r19) rfl rfl hg21) rfl ?_
  refine wl_val (g_assign (v := .int .i64 (1 + r19)) rfl) rfl ?_
  refine wl_nil ?_
  refine hK14 _ _ ?_
  refine w_cut (σ := List PlayerC × Option Addr × Nat × Nat × List PlayerD) (fun ⟨x743, a744, n745, c746, y747⟩ => [(3, .slice a744 n745 c746)]) (fun ⟨x743, a744, n745, c746, y747⟩ w' => m_spec_l15Players_K2 Q x743 ∧ ers y747 = x743 ∧ Below B_ w w' ∧ Sep w' B_ (oCur 89 gp0 ap0 np0 cp0 :: oS 54 a744 n745 c746 (y747 : List PlayerD) :: oT 3 (y747 : List PlayerD) :: L_)) ?_ ?_
  · refine w_seq fun K750 hK750 => ?_
    refine w_region ?_
    refine wl_val (g_assign (v := .int .i64 0) rfl) rfl ?_
    refine wl_nil ?_
    refine hK750 _ _ ?_
    refine w_block ?_
    have hS758 := hS18.f1
    have hS759 := hS758.f2
    have hS760 := hS759.f2
    obtain ⟨I761, μ762, h0763, hr764⟩ := hm
    refine w_for (σ := List PlayerC × Option Addr × Nat × Nat × List PlayerD × Int) (fun ⟨x751, a752, n753, c754, y755, v757⟩ => [(0, .pointer (some (⟨gp0, 0, none⟩ : Addr))), (3, .slice a752 n753 c754), (4, .int .i64 (1 + r19)), (5, .int .i64 v757)]) (fun ⟨x751, a752, n753, c754, y755, v757⟩ w' => I761 x751 v757 ∧ ers y755 = x751 ∧ Below B_ w w' ∧ Sep w' B_ (oCur 89 gp0 ap0 np0 cp0 :: oS 54 a752 n753 c754 (y755 : List PlayerD) :: oT 3 (y755 : List PlayerD) :: L_)) (fun ⟨x751, a752, n753, c754, y755, v757⟩ => μ762 x751 v757) ([], a5, 0, 0, [], 0) ⟨rfl, rfl, rfl, rfl, trivial⟩ ⟨h0763, he12, hB20, hS760⟩ ?_
    rintro ⟨x751, a752, n753, c754, y755, v757⟩ b_ w765 ⟨hi_, he756, hB766, hS767⟩
    show Wp _ _ _ _ (upds b_ [(0, .pointer (some (⟨gp0, 0, none⟩ : Addr))), (3, .slice a752 n753 c754), (4, .int .i64 (1 + r19)), (5, .int .i64 v757)]) w765
    have hm := hr764 x751 v757 hi_
    refine w_seq fun K769 hK769 => ?_
    refine w_seq fun K770 hK770 => ?_
    refine w_region ?_
    refine wl_val (g_move (v := .int .i64 v757) rfl) rfl ?_
    refine wl_val (g_move (v := .int .i64 (1 + r19)) rfl) rfl ?_
    refine wl_val (g_lss (a := v757) (b := (1 + r19)) rfl rfl) rfl ?_
    refine wl_nil ?_
    refine hK770 _ _ ?_
    refine w_condI (p := v757 < (1 + r19)) (b := (decide (v757 < (1 + r19)))) rfl decide_eq_true_iff (fun h771 => ?_) (fun h771 => ?_)
    · replace hm := hm.1 h771
      refine w_skip ?_
      refine hK769 _ _ ?_
      refine w_cut (σ := List PlayerC × Option Addr × Nat × Nat × List PlayerD) (fun ⟨x772, a773, n774, c775, y776⟩ => [(0, .pointer (some (⟨gp0, 0, none⟩ : Addr))), (3, .slice a773 n774 c775), (4, .int .i64 (1 + r19)), (5, .int .i64 v757)]) (fun ⟨x772, a773, n774, c775, y776⟩ w' => m_spec_l15Players_K1 v757 (fun x751' v757' => I761 x751' v757' ∧ μ762 x751' v757' < μ762 x751 v757) x772 ∧ ers y776 = x772 ∧ Below B_ w w' ∧ Sep w' B_ (oCur 89 gp0 ap0 np0 cp0 :: oS 54 a773 n774 c775 (y776 : List PlayerD) :: oT 3 (y776 : List PlayerD) :: L_)) ?_ ?_
      · refine w_block ?_
        refine w_seq fun K779 hK779 => ?_
        refine w_region ?_
        refine wl_val (g_move (v := .pointer (some (⟨gp0, 0, none⟩ : Addr))) rfl) rfl ?_
        refine wl_step rfl (g_call (vs := #[.pointer (some (⟨gp0, 0, none⟩ : Addr)), .int .i64 2]) CF94 (args2 rfl rfl) (m_spec_l01Below_fn hS767 (hp0.bel hB766) 2 hm)) ?_
        rintro _ w780 ⟨r783, hm, rfl, hb781, hS782⟩
        have hB784 := hB766.trans hb781
        obtain ⟨hg785, hm⟩ := hm
        refine wl_val (g_add (a := 1) (b := r783) rfl rfl hg785) rfl ?_
        refine wl_val (g_build (v := .agg #[.slice none 0 0, .int .i64 (1 + r783)]) (parts1 rfl) (BD54_1 (1 + r783))) rfl ?_
        refine wl_step rfl (q_alloc (cs := #[.slice none 0 0, .int .i64 0]) ZR54 rfl hS782) ?_
        rintro _ w786 ⟨g787, rfl, hS789, hE788⟩
        have hB791 := hB784.trans (Ext.stp hE788 hS782.base)
        refine wl_step rfl (q_storeB (i := 0) (bs' := #[.slice none 0 0, .int .i64 (1 + r783)]) (vs := [.slice none 0 0, .int .i64 (1 + r783)]) hS789 AG54.sz rfl rfl rfl (by simp [Value.oneCell']) (Nat.le_of_ble_eq_true rfl) rfl) ?_
        rintro _ w792 ⟨rfl, hS793, hb794⟩
        have hB795 := hB791.trans hb794
        refine wl_nil ?_
        refine hK779 _ _ ?_
        refine w_cut (σ := List Int × Option Addr × Nat × Nat) (fun ⟨x901, a902, n903, c904⟩ => [(0, .pointer (some (⟨gp0, 0, none⟩ : Addr))), (3, .slice a752 n753 c754), (4, .int .i64 (1 + r19)), (5, .int .i64 v757), (6, .pointer (some (⟨g787, 0, none⟩ : Addr)))]) (fun ⟨x901, a902, n903, c904⟩ w' => m_spec_l15Players_K0 x751 r783 (m_spec_l15Players_K1 v757 (fun x751' v757' => I761 x751' v757' ∧ μ762 x751' v757' < μ762 x751 v757)) x901 ∧ Below B_ w w' ∧ Sep w' B_ (oCur 89 gp0 ap0 np0 cp0 :: oS 54 a752 n753 c754 (y755 : List PlayerD) :: oT 3 (y755 : List PlayerD) :: oB g787 54 #[.slice a902 n903 c904, .int .i64 (1 + r783)] :: oS 3 a902 n903 c904 (x901 : List Int) :: L_)) ?_ ?_
        · refine w_seq fun K907 hK907 => ?_
          refine w_region ?_
          refine wl_val (g_assign (v := .int .i64 0) rfl) rfl ?_
          refine wl_nil ?_
          refine hK907 _ _ ?_
          refine w_block ?_
          have hS914 := hS793.nilS (α := Int) (E := 3)
          have hS916 := hS914.f1
          have hS917 := hS916.f4
          have hS918 := hS917.f4
          have hS919 := hS918.f4
          obtain ⟨I920, μ921, h0922, hr923⟩ := hm
          refine w_for (σ := Int × List Int × Option Addr × Nat × Nat) (fun ⟨v908, x909, a910, n911, c912⟩ => [(0, .pointer (some (⟨gp0, 0, none⟩ : Addr))), (3, .slice a752 n753 c754), (4, .int .i64 (1 + r19)), (5, .int .i64 v757), (6, .pointer (some (⟨g787, 0, none⟩ : Addr))), (7, .int .i64 v908)]) (fun ⟨v908, x909, a910, n911, c912⟩ w' => I920 v908 x909 ∧ Below B_ w w' ∧ Sep w' B_ (oCur 89 gp0 ap0 np0 cp0 :: oS 54 a752 n753 c754 (y755 : List PlayerD) :: oT 3 (y755 : List PlayerD) :: oB g787 54 #[.slice a910 n911 c912, .int .i64 (1 + r783)] :: oS 3 a910 n911 c912 (x909 : List Int) :: L_)) (fun ⟨v908, x909, a910, n911, c912⟩ => μ921 v908 x909) (0, [], none, 0, 0) ⟨rfl, rfl, rfl, rfl, rfl, rfl, trivial⟩ ⟨h0922, hB795, hS919⟩ ?_
          rintro ⟨v908, x909, a910, n911, c912⟩ b_ w924 ⟨hi_, hB925, hS926⟩
          show Wp _ _ _ _ (upds b_ [(0, .pointer (some (⟨gp0, 0, none⟩ : Addr))), (3, .slice a752 n753 c754), (4, .int .i64 (1 + r19)), (5, .int .i64 v757), (6, .pointer (some (⟨g787, 0, none⟩ : Addr))), (7, .int .i64 v908)]) w924
          have hm := hr923 v908 x909 hi_
          refine w_seq fun K928 hK928 => ?_
          refine w_seq fun K929 hK929 => ?_
          refine w_region ?_
          refine wl_val (g_move (v := .int .i64 v908) rfl) rfl ?_
          refine wl_val (g_lss (a := v908) (b := 5) rfl rfl) rfl ?_
          refine wl_nil ?_
          refine hK929 _ _ ?_
          refine w_condI (p := v908 < 5) (b := (decide (v908 < 5))) rfl decide_eq_true_iff (fun h930 => ?_) (fun h930 => ?_)
          · replace hm := hm.1 h930
            refine w_skip ?_
            refine hK928 _ _ ?_
            refine w_seq fun K931 hK931 => ?_
            refine w_block ?_
            refine w_seq fun K932 hK932 => ?_
            refine w_region ?_
            refine wl_val (g_move (v := .pointer (some (⟨gp0, 0, none⟩ : Addr))) rfl) rfl ?_
            refine wl_step rfl (g_call (vs := #[.pointer (some (⟨gp0, 0, none⟩ : Addr)), .int .i64 3]) CF94 (args2 rfl rfl) (m_spec_l01Below_fn hS926 (hp0.bel hB925) 3 hm)) ?_
            rintro _ w933 ⟨r936, hm, rfl, hb934, hS935⟩
            have hB937 := hB925.trans hb934
            refine wl_val (g_gtr (a := r936) (b := 0) rfl rfl) rfl ?_
            refine wl_nil ?_
            refine hK932 _ _ ?_
            refine w_condI (p := r936 > 0) (b := (decide (r936 > 0))) rfl decide_eq_true_iff (fun h938 => ?_) (fun h938 => ?_)
            · replace hm := hm.1 h938
              refine w_region ?_
              refine wl_val (g_fieldAddr (q := (⟨g787, 0, none⟩ : Addr)) FL54_0 ON23 rfl) rfl ?_
              refine wl_val (q_loadB (i := 0) (bs := #[.slice a910 n911 c912, .int .i64 (1 + r783)]) hS935.g3 ON23 rfl rfl) rfl ?_
              refine wl_val (g_move (v := .int .i64 v908) rfl) rfl ?_
              refine wl_step rfl (q_lit1 (y := (v908 : Int)) SL23 rfl rfl (by decide) hS935) ?_
              rintro _ w939 ⟨a940, rfl, hS942, hE941⟩
              have hB944 := hB937.trans (Ext.stp hE941 hS935.base)
              have hS950 := hS942.f5
              obtain ⟨hg951, hm⟩ := hm
              refine wl_step rfl (q_append SL23 rfl rfl hS950 (oS.vw hS950.g1) hg951 (by decide)) ?_
              rintro _ w945 ⟨a946, c947, rfl, hS949, hb948⟩
              have hB952 := hB944.trans hb948
              refine wl_val (g_fieldAddr (q := (⟨g787, 0, none⟩ : Addr)) FL54_0 ON23 rfl) rfl ?_
              have hS956 := hS949.f5
              refine wl_step rfl (q_storeB (i := 0) (bs' := #[.slice a946 (n911 + 1) c947, .int .i64 (1 + r783)]) (vs := [.slice a946 (n911 + 1) c947]) hS956 ON23.sz rfl rfl rfl (by simp [Value.oneCell']) (Nat.le_of_ble_eq_true rfl) rfl) ?_
              rintro _ w953 ⟨rfl, hS954, hb955⟩
              have hB957 := hB952.trans hb955
              refine wl_nil ?_
              refine hK931 _ _ ?_
              refine w_region ?_
              refine wl_val (g_move (v := .int .i64 v908) rfl) rfl ?_
              obtain ⟨hg958, hm⟩ := hm
              refine wl_val (g_add (a := v908) (b := 1) rfl rfl hg958) rfl ?_
              refine wl_val (g_assign (v := .int .i64 (v908 + 1)) rfl) rfl ?_
              refine wl_nil ?_
              have hS959 := hS954.f2
              have hS960 := hS959.tail
              have hS961 := hS960.f1
              have hS962 := hS961.f1
              have hS963 := hS962.f4
              have hS964 := hS963.f4
              have hS965 := hS964.f4
              exact ⟨((v908 + 1), (x909 ++ ([v908])), a946, (n911 + 1), c947), hm.2, ⟨rfl, rfl, rfl, rfl, rfl, rfl, trivial⟩, ⟨hm.1, hB957, hS965⟩⟩
            · replace hm := hm.2 h938
              refine w_skip ?_
              refine hK931 _ _ ?_
              refine w_region ?_
              refine wl_val (g_move (v := .int .i64 v908) rfl) rfl ?_
              obtain ⟨hg966, hm⟩ := hm
              refine wl_val (g_add (a := v908) (b := 1) rfl rfl hg966) rfl ?_
              refine wl_val (g_assign (v := .int .i64 (v908 + 1)) rfl) rfl ?_
              refine wl_nil ?_
              exact ⟨((v908 + 1), x909, a910, n911, c912), hm.2, ⟨rfl, rfl, rfl, rfl, rfl, rfl, trivial⟩, ⟨hm.1, hB937, hS935⟩⟩
          · replace hm := hm.2 h930
            refine w_exit ?_
            exact ⟨(x909, a910, n911, c912), ⟨rfl, rfl, rfl, rfl, rfl, trivial⟩, ⟨hm, hB925, hS926⟩⟩
        · rintro ⟨x901, a902, n903, c904⟩ b_ w967 ⟨hm, hB968, hS969⟩
          show Wp _ _ _ _ (upds b_ [(0, .pointer (some (⟨gp0, 0, none⟩ : Addr))), (3, .slice a752 n753 c754), (4, .int .i64 (1 + r19)), (5, .int .i64 v757), (6, .pointer (some (⟨g787, 0, none⟩ : Addr)))]) w967
          refine w_region ?_
          refine wl_val (g_move (v := .slice a752 n753 c754) rfl) rfl ?_
          refine wl_val (q_loadBS (bs := #[.slice a902 n903 c904, .int .i64 (1 + r783)]) hS969.g3 AG54 rfl) rfl ?_
          have hS975 := hS969.f4
          have hn976 := oS.len hS975.g0
          have hS977 := hS975.rowsPlayer (1 + r783)
          have he974 : ers [(((a902, c904, x901), (1 + r783)) : PlayerD)] = [(x901, (1 + r783))] := rfl
          refine wl_step rfl (q_lit1 (y := ((((a902, c904, x901), (1 + r783)) : PlayerD) : PlayerD)) SL27 rfl (by rw [hn976]; rfl) (by decide) hS977) ?_
          rintro _ w970 ⟨a971, rfl, hS973, hE972⟩
          have hB980 := hB968.trans (Ext.stp hE972 hS977.base)
          have hS987 := hS973.f3
          obtain ⟨hg988, hm⟩ := hm
          have hl989 : (y755).length + ([(((a902, c904, x901), (1 + r783)) : PlayerD)]).length ≤ 1099511627776 := by have h1 := congrArg List.length he756; have h2 := congrArg List.length he974; have h3 := hg988; simp only [ers, List.length_map, List.length_append, List.length_cons, List.length_nil, List.length_replicate, List.length_set] at h1 h2 h3 ⊢; omega
          refine wl_step rfl (q_append SL27 rfl rfl hS987 (oS.vw hS987.g1) hl989 (by decide)) ?_
          rintro _ w982 ⟨a983, c984, rfl, hS986, hb985⟩
          have hB990 := hB980.trans hb985
          have hS991 := hS986.f1
          have hS992 := hS991.tail
          have hS993 := hS992.f3
          have hS994 := hS993.f2
          have hS995 := hS994.catRows
          have he996 : ers (y755 ++ ([(((a902, c904, x901), (1 + r783)) : PlayerD)])) = (x751 ++ ([(x901, (1 + r783))])) := by rw [← he756, ← he974]; exact List.map_append
          refine wl_val (g_assign (v := .slice a983 (n753 + 1) c984) rfl) rfl ?_
          refine wl_nil ?_
          have hS997 := hS995.f3
          have hS998 := hS997.tail
          have hS999 := hS998.f1
          have hS1000 := hS999.f2
          exact ⟨((x751 ++ ([(x901, (1 + r783))])), a983, (n753 + 1), c984, (y755 ++ ([(((a902, c904, x901), (1 + r783)) : PlayerD)]))), ⟨rfl, rfl, rfl, rfl, trivial⟩, ⟨hm, he996, hB990, hS1000⟩⟩
      · rintro ⟨x772, a773, n774, c775, y776⟩ b_ w1001 ⟨hm, he777, hB1002, hS1003⟩
        show Wp _ _ _ _ (upds b_ [(0, .pointer (some (⟨gp0, 0, none⟩ : Addr))), (3, .slice a773 n774 c775), (4, .int .i64 (1 + r19)), (5, .int .i64 v757)]) w1001
        refine w_region ?_
        refine wl_val (g_move (v := .int .i64 v757) rfl) rfl ?_
        obtain ⟨hg1004, hm⟩ := hm
        refine wl_val (g_add (a := v757) (b := 1) rfl rfl hg1004) rfl ?_
        refine wl_val (g_assign (v := .int .i64 (v757 + 1)) rfl) rfl ?_
        refine wl_nil ?_
        exact ⟨(x772, a773, n774, c775, y776, (v757 + 1)), hm.2, ⟨rfl, rfl, rfl, rfl, trivial⟩, ⟨hm.1, he777, hB1002, hS1003⟩⟩
    · replace hm := hm.2 h771
      refine w_exit ?_
      exact ⟨(x751, a752, n753, c754, y755), ⟨rfl, trivial⟩, ⟨hm, he756, hB766, hS767⟩⟩
  · rintro ⟨x743, a744, n745, c746, y747⟩ b_ w1005 ⟨hm, he748, hB1006, hS1007⟩
    show Wp _ _ _ _ (upds b_ [(3, .slice a744 n745 c746)]) w1005
    refine w_seq fun K1008 hK1008 => ?_
    refine w_region ?_
    refine wl_val (g_move (v := .slice a744 n745 c746) rfl) rfl ?_
    refine wl_val (g_assign (v := .slice a744 n745 c746) rfl) rfl ?_
    refine wl_nil ?_
    refine hK1008 _ _ ?_
    refine w_ret ?_
    have hS1009 := hS1007.f2
    have hS1010 := hS1009.f2
    repeat first | with_reducible refine q_then ?_ | with_reducible refine q_block ?_
    exact ret1 rfl (by decide) ⟨_, _, _, _, _, hm, he748, rfl, hB1006, hS1010⟩

theorem m_spec_l01Once_fn {w : World} {B_ : Nat} {L_ : List Ob} {gp0 : Nat} {ap0 : Option Addr} {np0 cp0 : Nat} {p0 : List Byte} {Q : Bool → Prop} (hS0 : Sep w B_ (oCur 89 gp0 ap0 np0 cp0 :: L_)) (hp0 : Vw B_ w ap0 np0 cp0 p0) (p1 : Int) (hm : m_spec_l01Once p1 Q) :
    Fn Try.prog 82 #[.pointer (some (⟨gp0, 0, none⟩ : Addr)), .int .i64 p1] w (fun v w' => ∃ (r0 : Bool), Q r0 ∧ v = .bool r0 ∧ Below B_ w w' ∧ Sep w' B_ (oCur 89 gp0 ap0 np0 cp0 :: L_)) := by
  unfold m_spec_l01Once at hm
  have hB0 := Below.refl B_ w
  refine fn_of_wp Try.func82 rfl (by kernel_rfl) (Nat.le_of_ble_eq_true rfl) ?_
  refine w_seq fun K2 hK2 => ?_
  refine w_region ?_
  refine wl_val (g_assign (v := .bool false) rfl) rfl ?_
  refine wl_nil ?_
  refine hK2 _ _ ?_
  refine w_seq fun K3 hK3 => ?_
  refine w_region ?_
  refine wl_val (g_move (v := .pointer (some (⟨gp0, 0, none⟩ : Addr))) rfl) rfl ?_
  refine wl_val (g_move (v := .int .i64 p1) rfl) rfl ?_
  refine wl_step rfl (g_call (vs := #[.pointer (some (⟨gp0, 0, none⟩ : Addr)), .int .i64 p1]) CF94 (args2 rfl rfl) (m_spec_l01Below_fn hS0 (hp0.bel hB0) p1 hm)) ?_
  rintro _ w4 ⟨r7, hm, rfl, hb5, hS6⟩
  have hB8 := hB0.trans hb5
  refine wl_val (g_eql (a := r7) (b := 0) rfl rfl) rfl ?_
  refine wl_val (g_assign (v := .bool (decide (r7 = 0))) rfl) rfl ?_
  refine wl_nil ?_
  refine hK3 _ _ ?_
  refine w_ret ?_
  repeat first | with_reducible refine q_then ?_ | with_reducible refine q_block ?_
  exact ret1 rfl (by decide) ⟨_, hm, rfl, hB8, hS6⟩

theorem m_spec_l15Night_fn {w : World} {B_ : Nat} {L_ : List Ob} {gp0 : Nat} {ap0 : Option Addr} {np0 cp0 : Nat} {p0 : List Byte} {Q : (List (List Int)) → Prop} (hS0 : Sep w B_ (oCur 89 gp0 ap0 np0 cp0 :: L_)) (hp0 : Vw B_ w ap0 np0 cp0 p0) (hm : m_spec_l15Night Q) :
    Fn Try.prog 87 #[.pointer (some (⟨gp0, 0, none⟩ : Addr))] w (fun v w' => ∃ (r0 : List (List Int)) (a0 : Option Addr) (n0 c0 : Nat) (y0 : List (Hd Int)), Q r0 ∧ ers y0 = r0 ∧ v = .slice a0 n0 c0 ∧ Below B_ w w' ∧ Sep w' B_ (oS 23 a0 n0 c0 y0 :: oT 3 y0 :: oCur 89 gp0 ap0 np0 cp0 :: L_)) := by
  unfold m_spec_l15Night at hm
  have hB0 := Below.refl B_ w
  refine fn_of_wp Try.func87 rfl (by kernel_rfl) (Nat.le_of_ble_eq_true rfl) ?_
  refine w_seq fun K2 hK2 => ?_
  refine w_region ?_
  refine wl_val (g_assign (v := .slice none 0 0) rfl) rfl ?_
  refine wl_nil ?_
  refine hK2 _ _ ?_
  refine w_seq fun K3 hK3 => ?_
  refine w_region ?_
  refine wl_step rfl (q_lit0 (α := (Hd Int)) rfl SL37 hS0) ?_
  rintro _ w4 ⟨a5, rfl, hS7, hE6⟩
  have hB9 := hB0.trans (Ext.stp hE6 hS0.base)
  have hS10 := hS7.noRows (δ := Hd Int) (E := 3)
  have he12 : ers ([] : List (Hd Int)) = ([] : List (List Int)) := rfl
  refine wl_val (g_assign (v := .slice a5 0 0) rfl) rfl ?_
  refine wl_nil ?_
  refine hK3 _ _ ?_
  refine w_seq fun K14 hK14 => ?_
  refine w_region ?_
  refine wl_val (g_move (v := .pointer (some (⟨gp0, 0, none⟩ : Addr))) rfl) rfl ?_
  have hS15 := hS10.f2
  refine wl_step rfl (g_call (vs := #[.pointer (some (⟨gp0, 0, none⟩ : Addr)), .int .i64 4]) CF94 (args2 rfl rfl) (m_spec_l01Below_fn hS15 (hp0.bel hB9) 4 hm)) ?_
  rintro _ w16 ⟨r19, hm, rfl, hb17, hS18⟩
  have hB20 := hB9.trans hb17
  obtain ⟨hg21, hm⟩ := hm
  refine wl_val (g_add (a := 1) (b := r19) rfl rfl hg21) rfl ?_
  refine wl_val (g_assign (v := .int .i64 (1 + r19)) rfl) rfl ?_
  refine wl_nil ?_
  refine hK14 _ _ ?_
  refine w_cut (σ := List (List Int) × Option Addr × Nat × Nat × List (Hd Int)) (fun ⟨x461, a462, n463, c464, y465⟩ => [(3, .slice a462 n463 c464)]) (fun ⟨x461, a462, n463, c464, y465⟩ w' => m_spec_l15Night_K2 Q x461 ∧ ers y465 = x461 ∧ Below B_ w w' ∧ Sep w' B_ (oCur 89 gp0 ap0 np0 cp0 :: oS 23 a462 n463 c464 (y465 : List (Hd Int)) :: oT 3 (y465 : List (Hd Int)) :: L_)) ?_ ?_
  · refine w_seq fun K468 hK468 => ?_
    refine w_region ?_
    refine wl_val (g_assign (v := .int .i64 0) rfl) rfl ?_
    refine wl_nil ?_
    refine hK468 _ _ ?_
    refine w_block ?_
    have hS476 := hS18.f1
    have hS477 := hS476.f2
    have hS478 := hS477.f2
    obtain ⟨I479, μ480, h0481, hr482⟩ := hm
    refine w_for (σ := List (List Int) × Option Addr × Nat × Nat × List (Hd Int) × Int) (fun ⟨x469, a470, n471, c472, y473, v475⟩ => [(0, .pointer (some (⟨gp0, 0, none⟩ : Addr))), (3, .slice a470 n471 c472), (4, .int .i64 (1 + r19)), (5, .int .i64 v475)]) (fun ⟨x469, a470, n471, c472, y473, v475⟩ w' => I479 x469 v475 ∧ ers y473 = x469 ∧ Below B_ w w' ∧ Sep w' B_ (oCur 89 gp0 ap0 np0 cp0 :: oS 23 a470 n471 c472 (y473 : List (Hd Int)) :: oT 3 (y473 : List (Hd Int)) :: L_)) (fun ⟨x469, a470, n471, c472, y473, v475⟩ => μ480 x469 v475) ([], a5, 0, 0, [], 0) ⟨rfl, rfl, rfl, rfl, trivial⟩ ⟨h0481, he12, hB20, hS478⟩ ?_
    rintro ⟨x469, a470, n471, c472, y473, v475⟩ b_ w483 ⟨hi_, he474, hB484, hS485⟩
    show Wp _ _ _ _ (upds b_ [(0, .pointer (some (⟨gp0, 0, none⟩ : Addr))), (3, .slice a470 n471 c472), (4, .int .i64 (1 + r19)), (5, .int .i64 v475)]) w483
    have hm := hr482 x469 v475 hi_
    refine w_seq fun K487 hK487 => ?_
    refine w_seq fun K488 hK488 => ?_
    refine w_region ?_
    refine wl_val (g_move (v := .int .i64 v475) rfl) rfl ?_
    refine wl_val (g_move (v := .int .i64 (1 + r19)) rfl) rfl ?_
    refine wl_val (g_lss (a := v475) (b := (1 + r19)) rfl rfl) rfl ?_
    refine wl_nil ?_
    refine hK488 _ _ ?_
    refine w_condI (p := v475 < (1 + r19)) (b := (decide (v475 < (1 + r19)))) rfl decide_eq_true_iff (fun h489 => ?_) (fun h489 => ?_)
    · replace hm := hm.1 h489
      refine w_skip ?_
      refine hK487 _ _ ?_
      refine w_cut (σ := List (List Int) × Option Addr × Nat × Nat × List (Hd Int)) (fun ⟨x490, a491, n492, c493, y494⟩ => [(0, .pointer (some (⟨gp0, 0, none⟩ : Addr))), (3, .slice a491 n492 c493), (4, .int .i64 (1 + r19)), (5, .int .i64 v475)]) (fun ⟨x490, a491, n492, c493, y494⟩ w' => m_spec_l15Night_K1 v475 (fun x469' v475' => I479 x469' v475' ∧ μ480 x469' v475' < μ480 x469 v475) x490 ∧ ers y494 = x490 ∧ Below B_ w w' ∧ Sep w' B_ (oCur 89 gp0 ap0 np0 cp0 :: oS 23 a491 n492 c493 (y494 : List (Hd Int)) :: oT 3 (y494 : List (Hd Int)) :: L_)) ?_ ?_
      · refine w_block ?_
        refine w_seq fun K497 hK497 => ?_
        refine w_region ?_
        refine wl_step rfl (q_lit0 (α := Int) rfl SL23 hS485) ?_
        rintro _ w498 ⟨a499, rfl, hS501, hE500⟩
        have hB503 := hB484.trans (Ext.stp hE500 hS485.base)
        refine wl_val (g_assign (v := .slice a499 0 0) rfl) rfl ?_
        refine wl_nil ?_
        refine hK497 _ _ ?_
        refine w_cut (σ := List Int × Option Addr × Nat × Nat) (fun ⟨x504, a505, n506, c507⟩ => [(0, .pointer (some (⟨gp0, 0, none⟩ : Addr))), (3, .slice a470 n471 c472), (4, .int .i64 (1 + r19)), (5, .int .i64 v475), (6, .slice a505 n506 c507)]) (fun ⟨x504, a505, n506, c507⟩ w' => m_spec_l15Night_K0 x469 (m_spec_l15Night_K1 v475 (fun x469' v475' => I479 x469' v475' ∧ μ480 x469' v475' < μ480 x469 v475)) x504 ∧ Below B_ w w' ∧ Sep w' B_ (oCur 89 gp0 ap0 np0 cp0 :: oS 23 a470 n471 c472 (y473 : List (Hd Int)) :: oT 3 (y473 : List (Hd Int)) :: oS 3 a505 n506 c507 (x504 : List Int) :: L_)) ?_ ?_
        · refine w_seq fun K509 hK509 => ?_
          refine w_region ?_
          refine wl_val (g_assign (v := .int .i64 0) rfl) rfl ?_
          refine wl_nil ?_
          refine hK509 _ _ ?_
          refine w_block ?_
          have hS515 := hS501.f3
          have hS516 := hS515.f3
          have hS517 := hS516.f3
          obtain ⟨I518, μ519, h0520, hr521⟩ := hm
          refine w_for (σ := List Int × Option Addr × Nat × Nat × Int) (fun ⟨x510, a511, n512, c513, v514⟩ => [(0, .pointer (some (⟨gp0, 0, none⟩ : Addr))), (3, .slice a470 n471 c472), (4, .int .i64 (1 + r19)), (5, .int .i64 v475), (6, .slice a511 n512 c513), (7, .int .i64 v514)]) (fun ⟨x510, a511, n512, c513, v514⟩ w' => I518 x510 v514 ∧ Below B_ w w' ∧ Sep w' B_ (oCur 89 gp0 ap0 np0 cp0 :: oS 23 a470 n471 c472 (y473 : List (Hd Int)) :: oT 3 (y473 : List (Hd Int)) :: oS 3 a511 n512 c513 (x510 : List Int) :: L_)) (fun ⟨x510, a511, n512, c513, v514⟩ => μ519 x510 v514) ([], a499, 0, 0, 0) ⟨rfl, rfl, rfl, rfl, rfl, rfl, trivial⟩ ⟨h0520, hB503, hS517⟩ ?_
          rintro ⟨x510, a511, n512, c513, v514⟩ b_ w522 ⟨hi_, hB523, hS524⟩
          show Wp _ _ _ _ (upds b_ [(0, .pointer (some (⟨gp0, 0, none⟩ : Addr))), (3, .slice a470 n471 c472), (4, .int .i64 (1 + r19)), (5, .int .i64 v475), (6, .slice a511 n512 c513), (7, .int .i64 v514)]) w522
          have hm := hr521 x510 v514 hi_
          refine w_seq fun K526 hK526 => ?_
          refine w_seq fun K527 hK527 => ?_
          refine w_region ?_
          refine wl_val (g_move (v := .int .i64 v514) rfl) rfl ?_
          refine wl_val (g_lss (a := v514) (b := 5) rfl rfl) rfl ?_
          refine wl_val (g_move (v := .bool (decide (v514 < 5))) rfl) rfl ?_
          refine wl_guard (c := (decide (v514 < 5)) = true) (val := .slice a511 n512 c513) (b := ((decide (v514 < 5)) == true)) (gv_some rfl rfl rfl) beq_iff_eq (fun hc528 => ?_) ?_
          · have hcq5 : v514 < 5 := (decide_eq_true_iff.mp hc528)
            exact g_move (v := .slice a511 n512 c513) rfl
          refine wl_guard (c := (decide (v514 < 5)) = true) (val := .int .i64 (x510.length : Int)) (b := ((decide (v514 < 5)) == true)) (gv_some rfl rfl rfl) beq_iff_eq (fun hc529 => ?_) ?_
          · have hcq5 : v514 < 5 := (decide_eq_true_iff.mp hc529)
            exact q_len SL23 (if_pos hc529) (Vw.len (oS.vw hS524.g3))
          refine wl_guard (c := (decide (v514 < 5)) = true) (val := .bool (decide ((x510.length : Int) < 3))) (b := ((decide (v514 < 5)) == true)) (gv_some rfl rfl rfl) beq_iff_eq (fun hc530 => ?_) ?_
          · have hcq5 : v514 < 5 := (decide_eq_true_iff.mp hc530)
            exact g_lss (a := (x510.length : Int)) (b := 3) (if_pos hc530) rfl
          refine wl_val (g_pick_and (b := (decide (v514 < 5))) (q := (decide ((x510.length : Int) < 3))) rfl rfl) rfl ?_
          refine wl_nil ?_
          refine hK527 _ _ ?_
          refine w_condI (p := ((v514 < 5) ∧ ((x510.length : Int) < 3))) (b := ((decide (v514 < 5)) && (decide ((x510.length : Int) < 3)))) rfl (i_and decide_eq_true_iff decide_eq_true_iff) (fun h531 => ?_) (fun h531 => ?_)
          · replace hm := hm.1 h531
            refine w_skip ?_
            refine hK526 _ _ ?_
            refine w_seq fun K532 hK532 => ?_
            refine w_block ?_
            refine w_seq fun K533 hK533 => ?_
            refine w_region ?_
            refine wl_val (g_move (v := .pointer (some (⟨gp0, 0, none⟩ : Addr))) rfl) rfl ?_
            refine wl_step rfl (g_call (vs := #[.pointer (some (⟨gp0, 0, none⟩ : Addr)), .int .i64 3]) CF82 (args2 rfl rfl) (m_spec_l01Once_fn hS524 (hp0.bel hB523) 3 hm)) ?_
            rintro _ w534 ⟨r537, hm, rfl, hb535, hS536⟩
            have hB538 := hB523.trans hb535
            refine wl_nil ?_
            refine hK533 _ _ ?_
            refine w_condI (p := r537 = true) (b := r537) rfl Iff.rfl (fun h539 => ?_) (fun h539 => ?_)
            · replace hm := hm.1 h539
              refine w_region ?_
              refine wl_val (g_move (v := .slice a511 n512 c513) rfl) rfl ?_
              refine wl_val (g_move (v := .int .i64 v514) rfl) rfl ?_
              refine wl_step rfl (q_lit1 (y := (v514 : Int)) SL23 rfl rfl (by decide) hS536) ?_
              rintro _ w540 ⟨a541, rfl, hS543, hE542⟩
              have hB545 := hB538.trans (Ext.stp hE542 hS536.base)
              have hS551 := hS543.f4
              obtain ⟨hg552, hm⟩ := hm
              refine wl_step rfl (q_append SL23 rfl rfl hS551 (oS.vw hS551.g1) hg552 (by decide)) ?_
              rintro _ w546 ⟨a547, c548, rfl, hS550, hb549⟩
              have hB553 := hB545.trans hb549
              refine wl_val (g_assign (v := .slice a547 (n512 + 1) c548) rfl) rfl ?_
              refine wl_nil ?_
              refine hK532 _ _ ?_
              refine w_region ?_
              refine wl_val (g_move (v := .int .i64 v514) rfl) rfl ?_
              obtain ⟨hg554, hm⟩ := hm
              refine wl_val (g_add (a := v514) (b := 1) rfl rfl hg554) rfl ?_
              refine wl_val (g_assign (v := .int .i64 (v514 + 1)) rfl) rfl ?_
              refine wl_nil ?_
              have hS555 := hS550.f1
              have hS556 := hS555.tail
              have hS557 := hS556.f3
              have hS558 := hS557.f3
              have hS559 := hS558.f3
              exact ⟨((x510 ++ ([v514])), a547, (n512 + 1), c548, (v514 + 1)), hm.2, ⟨rfl, rfl, rfl, rfl, rfl, rfl, trivial⟩, ⟨hm.1, hB553, hS559⟩⟩
            · replace hm := hm.2 h539
              refine w_skip ?_
              refine hK532 _ _ ?_
              refine w_region ?_
              refine wl_val (g_move (v := .int .i64 v514) rfl) rfl ?_
              obtain ⟨hg560, hm⟩ := hm
              refine wl_val (g_add (a := v514) (b := 1) rfl rfl hg560) rfl ?_
              refine wl_val (g_assign (v := .int .i64 (v514 + 1)) rfl) rfl ?_
              refine wl_nil ?_
              exact ⟨(x510, a511, n512, c513, (v514 + 1)), hm.2, ⟨rfl, rfl, rfl, rfl, rfl, rfl, trivial⟩, ⟨hm.1, hB538, hS536⟩⟩
          · replace hm := hm.2 h531
            refine w_exit ?_
            exact ⟨(x510, a511, n512, c513), ⟨rfl, rfl, rfl, rfl, rfl, trivial⟩, ⟨hm, hB523, hS524⟩⟩
        · rintro ⟨x504, a505, n506, c507⟩ b_ w561 ⟨hm, hB562, hS563⟩
          show Wp _ _ _ _ (upds b_ [(0, .pointer (some (⟨gp0, 0, none⟩ : Addr))), (3, .slice a470 n471 c472), (4, .int .i64 (1 + r19)), (5, .int .i64 v475), (6, .slice a505 n506 c507)]) w561
          refine w_region ?_
          refine wl_val (g_move (v := .slice a470 n471 c472) rfl) rfl ?_
          refine wl_val (g_move (v := .slice a505 n506 c507) rfl) rfl ?_
          have hS569 := hS563.f3
          have hn570 := oS.len hS569.g0
          have hS571 := hS569.oneRow
          have he568 : ers [((a505, c507, x504) : Hd Int)] = [x504] := rfl
          refine wl_step rfl (q_lit1 (y := ((a505, c507, x504) : Hd Int)) SL37 rfl (hd_cells hn570) (by decide) hS571) ?_
          rintro _ w564 ⟨a565, rfl, hS567, hE566⟩
          have hB574 := hB562.trans (Ext.stp hE566 hS571.base)
          have hS581 := hS567.f3
          obtain ⟨hg582, hm⟩ := hm
          have hl583 : (y473).length + ([(a505, c507, x504)]).length ≤ 1099511627776 := by have h1 := congrArg List.length he474; have h2 := congrArg List.length he568; have h3 := hg582; simp only [ers, List.length_map, List.length_append, List.length_cons, List.length_nil, List.length_replicate, List.length_set] at h1 h2 h3 ⊢; omega
          refine wl_step rfl (q_append SL37 rfl rfl hS581 (oS.vw hS581.g1) hl583 (by decide)) ?_
          rintro _ w576 ⟨a577, c578, rfl, hS580, hb579⟩
          have hB584 := hB574.trans hb579
          have hS585 := hS580.f1
          have hS586 := hS585.tail
          have hS587 := hS586.f3
          have hS588 := hS587.f2
          have hS589 := hS588.catRows
          have he590 : ers (y473 ++ ([(a505, c507, x504)])) = (x469 ++ ([x504])) := by rw [← he474, ← he568]; exact List.map_append
          refine wl_val (g_assign (v := .slice a577 (n471 + 1) c578) rfl) rfl ?_
          refine wl_nil ?_
          have hS591 := hS589.f1
          have hS592 := hS591.f2
          exact ⟨((x469 ++ ([x504])), a577, (n471 + 1), c578, (y473 ++ ([(a505, c507, x504)]))), ⟨rfl, rfl, rfl, rfl, trivial⟩, ⟨hm, he590, hB584, hS592⟩⟩
      · rintro ⟨x490, a491, n492, c493, y494⟩ b_ w593 ⟨hm, he495, hB594, hS595⟩
        show Wp _ _ _ _ (upds b_ [(0, .pointer (some (⟨gp0, 0, none⟩ : Addr))), (3, .slice a491 n492 c493), (4, .int .i64 (1 + r19)), (5, .int .i64 v475)]) w593
        refine w_region ?_
        refine wl_val (g_move (v := .int .i64 v475) rfl) rfl ?_
        obtain ⟨hg596, hm⟩ := hm
        refine wl_val (g_add (a := v475) (b := 1) rfl rfl hg596) rfl ?_
        refine wl_val (g_assign (v := .int .i64 (v475 + 1)) rfl) rfl ?_
        refine wl_nil ?_
        exact ⟨(x490, a491, n492, c493, y494, (v475 + 1)), hm.2, ⟨rfl, rfl, rfl, rfl, trivial⟩, ⟨hm.1, he495, hB594, hS595⟩⟩
    · replace hm := hm.2 h489
      refine w_exit ?_
      exact ⟨(x469, a470, n471, c472, y473), ⟨rfl, trivial⟩, ⟨hm, he474, hB484, hS485⟩⟩
  · rintro ⟨x461, a462, n463, c464, y465⟩ b_ w597 ⟨hm, he466, hB598, hS599⟩
    show Wp _ _ _ _ (upds b_ [(3, .slice a462 n463 c464)]) w597
    refine w_seq fun K600 hK600 => ?_
    refine w_region ?_
    refine wl_val (g_move (v := .slice a462 n463 c464) rfl) rfl ?_
    refine wl_val (g_assign (v := .slice a462 n463 c464) rfl) rfl ?_
    refine wl_nil ?_
    refine hK600 _ _ ?_
    refine w_ret ?_
    have hS601 := hS599.f2
    have hS602 := hS601.f2
    repeat first | with_reducible refine q_then ?_ | with_reducible refine q_block ?_
    exact ret1 rfl (by decide) ⟨_, _, _, _, _, hm, he466, rfl, hB598, hS602⟩

theorem m_spec_DrawNight_fn {w : World} {a0 : Option Addr} {n0 c0 : Nat} {p0 : List Byte} {Q : (List PlayerC) → (List (List Int)) → Prop} (hp0 : Vw w.heap.size w a0 n0 c0 p0) (hm : m_spec_DrawNight p0 Q) :
    Fn Try.prog 50 #[.slice a0 n0 c0] w (fun v w' => ∃ (r0 : List PlayerC) (a0 : Option Addr) (n0 c0 : Nat) (y0 : List PlayerD) (r1 : List (List Int)) (a1 : Option Addr) (n1 c1 : Nat) (y1 : List (Hd Int)), Q r0 r1 ∧ ers y0 = r0 ∧ ers y1 = r1 ∧ v = .tuple #[.slice a0 n0 c0, .slice a1 n1 c1] ∧ Ext w w' ∧ Sep w' w.heap.size [oS 54 a0 n0 c0 y0, oT 3 y0, oS 23 a1 n1 c1 y1, oT 3 y1]) := by
  unfold m_spec_DrawNight at hm
  have hB0 := Below.refl w.heap.size w
  have hS0 : Sep w w.heap.size [] := Sep.nil (Nat.le_refl _)
  refine fn_of_wp Try.func50 rfl (by kernel_rfl) (Nat.le_of_ble_eq_true rfl) ?_
  refine w_seq fun K1 hK1 => ?_
  refine w_region ?_
  refine wl_val (g_assign (v := .slice none 0 0) rfl) rfl ?_
  refine wl_val (g_assign (v := .slice none 0 0) rfl) rfl ?_
  refine wl_nil ?_
  refine hK1 _ _ ?_
  refine w_seq fun K2 hK2 => ?_
  refine w_region ?_
  refine wl_val (g_move (v := .slice a0 n0 c0) rfl) rfl ?_
  refine wl_step rfl (g_call (vs := #[.slice a0 n0 c0]) CF80 (args1 rfl) (m_spec_l01New_fn ((hp0.bel hB0).up hS0) hm)) ?_
  rintro _ w3 ⟨g6, hm, rfl, hE4, hN5⟩
  have hS8 := hS0.call1 hE4 hN5
  have hB9 := hB0.trans (Ext.stp hE4 hS0.base)
  refine wl_val (g_assign (v := .pointer (some (⟨g6, 0, none⟩ : Addr))) rfl) rfl ?_
  refine wl_nil ?_
  refine hK2 _ _ ?_
  refine w_seq fun K10 hK10 => ?_
  refine w_region ?_
  refine wl_val (g_move (v := .pointer (some (⟨g6, 0, none⟩ : Addr))) rfl) rfl ?_
  refine wl_step rfl (g_call (vs := #[.pointer (some (⟨g6, 0, none⟩ : Addr))]) CF86 (args1 rfl) (m_spec_l15Players_fn hS8 (hp0.bel hB9) hm)) ?_
  rintro _ w11 ⟨r14, a15, n16, c17, y18, hm, he19, rfl, hb12, hS13⟩
  have hB23 := hB9.trans hb12
  refine wl_val (g_assign (v := .slice a15 n16 c17) rfl) rfl ?_
  refine wl_nil ?_
  refine hK10 _ _ ?_
  refine w_seq fun K24 hK24 => ?_
  refine w_region ?_
  refine wl_val (g_move (v := .slice a15 n16 c17) rfl) rfl ?_
  refine wl_val (g_move (v := .pointer (some (⟨g6, 0, none⟩ : Addr))) rfl) rfl ?_
  have hS25 := hS13.f2
  refine wl_step rfl (g_call (vs := #[.pointer (some (⟨g6, 0, none⟩ : Addr))]) CF87 (args1 rfl) (m_spec_l15Night_fn hS25 (hp0.bel hB23) hm)) ?_
  rintro _ w26 ⟨r29, a30, n31, c32, y33, hm, he34, rfl, hb27, hS28⟩
  have hB38 := hB23.trans hb27
  refine wl_val (g_assign (v := .slice a15 n16 c17) rfl) rfl ?_
  refine wl_val (g_assign (v := .slice a30 n31 c32) rfl) rfl ?_
  refine wl_nil ?_
  refine hK24 _ _ ?_
  refine w_ret ?_
  have hS39 := hS28.f2
  have hS40 := hS39.tail
  have hS41 := hS40.f1
  have hS42 := hS41.f1
  have hS43 := hS42.f3
  have hS44 := hS43.f3
  repeat first | with_reducible refine q_then ?_ | with_reducible refine q_block ?_
  exact ret2 rfl (by decide) (by decide) ⟨_, _, _, _, _, _, _, _, _, _, hm, he19, he34, rfl, toExt hB38, hS44⟩

theorem m_spec_l13Search_step_fn {rec_ : (List PlayerC) → (List Int) → (List Int) → (List Int) → ((List Int) → Bool → (List Int) → (List Int) → Prop) → Prop} (ih : ∀ {w : World} {B_ : Nat} {L_ : List Ob} {a0 : Option Addr} {n0 c0 : Nat} {y0 : List PlayerD} {p0 : List PlayerC} {a1 : Option Addr} {n1 c1 : Nat} {p1 : List Int} {a2 : Option Addr} {n2 c2 : Nat} {p2 : List Int} {a3 : Option Addr} {n3 c3 : Nat} {p3 : List Int} {Q : (List Int) → Bool → (List Int) → (List Int) → Prop} (hS0 : Sep w B_ (oS 3 a2 n2 c2 (p2 : List Int) :: oS 3 a3 n3 c3 (p3 : List Int) :: L_)) (hp0 : Tv B_ w a0 n0 c0 y0 p0) (hp1 : Vw B_ w a1 n1 c1 p1) (hm : rec_ p0 p1 p2 p3 Q), Fn Try.prog 59 #[.slice a0 n0 c0, .slice a1 n1 c1, .slice a2 n2 c2, .slice a3 n3 c3] w (fun v w' => ∃ (r0 : List Int) (a0 : Option Addr) (n0 c0 : Nat) (r1 : Bool) (x0 : List Int) (x1 : List Int), Q r0 r1 x0 x1 ∧ v = .tuple #[.slice a0 n0 c0, .bool r1] ∧ Below B_ w w' ∧ Sep w' B_ (oS 3 a0 n0 c0 r0 :: oS 3 a2 n2 c2 x0 :: oS 3 a3 n3 c3 x1 :: L_))) {w : World} {B_ : Nat} {L_ : List Ob} {a0 : Option Addr} {n0 c0 : Nat} {y0 : List PlayerD} {p0 : List PlayerC} {a1 : Option Addr} {n1 c1 : Nat} {p1 : List Int} {a2 : Option Addr} {n2 c2 : Nat} {p2 : List Int} {a3 : Option Addr} {n3 c3 : Nat} {p3 : List Int} {Q : (List Int) → Bool → (List Int) → (List Int) → Prop} (hS0 : Sep w B_ (oS 3 a2 n2 c2 (p2 : List Int) :: oS 3 a3 n3 c3 (p3 : List Int) :: L_)) (hp0 : Tv B_ w a0 n0 c0 y0 p0) (hp1 : Vw B_ w a1 n1 c1 p1) (hm : m_spec_l13Search_step rec_ p0 p1 p2 p3 Q) :
    Fn Try.prog 59 #[.slice a0 n0 c0, .slice a1 n1 c1, .slice a2 n2 c2, .slice a3 n3 c3] w (fun v w' => ∃ (r0 : List Int) (a0 : Option Addr) (n0 c0 : Nat) (r1 : Bool) (x0 : List Int) (x1 : List Int), Q r0 r1 x0 x1 ∧ v = .tuple #[.slice a0 n0 c0, .bool r1] ∧ Below B_ w w' ∧ Sep w' B_ (oS 3 a0 n0 c0 r0 :: oS 3 a2 n2 c2 x0 :: oS 3 a3 n3 c3 x1 :: L_)) := by
  unfold m_spec_l13Search_step at hm
  have hB0 := Below.refl B_ w
  refine fn_of_wp Try.func59 rfl (by kernel_rfl) (Nat.le_of_ble_eq_true rfl) ?_
  refine w_seq fun K3 hK3 => ?_
  refine w_region ?_
  refine wl_val (g_assign (v := .slice none 0 0) rfl) rfl ?_
  refine wl_val (g_assign (v := .bool false) rfl) rfl ?_
  refine wl_nil ?_
  refine hK3 _ _ ?_
  refine w_seq fun K4 hK4 => ?_
  refine w_region ?_
  refine wl_val (g_move (v := .slice a2 n2 c2) rfl) rfl ?_
  refine wl_val (q_len SL23 rfl (Vw.len (oS.vw hS0.g0))) rfl ?_
  refine wl_val (g_assign (v := .int .i64 (p2.length : Int)) rfl) rfl ?_
  refine wl_nil ?_
  refine hK4 _ _ ?_
  refine w_seq fun K5 hK5 => ?_
  refine w_seq fun K6 hK6 => ?_
  refine w_region ?_
  refine wl_val (g_move (v := .int .i64 (p2.length : Int)) rfl) rfl ?_
  refine wl_val (g_move (v := .slice a1 n1 c1) rfl) rfl ?_
  refine wl_val (q_len SL23 rfl (Vw.len (hp1.bel hB0))) rfl ?_
  refine wl_val (g_eql (a := (p2.length : Int)) (b := (p1.length : Int)) rfl rfl) rfl ?_
  refine wl_nil ?_
  refine hK6 _ _ ?_
  refine w_condI (p := (p2.length : Int) = (p1.length : Int)) (b := (decide ((p2.length : Int) = (p1.length : Int)))) rfl decide_eq_true_iff (fun h7 => ?_) (fun h7 => ?_)
  · replace hm := hm.1 h7
    refine w_seq fun K8 hK8 => ?_
    refine w_region ?_
    refine wl_step rfl (q_lit0 (α := Int) rfl SL23 hS0) ?_
    rintro _ w9 ⟨a10, rfl, hS12, hE11⟩
    have hB14 := hB0.trans (Ext.stp hE11 hS0.base)
    refine wl_val (g_move (v := .slice a2 n2 c2) rfl) rfl ?_
    obtain ⟨hg20, hm⟩ := hm
    refine wl_step rfl (q_append SL23 rfl rfl hS12 (oS.vw hS12.g1) hg20 (by decide)) ?_
    rintro _ w15 ⟨a16, c17, rfl, hS19, hb18⟩
    have hB21 := hB14.trans hb18
    refine wl_val (g_assign (v := .slice a16 (0 + n2) c17) rfl) rfl ?_
    refine wl_val (g_assign (v := .bool true) rfl) rfl ?_
    refine wl_nil ?_
    refine hK8 _ _ ?_
    refine w_ret ?_
    repeat first | with_reducible refine q_then ?_ | with_reducible refine q_block ?_
    exact ret2 rfl (by decide) (by decide) ⟨_, _, _, _, _, _, _, hm, rfl, hB21, hS19⟩
  · replace hm := hm.2 h7
    refine w_skip ?_
    refine hK5 _ _ ?_
    refine w_cut (σ := List Int) (fun x558 => []) (fun x558 w' => m_spec_l13Search_K0 p2 Q x558 ∧ Below B_ w w' ∧ Sep w' B_ (oS 3 a3 n3 c3 (x558 : List Int) :: oS 3 a2 n2 c2 (p2 : List Int) :: L_)) ?_ ?_
    · refine w_seq fun K560 hK560 => ?_
      refine w_region ?_
      refine wl_val (g_assign (v := .int .i64 0) rfl) rfl ?_
      refine wl_nil ?_
      refine hK560 _ _ ?_
      refine w_block ?_
      have hS563 := hS0.f1
      obtain ⟨I564, μ565, h0566, hr567⟩ := hm
      refine w_for (σ := List Int × Int) (fun ⟨x561, v562⟩ => [(0, .slice a0 n0 c0), (1, .slice a1 n1 c1), (2, .slice a2 n2 c2), (3, .slice a3 n3 c3), (10, .int .i64 (p2.length : Int)), (11, .int .i64 v562)]) (fun ⟨x561, v562⟩ w' => I564 x561 v562 ∧ Below B_ w w' ∧ Sep w' B_ (oS 3 a3 n3 c3 (x561 : List Int) :: oS 3 a2 n2 c2 (p2 : List Int) :: L_)) (fun ⟨x561, v562⟩ => μ565 x561 v562) (p3, 0) ⟨rfl, rfl, rfl, rfl, rfl, rfl, trivial⟩ ⟨h0566, hB0, hS563⟩ ?_
      rintro ⟨x561, v562⟩ b_ w568 ⟨hi_, hB569, hS570⟩
      show Wp _ _ _ _ (upds b_ [(0, .slice a0 n0 c0), (1, .slice a1 n1 c1), (2, .slice a2 n2 c2), (3, .slice a3 n3 c3), (10, .int .i64 (p2.length : Int)), (11, .int .i64 v562)]) w568
      have hm := hr567 x561 v562 hi_
      refine w_seq fun K572 hK572 => ?_
      refine w_seq fun K573 hK573 => ?_
      refine w_region ?_
      refine wl_val (g_move (v := .int .i64 v562) rfl) rfl ?_
      refine wl_val (g_move (v := .slice a0 n0 c0) rfl) rfl ?_
      refine wl_val (q_len SL27 rfl (Tv.len (hp0.bel hB569))) rfl ?_
      refine wl_val (g_lss (a := v562) (b := (p0.length : Int)) rfl rfl) rfl ?_
      refine wl_nil ?_
      refine hK573 _ _ ?_
      refine w_condI (p := v562 < (p0.length : Int)) (b := (decide (v562 < (p0.length : Int)))) rfl decide_eq_true_iff (fun h574 => ?_) (fun h574 => ?_)
      · replace hm := hm.1 h574
        refine w_skip ?_
        refine hK572 _ _ ?_
        refine w_seq fun K575 hK575 => ?_
        refine w_block ?_
        refine w_seq fun K576 hK576 => ?_
        refine w_seq fun K577 hK577 => ?_
        refine w_draw (X := Ext) (Y := Ext) [] MIX (by decide +kernel) rfl Ext.refl (fun _ _ _ => Ext.trans) (fun _ _ _ => Chg.trans) (fun _ _ h => Ext.chg h _) (fun w578 hE579 => ?_)
        have hB580 := hB569.trans (Ext.stp hE579 hS570.base)
        have hS581 := hS570.ext hE579
        refine ⟨.slice a3 n3 c3, fun w582 hX583 => od_plain rfl (by have hS584 := hS581.ext hX583; have hB585 := hB580.trans (Ext.stp hX583 hS581.base); exact is_ext (g_move (v := .slice a3 n3 c3) rfl)), ?_⟩
        refine ⟨.int .i64 v562, fun w586 hX587 => od_plain rfl (by have hS588 := hS581.ext hX587; have hB589 := hB580.trans (Ext.stp hX587 hS581.base); exact is_ext (g_move (v := .int .i64 v562) rfl)), ?_⟩
        obtain ⟨hg594, hm⟩ := hm
        refine ⟨.pointer (some ((adr a3).add ((Int.toNat v562) * El.m Int))), fun w590 hX591 => od_plain rfl (by have hS592 := hS581.ext hX591; have hB593 := hB580.trans (Ext.stp hX591 hS581.base); exact is_ext (q_index (i := v562) SL23 rfl rfl (oS.vw hS592.g0) hg594)), ?_⟩
        refine ⟨.int .i64 (x561[(Int.toNat v562)]!), fun w595 hX596 => od_plain rfl (by have hS597 := hS581.ext hX596; have hB598 := hB580.trans (Ext.stp hX596 hS581.base); exact is_ext (q_load (i := v562) (v := .int .i64 (x561[(Int.toNat v562)]!)) ON3 (oS.vw hS597.g0) hg594 rfl rfl)), ?_⟩
        refine ⟨.slice a0 n0 c0, fun w599 hX600 => od_plain rfl (by have hS601 := hS581.ext hX600; have hB602 := hB580.trans (Ext.stp hX600 hS581.base); exact is_ext (g_move (v := .slice a0 n0 c0) rfl)), ?_⟩
        refine ⟨.int .i64 v562, fun w603 hX604 => od_plain rfl (by have hS605 := hS581.ext hX604; have hB606 := hB580.trans (Ext.stp hX604 hS581.base); exact is_ext (g_move (v := .int .i64 v562) rfl)), ?_⟩
        obtain ⟨hg611, hm⟩ := hm
        refine ⟨.pointer (some ((adr a0).add ((Int.toNat v562) * El.m PlayerD))), fun w607 hX608 => od_plain rfl (by have hS609 := hS581.ext hX608; have hB610 := hB580.trans (Ext.stp hX608 hS581.base); exact is_ext (q_index (i := v562) SL27 rfl rfl (Tv.o (hp0.bel hB610)) (Tv.g (hp0.bel hB610) hg611))), ?_⟩
        refine ⟨.pointer (some (((adr a0).add ((Int.toNat v562) * El.m PlayerD)).add 1)), fun w612 hX613 => od_plain rfl (by have hS614 := hS581.ext hX613; have hB615 := hB580.trans (Ext.stp hX613 hS581.base); exact is_ext (g_fieldAddr (q := (adr a0).add ((Int.toNat v562) * El.m PlayerD)) FL54_1 ON3 rfl)), ?_⟩
        refine ⟨.int .i64 (p0[(Int.toNat v562)]!.2), fun w616 hX617 => od_plain rfl (by have hS618 := hS581.ext hX617; have hB619 := hB580.trans (Ext.stp hX617 hS581.base); exact is_ext (q_loadF (i := v562) (j := 1) (v := .int .i64 (p0[(Int.toNat v562)]!.2)) ON3 (Tv.o (hp0.bel hB619)) (Tv.g (hp0.bel hB619) hg611) (by rw [← Tv.free (hp0.bel hB619) hg611]; rfl) rfl)), ?_⟩
        refine ⟨.bool (decide (x561[(Int.toNat v562)]! ≥ p0[(Int.toNat v562)]!.2)), fun w620 hX621 => od_plain rfl (by have hS622 := hS581.ext hX621; have hB623 := hB580.trans (Ext.stp hX621 hS581.base); exact is_ext (g_geq (a := x561[(Int.toNat v562)]!) (b := p0[(Int.toNat v562)]!.2) rfl rfl)), ?_⟩
        refine ⟨.bool (decide (x561[(Int.toNat v562)]! ≥ p0[(Int.toNat v562)]!.2)), fun w624 hX625 => od_plain rfl (by have hS626 := hS581.ext hX625; have hB627 := hB580.trans (Ext.stp hX625 hS581.base); exact is_ext (g_move (v := .bool (decide (x561[(Int.toNat v562)]! ≥ p0[(Int.toNat v562)]!.2))) rfl)), ?_⟩
        refine ⟨if (decide (x561[(Int.toNat v562)]! ≥ p0[(Int.toNat v562)]!.2)) = false then .slice a0 n0 c0 else undef, fun w628 hX629 => od_guard (c := (decide (x561[(Int.toNat v562)]! ≥ p0[(Int.toNat v562)]!.2)) = false) (val := .slice a0 n0 c0) (b := ((decide (x561[(Int.toNat v562)]! ≥ p0[(Int.toNat v562)]!.2)) == false)) (gv_some rfl rfl rfl) beq_iff_eq (fun hc632 => ?_), ?_⟩
        · have hS630 := hS581.ext hX629
          have hB631 := hB580.trans (Ext.stp hX629 hS581.base)
          have hcq3 : ¬ (x561[(Int.toNat v562)]! ≥ p0[(Int.toNat v562)]!.2) := (i_neg decide_eq_true_iff hc632)
          exact is_ext (g_move (v := .slice a0 n0 c0) rfl)
        refine ⟨if (decide (x561[(Int.toNat v562)]! ≥ p0[(Int.toNat v562)]!.2)) = false then .int .i64 v562 else undef, fun w633 hX634 => od_guard (c := (decide (x561[(Int.toNat v562)]! ≥ p0[(Int.toNat v562)]!.2)) = false) (val := .int .i64 v562) (b := ((decide (x561[(Int.toNat v562)]! ≥ p0[(Int.toNat v562)]!.2)) == false)) (gv_some rfl rfl rfl) beq_iff_eq (fun hc637 => ?_), ?_⟩
        · have hS635 := hS581.ext hX634
          have hB636 := hB580.trans (Ext.stp hX634 hS581.base)
          have hcq3 : ¬ (x561[(Int.toNat v562)]! ≥ p0[(Int.toNat v562)]!.2) := (i_neg decide_eq_true_iff hc637)
          exact is_ext (g_move (v := .int .i64 v562) rfl)
        obtain ⟨hg643, hm⟩ := hm
        refine ⟨if (decide (x561[(Int.toNat v562)]! ≥ p0[(Int.toNat v562)]!.2)) = false then .pointer (some ((adr a0).add ((Int.toNat v562) * El.m PlayerD))) else undef, fun w638 hX639 => od_guard (c := (decide (x561[(Int.toNat v562)]! ≥ p0[(Int.toNat v562)]!.2)) = false) (val := .pointer (some ((adr a0).add ((Int.toNat v562) * El.m PlayerD)))) (b := ((decide (x561[(Int.toNat v562)]! ≥ p0[(Int.toNat v562)]!.2)) == false)) (gv_some rfl rfl rfl) beq_iff_eq (fun hc642 => ?_), ?_⟩
        · have hS640 := hS581.ext hX639
          have hB641 := hB580.trans (Ext.stp hX639 hS581.base)
          have hcq3 : ¬ (x561[(Int.toNat v562)]! ≥ p0[(Int.toNat v562)]!.2) := (i_neg decide_eq_true_iff hc642)
          exact is_ext (q_index (i := v562) SL27 (if_pos hc642) (if_pos hc642) (Tv.o (hp0.bel hB641)) (Tv.g (hp0.bel hB641) (hg643 hcq3)))
        refine ⟨if (decide (x561[(Int.toNat v562)]! ≥ p0[(Int.toNat v562)]!.2)) = false then .agg #[.slice ((y0[(Int.toNat v562)]!).1.1) ((y0[(Int.toNat v562)]!).1.2.2.length) ((y0[(Int.toNat v562)]!).1.2.1), .int .i64 (p0[(Int.toNat v562)]!.2)] else undef, fun w644 hX645 => od_guard (c := (decide (x561[(Int.toNat v562)]! ≥ p0[(Int.toNat v562)]!.2)) = false) (val := .agg #[.slice ((y0[(Int.toNat v562)]!).1.1) ((y0[(Int.toNat v562)]!).1.2.2.length) ((y0[(Int.toNat v562)]!).1.2.1), .int .i64 (p0[(Int.toNat v562)]!.2)]) (b := ((decide (x561[(Int.toNat v562)]! ≥ p0[(Int.toNat v562)]!.2)) == false)) (gv_some rfl rfl rfl) beq_iff_eq (fun hc648 => ?_), ?_⟩
        · have hS646 := hS581.ext hX645
          have hB647 := hB580.trans (Ext.stp hX645 hS581.base)
          have hcq3 : ¬ (x561[(Int.toNat v562)]! ≥ p0[(Int.toNat v562)]!.2) := (i_neg decide_eq_true_iff hc648)
          exact is_ext (q_loadS (i := v562) (cs := [.slice ((y0[(Int.toNat v562)]!).1.1) ((y0[(Int.toNat v562)]!).1.2.2.length) ((y0[(Int.toNat v562)]!).1.2.1), .int .i64 (p0[(Int.toNat v562)]!.2)]) AG54 (Tv.o (hp0.bel hB647)) (Tv.g (hp0.bel hB647) (hg643 hcq3)) (by rw [← Tv.free (hp0.bel hB647) (hg643 hcq3)]; rfl) (if_pos hc648))
        refine ⟨if (decide (x561[(Int.toNat v562)]! ≥ p0[(Int.toNat v562)]!.2)) = false then .slice a1 n1 c1 else undef, fun w649 hX650 => od_guard (c := (decide (x561[(Int.toNat v562)]! ≥ p0[(Int.toNat v562)]!.2)) = false) (val := .slice a1 n1 c1) (b := ((decide (x561[(Int.toNat v562)]! ≥ p0[(Int.toNat v562)]!.2)) == false)) (gv_some rfl rfl rfl) beq_iff_eq (fun hc653 => ?_), ?_⟩
        · have hS651 := hS581.ext hX650
          have hB652 := hB580.trans (Ext.stp hX650 hS581.base)
          have hcq3 : ¬ (x561[(Int.toNat v562)]! ≥ p0[(Int.toNat v562)]!.2) := (i_neg decide_eq_true_iff hc653)
          exact is_ext (g_move (v := .slice a1 n1 c1) rfl)
        refine ⟨if (decide (x561[(Int.toNat v562)]! ≥ p0[(Int.toNat v562)]!.2)) = false then .int .i64 (p2.length : Int) else undef, fun w654 hX655 => od_guard (c := (decide (x561[(Int.toNat v562)]! ≥ p0[(Int.toNat v562)]!.2)) = false) (val := .int .i64 (p2.length : Int)) (b := ((decide (x561[(Int.toNat v562)]! ≥ p0[(Int.toNat v562)]!.2)) == false)) (gv_some rfl rfl rfl) beq_iff_eq (fun hc658 => ?_), ?_⟩
        · have hS656 := hS581.ext hX655
          have hB657 := hB580.trans (Ext.stp hX655 hS581.base)
          have hcq3 : ¬ (x561[(Int.toNat v562)]! ≥ p0[(Int.toNat v562)]!.2) := (i_neg decide_eq_true_iff hc658)
          exact is_ext (g_move (v := .int .i64 (p2.length : Int)) rfl)
        obtain ⟨hg664, hm⟩ := hm
        refine ⟨if (decide (x561[(Int.toNat v562)]! ≥ p0[(Int.toNat v562)]!.2)) = false then .pointer (some ((adr a1).add ((Int.toNat (p2.length : Int)) * El.m Int))) else undef, fun w659 hX660 => od_guard (c := (decide (x561[(Int.toNat v562)]! ≥ p0[(Int.toNat v562)]!.2)) = false) (val := .pointer (some ((adr a1).add ((Int.toNat (p2.length : Int)) * El.m Int)))) (b := ((decide (x561[(Int.toNat v562)]! ≥ p0[(Int.toNat v562)]!.2)) == false)) (gv_some rfl rfl rfl) beq_iff_eq (fun hc663 => ?_), ?_⟩
        · have hS661 := hS581.ext hX660
          have hB662 := hB580.trans (Ext.stp hX660 hS581.base)
          have hcq3 : ¬ (x561[(Int.toNat v562)]! ≥ p0[(Int.toNat v562)]!.2) := (i_neg decide_eq_true_iff hc663)
          exact is_ext (q_index (i := (p2.length : Int)) SL23 (if_pos hc663) (if_pos hc663) (hp1.bel hB662) (hg664 hcq3))
        refine ⟨if (decide (x561[(Int.toNat v562)]! ≥ p0[(Int.toNat v562)]!.2)) = false then .int .i64 (p1[(Int.toNat (p2.length : Int))]!) else undef, fun w665 hX666 => od_guard (c := (decide (x561[(Int.toNat v562)]! ≥ p0[(Int.toNat v562)]!.2)) = false) (val := .int .i64 (p1[(Int.toNat (p2.length : Int))]!)) (b := ((decide (x561[(Int.toNat v562)]! ≥ p0[(Int.toNat v562)]!.2)) == false)) (gv_some rfl rfl rfl) beq_iff_eq (fun hc669 => ?_), ?_⟩
        · have hS667 := hS581.ext hX666
          have hB668 := hB580.trans (Ext.stp hX666 hS581.base)
          have hcq3 : ¬ (x561[(Int.toNat v562)]! ≥ p0[(Int.toNat v562)]!.2) := (i_neg decide_eq_true_iff hc669)
          exact is_ext (q_load (i := (p2.length : Int)) (v := .int .i64 (p1[(Int.toNat (p2.length : Int))]!)) ON3 (hp1.bel hB668) (hg664 hcq3) rfl (if_pos hc669))
        obtain ⟨r675, hk676, hm⟩ := hm
        refine ⟨if (decide (x561[(Int.toNat v562)]! ≥ p0[(Int.toNat v562)]!.2)) = false then .bool r675 else undef, fun w670 hX671 => od_guard (c := (decide (x561[(Int.toNat v562)]! ≥ p0[(Int.toNat v562)]!.2)) = false) (val := .bool r675) (b := ((decide (x561[(Int.toNat v562)]! ≥ p0[(Int.toNat v562)]!.2)) == false)) (gv_some rfl rfl rfl) beq_iff_eq (fun hc674 => ?_), ?_⟩
        · have hS672 := hS581.ext hX671
          have hB673 := hB580.trans (Ext.stp hX671 hS581.base)
          have hcq3 : ¬ (x561[(Int.toNat v562)]! ≥ p0[(Int.toNat v562)]!.2) := (i_neg decide_eq_true_iff hc674)
          exact (g_call (vs := #[.agg #[.slice ((y0[(Int.toNat v562)]!).1.1) ((y0[(Int.toNat v562)]!).1.2.2.length) ((y0[(Int.toNat v562)]!).1.2.1), .int .i64 (p0[(Int.toNat v562)]!.2)], .int .i64 (p1[(Int.toNat (p2.length : Int))]!)]) CF89 (args2 (if_pos hc674) (if_pos hc674)) ((m_spec_l13Knows_fn (p0[(Int.toNat v562)]!) ((Tv.rowP (hp0.bel hB673) (hg643 hcq3)).up hS672) (p1[(Int.toNat (p2.length : Int))]!) (hk676 hcq3)).mono fun _ _ ⟨_, h1, h2, h3⟩ => ⟨by rw [h2, h1], h3⟩))
        refine ⟨if (decide (x561[(Int.toNat v562)]! ≥ p0[(Int.toNat v562)]!.2)) = false then .bool (!r675) else undef, fun w677 hX678 => od_guard (c := (decide (x561[(Int.toNat v562)]! ≥ p0[(Int.toNat v562)]!.2)) = false) (val := .bool (!r675)) (b := ((decide (x561[(Int.toNat v562)]! ≥ p0[(Int.toNat v562)]!.2)) == false)) (gv_some rfl rfl rfl) beq_iff_eq (fun hc681 => ?_), ?_⟩
        · have hS679 := hS581.ext hX678
          have hB680 := hB580.trans (Ext.stp hX678 hS581.base)
          have hcq3 : ¬ (x561[(Int.toNat v562)]! ≥ p0[(Int.toNat v562)]!.2) := (i_neg decide_eq_true_iff hc681)
          exact is_ext (g_not (a := r675) (if_pos hc681))
        refine ⟨.bool ((decide (x561[(Int.toNat v562)]! ≥ p0[(Int.toNat v562)]!.2)) || (!r675)), fun w682 hX683 => od_plain rfl (by have hS684 := hS581.ext hX683; have hB685 := hB580.trans (Ext.stp hX683 hS581.base); exact is_ext (g_pick_or (b := (decide (x561[(Int.toNat v562)]! ≥ p0[(Int.toNat v562)]!.2))) (q := (!r675)) rfl rfl)), ?_⟩
        intro w686 hX687
        have hB688 := hB580.trans (Ext.stp hX687 hS581.base)
        have hS689 := hS581.ext hX687
        refine hK577 _ _ ?_
        refine w_condI (p := ((x561[(Int.toNat v562)]! ≥ p0[(Int.toNat v562)]!.2) ∨ (¬ (r675 = true)))) (b := ((decide (x561[(Int.toNat v562)]! ≥ p0[(Int.toNat v562)]!.2)) || (!r675))) rfl (i_or decide_eq_true_iff (i_not Iff.rfl)) (fun h690 => ?_) (fun h690 => ?_)
        · replace hm := hm.1 h690
          refine w_exit ?_
          refine hK575 _ _ ?_
          refine w_region ?_
          refine wl_val (g_move (v := .int .i64 v562) rfl) rfl ?_
          obtain ⟨hg691, hm⟩ := hm
          refine wl_val (g_add (a := v562) (b := 1) rfl rfl hg691) rfl ?_
          refine wl_val (g_assign (v := .int .i64 (v562 + 1)) rfl) rfl ?_
          refine wl_nil ?_
          exact ⟨(x561, (v562 + 1)), hm.2, ⟨rfl, rfl, rfl, rfl, rfl, rfl, trivial⟩, ⟨hm.1, hB688, hS689⟩⟩
        · replace hm := hm.2 h690
          refine w_skip ?_
          refine hK576 _ _ ?_
          refine w_seq fun K692 hK692 => ?_
          refine w_region ?_
          refine wl_val (g_move (v := .slice a3 n3 c3) rfl) rfl ?_
          refine wl_val (g_move (v := .int .i64 v562) rfl) rfl ?_
          refine wl_val (g_move (v := .slice a3 n3 c3) rfl) rfl ?_
          refine wl_val (g_move (v := .int .i64 v562) rfl) rfl ?_
          obtain ⟨hg693, hm⟩ := hm
          refine wl_val (q_index (i := v562) SL23 rfl rfl (oS.vw hS689.g0) hg693) rfl ?_
          refine wl_val (q_load (i := v562) (v := .int .i64 (x561[(Int.toNat v562)]!)) ON3 (oS.vw hS689.g0) hg693 rfl rfl) rfl ?_
          obtain ⟨hg694, hm⟩ := hm
          refine wl_val (g_add (a := x561[(Int.toNat v562)]!) (b := 1) rfl rfl hg694) rfl ?_
          obtain ⟨hg695, hm⟩ := hm
          refine wl_val (q_index (i := v562) SL23 rfl rfl (oS.vw hS689.g0) hg695) rfl ?_
          refine wl_step rfl (q_store (i := v562) (v := ((x561[(Int.toNat v562)]! + 1) : Int)) hS689 ON3.sz hg695 rfl rfl rfl) ?_
          rintro _ w696 ⟨rfl, hS697, hb698⟩
          have hB699 := hB688.trans hb698
          refine wl_nil ?_
          refine hK692 _ _ ?_
          refine w_seq fun K700 hK700 => ?_
          refine w_region ?_
          refine wl_val (g_move (v := .slice a0 n0 c0) rfl) rfl ?_
          refine wl_val (g_move (v := .slice a1 n1 c1) rfl) rfl ?_
          refine wl_step rfl (q_lit0 (α := Int) rfl SL23 hS697) ?_
          rintro _ w701 ⟨a702, rfl, hS704, hE703⟩
          have hB706 := hB699.trans (Ext.stp hE703 hS697.base)
          refine wl_val (g_move (v := .slice a2 n2 c2) rfl) rfl ?_
          obtain ⟨hg712, hm⟩ := hm
          refine wl_step rfl (q_append SL23 rfl rfl hS704 (oS.vw hS704.g2) hg712 (by decide)) ?_
          rintro _ w707 ⟨a708, c709, rfl, hS711, hb710⟩
          have hB713 := hB706.trans hb710
          refine wl_val (g_move (v := .int .i64 v562) rfl) rfl ?_
          refine wl_step rfl (q_lit1 (y := (v562 : Int)) SL23 rfl rfl (by decide) hS711) ?_
          rintro _ w714 ⟨a715, rfl, hS717, hE716⟩
          have hB719 := hB713.trans (Ext.stp hE716 hS711.base)
          have hS725 := hS717.f1
          obtain ⟨hg726, hm⟩ := hm
          refine wl_step rfl (q_append SL23 rfl rfl hS725 (oS.vw hS725.g1) hg726 (by decide)) ?_
          rintro _ w720 ⟨a721, c722, rfl, hS724, hb723⟩
          have hB727 := hB719.trans hb723
          refine wl_val (g_move (v := .slice a3 n3 c3) rfl) rfl ?_
          have hS728 := hS724.f2
          have hS729 := hS728.f1
          refine wl_step rfl (g_call (vs := #[.slice a0 n0 c0, .slice a1 n1 c1, .slice a721 ((0 + n2) + 1) c722, .slice a3 n3 c3]) CF59 (args4 rfl rfl rfl rfl) (ih hS729 (hp0.bel hB727) (hp1.bel hB727) hm)) ?_
          rintro _ w730 ⟨r733, a734, n735, c736, r738, x739, x740, hm, rfl, hb731, hS732⟩
          have hB741 := hB727.trans hb731
          refine wl_val (g_move (v := .tuple #[.slice a734 n735 c736, .bool r738]) rfl) rfl ?_
          refine wl_val (g_extract (vs := #[.slice a734 n735 c736, .bool r738]) rfl rfl) rfl ?_
          refine wl_val (g_extract (vs := #[.slice a734 n735 c736, .bool r738]) rfl rfl) rfl ?_
          refine wl_val (g_assign (v := .slice a734 n735 c736) rfl) rfl ?_
          refine wl_val (g_assign (v := .bool r738) rfl) rfl ?_
          refine wl_nil ?_
          refine hK700 _ _ ?_
          refine w_seq fun K742 hK742 => ?_
          refine w_region ?_
          refine wl_val (g_move (v := .slice a3 n3 c3) rfl) rfl ?_
          refine wl_val (g_move (v := .int .i64 v562) rfl) rfl ?_
          refine wl_val (g_move (v := .slice a3 n3 c3) rfl) rfl ?_
          refine wl_val (g_move (v := .int .i64 v562) rfl) rfl ?_
          obtain ⟨hg743, hm⟩ := hm
          refine wl_val (q_index (i := v562) SL23 rfl rfl (oS.vw hS732.g2) hg743) rfl ?_
          refine wl_val (q_load (i := v562) (v := .int .i64 (x740[(Int.toNat v562)]!)) ON3 (oS.vw hS732.g2) hg743 rfl rfl) rfl ?_
          obtain ⟨hg744, hm⟩ := hm
          refine wl_val (g_sub (a := x740[(Int.toNat v562)]!) (b := 1) rfl rfl hg744) rfl ?_
          obtain ⟨hg745, hm⟩ := hm
          refine wl_val (q_index (i := v562) SL23 rfl rfl (oS.vw hS732.g2) hg745) rfl ?_
          have hS749 := hS732.f2
          refine wl_step rfl (q_store (i := v562) (v := ((x740[(Int.toNat v562)]! - 1) : Int)) hS749 ON3.sz hg745 rfl rfl rfl) ?_
          rintro _ w746 ⟨rfl, hS747, hb748⟩
          have hB750 := hB741.trans hb748
          refine wl_nil ?_
          refine hK742 _ _ ?_
          refine w_seq fun K751 hK751 => ?_
          refine w_region ?_
          refine wl_val (g_move (v := .bool r738) rfl) rfl ?_
          refine wl_nil ?_
          refine hK751 _ _ ?_
          refine w_condI (p := r738 = true) (b := r738) rfl Iff.rfl (fun h752 => ?_) (fun h752 => ?_)
          · replace hm := hm.1 h752
            refine w_seq fun K753 hK753 => ?_
            refine w_region ?_
            refine wl_val (g_move (v := .slice a734 n735 c736) rfl) rfl ?_
            refine wl_val (g_assign (v := .slice a734 n735 c736) rfl) rfl ?_
            refine wl_val (g_assign (v := .bool true) rfl) rfl ?_
            refine wl_nil ?_
            refine hK753 _ _ ?_
            refine w_ret ?_
            have hS754 := hS747.f2
            have hS755 := hS754.tail
            have hS756 := hS755.f2
            have hS757 := hS756.tail
            have hS758 := hS757.f2
            have hS759 := hS758.f2
            repeat first | with_reducible refine q_then ?_ | with_reducible refine q_block ?_
            exact ret2 rfl (by decide) (by decide) ⟨_, _, _, _, _, _, _, hm, rfl, hB750, hS759⟩
          · replace hm := hm.2 h752
            refine w_skip ?_
            refine hK575 _ _ ?_
            refine w_region ?_
            refine wl_val (g_move (v := .int .i64 v562) rfl) rfl ?_
            obtain ⟨hg760, hm⟩ := hm
            refine wl_val (g_add (a := v562) (b := 1) rfl rfl hg760) rfl ?_
            refine wl_val (g_assign (v := .int .i64 (v562 + 1)) rfl) rfl ?_
            refine wl_nil ?_
            have hS761 := hS747.f1
            have hS762 := hS761.tail
            have hS763 := hS762.f1
            have hS764 := hS763.tail
            have hS765 := hS764.f1
            have hS766 := hS765.tail
            exact ⟨((x740.set (Int.toNat v562) (x740[(Int.toNat v562)]! - 1)), (v562 + 1)), hm.2, ⟨rfl, rfl, rfl, rfl, rfl, rfl, trivial⟩, ⟨hm.1, hB750, hS766⟩⟩
      · replace hm := hm.2 h574
        refine w_exit ?_
        exact ⟨(x561), trivial, ⟨hm, hB569, hS570⟩⟩
    · rintro x558 b_ w767 ⟨hm, hB768, hS769⟩
      show Wp _ _ _ _ (upds b_ []) w767
      refine w_seq fun K770 hK770 => ?_
      refine w_region ?_
      refine wl_step rfl (q_lit0 (α := Int) rfl SL23 hS769) ?_
      rintro _ w771 ⟨a772, rfl, hS774, hE773⟩
      have hB776 := hB768.trans (Ext.stp hE773 hS769.base)
      refine wl_val (g_assign (v := .slice a772 0 0) rfl) rfl ?_
      refine wl_val (g_assign (v := .bool false) rfl) rfl ?_
      refine wl_nil ?_
      refine hK770 _ _ ?_
      refine w_ret ?_
      have hS777 := hS774.f1
      have hS778 := hS777.f2
      have hS779 := hS778.f2
      repeat first | with_reducible refine q_then ?_ | with_reducible refine q_block ?_
      exact ret2 rfl (by decide) (by decide) ⟨_, _, _, _, _, _, _, hm, rfl, hB776, hS779⟩
theorem m_spec_l13Search_fn : ∀ (f_ : Nat) {w : World} {B_ : Nat} {L_ : List Ob} {a0 : Option Addr} {n0 c0 : Nat} {y0 : List PlayerD} {p0 : List PlayerC} {a1 : Option Addr} {n1 c1 : Nat} {p1 : List Int} {a2 : Option Addr} {n2 c2 : Nat} {p2 : List Int} {a3 : Option Addr} {n3 c3 : Nat} {p3 : List Int} {Q : (List Int) → Bool → (List Int) → (List Int) → Prop} (hS0 : Sep w B_ (oS 3 a2 n2 c2 (p2 : List Int) :: oS 3 a3 n3 c3 (p3 : List Int) :: L_)) (hp0 : Tv B_ w a0 n0 c0 y0 p0) (hp1 : Vw B_ w a1 n1 c1 p1) (hm : m_spec_l13Search f_ p0 p1 p2 p3 Q), Fn Try.prog 59 #[.slice a0 n0 c0, .slice a1 n1 c1, .slice a2 n2 c2, .slice a3 n3 c3] w (fun v w' => ∃ (r0 : List Int) (a0 : Option Addr) (n0 c0 : Nat) (r1 : Bool) (x0 : List Int) (x1 : List Int), Q r0 r1 x0 x1 ∧ v = .tuple #[.slice a0 n0 c0, .bool r1] ∧ Below B_ w w' ∧ Sep w' B_ (oS 3 a0 n0 c0 r0 :: oS 3 a2 n2 c2 x0 :: oS 3 a3 n3 c3 x1 :: L_)) := by
  intro f_
  induction f_ with
  | zero =>
    intro w B_ L_ a0 n0 c0 y0 p0 a1 n1 c1 p1 a2 n2 c2 p2 a3 n3 c3 p3 Q hS0 hp0 hp1 hm
    exact False.elim hm
  | succ f_ ih =>
    intro w B_ L_ a0 n0 c0 y0 p0 a1 n1 c1 p1 a2 n2 c2 p2 a3 n3 c3 p3 Q hS0 hp0 hp1 hm
    exact m_spec_l13Search_step_fn @ih hS0 hp0 hp1 hm

theorem m_spec_FirstCasting_fn {w : World} {a0 : Option Addr} {n0 c0 : Nat} {y0 : List PlayerD} {p0 : List PlayerC} {a1 : Option Addr} {n1 c1 : Nat} {p1 : List Int} {Q : (List Int) → Bool → Prop} (hp0 : Tv w.heap.size w a0 n0 c0 y0 p0) (hp1 : Vw w.heap.size w a1 n1 c1 p1) (hm : m_spec_FirstCasting p0 p1 Q) :
    Fn Try.prog 13 #[.slice a0 n0 c0, .slice a1 n1 c1] w (fun v w' => ∃ (r0 : List Int) (a0 : Option Addr) (n0 c0 : Nat) (r1 : Bool), Q r0 r1 ∧ v = .tuple #[.slice a0 n0 c0, .bool r1] ∧ Ext w w' ∧ Sep w' w.heap.size [oS 3 a0 n0 c0 r0]) := by
  unfold m_spec_FirstCasting at hm
  have hB0 := Below.refl w.heap.size w
  have hS0 : Sep w w.heap.size [] := Sep.nil (Nat.le_refl _)
  refine fn_of_wp Try.func13 rfl (by kernel_rfl) (Nat.le_of_ble_eq_true rfl) ?_
  refine w_seq fun K1 hK1 => ?_
  refine w_region ?_
  refine wl_val (g_assign (v := .slice none 0 0) rfl) rfl ?_
  refine wl_val (g_assign (v := .bool false) rfl) rfl ?_
  refine wl_nil ?_
  refine hK1 _ _ ?_
  refine w_seq fun K2 hK2 => ?_
  refine w_seq fun K3 hK3 => ?_
  refine w_region ?_
  refine wl_val (g_move (v := .slice a0 n0 c0) rfl) rfl ?_
  refine wl_step rfl (g_call (vs := #[.slice a0 n0 c0]) CF57 (args1 rfl) (m_spec_PlayersOk_fn ((hp0.bel hB0).up hS0) hm)) ?_
  rintro _ w4 ⟨r7, hm, rfl, hE5⟩
  have hB8 := hB0.trans (Ext.stp hE5 hS0.base)
  have hS9 := hS0.ext hE5
  refine wl_val (g_not (a := r7) rfl) rfl ?_
  refine wl_val (g_move (v := .bool (!r7)) rfl) rfl ?_
  refine wl_guard (c := (!r7) = false) (val := .slice a1 n1 c1) (b := ((!r7) == false)) (gv_some rfl rfl rfl) beq_iff_eq (fun hc10 => ?_) ?_
  · have hcq0 : ¬ (¬ (r7 = true)) := (i_neg (i_not Iff.rfl) hc10)
    exact g_move (v := .slice a1 n1 c1) rfl
  obtain ⟨r12, hk13, hm⟩ := hm
  refine wl_guardE (X := Ext) (c := (!r7) = false) (val := .bool r12) (Ext.refl _) (b := ((!r7) == false)) (gv_some rfl rfl rfl) beq_iff_eq (fun hc11 => ?_) (fun w14 hE15 => ?_)
  · have hcq0 : ¬ (¬ (r7 = true)) := (i_neg (i_not Iff.rfl) hc11)
    exact (g_call (vs := #[.slice a1 n1 c1, .int .i64 6]) CF58 (args2 (if_pos hc11) rfl) ((m_spec_l11Rising_fn ((hp1.bel hB8).up hS9) 6 (hk13 hcq0)).mono fun _ _ ⟨_, h1, h2, h3⟩ => ⟨by rw [h2, h1], h3⟩))
  have hB16 := hB8.trans (Ext.stp hE15 hS9.base)
  have hS17 := hS9.ext hE15
  refine wl_guard (c := (!r7) = false) (val := .bool (!r12)) (b := ((!r7) == false)) (gv_some rfl rfl rfl) beq_iff_eq (fun hc18 => ?_) ?_
  · have hcq0 : ¬ (¬ (r7 = true)) := (i_neg (i_not Iff.rfl) hc18)
    exact g_not (a := r12) (if_pos hc18)
  refine wl_val (g_pick_or (b := (!r7)) (q := (!r12)) rfl rfl) rfl ?_
  refine wl_nil ?_
  refine hK3 _ _ ?_
  refine w_condI (p := ((¬ (r7 = true)) ∨ (¬ (r12 = true)))) (b := ((!r7) || (!r12))) rfl (i_or (i_not Iff.rfl) (i_not Iff.rfl)) (fun h19 => ?_) (fun h19 => ?_)
  · replace hm := hm.1 h19
    refine w_seq fun K20 hK20 => ?_
    refine w_region ?_
    refine wl_step rfl (q_lit0 (α := Int) rfl SL23 hS17) ?_
    rintro _ w21 ⟨a22, rfl, hS24, hE23⟩
    have hB26 := hB16.trans (Ext.stp hE23 hS17.base)
    refine wl_val (g_assign (v := .slice a22 0 0) rfl) rfl ?_
    refine wl_val (g_assign (v := .bool false) rfl) rfl ?_
    refine wl_nil ?_
    refine hK20 _ _ ?_
    refine w_ret ?_
    repeat first | with_reducible refine q_then ?_ | with_reducible refine q_block ?_
    exact ret2 rfl (by decide) (by decide) ⟨_, _, _, _, _, hm, rfl, toExt hB26, hS24⟩
  · replace hm := hm.2 h19
    refine w_skip ?_
    refine hK2 _ _ ?_
    refine w_seq fun K27 hK27 => ?_
    refine w_region ?_
    refine wl_val (g_move (v := .slice a0 n0 c0) rfl) rfl ?_
    refine wl_val (g_move (v := .slice a1 n1 c1) rfl) rfl ?_
    refine wl_step rfl (q_lit0 (α := Int) rfl SL23 hS17) ?_
    rintro _ w28 ⟨a29, rfl, hS31, hE30⟩
    have hB33 := hB16.trans (Ext.stp hE30 hS17.base)
    refine wl_val (g_move (v := .slice a0 n0 c0) rfl) rfl ?_
    refine wl_val (q_len SL27 rfl (Tv.len (hp0.bel hB33))) rfl ?_
    obtain ⟨hg34, hm⟩ := hm
    refine wl_step rfl (q_make (y := (0 : Int)) SL23 rfl rfl hg34.1 hg34.2 (by decide) hS31) ?_
    rintro _ w35 ⟨a36, rfl, hS38, hE37⟩
    have hB40 := hB33.trans (Ext.stp hE37 hS31.base)
    have hS41 := hS38.f1
    obtain ⟨f42, hm⟩ := hm
    refine wl_step rfl (g_call (vs := #[.slice a0 n0 c0, .slice a1 n1 c1, .slice a29 0 0, .slice a36 (Int.toNat (p0.length : Int)) (Int.toNat (p0.length : Int))]) CF59 (args4 rfl rfl rfl rfl) (m_spec_l13Search_fn f42 hS41 (hp0.bel hB40) (hp1.bel hB40) hm)) ?_
    rintro _ w43 ⟨r46, a47, n48, c49, r51, x52, x53, hm, rfl, hb44, hS45⟩
    have hB54 := hB40.trans hb44
    refine wl_val (g_move (v := .tuple #[.slice a47 n48 c49, .bool r51]) rfl) rfl ?_
    refine wl_val (g_extract (vs := #[.slice a47 n48 c49, .bool r51]) rfl rfl) rfl ?_
    refine wl_val (g_extract (vs := #[.slice a47 n48 c49, .bool r51]) rfl rfl) rfl ?_
    refine wl_val (g_assign (v := .slice a47 n48 c49) rfl) rfl ?_
    refine wl_val (g_assign (v := .bool r51) rfl) rfl ?_
    refine wl_nil ?_
    refine hK27 _ _ ?_
    refine w_seq fun K55 hK55 => ?_
    refine w_region ?_
    refine wl_val (g_move (v := .slice a47 n48 c49) rfl) rfl ?_
    refine wl_val (g_move (v := .bool r51) rfl) rfl ?_
    refine wl_val (g_assign (v := .slice a47 n48 c49) rfl) rfl ?_
    refine wl_val (g_assign (v := .bool r51) rfl) rfl ?_
    refine wl_nil ?_
    refine hK55 _ _ ?_
    refine w_ret ?_
    have hS56 := hS45.f1
    have hS57 := hS56.tail
    have hS58 := hS57.f1
    have hS59 := hS58.tail
    repeat first | with_reducible refine q_then ?_ | with_reducible refine q_block ?_
    exact ret2 rfl (by decide) (by decide) ⟨_, _, _, _, _, hm, rfl, toExt hB54, hS59⟩

theorem m_laws_sameInts_fn {w : World} {a0 : Option Addr} {n0 c0 : Nat} {p0 : List Int} {a1 : Option Addr} {n1 c1 : Nat} {p1 : List Int} {Q : Bool → Prop} (hp0 : Vw w.heap.size w a0 n0 c0 p0) (hp1 : Vw w.heap.size w a1 n1 c1 p1) (hm : m_laws_sameInts p0 p1 Q) :
    Fn Try.prog 52 #[.slice a0 n0 c0, .slice a1 n1 c1] w (fun v w' => ∃ (r0 : Bool), Q r0 ∧ v = .bool r0 ∧ Ext w w') := by
  unfold m_laws_sameInts at hm
  have hB0 := Below.refl w.heap.size w
  have hS0 : Sep w w.heap.size [] := Sep.nil (Nat.le_refl _)
  refine fn_of_wp Try.func52 rfl (by kernel_rfl) (Nat.le_of_ble_eq_true rfl) ?_
  refine w_seq fun K1 hK1 => ?_
  refine w_region ?_
  refine wl_val (g_assign (v := .bool false) rfl) rfl ?_
  refine wl_nil ?_
  refine hK1 _ _ ?_
  refine w_seq fun K2 hK2 => ?_
  refine w_seq fun K3 hK3 => ?_
  refine w_region ?_
  refine wl_val (g_move (v := .slice a0 n0 c0) rfl) rfl ?_
  refine wl_val (q_len SL23 rfl (Vw.len (hp0.bel hB0))) rfl ?_
  refine wl_val (g_move (v := .slice a1 n1 c1) rfl) rfl ?_
  refine wl_val (q_len SL23 rfl (Vw.len (hp1.bel hB0))) rfl ?_
  refine wl_val (g_neq (a := (p0.length : Int)) (b := (p1.length : Int)) rfl rfl) rfl ?_
  refine wl_nil ?_
  refine hK3 _ _ ?_
  refine w_condI (p := (p0.length : Int) ≠ (p1.length : Int)) (b := (decide ((p0.length : Int) ≠ (p1.length : Int)))) rfl decide_eq_true_iff (fun h4 => ?_) (fun h4 => ?_)
  · replace hm := hm.1 h4
    refine w_seq fun K5 hK5 => ?_
    refine w_region ?_
    refine wl_val (g_assign (v := .bool false) rfl) rfl ?_
    refine wl_nil ?_
    refine hK5 _ _ ?_
    refine w_ret ?_
    repeat first | with_reducible refine q_then ?_ | with_reducible refine q_block ?_
    exact ret1 rfl (by decide) ⟨_, hm, rfl, toExt hB0⟩
  · replace hm := hm.2 h4
    refine w_skip ?_
    refine hK2 _ _ ?_
    refine w_cut (σ := Unit) (fun _ => []) (fun _ w' => m_laws_sameInts_K0 Q ∧ Below w.heap.size w w' ∧ Sep w' w.heap.size []) ?_ ?_
    · refine w_seq fun K7 hK7 => ?_
      refine w_region ?_
      refine wl_val (g_assign (v := .int .i64 0) rfl) rfl ?_
      refine wl_nil ?_
      refine hK7 _ _ ?_
      refine w_block ?_
      obtain ⟨I71, μ72, h073, hr74⟩ := hm
      refine w_for (σ := Int) (fun v70 => [(0, .slice a0 n0 c0), (1, .slice a1 n1 c1), (5, .int .i64 v70)]) (fun v70 w' => I71 v70 ∧ Below w.heap.size w w' ∧ Sep w' w.heap.size []) (fun v70 => μ72 v70) (0) ⟨rfl, rfl, rfl, trivial⟩ ⟨h073, hB0, hS0⟩ ?_
      rintro v70 b_ w75 ⟨hi_, hB76, hS77⟩
      show Wp _ _ _ _ (upds b_ [(0, .slice a0 n0 c0), (1, .slice a1 n1 c1), (5, .int .i64 v70)]) w75
      have hm := hr74 v70 hi_
      refine w_seq fun K79 hK79 => ?_
      refine w_seq fun K80 hK80 => ?_
      refine w_region ?_
      refine wl_val (g_move (v := .int .i64 v70) rfl) rfl ?_
      refine wl_val (g_move (v := .slice a0 n0 c0) rfl) rfl ?_
      refine wl_val (q_len SL23 rfl (Vw.len (hp0.bel hB76))) rfl ?_
      refine wl_val (g_lss (a := v70) (b := (p0.length : Int)) rfl rfl) rfl ?_
      refine wl_nil ?_
      refine hK80 _ _ ?_
      refine w_condI (p := v70 < (p0.length : Int)) (b := (decide (v70 < (p0.length : Int)))) rfl decide_eq_true_iff (fun h81 => ?_) (fun h81 => ?_)
      · replace hm := hm.1 h81
        refine w_skip ?_
        refine hK79 _ _ ?_
        refine w_seq fun K82 hK82 => ?_
        refine w_block ?_
        refine w_seq fun K83 hK83 => ?_
        refine w_draw (X := Ext) (Y := Ext) [] MIX (by decide +kernel) rfl Ext.refl (fun _ _ _ => Ext.trans) (fun _ _ _ => Chg.trans) (fun _ _ h => Ext.chg h _) (fun w84 hE85 => ?_)
        have hB86 := hB76.trans (Ext.stp hE85 hS77.base)
        have hS87 := hS77.ext hE85
        refine ⟨.slice a0 n0 c0, fun w88 hX89 => od_plain rfl (by have hS90 := hS87.ext hX89; have hB91 := hB86.trans (Ext.stp hX89 hS87.base); exact is_ext (g_move (v := .slice a0 n0 c0) rfl)), ?_⟩
        refine ⟨.int .i64 v70, fun w92 hX93 => od_plain rfl (by have hS94 := hS87.ext hX93; have hB95 := hB86.trans (Ext.stp hX93 hS87.base); exact is_ext (g_move (v := .int .i64 v70) rfl)), ?_⟩
        obtain ⟨hg100, hm⟩ := hm
        refine ⟨.pointer (some ((adr a0).add ((Int.toNat v70) * El.m Int))), fun w96 hX97 => od_plain rfl (by have hS98 := hS87.ext hX97; have hB99 := hB86.trans (Ext.stp hX97 hS87.base); exact is_ext (q_index (i := v70) SL23 rfl rfl (hp0.bel hB99) hg100)), ?_⟩
        refine ⟨.int .i64 (p0[(Int.toNat v70)]!), fun w101 hX102 => od_plain rfl (by have hS103 := hS87.ext hX102; have hB104 := hB86.trans (Ext.stp hX102 hS87.base); exact is_ext (q_load (i := v70) (v := .int .i64 (p0[(Int.toNat v70)]!)) ON3 (hp0.bel hB104) hg100 rfl rfl)), ?_⟩
        refine ⟨.slice a1 n1 c1, fun w105 hX106 => od_plain rfl (by have hS107 := hS87.ext hX106; have hB108 := hB86.trans (Ext.stp hX106 hS87.base); exact is_ext (g_move (v := .slice a1 n1 c1) rfl)), ?_⟩
        refine ⟨.int .i64 v70, fun w109 hX110 => od_plain rfl (by have hS111 := hS87.ext hX110; have hB112 := hB86.trans (Ext.stp hX110 hS87.base); exact is_ext (g_move (v := .int .i64 v70) rfl)), ?_⟩
        obtain ⟨hg117, hm⟩ := hm
        refine ⟨.pointer (some ((adr a1).add ((Int.toNat v70) * El.m Int))), fun w113 hX114 => od_plain rfl (by have hS115 := hS87.ext hX114; have hB116 := hB86.trans (Ext.stp hX114 hS87.base); exact is_ext (q_index (i := v70) SL23 rfl rfl (hp1.bel hB116) hg117)), ?_⟩
        refine ⟨.int .i64 (p1[(Int.toNat v70)]!), fun w118 hX119 => od_plain rfl (by have hS120 := hS87.ext hX119; have hB121 := hB86.trans (Ext.stp hX119 hS87.base); exact is_ext (q_load (i := v70) (v := .int .i64 (p1[(Int.toNat v70)]!)) ON3 (hp1.bel hB121) hg117 rfl rfl)), ?_⟩
        refine ⟨.bool (decide (p0[(Int.toNat v70)]! ≠ p1[(Int.toNat v70)]!)), fun w122 hX123 => od_plain rfl (by have hS124 := hS87.ext hX123; have hB125 := hB86.trans (Ext.stp hX123 hS87.base); exact is_ext (g_neq (a := p0[(Int.toNat v70)]!) (b := p1[(Int.toNat v70)]!) rfl rfl)), ?_⟩
        intro w126 hX127
        have hB128 := hB86.trans (Ext.stp hX127 hS87.base)
        have hS129 := hS87.ext hX127
        refine hK83 _ _ ?_
        refine w_condI (p := p0[(Int.toNat v70)]! ≠ p1[(Int.toNat v70)]!) (b := (decide (p0[(Int.toNat v70)]! ≠ p1[(Int.toNat v70)]!))) rfl decide_eq_true_iff (fun h130 => ?_) (fun h130 => ?_)
        · replace hm := hm.1 h130
          refine w_seq fun K131 hK131 => ?_
          refine w_region ?_
          refine wl_val (g_assign (v := .bool false) rfl) rfl ?_
          refine wl_nil ?_
          refine hK131 _ _ ?_
          refine w_ret ?_
          repeat first | with_reducible refine q_then ?_ | with_reducible refine q_block ?_
          exact ret1 rfl (by decide) ⟨_, hm, rfl, toExt hB128⟩
        · replace hm := hm.2 h130
          refine w_skip ?_
          refine hK82 _ _ ?_
          refine w_region ?_
          refine wl_val (g_move (v := .int .i64 v70) rfl) rfl ?_
          obtain ⟨hg132, hm⟩ := hm
          refine wl_val (g_add (a := v70) (b := 1) rfl rfl hg132) rfl ?_
          refine wl_val (g_assign (v := .int .i64 (v70 + 1)) rfl) rfl ?_
          refine wl_nil ?_
          exact ⟨((v70 + 1)), hm.2, ⟨rfl, rfl, rfl, trivial⟩, ⟨hm.1, hB128, hS129⟩⟩
      · replace hm := hm.2 h81
        refine w_exit ?_
        exact ⟨(), trivial, ⟨hm, hB76, hS77⟩⟩
    · rintro _ b_ w133 ⟨hm, hB134, hS135⟩
      show Wp _ _ _ _ (upds b_ []) w133
      refine w_seq fun K136 hK136 => ?_
      refine w_region ?_
      refine wl_val (g_assign (v := .bool true) rfl) rfl ?_
      refine wl_nil ?_
      refine hK136 _ _ ?_
      refine w_ret ?_
      repeat first | with_reducible refine q_then ?_ | with_reducible refine q_block ?_
      exact ret1 rfl (by decide) ⟨_, hm, rfl, toExt hB134⟩

end Go.Proofs.Ytddjkiefadiijaa
