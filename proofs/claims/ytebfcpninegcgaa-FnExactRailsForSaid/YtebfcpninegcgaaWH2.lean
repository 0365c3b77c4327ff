/- The walks: the code does what its model says. Printed by a program (gen2.py). No statement of the claim stands here. -/
import Derived.Test.YtebfcpninegcgaaSop
import Derived.Test.YtebfcpninegcgaaFacts
import Derived.Test.YtebfcpninegcgaaMH
namespace Go.Proofs.Ytebfcpninegcgaa
open Go Go.RowKit
set_option maxRecDepth 100000
theorem m_laws_markStayS_fn {w : World} {B_ : Nat} {L_ : List Ob} {a0 : Option Addr} {n0 c0 : Nat} {p0 : List Stay} {Q : Int → (List Stay) → Prop} (hS0 : Sep w B_ (oS 39 a0 n0 c0 (p0 : List Stay) :: L_)) (p1 : Int) (hm : m_laws_markStayS p0 p1 Q) :
    Fn Try.prog 11 #[.slice a0 n0 c0, .int .i64 p1] w (fun v w' => ∃ (r0 : Int) (x0 : List Stay), Q r0 x0 ∧ v = .int .i64 r0 ∧ Below B_ w w' ∧ Sep w' B_ (oS 39 a0 n0 c0 x0 :: L_)) := by
  unfold m_laws_markStayS at hm
  have hB0 := Below.refl B_ w
  refine fn_of_wp Try.func11 rfl (by kernel_rfl) (Nat.le_of_ble_eq_true rfl) ?_
  refine w_seq fun K2 hK2 => ?_
  refine w_region ?_
  refine wl_val (g_assign (v := .int .i64 0) rfl) rfl ?_
  refine wl_nil ?_
  refine hK2 _ _ ?_
  refine w_cut (σ := List Stay × Int) (fun ⟨x80, v81⟩ => [(1, .int .i64 v81)]) (fun ⟨x80, v81⟩ w' => m_laws_markStayS_K0 Q x80 v81 ∧ Below B_ w w' ∧ Sep w' B_ (oS 39 a0 n0 c0 (x80 : List Stay) :: L_)) ?_ ?_
  · refine w_seq fun K83 hK83 => ?_
    refine w_region ?_
    refine wl_val (g_assign (v := .int .i64 0) rfl) rfl ?_
    refine wl_nil ?_
    refine hK83 _ _ ?_
    refine w_block ?_
    obtain ⟨I87, μ88, h089, hr90⟩ := hm
    refine w_for (σ := List Stay × Int × Int) (fun ⟨x84, v85, v86⟩ => [(0, .slice a0 n0 c0), (1, .int .i64 v85), (5, .int .i64 v86)]) (fun ⟨x84, v85, v86⟩ w' => I87 x84 v85 v86 ∧ Below B_ w w' ∧ Sep w' B_ (oS 39 a0 n0 c0 (x84 : List Stay) :: L_)) (fun ⟨x84, v85, v86⟩ => μ88 x84 v85 v86) (p0, p1, 0) ⟨rfl, rfl, rfl, trivial⟩ ⟨h089, hB0, hS0⟩ ?_
    rintro ⟨x84, v85, v86⟩ b_ w91 ⟨hi_, hB92, hS93⟩
    show Wp _ _ _ _ (upds b_ [(0, .slice a0 n0 c0), (1, .int .i64 v85), (5, .int .i64 v86)]) w91
    have hm := hr90 x84 v85 v86 hi_
    refine w_seq fun K95 hK95 => ?_
    refine w_seq fun K96 hK96 => ?_
    refine w_region ?_
    refine wl_val (g_move (v := .int .i64 v86) rfl) rfl ?_
    refine wl_val (g_move (v := .slice a0 n0 c0) rfl) rfl ?_
    refine wl_val (q_len SL26 rfl (Vw.len (oS.vw hS93.g0))) rfl ?_
    refine wl_val (g_lss (a := v86) (b := (x84.length : Int)) rfl rfl) rfl ?_
    refine wl_nil ?_
    refine hK96 _ _ ?_
    refine w_condI (p := v86 < (x84.length : Int)) (b := (decide (v86 < (x84.length : Int)))) rfl decide_eq_true_iff (fun h97 => ?_) (fun h97 => ?_)
    · replace hm := hm.1 h97
      refine w_skip ?_
      refine hK95 _ _ ?_
      refine w_seq fun K98 hK98 => ?_
      refine w_block ?_
      refine w_seq fun K99 hK99 => ?_
      refine w_region ?_
      refine wl_val (g_move (v := .slice a0 n0 c0) rfl) rfl ?_
      refine wl_val (g_move (v := .int .i64 v86) rfl) rfl ?_
      refine wl_val (g_move (v := .int .i64 v85) rfl) rfl ?_
      obtain ⟨hg100, hm⟩ := hm
      refine wl_val (q_index (i := v86) SL26 rfl rfl (oS.vw hS93.g0) hg100) rfl ?_
      refine wl_val (g_fieldAddr (q := (adr a0).add ((Int.toNat v86) * El.m Stay)) FL39_0 ON3 rfl) rfl ?_
      refine wl_step rfl (q_storeF (i := v86) (j := 0) (v := ((v85, x84[(Int.toNat v86)]!.2.1, x84[(Int.toNat v86)]!.2.2) : Stay)) hS93 ON3 hg100 rfl rfl rfl rfl (by decide) rfl) ?_
      rintro _ w101 ⟨rfl, hS102, hb103⟩
      have hB104 := hB92.trans hb103
      refine wl_nil ?_
      refine hK99 _ _ ?_
      refine w_seq fun K105 hK105 => ?_
      refine w_region ?_
      refine wl_val (g_move (v := .int .i64 v85) rfl) rfl ?_
      obtain ⟨hg106, hm⟩ := hm
      refine wl_val (g_add (a := v85) (b := 1) rfl rfl hg106) rfl ?_
      refine wl_val (g_assign (v := .int .i64 (v85 + 1)) rfl) rfl ?_
      refine wl_nil ?_
      refine hK105 _ _ ?_
      refine w_seq fun K107 hK107 => ?_
      refine w_region ?_
      refine wl_val (g_move (v := .slice a0 n0 c0) rfl) rfl ?_
      refine wl_val (g_move (v := .int .i64 v86) rfl) rfl ?_
      refine wl_val (g_move (v := .int .i64 (v85 + 1)) rfl) rfl ?_
      obtain ⟨hg108, hm⟩ := hm
      refine wl_val (q_index (i := v86) SL26 rfl rfl (oS.vw hS102.g0) hg108) rfl ?_
      refine wl_val (g_fieldAddr (q := (adr a0).add ((Int.toNat v86) * El.m Stay)) FL39_1 ON3 rfl) rfl ?_
      refine wl_step rfl (q_storeF (i := v86) (j := 1) (v := (((x84.set (Int.toNat v86) (v85, x84[(Int.toNat v86)]!.2.1, x84[(Int.toNat v86)]!.2.2))[(Int.toNat v86)]!.1, (v85 + 1), (x84.set (Int.toNat v86) (v85, x84[(Int.toNat v86)]!.2.1, x84[(Int.toNat v86)]!.2.2))[(Int.toNat v86)]!.2.2) : Stay)) hS102 ON3 hg108 rfl rfl rfl rfl (by decide) rfl) ?_
      rintro _ w109 ⟨rfl, hS110, hb111⟩
      have hB112 := hB104.trans hb111
      refine wl_nil ?_
      refine hK107 _ _ ?_
      refine w_seq fun K113 hK113 => ?_
      refine w_region ?_
      refine wl_val (g_move (v := .int .i64 (v85 + 1)) rfl) rfl ?_
      obtain ⟨hg114, hm⟩ := hm
      refine wl_val (g_add (a := (v85 + 1)) (b := 1) rfl rfl hg114) rfl ?_
      refine wl_val (g_assign (v := .int .i64 ((v85 + 1) + 1)) rfl) rfl ?_
      refine wl_nil ?_
      refine hK113 _ _ ?_
      refine w_seq fun K115 hK115 => ?_
      refine w_region ?_
      refine wl_val (g_move (v := .slice a0 n0 c0) rfl) rfl ?_
      refine wl_val (g_move (v := .int .i64 v86) rfl) rfl ?_
      refine wl_val (g_move (v := .int .i64 ((v85 + 1) + 1)) rfl) rfl ?_
      obtain ⟨hg116, hm⟩ := hm
      refine wl_val (q_index (i := v86) SL26 rfl rfl (oS.vw hS110.g0) hg116) rfl ?_
      refine wl_val (g_fieldAddr (q := (adr a0).add ((Int.toNat v86) * El.m Stay)) FL39_2 ON3 rfl) rfl ?_
      refine wl_step rfl (q_storeF (i := v86) (j := 2) (v := ((((x84.set (Int.toNat v86) (v85, x84[(Int.toNat v86)]!.2.1, x84[(Int.toNat v86)]!.2.2)).set (Int.toNat v86) ((x84.set (Int.toNat v86) (v85, x84[(Int.toNat v86)]!.2.1, x84[(Int.toNat v86)]!.2.2))[(Int.toNat v86)]!.1, (v85 + 1), (x84.set (Int.toNat v86) (v85, x84[(Int.toNat v86)]!.2.1, x84[(Int.toNat v86)]!.2.2))[(Int.toNat v86)]!.2.2))[(Int.toNat v86)]!.1, ((x84.set (Int.toNat v86) (v85, x84[(Int.toNat v86)]!.2.1, x84[(Int.toNat v86)]!.2.2)).set (Int.toNat v86) ((x84.set (Int.toNat v86) (v85, x84[(Int.toNat v86)]!.2.1, x84[(Int.toNat v86)]!.2.2))[(Int.toNat v86)]!.1, (v85 + 1), (x84.set (Int.toNat v86) (v85, x84[(Int.toNat v86)]!.2.1, x84[(Int.toNat v86)]!.2.2))[(Int.toNat v86)]!.2.2))[(Int.toNat v86)]!.2.1, ((v85 + 1) + 1)) : Stay)) hS110 ON3 hg116 rfl rfl rfl rfl (by decide) rfl) ?_
      rintro _ w117 ⟨rfl, hS118, hb119⟩
      have hB120 := hB112.trans hb119
      refine wl_nil ?_
      refine hK115 _ _ ?_
      refine w_region ?_
      refine wl_val (g_move (v := .int .i64 ((v85 + 1) + 1)) rfl) rfl ?_
      obtain ⟨hg121, hm⟩ := hm
      refine wl_val (g_add (a := ((v85 + 1) + 1)) (b := 1) rfl rfl hg121) rfl ?_
      refine wl_val (g_assign (v := .int .i64 (((v85 + 1) + 1) + 1)) rfl) rfl ?_
      refine wl_nil ?_
      refine hK98 _ _ ?_
      refine w_region ?_
      refine wl_val (g_move (v := .int .i64 v86) rfl) rfl ?_
      obtain ⟨hg122, hm⟩ := hm
      refine wl_val (g_add (a := v86) (b := 1) rfl rfl hg122) rfl ?_
      refine wl_val (g_assign (v := .int .i64 (v86 + 1)) rfl) rfl ?_
      refine wl_nil ?_
      exact ⟨((((x84.set (Int.toNat v86) (v85, x84[(Int.toNat v86)]!.2.1, x84[(Int.toNat v86)]!.2.2)).set (Int.toNat v86) ((x84.set (Int.toNat v86) (v85, x84[(Int.toNat v86)]!.2.1, x84[(Int.toNat v86)]!.2.2))[(Int.toNat v86)]!.1, (v85 + 1), (x84.set (Int.toNat v86) (v85, x84[(Int.toNat v86)]!.2.1, x84[(Int.toNat v86)]!.2.2))[(Int.toNat v86)]!.2.2)).set (Int.toNat v86) (((x84.set (Int.toNat v86) (v85, x84[(Int.toNat v86)]!.2.1, x84[(Int.toNat v86)]!.2.2)).set (Int.toNat v86) ((x84.set (Int.toNat v86) (v85, x84[(Int.toNat v86)]!.2.1, x84[(Int.toNat v86)]!.2.2))[(Int.toNat v86)]!.1, (v85 + 1), (x84.set (Int.toNat v86) (v85, x84[(Int.toNat v86)]!.2.1, x84[(Int.toNat v86)]!.2.2))[(Int.toNat v86)]!.2.2))[(Int.toNat v86)]!.1, ((x84.set (Int.toNat v86) (v85, x84[(Int.toNat v86)]!.2.1, x84[(Int.toNat v86)]!.2.2)).set (Int.toNat v86) ((x84.set (Int.toNat v86) (v85, x84[(Int.toNat v86)]!.2.1, x84[(Int.toNat v86)]!.2.2))[(Int.toNat v86)]!.1, (v85 + 1), (x84.set (Int.toNat v86) (v85, x84[(Int.toNat v86)]!.2.1, x84[(Int.toNat v86)]!.2.2))[(Int.toNat v86)]!.2.2))[(Int.toNat v86)]!.2.1, ((v85 + 1) + 1))), (((v85 + 1) + 1) + 1), (v86 + 1)), hm.2, ⟨rfl, rfl, rfl, trivial⟩, ⟨hm.1, hB120, hS118⟩⟩
    · replace hm := hm.2 h97
      refine w_exit ?_
      exact ⟨(x84, v85), ⟨rfl, trivial⟩, ⟨hm, hB92, hS93⟩⟩
  · rintro ⟨x80, v81⟩ b_ w123 ⟨hm, hB124, hS125⟩
    show Wp _ _ _ _ (upds b_ [(1, .int .i64 v81)]) w123
    refine w_seq fun K126 hK126 => ?_
    refine w_region ?_
    refine wl_val (g_move (v := .int .i64 v81) rfl) rfl ?_
    refine wl_val (g_assign (v := .int .i64 v81) rfl) rfl ?_
    refine wl_nil ?_
    refine hK126 _ _ ?_
    refine w_ret ?_
    repeat first | with_reducible refine q_then ?_ | with_reducible refine q_block ?_
    exact ret1 rfl (by decide) ⟨_, _, hm, rfl, hB124, hS125⟩

theorem m_laws_markIntS_fn {w : World} {B_ : Nat} {L_ : List Ob} {a0 : Option Addr} {n0 c0 : Nat} {p0 : List Int} {Q : Int → (List Int) → Prop} (hS0 : Sep w B_ (oS 3 a0 n0 c0 (p0 : List Int) :: L_)) (p1 : Int) (hm : m_laws_markIntS p0 p1 Q) :
    Fn Try.prog 12 #[.slice a0 n0 c0, .int .i64 p1] w (fun v w' => ∃ (r0 : Int) (x0 : List Int), Q r0 x0 ∧ v = .int .i64 r0 ∧ Below B_ w w' ∧ Sep w' B_ (oS 3 a0 n0 c0 x0 :: L_)) := by
  unfold m_laws_markIntS at hm
  have hB0 := Below.refl B_ w
  refine fn_of_wp Try.func12 rfl (by kernel_rfl) (Nat.le_of_ble_eq_true rfl) ?_
  refine w_seq fun K2 hK2 => ?_
  refine w_region ?_
  refine wl_val (g_assign (v := .int .i64 0) rfl) rfl ?_
  refine wl_nil ?_
  refine hK2 _ _ ?_
  refine w_cut (σ := List Int × Int) (fun ⟨x48, v49⟩ => [(1, .int .i64 v49)]) (fun ⟨x48, v49⟩ w' => m_laws_markIntS_K0 Q x48 v49 ∧ Below B_ w w' ∧ Sep w' B_ (oS 3 a0 n0 c0 (x48 : List Int) :: L_)) ?_ ?_
  · refine w_seq fun K51 hK51 => ?_
    refine w_region ?_
    refine wl_val (g_assign (v := .int .i64 0) rfl) rfl ?_
    refine wl_nil ?_
    refine hK51 _ _ ?_
    refine w_block ?_
    obtain ⟨I55, μ56, h057, hr58⟩ := hm
    refine w_for (σ := List Int × Int × Int) (fun ⟨x52, v53, v54⟩ => [(0, .slice a0 n0 c0), (1, .int .i64 v53), (5, .int .i64 v54)]) (fun ⟨x52, v53, v54⟩ w' => I55 x52 v53 v54 ∧ Below B_ w w' ∧ Sep w' B_ (oS 3 a0 n0 c0 (x52 : List Int) :: L_)) (fun ⟨x52, v53, v54⟩ => μ56 x52 v53 v54) (p0, p1, 0) ⟨rfl, rfl, rfl, trivial⟩ ⟨h057, hB0, hS0⟩ ?_
    rintro ⟨x52, v53, v54⟩ b_ w59 ⟨hi_, hB60, hS61⟩
    show Wp _ _ _ _ (upds b_ [(0, .slice a0 n0 c0), (1, .int .i64 v53), (5, .int .i64 v54)]) w59
    have hm := hr58 x52 v53 v54 hi_
    refine w_seq fun K63 hK63 => ?_
    refine w_seq fun K64 hK64 => ?_
    refine w_region ?_
    refine wl_val (g_move (v := .int .i64 v54) rfl) rfl ?_
    refine wl_val (g_move (v := .slice a0 n0 c0) rfl) rfl ?_
    refine wl_val (q_len SL24 rfl (Vw.len (oS.vw hS61.g0))) rfl ?_
    refine wl_val (g_lss (a := v54) (b := (x52.length : Int)) rfl rfl) rfl ?_
    refine wl_nil ?_
    refine hK64 _ _ ?_
    refine w_condI (p := v54 < (x52.length : Int)) (b := (decide (v54 < (x52.length : Int)))) rfl decide_eq_true_iff (fun h65 => ?_) (fun h65 => ?_)
    · replace hm := hm.1 h65
      refine w_skip ?_
      refine hK63 _ _ ?_
      refine w_seq fun K66 hK66 => ?_
      refine w_block ?_
      refine w_seq fun K67 hK67 => ?_
      refine w_region ?_
      refine wl_val (g_move (v := .slice a0 n0 c0) rfl) rfl ?_
      refine wl_val (g_move (v := .int .i64 v54) rfl) rfl ?_
      refine wl_val (g_move (v := .int .i64 v53) rfl) rfl ?_
      obtain ⟨hg68, hm⟩ := hm
      refine wl_val (q_index (i := v54) SL24 rfl rfl (oS.vw hS61.g0) hg68) rfl ?_
      refine wl_step rfl (q_store (i := v54) (v := (v53 : Int)) hS61 ON3.sz hg68 rfl rfl rfl) ?_
      rintro _ w69 ⟨rfl, hS70, hb71⟩
      have hB72 := hB60.trans hb71
      refine wl_nil ?_
      refine hK67 _ _ ?_
      refine w_region ?_
      refine wl_val (g_move (v := .int .i64 v53) rfl) rfl ?_
      obtain ⟨hg73, hm⟩ := hm
      refine wl_val (g_add (a := v53) (b := 1) rfl rfl hg73) rfl ?_
      refine wl_val (g_assign (v := .int .i64 (v53 + 1)) rfl) rfl ?_
      refine wl_nil ?_
      refine hK66 _ _ ?_
      refine w_region ?_
      refine wl_val (g_move (v := .int .i64 v54) rfl) rfl ?_
      obtain ⟨hg74, hm⟩ := hm
      refine wl_val (g_add (a := v54) (b := 1) rfl rfl hg74) rfl ?_
      refine wl_val (g_assign (v := .int .i64 (v54 + 1)) rfl) rfl ?_
      refine wl_nil ?_
      exact ⟨((x52.set (Int.toNat v54) v53), (v53 + 1), (v54 + 1)), hm.2, ⟨rfl, rfl, rfl, trivial⟩, ⟨hm.1, hB72, hS70⟩⟩
    · replace hm := hm.2 h65
      refine w_exit ?_
      exact ⟨(x52, v53), ⟨rfl, trivial⟩, ⟨hm, hB60, hS61⟩⟩
  · rintro ⟨x48, v49⟩ b_ w75 ⟨hm, hB76, hS77⟩
    show Wp _ _ _ _ (upds b_ [(1, .int .i64 v49)]) w75
    refine w_seq fun K78 hK78 => ?_
    refine w_region ?_
    refine wl_val (g_move (v := .int .i64 v49) rfl) rfl ?_
    refine wl_val (g_assign (v := .int .i64 v49) rfl) rfl ?_
    refine wl_nil ?_
    refine hK78 _ _ ?_
    refine w_ret ?_
    repeat first | with_reducible refine q_then ?_ | with_reducible refine q_block ?_
    exact ret1 rfl (by decide) ⟨_, _, hm, rfl, hB76, hS77⟩

theorem m_laws_heldIntS_fn {w : World} {a0 : Option Addr} {n0 c0 : Nat} {p0 : List Int} {Q : Int → Prop} (hp0 : Vw w.heap.size w a0 n0 c0 p0) (p1 : Int) (hm : m_laws_heldIntS p0 p1 Q) :
    Fn Try.prog 13 #[.slice a0 n0 c0, .int .i64 p1] w (fun v w' => ∃ (r0 : Int), Q r0 ∧ v = .int .i64 r0 ∧ Ext w w') := by
  unfold m_laws_heldIntS at hm
  have hB0 := Below.refl w.heap.size w
  have hS0 : Sep w w.heap.size [] := Sep.nil (Nat.le_refl _)
  refine fn_of_wp Try.func13 rfl (by kernel_rfl) (Nat.le_of_ble_eq_true rfl) ?_
  refine w_seq fun K1 hK1 => ?_
  refine w_region ?_
  refine wl_val (g_assign (v := .int .i64 0) rfl) rfl ?_
  refine wl_nil ?_
  refine hK1 _ _ ?_
  refine w_cut (σ := Int) (fun v44 => [(1, .int .i64 v44)]) (fun v44 w' => m_laws_heldIntS_K0 Q v44 ∧ Below w.heap.size w w' ∧ Sep w' w.heap.size []) ?_ ?_
  · refine w_seq fun K46 hK46 => ?_
    refine w_region ?_
    refine wl_val (g_assign (v := .int .i64 0) rfl) rfl ?_
    refine wl_nil ?_
    refine hK46 _ _ ?_
    refine w_block ?_
    obtain ⟨I49, μ50, h051, hr52⟩ := hm
    refine w_for (σ := Int × Int) (fun ⟨v47, v48⟩ => [(0, .slice a0 n0 c0), (1, .int .i64 v47), (5, .int .i64 v48)]) (fun ⟨v47, v48⟩ w' => I49 v47 v48 ∧ Below w.heap.size w w' ∧ Sep w' w.heap.size []) (fun ⟨v47, v48⟩ => μ50 v47 v48) (p1, 0) ⟨rfl, rfl, rfl, trivial⟩ ⟨h051, hB0, hS0⟩ ?_
    rintro ⟨v47, v48⟩ b_ w53 ⟨hi_, hB54, hS55⟩
    show Wp _ _ _ _ (upds b_ [(0, .slice a0 n0 c0), (1, .int .i64 v47), (5, .int .i64 v48)]) w53
    have hm := hr52 v47 v48 hi_
    refine w_seq fun K57 hK57 => ?_
    refine w_seq fun K58 hK58 => ?_
    refine w_region ?_
    refine wl_val (g_move (v := .int .i64 v48) rfl) rfl ?_
    refine wl_val (g_move (v := .slice a0 n0 c0) rfl) rfl ?_
    refine wl_val (q_len SL24 rfl (Vw.len (hp0.bel hB54))) rfl ?_
    refine wl_val (g_lss (a := v48) (b := (p0.length : Int)) rfl rfl) rfl ?_
    refine wl_nil ?_
    refine hK58 _ _ ?_
    refine w_condI (p := v48 < (p0.length : Int)) (b := (decide (v48 < (p0.length : Int)))) rfl decide_eq_true_iff (fun h59 => ?_) (fun h59 => ?_)
    · replace hm := hm.1 h59
      refine w_skip ?_
      refine hK57 _ _ ?_
      refine w_seq fun K60 hK60 => ?_
      refine w_block ?_
      refine w_seq fun K61 hK61 => ?_
      refine w_seq fun K62 hK62 => ?_
      refine w_region ?_
      refine wl_val (g_move (v := .slice a0 n0 c0) rfl) rfl ?_
      refine wl_val (g_move (v := .int .i64 v48) rfl) rfl ?_
      obtain ⟨hg63, hm⟩ := hm
      refine wl_val (q_index (i := v48) SL24 rfl rfl (hp0.bel hB54) hg63) rfl ?_
      refine wl_val (q_load (i := v48) (v := .int .i64 (p0[(Int.toNat v48)]!)) ON3 (hp0.bel hB54) hg63 rfl rfl) rfl ?_
      refine wl_val (g_move (v := .int .i64 v47) rfl) rfl ?_
      refine wl_val (g_neq (a := p0[(Int.toNat v48)]!) (b := v47) rfl rfl) rfl ?_
      refine wl_nil ?_
      refine hK62 _ _ ?_
      refine w_condI (p := p0[(Int.toNat v48)]! ≠ v47) (b := (decide (p0[(Int.toNat v48)]! ≠ v47))) rfl decide_eq_true_iff (fun h64 => ?_) (fun h64 => ?_)
      · replace hm := hm.1 h64
        refine w_seq fun K65 hK65 => ?_
        refine w_region ?_
        refine wl_val (g_assign (v := .int .i64 (-1)) rfl) rfl ?_
        refine wl_nil ?_
        refine hK65 _ _ ?_
        refine w_ret ?_
        repeat first | with_reducible refine q_then ?_ | with_reducible refine q_block ?_
        exact ret1 rfl (by decide) ⟨_, hm, rfl, toExt hB54⟩
      · replace hm := hm.2 h64
        refine w_skip ?_
        refine hK61 _ _ ?_
        refine w_region ?_
        refine wl_val (g_move (v := .int .i64 v47) rfl) rfl ?_
        obtain ⟨hg66, hm⟩ := hm
        refine wl_val (g_add (a := v47) (b := 1) rfl rfl hg66) rfl ?_
        refine wl_val (g_assign (v := .int .i64 (v47 + 1)) rfl) rfl ?_
        refine wl_nil ?_
        refine hK60 _ _ ?_
        refine w_region ?_
        refine wl_val (g_move (v := .int .i64 v48) rfl) rfl ?_
        obtain ⟨hg67, hm⟩ := hm
        refine wl_val (g_add (a := v48) (b := 1) rfl rfl hg67) rfl ?_
        refine wl_val (g_assign (v := .int .i64 (v48 + 1)) rfl) rfl ?_
        refine wl_nil ?_
        exact ⟨((v47 + 1), (v48 + 1)), hm.2, ⟨rfl, rfl, rfl, trivial⟩, ⟨hm.1, hB54, hS55⟩⟩
    · replace hm := hm.2 h59
      refine w_exit ?_
      exact ⟨(v47), ⟨rfl, trivial⟩, ⟨hm, hB54, hS55⟩⟩
  · rintro v44 b_ w68 ⟨hm, hB69, hS70⟩
    show Wp _ _ _ _ (upds b_ [(1, .int .i64 v44)]) w68
    refine w_seq fun K71 hK71 => ?_
    refine w_region ?_
    refine wl_val (g_move (v := .int .i64 v44) rfl) rfl ?_
    refine wl_val (g_assign (v := .int .i64 v44) rfl) rfl ?_
    refine wl_nil ?_
    refine hK71 _ _ ?_
    refine w_ret ?_
    repeat first | with_reducible refine q_then ?_ | with_reducible refine q_block ?_
    exact ret1 rfl (by decide) ⟨_, hm, rfl, toExt hB69⟩

end Go.Proofs.Ytebfcpninegcgaa
