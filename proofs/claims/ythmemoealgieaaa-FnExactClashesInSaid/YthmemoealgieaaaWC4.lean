/- The walks: the code does what its model says. Printed by a program (gen2.py). No statement of the claim stands here. -/
import Derived.Test.YthmemoealgieaaaSop
import Derived.Test.YthmemoealgieaaaFacts
import Derived.Test.YthmemoealgieaaaMC
import Derived.Test.YthmemoealgieaaaWC1
import Derived.Test.YthmemoealgieaaaWC2
import Derived.Test.YthmemoealgieaaaWC3
namespace Go.Proofs.Ythmemoealgieaaa
open Go Go.RowKit
set_option maxRecDepth 100000
theorem m_laws_eqIntSS_fn {w : World} {a0 : Option Addr} {n0 c0 : Nat} {y0 : List (Hd Int)} {p0 : List (List Int)} {a1 : Option Addr} {n1 c1 : Nat} {y1 : List (Hd Int)} {p1 : List (List Int)} {Q : Bool → Prop} (hp0 : Tv w.heap.size w a0 n0 c0 y0 p0) (hp1 : Tv w.heap.size w a1 n1 c1 y1 p1) (hm : m_laws_eqIntSS p0 p1 Q) :
    Fn Try.prog 52 #[.slice a0 n0 c0, .slice a1 n1 c1] w (fun v w' => ∃ (r0 : Bool), Q r0 ∧ v = .bool r0 ∧ Ext w w') := by
  unfold m_laws_eqIntSS at hm
  have hB0 := Below.refl w.heap.size w
  have hS0 : Sep w w.heap.size [] := Sep.nil (Nat.le_refl _)
  refine fn_of_wp Try.func52 rfl (by kernel_rfl) (Nat.le_of_ble_eq_true rfl) ?_
  refine w_seq fun K1 hK1 => ?_
  refine w_region ?_
  refine wl_val (g_assign (v := .bool false) rfl) rfl ?_
  refine wl_nil ?_
  refine hK1 _ _ ?_
  refine w_seq fun K2 hK2 => ?_
  refine w_seq fun K3 hK3 => ?_
  refine w_region ?_
  refine wl_val (g_move (v := .slice a0 n0 c0) rfl) rfl ?_
  refine wl_val (q_len SL44 rfl (Tv.len (hp0.bel hB0))) rfl ?_
  refine wl_val (g_move (v := .slice a1 n1 c1) rfl) rfl ?_
  refine wl_val (q_len SL44 rfl (Tv.len (hp1.bel hB0))) rfl ?_
  refine wl_val (g_neq (a := (p0.length : Int)) (b := (p1.length : Int)) rfl rfl) rfl ?_
  refine wl_nil ?_
  refine hK3 _ _ ?_
  refine w_condI (p := (p0.length : Int) ≠ (p1.length : Int)) (b := (decide ((p0.length : Int) ≠ (p1.length : Int)))) rfl decide_eq_true_iff (fun h4 => ?_) (fun h4 => ?_)
  · replace hm := hm.1 h4
    refine w_seq fun K5 hK5 => ?_
    refine w_region ?_
    refine wl_val (g_assign (v := .bool false) rfl) rfl ?_
    refine wl_nil ?_
    refine hK5 _ _ ?_
    refine w_ret ?_
    repeat first | with_reducible refine q_then ?_ | with_reducible refine q_block ?_
    exact ret1 rfl (by decide) ⟨_, hm, rfl, toExt hB0⟩
  · replace hm := hm.2 h4
    refine w_skip ?_
    refine hK2 _ _ ?_
    refine w_cut (σ := Unit) (fun _ => []) (fun _ w' => m_laws_eqIntSS_K0 Q ∧ Below w.heap.size w w' ∧ Sep w' w.heap.size []) ?_ ?_
    · refine w_seq fun K7 hK7 => ?_
      refine w_region ?_
      refine wl_val (g_assign (v := .int .i64 0) rfl) rfl ?_
      refine wl_nil ?_
      refine hK7 _ _ ?_
      refine w_block ?_
      obtain ⟨I77, μ78, h079, hr80⟩ := hm
      refine w_for (σ := Int) (fun v76 => [(0, .slice a0 n0 c0), (1, .slice a1 n1 c1), (5, .int .i64 v76)]) (fun v76 w' => I77 v76 ∧ Below w.heap.size w w' ∧ Sep w' w.heap.size []) (fun v76 => μ78 v76) (0) ⟨rfl, rfl, rfl, trivial⟩ ⟨h079, hB0, hS0⟩ ?_
      rintro v76 b_ w81 ⟨hi_, hB82, hS83⟩
      show Wp _ _ _ _ (upds b_ [(0, .slice a0 n0 c0), (1, .slice a1 n1 c1), (5, .int .i64 v76)]) w81
      have hm := hr80 v76 hi_
      refine w_seq fun K85 hK85 => ?_
      refine w_seq fun K86 hK86 => ?_
      refine w_region ?_
      refine wl_val (g_move (v := .int .i64 v76) rfl) rfl ?_
      refine wl_val (g_move (v := .slice a0 n0 c0) rfl) rfl ?_
      refine wl_val (q_len SL44 rfl (Tv.len (hp0.bel hB82))) rfl ?_
      refine wl_val (g_lss (a := v76) (b := (p0.length : Int)) rfl rfl) rfl ?_
      refine wl_nil ?_
      refine hK86 _ _ ?_
      refine w_condI (p := v76 < (p0.length : Int)) (b := (decide (v76 < (p0.length : Int)))) rfl decide_eq_true_iff (fun h87 => ?_) (fun h87 => ?_)
      · replace hm := hm.1 h87
        refine w_skip ?_
        refine hK85 _ _ ?_
        refine w_seq fun K88 hK88 => ?_
        refine w_block ?_
        refine w_seq fun K89 hK89 => ?_
        refine w_draw (X := Ext) (Y := Ext) [] MIX (by decide +kernel) rfl Ext.refl (fun _ _ _ => Ext.trans) (fun _ _ _ => Chg.trans) (fun _ _ h => Ext.chg h _) (fun w90 hE91 => ?_)
        have hB92 := hB82.trans (Ext.stp hE91 hS83.base)
        have hS93 := hS83.ext hE91
        refine ⟨.slice a0 n0 c0, fun w94 hX95 => od_plain rfl (by have hS96 := hS93.ext hX95; have hB97 := hB92.trans (Ext.stp hX95 hS93.base); exact is_ext (g_move (v := .slice a0 n0 c0) rfl)), ?_⟩
        refine ⟨.int .i64 v76, fun w98 hX99 => od_plain rfl (by have hS100 := hS93.ext hX99; have hB101 := hB92.trans (Ext.stp hX99 hS93.base); exact is_ext (g_move (v := .int .i64 v76) rfl)), ?_⟩
        obtain ⟨hg106, hm⟩ := hm
        refine ⟨.pointer (some ((adr a0).add ((Int.toNat v76) * El.m (Hd Int)))), fun w102 hX103 => od_plain rfl (by have hS104 := hS93.ext hX103; have hB105 := hB92.trans (Ext.stp hX103 hS93.base); exact is_ext (q_index (i := v76) SL44 rfl rfl (Tv.o (hp0.bel hB105)) (Tv.g (hp0.bel hB105) hg106))), ?_⟩
        refine ⟨.slice ((y0[(Int.toNat v76)]!).1) ((y0[(Int.toNat v76)]!).2.2.length) ((y0[(Int.toNat v76)]!).2.1), fun w107 hX108 => od_plain rfl (by have hS109 := hS93.ext hX108; have hB110 := hB92.trans (Ext.stp hX108 hS93.base); exact is_ext (q_load (i := v76) (v := .slice ((y0[(Int.toNat v76)]!).1) ((y0[(Int.toNat v76)]!).2.2.length) ((y0[(Int.toNat v76)]!).2.1)) ON24 (Tv.o (hp0.bel hB110)) (Tv.g (hp0.bel hB110) hg106) rfl rfl)), ?_⟩
        refine ⟨.slice a1 n1 c1, fun w111 hX112 => od_plain rfl (by have hS113 := hS93.ext hX112; have hB114 := hB92.trans (Ext.stp hX112 hS93.base); exact is_ext (g_move (v := .slice a1 n1 c1) rfl)), ?_⟩
        refine ⟨.int .i64 v76, fun w115 hX116 => od_plain rfl (by have hS117 := hS93.ext hX116; have hB118 := hB92.trans (Ext.stp hX116 hS93.base); exact is_ext (g_move (v := .int .i64 v76) rfl)), ?_⟩
        obtain ⟨hg123, hm⟩ := hm
        refine ⟨.pointer (some ((adr a1).add ((Int.toNat v76) * El.m (Hd Int)))), fun w119 hX120 => od_plain rfl (by have hS121 := hS93.ext hX120; have hB122 := hB92.trans (Ext.stp hX120 hS93.base); exact is_ext (q_index (i := v76) SL44 rfl rfl (Tv.o (hp1.bel hB122)) (Tv.g (hp1.bel hB122) hg123))), ?_⟩
        refine ⟨.slice ((y1[(Int.toNat v76)]!).1) ((y1[(Int.toNat v76)]!).2.2.length) ((y1[(Int.toNat v76)]!).2.1), fun w124 hX125 => od_plain rfl (by have hS126 := hS93.ext hX125; have hB127 := hB92.trans (Ext.stp hX125 hS93.base); exact is_ext (q_load (i := v76) (v := .slice ((y1[(Int.toNat v76)]!).1) ((y1[(Int.toNat v76)]!).2.2.length) ((y1[(Int.toNat v76)]!).2.1)) ON24 (Tv.o (hp1.bel hB127)) (Tv.g (hp1.bel hB127) hg123) rfl rfl)), ?_⟩
        obtain ⟨r132, hk133, hm⟩ := hm
        refine ⟨.bool r132, fun w128 hX129 => od_plain rfl (by have hS130 := hS93.ext hX129; have hB131 := hB92.trans (Ext.stp hX129 hS93.base); exact (g_call (vs := #[.slice ((y0[(Int.toNat v76)]!).1) ((y0[(Int.toNat v76)]!).2.2.length) ((y0[(Int.toNat v76)]!).2.1), .slice ((y1[(Int.toNat v76)]!).1) ((y1[(Int.toNat v76)]!).2.2.length) ((y1[(Int.toNat v76)]!).2.1)]) CF21 (args2 rfl rfl) ((m_laws_eqIntS_fn ((Tv.row (hp0.bel hB131) hg106).up hS130) ((Tv.row (hp1.bel hB131) hg123).up hS130) hk133).mono fun _ _ ⟨_, h1, h2, h3⟩ => ⟨by rw [h2, h1], h3⟩))), ?_⟩
        refine ⟨.bool (!r132), fun w134 hX135 => od_plain rfl (by have hS136 := hS93.ext hX135; have hB137 := hB92.trans (Ext.stp hX135 hS93.base); exact is_ext (g_not (a := r132) rfl)), ?_⟩
        intro w138 hX139
        have hB140 := hB92.trans (Ext.stp hX139 hS93.base)
        have hS141 := hS93.ext hX139
        refine hK89 _ _ ?_
        refine w_condI (p := ¬ (r132 = true)) (b := (!r132)) rfl (i_not Iff.rfl) (fun h142 => ?_) (fun h142 => ?_)
        · replace hm := hm.1 h142
          refine w_seq fun K143 hK143 => ?_
          refine w_region ?_
          refine wl_val (g_assign (v := .bool false) rfl) rfl ?_
          refine wl_nil ?_
          refine hK143 _ _ ?_
          refine w_ret ?_
          repeat first | with_reducible refine q_then ?_ | with_reducible refine q_block ?_
          exact ret1 rfl (by decide) ⟨_, hm, rfl, toExt hB140⟩
        · replace hm := hm.2 h142
          refine w_skip ?_
          refine hK88 _ _ ?_
          refine w_region ?_
          refine wl_val (g_move (v := .int .i64 v76) rfl) rfl ?_
          obtain ⟨hg144, hm⟩ := hm
          refine wl_val (g_add (a := v76) (b := 1) rfl rfl hg144) rfl ?_
          refine wl_val (g_assign (v := .int .i64 (v76 + 1)) rfl) rfl ?_
          refine wl_nil ?_
          exact ⟨((v76 + 1)), hm.2, ⟨rfl, rfl, rfl, trivial⟩, ⟨hm.1, hB140, hS141⟩⟩
      · replace hm := hm.2 h87
        refine w_exit ?_
        exact ⟨(), trivial, ⟨hm, hB82, hS83⟩⟩
    · rintro _ b_ w145 ⟨hm, hB146, hS147⟩
      show Wp _ _ _ _ (upds b_ []) w145
      refine w_seq fun K148 hK148 => ?_
      refine w_region ?_
      refine wl_val (g_assign (v := .bool true) rfl) rfl ?_
      refine wl_nil ?_
      refine hK148 _ _ ?_
      refine w_ret ?_
      repeat first | with_reducible refine q_then ?_ | with_reducible refine q_block ?_
      exact ret1 rfl (by decide) ⟨_, hm, rfl, toExt hB146⟩

theorem m_laws_markIntSS_fn {w : World} {B_ : Nat} {L_ : List Ob} {a0 : Option Addr} {n0 c0 : Nat} {p0 : List (List Int)} {y0 : List (Hd Int)} {Q : Int → (List (List Int)) → Prop} (hS0 : Sep w B_ (oS 24 a0 n0 c0 (y0 : List (Hd Int)) :: oT 3 (y0 : List (Hd Int)) :: L_)) (hep0 : ers y0 = p0) (p1 : Int) (hm : m_laws_markIntSS p0 p1 Q) :
    Fn Try.prog 53 #[.slice a0 n0 c0, .int .i64 p1] w (fun v w' => ∃ (r0 : Int) (x0 : List (List Int)) (yy0 : List (Hd Int)), Q r0 x0 ∧ ers yy0 = x0 ∧ v = .int .i64 r0 ∧ Below B_ w w' ∧ Sep w' B_ (oS 24 a0 n0 c0 yy0 :: oT 3 yy0 :: L_)) := by
  unfold m_laws_markIntSS at hm
  have hB0 := Below.refl B_ w
  refine fn_of_wp Try.func53 rfl (by kernel_rfl) (Nat.le_of_ble_eq_true rfl) ?_
  refine w_seq fun K4 hK4 => ?_
  refine w_region ?_
  refine wl_val (g_assign (v := .int .i64 0) rfl) rfl ?_
  refine wl_nil ?_
  refine hK4 _ _ ?_
  refine w_cut (σ := List (List Int) × List (Hd Int) × Int) (fun ⟨x72, y73, v75⟩ => [(1, .int .i64 v75)]) (fun ⟨x72, y73, v75⟩ w' => m_laws_markIntSS_K0 Q x72 v75 ∧ ers y73 = x72 ∧ Below B_ w w' ∧ Sep w' B_ (oS 24 a0 n0 c0 (y73 : List (Hd Int)) :: oT 3 (y73 : List (Hd Int)) :: L_)) ?_ ?_
  · refine w_seq fun K77 hK77 => ?_
    refine w_region ?_
    refine wl_val (g_assign (v := .int .i64 0) rfl) rfl ?_
    refine wl_nil ?_
    refine hK77 _ _ ?_
    refine w_block ?_
    obtain ⟨I83, μ84, h085, hr86⟩ := hm
    refine w_for (σ := List (List Int) × List (Hd Int) × Int × Int) (fun ⟨x78, y79, v81, v82⟩ => [(0, .slice a0 n0 c0), (1, .int .i64 v81), (5, .int .i64 v82)]) (fun ⟨x78, y79, v81, v82⟩ w' => I83 x78 v81 v82 ∧ ers y79 = x78 ∧ Below B_ w w' ∧ Sep w' B_ (oS 24 a0 n0 c0 (y79 : List (Hd Int)) :: oT 3 (y79 : List (Hd Int)) :: L_)) (fun ⟨x78, y79, v81, v82⟩ => μ84 x78 v81 v82) (p0, y0, p1, 0) ⟨rfl, rfl, rfl, trivial⟩ ⟨h085, hep0, hB0, hS0⟩ ?_
    rintro ⟨x78, y79, v81, v82⟩ b_ w87 ⟨hi_, he80, hB88, hS89⟩
    show Wp _ _ _ _ (upds b_ [(0, .slice a0 n0 c0), (1, .int .i64 v81), (5, .int .i64 v82)]) w87
    have hm := hr86 x78 v81 v82 hi_
    refine w_seq fun K91 hK91 => ?_
    refine w_seq fun K92 hK92 => ?_
    refine w_region ?_
    refine wl_val (g_move (v := .int .i64 v82) rfl) rfl ?_
    refine wl_val (g_move (v := .slice a0 n0 c0) rfl) rfl ?_
    refine wl_val (q_len SL44 rfl (Tv.len (oT.vw hS89.g0 hS89.g1 he80))) rfl ?_
    refine wl_val (g_lss (a := v82) (b := (x78.length : Int)) rfl rfl) rfl ?_
    refine wl_nil ?_
    refine hK92 _ _ ?_
    refine w_condI (p := v82 < (x78.length : Int)) (b := (decide (v82 < (x78.length : Int)))) rfl decide_eq_true_iff (fun h93 => ?_) (fun h93 => ?_)
    · replace hm := hm.1 h93
      refine w_skip ?_
      refine hK91 _ _ ?_
      refine w_seq fun K94 hK94 => ?_
      refine w_block ?_
      refine w_region ?_
      refine wl_val (g_move (v := .slice a0 n0 c0) rfl) rfl ?_
      refine wl_val (g_move (v := .int .i64 v82) rfl) rfl ?_
      obtain ⟨hg95, hm⟩ := hm
      refine wl_val (q_index (i := v82) SL44 rfl rfl (Tv.o (oT.vw hS89.g0 hS89.g1 he80)) (Tv.g (oT.vw hS89.g0 hS89.g1 he80) hg95)) rfl ?_
      refine wl_val (q_load (i := v82) (v := .slice ((y79[(Int.toNat v82)]!).1) ((y79[(Int.toNat v82)]!).2.2.length) ((y79[(Int.toNat v82)]!).2.1)) ON24 (Tv.o (oT.vw hS89.g0 hS89.g1 he80)) (Tv.g (oT.vw hS89.g0 hS89.g1 he80) hg95) rfl rfl) rfl ?_
      refine wl_val (g_move (v := .int .i64 v81) rfl) rfl ?_
      have hS96 := hS89.f1
      have hS97 := hS96.f1
      have hd98 := Sep.dis hS97
      have hl99 : (Int.toNat v82) < (y79).length := by have h1 := (hg95).1; have h2 := (hg95).2; have h3 := congrArg List.length he80; simp only [ers, List.length_map] at h3; omega
      have he102 : (Rw.row (y79)[(Int.toNat v82)]! 0).2.2 = x78[(Int.toNat v82)]! := by rw [← he80]; simp only [er_get hl99]; rfl
      have hS103 := Sep.foc (i := (Int.toNat v82)) (j := 0) hS97 hl99 (by decide) he102
      refine wl_step rfl (g_call (vs := #[.slice ((y79[(Int.toNat v82)]!).1) ((y79[(Int.toNat v82)]!).2.2.length) ((y79[(Int.toNat v82)]!).2.1), .int .i64 v81]) CF24 (args2 rfl rfl) (m_laws_markIntS_fn hS103 v81 hm)) ?_
      rintro _ w104 ⟨r107, x108, hm, rfl, hb105, hS106⟩
      have hB109 := hB88.trans hb105
      have hS110 := Sep.unfoc (i := (Int.toNat v82)) (j := 0) (ys := y79) hS106 hl99 (by decide) rfl hd98
      have he111 : ers (y79.set (Int.toNat v82) (Rs.rset (y79)[(Int.toNat v82)]! 0 x108)) = (x78.set (Int.toNat v82) x108) := ers_set he80 (by first | rfl | (rw [← he80, er_get hl99]; rfl)) _
      refine wl_val (g_assign (v := .int .i64 r107) rfl) rfl ?_
      refine wl_nil ?_
      refine hK94 _ _ ?_
      refine w_region ?_
      refine wl_val (g_move (v := .int .i64 v82) rfl) rfl ?_
      obtain ⟨hg112, hm⟩ := hm
      refine wl_val (g_add (a := v82) (b := 1) rfl rfl hg112) rfl ?_
      refine wl_val (g_assign (v := .int .i64 (v82 + 1)) rfl) rfl ?_
      refine wl_nil ?_
      exact ⟨((x78.set (Int.toNat v82) x108), (y79.set (Int.toNat v82) (Rs.rset (y79)[(Int.toNat v82)]! 0 x108)), r107, (v82 + 1)), hm.2, ⟨rfl, rfl, rfl, trivial⟩, ⟨hm.1, he111, hB109, hS110⟩⟩
    · replace hm := hm.2 h93
      refine w_exit ?_
      exact ⟨(x78, y79, v81), ⟨rfl, trivial⟩, ⟨hm, he80, hB88, hS89⟩⟩
  · rintro ⟨x72, y73, v75⟩ b_ w113 ⟨hm, he74, hB114, hS115⟩
    show Wp _ _ _ _ (upds b_ [(1, .int .i64 v75)]) w113
    refine w_seq fun K116 hK116 => ?_
    refine w_region ?_
    refine wl_val (g_move (v := .int .i64 v75) rfl) rfl ?_
    refine wl_val (g_assign (v := .int .i64 v75) rfl) rfl ?_
    refine wl_nil ?_
    refine hK116 _ _ ?_
    refine w_ret ?_
    repeat first | with_reducible refine q_then ?_ | with_reducible refine q_block ?_
    exact ret1 rfl (by decide) ⟨_, _, _, hm, he74, rfl, hB114, hS115⟩

theorem m_laws_heldIntSS_fn {w : World} {a0 : Option Addr} {n0 c0 : Nat} {y0 : List (Hd Int)} {p0 : List (List Int)} {Q : Int → Prop} (hp0 : Tv w.heap.size w a0 n0 c0 y0 p0) (p1 : Int) (hm : m_laws_heldIntSS p0 p1 Q) :
    Fn Try.prog 54 #[.slice a0 n0 c0, .int .i64 p1] w (fun v w' => ∃ (r0 : Int), Q r0 ∧ v = .int .i64 r0 ∧ Ext w w') := by
  unfold m_laws_heldIntSS at hm
  have hB0 := Below.refl w.heap.size w
  have hS0 : Sep w w.heap.size [] := Sep.nil (Nat.le_refl _)
  refine fn_of_wp Try.func54 rfl (by kernel_rfl) (Nat.le_of_ble_eq_true rfl) ?_
  refine w_seq fun K1 hK1 => ?_
  refine w_region ?_
  refine wl_val (g_assign (v := .int .i64 0) rfl) rfl ?_
  refine wl_nil ?_
  refine hK1 _ _ ?_
  refine w_cut (σ := Int) (fun v54 => [(1, .int .i64 v54)]) (fun v54 w' => m_laws_heldIntSS_K0 Q v54 ∧ Below w.heap.size w w' ∧ Sep w' w.heap.size []) ?_ ?_
  · refine w_seq fun K56 hK56 => ?_
    refine w_region ?_
    refine wl_val (g_assign (v := .int .i64 0) rfl) rfl ?_
    refine wl_nil ?_
    refine hK56 _ _ ?_
    refine w_block ?_
    obtain ⟨I59, μ60, h061, hr62⟩ := hm
    refine w_for (σ := Int × Int) (fun ⟨v57, v58⟩ => [(0, .slice a0 n0 c0), (1, .int .i64 v57), (5, .int .i64 v58)]) (fun ⟨v57, v58⟩ w' => I59 v57 v58 ∧ Below w.heap.size w w' ∧ Sep w' w.heap.size []) (fun ⟨v57, v58⟩ => μ60 v57 v58) (p1, 0) ⟨rfl, rfl, rfl, trivial⟩ ⟨h061, hB0, hS0⟩ ?_
    rintro ⟨v57, v58⟩ b_ w63 ⟨hi_, hB64, hS65⟩
    show Wp _ _ _ _ (upds b_ [(0, .slice a0 n0 c0), (1, .int .i64 v57), (5, .int .i64 v58)]) w63
    have hm := hr62 v57 v58 hi_
    refine w_seq fun K67 hK67 => ?_
    refine w_seq fun K68 hK68 => ?_
    refine w_region ?_
    refine wl_val (g_move (v := .int .i64 v58) rfl) rfl ?_
    refine wl_val (g_move (v := .slice a0 n0 c0) rfl) rfl ?_
    refine wl_val (q_len SL44 rfl (Tv.len (hp0.bel hB64))) rfl ?_
    refine wl_val (g_lss (a := v58) (b := (p0.length : Int)) rfl rfl) rfl ?_
    refine wl_nil ?_
    refine hK68 _ _ ?_
    refine w_condI (p := v58 < (p0.length : Int)) (b := (decide (v58 < (p0.length : Int)))) rfl decide_eq_true_iff (fun h69 => ?_) (fun h69 => ?_)
    · replace hm := hm.1 h69
      refine w_skip ?_
      refine hK67 _ _ ?_
      refine w_seq fun K70 hK70 => ?_
      refine w_block ?_
      refine w_seq fun K71 hK71 => ?_
      refine w_region ?_
      refine wl_val (g_move (v := .slice a0 n0 c0) rfl) rfl ?_
      refine wl_val (g_move (v := .int .i64 v58) rfl) rfl ?_
      obtain ⟨hg72, hm⟩ := hm
      refine wl_val (q_index (i := v58) SL44 rfl rfl (Tv.o (hp0.bel hB64)) (Tv.g (hp0.bel hB64) hg72)) rfl ?_
      refine wl_val (q_load (i := v58) (v := .slice ((y0[(Int.toNat v58)]!).1) ((y0[(Int.toNat v58)]!).2.2.length) ((y0[(Int.toNat v58)]!).2.1)) ON24 (Tv.o (hp0.bel hB64)) (Tv.g (hp0.bel hB64) hg72) rfl rfl) rfl ?_
      refine wl_val (g_move (v := .int .i64 v57) rfl) rfl ?_
      refine wl_step rfl (g_call (vs := #[.slice ((y0[(Int.toNat v58)]!).1) ((y0[(Int.toNat v58)]!).2.2.length) ((y0[(Int.toNat v58)]!).2.1), .int .i64 v57]) CF25 (args2 rfl rfl) (m_laws_heldIntS_fn ((Tv.row (hp0.bel hB64) hg72).up hS65) v57 hm)) ?_
      rintro _ w73 ⟨r76, hm, rfl, hE74⟩
      have hB77 := hB64.trans (Ext.stp hE74 hS65.base)
      have hS78 := hS65.ext hE74
      refine wl_val (g_assign (v := .int .i64 r76) rfl) rfl ?_
      refine wl_nil ?_
      refine hK71 _ _ ?_
      refine w_seq fun K79 hK79 => ?_
      refine w_region ?_
      refine wl_val (g_move (v := .int .i64 r76) rfl) rfl ?_
      refine wl_val (g_lss (a := r76) (b := 0) rfl rfl) rfl ?_
      refine wl_nil ?_
      refine hK79 _ _ ?_
      refine w_condI (p := r76 < 0) (b := (decide (r76 < 0))) rfl decide_eq_true_iff (fun h80 => ?_) (fun h80 => ?_)
      · replace hm := hm.1 h80
        refine w_seq fun K81 hK81 => ?_
        refine w_region ?_
        refine wl_val (g_assign (v := .int .i64 (-1)) rfl) rfl ?_
        refine wl_nil ?_
        refine hK81 _ _ ?_
        refine w_ret ?_
        repeat first | with_reducible refine q_then ?_ | with_reducible refine q_block ?_
        exact ret1 rfl (by decide) ⟨_, hm, rfl, toExt hB77⟩
      · replace hm := hm.2 h80
        refine w_skip ?_
        refine hK70 _ _ ?_
        refine w_region ?_
        refine wl_val (g_move (v := .int .i64 v58) rfl) rfl ?_
        obtain ⟨hg82, hm⟩ := hm
        refine wl_val (g_add (a := v58) (b := 1) rfl rfl hg82) rfl ?_
        refine wl_val (g_assign (v := .int .i64 (v58 + 1)) rfl) rfl ?_
        refine wl_nil ?_
        exact ⟨(r76, (v58 + 1)), hm.2, ⟨rfl, rfl, rfl, trivial⟩, ⟨hm.1, hB77, hS78⟩⟩
    · replace hm := hm.2 h69
      refine w_exit ?_
      exact ⟨(v57), ⟨rfl, trivial⟩, ⟨hm, hB64, hS65⟩⟩
  · rintro v54 b_ w83 ⟨hm, hB84, hS85⟩
    show Wp _ _ _ _ (upds b_ [(1, .int .i64 v54)]) w83
    refine w_seq fun K86 hK86 => ?_
    refine w_region ?_
    refine wl_val (g_move (v := .int .i64 v54) rfl) rfl ?_
    refine wl_val (g_assign (v := .int .i64 v54) rfl) rfl ?_
    refine wl_nil ?_
    refine hK86 _ _ ?_
    refine w_ret ?_
    repeat first | with_reducible refine q_then ?_ | with_reducible refine q_block ?_
    exact ret1 rfl (by decide) ⟨_, hm, rfl, toExt hB84⟩

theorem m_spec_SimplePlan_fn {w : World} {a0 : Option Addr} {n0 c0 : Nat} {y0 : List CueD} {p0 : List CueC} {Q : (List Int) → Prop} (hp0 : Tv w.heap.size w a0 n0 c0 y0 p0) (hm : m_spec_SimplePlan p0 Q) :
    Fn Try.prog 55 #[.slice a0 n0 c0] w (fun v w' => ∃ (r0 : List Int) (a0 : Option Addr) (n0 c0 : Nat), Q r0 ∧ v = .slice a0 n0 c0 ∧ Ext w w' ∧ Sep w' w.heap.size [oS 3 a0 n0 c0 r0]) := by
  unfold m_spec_SimplePlan at hm
  have hB0 := Below.refl w.heap.size w
  have hS0 : Sep w w.heap.size [] := Sep.nil (Nat.le_refl _)
  refine fn_of_wp Try.func55 rfl (by kernel_rfl) (Nat.le_of_ble_eq_true rfl) ?_
  refine w_seq fun K1 hK1 => ?_
  refine w_region ?_
  refine wl_val (g_assign (v := .slice none 0 0) rfl) rfl ?_
  refine wl_nil ?_
  refine hK1 _ _ ?_
  refine w_seq fun K2 hK2 => ?_
  refine w_seq fun K3 hK3 => ?_
  refine w_region ?_
  refine wl_val (g_move (v := .slice a0 n0 c0) rfl) rfl ?_
  refine wl_step rfl (g_call (vs := #[.slice a0 n0 c0]) CF35 (args1 rfl) (m_spec_CuesOk_fn ((hp0.bel hB0).up hS0) hm)) ?_
  rintro _ w4 ⟨r7, hm, rfl, hE5⟩
  have hB8 := hB0.trans (Ext.stp hE5 hS0.base)
  have hS9 := hS0.ext hE5
  refine wl_val (g_not (a := r7) rfl) rfl ?_
  refine wl_nil ?_
  refine hK3 _ _ ?_
  refine w_condI (p := ¬ (r7 = true)) (b := (!r7)) rfl (i_not Iff.rfl) (fun h10 => ?_) (fun h10 => ?_)
  · replace hm := hm.1 h10
    refine w_seq fun K11 hK11 => ?_
    refine w_region ?_
    refine wl_step rfl (q_lit0 (α := Int) rfl SL24 hS9) ?_
    rintro _ w12 ⟨a13, rfl, hS15, hE14⟩
    have hB17 := hB8.trans (Ext.stp hE14 hS9.base)
    refine wl_val (g_assign (v := .slice a13 0 0) rfl) rfl ?_
    refine wl_nil ?_
    refine hK11 _ _ ?_
    refine w_ret ?_
    repeat first | with_reducible refine q_then ?_ | with_reducible refine q_block ?_
    exact ret1 rfl (by decide) ⟨_, _, _, _, hm, rfl, toExt hB17, hS15⟩
  · replace hm := hm.2 h10
    refine w_skip ?_
    refine hK2 _ _ ?_
    refine w_seq fun K18 hK18 => ?_
    refine w_region ?_
    refine wl_val (g_move (v := .slice a0 n0 c0) rfl) rfl ?_
    refine wl_val (q_len SL26 rfl (Tv.len (hp0.bel hB8))) rfl ?_
    obtain ⟨hg19, hm⟩ := hm
    refine wl_step rfl (q_make (y := (0 : Int)) SL24 rfl rfl hg19.1 hg19.2 (by decide) hS9) ?_
    rintro _ w20 ⟨a21, rfl, hS23, hE22⟩
    have hB25 := hB8.trans (Ext.stp hE22 hS9.base)
    refine wl_val (g_assign (v := .slice a21 (Int.toNat (p0.length : Int)) (Int.toNat (p0.length : Int))) rfl) rfl ?_
    refine wl_nil ?_
    refine hK18 _ _ ?_
    refine w_seq fun K26 hK26 => ?_
    refine w_region ?_
    refine wl_val (g_move (v := .slice a0 n0 c0) rfl) rfl ?_
    refine wl_step rfl (g_call (vs := #[.slice a0 n0 c0]) CF46 (args1 rfl) (m_spec_CueOrder_fn ((hp0.bel hB25).up hS23) hm)) ?_
    rintro _ w27 ⟨r30, a31, n32, c33, hm, rfl, hE28, hN29⟩
    have hS35 := hS23.call1 hE28 hN29
    have hB36 := hB25.trans (Ext.stp hE28 hS23.base)
    refine wl_val (g_assign (v := .slice a31 n32 c33) rfl) rfl ?_
    refine wl_nil ?_
    refine hK26 _ _ ?_
    refine w_cut (σ := List Int) (fun x1454 => [(3, .slice a21 (Int.toNat (p0.length : Int)) (Int.toNat (p0.length : Int)))]) (fun x1454 w' => m_spec_SimplePlan_K2 Q x1454 ∧ Below w.heap.size w w' ∧ Sep w' w.heap.size [oS 3 a21 (Int.toNat (p0.length : Int)) (Int.toNat (p0.length : Int)) (x1454 : List Int)]) ?_ ?_
    · refine w_seq fun K1456 hK1456 => ?_
      refine w_region ?_
      refine wl_val (g_assign (v := .int .i64 0) rfl) rfl ?_
      refine wl_nil ?_
      refine hK1456 _ _ ?_
      refine w_block ?_
      have hS1459 := hS35.f1
      obtain ⟨I1460, μ1461, h01462, hr1463⟩ := hm
      refine w_for (σ := List Int × Int) (fun ⟨x1457, v1458⟩ => [(0, .slice a0 n0 c0), (3, .slice a21 (Int.toNat (p0.length : Int)) (Int.toNat (p0.length : Int))), (4, .slice a31 n32 c33), (5, .int .i64 v1458)]) (fun ⟨x1457, v1458⟩ w' => I1460 x1457 v1458 ∧ Below w.heap.size w w' ∧ Sep w' w.heap.size [oS 3 a21 (Int.toNat (p0.length : Int)) (Int.toNat (p0.length : Int)) (x1457 : List Int), oS 3 a31 n32 c33 (r30 : List Int)]) (fun ⟨x1457, v1458⟩ => μ1461 x1457 v1458) (List.replicate (Int.toNat (p0.length : Int)) (0 : Int), 0) ⟨rfl, rfl, rfl, rfl, trivial⟩ ⟨h01462, hB36, hS1459⟩ ?_
      rintro ⟨x1457, v1458⟩ b_ w1464 ⟨hi_, hB1465, hS1466⟩
      show Wp _ _ _ _ (upds b_ [(0, .slice a0 n0 c0), (3, .slice a21 (Int.toNat (p0.length : Int)) (Int.toNat (p0.length : Int))), (4, .slice a31 n32 c33), (5, .int .i64 v1458)]) w1464
      have hm := hr1463 x1457 v1458 hi_
      refine w_seq fun K1468 hK1468 => ?_
      refine w_seq fun K1469 hK1469 => ?_
      refine w_region ?_
      refine wl_val (g_move (v := .int .i64 v1458) rfl) rfl ?_
      refine wl_val (g_move (v := .slice a31 n32 c33) rfl) rfl ?_
      refine wl_val (q_len SL24 rfl (Vw.len (oS.vw hS1466.g1))) rfl ?_
      refine wl_val (g_lss (a := v1458) (b := (r30.length : Int)) rfl rfl) rfl ?_
      refine wl_nil ?_
      refine hK1469 _ _ ?_
      refine w_condI (p := v1458 < (r30.length : Int)) (b := (decide (v1458 < (r30.length : Int)))) rfl decide_eq_true_iff (fun h1470 => ?_) (fun h1470 => ?_)
      · replace hm := hm.1 h1470
        refine w_skip ?_
        refine hK1468 _ _ ?_
        refine w_cut (σ := List Int) (fun x1471 => [(0, .slice a0 n0 c0), (3, .slice a21 (Int.toNat (p0.length : Int)) (Int.toNat (p0.length : Int))), (4, .slice a31 n32 c33), (5, .int .i64 v1458)]) (fun x1471 w' => m_spec_SimplePlan_K1 v1458 (fun x1457' v1458' => I1460 x1457' v1458' ∧ μ1461 x1457' v1458' < μ1461 x1457 v1458) x1471 ∧ Below w.heap.size w w' ∧ Sep w' w.heap.size [oS 3 a21 (Int.toNat (p0.length : Int)) (Int.toNat (p0.length : Int)) (x1471 : List Int), oS 3 a31 n32 c33 (r30 : List Int)]) ?_ ?_
        · refine w_block ?_
          refine w_seq fun K1473 hK1473 => ?_
          refine w_region ?_
          refine wl_val (g_move (v := .slice a31 n32 c33) rfl) rfl ?_
          refine wl_val (g_move (v := .int .i64 v1458) rfl) rfl ?_
          obtain ⟨hg1474, hm⟩ := hm
          refine wl_val (q_index (i := v1458) SL24 rfl rfl (oS.vw hS1466.g1) hg1474) rfl ?_
          refine wl_val (q_load (i := v1458) (v := .int .i64 (r30[(Int.toNat v1458)]!)) ON3 (oS.vw hS1466.g1) hg1474 rfl rfl) rfl ?_
          refine wl_val (g_assign (v := .int .i64 (r30[(Int.toNat v1458)]!)) rfl) rfl ?_
          refine wl_nil ?_
          refine hK1473 _ _ ?_
          refine w_cut (σ := List Int) (fun x1475 => [(0, .slice a0 n0 c0), (3, .slice a21 (Int.toNat (p0.length : Int)) (Int.toNat (p0.length : Int))), (4, .slice a31 n32 c33), (5, .int .i64 v1458), (6, .int .i64 (r30[(Int.toNat v1458)]!))]) (fun x1475 w' => m_spec_SimplePlan_K0 p0 r30 v1458 (m_spec_SimplePlan_K1 v1458 (fun x1457' v1458' => I1460 x1457' v1458' ∧ μ1461 x1457' v1458' < μ1461 x1457 v1458)) x1475 ∧ Below w.heap.size w w' ∧ Sep w' w.heap.size [oS 3 a21 (Int.toNat (p0.length : Int)) (Int.toNat (p0.length : Int)) (x1475 : List Int), oS 3 a31 n32 c33 (r30 : List Int)]) ?_ ?_
          · refine w_seq fun K1477 hK1477 => ?_
            refine w_region ?_
            refine wl_val (g_assign (v := .int .i64 0) rfl) rfl ?_
            refine wl_nil ?_
            refine hK1477 _ _ ?_
            refine w_block ?_
            obtain ⟨I1480, μ1481, h01482, hr1483⟩ := hm
            refine w_for (σ := List Int × Int) (fun ⟨x1478, v1479⟩ => [(0, .slice a0 n0 c0), (3, .slice a21 (Int.toNat (p0.length : Int)) (Int.toNat (p0.length : Int))), (4, .slice a31 n32 c33), (5, .int .i64 v1458), (6, .int .i64 (r30[(Int.toNat v1458)]!)), (7, .int .i64 v1479)]) (fun ⟨x1478, v1479⟩ w' => I1480 x1478 v1479 ∧ Below w.heap.size w w' ∧ Sep w' w.heap.size [oS 3 a21 (Int.toNat (p0.length : Int)) (Int.toNat (p0.length : Int)) (x1478 : List Int), oS 3 a31 n32 c33 (r30 : List Int)]) (fun ⟨x1478, v1479⟩ => μ1481 x1478 v1479) (x1457, 0) ⟨rfl, rfl, rfl, rfl, rfl, rfl, trivial⟩ ⟨h01482, hB1465, hS1466⟩ ?_
            rintro ⟨x1478, v1479⟩ b_ w1484 ⟨hi_, hB1485, hS1486⟩
            show Wp _ _ _ _ (upds b_ [(0, .slice a0 n0 c0), (3, .slice a21 (Int.toNat (p0.length : Int)) (Int.toNat (p0.length : Int))), (4, .slice a31 n32 c33), (5, .int .i64 v1458), (6, .int .i64 (r30[(Int.toNat v1458)]!)), (7, .int .i64 v1479)]) w1484
            have hm := hr1483 x1478 v1479 hi_
            refine w_seq fun K1488 hK1488 => ?_
            refine w_seq fun K1489 hK1489 => ?_
            refine w_region ?_
            refine wl_val (g_move (v := .int .i64 v1479) rfl) rfl ?_
            refine wl_val (g_move (v := .slice a0 n0 c0) rfl) rfl ?_
            refine wl_val (g_move (v := .int .i64 (r30[(Int.toNat v1458)]!)) rfl) rfl ?_
            obtain ⟨hg1490, hm⟩ := hm
            refine wl_val (q_index (i := r30[(Int.toNat v1458)]!) SL26 rfl rfl (Tv.o (hp0.bel hB1485)) (Tv.g (hp0.bel hB1485) hg1490)) rfl ?_
            refine wl_val (g_fieldAddr (q := (adr a0).add ((Int.toNat (r30[(Int.toNat v1458)]!)) * El.m CueD)) FL39_1 ON24 rfl) rfl ?_
            refine wl_val (q_loadF (i := r30[(Int.toNat v1458)]!) (j := 1) (v := .slice ((y0[(Int.toNat (r30[(Int.toNat v1458)]!))]!).2.1.1) ((y0[(Int.toNat (r30[(Int.toNat v1458)]!))]!).2.1.2.2.length) ((y0[(Int.toNat (r30[(Int.toNat v1458)]!))]!).2.1.2.1)) ON24 (Tv.o (hp0.bel hB1485)) (Tv.g (hp0.bel hB1485) hg1490) rfl rfl) rfl ?_
            refine wl_val (q_len SL24 rfl (Vw.len (Tv.rowC0 (hp0.bel hB1485) hg1490))) rfl ?_
            refine wl_val (g_lss (a := v1479) (b := ((p0[(Int.toNat (r30[(Int.toNat v1458)]!))]!.2.1).length : Int)) rfl rfl) rfl ?_
            refine wl_nil ?_
            refine hK1489 _ _ ?_
            refine w_condI (p := v1479 < ((p0[(Int.toNat (r30[(Int.toNat v1458)]!))]!.2.1).length : Int)) (b := (decide (v1479 < ((p0[(Int.toNat (r30[(Int.toNat v1458)]!))]!.2.1).length : Int)))) rfl decide_eq_true_iff (fun h1491 => ?_) (fun h1491 => ?_)
            · replace hm := hm.1 h1491
              refine w_skip ?_
              refine hK1488 _ _ ?_
              refine w_seq fun K1492 hK1492 => ?_
              refine w_block ?_
              refine w_seq fun K1493 hK1493 => ?_
              refine w_region ?_
              refine wl_val (g_move (v := .slice a0 n0 c0) rfl) rfl ?_
              refine wl_val (g_move (v := .int .i64 (r30[(Int.toNat v1458)]!)) rfl) rfl ?_
              obtain ⟨hg1494, hm⟩ := hm
              refine wl_val (q_index (i := r30[(Int.toNat v1458)]!) SL26 rfl rfl (Tv.o (hp0.bel hB1485)) (Tv.g (hp0.bel hB1485) hg1494)) rfl ?_
              refine wl_val (g_fieldAddr (q := (adr a0).add ((Int.toNat (r30[(Int.toNat v1458)]!)) * El.m CueD)) FL39_1 ON24 rfl) rfl ?_
              refine wl_val (q_loadF (i := r30[(Int.toNat v1458)]!) (j := 1) (v := .slice ((y0[(Int.toNat (r30[(Int.toNat v1458)]!))]!).2.1.1) ((y0[(Int.toNat (r30[(Int.toNat v1458)]!))]!).2.1.2.2.length) ((y0[(Int.toNat (r30[(Int.toNat v1458)]!))]!).2.1.2.1)) ON24 (Tv.o (hp0.bel hB1485)) (Tv.g (hp0.bel hB1485) hg1494) rfl rfl) rfl ?_
              refine wl_val (g_move (v := .int .i64 v1479) rfl) rfl ?_
              obtain ⟨hg1495, hm⟩ := hm
              refine wl_val (q_index (i := v1479) SL24 rfl rfl (Tv.rowC0 (hp0.bel hB1485) hg1494) hg1495) rfl ?_
              refine wl_val (q_load (i := v1479) (v := .int .i64 ((p0[(Int.toNat (r30[(Int.toNat v1458)]!))]!.2.1)[(Int.toNat v1479)]!)) ON3 (Tv.rowC0 (hp0.bel hB1485) hg1494) hg1495 rfl rfl) rfl ?_
              refine wl_val (g_assign (v := .int .i64 ((p0[(Int.toNat (r30[(Int.toNat v1458)]!))]!.2.1)[(Int.toNat v1479)]!)) rfl) rfl ?_
              refine wl_nil ?_
              refine hK1493 _ _ ?_
              refine w_draw (X := Ext) (Y := Ext) [0, 0, 0, 0, 0, 0, 0, 0, 0, 0, 0, 0, 0, 0, 0, 0, 0, 0, 1] MIX (by decide +kernel) rfl Ext.refl (fun _ _ _ => Ext.trans) (fun _ _ _ => Chg.trans) (fun _ _ h => Ext.chg h _) (fun w1496 hE1497 => ?_)
              have hB1498 := hB1485.trans (Ext.stp hE1497 hS1486.base)
              have hS1499 := hS1486.ext hE1497
              refine ⟨.slice a21 (Int.toNat (p0.length : Int)) (Int.toNat (p0.length : Int)), fun w1500 hX1501 => od_plain rfl (by have hS1502 := hS1499.ext hX1501; have hB1503 := hB1498.trans (Ext.stp hX1501 hS1499.base); exact is_ext (g_move (v := .slice a21 (Int.toNat (p0.length : Int)) (Int.toNat (p0.length : Int))) rfl)), ?_⟩
              refine ⟨.int .i64 (r30[(Int.toNat v1458)]!), fun w1504 hX1505 => od_plain rfl (by have hS1506 := hS1499.ext hX1505; have hB1507 := hB1498.trans (Ext.stp hX1505 hS1499.base); exact is_ext (g_move (v := .int .i64 (r30[(Int.toNat v1458)]!)) rfl)), ?_⟩
              refine ⟨.slice a21 (Int.toNat (p0.length : Int)) (Int.toNat (p0.length : Int)), fun w1508 hX1509 => od_plain rfl (by have hS1510 := hS1499.ext hX1509; have hB1511 := hB1498.trans (Ext.stp hX1509 hS1499.base); exact is_ext (g_move (v := .slice a21 (Int.toNat (p0.length : Int)) (Int.toNat (p0.length : Int))) rfl)), ?_⟩
              refine ⟨.int .i64 (r30[(Int.toNat v1458)]!), fun w1512 hX1513 => od_plain rfl (by have hS1514 := hS1499.ext hX1513; have hB1515 := hB1498.trans (Ext.stp hX1513 hS1499.base); exact is_ext (g_move (v := .int .i64 (r30[(Int.toNat v1458)]!)) rfl)), ?_⟩
              obtain ⟨hg1520, hm⟩ := hm
              refine ⟨.pointer (some ((adr a21).add ((Int.toNat (r30[(Int.toNat v1458)]!)) * El.m Int))), fun w1516 hX1517 => od_plain rfl (by have hS1518 := hS1499.ext hX1517; have hB1519 := hB1498.trans (Ext.stp hX1517 hS1499.base); exact is_ext (q_index (i := r30[(Int.toNat v1458)]!) SL24 rfl rfl (oS.vw hS1518.g0) hg1520)), ?_⟩
              refine ⟨.int .i64 (x1478[(Int.toNat (r30[(Int.toNat v1458)]!))]!), fun w1521 hX1522 => od_plain rfl (by have hS1523 := hS1499.ext hX1522; have hB1524 := hB1498.trans (Ext.stp hX1522 hS1499.base); exact is_ext (q_load (i := r30[(Int.toNat v1458)]!) (v := .int .i64 (x1478[(Int.toNat (r30[(Int.toNat v1458)]!))]!)) ON3 (oS.vw hS1523.g0) hg1520 rfl rfl)), ?_⟩
              refine ⟨.slice a21 (Int.toNat (p0.length : Int)) (Int.toNat (p0.length : Int)), fun w1525 hX1526 => od_plain rfl (by have hS1527 := hS1499.ext hX1526; have hB1528 := hB1498.trans (Ext.stp hX1526 hS1499.base); exact is_ext (g_move (v := .slice a21 (Int.toNat (p0.length : Int)) (Int.toNat (p0.length : Int))) rfl)), ?_⟩
              refine ⟨.int .i64 ((p0[(Int.toNat (r30[(Int.toNat v1458)]!))]!.2.1)[(Int.toNat v1479)]!), fun w1529 hX1530 => od_plain rfl (by have hS1531 := hS1499.ext hX1530; have hB1532 := hB1498.trans (Ext.stp hX1530 hS1499.base); exact is_ext (g_move (v := .int .i64 ((p0[(Int.toNat (r30[(Int.toNat v1458)]!))]!.2.1)[(Int.toNat v1479)]!)) rfl)), ?_⟩
              obtain ⟨hg1537, hm⟩ := hm
              refine ⟨.pointer (some ((adr a21).add ((Int.toNat ((p0[(Int.toNat (r30[(Int.toNat v1458)]!))]!.2.1)[(Int.toNat v1479)]!)) * El.m Int))), fun w1533 hX1534 => od_plain rfl (by have hS1535 := hS1499.ext hX1534; have hB1536 := hB1498.trans (Ext.stp hX1534 hS1499.base); exact is_ext (q_index (i := (p0[(Int.toNat (r30[(Int.toNat v1458)]!))]!.2.1)[(Int.toNat v1479)]!) SL24 rfl rfl (oS.vw hS1535.g0) hg1537)), ?_⟩
              refine ⟨.int .i64 (x1478[(Int.toNat ((p0[(Int.toNat (r30[(Int.toNat v1458)]!))]!.2.1)[(Int.toNat v1479)]!))]!), fun w1538 hX1539 => od_plain rfl (by have hS1540 := hS1499.ext hX1539; have hB1541 := hB1498.trans (Ext.stp hX1539 hS1499.base); exact is_ext (q_load (i := (p0[(Int.toNat (r30[(Int.toNat v1458)]!))]!.2.1)[(Int.toNat v1479)]!) (v := .int .i64 (x1478[(Int.toNat ((p0[(Int.toNat (r30[(Int.toNat v1458)]!))]!.2.1)[(Int.toNat v1479)]!))]!)) ON3 (oS.vw hS1540.g0) hg1537 rfl rfl)), ?_⟩
              refine ⟨.slice a0 n0 c0, fun w1542 hX1543 => od_plain rfl (by have hS1544 := hS1499.ext hX1543; have hB1545 := hB1498.trans (Ext.stp hX1543 hS1499.base); exact is_ext (g_move (v := .slice a0 n0 c0) rfl)), ?_⟩
              refine ⟨.int .i64 ((p0[(Int.toNat (r30[(Int.toNat v1458)]!))]!.2.1)[(Int.toNat v1479)]!), fun w1546 hX1547 => od_plain rfl (by have hS1548 := hS1499.ext hX1547; have hB1549 := hB1498.trans (Ext.stp hX1547 hS1499.base); exact is_ext (g_move (v := .int .i64 ((p0[(Int.toNat (r30[(Int.toNat v1458)]!))]!.2.1)[(Int.toNat v1479)]!)) rfl)), ?_⟩
              obtain ⟨hg1554, hm⟩ := hm
              refine ⟨.pointer (some ((adr a0).add ((Int.toNat ((p0[(Int.toNat (r30[(Int.toNat v1458)]!))]!.2.1)[(Int.toNat v1479)]!)) * El.m CueD))), fun w1550 hX1551 => od_plain rfl (by have hS1552 := hS1499.ext hX1551; have hB1553 := hB1498.trans (Ext.stp hX1551 hS1499.base); exact is_ext (q_index (i := (p0[(Int.toNat (r30[(Int.toNat v1458)]!))]!.2.1)[(Int.toNat v1479)]!) SL26 rfl rfl (Tv.o (hp0.bel hB1553)) (Tv.g (hp0.bel hB1553) hg1554))), ?_⟩
              refine ⟨.pointer (some (((adr a0).add ((Int.toNat ((p0[(Int.toNat (r30[(Int.toNat v1458)]!))]!.2.1)[(Int.toNat v1479)]!)) * El.m CueD)).add 0)), fun w1555 hX1556 => od_plain rfl (by have hS1557 := hS1499.ext hX1556; have hB1558 := hB1498.trans (Ext.stp hX1556 hS1499.base); exact is_ext (g_fieldAddr (q := (adr a0).add ((Int.toNat ((p0[(Int.toNat (r30[(Int.toNat v1458)]!))]!.2.1)[(Int.toNat v1479)]!)) * El.m CueD)) FL39_0 ON3 rfl)), ?_⟩
              refine ⟨.int .i64 (p0[(Int.toNat ((p0[(Int.toNat (r30[(Int.toNat v1458)]!))]!.2.1)[(Int.toNat v1479)]!))]!.1), fun w1559 hX1560 => od_plain rfl (by have hS1561 := hS1499.ext hX1560; have hB1562 := hB1498.trans (Ext.stp hX1560 hS1499.base); exact is_ext (q_loadF (i := (p0[(Int.toNat (r30[(Int.toNat v1458)]!))]!.2.1)[(Int.toNat v1479)]!) (j := 0) (v := .int .i64 (p0[(Int.toNat ((p0[(Int.toNat (r30[(Int.toNat v1458)]!))]!.2.1)[(Int.toNat v1479)]!))]!.1)) ON3 (Tv.o (hp0.bel hB1562)) (Tv.g (hp0.bel hB1562) hg1554) (by rw [← Tv.ticks (hp0.bel hB1562) hg1554]; rfl) rfl)), ?_⟩
              obtain ⟨hg1567, hm⟩ := hm
              refine ⟨.int .i64 (x1478[(Int.toNat ((p0[(Int.toNat (r30[(Int.toNat v1458)]!))]!.2.1)[(Int.toNat v1479)]!))]! + p0[(Int.toNat ((p0[(Int.toNat (r30[(Int.toNat v1458)]!))]!.2.1)[(Int.toNat v1479)]!))]!.1), fun w1563 hX1564 => od_plain rfl (by have hS1565 := hS1499.ext hX1564; have hB1566 := hB1498.trans (Ext.stp hX1564 hS1499.base); exact is_ext (g_add (a := x1478[(Int.toNat ((p0[(Int.toNat (r30[(Int.toNat v1458)]!))]!.2.1)[(Int.toNat v1479)]!))]!) (b := p0[(Int.toNat ((p0[(Int.toNat (r30[(Int.toNat v1458)]!))]!.2.1)[(Int.toNat v1479)]!))]!.1) rfl rfl hg1567)), ?_⟩
              refine ⟨.int .i64 (max (x1478[(Int.toNat (r30[(Int.toNat v1458)]!))]!) (x1478[(Int.toNat ((p0[(Int.toNat (r30[(Int.toNat v1458)]!))]!.2.1)[(Int.toNat v1479)]!))]! + p0[(Int.toNat ((p0[(Int.toNat (r30[(Int.toNat v1458)]!))]!.2.1)[(Int.toNat v1479)]!))]!.1)), fun w1568 hX1569 => od_plain rfl (by have hS1570 := hS1499.ext hX1569; have hB1571 := hB1498.trans (Ext.stp hX1569 hS1499.base); exact is_ext (g_max (a := x1478[(Int.toNat (r30[(Int.toNat v1458)]!))]!) (b := (x1478[(Int.toNat ((p0[(Int.toNat (r30[(Int.toNat v1458)]!))]!.2.1)[(Int.toNat v1479)]!))]! + p0[(Int.toNat ((p0[(Int.toNat (r30[(Int.toNat v1458)]!))]!.2.1)[(Int.toNat v1479)]!))]!.1)) rfl rfl)), ?_⟩
              obtain ⟨hg1576, hm⟩ := hm
              refine ⟨.pointer (some ((adr a21).add ((Int.toNat (r30[(Int.toNat v1458)]!)) * El.m Int))), fun w1572 hX1573 => od_plain rfl (by have hS1574 := hS1499.ext hX1573; have hB1575 := hB1498.trans (Ext.stp hX1573 hS1499.base); exact is_ext (q_index (i := r30[(Int.toNat v1458)]!) SL24 rfl rfl (oS.vw hS1574.g0) hg1576)), ?_⟩
              intro w1577 hX1578
              have hB1579 := hB1498.trans (Ext.stp hX1578 hS1499.base)
              have hS1580 := hS1499.ext hX1578
              refine ⟨_, od_plain rfl (q_store (i := r30[(Int.toNat v1458)]!) (v := ((max (x1478[(Int.toNat (r30[(Int.toNat v1458)]!))]!) (x1478[(Int.toNat ((p0[(Int.toNat (r30[(Int.toNat v1458)]!))]!.2.1)[(Int.toNat v1479)]!))]! + p0[(Int.toNat ((p0[(Int.toNat (r30[(Int.toNat v1458)]!))]!.2.1)[(Int.toNat v1479)]!))]!.1)) : Int)) hS1580 ON3.sz hg1576 rfl rfl rfl), ?_⟩
              rintro _ w1581 ⟨rfl, hS1582, hb1583⟩
              have hB1584 := hB1579.trans hb1583
              intro w1585 hX1586
              have hB1587 := hB1584.trans (Ext.stp hX1586 hS1582.base)
              have hS1588 := hS1582.ext hX1586
              refine hK1492 _ _ ?_
              refine w_region ?_
              refine wl_val (g_move (v := .int .i64 v1479) rfl) rfl ?_
              obtain ⟨hg1589, hm⟩ := hm
              refine wl_val (g_add (a := v1479) (b := 1) rfl rfl hg1589) rfl ?_
              refine wl_val (g_assign (v := .int .i64 (v1479 + 1)) rfl) rfl ?_
              refine wl_nil ?_
              exact ⟨((x1478.set (Int.toNat (r30[(Int.toNat v1458)]!)) (max (x1478[(Int.toNat (r30[(Int.toNat v1458)]!))]!) (x1478[(Int.toNat ((p0[(Int.toNat (r30[(Int.toNat v1458)]!))]!.2.1)[(Int.toNat v1479)]!))]! + p0[(Int.toNat ((p0[(Int.toNat (r30[(Int.toNat v1458)]!))]!.2.1)[(Int.toNat v1479)]!))]!.1))), (v1479 + 1)), hm.2, ⟨rfl, rfl, rfl, rfl, rfl, rfl, trivial⟩, ⟨hm.1, hB1587, hS1588⟩⟩
            · replace hm := hm.2 h1491
              refine w_exit ?_
              exact ⟨(x1478), ⟨rfl, rfl, rfl, rfl, rfl, trivial⟩, ⟨hm, hB1485, hS1486⟩⟩
          · rintro x1475 b_ w1590 ⟨hm, hB1591, hS1592⟩
            show Wp _ _ _ _ (upds b_ [(0, .slice a0 n0 c0), (3, .slice a21 (Int.toNat (p0.length : Int)) (Int.toNat (p0.length : Int))), (4, .slice a31 n32 c33), (5, .int .i64 v1458), (6, .int .i64 (r30[(Int.toNat v1458)]!))]) w1590
            refine w_seq fun K1593 hK1593 => ?_
            refine w_region ?_
            refine wl_val (g_assign (v := .int .i64 0) rfl) rfl ?_
            refine wl_nil ?_
            refine hK1593 _ _ ?_
            refine w_block ?_
            obtain ⟨I1596, μ1597, h01598, hr1599⟩ := hm
            refine w_for (σ := List Int × Int) (fun ⟨x1594, v1595⟩ => [(0, .slice a0 n0 c0), (3, .slice a21 (Int.toNat (p0.length : Int)) (Int.toNat (p0.length : Int))), (4, .slice a31 n32 c33), (5, .int .i64 v1458), (6, .int .i64 (r30[(Int.toNat v1458)]!)), (9, .int .i64 v1595)]) (fun ⟨x1594, v1595⟩ w' => I1596 x1594 v1595 ∧ Below w.heap.size w w' ∧ Sep w' w.heap.size [oS 3 a21 (Int.toNat (p0.length : Int)) (Int.toNat (p0.length : Int)) (x1594 : List Int), oS 3 a31 n32 c33 (r30 : List Int)]) (fun ⟨x1594, v1595⟩ => μ1597 x1594 v1595) (x1475, 0) ⟨rfl, rfl, rfl, rfl, rfl, rfl, trivial⟩ ⟨h01598, hB1591, hS1592⟩ ?_
            rintro ⟨x1594, v1595⟩ b_ w1600 ⟨hi_, hB1601, hS1602⟩
            show Wp _ _ _ _ (upds b_ [(0, .slice a0 n0 c0), (3, .slice a21 (Int.toNat (p0.length : Int)) (Int.toNat (p0.length : Int))), (4, .slice a31 n32 c33), (5, .int .i64 v1458), (6, .int .i64 (r30[(Int.toNat v1458)]!)), (9, .int .i64 v1595)]) w1600
            have hm := hr1599 x1594 v1595 hi_
            refine w_seq fun K1604 hK1604 => ?_
            refine w_seq fun K1605 hK1605 => ?_
            refine w_region ?_
            refine wl_val (g_move (v := .int .i64 v1595) rfl) rfl ?_
            refine wl_val (g_move (v := .int .i64 v1458) rfl) rfl ?_
            refine wl_val (g_lss (a := v1595) (b := v1458) rfl rfl) rfl ?_
            refine wl_nil ?_
            refine hK1605 _ _ ?_
            refine w_condI (p := v1595 < v1458) (b := (decide (v1595 < v1458))) rfl decide_eq_true_iff (fun h1606 => ?_) (fun h1606 => ?_)
            · replace hm := hm.1 h1606
              refine w_skip ?_
              refine hK1604 _ _ ?_
              refine w_seq fun K1607 hK1607 => ?_
              refine w_block ?_
              refine w_seq fun K1608 hK1608 => ?_
              refine w_draw (X := Ext) (Y := Ext) [] MIX (by decide +kernel) rfl Ext.refl (fun _ _ _ => Ext.trans) (fun _ _ _ => Chg.trans) (fun _ _ h => Ext.chg h _) (fun w1609 hE1610 => ?_)
              have hB1611 := hB1601.trans (Ext.stp hE1610 hS1602.base)
              have hS1612 := hS1602.ext hE1610
              refine ⟨.slice a0 n0 c0, fun w1613 hX1614 => od_plain rfl (by have hS1615 := hS1612.ext hX1614; have hB1616 := hB1611.trans (Ext.stp hX1614 hS1612.base); exact is_ext (g_move (v := .slice a0 n0 c0) rfl)), ?_⟩
              refine ⟨.int .i64 (r30[(Int.toNat v1458)]!), fun w1617 hX1618 => od_plain rfl (by have hS1619 := hS1612.ext hX1618; have hB1620 := hB1611.trans (Ext.stp hX1618 hS1612.base); exact is_ext (g_move (v := .int .i64 (r30[(Int.toNat v1458)]!)) rfl)), ?_⟩
              obtain ⟨hg1625, hm⟩ := hm
              refine ⟨.pointer (some ((adr a0).add ((Int.toNat (r30[(Int.toNat v1458)]!)) * El.m CueD))), fun w1621 hX1622 => od_plain rfl (by have hS1623 := hS1612.ext hX1622; have hB1624 := hB1611.trans (Ext.stp hX1622 hS1612.base); exact is_ext (q_index (i := r30[(Int.toNat v1458)]!) SL26 rfl rfl (Tv.o (hp0.bel hB1624)) (Tv.g (hp0.bel hB1624) hg1625))), ?_⟩
              refine ⟨.agg #[.int .i64 (p0[(Int.toNat (r30[(Int.toNat v1458)]!))]!.1), .slice ((y0[(Int.toNat (r30[(Int.toNat v1458)]!))]!).2.1.1) ((y0[(Int.toNat (r30[(Int.toNat v1458)]!))]!).2.1.2.2.length) ((y0[(Int.toNat (r30[(Int.toNat v1458)]!))]!).2.1.2.1), .slice ((y0[(Int.toNat (r30[(Int.toNat v1458)]!))]!).2.2.1) ((y0[(Int.toNat (r30[(Int.toNat v1458)]!))]!).2.2.2.2.length) ((y0[(Int.toNat (r30[(Int.toNat v1458)]!))]!).2.2.2.1)], fun w1626 hX1627 => od_plain rfl (by have hS1628 := hS1612.ext hX1627; have hB1629 := hB1611.trans (Ext.stp hX1627 hS1612.base); exact is_ext (q_loadS (i := r30[(Int.toNat v1458)]!) (cs := [.int .i64 (p0[(Int.toNat (r30[(Int.toNat v1458)]!))]!.1), .slice ((y0[(Int.toNat (r30[(Int.toNat v1458)]!))]!).2.1.1) ((y0[(Int.toNat (r30[(Int.toNat v1458)]!))]!).2.1.2.2.length) ((y0[(Int.toNat (r30[(Int.toNat v1458)]!))]!).2.1.2.1), .slice ((y0[(Int.toNat (r30[(Int.toNat v1458)]!))]!).2.2.1) ((y0[(Int.toNat (r30[(Int.toNat v1458)]!))]!).2.2.2.2.length) ((y0[(Int.toNat (r30[(Int.toNat v1458)]!))]!).2.2.2.1)]) AG39 (Tv.o (hp0.bel hB1629)) (Tv.g (hp0.bel hB1629) hg1625) (by rw [← Tv.ticks (hp0.bel hB1629) hg1625]; rfl) rfl)), ?_⟩
              refine ⟨.slice a0 n0 c0, fun w1630 hX1631 => od_plain rfl (by have hS1632 := hS1612.ext hX1631; have hB1633 := hB1611.trans (Ext.stp hX1631 hS1612.base); exact is_ext (g_move (v := .slice a0 n0 c0) rfl)), ?_⟩
              refine ⟨.slice a31 n32 c33, fun w1634 hX1635 => od_plain rfl (by have hS1636 := hS1612.ext hX1635; have hB1637 := hB1611.trans (Ext.stp hX1635 hS1612.base); exact is_ext (g_move (v := .slice a31 n32 c33) rfl)), ?_⟩
              refine ⟨.int .i64 v1595, fun w1638 hX1639 => od_plain rfl (by have hS1640 := hS1612.ext hX1639; have hB1641 := hB1611.trans (Ext.stp hX1639 hS1612.base); exact is_ext (g_move (v := .int .i64 v1595) rfl)), ?_⟩
              obtain ⟨hg1646, hm⟩ := hm
              refine ⟨.pointer (some ((adr a31).add ((Int.toNat v1595) * El.m Int))), fun w1642 hX1643 => od_plain rfl (by have hS1644 := hS1612.ext hX1643; have hB1645 := hB1611.trans (Ext.stp hX1643 hS1612.base); exact is_ext (q_index (i := v1595) SL24 rfl rfl (oS.vw hS1644.g1) hg1646)), ?_⟩
              refine ⟨.int .i64 (r30[(Int.toNat v1595)]!), fun w1647 hX1648 => od_plain rfl (by have hS1649 := hS1612.ext hX1648; have hB1650 := hB1611.trans (Ext.stp hX1648 hS1612.base); exact is_ext (q_load (i := v1595) (v := .int .i64 (r30[(Int.toNat v1595)]!)) ON3 (oS.vw hS1649.g1) hg1646 rfl rfl)), ?_⟩
              obtain ⟨hg1655, hm⟩ := hm
              refine ⟨.pointer (some ((adr a0).add ((Int.toNat (r30[(Int.toNat v1595)]!)) * El.m CueD))), fun w1651 hX1652 => od_plain rfl (by have hS1653 := hS1612.ext hX1652; have hB1654 := hB1611.trans (Ext.stp hX1652 hS1612.base); exact is_ext (q_index (i := r30[(Int.toNat v1595)]!) SL26 rfl rfl (Tv.o (hp0.bel hB1654)) (Tv.g (hp0.bel hB1654) hg1655))), ?_⟩
              refine ⟨.agg #[.int .i64 (p0[(Int.toNat (r30[(Int.toNat v1595)]!))]!.1), .slice ((y0[(Int.toNat (r30[(Int.toNat v1595)]!))]!).2.1.1) ((y0[(Int.toNat (r30[(Int.toNat v1595)]!))]!).2.1.2.2.length) ((y0[(Int.toNat (r30[(Int.toNat v1595)]!))]!).2.1.2.1), .slice ((y0[(Int.toNat (r30[(Int.toNat v1595)]!))]!).2.2.1) ((y0[(Int.toNat (r30[(Int.toNat v1595)]!))]!).2.2.2.2.length) ((y0[(Int.toNat (r30[(Int.toNat v1595)]!))]!).2.2.2.1)], fun w1656 hX1657 => od_plain rfl (by have hS1658 := hS1612.ext hX1657; have hB1659 := hB1611.trans (Ext.stp hX1657 hS1612.base); exact is_ext (q_loadS (i := r30[(Int.toNat v1595)]!) (cs := [.int .i64 (p0[(Int.toNat (r30[(Int.toNat v1595)]!))]!.1), .slice ((y0[(Int.toNat (r30[(Int.toNat v1595)]!))]!).2.1.1) ((y0[(Int.toNat (r30[(Int.toNat v1595)]!))]!).2.1.2.2.length) ((y0[(Int.toNat (r30[(Int.toNat v1595)]!))]!).2.1.2.1), .slice ((y0[(Int.toNat (r30[(Int.toNat v1595)]!))]!).2.2.1) ((y0[(Int.toNat (r30[(Int.toNat v1595)]!))]!).2.2.2.2.length) ((y0[(Int.toNat (r30[(Int.toNat v1595)]!))]!).2.2.2.1)]) AG39 (Tv.o (hp0.bel hB1659)) (Tv.g (hp0.bel hB1659) hg1655) (by rw [← Tv.ticks (hp0.bel hB1659) hg1655]; rfl) rfl)), ?_⟩
              obtain ⟨r1664, hk1665, hm⟩ := hm
              refine ⟨.bool r1664, fun w1660 hX1661 => od_plain rfl (by have hS1662 := hS1612.ext hX1661; have hB1663 := hB1611.trans (Ext.stp hX1661 hS1612.base); exact (g_call (vs := #[.agg #[.int .i64 (p0[(Int.toNat (r30[(Int.toNat v1458)]!))]!.1), .slice ((y0[(Int.toNat (r30[(Int.toNat v1458)]!))]!).2.1.1) ((y0[(Int.toNat (r30[(Int.toNat v1458)]!))]!).2.1.2.2.length) ((y0[(Int.toNat (r30[(Int.toNat v1458)]!))]!).2.1.2.1), .slice ((y0[(Int.toNat (r30[(Int.toNat v1458)]!))]!).2.2.1) ((y0[(Int.toNat (r30[(Int.toNat v1458)]!))]!).2.2.2.2.length) ((y0[(Int.toNat (r30[(Int.toNat v1458)]!))]!).2.2.2.1)], .agg #[.int .i64 (p0[(Int.toNat (r30[(Int.toNat v1595)]!))]!.1), .slice ((y0[(Int.toNat (r30[(Int.toNat v1595)]!))]!).2.1.1) ((y0[(Int.toNat (r30[(Int.toNat v1595)]!))]!).2.1.2.2.length) ((y0[(Int.toNat (r30[(Int.toNat v1595)]!))]!).2.1.2.1), .slice ((y0[(Int.toNat (r30[(Int.toNat v1595)]!))]!).2.2.1) ((y0[(Int.toNat (r30[(Int.toNat v1595)]!))]!).2.2.2.2.length) ((y0[(Int.toNat (r30[(Int.toNat v1595)]!))]!).2.2.2.1)]]) CF73 (args2 rfl rfl) ((m_spec_l12Common_fn (p0[(Int.toNat (r30[(Int.toNat v1458)]!))]!) ((Tv.rowC0 (hp0.bel hB1663) hg1625).up hS1662) ((Tv.rowC1 (hp0.bel hB1663) hg1625).up hS1662) (p0[(Int.toNat (r30[(Int.toNat v1595)]!))]!) ((Tv.rowC0 (hp0.bel hB1663) hg1655).up hS1662) ((Tv.rowC1 (hp0.bel hB1663) hg1655).up hS1662) hk1665).mono fun _ _ ⟨_, h1, h2, h3⟩ => ⟨by rw [h2, h1], h3⟩))), ?_⟩
              intro w1666 hX1667
              have hB1668 := hB1611.trans (Ext.stp hX1667 hS1612.base)
              have hS1669 := hS1612.ext hX1667
              refine hK1608 _ _ ?_
              refine w_condI (p := r1664 = true) (b := r1664) rfl Iff.rfl (fun h1670 => ?_) (fun h1670 => ?_)
              · replace hm := hm.1 h1670
                refine w_draw (X := Ext) (Y := Ext) [0, 0, 0, 0, 0, 0, 0, 0, 0, 0, 0, 0, 0, 0, 0, 0, 0, 0, 0, 0, 0, 0, 0, 0, 1] MIX (by decide +kernel) rfl Ext.refl (fun _ _ _ => Ext.trans) (fun _ _ _ => Chg.trans) (fun _ _ h => Ext.chg h _) (fun w1671 hE1672 => ?_)
                have hB1673 := hB1668.trans (Ext.stp hE1672 hS1669.base)
                have hS1674 := hS1669.ext hE1672
                refine ⟨.slice a21 (Int.toNat (p0.length : Int)) (Int.toNat (p0.length : Int)), fun w1675 hX1676 => od_plain rfl (by have hS1677 := hS1674.ext hX1676; have hB1678 := hB1673.trans (Ext.stp hX1676 hS1674.base); exact is_ext (g_move (v := .slice a21 (Int.toNat (p0.length : Int)) (Int.toNat (p0.length : Int))) rfl)), ?_⟩
                refine ⟨.int .i64 (r30[(Int.toNat v1458)]!), fun w1679 hX1680 => od_plain rfl (by have hS1681 := hS1674.ext hX1680; have hB1682 := hB1673.trans (Ext.stp hX1680 hS1674.base); exact is_ext (g_move (v := .int .i64 (r30[(Int.toNat v1458)]!)) rfl)), ?_⟩
                refine ⟨.slice a21 (Int.toNat (p0.length : Int)) (Int.toNat (p0.length : Int)), fun w1683 hX1684 => od_plain rfl (by have hS1685 := hS1674.ext hX1684; have hB1686 := hB1673.trans (Ext.stp hX1684 hS1674.base); exact is_ext (g_move (v := .slice a21 (Int.toNat (p0.length : Int)) (Int.toNat (p0.length : Int))) rfl)), ?_⟩
                refine ⟨.int .i64 (r30[(Int.toNat v1458)]!), fun w1687 hX1688 => od_plain rfl (by have hS1689 := hS1674.ext hX1688; have hB1690 := hB1673.trans (Ext.stp hX1688 hS1674.base); exact is_ext (g_move (v := .int .i64 (r30[(Int.toNat v1458)]!)) rfl)), ?_⟩
                obtain ⟨hg1695, hm⟩ := hm
                refine ⟨.pointer (some ((adr a21).add ((Int.toNat (r30[(Int.toNat v1458)]!)) * El.m Int))), fun w1691 hX1692 => od_plain rfl (by have hS1693 := hS1674.ext hX1692; have hB1694 := hB1673.trans (Ext.stp hX1692 hS1674.base); exact is_ext (q_index (i := r30[(Int.toNat v1458)]!) SL24 rfl rfl (oS.vw hS1693.g0) hg1695)), ?_⟩
                refine ⟨.int .i64 (x1594[(Int.toNat (r30[(Int.toNat v1458)]!))]!), fun w1696 hX1697 => od_plain rfl (by have hS1698 := hS1674.ext hX1697; have hB1699 := hB1673.trans (Ext.stp hX1697 hS1674.base); exact is_ext (q_load (i := r30[(Int.toNat v1458)]!) (v := .int .i64 (x1594[(Int.toNat (r30[(Int.toNat v1458)]!))]!)) ON3 (oS.vw hS1698.g0) hg1695 rfl rfl)), ?_⟩
                refine ⟨.slice a21 (Int.toNat (p0.length : Int)) (Int.toNat (p0.length : Int)), fun w1700 hX1701 => od_plain rfl (by have hS1702 := hS1674.ext hX1701; have hB1703 := hB1673.trans (Ext.stp hX1701 hS1674.base); exact is_ext (g_move (v := .slice a21 (Int.toNat (p0.length : Int)) (Int.toNat (p0.length : Int))) rfl)), ?_⟩
                refine ⟨.slice a31 n32 c33, fun w1704 hX1705 => od_plain rfl (by have hS1706 := hS1674.ext hX1705; have hB1707 := hB1673.trans (Ext.stp hX1705 hS1674.base); exact is_ext (g_move (v := .slice a31 n32 c33) rfl)), ?_⟩
                refine ⟨.int .i64 v1595, fun w1708 hX1709 => od_plain rfl (by have hS1710 := hS1674.ext hX1709; have hB1711 := hB1673.trans (Ext.stp hX1709 hS1674.base); exact is_ext (g_move (v := .int .i64 v1595) rfl)), ?_⟩
                obtain ⟨hg1716, hm⟩ := hm
                refine ⟨.pointer (some ((adr a31).add ((Int.toNat v1595) * El.m Int))), fun w1712 hX1713 => od_plain rfl (by have hS1714 := hS1674.ext hX1713; have hB1715 := hB1673.trans (Ext.stp hX1713 hS1674.base); exact is_ext (q_index (i := v1595) SL24 rfl rfl (oS.vw hS1714.g1) hg1716)), ?_⟩
                refine ⟨.int .i64 (r30[(Int.toNat v1595)]!), fun w1717 hX1718 => od_plain rfl (by have hS1719 := hS1674.ext hX1718; have hB1720 := hB1673.trans (Ext.stp hX1718 hS1674.base); exact is_ext (q_load (i := v1595) (v := .int .i64 (r30[(Int.toNat v1595)]!)) ON3 (oS.vw hS1719.g1) hg1716 rfl rfl)), ?_⟩
                obtain ⟨hg1725, hm⟩ := hm
                refine ⟨.pointer (some ((adr a21).add ((Int.toNat (r30[(Int.toNat v1595)]!)) * El.m Int))), fun w1721 hX1722 => od_plain rfl (by have hS1723 := hS1674.ext hX1722; have hB1724 := hB1673.trans (Ext.stp hX1722 hS1674.base); exact is_ext (q_index (i := r30[(Int.toNat v1595)]!) SL24 rfl rfl (oS.vw hS1723.g0) hg1725)), ?_⟩
                refine ⟨.int .i64 (x1594[(Int.toNat (r30[(Int.toNat v1595)]!))]!), fun w1726 hX1727 => od_plain rfl (by have hS1728 := hS1674.ext hX1727; have hB1729 := hB1673.trans (Ext.stp hX1727 hS1674.base); exact is_ext (q_load (i := r30[(Int.toNat v1595)]!) (v := .int .i64 (x1594[(Int.toNat (r30[(Int.toNat v1595)]!))]!)) ON3 (oS.vw hS1728.g0) hg1725 rfl rfl)), ?_⟩
                refine ⟨.slice a0 n0 c0, fun w1730 hX1731 => od_plain rfl (by have hS1732 := hS1674.ext hX1731; have hB1733 := hB1673.trans (Ext.stp hX1731 hS1674.base); exact is_ext (g_move (v := .slice a0 n0 c0) rfl)), ?_⟩
                refine ⟨.slice a31 n32 c33, fun w1734 hX1735 => od_plain rfl (by have hS1736 := hS1674.ext hX1735; have hB1737 := hB1673.trans (Ext.stp hX1735 hS1674.base); exact is_ext (g_move (v := .slice a31 n32 c33) rfl)), ?_⟩
                refine ⟨.int .i64 v1595, fun w1738 hX1739 => od_plain rfl (by have hS1740 := hS1674.ext hX1739; have hB1741 := hB1673.trans (Ext.stp hX1739 hS1674.base); exact is_ext (g_move (v := .int .i64 v1595) rfl)), ?_⟩
                obtain ⟨hg1746, hm⟩ := hm
                refine ⟨.pointer (some ((adr a31).add ((Int.toNat v1595) * El.m Int))), fun w1742 hX1743 => od_plain rfl (by have hS1744 := hS1674.ext hX1743; have hB1745 := hB1673.trans (Ext.stp hX1743 hS1674.base); exact is_ext (q_index (i := v1595) SL24 rfl rfl (oS.vw hS1744.g1) hg1746)), ?_⟩
                refine ⟨.int .i64 (r30[(Int.toNat v1595)]!), fun w1747 hX1748 => od_plain rfl (by have hS1749 := hS1674.ext hX1748; have hB1750 := hB1673.trans (Ext.stp hX1748 hS1674.base); exact is_ext (q_load (i := v1595) (v := .int .i64 (r30[(Int.toNat v1595)]!)) ON3 (oS.vw hS1749.g1) hg1746 rfl rfl)), ?_⟩
                obtain ⟨hg1755, hm⟩ := hm
                refine ⟨.pointer (some ((adr a0).add ((Int.toNat (r30[(Int.toNat v1595)]!)) * El.m CueD))), fun w1751 hX1752 => od_plain rfl (by have hS1753 := hS1674.ext hX1752; have hB1754 := hB1673.trans (Ext.stp hX1752 hS1674.base); exact is_ext (q_index (i := r30[(Int.toNat v1595)]!) SL26 rfl rfl (Tv.o (hp0.bel hB1754)) (Tv.g (hp0.bel hB1754) hg1755))), ?_⟩
                refine ⟨.pointer (some (((adr a0).add ((Int.toNat (r30[(Int.toNat v1595)]!)) * El.m CueD)).add 0)), fun w1756 hX1757 => od_plain rfl (by have hS1758 := hS1674.ext hX1757; have hB1759 := hB1673.trans (Ext.stp hX1757 hS1674.base); exact is_ext (g_fieldAddr (q := (adr a0).add ((Int.toNat (r30[(Int.toNat v1595)]!)) * El.m CueD)) FL39_0 ON3 rfl)), ?_⟩
                refine ⟨.int .i64 (p0[(Int.toNat (r30[(Int.toNat v1595)]!))]!.1), fun w1760 hX1761 => od_plain rfl (by have hS1762 := hS1674.ext hX1761; have hB1763 := hB1673.trans (Ext.stp hX1761 hS1674.base); exact is_ext (q_loadF (i := r30[(Int.toNat v1595)]!) (j := 0) (v := .int .i64 (p0[(Int.toNat (r30[(Int.toNat v1595)]!))]!.1)) ON3 (Tv.o (hp0.bel hB1763)) (Tv.g (hp0.bel hB1763) hg1755) (by rw [← Tv.ticks (hp0.bel hB1763) hg1755]; rfl) rfl)), ?_⟩
                obtain ⟨hg1768, hm⟩ := hm
                refine ⟨.int .i64 (x1594[(Int.toNat (r30[(Int.toNat v1595)]!))]! + p0[(Int.toNat (r30[(Int.toNat v1595)]!))]!.1), fun w1764 hX1765 => od_plain rfl (by have hS1766 := hS1674.ext hX1765; have hB1767 := hB1673.trans (Ext.stp hX1765 hS1674.base); exact is_ext (g_add (a := x1594[(Int.toNat (r30[(Int.toNat v1595)]!))]!) (b := p0[(Int.toNat (r30[(Int.toNat v1595)]!))]!.1) rfl rfl hg1768)), ?_⟩
                refine ⟨.int .i64 (max (x1594[(Int.toNat (r30[(Int.toNat v1458)]!))]!) (x1594[(Int.toNat (r30[(Int.toNat v1595)]!))]! + p0[(Int.toNat (r30[(Int.toNat v1595)]!))]!.1)), fun w1769 hX1770 => od_plain rfl (by have hS1771 := hS1674.ext hX1770; have hB1772 := hB1673.trans (Ext.stp hX1770 hS1674.base); exact is_ext (g_max (a := x1594[(Int.toNat (r30[(Int.toNat v1458)]!))]!) (b := (x1594[(Int.toNat (r30[(Int.toNat v1595)]!))]! + p0[(Int.toNat (r30[(Int.toNat v1595)]!))]!.1)) rfl rfl)), ?_⟩
                obtain ⟨hg1777, hm⟩ := hm
                refine ⟨.pointer (some ((adr a21).add ((Int.toNat (r30[(Int.toNat v1458)]!)) * El.m Int))), fun w1773 hX1774 => od_plain rfl (by have hS1775 := hS1674.ext hX1774; have hB1776 := hB1673.trans (Ext.stp hX1774 hS1674.base); exact is_ext (q_index (i := r30[(Int.toNat v1458)]!) SL24 rfl rfl (oS.vw hS1775.g0) hg1777)), ?_⟩
                intro w1778 hX1779
                have hB1780 := hB1673.trans (Ext.stp hX1779 hS1674.base)
                have hS1781 := hS1674.ext hX1779
                refine ⟨_, od_plain rfl (q_store (i := r30[(Int.toNat v1458)]!) (v := ((max (x1594[(Int.toNat (r30[(Int.toNat v1458)]!))]!) (x1594[(Int.toNat (r30[(Int.toNat v1595)]!))]! + p0[(Int.toNat (r30[(Int.toNat v1595)]!))]!.1)) : Int)) hS1781 ON3.sz hg1777 rfl rfl rfl), ?_⟩
                rintro _ w1782 ⟨rfl, hS1783, hb1784⟩
                have hB1785 := hB1780.trans hb1784
                intro w1786 hX1787
                have hB1788 := hB1785.trans (Ext.stp hX1787 hS1783.base)
                have hS1789 := hS1783.ext hX1787
                refine hK1607 _ _ ?_
                refine w_region ?_
                refine wl_val (g_move (v := .int .i64 v1595) rfl) rfl ?_
                obtain ⟨hg1790, hm⟩ := hm
                refine wl_val (g_add (a := v1595) (b := 1) rfl rfl hg1790) rfl ?_
                refine wl_val (g_assign (v := .int .i64 (v1595 + 1)) rfl) rfl ?_
                refine wl_nil ?_
                exact ⟨((x1594.set (Int.toNat (r30[(Int.toNat v1458)]!)) (max (x1594[(Int.toNat (r30[(Int.toNat v1458)]!))]!) (x1594[(Int.toNat (r30[(Int.toNat v1595)]!))]! + p0[(Int.toNat (r30[(Int.toNat v1595)]!))]!.1))), (v1595 + 1)), hm.2, ⟨rfl, rfl, rfl, rfl, rfl, rfl, trivial⟩, ⟨hm.1, hB1788, hS1789⟩⟩
              · replace hm := hm.2 h1670
                refine w_skip ?_
                refine hK1607 _ _ ?_
                refine w_region ?_
                refine wl_val (g_move (v := .int .i64 v1595) rfl) rfl ?_
                obtain ⟨hg1791, hm⟩ := hm
                refine wl_val (g_add (a := v1595) (b := 1) rfl rfl hg1791) rfl ?_
                refine wl_val (g_assign (v := .int .i64 (v1595 + 1)) rfl) rfl ?_
                refine wl_nil ?_
                exact ⟨(x1594, (v1595 + 1)), hm.2, ⟨rfl, rfl, rfl, rfl, rfl, rfl, trivial⟩, ⟨hm.1, hB1668, hS1669⟩⟩
            · replace hm := hm.2 h1606
              refine w_exit ?_
              exact ⟨(x1594), ⟨rfl, rfl, rfl, rfl, trivial⟩, ⟨hm, hB1601, hS1602⟩⟩
        · rintro x1471 b_ w1792 ⟨hm, hB1793, hS1794⟩
          show Wp _ _ _ _ (upds b_ [(0, .slice a0 n0 c0), (3, .slice a21 (Int.toNat (p0.length : Int)) (Int.toNat (p0.length : Int))), (4, .slice a31 n32 c33), (5, .int .i64 v1458)]) w1792
          refine w_region ?_
          refine wl_val (g_move (v := .int .i64 v1458) rfl) rfl ?_
          obtain ⟨hg1795, hm⟩ := hm
          refine wl_val (g_add (a := v1458) (b := 1) rfl rfl hg1795) rfl ?_
          refine wl_val (g_assign (v := .int .i64 (v1458 + 1)) rfl) rfl ?_
          refine wl_nil ?_
          exact ⟨(x1471, (v1458 + 1)), hm.2, ⟨rfl, rfl, rfl, rfl, trivial⟩, ⟨hm.1, hB1793, hS1794⟩⟩
      · replace hm := hm.2 h1470
        refine w_exit ?_
        have hS1796 := hS1466.f1
        have hS1797 := hS1796.tail
        exact ⟨(x1457), ⟨rfl, trivial⟩, ⟨hm, hB1465, hS1797⟩⟩
    · rintro x1454 b_ w1798 ⟨hm, hB1799, hS1800⟩
      show Wp _ _ _ _ (upds b_ [(3, .slice a21 (Int.toNat (p0.length : Int)) (Int.toNat (p0.length : Int)))]) w1798
      refine w_seq fun K1801 hK1801 => ?_
      refine w_region ?_
      refine wl_val (g_move (v := .slice a21 (Int.toNat (p0.length : Int)) (Int.toNat (p0.length : Int))) rfl) rfl ?_
      refine wl_val (g_assign (v := .slice a21 (Int.toNat (p0.length : Int)) (Int.toNat (p0.length : Int))) rfl) rfl ?_
      refine wl_nil ?_
      refine hK1801 _ _ ?_
      refine w_ret ?_
      repeat first | with_reducible refine q_then ?_ | with_reducible refine q_block ?_
      exact ret1 rfl (by decide) ⟨_, _, _, _, hm, rfl, toExt hB1799, hS1800⟩

theorem m_impl_SimplePlan_fn {w : World} {a0 : Option Addr} {n0 c0 : Nat} {y0 : List CueD} {p0 : List CueC} {Q : (List Int) → Prop} (hp0 : Tv w.heap.size w a0 n0 c0 y0 p0) (hm : m_impl_SimplePlan p0 Q) :
    Fn Try.prog 41 #[.slice a0 n0 c0] w (fun v w' => ∃ (r0 : List Int) (a0 : Option Addr) (n0 c0 : Nat), Q r0 ∧ v = .slice a0 n0 c0 ∧ Ext w w' ∧ Sep w' w.heap.size [oS 3 a0 n0 c0 r0]) := by
  unfold m_impl_SimplePlan at hm
  have hB0 := Below.refl w.heap.size w
  have hS0 : Sep w w.heap.size [] := Sep.nil (Nat.le_refl _)
  refine fn_of_wp Try.func41 rfl (by kernel_rfl) (Nat.le_of_ble_eq_true rfl) ?_
  refine w_seq fun K1 hK1 => ?_
  refine w_region ?_
  refine wl_val (g_assign (v := .slice none 0 0) rfl) rfl ?_
  refine wl_nil ?_
  refine hK1 _ _ ?_
  refine w_seq fun K2 hK2 => ?_
  refine w_seq fun K3 hK3 => ?_
  refine w_region ?_
  refine wl_val (g_move (v := .slice a0 n0 c0) rfl) rfl ?_
  refine wl_step rfl (g_call (vs := #[.slice a0 n0 c0]) CF29 (args1 rfl) (m_impl_CuesOk_fn ((hp0.bel hB0).up hS0) hm)) ?_
  rintro _ w4 ⟨r7, hm, rfl, hE5⟩
  have hB8 := hB0.trans (Ext.stp hE5 hS0.base)
  have hS9 := hS0.ext hE5
  refine wl_val (g_not (a := r7) rfl) rfl ?_
  refine wl_nil ?_
  refine hK3 _ _ ?_
  refine w_condI (p := ¬ (r7 = true)) (b := (!r7)) rfl (i_not Iff.rfl) (fun h10 => ?_) (fun h10 => ?_)
  · replace hm := hm.1 h10
    refine w_seq fun K11 hK11 => ?_
    refine w_region ?_
    refine wl_val (g_assign (v := .slice none 0 0) rfl) rfl ?_
    refine wl_nil ?_
    refine hK11 _ _ ?_
    refine w_ret ?_
    have hS12 := hS9.nilS (α := Int) (E := 3)
    repeat first | with_reducible refine q_then ?_ | with_reducible refine q_block ?_
    exact ret1 rfl (by decide) ⟨_, _, _, _, hm, rfl, toExt hB8, hS12⟩
  · replace hm := hm.2 h10
    refine w_skip ?_
    refine hK2 _ _ ?_
    refine w_seq fun K14 hK14 => ?_
    refine w_region ?_
    refine wl_val (g_move (v := .slice a0 n0 c0) rfl) rfl ?_
    refine wl_val (q_len SL26 rfl (Tv.len (hp0.bel hB8))) rfl ?_
    obtain ⟨hg15, hm⟩ := hm
    refine wl_step rfl (q_make (y := (0 : Int)) SL24 rfl rfl hg15.1 hg15.2 (by decide) hS9) ?_
    rintro _ w16 ⟨a17, rfl, hS19, hE18⟩
    have hB21 := hB8.trans (Ext.stp hE18 hS9.base)
    refine wl_step rfl (q_lit0 (α := Int) rfl SL24 hS19) ?_
    rintro _ w22 ⟨a23, rfl, hS25, hE24⟩
    have hB27 := hB21.trans (Ext.stp hE24 hS19.base)
    refine wl_val (g_assign (v := .slice a17 (Int.toNat (p0.length : Int)) (Int.toNat (p0.length : Int))) rfl) rfl ?_
    refine wl_val (g_assign (v := .slice a23 0 0) rfl) rfl ?_
    refine wl_nil ?_
    refine hK14 _ _ ?_
    refine w_cut (σ := List Int) (fun x1233 => [(3, .slice a17 (Int.toNat (p0.length : Int)) (Int.toNat (p0.length : Int)))]) (fun x1233 w' => m_impl_SimplePlan_K2 Q x1233 ∧ Below w.heap.size w w' ∧ Sep w' w.heap.size [oS 3 a17 (Int.toNat (p0.length : Int)) (Int.toNat (p0.length : Int)) (x1233 : List Int)]) ?_ ?_
    · refine w_seq fun K1235 hK1235 => ?_
      refine w_region ?_
      refine wl_val (g_move (v := .slice a0 n0 c0) rfl) rfl ?_
      refine wl_step rfl (g_call (vs := #[.slice a0 n0 c0]) CF28 (args1 rfl) (m_impl_CueOrder_fn ((hp0.bel hB27).up hS25) hm)) ?_
      rintro _ w1236 ⟨r1239, a1240, n1241, c1242, hm, rfl, hE1237, hN1238⟩
      have hS1244 := hS25.call1 hE1237 hN1238
      have hB1245 := hB27.trans (Ext.stp hE1237 hS25.base)
      refine wl_val (q_len SL24 rfl (Vw.len (oS.vw hS1244.g0))) rfl ?_
      refine wl_val (g_move (v := .int .i64 0) rfl) rfl ?_
      refine wl_nil ?_
      refine hK1235 _ _ ?_
      refine w_block ?_
      have hS1252 := hS1244.f1
      have hS1253 := hS1252.f2
      obtain ⟨I1254, μ1255, h01256, hr1257⟩ := hm
      refine w_for (σ := List Int × List Int × Option Addr × Nat × Nat × Int) (fun ⟨x1246, x1247, a1248, n1249, c1250, v1251⟩ => [(0, .slice a0 n0 c0), (3, .slice a17 (Int.toNat (p0.length : Int)) (Int.toNat (p0.length : Int))), (4, .slice a1248 n1249 c1250), (17, .slice a1240 n1241 c1242), (18, .int .i64 (r1239.length : Int)), (19, .int .i64 v1251)]) (fun ⟨x1246, x1247, a1248, n1249, c1250, v1251⟩ w' => I1254 x1246 x1247 v1251 ∧ Below w.heap.size w w' ∧ Sep w' w.heap.size [oS 3 a17 (Int.toNat (p0.length : Int)) (Int.toNat (p0.length : Int)) (x1246 : List Int), oS 3 a1248 n1249 c1250 (x1247 : List Int), oS 3 a1240 n1241 c1242 (r1239 : List Int)]) (fun ⟨x1246, x1247, a1248, n1249, c1250, v1251⟩ => μ1255 x1246 x1247 v1251) (List.replicate (Int.toNat (p0.length : Int)) (0 : Int), [], a23, 0, 0, 0) ⟨rfl, rfl, rfl, rfl, rfl, rfl, trivial⟩ ⟨h01256, hB1245, hS1253⟩ ?_
      rintro ⟨x1246, x1247, a1248, n1249, c1250, v1251⟩ b_ w1258 ⟨hi_, hB1259, hS1260⟩
      show Wp _ _ _ _ (upds b_ [(0, .slice a0 n0 c0), (3, .slice a17 (Int.toNat (p0.length : Int)) (Int.toNat (p0.length : Int))), (4, .slice a1248 n1249 c1250), (17, .slice a1240 n1241 c1242), (18, .int .i64 (r1239.length : Int)), (19, .int .i64 v1251)]) w1258
      have hm := hr1257 x1246 x1247 v1251 hi_
      refine w_seq fun K1262 hK1262 => ?_
      refine w_region ?_
      refine wl_val (g_lss (a := v1251) (b := (r1239.length : Int)) rfl rfl) rfl ?_
      refine wl_nil ?_
      refine hK1262 _ _ ?_
      refine w_seq fun K1263 hK1263 => ?_
      refine w_condI (p := v1251 < (r1239.length : Int)) (b := (decide (v1251 < (r1239.length : Int)))) rfl decide_eq_true_iff (fun h1264 => ?_) (fun h1264 => ?_)
      · replace hm := hm.1 h1264
        refine w_skip ?_
        refine hK1263 _ _ ?_
        refine w_cut (σ := List Int × List Int × Option Addr × Nat × Nat) (fun ⟨x1265, x1266, a1267, n1268, c1269⟩ => [(0, .slice a0 n0 c0), (3, .slice a17 (Int.toNat (p0.length : Int)) (Int.toNat (p0.length : Int))), (4, .slice a1267 n1268 c1269), (17, .slice a1240 n1241 c1242), (18, .int .i64 (r1239.length : Int)), (19, .int .i64 v1251)]) (fun ⟨x1265, x1266, a1267, n1268, c1269⟩ w' => m_impl_SimplePlan_K1 v1251 (fun x1246' x1247' v1251' => I1254 x1246' x1247' v1251' ∧ μ1255 x1246' x1247' v1251' < μ1255 x1246 x1247 v1251) x1265 x1266 ∧ Below w.heap.size w w' ∧ Sep w' w.heap.size [oS 3 a17 (Int.toNat (p0.length : Int)) (Int.toNat (p0.length : Int)) (x1265 : List Int), oS 3 a1267 n1268 c1269 (x1266 : List Int), oS 3 a1240 n1241 c1242 (r1239 : List Int)]) ?_ ?_
        · refine w_block ?_
          refine w_seq fun K1271 hK1271 => ?_
          refine w_region ?_
          obtain ⟨hg1272, hm⟩ := hm
          refine wl_val (q_index (i := v1251) SL24 rfl rfl (oS.vw hS1260.g2) hg1272) rfl ?_
          refine wl_val (q_load (i := v1251) (v := .int .i64 (r1239[(Int.toNat v1251)]!)) ON3 (oS.vw hS1260.g2) hg1272 rfl rfl) rfl ?_
          refine wl_val (g_assign (v := .int .i64 (r1239[(Int.toNat v1251)]!)) rfl) rfl ?_
          refine wl_nil ?_
          refine hK1271 _ _ ?_
          refine w_cut (σ := List Int) (fun x1273 => [(0, .slice a0 n0 c0), (3, .slice a17 (Int.toNat (p0.length : Int)) (Int.toNat (p0.length : Int))), (4, .slice a1248 n1249 c1250), (6, .int .i64 (r1239[(Int.toNat v1251)]!)), (17, .slice a1240 n1241 c1242), (18, .int .i64 (r1239.length : Int)), (19, .int .i64 v1251)]) (fun x1273 w' => m_impl_SimplePlan_K0 r1239 x1247 v1251 (m_impl_SimplePlan_K1 v1251 (fun x1246' x1247' v1251' => I1254 x1246' x1247' v1251' ∧ μ1255 x1246' x1247' v1251' < μ1255 x1246 x1247 v1251)) x1273 ∧ Below w.heap.size w w' ∧ Sep w' w.heap.size [oS 3 a17 (Int.toNat (p0.length : Int)) (Int.toNat (p0.length : Int)) (x1273 : List Int), oS 3 a1248 n1249 c1250 (x1247 : List Int), oS 3 a1240 n1241 c1242 (r1239 : List Int)]) ?_ ?_
          · refine w_seq fun K1275 hK1275 => ?_
            refine w_region ?_
            refine wl_val (g_move (v := .slice a1248 n1249 c1250) rfl) rfl ?_
            refine wl_val (q_len SL24 rfl (Vw.len (oS.vw hS1260.g1))) rfl ?_
            refine wl_val (g_move (v := .int .i64 0) rfl) rfl ?_
            refine wl_nil ?_
            refine hK1275 _ _ ?_
            refine w_block ?_
            obtain ⟨I1278, μ1279, h01280, hr1281⟩ := hm
            refine w_for (σ := List Int × Int) (fun ⟨x1276, v1277⟩ => [(0, .slice a0 n0 c0), (3, .slice a17 (Int.toNat (p0.length : Int)) (Int.toNat (p0.length : Int))), (4, .slice a1248 n1249 c1250), (6, .int .i64 (r1239[(Int.toNat v1251)]!)), (17, .slice a1240 n1241 c1242), (18, .int .i64 (r1239.length : Int)), (19, .int .i64 v1251), (23, .slice a1248 n1249 c1250), (24, .int .i64 (x1247.length : Int)), (25, .int .i64 v1277)]) (fun ⟨x1276, v1277⟩ w' => I1278 x1276 v1277 ∧ Below w.heap.size w w' ∧ Sep w' w.heap.size [oS 3 a17 (Int.toNat (p0.length : Int)) (Int.toNat (p0.length : Int)) (x1276 : List Int), oS 3 a1248 n1249 c1250 (x1247 : List Int), oS 3 a1240 n1241 c1242 (r1239 : List Int)]) (fun ⟨x1276, v1277⟩ => μ1279 x1276 v1277) (x1246, 0) ⟨rfl, rfl, rfl, rfl, rfl, rfl, rfl, rfl, rfl, rfl, trivial⟩ ⟨h01280, hB1259, hS1260⟩ ?_
            rintro ⟨x1276, v1277⟩ b_ w1282 ⟨hi_, hB1283, hS1284⟩
            show Wp _ _ _ _ (upds b_ [(0, .slice a0 n0 c0), (3, .slice a17 (Int.toNat (p0.length : Int)) (Int.toNat (p0.length : Int))), (4, .slice a1248 n1249 c1250), (6, .int .i64 (r1239[(Int.toNat v1251)]!)), (17, .slice a1240 n1241 c1242), (18, .int .i64 (r1239.length : Int)), (19, .int .i64 v1251), (23, .slice a1248 n1249 c1250), (24, .int .i64 (x1247.length : Int)), (25, .int .i64 v1277)]) w1282
            have hm := hr1281 x1276 v1277 hi_
            refine w_seq fun K1286 hK1286 => ?_
            refine w_region ?_
            refine wl_val (g_lss (a := v1277) (b := (x1247.length : Int)) rfl rfl) rfl ?_
            refine wl_nil ?_
            refine hK1286 _ _ ?_
            refine w_seq fun K1287 hK1287 => ?_
            refine w_condI (p := v1277 < (x1247.length : Int)) (b := (decide (v1277 < (x1247.length : Int)))) rfl decide_eq_true_iff (fun h1288 => ?_) (fun h1288 => ?_)
            · replace hm := hm.1 h1288
              refine w_skip ?_
              refine hK1287 _ _ ?_
              refine w_seq fun K1289 hK1289 => ?_
              refine w_block ?_
              refine w_seq fun K1290 hK1290 => ?_
              refine w_region ?_
              obtain ⟨hg1291, hm⟩ := hm
              refine wl_val (q_index (i := v1277) SL24 rfl rfl (oS.vw hS1284.g1) hg1291) rfl ?_
              refine wl_val (q_load (i := v1277) (v := .int .i64 (x1247[(Int.toNat v1277)]!)) ON3 (oS.vw hS1284.g1) hg1291 rfl rfl) rfl ?_
              refine wl_val (g_assign (v := .int .i64 (x1247[(Int.toNat v1277)]!)) rfl) rfl ?_
              refine wl_nil ?_
              refine hK1290 _ _ ?_
              refine w_seq fun K1292 hK1292 => ?_
              refine w_draw (X := Ext) (Y := Ext) [] MIX (by decide +kernel) rfl Ext.refl (fun _ _ _ => Ext.trans) (fun _ _ _ => Chg.trans) (fun _ _ h => Ext.chg h _) (fun w1293 hE1294 => ?_)
              have hB1295 := hB1283.trans (Ext.stp hE1294 hS1284.base)
              have hS1296 := hS1284.ext hE1294
              refine ⟨.slice a0 n0 c0, fun w1297 hX1298 => od_plain rfl (by have hS1299 := hS1296.ext hX1298; have hB1300 := hB1295.trans (Ext.stp hX1298 hS1296.base); exact is_ext (g_move (v := .slice a0 n0 c0) rfl)), ?_⟩
              refine ⟨.int .i64 (r1239[(Int.toNat v1251)]!), fun w1301 hX1302 => od_plain rfl (by have hS1303 := hS1296.ext hX1302; have hB1304 := hB1295.trans (Ext.stp hX1302 hS1296.base); exact is_ext (g_move (v := .int .i64 (r1239[(Int.toNat v1251)]!)) rfl)), ?_⟩
              obtain ⟨hg1309, hm⟩ := hm
              refine ⟨.pointer (some ((adr a0).add ((Int.toNat (r1239[(Int.toNat v1251)]!)) * El.m CueD))), fun w1305 hX1306 => od_plain rfl (by have hS1307 := hS1296.ext hX1306; have hB1308 := hB1295.trans (Ext.stp hX1306 hS1296.base); exact is_ext (q_index (i := r1239[(Int.toNat v1251)]!) SL26 rfl rfl (Tv.o (hp0.bel hB1308)) (Tv.g (hp0.bel hB1308) hg1309))), ?_⟩
              refine ⟨.pointer (some (((adr a0).add ((Int.toNat (r1239[(Int.toNat v1251)]!)) * El.m CueD)).add 1)), fun w1310 hX1311 => od_plain rfl (by have hS1312 := hS1296.ext hX1311; have hB1313 := hB1295.trans (Ext.stp hX1311 hS1296.base); exact is_ext (g_fieldAddr (q := (adr a0).add ((Int.toNat (r1239[(Int.toNat v1251)]!)) * El.m CueD)) FL39_1 ON24 rfl)), ?_⟩
              refine ⟨.slice ((y0[(Int.toNat (r1239[(Int.toNat v1251)]!))]!).2.1.1) ((y0[(Int.toNat (r1239[(Int.toNat v1251)]!))]!).2.1.2.2.length) ((y0[(Int.toNat (r1239[(Int.toNat v1251)]!))]!).2.1.2.1), fun w1314 hX1315 => od_plain rfl (by have hS1316 := hS1296.ext hX1315; have hB1317 := hB1295.trans (Ext.stp hX1315 hS1296.base); exact is_ext (q_loadF (i := r1239[(Int.toNat v1251)]!) (j := 1) (v := .slice ((y0[(Int.toNat (r1239[(Int.toNat v1251)]!))]!).2.1.1) ((y0[(Int.toNat (r1239[(Int.toNat v1251)]!))]!).2.1.2.2.length) ((y0[(Int.toNat (r1239[(Int.toNat v1251)]!))]!).2.1.2.1)) ON24 (Tv.o (hp0.bel hB1317)) (Tv.g (hp0.bel hB1317) hg1309) rfl rfl)), ?_⟩
              refine ⟨.int .i64 (x1247[(Int.toNat v1277)]!), fun w1318 hX1319 => od_plain rfl (by have hS1320 := hS1296.ext hX1319; have hB1321 := hB1295.trans (Ext.stp hX1319 hS1296.base); exact is_ext (g_move (v := .int .i64 (x1247[(Int.toNat v1277)]!)) rfl)), ?_⟩
              obtain ⟨r1326, hk1327, hm⟩ := hm
              refine ⟨.int .i64 r1326, fun w1322 hX1323 => od_plain rfl (by have hS1324 := hS1296.ext hX1323; have hB1325 := hB1295.trans (Ext.stp hX1323 hS1296.base); exact (g_call (vs := #[.slice ((y0[(Int.toNat (r1239[(Int.toNat v1251)]!))]!).2.1.1) ((y0[(Int.toNat (r1239[(Int.toNat v1251)]!))]!).2.1.2.2.length) ((y0[(Int.toNat (r1239[(Int.toNat v1251)]!))]!).2.1.2.1), .int .i64 (x1247[(Int.toNat v1277)]!)]) CF69 (args2 rfl rfl) ((m_impl_indexOf_fn ((Tv.rowC0 (hp0.bel hB1325) hg1309).up hS1324) (x1247[(Int.toNat v1277)]!) hk1327).mono fun _ _ ⟨_, h1, h2, h3⟩ => ⟨by rw [h2, h1], h3⟩))), ?_⟩
              refine ⟨.bool (decide (r1326 ≥ 0)), fun w1328 hX1329 => od_plain rfl (by have hS1330 := hS1296.ext hX1329; have hB1331 := hB1295.trans (Ext.stp hX1329 hS1296.base); exact is_ext (g_geq (a := r1326) (b := 0) rfl rfl)), ?_⟩
              refine ⟨.bool (decide (r1326 ≥ 0)), fun w1332 hX1333 => od_plain rfl (by have hS1334 := hS1296.ext hX1333; have hB1335 := hB1295.trans (Ext.stp hX1333 hS1296.base); exact is_ext (g_move (v := .bool (decide (r1326 ≥ 0))) rfl)), ?_⟩
              refine ⟨if (decide (r1326 ≥ 0)) = false then .slice a0 n0 c0 else undef, fun w1336 hX1337 => od_guard (c := (decide (r1326 ≥ 0)) = false) (val := .slice a0 n0 c0) (b := ((decide (r1326 ≥ 0)) == false)) (gv_some rfl rfl rfl) beq_iff_eq (fun hc1340 => ?_), ?_⟩
              · have hS1338 := hS1296.ext hX1337
                have hB1339 := hB1295.trans (Ext.stp hX1337 hS1296.base)
                have hq5 : ¬ (r1326 ≥ 0) := (i_neg decide_eq_true_iff hc1340)
                exact is_ext (g_move (v := .slice a0 n0 c0) rfl)
              refine ⟨if (decide (r1326 ≥ 0)) = false then .int .i64 (r1239[(Int.toNat v1251)]!) else undef, fun w1341 hX1342 => od_guard (c := (decide (r1326 ≥ 0)) = false) (val := .int .i64 (r1239[(Int.toNat v1251)]!)) (b := ((decide (r1326 ≥ 0)) == false)) (gv_some rfl rfl rfl) beq_iff_eq (fun hc1345 => ?_), ?_⟩
              · have hS1343 := hS1296.ext hX1342
                have hB1344 := hB1295.trans (Ext.stp hX1342 hS1296.base)
                have hq5 : ¬ (r1326 ≥ 0) := (i_neg decide_eq_true_iff hc1345)
                exact is_ext (g_move (v := .int .i64 (r1239[(Int.toNat v1251)]!)) rfl)
              obtain ⟨hg1351, hm⟩ := hm
              refine ⟨if (decide (r1326 ≥ 0)) = false then .pointer (some ((adr a0).add ((Int.toNat (r1239[(Int.toNat v1251)]!)) * El.m CueD))) else undef, fun w1346 hX1347 => od_guard (c := (decide (r1326 ≥ 0)) = false) (val := .pointer (some ((adr a0).add ((Int.toNat (r1239[(Int.toNat v1251)]!)) * El.m CueD)))) (b := ((decide (r1326 ≥ 0)) == false)) (gv_some rfl rfl rfl) beq_iff_eq (fun hc1350 => ?_), ?_⟩
              · have hS1348 := hS1296.ext hX1347
                have hB1349 := hB1295.trans (Ext.stp hX1347 hS1296.base)
                have hq5 : ¬ (r1326 ≥ 0) := (i_neg decide_eq_true_iff hc1350)
                exact is_ext (q_index (i := r1239[(Int.toNat v1251)]!) SL26 (if_pos hc1350) (if_pos hc1350) (Tv.o (hp0.bel hB1349)) (Tv.g (hp0.bel hB1349) (hg1351 hq5)))
              refine ⟨if (decide (r1326 ≥ 0)) = false then .agg #[.int .i64 (p0[(Int.toNat (r1239[(Int.toNat v1251)]!))]!.1), .slice ((y0[(Int.toNat (r1239[(Int.toNat v1251)]!))]!).2.1.1) ((y0[(Int.toNat (r1239[(Int.toNat v1251)]!))]!).2.1.2.2.length) ((y0[(Int.toNat (r1239[(Int.toNat v1251)]!))]!).2.1.2.1), .slice ((y0[(Int.toNat (r1239[(Int.toNat v1251)]!))]!).2.2.1) ((y0[(Int.toNat (r1239[(Int.toNat v1251)]!))]!).2.2.2.2.length) ((y0[(Int.toNat (r1239[(Int.toNat v1251)]!))]!).2.2.2.1)] else undef, fun w1352 hX1353 => od_guard (c := (decide (r1326 ≥ 0)) = false) (val := .agg #[.int .i64 (p0[(Int.toNat (r1239[(Int.toNat v1251)]!))]!.1), .slice ((y0[(Int.toNat (r1239[(Int.toNat v1251)]!))]!).2.1.1) ((y0[(Int.toNat (r1239[(Int.toNat v1251)]!))]!).2.1.2.2.length) ((y0[(Int.toNat (r1239[(Int.toNat v1251)]!))]!).2.1.2.1), .slice ((y0[(Int.toNat (r1239[(Int.toNat v1251)]!))]!).2.2.1) ((y0[(Int.toNat (r1239[(Int.toNat v1251)]!))]!).2.2.2.2.length) ((y0[(Int.toNat (r1239[(Int.toNat v1251)]!))]!).2.2.2.1)]) (b := ((decide (r1326 ≥ 0)) == false)) (gv_some rfl rfl rfl) beq_iff_eq (fun hc1356 => ?_), ?_⟩
              · have hS1354 := hS1296.ext hX1353
                have hB1355 := hB1295.trans (Ext.stp hX1353 hS1296.base)
                have hq5 : ¬ (r1326 ≥ 0) := (i_neg decide_eq_true_iff hc1356)
                exact is_ext (q_loadS (i := r1239[(Int.toNat v1251)]!) (cs := [.int .i64 (p0[(Int.toNat (r1239[(Int.toNat v1251)]!))]!.1), .slice ((y0[(Int.toNat (r1239[(Int.toNat v1251)]!))]!).2.1.1) ((y0[(Int.toNat (r1239[(Int.toNat v1251)]!))]!).2.1.2.2.length) ((y0[(Int.toNat (r1239[(Int.toNat v1251)]!))]!).2.1.2.1), .slice ((y0[(Int.toNat (r1239[(Int.toNat v1251)]!))]!).2.2.1) ((y0[(Int.toNat (r1239[(Int.toNat v1251)]!))]!).2.2.2.2.length) ((y0[(Int.toNat (r1239[(Int.toNat v1251)]!))]!).2.2.2.1)]) AG39 (Tv.o (hp0.bel hB1355)) (Tv.g (hp0.bel hB1355) (hg1351 hq5)) (by rw [← Tv.ticks (hp0.bel hB1355) (hg1351 hq5)]; rfl) (if_pos hc1356))
              refine ⟨if (decide (r1326 ≥ 0)) = false then .slice a0 n0 c0 else undef, fun w1357 hX1358 => od_guard (c := (decide (r1326 ≥ 0)) = false) (val := .slice a0 n0 c0) (b := ((decide (r1326 ≥ 0)) == false)) (gv_some rfl rfl rfl) beq_iff_eq (fun hc1361 => ?_), ?_⟩
              · have hS1359 := hS1296.ext hX1358
                have hB1360 := hB1295.trans (Ext.stp hX1358 hS1296.base)
                have hq5 : ¬ (r1326 ≥ 0) := (i_neg decide_eq_true_iff hc1361)
                exact is_ext (g_move (v := .slice a0 n0 c0) rfl)
              refine ⟨if (decide (r1326 ≥ 0)) = false then .int .i64 (x1247[(Int.toNat v1277)]!) else undef, fun w1362 hX1363 => od_guard (c := (decide (r1326 ≥ 0)) = false) (val := .int .i64 (x1247[(Int.toNat v1277)]!)) (b := ((decide (r1326 ≥ 0)) == false)) (gv_some rfl rfl rfl) beq_iff_eq (fun hc1366 => ?_), ?_⟩
              · have hS1364 := hS1296.ext hX1363
                have hB1365 := hB1295.trans (Ext.stp hX1363 hS1296.base)
                have hq5 : ¬ (r1326 ≥ 0) := (i_neg decide_eq_true_iff hc1366)
                exact is_ext (g_move (v := .int .i64 (x1247[(Int.toNat v1277)]!)) rfl)
              obtain ⟨hg1372, hm⟩ := hm
              refine ⟨if (decide (r1326 ≥ 0)) = false then .pointer (some ((adr a0).add ((Int.toNat (x1247[(Int.toNat v1277)]!)) * El.m CueD))) else undef, fun w1367 hX1368 => od_guard (c := (decide (r1326 ≥ 0)) = false) (val := .pointer (some ((adr a0).add ((Int.toNat (x1247[(Int.toNat v1277)]!)) * El.m CueD)))) (b := ((decide (r1326 ≥ 0)) == false)) (gv_some rfl rfl rfl) beq_iff_eq (fun hc1371 => ?_), ?_⟩
              · have hS1369 := hS1296.ext hX1368
                have hB1370 := hB1295.trans (Ext.stp hX1368 hS1296.base)
                have hq5 : ¬ (r1326 ≥ 0) := (i_neg decide_eq_true_iff hc1371)
                exact is_ext (q_index (i := x1247[(Int.toNat v1277)]!) SL26 (if_pos hc1371) (if_pos hc1371) (Tv.o (hp0.bel hB1370)) (Tv.g (hp0.bel hB1370) (hg1372 hq5)))
              refine ⟨if (decide (r1326 ≥ 0)) = false then .agg #[.int .i64 (p0[(Int.toNat (x1247[(Int.toNat v1277)]!))]!.1), .slice ((y0[(Int.toNat (x1247[(Int.toNat v1277)]!))]!).2.1.1) ((y0[(Int.toNat (x1247[(Int.toNat v1277)]!))]!).2.1.2.2.length) ((y0[(Int.toNat (x1247[(Int.toNat v1277)]!))]!).2.1.2.1), .slice ((y0[(Int.toNat (x1247[(Int.toNat v1277)]!))]!).2.2.1) ((y0[(Int.toNat (x1247[(Int.toNat v1277)]!))]!).2.2.2.2.length) ((y0[(Int.toNat (x1247[(Int.toNat v1277)]!))]!).2.2.2.1)] else undef, fun w1373 hX1374 => od_guard (c := (decide (r1326 ≥ 0)) = false) (val := .agg #[.int .i64 (p0[(Int.toNat (x1247[(Int.toNat v1277)]!))]!.1), .slice ((y0[(Int.toNat (x1247[(Int.toNat v1277)]!))]!).2.1.1) ((y0[(Int.toNat (x1247[(Int.toNat v1277)]!))]!).2.1.2.2.length) ((y0[(Int.toNat (x1247[(Int.toNat v1277)]!))]!).2.1.2.1), .slice ((y0[(Int.toNat (x1247[(Int.toNat v1277)]!))]!).2.2.1) ((y0[(Int.toNat (x1247[(Int.toNat v1277)]!))]!).2.2.2.2.length) ((y0[(Int.toNat (x1247[(Int.toNat v1277)]!))]!).2.2.2.1)]) (b := ((decide (r1326 ≥ 0)) == false)) (gv_some rfl rfl rfl) beq_iff_eq (fun hc1377 => ?_), ?_⟩
              · have hS1375 := hS1296.ext hX1374
                have hB1376 := hB1295.trans (Ext.stp hX1374 hS1296.base)
                have hq5 : ¬ (r1326 ≥ 0) := (i_neg decide_eq_true_iff hc1377)
                exact is_ext (q_loadS (i := x1247[(Int.toNat v1277)]!) (cs := [.int .i64 (p0[(Int.toNat (x1247[(Int.toNat v1277)]!))]!.1), .slice ((y0[(Int.toNat (x1247[(Int.toNat v1277)]!))]!).2.1.1) ((y0[(Int.toNat (x1247[(Int.toNat v1277)]!))]!).2.1.2.2.length) ((y0[(Int.toNat (x1247[(Int.toNat v1277)]!))]!).2.1.2.1), .slice ((y0[(Int.toNat (x1247[(Int.toNat v1277)]!))]!).2.2.1) ((y0[(Int.toNat (x1247[(Int.toNat v1277)]!))]!).2.2.2.2.length) ((y0[(Int.toNat (x1247[(Int.toNat v1277)]!))]!).2.2.2.1)]) AG39 (Tv.o (hp0.bel hB1376)) (Tv.g (hp0.bel hB1376) (hg1372 hq5)) (by rw [← Tv.ticks (hp0.bel hB1376) (hg1372 hq5)]; rfl) (if_pos hc1377))
              obtain ⟨r1383, hk1384, hm⟩ := hm
              refine ⟨if (decide (r1326 ≥ 0)) = false then .bool r1383 else undef, fun w1378 hX1379 => od_guard (c := (decide (r1326 ≥ 0)) = false) (val := .bool r1383) (b := ((decide (r1326 ≥ 0)) == false)) (gv_some rfl rfl rfl) beq_iff_eq (fun hc1382 => ?_), ?_⟩
              · have hS1380 := hS1296.ext hX1379
                have hB1381 := hB1295.trans (Ext.stp hX1379 hS1296.base)
                have hq5 : ¬ (r1326 ≥ 0) := (i_neg decide_eq_true_iff hc1382)
                exact (g_call (vs := #[.agg #[.int .i64 (p0[(Int.toNat (r1239[(Int.toNat v1251)]!))]!.1), .slice ((y0[(Int.toNat (r1239[(Int.toNat v1251)]!))]!).2.1.1) ((y0[(Int.toNat (r1239[(Int.toNat v1251)]!))]!).2.1.2.2.length) ((y0[(Int.toNat (r1239[(Int.toNat v1251)]!))]!).2.1.2.1), .slice ((y0[(Int.toNat (r1239[(Int.toNat v1251)]!))]!).2.2.1) ((y0[(Int.toNat (r1239[(Int.toNat v1251)]!))]!).2.2.2.2.length) ((y0[(Int.toNat (r1239[(Int.toNat v1251)]!))]!).2.2.2.1)], .agg #[.int .i64 (p0[(Int.toNat (x1247[(Int.toNat v1277)]!))]!.1), .slice ((y0[(Int.toNat (x1247[(Int.toNat v1277)]!))]!).2.1.1) ((y0[(Int.toNat (x1247[(Int.toNat v1277)]!))]!).2.1.2.2.length) ((y0[(Int.toNat (x1247[(Int.toNat v1277)]!))]!).2.1.2.1), .slice ((y0[(Int.toNat (x1247[(Int.toNat v1277)]!))]!).2.2.1) ((y0[(Int.toNat (x1247[(Int.toNat v1277)]!))]!).2.2.2.2.length) ((y0[(Int.toNat (x1247[(Int.toNat v1277)]!))]!).2.2.2.1)]]) CF70 (args2 (if_pos hc1382) (if_pos hc1382)) ((m_impl_share_fn (p0[(Int.toNat (r1239[(Int.toNat v1251)]!))]!) ((Tv.rowC0 (hp0.bel hB1381) (hg1351 hq5)).up hS1380) ((Tv.rowC1 (hp0.bel hB1381) (hg1351 hq5)).up hS1380) (p0[(Int.toNat (x1247[(Int.toNat v1277)]!))]!) ((Tv.rowC0 (hp0.bel hB1381) (hg1372 hq5)).up hS1380) ((Tv.rowC1 (hp0.bel hB1381) (hg1372 hq5)).up hS1380) (hk1384 hq5)).mono fun _ _ ⟨_, h1, h2, h3⟩ => ⟨by rw [h2, h1], h3⟩))
              refine ⟨.bool ((decide (r1326 ≥ 0)) || r1383), fun w1385 hX1386 => od_plain rfl (by have hS1387 := hS1296.ext hX1386; have hB1388 := hB1295.trans (Ext.stp hX1386 hS1296.base); exact is_ext (g_pick_or (b := (decide (r1326 ≥ 0))) (q := r1383) rfl rfl)), ?_⟩
              intro w1389 hX1390
              have hB1391 := hB1295.trans (Ext.stp hX1390 hS1296.base)
              have hS1392 := hS1296.ext hX1390
              refine hK1292 _ _ ?_
              refine w_condI (p := ((r1326 ≥ 0) ∨ (r1383 = true))) (b := ((decide (r1326 ≥ 0)) || r1383)) rfl (i_or decide_eq_true_iff Iff.rfl) (fun h1393 => ?_) (fun h1393 => ?_)
              · replace hm := hm.1 h1393
                refine w_draw (X := Ext) (Y := Ext) [0, 0, 0, 0, 0, 0, 0, 0, 0, 0, 0, 0, 0, 0, 0, 0, 0, 0, 1] MIX (by decide +kernel) rfl Ext.refl (fun _ _ _ => Ext.trans) (fun _ _ _ => Chg.trans) (fun _ _ h => Ext.chg h _) (fun w1394 hE1395 => ?_)
                have hB1396 := hB1391.trans (Ext.stp hE1395 hS1392.base)
                have hS1397 := hS1392.ext hE1395
                refine ⟨.slice a17 (Int.toNat (p0.length : Int)) (Int.toNat (p0.length : Int)), fun w1398 hX1399 => od_plain rfl (by have hS1400 := hS1397.ext hX1399; have hB1401 := hB1396.trans (Ext.stp hX1399 hS1397.base); exact is_ext (g_move (v := .slice a17 (Int.toNat (p0.length : Int)) (Int.toNat (p0.length : Int))) rfl)), ?_⟩
                refine ⟨.int .i64 (r1239[(Int.toNat v1251)]!), fun w1402 hX1403 => od_plain rfl (by have hS1404 := hS1397.ext hX1403; have hB1405 := hB1396.trans (Ext.stp hX1403 hS1397.base); exact is_ext (g_move (v := .int .i64 (r1239[(Int.toNat v1251)]!)) rfl)), ?_⟩
                refine ⟨.slice a17 (Int.toNat (p0.length : Int)) (Int.toNat (p0.length : Int)), fun w1406 hX1407 => od_plain rfl (by have hS1408 := hS1397.ext hX1407; have hB1409 := hB1396.trans (Ext.stp hX1407 hS1397.base); exact is_ext (g_move (v := .slice a17 (Int.toNat (p0.length : Int)) (Int.toNat (p0.length : Int))) rfl)), ?_⟩
                refine ⟨.int .i64 (r1239[(Int.toNat v1251)]!), fun w1410 hX1411 => od_plain rfl (by have hS1412 := hS1397.ext hX1411; have hB1413 := hB1396.trans (Ext.stp hX1411 hS1397.base); exact is_ext (g_move (v := .int .i64 (r1239[(Int.toNat v1251)]!)) rfl)), ?_⟩
                obtain ⟨hg1418, hm⟩ := hm
                refine ⟨.pointer (some ((adr a17).add ((Int.toNat (r1239[(Int.toNat v1251)]!)) * El.m Int))), fun w1414 hX1415 => od_plain rfl (by have hS1416 := hS1397.ext hX1415; have hB1417 := hB1396.trans (Ext.stp hX1415 hS1397.base); exact is_ext (q_index (i := r1239[(Int.toNat v1251)]!) SL24 rfl rfl (oS.vw hS1416.g0) hg1418)), ?_⟩
                refine ⟨.int .i64 (x1276[(Int.toNat (r1239[(Int.toNat v1251)]!))]!), fun w1419 hX1420 => od_plain rfl (by have hS1421 := hS1397.ext hX1420; have hB1422 := hB1396.trans (Ext.stp hX1420 hS1397.base); exact is_ext (q_load (i := r1239[(Int.toNat v1251)]!) (v := .int .i64 (x1276[(Int.toNat (r1239[(Int.toNat v1251)]!))]!)) ON3 (oS.vw hS1421.g0) hg1418 rfl rfl)), ?_⟩
                refine ⟨.slice a17 (Int.toNat (p0.length : Int)) (Int.toNat (p0.length : Int)), fun w1423 hX1424 => od_plain rfl (by have hS1425 := hS1397.ext hX1424; have hB1426 := hB1396.trans (Ext.stp hX1424 hS1397.base); exact is_ext (g_move (v := .slice a17 (Int.toNat (p0.length : Int)) (Int.toNat (p0.length : Int))) rfl)), ?_⟩
                refine ⟨.int .i64 (x1247[(Int.toNat v1277)]!), fun w1427 hX1428 => od_plain rfl (by have hS1429 := hS1397.ext hX1428; have hB1430 := hB1396.trans (Ext.stp hX1428 hS1397.base); exact is_ext (g_move (v := .int .i64 (x1247[(Int.toNat v1277)]!)) rfl)), ?_⟩
                obtain ⟨hg1435, hm⟩ := hm
                refine ⟨.pointer (some ((adr a17).add ((Int.toNat (x1247[(Int.toNat v1277)]!)) * El.m Int))), fun w1431 hX1432 => od_plain rfl (by have hS1433 := hS1397.ext hX1432; have hB1434 := hB1396.trans (Ext.stp hX1432 hS1397.base); exact is_ext (q_index (i := x1247[(Int.toNat v1277)]!) SL24 rfl rfl (oS.vw hS1433.g0) hg1435)), ?_⟩
                refine ⟨.int .i64 (x1276[(Int.toNat (x1247[(Int.toNat v1277)]!))]!), fun w1436 hX1437 => od_plain rfl (by have hS1438 := hS1397.ext hX1437; have hB1439 := hB1396.trans (Ext.stp hX1437 hS1397.base); exact is_ext (q_load (i := x1247[(Int.toNat v1277)]!) (v := .int .i64 (x1276[(Int.toNat (x1247[(Int.toNat v1277)]!))]!)) ON3 (oS.vw hS1438.g0) hg1435 rfl rfl)), ?_⟩
                refine ⟨.slice a0 n0 c0, fun w1440 hX1441 => od_plain rfl (by have hS1442 := hS1397.ext hX1441; have hB1443 := hB1396.trans (Ext.stp hX1441 hS1397.base); exact is_ext (g_move (v := .slice a0 n0 c0) rfl)), ?_⟩
                refine ⟨.int .i64 (x1247[(Int.toNat v1277)]!), fun w1444 hX1445 => od_plain rfl (by have hS1446 := hS1397.ext hX1445; have hB1447 := hB1396.trans (Ext.stp hX1445 hS1397.base); exact is_ext (g_move (v := .int .i64 (x1247[(Int.toNat v1277)]!)) rfl)), ?_⟩
                obtain ⟨hg1452, hm⟩ := hm
                refine ⟨.pointer (some ((adr a0).add ((Int.toNat (x1247[(Int.toNat v1277)]!)) * El.m CueD))), fun w1448 hX1449 => od_plain rfl (by have hS1450 := hS1397.ext hX1449; have hB1451 := hB1396.trans (Ext.stp hX1449 hS1397.base); exact is_ext (q_index (i := x1247[(Int.toNat v1277)]!) SL26 rfl rfl (Tv.o (hp0.bel hB1451)) (Tv.g (hp0.bel hB1451) hg1452))), ?_⟩
                refine ⟨.pointer (some (((adr a0).add ((Int.toNat (x1247[(Int.toNat v1277)]!)) * El.m CueD)).add 0)), fun w1453 hX1454 => od_plain rfl (by have hS1455 := hS1397.ext hX1454; have hB1456 := hB1396.trans (Ext.stp hX1454 hS1397.base); exact is_ext (g_fieldAddr (q := (adr a0).add ((Int.toNat (x1247[(Int.toNat v1277)]!)) * El.m CueD)) FL39_0 ON3 rfl)), ?_⟩
                refine ⟨.int .i64 (p0[(Int.toNat (x1247[(Int.toNat v1277)]!))]!.1), fun w1457 hX1458 => od_plain rfl (by have hS1459 := hS1397.ext hX1458; have hB1460 := hB1396.trans (Ext.stp hX1458 hS1397.base); exact is_ext (q_loadF (i := x1247[(Int.toNat v1277)]!) (j := 0) (v := .int .i64 (p0[(Int.toNat (x1247[(Int.toNat v1277)]!))]!.1)) ON3 (Tv.o (hp0.bel hB1460)) (Tv.g (hp0.bel hB1460) hg1452) (by rw [← Tv.ticks (hp0.bel hB1460) hg1452]; rfl) rfl)), ?_⟩
                obtain ⟨hg1465, hm⟩ := hm
                refine ⟨.int .i64 (x1276[(Int.toNat (x1247[(Int.toNat v1277)]!))]! + p0[(Int.toNat (x1247[(Int.toNat v1277)]!))]!.1), fun w1461 hX1462 => od_plain rfl (by have hS1463 := hS1397.ext hX1462; have hB1464 := hB1396.trans (Ext.stp hX1462 hS1397.base); exact is_ext (g_add (a := x1276[(Int.toNat (x1247[(Int.toNat v1277)]!))]!) (b := p0[(Int.toNat (x1247[(Int.toNat v1277)]!))]!.1) rfl rfl hg1465)), ?_⟩
                refine ⟨.int .i64 (max (x1276[(Int.toNat (r1239[(Int.toNat v1251)]!))]!) (x1276[(Int.toNat (x1247[(Int.toNat v1277)]!))]! + p0[(Int.toNat (x1247[(Int.toNat v1277)]!))]!.1)), fun w1466 hX1467 => od_plain rfl (by have hS1468 := hS1397.ext hX1467; have hB1469 := hB1396.trans (Ext.stp hX1467 hS1397.base); exact is_ext (g_max (a := x1276[(Int.toNat (r1239[(Int.toNat v1251)]!))]!) (b := (x1276[(Int.toNat (x1247[(Int.toNat v1277)]!))]! + p0[(Int.toNat (x1247[(Int.toNat v1277)]!))]!.1)) rfl rfl)), ?_⟩
                obtain ⟨hg1474, hm⟩ := hm
                refine ⟨.pointer (some ((adr a17).add ((Int.toNat (r1239[(Int.toNat v1251)]!)) * El.m Int))), fun w1470 hX1471 => od_plain rfl (by have hS1472 := hS1397.ext hX1471; have hB1473 := hB1396.trans (Ext.stp hX1471 hS1397.base); exact is_ext (q_index (i := r1239[(Int.toNat v1251)]!) SL24 rfl rfl (oS.vw hS1472.g0) hg1474)), ?_⟩
                intro w1475 hX1476
                have hB1477 := hB1396.trans (Ext.stp hX1476 hS1397.base)
                have hS1478 := hS1397.ext hX1476
                refine ⟨_, od_plain rfl (q_store (i := r1239[(Int.toNat v1251)]!) (v := ((max (x1276[(Int.toNat (r1239[(Int.toNat v1251)]!))]!) (x1276[(Int.toNat (x1247[(Int.toNat v1277)]!))]! + p0[(Int.toNat (x1247[(Int.toNat v1277)]!))]!.1)) : Int)) hS1478 ON3.sz hg1474 rfl rfl rfl), ?_⟩
                rintro _ w1479 ⟨rfl, hS1480, hb1481⟩
                have hB1482 := hB1477.trans hb1481
                intro w1483 hX1484
                have hB1485 := hB1482.trans (Ext.stp hX1484 hS1480.base)
                have hS1486 := hS1480.ext hX1484
                refine hK1289 _ _ ?_
                refine w_region ?_
                obtain ⟨hg1487, hm⟩ := hm
                refine wl_val (g_add (a := v1277) (b := 1) rfl rfl hg1487) rfl ?_
                refine wl_val (g_move (v := .int .i64 (v1277 + 1)) rfl) rfl ?_
                refine wl_nil ?_
                exact ⟨((x1276.set (Int.toNat (r1239[(Int.toNat v1251)]!)) (max (x1276[(Int.toNat (r1239[(Int.toNat v1251)]!))]!) (x1276[(Int.toNat (x1247[(Int.toNat v1277)]!))]! + p0[(Int.toNat (x1247[(Int.toNat v1277)]!))]!.1))), (v1277 + 1)), hm.2, ⟨rfl, rfl, rfl, rfl, rfl, rfl, rfl, rfl, rfl, rfl, trivial⟩, ⟨hm.1, hB1485, hS1486⟩⟩
              · replace hm := hm.2 h1393
                refine w_skip ?_
                refine hK1289 _ _ ?_
                refine w_region ?_
                obtain ⟨hg1488, hm⟩ := hm
                refine wl_val (g_add (a := v1277) (b := 1) rfl rfl hg1488) rfl ?_
                refine wl_val (g_move (v := .int .i64 (v1277 + 1)) rfl) rfl ?_
                refine wl_nil ?_
                exact ⟨(x1276, (v1277 + 1)), hm.2, ⟨rfl, rfl, rfl, rfl, rfl, rfl, rfl, rfl, rfl, rfl, trivial⟩, ⟨hm.1, hB1391, hS1392⟩⟩
            · replace hm := hm.2 h1288
              refine w_exit ?_
              exact ⟨(x1276), ⟨rfl, rfl, rfl, rfl, rfl, rfl, rfl, trivial⟩, ⟨hm, hB1283, hS1284⟩⟩
          · rintro x1273 b_ w1489 ⟨hm, hB1490, hS1491⟩
            show Wp _ _ _ _ (upds b_ [(0, .slice a0 n0 c0), (3, .slice a17 (Int.toNat (p0.length : Int)) (Int.toNat (p0.length : Int))), (4, .slice a1248 n1249 c1250), (6, .int .i64 (r1239[(Int.toNat v1251)]!)), (17, .slice a1240 n1241 c1242), (18, .int .i64 (r1239.length : Int)), (19, .int .i64 v1251)]) w1489
            refine w_region ?_
            refine wl_val (g_move (v := .slice a1248 n1249 c1250) rfl) rfl ?_
            refine wl_val (g_move (v := .int .i64 (r1239[(Int.toNat v1251)]!)) rfl) rfl ?_
            refine wl_step rfl (q_lit1 (y := (r1239[(Int.toNat v1251)]! : Int)) SL24 rfl rfl (by decide) hS1491) ?_
            rintro _ w1492 ⟨a1493, rfl, hS1495, hE1494⟩
            have hB1497 := hB1490.trans (Ext.stp hE1494 hS1491.base)
            have hS1503 := hS1495.f2
            obtain ⟨hg1504, hm⟩ := hm
            refine wl_step rfl (q_append SL24 rfl rfl hS1503 (oS.vw hS1503.g1) hg1504 (by decide)) ?_
            rintro _ w1498 ⟨a1499, c1500, rfl, hS1502, hb1501⟩
            have hB1505 := hB1497.trans hb1501
            refine wl_val (g_assign (v := .slice a1499 (n1249 + 1) c1500) rfl) rfl ?_
            refine wl_nil ?_
            have hS1506 := hS1502.f1
            have hS1507 := hS1506.tail
            have hS1508 := hS1507.f2
            have hS1509 := hS1508.f1
            have hS1510 := hS1509.f2
            exact ⟨(x1273, (x1247 ++ ([r1239[(Int.toNat v1251)]!])), a1499, (n1249 + 1), c1500), ⟨rfl, rfl, rfl, rfl, rfl, rfl, trivial⟩, ⟨hm, hB1505, hS1510⟩⟩
        · rintro ⟨x1265, x1266, a1267, n1268, c1269⟩ b_ w1511 ⟨hm, hB1512, hS1513⟩
          show Wp _ _ _ _ (upds b_ [(0, .slice a0 n0 c0), (3, .slice a17 (Int.toNat (p0.length : Int)) (Int.toNat (p0.length : Int))), (4, .slice a1267 n1268 c1269), (17, .slice a1240 n1241 c1242), (18, .int .i64 (r1239.length : Int)), (19, .int .i64 v1251)]) w1511
          refine w_region ?_
          obtain ⟨hg1514, hm⟩ := hm
          refine wl_val (g_add (a := v1251) (b := 1) rfl rfl hg1514) rfl ?_
          refine wl_val (g_move (v := .int .i64 (v1251 + 1)) rfl) rfl ?_
          refine wl_nil ?_
          exact ⟨(x1265, x1266, a1267, n1268, c1269, (v1251 + 1)), hm.2, ⟨rfl, rfl, rfl, rfl, rfl, rfl, trivial⟩, ⟨hm.1, hB1512, hS1513⟩⟩
      · replace hm := hm.2 h1264
        refine w_exit ?_
        have hS1515 := hS1260.f1
        have hS1516 := hS1515.tail
        have hS1517 := hS1516.f1
        have hS1518 := hS1517.tail
        exact ⟨(x1246), ⟨rfl, trivial⟩, ⟨hm, hB1259, hS1518⟩⟩
    · rintro x1233 b_ w1519 ⟨hm, hB1520, hS1521⟩
      show Wp _ _ _ _ (upds b_ [(3, .slice a17 (Int.toNat (p0.length : Int)) (Int.toNat (p0.length : Int)))]) w1519
      refine w_seq fun K1522 hK1522 => ?_
      refine w_region ?_
      refine wl_val (g_move (v := .slice a17 (Int.toNat (p0.length : Int)) (Int.toNat (p0.length : Int))) rfl) rfl ?_
      refine wl_val (g_assign (v := .slice a17 (Int.toNat (p0.length : Int)) (Int.toNat (p0.length : Int))) rfl) rfl ?_
      refine wl_nil ?_
      refine hK1522 _ _ ?_
      refine w_ret ?_
      repeat first | with_reducible refine q_then ?_ | with_reducible refine q_block ?_
      exact ret1 rfl (by decide) ⟨_, _, _, _, hm, rfl, toExt hB1520, hS1521⟩

theorem m_spec_LatestStarts_fn {w : World} {a0 : Option Addr} {n0 c0 : Nat} {y0 : List CueD} {p0 : List CueC} {Q : (List Int) → Prop} (hp0 : Tv w.heap.size w a0 n0 c0 y0 p0) (hm : m_spec_LatestStarts p0 Q) :
    Fn Try.prog 56 #[.slice a0 n0 c0] w (fun v w' => ∃ (r0 : List Int) (a0 : Option Addr) (n0 c0 : Nat), Q r0 ∧ v = .slice a0 n0 c0 ∧ Ext w w' ∧ Sep w' w.heap.size [oS 3 a0 n0 c0 r0]) := by
  unfold m_spec_LatestStarts at hm
  have hB0 := Below.refl w.heap.size w
  have hS0 : Sep w w.heap.size [] := Sep.nil (Nat.le_refl _)
  refine fn_of_wp Try.func56 rfl (by kernel_rfl) (Nat.le_of_ble_eq_true rfl) ?_
  refine w_seq fun K1 hK1 => ?_
  refine w_region ?_
  refine wl_val (g_assign (v := .slice none 0 0) rfl) rfl ?_
  refine wl_nil ?_
  refine hK1 _ _ ?_
  refine w_seq fun K2 hK2 => ?_
  refine w_region ?_
  refine wl_step rfl (q_lit0 (α := Int) rfl SL24 hS0) ?_
  rintro _ w3 ⟨a4, rfl, hS6, hE5⟩
  have hB8 := hB0.trans (Ext.stp hE5 hS0.base)
  refine wl_val (g_assign (v := .slice a4 0 0) rfl) rfl ?_
  refine wl_nil ?_
  refine hK2 _ _ ?_
  refine w_seq fun K9 hK9 => ?_
  refine w_region ?_
  refine wl_val (g_move (v := .slice a0 n0 c0) rfl) rfl ?_
  refine wl_step rfl (g_call (vs := #[.slice a0 n0 c0]) CF47 (args1 rfl) (m_spec_PlayTime_fn ((hp0.bel hB8).up hS6) hm)) ?_
  rintro _ w10 ⟨r13, hm, rfl, hE11⟩
  have hB14 := hB8.trans (Ext.stp hE11 hS6.base)
  have hS15 := hS6.ext hE11
  refine wl_val (g_assign (v := .int .i64 r13) rfl) rfl ?_
  refine wl_nil ?_
  refine hK9 _ _ ?_
  refine w_seq fun K16 hK16 => ?_
  refine w_seq fun K17 hK17 => ?_
  refine w_region ?_
  refine wl_val (g_move (v := .int .i64 r13) rfl) rfl ?_
  refine wl_val (g_lss (a := r13) (b := 0) rfl rfl) rfl ?_
  refine wl_nil ?_
  refine hK17 _ _ ?_
  refine w_condI (p := r13 < 0) (b := (decide (r13 < 0))) rfl decide_eq_true_iff (fun h18 => ?_) (fun h18 => ?_)
  · replace hm := hm.1 h18
    refine w_seq fun K19 hK19 => ?_
    refine w_region ?_
    refine wl_val (g_move (v := .slice a4 0 0) rfl) rfl ?_
    refine wl_val (g_assign (v := .slice a4 0 0) rfl) rfl ?_
    refine wl_nil ?_
    refine hK19 _ _ ?_
    refine w_ret ?_
    repeat first | with_reducible refine q_then ?_ | with_reducible refine q_block ?_
    exact ret1 rfl (by decide) ⟨_, _, _, _, hm, rfl, toExt hB14, hS15⟩
  · replace hm := hm.2 h18
    refine w_skip ?_
    refine hK16 _ _ ?_
    refine w_cut (σ := List Int × Option Addr × Nat × Nat) (fun ⟨x87, a88, n89, c90⟩ => [(0, .slice a0 n0 c0), (3, .slice a88 n89 c90)]) (fun ⟨x87, a88, n89, c90⟩ w' => m_spec_LatestStarts_K2 p0 Q x87 ∧ Below w.heap.size w w' ∧ Sep w' w.heap.size [oS 3 a88 n89 c90 (x87 : List Int)]) ?_ ?_
    · refine w_seq fun K92 hK92 => ?_
      refine w_region ?_
      refine wl_val (g_assign (v := .int .i64 0) rfl) rfl ?_
      refine wl_nil ?_
      refine hK92 _ _ ?_
      refine w_block ?_
      obtain ⟨I98, μ99, h0100, hr101⟩ := hm
      refine w_for (σ := List Int × Option Addr × Nat × Nat × Int) (fun ⟨x93, a94, n95, c96, v97⟩ => [(0, .slice a0 n0 c0), (3, .slice a94 n95 c96), (4, .int .i64 r13), (5, .int .i64 v97)]) (fun ⟨x93, a94, n95, c96, v97⟩ w' => I98 x93 v97 ∧ Below w.heap.size w w' ∧ Sep w' w.heap.size [oS 3 a94 n95 c96 (x93 : List Int)]) (fun ⟨x93, a94, n95, c96, v97⟩ => μ99 x93 v97) ([], a4, 0, 0, 0) ⟨rfl, rfl, rfl, rfl, trivial⟩ ⟨h0100, hB14, hS15⟩ ?_
      rintro ⟨x93, a94, n95, c96, v97⟩ b_ w102 ⟨hi_, hB103, hS104⟩
      show Wp _ _ _ _ (upds b_ [(0, .slice a0 n0 c0), (3, .slice a94 n95 c96), (4, .int .i64 r13), (5, .int .i64 v97)]) w102
      have hm := hr101 x93 v97 hi_
      refine w_seq fun K106 hK106 => ?_
      refine w_seq fun K107 hK107 => ?_
      refine w_region ?_
      refine wl_val (g_move (v := .int .i64 v97) rfl) rfl ?_
      refine wl_val (g_move (v := .slice a0 n0 c0) rfl) rfl ?_
      refine wl_val (q_len SL26 rfl (Tv.len (hp0.bel hB103))) rfl ?_
      refine wl_val (g_lss (a := v97) (b := (p0.length : Int)) rfl rfl) rfl ?_
      refine wl_nil ?_
      refine hK107 _ _ ?_
      refine w_condI (p := v97 < (p0.length : Int)) (b := (decide (v97 < (p0.length : Int)))) rfl decide_eq_true_iff (fun h108 => ?_) (fun h108 => ?_)
      · replace hm := hm.1 h108
        refine w_skip ?_
        refine hK106 _ _ ?_
        refine w_seq fun K109 hK109 => ?_
        refine w_block ?_
        refine w_region ?_
        refine wl_val (g_move (v := .slice a94 n95 c96) rfl) rfl ?_
        refine wl_val (g_move (v := .int .i64 r13) rfl) rfl ?_
        refine wl_val (g_move (v := .slice a0 n0 c0) rfl) rfl ?_
        refine wl_val (g_move (v := .int .i64 v97) rfl) rfl ?_
        obtain ⟨hg110, hm⟩ := hm
        refine wl_val (q_index (i := v97) SL26 rfl rfl (Tv.o (hp0.bel hB103)) (Tv.g (hp0.bel hB103) hg110)) rfl ?_
        refine wl_val (g_fieldAddr (q := (adr a0).add ((Int.toNat v97) * El.m CueD)) FL39_0 ON3 rfl) rfl ?_
        refine wl_val (q_loadF (i := v97) (j := 0) (v := .int .i64 (p0[(Int.toNat v97)]!.1)) ON3 (Tv.o (hp0.bel hB103)) (Tv.g (hp0.bel hB103) hg110) (by rw [← Tv.ticks (hp0.bel hB103) hg110]; rfl) rfl) rfl ?_
        obtain ⟨hg111, hm⟩ := hm
        refine wl_val (g_sub (a := r13) (b := p0[(Int.toNat v97)]!.1) rfl rfl hg111) rfl ?_
        refine wl_step rfl (q_lit1 (y := ((r13 - p0[(Int.toNat v97)]!.1) : Int)) SL24 rfl rfl (by decide) hS104) ?_
        rintro _ w112 ⟨a113, rfl, hS115, hE114⟩
        have hB117 := hB103.trans (Ext.stp hE114 hS104.base)
        have hS123 := hS115.f1
        obtain ⟨hg124, hm⟩ := hm
        refine wl_step rfl (q_append SL24 rfl rfl hS123 (oS.vw hS123.g1) hg124 (by decide)) ?_
        rintro _ w118 ⟨a119, c120, rfl, hS122, hb121⟩
        have hB125 := hB117.trans hb121
        refine wl_val (g_assign (v := .slice a119 (n95 + 1) c120) rfl) rfl ?_
        refine wl_nil ?_
        refine hK109 _ _ ?_
        refine w_region ?_
        refine wl_val (g_move (v := .int .i64 v97) rfl) rfl ?_
        obtain ⟨hg126, hm⟩ := hm
        refine wl_val (g_add (a := v97) (b := 1) rfl rfl hg126) rfl ?_
        refine wl_val (g_assign (v := .int .i64 (v97 + 1)) rfl) rfl ?_
        refine wl_nil ?_
        have hS127 := hS122.f1
        have hS128 := hS127.tail
        exact ⟨((x93 ++ ([(r13 - p0[(Int.toNat v97)]!.1)])), a119, (n95 + 1), c120, (v97 + 1)), hm.2, ⟨rfl, rfl, rfl, rfl, trivial⟩, ⟨hm.1, hB125, hS128⟩⟩
      · replace hm := hm.2 h108
        refine w_exit ?_
        exact ⟨(x93, a94, n95, c96), ⟨rfl, rfl, trivial⟩, ⟨hm, hB103, hS104⟩⟩
    · rintro ⟨x87, a88, n89, c90⟩ b_ w129 ⟨hm, hB130, hS131⟩
      show Wp _ _ _ _ (upds b_ [(0, .slice a0 n0 c0), (3, .slice a88 n89 c90)]) w129
      refine w_seq fun K132 hK132 => ?_
      refine w_region ?_
      refine wl_val (g_move (v := .slice a0 n0 c0) rfl) rfl ?_
      refine wl_step rfl (g_call (vs := #[.slice a0 n0 c0]) CF46 (args1 rfl) (m_spec_CueOrder_fn ((hp0.bel hB130).up hS131) hm)) ?_
      rintro _ w133 ⟨r136, a137, n138, c139, hm, rfl, hE134, hN135⟩
      have hS141 := hS131.call1 hE134 hN135
      have hB142 := hB130.trans (Ext.stp hE134 hS131.base)
      refine wl_val (g_assign (v := .slice a137 n138 c139) rfl) rfl ?_
      refine wl_nil ?_
      refine hK132 _ _ ?_
      refine w_cut (σ := List Int) (fun x640 => [(3, .slice a88 n89 c90)]) (fun x640 w' => m_spec_LatestStarts_K1 Q x640 ∧ Below w.heap.size w w' ∧ Sep w' w.heap.size [oS 3 a88 n89 c90 (x640 : List Int)]) ?_ ?_
      · refine w_seq fun K642 hK642 => ?_
        refine w_region ?_
        refine wl_val (g_move (v := .slice a137 n138 c139) rfl) rfl ?_
        refine wl_val (q_len SL24 rfl (Vw.len (oS.vw hS141.g0))) rfl ?_
        obtain ⟨hg643, hm⟩ := hm
        refine wl_val (g_sub (a := (r136.length : Int)) (b := 1) rfl rfl hg643) rfl ?_
        refine wl_val (g_assign (v := .int .i64 ((r136.length : Int) - 1)) rfl) rfl ?_
        refine wl_nil ?_
        refine hK642 _ _ ?_
        refine w_block ?_
        have hS646 := hS141.f1
        obtain ⟨I647, μ648, h0649, hr650⟩ := hm
        refine w_for (σ := List Int × Int) (fun ⟨x644, v645⟩ => [(0, .slice a0 n0 c0), (3, .slice a88 n89 c90), (6, .slice a137 n138 c139), (7, .int .i64 v645)]) (fun ⟨x644, v645⟩ w' => I647 x644 v645 ∧ Below w.heap.size w w' ∧ Sep w' w.heap.size [oS 3 a88 n89 c90 (x644 : List Int), oS 3 a137 n138 c139 (r136 : List Int)]) (fun ⟨x644, v645⟩ => μ648 x644 v645) (x87, ((r136.length : Int) - 1)) ⟨rfl, rfl, rfl, rfl, trivial⟩ ⟨h0649, hB142, hS646⟩ ?_
        rintro ⟨x644, v645⟩ b_ w651 ⟨hi_, hB652, hS653⟩
        show Wp _ _ _ _ (upds b_ [(0, .slice a0 n0 c0), (3, .slice a88 n89 c90), (6, .slice a137 n138 c139), (7, .int .i64 v645)]) w651
        have hm := hr650 x644 v645 hi_
        refine w_seq fun K655 hK655 => ?_
        refine w_seq fun K656 hK656 => ?_
        refine w_region ?_
        refine wl_val (g_move (v := .int .i64 v645) rfl) rfl ?_
        refine wl_val (g_geq (a := v645) (b := 0) rfl rfl) rfl ?_
        refine wl_nil ?_
        refine hK656 _ _ ?_
        refine w_condI (p := v645 ≥ 0) (b := (decide (v645 ≥ 0))) rfl decide_eq_true_iff (fun h657 => ?_) (fun h657 => ?_)
        · replace hm := hm.1 h657
          refine w_skip ?_
          refine hK655 _ _ ?_
          refine w_cut (σ := List Int) (fun x658 => [(0, .slice a0 n0 c0), (3, .slice a88 n89 c90), (6, .slice a137 n138 c139), (7, .int .i64 v645)]) (fun x658 w' => m_spec_LatestStarts_K0 v645 (fun x644' v645' => I647 x644' v645' ∧ μ648 x644' v645' < μ648 x644 v645) x658 ∧ Below w.heap.size w w' ∧ Sep w' w.heap.size [oS 3 a88 n89 c90 (x658 : List Int), oS 3 a137 n138 c139 (r136 : List Int)]) ?_ ?_
          · refine w_block ?_
            refine w_seq fun K660 hK660 => ?_
            refine w_region ?_
            refine wl_val (g_move (v := .slice a137 n138 c139) rfl) rfl ?_
            refine wl_val (g_move (v := .int .i64 v645) rfl) rfl ?_
            obtain ⟨hg661, hm⟩ := hm
            refine wl_val (q_index (i := v645) SL24 rfl rfl (oS.vw hS653.g1) hg661) rfl ?_
            refine wl_val (q_load (i := v645) (v := .int .i64 (r136[(Int.toNat v645)]!)) ON3 (oS.vw hS653.g1) hg661 rfl rfl) rfl ?_
            refine wl_val (g_assign (v := .int .i64 (r136[(Int.toNat v645)]!)) rfl) rfl ?_
            refine wl_nil ?_
            refine hK660 _ _ ?_
            refine w_seq fun K662 hK662 => ?_
            refine w_region ?_
            refine wl_val (g_assign (v := .int .i64 0) rfl) rfl ?_
            refine wl_nil ?_
            refine hK662 _ _ ?_
            refine w_block ?_
            obtain ⟨I665, μ666, h0667, hr668⟩ := hm
            refine w_for (σ := List Int × Int) (fun ⟨x663, v664⟩ => [(0, .slice a0 n0 c0), (3, .slice a88 n89 c90), (6, .slice a137 n138 c139), (7, .int .i64 v645), (8, .int .i64 (r136[(Int.toNat v645)]!)), (9, .int .i64 v664)]) (fun ⟨x663, v664⟩ w' => I665 x663 v664 ∧ Below w.heap.size w w' ∧ Sep w' w.heap.size [oS 3 a88 n89 c90 (x663 : List Int), oS 3 a137 n138 c139 (r136 : List Int)]) (fun ⟨x663, v664⟩ => μ666 x663 v664) (x644, 0) ⟨rfl, rfl, rfl, rfl, rfl, rfl, trivial⟩ ⟨h0667, hB652, hS653⟩ ?_
            rintro ⟨x663, v664⟩ b_ w669 ⟨hi_, hB670, hS671⟩
            show Wp _ _ _ _ (upds b_ [(0, .slice a0 n0 c0), (3, .slice a88 n89 c90), (6, .slice a137 n138 c139), (7, .int .i64 v645), (8, .int .i64 (r136[(Int.toNat v645)]!)), (9, .int .i64 v664)]) w669
            have hm := hr668 x663 v664 hi_
            refine w_seq fun K673 hK673 => ?_
            refine w_seq fun K674 hK674 => ?_
            refine w_region ?_
            refine wl_val (g_move (v := .int .i64 v664) rfl) rfl ?_
            refine wl_val (g_move (v := .slice a0 n0 c0) rfl) rfl ?_
            refine wl_val (g_move (v := .int .i64 (r136[(Int.toNat v645)]!)) rfl) rfl ?_
            obtain ⟨hg675, hm⟩ := hm
            refine wl_val (q_index (i := r136[(Int.toNat v645)]!) SL26 rfl rfl (Tv.o (hp0.bel hB670)) (Tv.g (hp0.bel hB670) hg675)) rfl ?_
            refine wl_val (g_fieldAddr (q := (adr a0).add ((Int.toNat (r136[(Int.toNat v645)]!)) * El.m CueD)) FL39_1 ON24 rfl) rfl ?_
            refine wl_val (q_loadF (i := r136[(Int.toNat v645)]!) (j := 1) (v := .slice ((y0[(Int.toNat (r136[(Int.toNat v645)]!))]!).2.1.1) ((y0[(Int.toNat (r136[(Int.toNat v645)]!))]!).2.1.2.2.length) ((y0[(Int.toNat (r136[(Int.toNat v645)]!))]!).2.1.2.1)) ON24 (Tv.o (hp0.bel hB670)) (Tv.g (hp0.bel hB670) hg675) rfl rfl) rfl ?_
            refine wl_val (q_len SL24 rfl (Vw.len (Tv.rowC0 (hp0.bel hB670) hg675))) rfl ?_
            refine wl_val (g_lss (a := v664) (b := ((p0[(Int.toNat (r136[(Int.toNat v645)]!))]!.2.1).length : Int)) rfl rfl) rfl ?_
            refine wl_nil ?_
            refine hK674 _ _ ?_
            refine w_condI (p := v664 < ((p0[(Int.toNat (r136[(Int.toNat v645)]!))]!.2.1).length : Int)) (b := (decide (v664 < ((p0[(Int.toNat (r136[(Int.toNat v645)]!))]!.2.1).length : Int)))) rfl decide_eq_true_iff (fun h676 => ?_) (fun h676 => ?_)
            · replace hm := hm.1 h676
              refine w_skip ?_
              refine hK673 _ _ ?_
              refine w_seq fun K677 hK677 => ?_
              refine w_block ?_
              refine w_seq fun K678 hK678 => ?_
              refine w_region ?_
              refine wl_val (g_move (v := .slice a0 n0 c0) rfl) rfl ?_
              refine wl_val (g_move (v := .int .i64 (r136[(Int.toNat v645)]!)) rfl) rfl ?_
              obtain ⟨hg679, hm⟩ := hm
              refine wl_val (q_index (i := r136[(Int.toNat v645)]!) SL26 rfl rfl (Tv.o (hp0.bel hB670)) (Tv.g (hp0.bel hB670) hg679)) rfl ?_
              refine wl_val (g_fieldAddr (q := (adr a0).add ((Int.toNat (r136[(Int.toNat v645)]!)) * El.m CueD)) FL39_1 ON24 rfl) rfl ?_
              refine wl_val (q_loadF (i := r136[(Int.toNat v645)]!) (j := 1) (v := .slice ((y0[(Int.toNat (r136[(Int.toNat v645)]!))]!).2.1.1) ((y0[(Int.toNat (r136[(Int.toNat v645)]!))]!).2.1.2.2.length) ((y0[(Int.toNat (r136[(Int.toNat v645)]!))]!).2.1.2.1)) ON24 (Tv.o (hp0.bel hB670)) (Tv.g (hp0.bel hB670) hg679) rfl rfl) rfl ?_
              refine wl_val (g_move (v := .int .i64 v664) rfl) rfl ?_
              obtain ⟨hg680, hm⟩ := hm
              refine wl_val (q_index (i := v664) SL24 rfl rfl (Tv.rowC0 (hp0.bel hB670) hg679) hg680) rfl ?_
              refine wl_val (q_load (i := v664) (v := .int .i64 ((p0[(Int.toNat (r136[(Int.toNat v645)]!))]!.2.1)[(Int.toNat v664)]!)) ON3 (Tv.rowC0 (hp0.bel hB670) hg679) hg680 rfl rfl) rfl ?_
              refine wl_val (g_assign (v := .int .i64 ((p0[(Int.toNat (r136[(Int.toNat v645)]!))]!.2.1)[(Int.toNat v664)]!)) rfl) rfl ?_
              refine wl_nil ?_
              refine hK678 _ _ ?_
              refine w_draw (X := Ext) (Y := Ext) [0, 0, 0, 0, 0, 0, 0, 0, 0, 0, 0, 0, 0, 0, 0, 0, 0, 0, 1] MIX (by decide +kernel) rfl Ext.refl (fun _ _ _ => Ext.trans) (fun _ _ _ => Chg.trans) (fun _ _ h => Ext.chg h _) (fun w681 hE682 => ?_)
              have hB683 := hB670.trans (Ext.stp hE682 hS671.base)
              have hS684 := hS671.ext hE682
              refine ⟨.slice a88 n89 c90, fun w685 hX686 => od_plain rfl (by have hS687 := hS684.ext hX686; have hB688 := hB683.trans (Ext.stp hX686 hS684.base); exact is_ext (g_move (v := .slice a88 n89 c90) rfl)), ?_⟩
              refine ⟨.int .i64 ((p0[(Int.toNat (r136[(Int.toNat v645)]!))]!.2.1)[(Int.toNat v664)]!), fun w689 hX690 => od_plain rfl (by have hS691 := hS684.ext hX690; have hB692 := hB683.trans (Ext.stp hX690 hS684.base); exact is_ext (g_move (v := .int .i64 ((p0[(Int.toNat (r136[(Int.toNat v645)]!))]!.2.1)[(Int.toNat v664)]!)) rfl)), ?_⟩
              refine ⟨.slice a88 n89 c90, fun w693 hX694 => od_plain rfl (by have hS695 := hS684.ext hX694; have hB696 := hB683.trans (Ext.stp hX694 hS684.base); exact is_ext (g_move (v := .slice a88 n89 c90) rfl)), ?_⟩
              refine ⟨.int .i64 ((p0[(Int.toNat (r136[(Int.toNat v645)]!))]!.2.1)[(Int.toNat v664)]!), fun w697 hX698 => od_plain rfl (by have hS699 := hS684.ext hX698; have hB700 := hB683.trans (Ext.stp hX698 hS684.base); exact is_ext (g_move (v := .int .i64 ((p0[(Int.toNat (r136[(Int.toNat v645)]!))]!.2.1)[(Int.toNat v664)]!)) rfl)), ?_⟩
              obtain ⟨hg705, hm⟩ := hm
              refine ⟨.pointer (some ((adr a88).add ((Int.toNat ((p0[(Int.toNat (r136[(Int.toNat v645)]!))]!.2.1)[(Int.toNat v664)]!)) * El.m Int))), fun w701 hX702 => od_plain rfl (by have hS703 := hS684.ext hX702; have hB704 := hB683.trans (Ext.stp hX702 hS684.base); exact is_ext (q_index (i := (p0[(Int.toNat (r136[(Int.toNat v645)]!))]!.2.1)[(Int.toNat v664)]!) SL24 rfl rfl (oS.vw hS703.g0) hg705)), ?_⟩
              refine ⟨.int .i64 (x663[(Int.toNat ((p0[(Int.toNat (r136[(Int.toNat v645)]!))]!.2.1)[(Int.toNat v664)]!))]!), fun w706 hX707 => od_plain rfl (by have hS708 := hS684.ext hX707; have hB709 := hB683.trans (Ext.stp hX707 hS684.base); exact is_ext (q_load (i := (p0[(Int.toNat (r136[(Int.toNat v645)]!))]!.2.1)[(Int.toNat v664)]!) (v := .int .i64 (x663[(Int.toNat ((p0[(Int.toNat (r136[(Int.toNat v645)]!))]!.2.1)[(Int.toNat v664)]!))]!)) ON3 (oS.vw hS708.g0) hg705 rfl rfl)), ?_⟩
              refine ⟨.slice a88 n89 c90, fun w710 hX711 => od_plain rfl (by have hS712 := hS684.ext hX711; have hB713 := hB683.trans (Ext.stp hX711 hS684.base); exact is_ext (g_move (v := .slice a88 n89 c90) rfl)), ?_⟩
              refine ⟨.int .i64 (r136[(Int.toNat v645)]!), fun w714 hX715 => od_plain rfl (by have hS716 := hS684.ext hX715; have hB717 := hB683.trans (Ext.stp hX715 hS684.base); exact is_ext (g_move (v := .int .i64 (r136[(Int.toNat v645)]!)) rfl)), ?_⟩
              obtain ⟨hg722, hm⟩ := hm
              refine ⟨.pointer (some ((adr a88).add ((Int.toNat (r136[(Int.toNat v645)]!)) * El.m Int))), fun w718 hX719 => od_plain rfl (by have hS720 := hS684.ext hX719; have hB721 := hB683.trans (Ext.stp hX719 hS684.base); exact is_ext (q_index (i := r136[(Int.toNat v645)]!) SL24 rfl rfl (oS.vw hS720.g0) hg722)), ?_⟩
              refine ⟨.int .i64 (x663[(Int.toNat (r136[(Int.toNat v645)]!))]!), fun w723 hX724 => od_plain rfl (by have hS725 := hS684.ext hX724; have hB726 := hB683.trans (Ext.stp hX724 hS684.base); exact is_ext (q_load (i := r136[(Int.toNat v645)]!) (v := .int .i64 (x663[(Int.toNat (r136[(Int.toNat v645)]!))]!)) ON3 (oS.vw hS725.g0) hg722 rfl rfl)), ?_⟩
              refine ⟨.slice a0 n0 c0, fun w727 hX728 => od_plain rfl (by have hS729 := hS684.ext hX728; have hB730 := hB683.trans (Ext.stp hX728 hS684.base); exact is_ext (g_move (v := .slice a0 n0 c0) rfl)), ?_⟩
              refine ⟨.int .i64 ((p0[(Int.toNat (r136[(Int.toNat v645)]!))]!.2.1)[(Int.toNat v664)]!), fun w731 hX732 => od_plain rfl (by have hS733 := hS684.ext hX732; have hB734 := hB683.trans (Ext.stp hX732 hS684.base); exact is_ext (g_move (v := .int .i64 ((p0[(Int.toNat (r136[(Int.toNat v645)]!))]!.2.1)[(Int.toNat v664)]!)) rfl)), ?_⟩
              obtain ⟨hg739, hm⟩ := hm
              refine ⟨.pointer (some ((adr a0).add ((Int.toNat ((p0[(Int.toNat (r136[(Int.toNat v645)]!))]!.2.1)[(Int.toNat v664)]!)) * El.m CueD))), fun w735 hX736 => od_plain rfl (by have hS737 := hS684.ext hX736; have hB738 := hB683.trans (Ext.stp hX736 hS684.base); exact is_ext (q_index (i := (p0[(Int.toNat (r136[(Int.toNat v645)]!))]!.2.1)[(Int.toNat v664)]!) SL26 rfl rfl (Tv.o (hp0.bel hB738)) (Tv.g (hp0.bel hB738) hg739))), ?_⟩
              refine ⟨.pointer (some (((adr a0).add ((Int.toNat ((p0[(Int.toNat (r136[(Int.toNat v645)]!))]!.2.1)[(Int.toNat v664)]!)) * El.m CueD)).add 0)), fun w740 hX741 => od_plain rfl (by have hS742 := hS684.ext hX741; have hB743 := hB683.trans (Ext.stp hX741 hS684.base); exact is_ext (g_fieldAddr (q := (adr a0).add ((Int.toNat ((p0[(Int.toNat (r136[(Int.toNat v645)]!))]!.2.1)[(Int.toNat v664)]!)) * El.m CueD)) FL39_0 ON3 rfl)), ?_⟩
              refine ⟨.int .i64 (p0[(Int.toNat ((p0[(Int.toNat (r136[(Int.toNat v645)]!))]!.2.1)[(Int.toNat v664)]!))]!.1), fun w744 hX745 => od_plain rfl (by have hS746 := hS684.ext hX745; have hB747 := hB683.trans (Ext.stp hX745 hS684.base); exact is_ext (q_loadF (i := (p0[(Int.toNat (r136[(Int.toNat v645)]!))]!.2.1)[(Int.toNat v664)]!) (j := 0) (v := .int .i64 (p0[(Int.toNat ((p0[(Int.toNat (r136[(Int.toNat v645)]!))]!.2.1)[(Int.toNat v664)]!))]!.1)) ON3 (Tv.o (hp0.bel hB747)) (Tv.g (hp0.bel hB747) hg739) (by rw [← Tv.ticks (hp0.bel hB747) hg739]; rfl) rfl)), ?_⟩
              obtain ⟨hg752, hm⟩ := hm
              refine ⟨.int .i64 (x663[(Int.toNat (r136[(Int.toNat v645)]!))]! - p0[(Int.toNat ((p0[(Int.toNat (r136[(Int.toNat v645)]!))]!.2.1)[(Int.toNat v664)]!))]!.1), fun w748 hX749 => od_plain rfl (by have hS750 := hS684.ext hX749; have hB751 := hB683.trans (Ext.stp hX749 hS684.base); exact is_ext (g_sub (a := x663[(Int.toNat (r136[(Int.toNat v645)]!))]!) (b := p0[(Int.toNat ((p0[(Int.toNat (r136[(Int.toNat v645)]!))]!.2.1)[(Int.toNat v664)]!))]!.1) rfl rfl hg752)), ?_⟩
              refine ⟨.int .i64 (min (x663[(Int.toNat ((p0[(Int.toNat (r136[(Int.toNat v645)]!))]!.2.1)[(Int.toNat v664)]!))]!) (x663[(Int.toNat (r136[(Int.toNat v645)]!))]! - p0[(Int.toNat ((p0[(Int.toNat (r136[(Int.toNat v645)]!))]!.2.1)[(Int.toNat v664)]!))]!.1)), fun w753 hX754 => od_plain rfl (by have hS755 := hS684.ext hX754; have hB756 := hB683.trans (Ext.stp hX754 hS684.base); exact is_ext (g_min (a := x663[(Int.toNat ((p0[(Int.toNat (r136[(Int.toNat v645)]!))]!.2.1)[(Int.toNat v664)]!))]!) (b := (x663[(Int.toNat (r136[(Int.toNat v645)]!))]! - p0[(Int.toNat ((p0[(Int.toNat (r136[(Int.toNat v645)]!))]!.2.1)[(Int.toNat v664)]!))]!.1)) rfl rfl)), ?_⟩
              obtain ⟨hg761, hm⟩ := hm
              refine ⟨.pointer (some ((adr a88).add ((Int.toNat ((p0[(Int.toNat (r136[(Int.toNat v645)]!))]!.2.1)[(Int.toNat v664)]!)) * El.m Int))), fun w757 hX758 => od_plain rfl (by have hS759 := hS684.ext hX758; have hB760 := hB683.trans (Ext.stp hX758 hS684.base); exact is_ext (q_index (i := (p0[(Int.toNat (r136[(Int.toNat v645)]!))]!.2.1)[(Int.toNat v664)]!) SL24 rfl rfl (oS.vw hS759.g0) hg761)), ?_⟩
              intro w762 hX763
              have hB764 := hB683.trans (Ext.stp hX763 hS684.base)
              have hS765 := hS684.ext hX763
              refine ⟨_, od_plain rfl (q_store (i := (p0[(Int.toNat (r136[(Int.toNat v645)]!))]!.2.1)[(Int.toNat v664)]!) (v := ((min (x663[(Int.toNat ((p0[(Int.toNat (r136[(Int.toNat v645)]!))]!.2.1)[(Int.toNat v664)]!))]!) (x663[(Int.toNat (r136[(Int.toNat v645)]!))]! - p0[(Int.toNat ((p0[(Int.toNat (r136[(Int.toNat v645)]!))]!.2.1)[(Int.toNat v664)]!))]!.1)) : Int)) hS765 ON3.sz hg761 rfl rfl rfl), ?_⟩
              rintro _ w766 ⟨rfl, hS767, hb768⟩
              have hB769 := hB764.trans hb768
              intro w770 hX771
              have hB772 := hB769.trans (Ext.stp hX771 hS767.base)
              have hS773 := hS767.ext hX771
              refine hK677 _ _ ?_
              refine w_region ?_
              refine wl_val (g_move (v := .int .i64 v664) rfl) rfl ?_
              obtain ⟨hg774, hm⟩ := hm
              refine wl_val (g_add (a := v664) (b := 1) rfl rfl hg774) rfl ?_
              refine wl_val (g_assign (v := .int .i64 (v664 + 1)) rfl) rfl ?_
              refine wl_nil ?_
              exact ⟨((x663.set (Int.toNat ((p0[(Int.toNat (r136[(Int.toNat v645)]!))]!.2.1)[(Int.toNat v664)]!)) (min (x663[(Int.toNat ((p0[(Int.toNat (r136[(Int.toNat v645)]!))]!.2.1)[(Int.toNat v664)]!))]!) (x663[(Int.toNat (r136[(Int.toNat v645)]!))]! - p0[(Int.toNat ((p0[(Int.toNat (r136[(Int.toNat v645)]!))]!.2.1)[(Int.toNat v664)]!))]!.1))), (v664 + 1)), hm.2, ⟨rfl, rfl, rfl, rfl, rfl, rfl, trivial⟩, ⟨hm.1, hB772, hS773⟩⟩
            · replace hm := hm.2 h676
              refine w_exit ?_
              exact ⟨(x663), ⟨rfl, rfl, rfl, rfl, trivial⟩, ⟨hm, hB670, hS671⟩⟩
          · rintro x658 b_ w775 ⟨hm, hB776, hS777⟩
            show Wp _ _ _ _ (upds b_ [(0, .slice a0 n0 c0), (3, .slice a88 n89 c90), (6, .slice a137 n138 c139), (7, .int .i64 v645)]) w775
            refine w_region ?_
            refine wl_val (g_move (v := .int .i64 v645) rfl) rfl ?_
            obtain ⟨hg778, hm⟩ := hm
            refine wl_val (g_sub (a := v645) (b := 1) rfl rfl hg778) rfl ?_
            refine wl_val (g_assign (v := .int .i64 (v645 - 1)) rfl) rfl ?_
            refine wl_nil ?_
            exact ⟨(x658, (v645 - 1)), hm.2, ⟨rfl, rfl, rfl, rfl, trivial⟩, ⟨hm.1, hB776, hS777⟩⟩
        · replace hm := hm.2 h657
          refine w_exit ?_
          have hS779 := hS653.f1
          have hS780 := hS779.tail
          exact ⟨(x644), ⟨rfl, trivial⟩, ⟨hm, hB652, hS780⟩⟩
      · rintro x640 b_ w781 ⟨hm, hB782, hS783⟩
        show Wp _ _ _ _ (upds b_ [(3, .slice a88 n89 c90)]) w781
        refine w_seq fun K784 hK784 => ?_
        refine w_region ?_
        refine wl_val (g_move (v := .slice a88 n89 c90) rfl) rfl ?_
        refine wl_val (g_assign (v := .slice a88 n89 c90) rfl) rfl ?_
        refine wl_nil ?_
        refine hK784 _ _ ?_
        refine w_ret ?_
        repeat first | with_reducible refine q_then ?_ | with_reducible refine q_block ?_
        exact ret1 rfl (by decide) ⟨_, _, _, _, hm, rfl, toExt hB782, hS783⟩

theorem m_impl_LatestStarts_fn {w : World} {a0 : Option Addr} {n0 c0 : Nat} {y0 : List CueD} {p0 : List CueC} {Q : (List Int) → Prop} (hp0 : Tv w.heap.size w a0 n0 c0 y0 p0) (hm : m_impl_LatestStarts p0 Q) :
    Fn Try.prog 39 #[.slice a0 n0 c0] w (fun v w' => ∃ (r0 : List Int) (a0 : Option Addr) (n0 c0 : Nat), Q r0 ∧ v = .slice a0 n0 c0 ∧ Ext w w' ∧ Sep w' w.heap.size [oS 3 a0 n0 c0 r0]) := by
  unfold m_impl_LatestStarts at hm
  have hB0 := Below.refl w.heap.size w
  have hS0 : Sep w w.heap.size [] := Sep.nil (Nat.le_refl _)
  refine fn_of_wp Try.func39 rfl (by kernel_rfl) (Nat.le_of_ble_eq_true rfl) ?_
  refine w_seq fun K1 hK1 => ?_
  refine w_region ?_
  refine wl_val (g_assign (v := .slice none 0 0) rfl) rfl ?_
  refine wl_nil ?_
  refine hK1 _ _ ?_
  refine w_seq fun K2 hK2 => ?_
  refine w_seq fun K3 hK3 => ?_
  refine w_region ?_
  refine wl_val (g_move (v := .slice a0 n0 c0) rfl) rfl ?_
  refine wl_step rfl (g_call (vs := #[.slice a0 n0 c0]) CF29 (args1 rfl) (m_impl_CuesOk_fn ((hp0.bel hB0).up hS0) hm)) ?_
  rintro _ w4 ⟨r7, hm, rfl, hE5⟩
  have hB8 := hB0.trans (Ext.stp hE5 hS0.base)
  have hS9 := hS0.ext hE5
  refine wl_val (g_not (a := r7) rfl) rfl ?_
  refine wl_nil ?_
  refine hK3 _ _ ?_
  refine w_condI (p := ¬ (r7 = true)) (b := (!r7)) rfl (i_not Iff.rfl) (fun h10 => ?_) (fun h10 => ?_)
  · replace hm := hm.1 h10
    refine w_seq fun K11 hK11 => ?_
    refine w_region ?_
    refine wl_val (g_assign (v := .slice none 0 0) rfl) rfl ?_
    refine wl_nil ?_
    refine hK11 _ _ ?_
    refine w_ret ?_
    have hS12 := hS9.nilS (α := Int) (E := 3)
    repeat first | with_reducible refine q_then ?_ | with_reducible refine q_block ?_
    exact ret1 rfl (by decide) ⟨_, _, _, _, hm, rfl, toExt hB8, hS12⟩
  · replace hm := hm.2 h10
    refine w_skip ?_
    refine hK2 _ _ ?_
    refine w_seq fun K14 hK14 => ?_
    refine w_region ?_
    refine wl_val (g_move (v := .slice a0 n0 c0) rfl) rfl ?_
    refine wl_step rfl (g_call (vs := #[.slice a0 n0 c0]) CF40 (args1 rfl) (m_impl_PlayTime_fn ((hp0.bel hB8).up hS9) hm)) ?_
    rintro _ w15 ⟨r18, hm, rfl, hE16⟩
    have hB19 := hB8.trans (Ext.stp hE16 hS9.base)
    have hS20 := hS9.ext hE16
    refine wl_val (g_move (v := .slice a0 n0 c0) rfl) rfl ?_
    refine wl_step rfl (g_call (vs := #[.slice a0 n0 c0]) CF28 (args1 rfl) (m_impl_CueOrder_fn ((hp0.bel hB19).up hS20) hm)) ?_
    rintro _ w21 ⟨r24, a25, n26, c27, hm, rfl, hE22, hN23⟩
    have hS29 := hS20.call1 hE22 hN23
    have hB30 := hB19.trans (Ext.stp hE22 hS20.base)
    refine wl_val (g_assign (v := .int .i64 r18) rfl) rfl ?_
    refine wl_val (g_assign (v := .slice a25 n26 c27) rfl) rfl ?_
    refine wl_nil ?_
    refine hK14 _ _ ?_
    refine w_seq fun K31 hK31 => ?_
    refine w_region ?_
    refine wl_step rfl (q_lit0 (α := Int) rfl SL24 hS29) ?_
    rintro _ w32 ⟨a33, rfl, hS35, hE34⟩
    have hB37 := hB30.trans (Ext.stp hE34 hS29.base)
    refine wl_val (g_assign (v := .slice a33 0 0) rfl) rfl ?_
    refine wl_nil ?_
    refine hK31 _ _ ?_
    refine w_cut (σ := List Int × Option Addr × Nat × Nat) (fun ⟨x132, a133, n134, c135⟩ => [(0, .slice a0 n0 c0), (4, .slice a25 n26 c27), (5, .slice a133 n134 c135)]) (fun ⟨x132, a133, n134, c135⟩ w' => m_impl_LatestStarts_K2 p0 r24 Q x132 ∧ Below w.heap.size w w' ∧ Sep w' w.heap.size [oS 3 a25 n26 c27 (r24 : List Int), oS 3 a133 n134 c135 (x132 : List Int)]) ?_ ?_
    · refine w_seq fun K137 hK137 => ?_
      refine w_region ?_
      refine wl_val (g_move (v := .slice a0 n0 c0) rfl) rfl ?_
      refine wl_val (q_len SL26 rfl (Tv.len (hp0.bel hB37))) rfl ?_
      refine wl_val (g_move (v := .int .i64 0) rfl) rfl ?_
      refine wl_nil ?_
      refine hK137 _ _ ?_
      refine w_block ?_
      have hS143 := hS35.f1
      obtain ⟨I144, μ145, h0146, hr147⟩ := hm
      refine w_for (σ := List Int × Option Addr × Nat × Nat × Int) (fun ⟨x138, a139, n140, c141, v142⟩ => [(0, .slice a0 n0 c0), (3, .int .i64 r18), (4, .slice a25 n26 c27), (5, .slice a139 n140 c141), (20, .slice a0 n0 c0), (21, .int .i64 (p0.length : Int)), (22, .int .i64 v142)]) (fun ⟨x138, a139, n140, c141, v142⟩ w' => I144 x138 v142 ∧ Below w.heap.size w w' ∧ Sep w' w.heap.size [oS 3 a25 n26 c27 (r24 : List Int), oS 3 a139 n140 c141 (x138 : List Int)]) (fun ⟨x138, a139, n140, c141, v142⟩ => μ145 x138 v142) ([], a33, 0, 0, 0) ⟨rfl, rfl, rfl, rfl, rfl, rfl, rfl, trivial⟩ ⟨h0146, hB37, hS143⟩ ?_
      rintro ⟨x138, a139, n140, c141, v142⟩ b_ w148 ⟨hi_, hB149, hS150⟩
      show Wp _ _ _ _ (upds b_ [(0, .slice a0 n0 c0), (3, .int .i64 r18), (4, .slice a25 n26 c27), (5, .slice a139 n140 c141), (20, .slice a0 n0 c0), (21, .int .i64 (p0.length : Int)), (22, .int .i64 v142)]) w148
      have hm := hr147 x138 v142 hi_
      refine w_seq fun K152 hK152 => ?_
      refine w_region ?_
      refine wl_val (g_lss (a := v142) (b := (p0.length : Int)) rfl rfl) rfl ?_
      refine wl_nil ?_
      refine hK152 _ _ ?_
      refine w_seq fun K153 hK153 => ?_
      refine w_condI (p := v142 < (p0.length : Int)) (b := (decide (v142 < (p0.length : Int)))) rfl decide_eq_true_iff (fun h154 => ?_) (fun h154 => ?_)
      · replace hm := hm.1 h154
        refine w_skip ?_
        refine hK153 _ _ ?_
        refine w_seq fun K155 hK155 => ?_
        refine w_block ?_
        refine w_seq fun K156 hK156 => ?_
        refine w_region ?_
        obtain ⟨hg157, hm⟩ := hm
        refine wl_val (q_index (i := v142) SL26 rfl rfl (Tv.o (hp0.bel hB149)) (Tv.g (hp0.bel hB149) hg157)) rfl ?_
        refine wl_val (q_loadS (i := v142) (cs := [.int .i64 (p0[(Int.toNat v142)]!.1), .slice ((y0[(Int.toNat v142)]!).2.1.1) ((y0[(Int.toNat v142)]!).2.1.2.2.length) ((y0[(Int.toNat v142)]!).2.1.2.1), .slice ((y0[(Int.toNat v142)]!).2.2.1) ((y0[(Int.toNat v142)]!).2.2.2.2.length) ((y0[(Int.toNat v142)]!).2.2.2.1)]) AG39 (Tv.o (hp0.bel hB149)) (Tv.g (hp0.bel hB149) hg157) (by rw [← Tv.ticks (hp0.bel hB149) hg157]; rfl) rfl) rfl ?_
        refine wl_step rfl (q_alloc (cs := #[.int .i64 0, .slice none 0 0, .slice none 0 0]) ZR39 rfl hS150) ?_
        rintro _ w158 ⟨g159, rfl, hS161, hE160⟩
        have hB163 := hB149.trans (Ext.stp hE160 hS150.base)
        refine wl_step rfl (q_storeB (i := 0) (bs' := #[.int .i64 (p0[(Int.toNat v142)]!.1), .slice ((y0[(Int.toNat v142)]!).2.1.1) ((y0[(Int.toNat v142)]!).2.1.2.2.length) ((y0[(Int.toNat v142)]!).2.1.2.1), .slice ((y0[(Int.toNat v142)]!).2.2.1) ((y0[(Int.toNat v142)]!).2.2.2.2.length) ((y0[(Int.toNat v142)]!).2.2.2.1)]) (vs := [.int .i64 (p0[(Int.toNat v142)]!.1), .slice ((y0[(Int.toNat v142)]!).2.1.1) ((y0[(Int.toNat v142)]!).2.1.2.2.length) ((y0[(Int.toNat v142)]!).2.1.2.1), .slice ((y0[(Int.toNat v142)]!).2.2.1) ((y0[(Int.toNat v142)]!).2.2.2.2.length) ((y0[(Int.toNat v142)]!).2.2.2.1)]) hS161 AG39.sz rfl rfl rfl (by simp [Value.oneCell']) (Nat.le_of_ble_eq_true rfl) rfl) ?_
        rintro _ w164 ⟨rfl, hS165, hb166⟩
        have hB167 := hB163.trans hb166
        refine wl_nil ?_
        refine hK156 _ _ ?_
        refine w_region ?_
        refine wl_val (g_move (v := .slice a139 n140 c141) rfl) rfl ?_
        refine wl_val (g_move (v := .int .i64 r18) rfl) rfl ?_
        refine wl_val (g_fieldAddr (q := (⟨g159, 0, none⟩ : Addr)) FL39_0 ON3 rfl) rfl ?_
        refine wl_val (q_loadB (i := 0) (bs := #[.int .i64 (p0[(Int.toNat v142)]!.1), .slice ((y0[(Int.toNat v142)]!).2.1.1) ((y0[(Int.toNat v142)]!).2.1.2.2.length) ((y0[(Int.toNat v142)]!).2.1.2.1), .slice ((y0[(Int.toNat v142)]!).2.2.1) ((y0[(Int.toNat v142)]!).2.2.2.2.length) ((y0[(Int.toNat v142)]!).2.2.2.1)]) hS165.g0 ON3 rfl rfl) rfl ?_
        obtain ⟨hg168, hm⟩ := hm
        refine wl_val (g_sub (a := r18) (b := p0[(Int.toNat v142)]!.1) rfl rfl hg168) rfl ?_
        refine wl_step rfl (q_lit1 (y := ((r18 - p0[(Int.toNat v142)]!.1) : Int)) SL24 rfl rfl (by decide) hS165) ?_
        rintro _ w169 ⟨a170, rfl, hS172, hE171⟩
        have hB174 := hB167.trans (Ext.stp hE171 hS165.base)
        have hS180 := hS172.f3
        obtain ⟨hg181, hm⟩ := hm
        refine wl_step rfl (q_append SL24 rfl rfl hS180 (oS.vw hS180.g1) hg181 (by decide)) ?_
        rintro _ w175 ⟨a176, c177, rfl, hS179, hb178⟩
        have hB182 := hB174.trans hb178
        refine wl_val (g_assign (v := .slice a176 (n140 + 1) c177) rfl) rfl ?_
        refine wl_nil ?_
        refine hK155 _ _ ?_
        refine w_region ?_
        obtain ⟨hg183, hm⟩ := hm
        refine wl_val (g_add (a := v142) (b := 1) rfl rfl hg183) rfl ?_
        refine wl_val (g_move (v := .int .i64 (v142 + 1)) rfl) rfl ?_
        refine wl_nil ?_
        have hS184 := hS179.f1
        have hS185 := hS184.tail
        have hS186 := hS185.f1
        have hS187 := hS186.tail
        have hS188 := hS187.f1
        exact ⟨((x138 ++ ([(r18 - p0[(Int.toNat v142)]!.1)])), a176, (n140 + 1), c177, (v142 + 1)), hm.2, ⟨rfl, rfl, rfl, rfl, rfl, rfl, rfl, trivial⟩, ⟨hm.1, hB182, hS188⟩⟩
      · replace hm := hm.2 h154
        refine w_exit ?_
        exact ⟨(x138, a139, n140, c141), ⟨rfl, rfl, rfl, trivial⟩, ⟨hm, hB149, hS150⟩⟩
    · rintro ⟨x132, a133, n134, c135⟩ b_ w189 ⟨hm, hB190, hS191⟩
      show Wp _ _ _ _ (upds b_ [(0, .slice a0 n0 c0), (4, .slice a25 n26 c27), (5, .slice a133 n134 c135)]) w189
      refine w_cut (σ := List Int) (fun x689 => [(5, .slice a133 n134 c135)]) (fun x689 w' => m_impl_LatestStarts_K1 Q x689 ∧ Below w.heap.size w w' ∧ Sep w' w.heap.size [oS 3 a133 n134 c135 (x689 : List Int)]) ?_ ?_
      · refine w_seq fun K691 hK691 => ?_
        refine w_region ?_
        refine wl_val (g_move (v := .slice a25 n26 c27) rfl) rfl ?_
        refine wl_val (q_len SL24 rfl (Vw.len (oS.vw hS191.g0))) rfl ?_
        obtain ⟨hg692, hm⟩ := hm
        refine wl_val (g_sub (a := (r24.length : Int)) (b := 1) rfl rfl hg692) rfl ?_
        refine wl_val (g_assign (v := .int .i64 ((r24.length : Int) - 1)) rfl) rfl ?_
        refine wl_nil ?_
        refine hK691 _ _ ?_
        refine w_block ?_
        obtain ⟨I695, μ696, h0697, hr698⟩ := hm
        refine w_for (σ := List Int × Int) (fun ⟨x693, v694⟩ => [(0, .slice a0 n0 c0), (4, .slice a25 n26 c27), (5, .slice a133 n134 c135), (8, .int .i64 v694)]) (fun ⟨x693, v694⟩ w' => I695 x693 v694 ∧ Below w.heap.size w w' ∧ Sep w' w.heap.size [oS 3 a25 n26 c27 (r24 : List Int), oS 3 a133 n134 c135 (x693 : List Int)]) (fun ⟨x693, v694⟩ => μ696 x693 v694) (x132, ((r24.length : Int) - 1)) ⟨rfl, rfl, rfl, rfl, trivial⟩ ⟨h0697, hB190, hS191⟩ ?_
        rintro ⟨x693, v694⟩ b_ w699 ⟨hi_, hB700, hS701⟩
        show Wp _ _ _ _ (upds b_ [(0, .slice a0 n0 c0), (4, .slice a25 n26 c27), (5, .slice a133 n134 c135), (8, .int .i64 v694)]) w699
        have hm := hr698 x693 v694 hi_
        refine w_seq fun K703 hK703 => ?_
        refine w_seq fun K704 hK704 => ?_
        refine w_region ?_
        refine wl_val (g_move (v := .int .i64 v694) rfl) rfl ?_
        refine wl_val (g_geq (a := v694) (b := 0) rfl rfl) rfl ?_
        refine wl_nil ?_
        refine hK704 _ _ ?_
        refine w_condI (p := v694 ≥ 0) (b := (decide (v694 ≥ 0))) rfl decide_eq_true_iff (fun h705 => ?_) (fun h705 => ?_)
        · replace hm := hm.1 h705
          refine w_skip ?_
          refine hK703 _ _ ?_
          refine w_cut (σ := List Int) (fun x706 => [(0, .slice a0 n0 c0), (4, .slice a25 n26 c27), (5, .slice a133 n134 c135), (8, .int .i64 v694)]) (fun x706 w' => m_impl_LatestStarts_K0 v694 (fun x693' v694' => I695 x693' v694' ∧ μ696 x693' v694' < μ696 x693 v694) x706 ∧ Below w.heap.size w w' ∧ Sep w' w.heap.size [oS 3 a25 n26 c27 (r24 : List Int), oS 3 a133 n134 c135 (x706 : List Int)]) ?_ ?_
          · refine w_block ?_
            refine w_seq fun K708 hK708 => ?_
            refine w_region ?_
            refine wl_val (g_move (v := .slice a25 n26 c27) rfl) rfl ?_
            refine wl_val (g_move (v := .int .i64 v694) rfl) rfl ?_
            obtain ⟨hg709, hm⟩ := hm
            refine wl_val (q_index (i := v694) SL24 rfl rfl (oS.vw hS701.g0) hg709) rfl ?_
            refine wl_val (q_load (i := v694) (v := .int .i64 (r24[(Int.toNat v694)]!)) ON3 (oS.vw hS701.g0) hg709 rfl rfl) rfl ?_
            refine wl_val (g_assign (v := .int .i64 (r24[(Int.toNat v694)]!)) rfl) rfl ?_
            refine wl_nil ?_
            refine hK708 _ _ ?_
            refine w_seq fun K710 hK710 => ?_
            refine w_region ?_
            refine wl_val (g_move (v := .slice a0 n0 c0) rfl) rfl ?_
            refine wl_val (g_move (v := .int .i64 (r24[(Int.toNat v694)]!)) rfl) rfl ?_
            obtain ⟨hg711, hm⟩ := hm
            refine wl_val (q_index (i := r24[(Int.toNat v694)]!) SL26 rfl rfl (Tv.o (hp0.bel hB700)) (Tv.g (hp0.bel hB700) hg711)) rfl ?_
            refine wl_val (g_fieldAddr (q := (adr a0).add ((Int.toNat (r24[(Int.toNat v694)]!)) * El.m CueD)) FL39_1 ON24 rfl) rfl ?_
            refine wl_val (q_loadF (i := r24[(Int.toNat v694)]!) (j := 1) (v := .slice ((y0[(Int.toNat (r24[(Int.toNat v694)]!))]!).2.1.1) ((y0[(Int.toNat (r24[(Int.toNat v694)]!))]!).2.1.2.2.length) ((y0[(Int.toNat (r24[(Int.toNat v694)]!))]!).2.1.2.1)) ON24 (Tv.o (hp0.bel hB700)) (Tv.g (hp0.bel hB700) hg711) rfl rfl) rfl ?_
            refine wl_val (q_len SL24 rfl (Vw.len (Tv.rowC0 (hp0.bel hB700) hg711))) rfl ?_
            refine wl_val (g_move (v := .int .i64 0) rfl) rfl ?_
            refine wl_nil ?_
            refine hK710 _ _ ?_
            refine w_block ?_
            obtain ⟨I714, μ715, h0716, hr717⟩ := hm
            refine w_for (σ := List Int × Int) (fun ⟨x712, v713⟩ => [(0, .slice a0 n0 c0), (4, .slice a25 n26 c27), (5, .slice a133 n134 c135), (8, .int .i64 v694), (9, .int .i64 (r24[(Int.toNat v694)]!)), (49, .slice ((y0[(Int.toNat (r24[(Int.toNat v694)]!))]!).2.1.1) ((y0[(Int.toNat (r24[(Int.toNat v694)]!))]!).2.1.2.2.length) ((y0[(Int.toNat (r24[(Int.toNat v694)]!))]!).2.1.2.1)), (50, .int .i64 ((p0[(Int.toNat (r24[(Int.toNat v694)]!))]!.2.1).length : Int)), (51, .int .i64 v713)]) (fun ⟨x712, v713⟩ w' => I714 x712 v713 ∧ Below w.heap.size w w' ∧ Sep w' w.heap.size [oS 3 a25 n26 c27 (r24 : List Int), oS 3 a133 n134 c135 (x712 : List Int)]) (fun ⟨x712, v713⟩ => μ715 x712 v713) (x693, 0) ⟨rfl, rfl, rfl, rfl, rfl, rfl, rfl, rfl, trivial⟩ ⟨h0716, hB700, hS701⟩ ?_
            rintro ⟨x712, v713⟩ b_ w718 ⟨hi_, hB719, hS720⟩
            show Wp _ _ _ _ (upds b_ [(0, .slice a0 n0 c0), (4, .slice a25 n26 c27), (5, .slice a133 n134 c135), (8, .int .i64 v694), (9, .int .i64 (r24[(Int.toNat v694)]!)), (49, .slice ((y0[(Int.toNat (r24[(Int.toNat v694)]!))]!).2.1.1) ((y0[(Int.toNat (r24[(Int.toNat v694)]!))]!).2.1.2.2.length) ((y0[(Int.toNat (r24[(Int.toNat v694)]!))]!).2.1.2.1)), (50, .int .i64 ((p0[(Int.toNat (r24[(Int.toNat v694)]!))]!.2.1).length : Int)), (51, .int .i64 v713)]) w718
            have hm := hr717 x712 v713 hi_
            refine w_seq fun K722 hK722 => ?_
            refine w_region ?_
            refine wl_val (g_lss (a := v713) (b := ((p0[(Int.toNat (r24[(Int.toNat v694)]!))]!.2.1).length : Int)) rfl rfl) rfl ?_
            refine wl_nil ?_
            refine hK722 _ _ ?_
            refine w_seq fun K723 hK723 => ?_
            refine w_condI (p := v713 < ((p0[(Int.toNat (r24[(Int.toNat v694)]!))]!.2.1).length : Int)) (b := (decide (v713 < ((p0[(Int.toNat (r24[(Int.toNat v694)]!))]!.2.1).length : Int)))) rfl decide_eq_true_iff (fun h724 => ?_) (fun h724 => ?_)
            · replace hm := hm.1 h724
              refine w_skip ?_
              refine hK723 _ _ ?_
              refine w_seq fun K725 hK725 => ?_
              refine w_block ?_
              refine w_seq fun K726 hK726 => ?_
              refine w_region ?_
              obtain ⟨hg727, hm⟩ := hm
              refine wl_val (q_index (i := v713) SL24 rfl rfl (Tv.rowC0 (hp0.bel hB719) hg711) hg727) rfl ?_
              refine wl_val (q_load (i := v713) (v := .int .i64 ((p0[(Int.toNat (r24[(Int.toNat v694)]!))]!.2.1)[(Int.toNat v713)]!)) ON3 (Tv.rowC0 (hp0.bel hB719) hg711) hg727 rfl rfl) rfl ?_
              refine wl_val (g_assign (v := .int .i64 ((p0[(Int.toNat (r24[(Int.toNat v694)]!))]!.2.1)[(Int.toNat v713)]!)) rfl) rfl ?_
              refine wl_nil ?_
              refine hK726 _ _ ?_
              refine w_draw (X := Ext) (Y := Ext) [0, 0, 0, 0, 0, 0, 0, 0, 0, 0, 0, 0, 0, 0, 0, 0, 0, 0, 1] MIX (by decide +kernel) rfl Ext.refl (fun _ _ _ => Ext.trans) (fun _ _ _ => Chg.trans) (fun _ _ h => Ext.chg h _) (fun w728 hE729 => ?_)
              have hB730 := hB719.trans (Ext.stp hE729 hS720.base)
              have hS731 := hS720.ext hE729
              refine ⟨.slice a133 n134 c135, fun w732 hX733 => od_plain rfl (by have hS734 := hS731.ext hX733; have hB735 := hB730.trans (Ext.stp hX733 hS731.base); exact is_ext (g_move (v := .slice a133 n134 c135) rfl)), ?_⟩
              refine ⟨.int .i64 ((p0[(Int.toNat (r24[(Int.toNat v694)]!))]!.2.1)[(Int.toNat v713)]!), fun w736 hX737 => od_plain rfl (by have hS738 := hS731.ext hX737; have hB739 := hB730.trans (Ext.stp hX737 hS731.base); exact is_ext (g_move (v := .int .i64 ((p0[(Int.toNat (r24[(Int.toNat v694)]!))]!.2.1)[(Int.toNat v713)]!)) rfl)), ?_⟩
              refine ⟨.slice a133 n134 c135, fun w740 hX741 => od_plain rfl (by have hS742 := hS731.ext hX741; have hB743 := hB730.trans (Ext.stp hX741 hS731.base); exact is_ext (g_move (v := .slice a133 n134 c135) rfl)), ?_⟩
              refine ⟨.int .i64 ((p0[(Int.toNat (r24[(Int.toNat v694)]!))]!.2.1)[(Int.toNat v713)]!), fun w744 hX745 => od_plain rfl (by have hS746 := hS731.ext hX745; have hB747 := hB730.trans (Ext.stp hX745 hS731.base); exact is_ext (g_move (v := .int .i64 ((p0[(Int.toNat (r24[(Int.toNat v694)]!))]!.2.1)[(Int.toNat v713)]!)) rfl)), ?_⟩
              obtain ⟨hg752, hm⟩ := hm
              refine ⟨.pointer (some ((adr a133).add ((Int.toNat ((p0[(Int.toNat (r24[(Int.toNat v694)]!))]!.2.1)[(Int.toNat v713)]!)) * El.m Int))), fun w748 hX749 => od_plain rfl (by have hS750 := hS731.ext hX749; have hB751 := hB730.trans (Ext.stp hX749 hS731.base); exact is_ext (q_index (i := (p0[(Int.toNat (r24[(Int.toNat v694)]!))]!.2.1)[(Int.toNat v713)]!) SL24 rfl rfl (oS.vw hS750.g1) hg752)), ?_⟩
              refine ⟨.int .i64 (x712[(Int.toNat ((p0[(Int.toNat (r24[(Int.toNat v694)]!))]!.2.1)[(Int.toNat v713)]!))]!), fun w753 hX754 => od_plain rfl (by have hS755 := hS731.ext hX754; have hB756 := hB730.trans (Ext.stp hX754 hS731.base); exact is_ext (q_load (i := (p0[(Int.toNat (r24[(Int.toNat v694)]!))]!.2.1)[(Int.toNat v713)]!) (v := .int .i64 (x712[(Int.toNat ((p0[(Int.toNat (r24[(Int.toNat v694)]!))]!.2.1)[(Int.toNat v713)]!))]!)) ON3 (oS.vw hS755.g1) hg752 rfl rfl)), ?_⟩
              refine ⟨.slice a133 n134 c135, fun w757 hX758 => od_plain rfl (by have hS759 := hS731.ext hX758; have hB760 := hB730.trans (Ext.stp hX758 hS731.base); exact is_ext (g_move (v := .slice a133 n134 c135) rfl)), ?_⟩
              refine ⟨.int .i64 (r24[(Int.toNat v694)]!), fun w761 hX762 => od_plain rfl (by have hS763 := hS731.ext hX762; have hB764 := hB730.trans (Ext.stp hX762 hS731.base); exact is_ext (g_move (v := .int .i64 (r24[(Int.toNat v694)]!)) rfl)), ?_⟩
              obtain ⟨hg769, hm⟩ := hm
              refine ⟨.pointer (some ((adr a133).add ((Int.toNat (r24[(Int.toNat v694)]!)) * El.m Int))), fun w765 hX766 => od_plain rfl (by have hS767 := hS731.ext hX766; have hB768 := hB730.trans (Ext.stp hX766 hS731.base); exact is_ext (q_index (i := r24[(Int.toNat v694)]!) SL24 rfl rfl (oS.vw hS767.g1) hg769)), ?_⟩
              refine ⟨.int .i64 (x712[(Int.toNat (r24[(Int.toNat v694)]!))]!), fun w770 hX771 => od_plain rfl (by have hS772 := hS731.ext hX771; have hB773 := hB730.trans (Ext.stp hX771 hS731.base); exact is_ext (q_load (i := r24[(Int.toNat v694)]!) (v := .int .i64 (x712[(Int.toNat (r24[(Int.toNat v694)]!))]!)) ON3 (oS.vw hS772.g1) hg769 rfl rfl)), ?_⟩
              refine ⟨.slice a0 n0 c0, fun w774 hX775 => od_plain rfl (by have hS776 := hS731.ext hX775; have hB777 := hB730.trans (Ext.stp hX775 hS731.base); exact is_ext (g_move (v := .slice a0 n0 c0) rfl)), ?_⟩
              refine ⟨.int .i64 ((p0[(Int.toNat (r24[(Int.toNat v694)]!))]!.2.1)[(Int.toNat v713)]!), fun w778 hX779 => od_plain rfl (by have hS780 := hS731.ext hX779; have hB781 := hB730.trans (Ext.stp hX779 hS731.base); exact is_ext (g_move (v := .int .i64 ((p0[(Int.toNat (r24[(Int.toNat v694)]!))]!.2.1)[(Int.toNat v713)]!)) rfl)), ?_⟩
              obtain ⟨hg786, hm⟩ := hm
              refine ⟨.pointer (some ((adr a0).add ((Int.toNat ((p0[(Int.toNat (r24[(Int.toNat v694)]!))]!.2.1)[(Int.toNat v713)]!)) * El.m CueD))), fun w782 hX783 => od_plain rfl (by have hS784 := hS731.ext hX783; have hB785 := hB730.trans (Ext.stp hX783 hS731.base); exact is_ext (q_index (i := (p0[(Int.toNat (r24[(Int.toNat v694)]!))]!.2.1)[(Int.toNat v713)]!) SL26 rfl rfl (Tv.o (hp0.bel hB785)) (Tv.g (hp0.bel hB785) hg786))), ?_⟩
              refine ⟨.pointer (some (((adr a0).add ((Int.toNat ((p0[(Int.toNat (r24[(Int.toNat v694)]!))]!.2.1)[(Int.toNat v713)]!)) * El.m CueD)).add 0)), fun w787 hX788 => od_plain rfl (by have hS789 := hS731.ext hX788; have hB790 := hB730.trans (Ext.stp hX788 hS731.base); exact is_ext (g_fieldAddr (q := (adr a0).add ((Int.toNat ((p0[(Int.toNat (r24[(Int.toNat v694)]!))]!.2.1)[(Int.toNat v713)]!)) * El.m CueD)) FL39_0 ON3 rfl)), ?_⟩
              refine ⟨.int .i64 (p0[(Int.toNat ((p0[(Int.toNat (r24[(Int.toNat v694)]!))]!.2.1)[(Int.toNat v713)]!))]!.1), fun w791 hX792 => od_plain rfl (by have hS793 := hS731.ext hX792; have hB794 := hB730.trans (Ext.stp hX792 hS731.base); exact is_ext (q_loadF (i := (p0[(Int.toNat (r24[(Int.toNat v694)]!))]!.2.1)[(Int.toNat v713)]!) (j := 0) (v := .int .i64 (p0[(Int.toNat ((p0[(Int.toNat (r24[(Int.toNat v694)]!))]!.2.1)[(Int.toNat v713)]!))]!.1)) ON3 (Tv.o (hp0.bel hB794)) (Tv.g (hp0.bel hB794) hg786) (by rw [← Tv.ticks (hp0.bel hB794) hg786]; rfl) rfl)), ?_⟩
              obtain ⟨hg799, hm⟩ := hm
              refine ⟨.int .i64 (x712[(Int.toNat (r24[(Int.toNat v694)]!))]! - p0[(Int.toNat ((p0[(Int.toNat (r24[(Int.toNat v694)]!))]!.2.1)[(Int.toNat v713)]!))]!.1), fun w795 hX796 => od_plain rfl (by have hS797 := hS731.ext hX796; have hB798 := hB730.trans (Ext.stp hX796 hS731.base); exact is_ext (g_sub (a := x712[(Int.toNat (r24[(Int.toNat v694)]!))]!) (b := p0[(Int.toNat ((p0[(Int.toNat (r24[(Int.toNat v694)]!))]!.2.1)[(Int.toNat v713)]!))]!.1) rfl rfl hg799)), ?_⟩
              refine ⟨.int .i64 (min (x712[(Int.toNat ((p0[(Int.toNat (r24[(Int.toNat v694)]!))]!.2.1)[(Int.toNat v713)]!))]!) (x712[(Int.toNat (r24[(Int.toNat v694)]!))]! - p0[(Int.toNat ((p0[(Int.toNat (r24[(Int.toNat v694)]!))]!.2.1)[(Int.toNat v713)]!))]!.1)), fun w800 hX801 => od_plain rfl (by have hS802 := hS731.ext hX801; have hB803 := hB730.trans (Ext.stp hX801 hS731.base); exact is_ext (g_min (a := x712[(Int.toNat ((p0[(Int.toNat (r24[(Int.toNat v694)]!))]!.2.1)[(Int.toNat v713)]!))]!) (b := (x712[(Int.toNat (r24[(Int.toNat v694)]!))]! - p0[(Int.toNat ((p0[(Int.toNat (r24[(Int.toNat v694)]!))]!.2.1)[(Int.toNat v713)]!))]!.1)) rfl rfl)), ?_⟩
              obtain ⟨hg808, hm⟩ := hm
              refine ⟨.pointer (some ((adr a133).add ((Int.toNat ((p0[(Int.toNat (r24[(Int.toNat v694)]!))]!.2.1)[(Int.toNat v713)]!)) * El.m Int))), fun w804 hX805 => od_plain rfl (by have hS806 := hS731.ext hX805; have hB807 := hB730.trans (Ext.stp hX805 hS731.base); exact is_ext (q_index (i := (p0[(Int.toNat (r24[(Int.toNat v694)]!))]!.2.1)[(Int.toNat v713)]!) SL24 rfl rfl (oS.vw hS806.g1) hg808)), ?_⟩
              intro w809 hX810
              have hB811 := hB730.trans (Ext.stp hX810 hS731.base)
              have hS812 := hS731.ext hX810
              have hS816 := hS812.f1
              refine ⟨_, od_plain rfl (q_store (i := (p0[(Int.toNat (r24[(Int.toNat v694)]!))]!.2.1)[(Int.toNat v713)]!) (v := ((min (x712[(Int.toNat ((p0[(Int.toNat (r24[(Int.toNat v694)]!))]!.2.1)[(Int.toNat v713)]!))]!) (x712[(Int.toNat (r24[(Int.toNat v694)]!))]! - p0[(Int.toNat ((p0[(Int.toNat (r24[(Int.toNat v694)]!))]!.2.1)[(Int.toNat v713)]!))]!.1)) : Int)) hS816 ON3.sz hg808 rfl rfl rfl), ?_⟩
              rintro _ w813 ⟨rfl, hS814, hb815⟩
              have hB817 := hB811.trans hb815
              intro w818 hX819
              have hB820 := hB817.trans (Ext.stp hX819 hS814.base)
              have hS821 := hS814.ext hX819
              refine hK725 _ _ ?_
              refine w_region ?_
              obtain ⟨hg822, hm⟩ := hm
              refine wl_val (g_add (a := v713) (b := 1) rfl rfl hg822) rfl ?_
              refine wl_val (g_move (v := .int .i64 (v713 + 1)) rfl) rfl ?_
              refine wl_nil ?_
              have hS823 := hS821.f1
              exact ⟨((x712.set (Int.toNat ((p0[(Int.toNat (r24[(Int.toNat v694)]!))]!.2.1)[(Int.toNat v713)]!)) (min (x712[(Int.toNat ((p0[(Int.toNat (r24[(Int.toNat v694)]!))]!.2.1)[(Int.toNat v713)]!))]!) (x712[(Int.toNat (r24[(Int.toNat v694)]!))]! - p0[(Int.toNat ((p0[(Int.toNat (r24[(Int.toNat v694)]!))]!.2.1)[(Int.toNat v713)]!))]!.1))), (v713 + 1)), hm.2, ⟨rfl, rfl, rfl, rfl, rfl, rfl, rfl, rfl, trivial⟩, ⟨hm.1, hB820, hS823⟩⟩
            · replace hm := hm.2 h724
              refine w_exit ?_
              exact ⟨(x712), ⟨rfl, rfl, rfl, rfl, trivial⟩, ⟨hm, hB719, hS720⟩⟩
          · rintro x706 b_ w824 ⟨hm, hB825, hS826⟩
            show Wp _ _ _ _ (upds b_ [(0, .slice a0 n0 c0), (4, .slice a25 n26 c27), (5, .slice a133 n134 c135), (8, .int .i64 v694)]) w824
            refine w_region ?_
            refine wl_val (g_move (v := .int .i64 v694) rfl) rfl ?_
            obtain ⟨hg827, hm⟩ := hm
            refine wl_val (g_sub (a := v694) (b := 1) rfl rfl hg827) rfl ?_
            refine wl_val (g_assign (v := .int .i64 (v694 - 1)) rfl) rfl ?_
            refine wl_nil ?_
            exact ⟨(x706, (v694 - 1)), hm.2, ⟨rfl, rfl, rfl, rfl, trivial⟩, ⟨hm.1, hB825, hS826⟩⟩
        · replace hm := hm.2 h705
          refine w_exit ?_
          have hS828 := hS701.tail
          exact ⟨(x693), ⟨rfl, trivial⟩, ⟨hm, hB700, hS828⟩⟩
      · rintro x689 b_ w829 ⟨hm, hB830, hS831⟩
        show Wp _ _ _ _ (upds b_ [(5, .slice a133 n134 c135)]) w829
        refine w_seq fun K832 hK832 => ?_
        refine w_region ?_
        refine wl_val (g_move (v := .slice a133 n134 c135) rfl) rfl ?_
        refine wl_val (g_assign (v := .slice a133 n134 c135) rfl) rfl ?_
        refine wl_nil ?_
        refine hK832 _ _ ?_
        refine w_ret ?_
        repeat first | with_reducible refine q_then ?_ | with_reducible refine q_block ?_
        exact ret1 rfl (by decide) ⟨_, _, _, _, hm, rfl, toExt hB830, hS831⟩

end Go.Proofs.Ythmemoealgieaaa
