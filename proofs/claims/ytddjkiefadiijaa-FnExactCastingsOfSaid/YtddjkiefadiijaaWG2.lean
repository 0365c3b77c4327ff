/- The walks: the code does what its model says. Printed by a program (gen2.py). No statement of the claim stands here. -/
import Derived.Test.YtddjkiefadiijaaSop
import Derived.Test.YtddjkiefadiijaaFacts
import Derived.Test.YtddjkiefadiijaaMG
import Derived.Test.YtddjkiefadiijaaWG1
namespace Go.Proofs.Ytddjkiefadiijaa
open Go Go.RowKit
set_option maxRecDepth 100000
theorem m_laws_eqPlayer_fn {w : World} {a0_0 : Option Addr} {n0_0 c0_0 : Nat} {a1_0 : Option Addr} {n1_0 c1_0 : Nat} {Q : Bool → Prop} (p0 : PlayerC) (hp0_0 : Vw w.heap.size w a0_0 n0_0 c0_0 p0.1) (p1 : PlayerC) (hp1_0 : Vw w.heap.size w a1_0 n1_0 c1_0 p1.1) (hm : m_laws_eqPlayer p0 p1 Q) :
    Fn Try.prog 64 #[.agg #[.slice a0_0 n0_0 c0_0, .int .i64 p0.2], .agg #[.slice a1_0 n1_0 c1_0, .int .i64 p1.2]] w (fun v w' => ∃ (r0 : Bool), Q r0 ∧ v = .bool r0 ∧ Ext w w') := by
  unfold m_laws_eqPlayer at hm
  have hB0 := Below.refl w.heap.size w
  have hS0 : Sep w w.heap.size [] := Sep.nil (Nat.le_refl _)
  refine fn_of_wp Try.func64 rfl (by kernel_rfl) (Nat.le_of_ble_eq_true rfl) ?_
  refine w_seq fun K1 hK1 => ?_
  refine w_region ?_
  refine wl_step rfl (q_box (cs := #[.slice a0_0 n0_0 c0_0, .int .i64 p0.2]) rfl rfl hS0) ?_
  rintro _ w2 ⟨g3, rfl, hS5, hE4⟩
  have hB7 := hB0.trans (Ext.stp hE4 hS0.base)
  refine wl_step rfl (q_box (cs := #[.slice a1_0 n1_0 c1_0, .int .i64 p1.2]) rfl rfl hS5) ?_
  rintro _ w8 ⟨g9, rfl, hS11, hE10⟩
  have hB13 := hB7.trans (Ext.stp hE10 hS5.base)
  refine wl_val (g_assign (v := .bool false) rfl) rfl ?_
  refine wl_nil ?_
  refine hK1 _ _ ?_
  refine w_seq fun K14 hK14 => ?_
  refine w_seq fun K15 hK15 => ?_
  refine w_region ?_
  refine wl_val (g_fieldAddr (q := (⟨g3, 0, none⟩ : Addr)) FL54_0 ON23 rfl) rfl ?_
  refine wl_val (q_loadB (i := 0) (bs := #[.slice a0_0 n0_0 c0_0, .int .i64 p0.2]) hS11.g1 ON23 rfl rfl) rfl ?_
  refine wl_val (g_fieldAddr (q := (⟨g9, 0, none⟩ : Addr)) FL54_0 ON23 rfl) rfl ?_
  refine wl_val (q_loadB (i := 0) (bs := #[.slice a1_0 n1_0 c1_0, .int .i64 p1.2]) hS11.g0 ON23 rfl rfl) rfl ?_
  refine wl_step rfl (g_call (vs := #[.slice a0_0 n0_0 c0_0, .slice a1_0 n1_0 c1_0]) CF17 (args2 rfl rfl) (m_laws_eqIntS_fn ((hp0_0.bel hB13).up hS11) ((hp1_0.bel hB13).up hS11) hm)) ?_
  rintro _ w16 ⟨r19, hm, rfl, hE17⟩
  have hB20 := hB13.trans (Ext.stp hE17 hS11.base)
  have hS21 := hS11.ext hE17
  refine wl_val (g_not (a := r19) rfl) rfl ?_
  refine wl_nil ?_
  refine hK15 _ _ ?_
  refine w_condI (p := ¬ (r19 = true)) (b := (!r19)) rfl (i_not Iff.rfl) (fun h22 => ?_) (fun h22 => ?_)
  · replace hm := hm.1 h22
    refine w_seq fun K23 hK23 => ?_
    refine w_region ?_
    refine wl_val (g_assign (v := .bool false) rfl) rfl ?_
    refine wl_nil ?_
    refine hK23 _ _ ?_
    refine w_ret ?_
    repeat first | with_reducible refine q_then ?_ | with_reducible refine q_block ?_
    exact ret1 rfl (by decide) ⟨_, hm, rfl, toExt hB20⟩
  · replace hm := hm.2 h22
    refine w_skip ?_
    refine hK14 _ _ ?_
    refine w_seq fun K24 hK24 => ?_
    refine w_seq fun K25 hK25 => ?_
    refine w_region ?_
    refine wl_val (g_fieldAddr (q := (⟨g3, 0, none⟩ : Addr)) FL54_1 ON3 rfl) rfl ?_
    refine wl_val (q_loadB (i := 1) (bs := #[.slice a0_0 n0_0 c0_0, .int .i64 p0.2]) hS21.g1 ON3 rfl rfl) rfl ?_
    refine wl_val (g_fieldAddr (q := (⟨g9, 0, none⟩ : Addr)) FL54_1 ON3 rfl) rfl ?_
    refine wl_val (q_loadB (i := 1) (bs := #[.slice a1_0 n1_0 c1_0, .int .i64 p1.2]) hS21.g0 ON3 rfl rfl) rfl ?_
    refine wl_val (g_neq (a := p0.2) (b := p1.2) rfl rfl) rfl ?_
    refine wl_nil ?_
    refine hK25 _ _ ?_
    refine w_condI (p := p0.2 ≠ p1.2) (b := (decide (p0.2 ≠ p1.2))) rfl decide_eq_true_iff (fun h26 => ?_) (fun h26 => ?_)
    · replace hm := hm.1 h26
      refine w_seq fun K27 hK27 => ?_
      refine w_region ?_
      refine wl_val (g_assign (v := .bool false) rfl) rfl ?_
      refine wl_nil ?_
      refine hK27 _ _ ?_
      refine w_ret ?_
      repeat first | with_reducible refine q_then ?_ | with_reducible refine q_block ?_
      exact ret1 rfl (by decide) ⟨_, hm, rfl, toExt hB20⟩
    · replace hm := hm.2 h26
      refine w_skip ?_
      refine hK24 _ _ ?_
      refine w_seq fun K28 hK28 => ?_
      refine w_region ?_
      refine wl_val (g_assign (v := .bool true) rfl) rfl ?_
      refine wl_nil ?_
      refine hK28 _ _ ?_
      refine w_ret ?_
      repeat first | with_reducible refine q_then ?_ | with_reducible refine q_block ?_
      exact ret1 rfl (by decide) ⟨_, hm, rfl, toExt hB20⟩

theorem m_laws_eqPlayerS_fn {w : World} {a0 : Option Addr} {n0 c0 : Nat} {y0 : List PlayerD} {p0 : List PlayerC} {a1 : Option Addr} {n1 c1 : Nat} {y1 : List PlayerD} {p1 : List PlayerC} {Q : Bool → Prop} (hp0 : Tv w.heap.size w a0 n0 c0 y0 p0) (hp1 : Tv w.heap.size w a1 n1 c1 y1 p1) (hm : m_laws_eqPlayerS p0 p1 Q) :
    Fn Try.prog 18 #[.slice a0 n0 c0, .slice a1 n1 c1] w (fun v w' => ∃ (r0 : Bool), Q r0 ∧ v = .bool r0 ∧ Ext w w') := by
  unfold m_laws_eqPlayerS at hm
  have hB0 := Below.refl w.heap.size w
  have hS0 : Sep w w.heap.size [] := Sep.nil (Nat.le_refl _)
  refine fn_of_wp Try.func18 rfl (by kernel_rfl) (Nat.le_of_ble_eq_true rfl) ?_
  refine w_seq fun K1 hK1 => ?_
  refine w_region ?_
  refine wl_val (g_assign (v := .bool false) rfl) rfl ?_
  refine wl_nil ?_
  refine hK1 _ _ ?_
  refine w_seq fun K2 hK2 => ?_
  refine w_seq fun K3 hK3 => ?_
  refine w_region ?_
  refine wl_val (g_move (v := .slice a0 n0 c0) rfl) rfl ?_
  refine wl_val (q_len SL27 rfl (Tv.len (hp0.bel hB0))) rfl ?_
  refine wl_val (g_move (v := .slice a1 n1 c1) rfl) rfl ?_
  refine wl_val (q_len SL27 rfl (Tv.len (hp1.bel hB0))) rfl ?_
  refine wl_val (g_neq (a := (p0.length : Int)) (b := (p1.length : Int)) rfl rfl) rfl ?_
  refine wl_nil ?_
  refine hK3 _ _ ?_
  refine w_condI (p := (p0.length : Int) ≠ (p1.length : Int)) (b := (decide ((p0.length : Int) ≠ (p1.length : Int)))) rfl decide_eq_true_iff (fun h4 => ?_) (fun h4 => ?_)
  · replace hm := hm.1 h4
    refine w_seq fun K5 hK5 => ?_
    refine w_region ?_
    refine wl_val (g_assign (v := .bool false) rfl) rfl ?_
    refine wl_nil ?_
    refine hK5 _ _ ?_
    refine w_ret ?_
    repeat first | with_reducible refine q_then ?_ | with_reducible refine q_block ?_
    exact ret1 rfl (by decide) ⟨_, hm, rfl, toExt hB0⟩
  · replace hm := hm.2 h4
    refine w_skip ?_
    refine hK2 _ _ ?_
    refine w_cut (σ := Unit) (fun _ => []) (fun _ w' => m_laws_eqPlayerS_K0 Q ∧ Below w.heap.size w w' ∧ Sep w' w.heap.size []) ?_ ?_
    · refine w_seq fun K7 hK7 => ?_
      refine w_region ?_
      refine wl_val (g_assign (v := .int .i64 0) rfl) rfl ?_
      refine wl_nil ?_
      refine hK7 _ _ ?_
      refine w_block ?_
      obtain ⟨I77, μ78, h079, hr80⟩ := hm
      refine w_for (σ := Int) (fun v76 => [(0, .slice a0 n0 c0), (1, .slice a1 n1 c1), (5, .int .i64 v76)]) (fun v76 w' => I77 v76 ∧ Below w.heap.size w w' ∧ Sep w' w.heap.size []) (fun v76 => μ78 v76) (0) ⟨rfl, rfl, rfl, trivial⟩ ⟨h079, hB0, hS0⟩ ?_
      rintro v76 b_ w81 ⟨hi_, hB82, hS83⟩
      show Wp _ _ _ _ (upds b_ [(0, .slice a0 n0 c0), (1, .slice a1 n1 c1), (5, .int .i64 v76)]) w81
      have hm := hr80 v76 hi_
      refine w_seq fun K85 hK85 => ?_
      refine w_seq fun K86 hK86 => ?_
      refine w_region ?_
      refine wl_val (g_move (v := .int .i64 v76) rfl) rfl ?_
      refine wl_val (g_move (v := .slice a0 n0 c0) rfl) rfl ?_
      refine wl_val (q_len SL27 rfl (Tv.len (hp0.bel hB82))) rfl ?_
      refine wl_val (g_lss (a := v76) (b := (p0.length : Int)) rfl rfl) rfl ?_
      refine wl_nil ?_
      refine hK86 _ _ ?_
      refine w_condI (p := v76 < (p0.length : Int)) (b := (decide (v76 < (p0.length : Int)))) rfl decide_eq_true_iff (fun h87 => ?_) (fun h87 => ?_)
      · replace hm := hm.1 h87
        refine w_skip ?_
        refine hK85 _ _ ?_
        refine w_seq fun K88 hK88 => ?_
        refine w_block ?_
        refine w_seq fun K89 hK89 => ?_
        refine w_draw (X := Ext) (Y := Ext) [] MIX (by decide +kernel) rfl Ext.refl (fun _ _ _ => Ext.trans) (fun _ _ _ => Chg.trans) (fun _ _ h => Ext.chg h _) (fun w90 hE91 => ?_)
        have hB92 := hB82.trans (Ext.stp hE91 hS83.base)
        have hS93 := hS83.ext hE91
        refine ⟨.slice a0 n0 c0, fun w94 hX95 => od_plain rfl (by have hS96 := hS93.ext hX95; have hB97 := hB92.trans (Ext.stp hX95 hS93.base); exact is_ext (g_move (v := .slice a0 n0 c0) rfl)), ?_⟩
        refine ⟨.int .i64 v76, fun w98 hX99 => od_plain rfl (by have hS100 := hS93.ext hX99; have hB101 := hB92.trans (Ext.stp hX99 hS93.base); exact is_ext (g_move (v := .int .i64 v76) rfl)), ?_⟩
        obtain ⟨hg106, hm⟩ := hm
        refine ⟨.pointer (some ((adr a0).add ((Int.toNat v76) * El.m PlayerD))), fun w102 hX103 => od_plain rfl (by have hS104 := hS93.ext hX103; have hB105 := hB92.trans (Ext.stp hX103 hS93.base); exact is_ext (q_index (i := v76) SL27 rfl rfl (Tv.o (hp0.bel hB105)) (Tv.g (hp0.bel hB105) hg106))), ?_⟩
        refine ⟨.agg #[.slice ((y0[(Int.toNat v76)]!).1.1) ((y0[(Int.toNat v76)]!).1.2.2.length) ((y0[(Int.toNat v76)]!).1.2.1), .int .i64 (p0[(Int.toNat v76)]!.2)], fun w107 hX108 => od_plain rfl (by have hS109 := hS93.ext hX108; have hB110 := hB92.trans (Ext.stp hX108 hS93.base); exact is_ext (q_loadS (i := v76) (cs := [.slice ((y0[(Int.toNat v76)]!).1.1) ((y0[(Int.toNat v76)]!).1.2.2.length) ((y0[(Int.toNat v76)]!).1.2.1), .int .i64 (p0[(Int.toNat v76)]!.2)]) AG54 (Tv.o (hp0.bel hB110)) (Tv.g (hp0.bel hB110) hg106) (by rw [← Tv.free (hp0.bel hB110) hg106]; rfl) rfl)), ?_⟩
        refine ⟨.slice a1 n1 c1, fun w111 hX112 => od_plain rfl (by have hS113 := hS93.ext hX112; have hB114 := hB92.trans (Ext.stp hX112 hS93.base); exact is_ext (g_move (v := .slice a1 n1 c1) rfl)), ?_⟩
        refine ⟨.int .i64 v76, fun w115 hX116 => od_plain rfl (by have hS117 := hS93.ext hX116; have hB118 := hB92.trans (Ext.stp hX116 hS93.base); exact is_ext (g_move (v := .int .i64 v76) rfl)), ?_⟩
        obtain ⟨hg123, hm⟩ := hm
        refine ⟨.pointer (some ((adr a1).add ((Int.toNat v76) * El.m PlayerD))), fun w119 hX120 => od_plain rfl (by have hS121 := hS93.ext hX120; have hB122 := hB92.trans (Ext.stp hX120 hS93.base); exact is_ext (q_index (i := v76) SL27 rfl rfl (Tv.o (hp1.bel hB122)) (Tv.g (hp1.bel hB122) hg123))), ?_⟩
        refine ⟨.agg #[.slice ((y1[(Int.toNat v76)]!).1.1) ((y1[(Int.toNat v76)]!).1.2.2.length) ((y1[(Int.toNat v76)]!).1.2.1), .int .i64 (p1[(Int.toNat v76)]!.2)], fun w124 hX125 => od_plain rfl (by have hS126 := hS93.ext hX125; have hB127 := hB92.trans (Ext.stp hX125 hS93.base); exact is_ext (q_loadS (i := v76) (cs := [.slice ((y1[(Int.toNat v76)]!).1.1) ((y1[(Int.toNat v76)]!).1.2.2.length) ((y1[(Int.toNat v76)]!).1.2.1), .int .i64 (p1[(Int.toNat v76)]!.2)]) AG54 (Tv.o (hp1.bel hB127)) (Tv.g (hp1.bel hB127) hg123) (by rw [← Tv.free (hp1.bel hB127) hg123]; rfl) rfl)), ?_⟩
        obtain ⟨r132, hk133, hm⟩ := hm
        refine ⟨.bool r132, fun w128 hX129 => od_plain rfl (by have hS130 := hS93.ext hX129; have hB131 := hB92.trans (Ext.stp hX129 hS93.base); exact (g_call (vs := #[.agg #[.slice ((y0[(Int.toNat v76)]!).1.1) ((y0[(Int.toNat v76)]!).1.2.2.length) ((y0[(Int.toNat v76)]!).1.2.1), .int .i64 (p0[(Int.toNat v76)]!.2)], .agg #[.slice ((y1[(Int.toNat v76)]!).1.1) ((y1[(Int.toNat v76)]!).1.2.2.length) ((y1[(Int.toNat v76)]!).1.2.1), .int .i64 (p1[(Int.toNat v76)]!.2)]]) CF64 (args2 rfl rfl) ((m_laws_eqPlayer_fn (p0[(Int.toNat v76)]!) ((Tv.rowP (hp0.bel hB131) hg106).up hS130) (p1[(Int.toNat v76)]!) ((Tv.rowP (hp1.bel hB131) hg123).up hS130) hk133).mono fun _ _ ⟨_, h1, h2, h3⟩ => ⟨by rw [h2, h1], h3⟩))), ?_⟩
        refine ⟨.bool (!r132), fun w134 hX135 => od_plain rfl (by have hS136 := hS93.ext hX135; have hB137 := hB92.trans (Ext.stp hX135 hS93.base); exact is_ext (g_not (a := r132) rfl)), ?_⟩
        intro w138 hX139
        have hB140 := hB92.trans (Ext.stp hX139 hS93.base)
        have hS141 := hS93.ext hX139
        refine hK89 _ _ ?_
        refine w_condI (p := ¬ (r132 = true)) (b := (!r132)) rfl (i_not Iff.rfl) (fun h142 => ?_) (fun h142 => ?_)
        · replace hm := hm.1 h142
          refine w_seq fun K143 hK143 => ?_
          refine w_region ?_
          refine wl_val (g_assign (v := .bool false) rfl) rfl ?_
          refine wl_nil ?_
          refine hK143 _ _ ?_
          refine w_ret ?_
          repeat first | with_reducible refine q_then ?_ | with_reducible refine q_block ?_
          exact ret1 rfl (by decide) ⟨_, hm, rfl, toExt hB140⟩
        · replace hm := hm.2 h142
          refine w_skip ?_
          refine hK88 _ _ ?_
          refine w_region ?_
          refine wl_val (g_move (v := .int .i64 v76) rfl) rfl ?_
          obtain ⟨hg144, hm⟩ := hm
          refine wl_val (g_add (a := v76) (b := 1) rfl rfl hg144) rfl ?_
          refine wl_val (g_assign (v := .int .i64 (v76 + 1)) rfl) rfl ?_
          refine wl_nil ?_
          exact ⟨((v76 + 1)), hm.2, ⟨rfl, rfl, rfl, trivial⟩, ⟨hm.1, hB140, hS141⟩⟩
      · replace hm := hm.2 h87
        refine w_exit ?_
        exact ⟨(), trivial, ⟨hm, hB82, hS83⟩⟩
    · rintro _ b_ w145 ⟨hm, hB146, hS147⟩
      show Wp _ _ _ _ (upds b_ []) w145
      refine w_seq fun K148 hK148 => ?_
      refine w_region ?_
      refine wl_val (g_assign (v := .bool true) rfl) rfl ?_
      refine wl_nil ?_
      refine hK148 _ _ ?_
      refine w_ret ?_
      repeat first | with_reducible refine q_then ?_ | with_reducible refine q_block ?_
      exact ret1 rfl (by decide) ⟨_, hm, rfl, toExt hB146⟩

theorem m_laws_markIntS_fn {w : World} {B_ : Nat} {L_ : List Ob} {a0 : Option Addr} {n0 c0 : Nat} {p0 : List Int} {Q : Int → (List Int) → Prop} (hS0 : Sep w B_ (oS 3 a0 n0 c0 (p0 : List Int) :: L_)) (p1 : Int) (hm : m_laws_markIntS p0 p1 Q) :
    Fn Try.prog 20 #[.slice a0 n0 c0, .int .i64 p1] w (fun v w' => ∃ (r0 : Int) (x0 : List Int), Q r0 x0 ∧ v = .int .i64 r0 ∧ Below B_ w w' ∧ Sep w' B_ (oS 3 a0 n0 c0 x0 :: L_)) := by
  unfold m_laws_markIntS at hm
  have hB0 := Below.refl B_ w
  refine fn_of_wp Try.func20 rfl (by kernel_rfl) (Nat.le_of_ble_eq_true rfl) ?_
  refine w_seq fun K2 hK2 => ?_
  refine w_region ?_
  refine wl_val (g_assign (v := .int .i64 0) rfl) rfl ?_
  refine wl_nil ?_
  refine hK2 _ _ ?_
  refine w_cut (σ := List Int × Int) (fun ⟨x48, v49⟩ => [(1, .int .i64 v49)]) (fun ⟨x48, v49⟩ w' => m_laws_markIntS_K0 Q x48 v49 ∧ Below B_ w w' ∧ Sep w' B_ (oS 3 a0 n0 c0 (x48 : List Int) :: L_)) ?_ ?_
  · refine w_seq fun K51 hK51 => ?_
    refine w_region ?_
    refine wl_val (g_assign (v := .int .i64 0) rfl) rfl ?_
    refine wl_nil ?_
    refine hK51 _ _ ?_
    refine w_block ?_
    obtain ⟨I55, μ56, h057, hr58⟩ := hm
    refine w_for (σ := List Int × Int × Int) (fun ⟨x52, v53, v54⟩ => [(0, .slice a0 n0 c0), (1, .int .i64 v53), (5, .int .i64 v54)]) (fun ⟨x52, v53, v54⟩ w' => I55 x52 v53 v54 ∧ Below B_ w w' ∧ Sep w' B_ (oS 3 a0 n0 c0 (x52 : List Int) :: L_)) (fun ⟨x52, v53, v54⟩ => μ56 x52 v53 v54) (p0, p1, 0) ⟨rfl, rfl, rfl, trivial⟩ ⟨h057, hB0, hS0⟩ ?_
    rintro ⟨x52, v53, v54⟩ b_ w59 ⟨hi_, hB60, hS61⟩
    show Wp _ _ _ _ (upds b_ [(0, .slice a0 n0 c0), (1, .int .i64 v53), (5, .int .i64 v54)]) w59
    have hm := hr58 x52 v53 v54 hi_
    refine w_seq fun K63 hK63 => ?_
    refine w_seq fun K64 hK64 => ?_
    refine w_region ?_
    refine wl_val (g_move (v := .int .i64 v54) rfl) rfl ?_
    refine wl_val (g_move (v := .slice a0 n0 c0) rfl) rfl ?_
    refine wl_val (q_len SL23 rfl (Vw.len (oS.vw hS61.g0))) rfl ?_
    refine wl_val (g_lss (a := v54) (b := (x52.length : Int)) rfl rfl) rfl ?_
    refine wl_nil ?_
    refine hK64 _ _ ?_
    refine w_condI (p := v54 < (x52.length : Int)) (b := (decide (v54 < (x52.length : Int)))) rfl decide_eq_true_iff (fun h65 => ?_) (fun h65 => ?_)
    · replace hm := hm.1 h65
      refine w_skip ?_
      refine hK63 _ _ ?_
      refine w_seq fun K66 hK66 => ?_
      refine w_block ?_
      refine w_seq fun K67 hK67 => ?_
      refine w_region ?_
      refine wl_val (g_move (v := .slice a0 n0 c0) rfl) rfl ?_
      refine wl_val (g_move (v := .int .i64 v54) rfl) rfl ?_
      refine wl_val (g_move (v := .int .i64 v53) rfl) rfl ?_
      obtain ⟨hg68, hm⟩ := hm
      refine wl_val (q_index (i := v54) SL23 rfl rfl (oS.vw hS61.g0) hg68) rfl ?_
      refine wl_step rfl (q_store (i := v54) (v := (v53 : Int)) hS61 ON3.sz hg68 rfl rfl rfl) ?_
      rintro _ w69 ⟨rfl, hS70, hb71⟩
      have hB72 := hB60.trans hb71
      refine wl_nil ?_
      refine hK67 _ _ ?_
      refine w_region ?_
      refine wl_val (g_move (v := .int .i64 v53) rfl) rfl ?_
      obtain ⟨hg73, hm⟩ := hm
      refine wl_val (g_add (a := v53) (b := 1) rfl rfl hg73) rfl ?_
      refine wl_val (g_assign (v := .int .i64 (v53 + 1)) rfl) rfl ?_
      refine wl_nil ?_
      refine hK66 _ _ ?_
      refine w_region ?_
      refine wl_val (g_move (v := .int .i64 v54) rfl) rfl ?_
      obtain ⟨hg74, hm⟩ := hm
      refine wl_val (g_add (a := v54) (b := 1) rfl rfl hg74) rfl ?_
      refine wl_val (g_assign (v := .int .i64 (v54 + 1)) rfl) rfl ?_
      refine wl_nil ?_
      exact ⟨((x52.set (Int.toNat v54) v53), (v53 + 1), (v54 + 1)), hm.2, ⟨rfl, rfl, rfl, trivial⟩, ⟨hm.1, hB72, hS70⟩⟩
    · replace hm := hm.2 h65
      refine w_exit ?_
      exact ⟨(x52, v53), ⟨rfl, trivial⟩, ⟨hm, hB60, hS61⟩⟩
  · rintro ⟨x48, v49⟩ b_ w75 ⟨hm, hB76, hS77⟩
    show Wp _ _ _ _ (upds b_ [(1, .int .i64 v49)]) w75
    refine w_seq fun K78 hK78 => ?_
    refine w_region ?_
    refine wl_val (g_move (v := .int .i64 v49) rfl) rfl ?_
    refine wl_val (g_assign (v := .int .i64 v49) rfl) rfl ?_
    refine wl_nil ?_
    refine hK78 _ _ ?_
    refine w_ret ?_
    repeat first | with_reducible refine q_then ?_ | with_reducible refine q_block ?_
    exact ret1 rfl (by decide) ⟨_, _, hm, rfl, hB76, hS77⟩

theorem m_laws_markPlayerS_fn {w : World} {B_ : Nat} {L_ : List Ob} {a0 : Option Addr} {n0 c0 : Nat} {p0 : List PlayerC} {y0 : List PlayerD} {Q : Int → (List PlayerC) → Prop} (hS0 : Sep w B_ (oS 54 a0 n0 c0 (y0 : List PlayerD) :: oT 3 (y0 : List PlayerD) :: L_)) (hep0 : ers y0 = p0) (p1 : Int) (hm : m_laws_markPlayerS p0 p1 Q) :
    Fn Try.prog 19 #[.slice a0 n0 c0, .int .i64 p1] w (fun v w' => ∃ (r0 : Int) (x0 : List PlayerC) (yy0 : List PlayerD), Q r0 x0 ∧ ers yy0 = x0 ∧ v = .int .i64 r0 ∧ Below B_ w w' ∧ Sep w' B_ (oS 54 a0 n0 c0 yy0 :: oT 3 yy0 :: L_)) := by
  unfold m_laws_markPlayerS at hm
  have hB0 := Below.refl B_ w
  refine fn_of_wp Try.func19 rfl (by kernel_rfl) (Nat.le_of_ble_eq_true rfl) ?_
  refine w_seq fun K4 hK4 => ?_
  refine w_region ?_
  refine wl_val (g_assign (v := .int .i64 0) rfl) rfl ?_
  refine wl_nil ?_
  refine hK4 _ _ ?_
  refine w_cut (σ := List PlayerC × List PlayerD × Int) (fun ⟨x103, y104, v106⟩ => [(1, .int .i64 v106)]) (fun ⟨x103, y104, v106⟩ w' => m_laws_markPlayerS_K0 Q x103 v106 ∧ ers y104 = x103 ∧ Below B_ w w' ∧ Sep w' B_ (oS 54 a0 n0 c0 (y104 : List PlayerD) :: oT 3 (y104 : List PlayerD) :: L_)) ?_ ?_
  · refine w_seq fun K108 hK108 => ?_
    refine w_region ?_
    refine wl_val (g_assign (v := .int .i64 0) rfl) rfl ?_
    refine wl_nil ?_
    refine hK108 _ _ ?_
    refine w_block ?_
    obtain ⟨I114, μ115, h0116, hr117⟩ := hm
    refine w_for (σ := List PlayerC × List PlayerD × Int × Int) (fun ⟨x109, y110, v112, v113⟩ => [(0, .slice a0 n0 c0), (1, .int .i64 v112), (5, .int .i64 v113)]) (fun ⟨x109, y110, v112, v113⟩ w' => I114 x109 v112 v113 ∧ ers y110 = x109 ∧ Below B_ w w' ∧ Sep w' B_ (oS 54 a0 n0 c0 (y110 : List PlayerD) :: oT 3 (y110 : List PlayerD) :: L_)) (fun ⟨x109, y110, v112, v113⟩ => μ115 x109 v112 v113) (p0, y0, p1, 0) ⟨rfl, rfl, rfl, trivial⟩ ⟨h0116, hep0, hB0, hS0⟩ ?_
    rintro ⟨x109, y110, v112, v113⟩ b_ w118 ⟨hi_, he111, hB119, hS120⟩
    show Wp _ _ _ _ (upds b_ [(0, .slice a0 n0 c0), (1, .int .i64 v112), (5, .int .i64 v113)]) w118
    have hm := hr117 x109 v112 v113 hi_
    refine w_seq fun K122 hK122 => ?_
    refine w_seq fun K123 hK123 => ?_
    refine w_region ?_
    refine wl_val (g_move (v := .int .i64 v113) rfl) rfl ?_
    refine wl_val (g_move (v := .slice a0 n0 c0) rfl) rfl ?_
    refine wl_val (q_len SL27 rfl (Tv.len (oT.vw hS120.g0 hS120.g1 he111))) rfl ?_
    refine wl_val (g_lss (a := v113) (b := (x109.length : Int)) rfl rfl) rfl ?_
    refine wl_nil ?_
    refine hK123 _ _ ?_
    refine w_condI (p := v113 < (x109.length : Int)) (b := (decide (v113 < (x109.length : Int)))) rfl decide_eq_true_iff (fun h124 => ?_) (fun h124 => ?_)
    · replace hm := hm.1 h124
      refine w_skip ?_
      refine hK122 _ _ ?_
      refine w_seq fun K125 hK125 => ?_
      refine w_block ?_
      refine w_seq fun K126 hK126 => ?_
      refine w_region ?_
      refine wl_val (g_move (v := .slice a0 n0 c0) rfl) rfl ?_
      refine wl_val (g_move (v := .int .i64 v113) rfl) rfl ?_
      obtain ⟨hg127, hm⟩ := hm
      refine wl_val (q_index (i := v113) SL27 rfl rfl (Tv.o (oT.vw hS120.g0 hS120.g1 he111)) (Tv.g (oT.vw hS120.g0 hS120.g1 he111) hg127)) rfl ?_
      refine wl_val (g_fieldAddr (q := (adr a0).add ((Int.toNat v113) * El.m PlayerD)) FL54_0 ON23 rfl) rfl ?_
      refine wl_val (q_loadF (i := v113) (j := 0) (v := .slice ((y110[(Int.toNat v113)]!).1.1) ((y110[(Int.toNat v113)]!).1.2.2.length) ((y110[(Int.toNat v113)]!).1.2.1)) ON23 (Tv.o (oT.vw hS120.g0 hS120.g1 he111)) (Tv.g (oT.vw hS120.g0 hS120.g1 he111) hg127) rfl rfl) rfl ?_
      refine wl_val (g_move (v := .int .i64 v112) rfl) rfl ?_
      have hS128 := hS120.f1
      have hS129 := hS128.f1
      have hd130 := Sep.dis hS129
      have hl131 : (Int.toNat v113) < (y110).length := by have h1 := (hg127).1; have h2 := (hg127).2; have h3 := congrArg List.length he111; simp only [ers, List.length_map] at h3; omega
      have he134 : (Rw.row (y110)[(Int.toNat v113)]! 0).2.2 = x109[(Int.toNat v113)]!.1 := by rw [← he111]; simp only [er_get hl131]; rfl
      have hS135 := Sep.foc (i := (Int.toNat v113)) (j := 0) hS129 hl131 (by decide) he134
      refine wl_step rfl (g_call (vs := #[.slice ((y110[(Int.toNat v113)]!).1.1) ((y110[(Int.toNat v113)]!).1.2.2.length) ((y110[(Int.toNat v113)]!).1.2.1), .int .i64 v112]) CF20 (args2 rfl rfl) (m_laws_markIntS_fn hS135 v112 hm)) ?_
      rintro _ w136 ⟨r139, x140, hm, rfl, hb137, hS138⟩
      have hB141 := hB119.trans hb137
      have hS142 := Sep.unfoc (i := (Int.toNat v113)) (j := 0) (ys := y110) hS138 hl131 (by decide) rfl hd130
      have he143 : ers (y110.set (Int.toNat v113) (Rs.rset (y110)[(Int.toNat v113)]! 0 x140)) = (x109.set (Int.toNat v113) (x140, x109[(Int.toNat v113)]!.2)) := ers_set he111 (by first | rfl | (rw [← he111, er_get hl131]; rfl)) _
      refine wl_val (g_assign (v := .int .i64 r139) rfl) rfl ?_
      refine wl_nil ?_
      refine hK126 _ _ ?_
      refine w_seq fun K144 hK144 => ?_
      refine w_region ?_
      refine wl_val (g_move (v := .slice a0 n0 c0) rfl) rfl ?_
      refine wl_val (g_move (v := .int .i64 v113) rfl) rfl ?_
      refine wl_val (g_move (v := .int .i64 r139) rfl) rfl ?_
      obtain ⟨hg145, hm⟩ := hm
      refine wl_val (q_index (i := v113) SL27 rfl rfl (Tv.o (oT.vw hS142.g0 hS142.g1 he143)) (Tv.g (oT.vw hS142.g0 hS142.g1 he143) hg145)) rfl ?_
      refine wl_val (g_fieldAddr (q := (adr a0).add ((Int.toNat v113) * El.m PlayerD)) FL54_1 ON3 rfl) rfl ?_
      have hS149 := hS142.f1
      have hS150 := hS149.f1
      have hl151 : ix v113 ((y110.set (Int.toNat v113) (Rs.rset (y110)[(Int.toNat v113)]! 0 x140))).length := by have h3 := congrArg List.length he143; simp only [ers, List.length_map] at h3; rw [h3]; exact hg145
      refine wl_step rfl (q_storeF (i := v113) (j := 1) (v := ((((y110.set (Int.toNat v113) (Rs.rset (y110)[(Int.toNat v113)]! 0 x140)))[(Int.toNat v113)]!.1, r139) : PlayerD)) hS150 ON3 hl151 rfl rfl rfl rfl (by decide) rfl) ?_
      rintro _ w146 ⟨rfl, hS147, hb148⟩
      have hB152 := hB141.trans hb148
      have hl153 : (Int.toNat v113) < ((y110.set (Int.toNat v113) (Rs.rset (y110)[(Int.toNat v113)]! 0 x140))).length := by have h1 := (hl151).1; have h2 := (hl151).2; omega
      have he154 : ers ((y110.set (Int.toNat v113) (Rs.rset (y110)[(Int.toNat v113)]! 0 x140)).set (Int.toNat v113) (((y110.set (Int.toNat v113) (Rs.rset (y110)[(Int.toNat v113)]! 0 x140)))[(Int.toNat v113)]!.1, r139)) = ((x109.set (Int.toNat v113) (x140, x109[(Int.toNat v113)]!.2)).set (Int.toNat v113) ((x109.set (Int.toNat v113) (x140, x109[(Int.toNat v113)]!.2))[(Int.toNat v113)]!.1, r139)) := ers_set he143 (by first | rfl | (rw [← he143, er_get hl153]; rfl)) _
      have hS155 := hS147.f1
      have hS156 := hS155.rowsSame (ys' := ((y110.set (Int.toNat v113) (Rs.rset (y110)[(Int.toNat v113)]! 0 x140)).set (Int.toNat v113) (((y110.set (Int.toNat v113) (Rs.rset (y110)[(Int.toNat v113)]! 0 x140)))[(Int.toNat v113)]!.1, r139))) (by simp) (fun i' j' h1 h2 => by rw [set_at _ _ _ hl153]; exact if hc : (Int.toNat v113) = i' then (by subst hc; rw [if_pos rfl]; rfl) else (by rw [if_neg hc]))
      refine wl_nil ?_
      refine hK144 _ _ ?_
      refine w_region ?_
      refine wl_val (g_move (v := .int .i64 r139) rfl) rfl ?_
      obtain ⟨hg157, hm⟩ := hm
      refine wl_val (g_add (a := r139) (b := 1) rfl rfl hg157) rfl ?_
      refine wl_val (g_assign (v := .int .i64 (r139 + 1)) rfl) rfl ?_
      refine wl_nil ?_
      refine hK125 _ _ ?_
      refine w_region ?_
      refine wl_val (g_move (v := .int .i64 v113) rfl) rfl ?_
      obtain ⟨hg158, hm⟩ := hm
      refine wl_val (g_add (a := v113) (b := 1) rfl rfl hg158) rfl ?_
      refine wl_val (g_assign (v := .int .i64 (v113 + 1)) rfl) rfl ?_
      refine wl_nil ?_
      have hS159 := hS156.f1
      exact ⟨(((x109.set (Int.toNat v113) (x140, x109[(Int.toNat v113)]!.2)).set (Int.toNat v113) ((x109.set (Int.toNat v113) (x140, x109[(Int.toNat v113)]!.2))[(Int.toNat v113)]!.1, r139)), ((y110.set (Int.toNat v113) (Rs.rset (y110)[(Int.toNat v113)]! 0 x140)).set (Int.toNat v113) (((y110.set (Int.toNat v113) (Rs.rset (y110)[(Int.toNat v113)]! 0 x140)))[(Int.toNat v113)]!.1, r139)), (r139 + 1), (v113 + 1)), hm.2, ⟨rfl, rfl, rfl, trivial⟩, ⟨hm.1, he154, hB152, hS159⟩⟩
    · replace hm := hm.2 h124
      refine w_exit ?_
      exact ⟨(x109, y110, v112), ⟨rfl, trivial⟩, ⟨hm, he111, hB119, hS120⟩⟩
  · rintro ⟨x103, y104, v106⟩ b_ w160 ⟨hm, he105, hB161, hS162⟩
    show Wp _ _ _ _ (upds b_ [(1, .int .i64 v106)]) w160
    refine w_seq fun K163 hK163 => ?_
    refine w_region ?_
    refine wl_val (g_move (v := .int .i64 v106) rfl) rfl ?_
    refine wl_val (g_assign (v := .int .i64 v106) rfl) rfl ?_
    refine wl_nil ?_
    refine hK163 _ _ ?_
    refine w_ret ?_
    repeat first | with_reducible refine q_then ?_ | with_reducible refine q_block ?_
    exact ret1 rfl (by decide) ⟨_, _, _, hm, he105, rfl, hB161, hS162⟩

theorem m_laws_heldIntS_fn {w : World} {a0 : Option Addr} {n0 c0 : Nat} {p0 : List Int} {Q : Int → Prop} (hp0 : Vw w.heap.size w a0 n0 c0 p0) (p1 : Int) (hm : m_laws_heldIntS p0 p1 Q) :
    Fn Try.prog 21 #[.slice a0 n0 c0, .int .i64 p1] w (fun v w' => ∃ (r0 : Int), Q r0 ∧ v = .int .i64 r0 ∧ Ext w w') := by
  unfold m_laws_heldIntS at hm
  have hB0 := Below.refl w.heap.size w
  have hS0 : Sep w w.heap.size [] := Sep.nil (Nat.le_refl _)
  refine fn_of_wp Try.func21 rfl (by kernel_rfl) (Nat.le_of_ble_eq_true rfl) ?_
  refine w_seq fun K1 hK1 => ?_
  refine w_region ?_
  refine wl_val (g_assign (v := .int .i64 0) rfl) rfl ?_
  refine wl_nil ?_
  refine hK1 _ _ ?_
  refine w_cut (σ := Int) (fun v44 => [(1, .int .i64 v44)]) (fun v44 w' => m_laws_heldIntS_K0 Q v44 ∧ Below w.heap.size w w' ∧ Sep w' w.heap.size []) ?_ ?_
  · refine w_seq fun K46 hK46 => ?_
    refine w_region ?_
    refine wl_val (g_assign (v := .int .i64 0) rfl) rfl ?_
    refine wl_nil ?_
    refine hK46 _ _ ?_
    refine w_block ?_
    obtain ⟨I49, μ50, h051, hr52⟩ := hm
    refine w_for (σ := Int × Int) (fun ⟨v47, v48⟩ => [(0, .slice a0 n0 c0), (1, .int .i64 v47), (5, .int .i64 v48)]) (fun ⟨v47, v48⟩ w' => I49 v47 v48 ∧ Below w.heap.size w w' ∧ Sep w' w.heap.size []) (fun ⟨v47, v48⟩ => μ50 v47 v48) (p1, 0) ⟨rfl, rfl, rfl, trivial⟩ ⟨h051, hB0, hS0⟩ ?_
    rintro ⟨v47, v48⟩ b_ w53 ⟨hi_, hB54, hS55⟩
    show Wp _ _ _ _ (upds b_ [(0, .slice a0 n0 c0), (1, .int .i64 v47), (5, .int .i64 v48)]) w53
    have hm := hr52 v47 v48 hi_
    refine w_seq fun K57 hK57 => ?_
    refine w_seq fun K58 hK58 => ?_
    refine w_region ?_
    refine wl_val (g_move (v := .int .i64 v48) rfl) rfl ?_
    refine wl_val (g_move (v := .slice a0 n0 c0) rfl) rfl ?_
    refine wl_val (q_len SL23 rfl (Vw.len (hp0.bel hB54))) rfl ?_
    refine wl_val (g_lss (a := v48) (b := (p0.length : Int)) rfl rfl) rfl ?_
    refine wl_nil ?_
    refine hK58 _ _ ?_
    refine w_condI (p := v48 < (p0.length : Int)) (b := (decide (v48 < (p0.length : Int)))) rfl decide_eq_true_iff (fun h59 => ?_) (fun h59 => ?_)
    · replace hm := hm.1 h59
      refine w_skip ?_
      refine hK57 _ _ ?_
      refine w_seq fun K60 hK60 => ?_
      refine w_block ?_
      refine w_seq fun K61 hK61 => ?_
      refine w_seq fun K62 hK62 => ?_
      refine w_region ?_
      refine wl_val (g_move (v := .slice a0 n0 c0) rfl) rfl ?_
      refine wl_val (g_move (v := .int .i64 v48) rfl) rfl ?_
      obtain ⟨hg63, hm⟩ := hm
      refine wl_val (q_index (i := v48) SL23 rfl rfl (hp0.bel hB54) hg63) rfl ?_
      refine wl_val (q_load (i := v48) (v := .int .i64 (p0[(Int.toNat v48)]!)) ON3 (hp0.bel hB54) hg63 rfl rfl) rfl ?_
      refine wl_val (g_move (v := .int .i64 v47) rfl) rfl ?_
      refine wl_val (g_neq (a := p0[(Int.toNat v48)]!) (b := v47) rfl rfl) rfl ?_
      refine wl_nil ?_
      refine hK62 _ _ ?_
      refine w_condI (p := p0[(Int.toNat v48)]! ≠ v47) (b := (decide (p0[(Int.toNat v48)]! ≠ v47))) rfl decide_eq_true_iff (fun h64 => ?_) (fun h64 => ?_)
      · replace hm := hm.1 h64
        refine w_seq fun K65 hK65 => ?_
        refine w_region ?_
        refine wl_val (g_assign (v := .int .i64 (-1)) rfl) rfl ?_
        refine wl_nil ?_
        refine hK65 _ _ ?_
        refine w_ret ?_
        repeat first | with_reducible refine q_then ?_ | with_reducible refine q_block ?_
        exact ret1 rfl (by decide) ⟨_, hm, rfl, toExt hB54⟩
      · replace hm := hm.2 h64
        refine w_skip ?_
        refine hK61 _ _ ?_
        refine w_region ?_
        refine wl_val (g_move (v := .int .i64 v47) rfl) rfl ?_
        obtain ⟨hg66, hm⟩ := hm
        refine wl_val (g_add (a := v47) (b := 1) rfl rfl hg66) rfl ?_
        refine wl_val (g_assign (v := .int .i64 (v47 + 1)) rfl) rfl ?_
        refine wl_nil ?_
        refine hK60 _ _ ?_
        refine w_region ?_
        refine wl_val (g_move (v := .int .i64 v48) rfl) rfl ?_
        obtain ⟨hg67, hm⟩ := hm
        refine wl_val (g_add (a := v48) (b := 1) rfl rfl hg67) rfl ?_
        refine wl_val (g_assign (v := .int .i64 (v48 + 1)) rfl) rfl ?_
        refine wl_nil ?_
        exact ⟨((v47 + 1), (v48 + 1)), hm.2, ⟨rfl, rfl, rfl, trivial⟩, ⟨hm.1, hB54, hS55⟩⟩
    · replace hm := hm.2 h59
      refine w_exit ?_
      exact ⟨(v47), ⟨rfl, trivial⟩, ⟨hm, hB54, hS55⟩⟩
  · rintro v44 b_ w68 ⟨hm, hB69, hS70⟩
    show Wp _ _ _ _ (upds b_ [(1, .int .i64 v44)]) w68
    refine w_seq fun K71 hK71 => ?_
    refine w_region ?_
    refine wl_val (g_move (v := .int .i64 v44) rfl) rfl ?_
    refine wl_val (g_assign (v := .int .i64 v44) rfl) rfl ?_
    refine wl_nil ?_
    refine hK71 _ _ ?_
    refine w_ret ?_
    repeat first | with_reducible refine q_then ?_ | with_reducible refine q_block ?_
    exact ret1 rfl (by decide) ⟨_, hm, rfl, toExt hB69⟩

theorem m_spec_l14Ok_fn {w : World} {a0 : Option Addr} {n0 c0 : Nat} {y0 : List PlayerD} {p0 : List PlayerC} {a1 : Option Addr} {n1 c1 : Nat} {p1 : List Int} {Q : Bool → Prop} (hp0 : Tv w.heap.size w a0 n0 c0 y0 p0) (hp1 : Vw w.heap.size w a1 n1 c1 p1) (hm : m_spec_l14Ok p0 p1 Q) :
    Fn Try.prog 65 #[.slice a0 n0 c0, .slice a1 n1 c1] w (fun v w' => ∃ (r0 : Bool), Q r0 ∧ v = .bool r0 ∧ Ext w w') := by
  unfold m_spec_l14Ok at hm
  have hB0 := Below.refl w.heap.size w
  have hS0 : Sep w w.heap.size [] := Sep.nil (Nat.le_refl _)
  refine fn_of_wp Try.func65 rfl (by kernel_rfl) (Nat.le_of_ble_eq_true rfl) ?_
  refine w_seq fun K1 hK1 => ?_
  refine w_region ?_
  refine wl_val (g_assign (v := .bool false) rfl) rfl ?_
  refine wl_nil ?_
  refine hK1 _ _ ?_
  refine w_seq fun K2 hK2 => ?_
  refine w_region ?_
  refine wl_val (g_move (v := .slice a0 n0 c0) rfl) rfl ?_
  refine wl_step rfl (g_call (vs := #[.slice a0 n0 c0]) CF57 (args1 rfl) (m_spec_PlayersOk_fn ((hp0.bel hB0).up hS0) hm)) ?_
  rintro _ w3 ⟨r6, hm, rfl, hE4⟩
  have hB7 := hB0.trans (Ext.stp hE4 hS0.base)
  have hS8 := hS0.ext hE4
  refine wl_val (g_move (v := .bool r6) rfl) rfl ?_
  refine wl_guard (c := r6 = true) (val := .slice a1 n1 c1) (b := (r6 == true)) (gv_some rfl rfl rfl) beq_iff_eq (fun hc9 => ?_) ?_
  · have hcq0 : r6 = true := (Iff.rfl.mp hc9)
    exact g_move (v := .slice a1 n1 c1) rfl
  obtain ⟨r11, hk12, hm⟩ := hm
  refine wl_guardE (X := Ext) (c := r6 = true) (val := .bool r11) (Ext.refl _) (b := (r6 == true)) (gv_some rfl rfl rfl) beq_iff_eq (fun hc10 => ?_) (fun w13 hE14 => ?_)
  · have hcq0 : r6 = true := (Iff.rfl.mp hc10)
    exact (g_call (vs := #[.slice a1 n1 c1, .int .i64 6]) CF58 (args2 (if_pos hc10) rfl) ((m_spec_l11Rising_fn ((hp1.bel hB7).up hS8) 6 (hk12 hcq0)).mono fun _ _ ⟨_, h1, h2, h3⟩ => ⟨by rw [h2, h1], h3⟩))
  have hB15 := hB7.trans (Ext.stp hE14 hS8.base)
  have hS16 := hS8.ext hE14
  refine wl_val (g_pick_and (b := r6) (q := r11) rfl rfl) rfl ?_
  refine wl_val (g_assign (v := .bool (r6 && r11)) rfl) rfl ?_
  refine wl_nil ?_
  refine hK2 _ _ ?_
  refine w_ret ?_
  repeat first | with_reducible refine q_then ?_ | with_reducible refine q_block ?_
  exact ret1 rfl (by decide) ⟨_, hm, rfl, toExt hB15⟩

theorem m_spec_l14Part_fn {w : World} {a0 : Option Addr} {n0 c0 : Nat} {p0 : List Int} {Q : (List Int) → Prop} (hp0 : Vw w.heap.size w a0 n0 c0 p0) (p1 : Int) (hm : m_spec_l14Part p0 p1 Q) :
    Fn Try.prog 66 #[.slice a0 n0 c0, .int .i64 p1] w (fun v w' => ∃ (r0 : List Int) (a0 : Option Addr) (n0 c0 : Nat), Q r0 ∧ v = .slice a0 n0 c0 ∧ Ext w w' ∧ Sep w' w.heap.size [oS 3 a0 n0 c0 r0]) := by
  unfold m_spec_l14Part at hm
  have hB0 := Below.refl w.heap.size w
  have hS0 : Sep w w.heap.size [] := Sep.nil (Nat.le_refl _)
  refine fn_of_wp Try.func66 rfl (by kernel_rfl) (Nat.le_of_ble_eq_true rfl) ?_
  refine w_seq fun K1 hK1 => ?_
  refine w_region ?_
  refine wl_val (g_assign (v := .slice none 0 0) rfl) rfl ?_
  refine wl_nil ?_
  refine hK1 _ _ ?_
  refine w_seq fun K2 hK2 => ?_
  refine w_region ?_
  refine wl_step rfl (q_lit0 (α := Int) rfl SL23 hS0) ?_
  rintro _ w3 ⟨a4, rfl, hS6, hE5⟩
  have hB8 := hB0.trans (Ext.stp hE5 hS0.base)
  refine wl_val (g_assign (v := .slice a4 0 0) rfl) rfl ?_
  refine wl_nil ?_
  refine hK2 _ _ ?_
  refine w_cut (σ := List Int × Option Addr × Nat × Nat) (fun ⟨x82, a83, n84, c85⟩ => [(5, .slice a83 n84 c85)]) (fun ⟨x82, a83, n84, c85⟩ w' => m_spec_l14Part_K0 Q x82 ∧ Below w.heap.size w w' ∧ Sep w' w.heap.size [oS 3 a83 n84 c85 (x82 : List Int)]) ?_ ?_
  · refine w_seq fun K87 hK87 => ?_
    refine w_region ?_
    refine wl_val (g_assign (v := .int .i64 0) rfl) rfl ?_
    refine wl_nil ?_
    refine hK87 _ _ ?_
    refine w_block ?_
    obtain ⟨I93, μ94, h095, hr96⟩ := hm
    refine w_for (σ := List Int × Option Addr × Nat × Nat × Int) (fun ⟨x88, a89, n90, c91, v92⟩ => [(0, .slice a0 n0 c0), (1, .int .i64 p1), (5, .slice a89 n90 c91), (6, .int .i64 v92)]) (fun ⟨x88, a89, n90, c91, v92⟩ w' => I93 x88 v92 ∧ Below w.heap.size w w' ∧ Sep w' w.heap.size [oS 3 a89 n90 c91 (x88 : List Int)]) (fun ⟨x88, a89, n90, c91, v92⟩ => μ94 x88 v92) ([], a4, 0, 0, 0) ⟨rfl, rfl, rfl, rfl, trivial⟩ ⟨h095, hB8, hS6⟩ ?_
    rintro ⟨x88, a89, n90, c91, v92⟩ b_ w97 ⟨hi_, hB98, hS99⟩
    show Wp _ _ _ _ (upds b_ [(0, .slice a0 n0 c0), (1, .int .i64 p1), (5, .slice a89 n90 c91), (6, .int .i64 v92)]) w97
    have hm := hr96 x88 v92 hi_
    refine w_seq fun K101 hK101 => ?_
    refine w_seq fun K102 hK102 => ?_
    refine w_region ?_
    refine wl_val (g_move (v := .int .i64 v92) rfl) rfl ?_
    refine wl_val (g_move (v := .slice a0 n0 c0) rfl) rfl ?_
    refine wl_val (q_len SL23 rfl (Vw.len (hp0.bel hB98))) rfl ?_
    refine wl_val (g_lss (a := v92) (b := (p0.length : Int)) rfl rfl) rfl ?_
    refine wl_nil ?_
    refine hK102 _ _ ?_
    refine w_condI (p := v92 < (p0.length : Int)) (b := (decide (v92 < (p0.length : Int)))) rfl decide_eq_true_iff (fun h103 => ?_) (fun h103 => ?_)
    · replace hm := hm.1 h103
      refine w_skip ?_
      refine hK101 _ _ ?_
      refine w_seq fun K104 hK104 => ?_
      refine w_block ?_
      refine w_seq fun K105 hK105 => ?_
      refine w_region ?_
      refine wl_val (g_move (v := .int .i64 p1) rfl) rfl ?_
      refine wl_val (g_move (v := .int .i64 v92) rfl) rfl ?_
      obtain ⟨hg106, hm⟩ := hm
      refine wl_val (g_shr (a := p1) (b := v92) rfl rfl hg106) rfl ?_
      obtain ⟨hg107, hm⟩ := hm
      refine wl_val (g_band (a := (sar p1 v92)) (b := 1) rfl rfl hg107) rfl ?_
      refine wl_val (g_eql (a := (band (sar p1 v92) 1)) (b := 1) rfl rfl) rfl ?_
      refine wl_nil ?_
      refine hK105 _ _ ?_
      refine w_condI (p := (band (sar p1 v92) 1) = 1) (b := (decide ((band (sar p1 v92) 1) = 1))) rfl decide_eq_true_iff (fun h108 => ?_) (fun h108 => ?_)
      · replace hm := hm.1 h108
        refine w_region ?_
        refine wl_val (g_move (v := .slice a89 n90 c91) rfl) rfl ?_
        refine wl_val (g_move (v := .slice a0 n0 c0) rfl) rfl ?_
        refine wl_val (g_move (v := .int .i64 v92) rfl) rfl ?_
        obtain ⟨hg109, hm⟩ := hm
        refine wl_val (q_index (i := v92) SL23 rfl rfl (hp0.bel hB98) hg109) rfl ?_
        refine wl_val (q_load (i := v92) (v := .int .i64 (p0[(Int.toNat v92)]!)) ON3 (hp0.bel hB98) hg109 rfl rfl) rfl ?_
        refine wl_step rfl (q_lit1 (y := (p0[(Int.toNat v92)]! : Int)) SL23 rfl rfl (by decide) hS99) ?_
        rintro _ w110 ⟨a111, rfl, hS113, hE112⟩
        have hB115 := hB98.trans (Ext.stp hE112 hS99.base)
        have hS121 := hS113.f1
        obtain ⟨hg122, hm⟩ := hm
        refine wl_step rfl (q_append SL23 rfl rfl hS121 (oS.vw hS121.g1) hg122 (by decide)) ?_
        rintro _ w116 ⟨a117, c118, rfl, hS120, hb119⟩
        have hB123 := hB115.trans hb119
        refine wl_val (g_assign (v := .slice a117 (n90 + 1) c118) rfl) rfl ?_
        refine wl_nil ?_
        refine hK104 _ _ ?_
        refine w_region ?_
        refine wl_val (g_move (v := .int .i64 v92) rfl) rfl ?_
        obtain ⟨hg124, hm⟩ := hm
        refine wl_val (g_add (a := v92) (b := 1) rfl rfl hg124) rfl ?_
        refine wl_val (g_assign (v := .int .i64 (v92 + 1)) rfl) rfl ?_
        refine wl_nil ?_
        have hS125 := hS120.f1
        have hS126 := hS125.tail
        exact ⟨((x88 ++ ([p0[(Int.toNat v92)]!])), a117, (n90 + 1), c118, (v92 + 1)), hm.2, ⟨rfl, rfl, rfl, rfl, trivial⟩, ⟨hm.1, hB123, hS126⟩⟩
      · replace hm := hm.2 h108
        refine w_skip ?_
        refine hK104 _ _ ?_
        refine w_region ?_
        refine wl_val (g_move (v := .int .i64 v92) rfl) rfl ?_
        obtain ⟨hg127, hm⟩ := hm
        refine wl_val (g_add (a := v92) (b := 1) rfl rfl hg127) rfl ?_
        refine wl_val (g_assign (v := .int .i64 (v92 + 1)) rfl) rfl ?_
        refine wl_nil ?_
        exact ⟨(x88, a89, n90, c91, (v92 + 1)), hm.2, ⟨rfl, rfl, rfl, rfl, trivial⟩, ⟨hm.1, hB98, hS99⟩⟩
    · replace hm := hm.2 h103
      refine w_exit ?_
      exact ⟨(x88, a89, n90, c91), ⟨rfl, trivial⟩, ⟨hm, hB98, hS99⟩⟩
  · rintro ⟨x82, a83, n84, c85⟩ b_ w128 ⟨hm, hB129, hS130⟩
    show Wp _ _ _ _ (upds b_ [(5, .slice a83 n84 c85)]) w128
    refine w_seq fun K131 hK131 => ?_
    refine w_region ?_
    refine wl_val (g_move (v := .slice a83 n84 c85) rfl) rfl ?_
    refine wl_val (g_assign (v := .slice a83 n84 c85) rfl) rfl ?_
    refine wl_nil ?_
    refine hK131 _ _ ?_
    refine w_ret ?_
    repeat first | with_reducible refine q_then ?_ | with_reducible refine q_block ?_
    exact ret1 rfl (by decide) ⟨_, _, _, _, hm, rfl, toExt hB129, hS130⟩

theorem m_spec_MostCast_fn {w : World} {a0 : Option Addr} {n0 c0 : Nat} {y0 : List PlayerD} {p0 : List PlayerC} {a1 : Option Addr} {n1 c1 : Nat} {p1 : List Int} {Q : Int → Prop} (hp0 : Tv w.heap.size w a0 n0 c0 y0 p0) (hp1 : Vw w.heap.size w a1 n1 c1 p1) (hm : m_spec_MostCast p0 p1 Q) :
    Fn Try.prog 22 #[.slice a0 n0 c0, .slice a1 n1 c1] w (fun v w' => ∃ (r0 : Int), Q r0 ∧ v = .int .i64 r0 ∧ Ext w w') := by
  unfold m_spec_MostCast at hm
  have hB0 := Below.refl w.heap.size w
  have hS0 : Sep w w.heap.size [] := Sep.nil (Nat.le_refl _)
  refine fn_of_wp Try.func22 rfl (by kernel_rfl) (Nat.le_of_ble_eq_true rfl) ?_
  refine w_seq fun K1 hK1 => ?_
  refine w_region ?_
  refine wl_val (g_assign (v := .int .i64 0) rfl) rfl ?_
  refine wl_nil ?_
  refine hK1 _ _ ?_
  refine w_seq fun K2 hK2 => ?_
  refine w_seq fun K3 hK3 => ?_
  refine w_region ?_
  refine wl_val (g_move (v := .slice a0 n0 c0) rfl) rfl ?_
  refine wl_val (g_move (v := .slice a1 n1 c1) rfl) rfl ?_
  refine wl_step rfl (g_call (vs := #[.slice a0 n0 c0, .slice a1 n1 c1]) CF65 (args2 rfl rfl) (m_spec_l14Ok_fn ((hp0.bel hB0).up hS0) ((hp1.bel hB0).up hS0) hm)) ?_
  rintro _ w4 ⟨r7, hm, rfl, hE5⟩
  have hB8 := hB0.trans (Ext.stp hE5 hS0.base)
  have hS9 := hS0.ext hE5
  refine wl_val (g_not (a := r7) rfl) rfl ?_
  refine wl_nil ?_
  refine hK3 _ _ ?_
  refine w_condI (p := ¬ (r7 = true)) (b := (!r7)) rfl (i_not Iff.rfl) (fun h10 => ?_) (fun h10 => ?_)
  · replace hm := hm.1 h10
    refine w_seq fun K11 hK11 => ?_
    refine w_region ?_
    refine wl_val (g_assign (v := .int .i64 (-1)) rfl) rfl ?_
    refine wl_nil ?_
    refine hK11 _ _ ?_
    refine w_ret ?_
    repeat first | with_reducible refine q_then ?_ | with_reducible refine q_block ?_
    exact ret1 rfl (by decide) ⟨_, hm, rfl, toExt hB8⟩
  · replace hm := hm.2 h10
    refine w_skip ?_
    refine hK2 _ _ ?_
    refine w_seq fun K12 hK12 => ?_
    refine w_region ?_
    refine wl_val (g_assign (v := .int .i64 0) rfl) rfl ?_
    refine wl_nil ?_
    refine hK12 _ _ ?_
    refine w_cut (σ := Int) (fun v142 => [(5, .int .i64 v142)]) (fun v142 w' => m_spec_MostCast_K0 Q v142 ∧ Below w.heap.size w w' ∧ Sep w' w.heap.size []) ?_ ?_
    · refine w_seq fun K144 hK144 => ?_
      refine w_region ?_
      refine wl_val (g_assign (v := .int .i64 0) rfl) rfl ?_
      refine wl_nil ?_
      refine hK144 _ _ ?_
      refine w_block ?_
      obtain ⟨I147, μ148, h0149, hr150⟩ := hm
      refine w_for (σ := Int × Int) (fun ⟨v145, v146⟩ => [(0, .slice a0 n0 c0), (1, .slice a1 n1 c1), (5, .int .i64 v145), (6, .int .i64 v146)]) (fun ⟨v145, v146⟩ w' => I147 v145 v146 ∧ Below w.heap.size w w' ∧ Sep w' w.heap.size []) (fun ⟨v145, v146⟩ => μ148 v145 v146) (0, 0) ⟨rfl, rfl, rfl, rfl, trivial⟩ ⟨h0149, hB8, hS9⟩ ?_
      rintro ⟨v145, v146⟩ b_ w151 ⟨hi_, hB152, hS153⟩
      show Wp _ _ _ _ (upds b_ [(0, .slice a0 n0 c0), (1, .slice a1 n1 c1), (5, .int .i64 v145), (6, .int .i64 v146)]) w151
      have hm := hr150 v145 v146 hi_
      refine w_seq fun K155 hK155 => ?_
      refine w_seq fun K156 hK156 => ?_
      refine w_region ?_
      refine wl_val (g_move (v := .int .i64 v146) rfl) rfl ?_
      refine wl_val (g_move (v := .slice a1 n1 c1) rfl) rfl ?_
      refine wl_val (q_len SL23 rfl (Vw.len (hp1.bel hB152))) rfl ?_
      obtain ⟨hg157, hm⟩ := hm
      obtain ⟨hg158, hm⟩ := hm
      refine wl_val (g_shl (a := 1) (b := (p1.length : Int)) rfl rfl hg157 hg158) rfl ?_
      refine wl_val (g_lss (a := v146) (b := (sal 1 (p1.length : Int))) rfl rfl) rfl ?_
      refine wl_nil ?_
      refine hK156 _ _ ?_
      refine w_condI (p := v146 < (sal 1 (p1.length : Int))) (b := (decide (v146 < (sal 1 (p1.length : Int))))) rfl decide_eq_true_iff (fun h159 => ?_) (fun h159 => ?_)
      · replace hm := hm.1 h159
        refine w_skip ?_
        refine hK155 _ _ ?_
        refine w_seq fun K160 hK160 => ?_
        refine w_block ?_
        refine w_seq fun K161 hK161 => ?_
        refine w_region ?_
        refine wl_val (g_move (v := .slice a1 n1 c1) rfl) rfl ?_
        refine wl_val (g_move (v := .int .i64 v146) rfl) rfl ?_
        refine wl_step rfl (g_call (vs := #[.slice a1 n1 c1, .int .i64 v146]) CF66 (args2 rfl rfl) (m_spec_l14Part_fn ((hp1.bel hB152).up hS153) v146 hm)) ?_
        rintro _ w162 ⟨r165, a166, n167, c168, hm, rfl, hE163, hN164⟩
        have hS170 := hS153.call1 hE163 hN164
        have hB171 := hB152.trans (Ext.stp hE163 hS153.base)
        refine wl_val (g_assign (v := .slice a166 n167 c168) rfl) rfl ?_
        refine wl_nil ?_
        refine hK161 _ _ ?_
        refine w_seq fun K172 hK172 => ?_
        refine w_seq fun K173 hK173 => ?_
        refine w_region ?_
        refine wl_val (g_move (v := .slice a166 n167 c168) rfl) rfl ?_
        refine wl_val (q_len SL23 rfl (Vw.len (oS.vw hS170.g0))) rfl ?_
        refine wl_val (g_move (v := .int .i64 v145) rfl) rfl ?_
        refine wl_val (g_leq (a := (r165.length : Int)) (b := v145) rfl rfl) rfl ?_
        refine wl_nil ?_
        refine hK173 _ _ ?_
        refine w_condI (p := (r165.length : Int) ≤ v145) (b := (decide ((r165.length : Int) ≤ v145))) rfl decide_eq_true_iff (fun h174 => ?_) (fun h174 => ?_)
        · replace hm := hm.1 h174
          refine w_exit ?_
          refine hK160 _ _ ?_
          refine w_region ?_
          refine wl_val (g_move (v := .int .i64 v146) rfl) rfl ?_
          obtain ⟨hg175, hm⟩ := hm
          refine wl_val (g_add (a := v146) (b := 1) rfl rfl hg175) rfl ?_
          refine wl_val (g_assign (v := .int .i64 (v146 + 1)) rfl) rfl ?_
          refine wl_nil ?_
          have hS176 := hS170.tail
          exact ⟨(v145, (v146 + 1)), hm.2, ⟨rfl, rfl, rfl, rfl, trivial⟩, ⟨hm.1, hB171, hS176⟩⟩
        · replace hm := hm.2 h174
          refine w_skip ?_
          refine hK172 _ _ ?_
          refine w_seq fun K177 hK177 => ?_
          refine w_region ?_
          refine wl_val (g_move (v := .slice a0 n0 c0) rfl) rfl ?_
          refine wl_val (g_move (v := .slice a166 n167 c168) rfl) rfl ?_
          refine wl_step rfl (g_call (vs := #[.slice a0 n0 c0, .slice a166 n167 c168]) CF13 (args2 rfl rfl) (m_spec_FirstCasting_fn ((hp0.bel hB171).up hS170) (oS.vw hS170.g0) hm)) ?_
          rintro _ w178 ⟨r181, a182, n183, c184, r186, hm, rfl, hE179, hN180⟩
          have hS187 := hS170.call1 hE179 hN180
          have hB188 := hB171.trans (Ext.stp hE179 hS170.base)
          refine wl_val (g_move (v := .tuple #[.slice a182 n183 c184, .bool r186]) rfl) rfl ?_
          refine wl_val (g_extract (vs := #[.slice a182 n183 c184, .bool r186]) rfl rfl) rfl ?_
          refine wl_val (g_extract (vs := #[.slice a182 n183 c184, .bool r186]) rfl rfl) rfl ?_
          refine wl_val (g_assign (v := .slice a182 n183 c184) rfl) rfl ?_
          refine wl_val (g_assign (v := .bool r186) rfl) rfl ?_
          refine wl_nil ?_
          refine hK177 _ _ ?_
          refine w_seq fun K189 hK189 => ?_
          refine w_region ?_
          refine wl_val (g_move (v := .bool r186) rfl) rfl ?_
          refine wl_nil ?_
          refine hK189 _ _ ?_
          refine w_condI (p := r186 = true) (b := r186) rfl Iff.rfl (fun h190 => ?_) (fun h190 => ?_)
          · replace hm := hm.1 h190
            refine w_region ?_
            refine wl_val (g_move (v := .slice a166 n167 c168) rfl) rfl ?_
            refine wl_val (q_len SL23 rfl (Vw.len (oS.vw hS187.g1))) rfl ?_
            refine wl_val (g_assign (v := .int .i64 (r165.length : Int)) rfl) rfl ?_
            refine wl_nil ?_
            refine hK160 _ _ ?_
            refine w_region ?_
            refine wl_val (g_move (v := .int .i64 v146) rfl) rfl ?_
            obtain ⟨hg191, hm⟩ := hm
            refine wl_val (g_add (a := v146) (b := 1) rfl rfl hg191) rfl ?_
            refine wl_val (g_assign (v := .int .i64 (v146 + 1)) rfl) rfl ?_
            refine wl_nil ?_
            have hS192 := hS187.tail
            have hS193 := hS192.tail
            exact ⟨((r165.length : Int), (v146 + 1)), hm.2, ⟨rfl, rfl, rfl, rfl, trivial⟩, ⟨hm.1, hB188, hS193⟩⟩
          · replace hm := hm.2 h190
            refine w_skip ?_
            refine hK160 _ _ ?_
            refine w_region ?_
            refine wl_val (g_move (v := .int .i64 v146) rfl) rfl ?_
            obtain ⟨hg194, hm⟩ := hm
            refine wl_val (g_add (a := v146) (b := 1) rfl rfl hg194) rfl ?_
            refine wl_val (g_assign (v := .int .i64 (v146 + 1)) rfl) rfl ?_
            refine wl_nil ?_
            have hS195 := hS187.tail
            have hS196 := hS195.tail
            exact ⟨(v145, (v146 + 1)), hm.2, ⟨rfl, rfl, rfl, rfl, trivial⟩, ⟨hm.1, hB188, hS196⟩⟩
      · replace hm := hm.2 h159
        refine w_exit ?_
        exact ⟨(v145), ⟨rfl, trivial⟩, ⟨hm, hB152, hS153⟩⟩
    · rintro v142 b_ w197 ⟨hm, hB198, hS199⟩
      show Wp _ _ _ _ (upds b_ [(5, .int .i64 v142)]) w197
      refine w_seq fun K200 hK200 => ?_
      refine w_region ?_
      refine wl_val (g_move (v := .int .i64 v142) rfl) rfl ?_
      refine wl_val (g_assign (v := .int .i64 v142) rfl) rfl ?_
      refine wl_nil ?_
      refine hK200 _ _ ?_
      refine w_ret ?_
      repeat first | with_reducible refine q_then ?_ | with_reducible refine q_block ?_
      exact ret1 rfl (by decide) ⟨_, hm, rfl, toExt hB198⟩

theorem m_impl_subset_fn {w : World} {a0 : Option Addr} {n0 c0 : Nat} {p0 : List Int} {Q : (List Int) → Prop} (hp0 : Vw w.heap.size w a0 n0 c0 p0) (p1 : Int) (hm : m_impl_subset p0 p1 Q) :
    Fn Try.prog 67 #[.slice a0 n0 c0, .int .i64 p1] w (fun v w' => ∃ (r0 : List Int) (a0 : Option Addr) (n0 c0 : Nat), Q r0 ∧ v = .slice a0 n0 c0 ∧ Ext w w' ∧ Sep w' w.heap.size [oS 3 a0 n0 c0 r0]) := by
  unfold m_impl_subset at hm
  have hB0 := Below.refl w.heap.size w
  have hS0 : Sep w w.heap.size [] := Sep.nil (Nat.le_refl _)
  refine fn_of_wp Try.func67 rfl (by kernel_rfl) (Nat.le_of_ble_eq_true rfl) ?_
  refine w_seq fun K1 hK1 => ?_
  refine w_region ?_
  refine wl_val (g_assign (v := .slice none 0 0) rfl) rfl ?_
  refine wl_nil ?_
  refine hK1 _ _ ?_
  refine w_seq fun K2 hK2 => ?_
  refine w_region ?_
  refine wl_step rfl (q_lit0 (α := Int) rfl SL23 hS0) ?_
  rintro _ w3 ⟨a4, rfl, hS6, hE5⟩
  have hB8 := hB0.trans (Ext.stp hE5 hS0.base)
  refine wl_val (g_assign (v := .slice a4 0 0) rfl) rfl ?_
  refine wl_nil ?_
  refine hK2 _ _ ?_
  refine w_cut (σ := List Int × Option Addr × Nat × Nat) (fun ⟨x84, a85, n86, c87⟩ => [(5, .slice a85 n86 c87)]) (fun ⟨x84, a85, n86, c87⟩ w' => m_impl_subset_K0 Q x84 ∧ Below w.heap.size w w' ∧ Sep w' w.heap.size [oS 3 a85 n86 c87 (x84 : List Int)]) ?_ ?_
  · refine w_seq fun K89 hK89 => ?_
    refine w_region ?_
    refine wl_val (g_move (v := .slice a0 n0 c0) rfl) rfl ?_
    refine wl_val (q_len SL23 rfl (Vw.len (hp0.bel hB8))) rfl ?_
    refine wl_val (g_move (v := .int .i64 0) rfl) rfl ?_
    refine wl_nil ?_
    refine hK89 _ _ ?_
    refine w_block ?_
    obtain ⟨I95, μ96, h097, hr98⟩ := hm
    refine w_for (σ := List Int × Option Addr × Nat × Nat × Int) (fun ⟨x90, a91, n92, c93, v94⟩ => [(1, .int .i64 p1), (5, .slice a91 n92 c93), (9, .slice a0 n0 c0), (10, .int .i64 (p0.length : Int)), (11, .int .i64 v94)]) (fun ⟨x90, a91, n92, c93, v94⟩ w' => I95 x90 v94 ∧ Below w.heap.size w w' ∧ Sep w' w.heap.size [oS 3 a91 n92 c93 (x90 : List Int)]) (fun ⟨x90, a91, n92, c93, v94⟩ => μ96 x90 v94) ([], a4, 0, 0, 0) ⟨rfl, rfl, rfl, rfl, rfl, trivial⟩ ⟨h097, hB8, hS6⟩ ?_
    rintro ⟨x90, a91, n92, c93, v94⟩ b_ w99 ⟨hi_, hB100, hS101⟩
    show Wp _ _ _ _ (upds b_ [(1, .int .i64 p1), (5, .slice a91 n92 c93), (9, .slice a0 n0 c0), (10, .int .i64 (p0.length : Int)), (11, .int .i64 v94)]) w99
    have hm := hr98 x90 v94 hi_
    refine w_seq fun K103 hK103 => ?_
    refine w_region ?_
    refine wl_val (g_lss (a := v94) (b := (p0.length : Int)) rfl rfl) rfl ?_
    refine wl_nil ?_
    refine hK103 _ _ ?_
    refine w_seq fun K104 hK104 => ?_
    refine w_condI (p := v94 < (p0.length : Int)) (b := (decide (v94 < (p0.length : Int)))) rfl decide_eq_true_iff (fun h105 => ?_) (fun h105 => ?_)
    · replace hm := hm.1 h105
      refine w_skip ?_
      refine hK104 _ _ ?_
      refine w_seq fun K106 hK106 => ?_
      refine w_block ?_
      refine w_seq fun K107 hK107 => ?_
      refine w_region ?_
      refine wl_val (g_move (v := .int .i64 v94) rfl) rfl ?_
      obtain ⟨hg108, hm⟩ := hm
      refine wl_val (q_index (i := v94) SL23 rfl rfl (hp0.bel hB100) hg108) rfl ?_
      refine wl_val (q_load (i := v94) (v := .int .i64 (p0[(Int.toNat v94)]!)) ON3 (hp0.bel hB100) hg108 rfl rfl) rfl ?_
      refine wl_val (g_assign (v := .int .i64 v94) rfl) rfl ?_
      refine wl_val (g_assign (v := .int .i64 (p0[(Int.toNat v94)]!)) rfl) rfl ?_
      refine wl_nil ?_
      refine hK107 _ _ ?_
      refine w_seq fun K109 hK109 => ?_
      refine w_region ?_
      refine wl_val (g_move (v := .int .i64 p1) rfl) rfl ?_
      refine wl_val (g_move (v := .int .i64 v94) rfl) rfl ?_
      obtain ⟨hg110, hm⟩ := hm
      refine wl_val (g_shr (a := p1) (b := v94) rfl rfl hg110) rfl ?_
      obtain ⟨hg111, hm⟩ := hm
      refine wl_val (g_band (a := (sar p1 v94)) (b := 1) rfl rfl hg111) rfl ?_
      refine wl_val (g_eql (a := (band (sar p1 v94) 1)) (b := 1) rfl rfl) rfl ?_
      refine wl_nil ?_
      refine hK109 _ _ ?_
      refine w_condI (p := (band (sar p1 v94) 1) = 1) (b := (decide ((band (sar p1 v94) 1) = 1))) rfl decide_eq_true_iff (fun h112 => ?_) (fun h112 => ?_)
      · replace hm := hm.1 h112
        refine w_region ?_
        refine wl_val (g_move (v := .slice a91 n92 c93) rfl) rfl ?_
        refine wl_val (g_move (v := .int .i64 (p0[(Int.toNat v94)]!)) rfl) rfl ?_
        refine wl_step rfl (q_lit1 (y := (p0[(Int.toNat v94)]! : Int)) SL23 rfl rfl (by decide) hS101) ?_
        rintro _ w113 ⟨a114, rfl, hS116, hE115⟩
        have hB118 := hB100.trans (Ext.stp hE115 hS101.base)
        have hS124 := hS116.f1
        obtain ⟨hg125, hm⟩ := hm
        refine wl_step rfl (q_append SL23 rfl rfl hS124 (oS.vw hS124.g1) hg125 (by decide)) ?_
        rintro _ w119 ⟨a120, c121, rfl, hS123, hb122⟩
        have hB126 := hB118.trans hb122
        refine wl_val (g_assign (v := .slice a120 (n92 + 1) c121) rfl) rfl ?_
        refine wl_nil ?_
        refine hK106 _ _ ?_
        refine w_region ?_
        obtain ⟨hg127, hm⟩ := hm
        refine wl_val (g_add (a := v94) (b := 1) rfl rfl hg127) rfl ?_
        refine wl_val (g_move (v := .int .i64 (v94 + 1)) rfl) rfl ?_
        refine wl_nil ?_
        have hS128 := hS123.f1
        have hS129 := hS128.tail
        exact ⟨((x90 ++ ([p0[(Int.toNat v94)]!])), a120, (n92 + 1), c121, (v94 + 1)), hm.2, ⟨rfl, rfl, rfl, rfl, rfl, trivial⟩, ⟨hm.1, hB126, hS129⟩⟩
      · replace hm := hm.2 h112
        refine w_skip ?_
        refine hK106 _ _ ?_
        refine w_region ?_
        obtain ⟨hg130, hm⟩ := hm
        refine wl_val (g_add (a := v94) (b := 1) rfl rfl hg130) rfl ?_
        refine wl_val (g_move (v := .int .i64 (v94 + 1)) rfl) rfl ?_
        refine wl_nil ?_
        exact ⟨(x90, a91, n92, c93, (v94 + 1)), hm.2, ⟨rfl, rfl, rfl, rfl, rfl, trivial⟩, ⟨hm.1, hB100, hS101⟩⟩
    · replace hm := hm.2 h105
      refine w_exit ?_
      exact ⟨(x90, a91, n92, c93), ⟨rfl, trivial⟩, ⟨hm, hB100, hS101⟩⟩
  · rintro ⟨x84, a85, n86, c87⟩ b_ w131 ⟨hm, hB132, hS133⟩
    show Wp _ _ _ _ (upds b_ [(5, .slice a85 n86 c87)]) w131
    refine w_seq fun K134 hK134 => ?_
    refine w_region ?_
    refine wl_val (g_move (v := .slice a85 n86 c87) rfl) rfl ?_
    refine wl_val (g_assign (v := .slice a85 n86 c87) rfl) rfl ?_
    refine wl_nil ?_
    refine hK134 _ _ ?_
    refine w_ret ?_
    repeat first | with_reducible refine q_then ?_ | with_reducible refine q_block ?_
    exact ret1 rfl (by decide) ⟨_, _, _, _, hm, rfl, toExt hB132, hS133⟩

theorem m_impl_MostCast_fn {w : World} {a0 : Option Addr} {n0 c0 : Nat} {y0 : List PlayerD} {p0 : List PlayerC} {a1 : Option Addr} {n1 c1 : Nat} {p1 : List Int} {Q : Int → Prop} (hp0 : Tv w.heap.size w a0 n0 c0 y0 p0) (hp1 : Vw w.heap.size w a1 n1 c1 p1) (hm : m_impl_MostCast p0 p1 Q) :
    Fn Try.prog 23 #[.slice a0 n0 c0, .slice a1 n1 c1] w (fun v w' => ∃ (r0 : Int), Q r0 ∧ v = .int .i64 r0 ∧ Ext w w') := by
  unfold m_impl_MostCast at hm
  have hB0 := Below.refl w.heap.size w
  have hS0 : Sep w w.heap.size [] := Sep.nil (Nat.le_refl _)
  refine fn_of_wp Try.func23 rfl (by kernel_rfl) (Nat.le_of_ble_eq_true rfl) ?_
  refine w_seq fun K1 hK1 => ?_
  refine w_region ?_
  refine wl_val (g_assign (v := .int .i64 0) rfl) rfl ?_
  refine wl_nil ?_
  refine hK1 _ _ ?_
  refine w_seq fun K2 hK2 => ?_
  refine w_seq fun K3 hK3 => ?_
  refine w_region ?_
  refine wl_val (g_move (v := .slice a0 n0 c0) rfl) rfl ?_
  refine wl_step rfl (g_call (vs := #[.slice a0 n0 c0]) CF44 (args1 rfl) (m_impl_PlayersOk_fn ((hp0.bel hB0).up hS0) hm)) ?_
  rintro _ w4 ⟨r7, hm, rfl, hE5⟩
  have hB8 := hB0.trans (Ext.stp hE5 hS0.base)
  have hS9 := hS0.ext hE5
  refine wl_val (g_not (a := r7) rfl) rfl ?_
  refine wl_val (g_move (v := .bool (!r7)) rfl) rfl ?_
  refine wl_guard (c := (!r7) = false) (val := .slice a1 n1 c1) (b := ((!r7) == false)) (gv_some rfl rfl rfl) beq_iff_eq (fun hc10 => ?_) ?_
  · have hcq0 : ¬ (¬ (r7 = true)) := (i_neg (i_not Iff.rfl) hc10)
    exact g_move (v := .slice a1 n1 c1) rfl
  obtain ⟨r12, hk13, hm⟩ := hm
  refine wl_guardE (X := Ext) (c := (!r7) = false) (val := .bool r12) (Ext.refl _) (b := ((!r7) == false)) (gv_some rfl rfl rfl) beq_iff_eq (fun hc11 => ?_) (fun w14 hE15 => ?_)
  · have hcq0 : ¬ (¬ (r7 = true)) := (i_neg (i_not Iff.rfl) hc11)
    exact (g_call (vs := #[.slice a1 n1 c1]) CF61 (args1 (if_pos hc11)) ((m_impl_arePuppets_fn ((hp1.bel hB8).up hS9) (hk13 hcq0)).mono fun _ _ ⟨_, h1, h2, h3⟩ => ⟨by rw [h2, h1], h3⟩))
  have hB16 := hB8.trans (Ext.stp hE15 hS9.base)
  have hS17 := hS9.ext hE15
  refine wl_guard (c := (!r7) = false) (val := .bool (!r12)) (b := ((!r7) == false)) (gv_some rfl rfl rfl) beq_iff_eq (fun hc18 => ?_) ?_
  · have hcq0 : ¬ (¬ (r7 = true)) := (i_neg (i_not Iff.rfl) hc18)
    exact g_not (a := r12) (if_pos hc18)
  refine wl_val (g_pick_or (b := (!r7)) (q := (!r12)) rfl rfl) rfl ?_
  refine wl_nil ?_
  refine hK3 _ _ ?_
  refine w_condI (p := ((¬ (r7 = true)) ∨ (¬ (r12 = true)))) (b := ((!r7) || (!r12))) rfl (i_or (i_not Iff.rfl) (i_not Iff.rfl)) (fun h19 => ?_) (fun h19 => ?_)
  · replace hm := hm.1 h19
    refine w_seq fun K20 hK20 => ?_
    refine w_region ?_
    refine wl_val (g_assign (v := .int .i64 (-1)) rfl) rfl ?_
    refine wl_nil ?_
    refine hK20 _ _ ?_
    refine w_ret ?_
    repeat first | with_reducible refine q_then ?_ | with_reducible refine q_block ?_
    exact ret1 rfl (by decide) ⟨_, hm, rfl, toExt hB16⟩
  · replace hm := hm.2 h19
    refine w_skip ?_
    refine hK2 _ _ ?_
    refine w_seq fun K21 hK21 => ?_
    refine w_region ?_
    refine wl_val (g_assign (v := .int .i64 0) rfl) rfl ?_
    refine wl_nil ?_
    refine hK21 _ _ ?_
    refine w_cut (σ := Int) (fun v150 => [(5, .int .i64 v150)]) (fun v150 w' => m_impl_MostCast_K0 Q v150 ∧ Below w.heap.size w w' ∧ Sep w' w.heap.size []) ?_ ?_
    · refine w_seq fun K152 hK152 => ?_
      refine w_region ?_
      refine wl_val (g_move (v := .slice a1 n1 c1) rfl) rfl ?_
      refine wl_val (q_len SL23 rfl (Vw.len (hp1.bel hB16))) rfl ?_
      obtain ⟨hg153, hm⟩ := hm
      obtain ⟨hg154, hm⟩ := hm
      refine wl_val (g_shl (a := 1) (b := (p1.length : Int)) rfl rfl hg153 hg154) rfl ?_
      refine wl_val (g_move (v := .int .i64 0) rfl) rfl ?_
      refine wl_nil ?_
      refine hK152 _ _ ?_
      refine w_block ?_
      obtain ⟨I157, μ158, h0159, hr160⟩ := hm
      refine w_for (σ := Int × Int) (fun ⟨v155, v156⟩ => [(0, .slice a0 n0 c0), (1, .slice a1 n1 c1), (5, .int .i64 v155), (20, .int .i64 (sal 1 (p1.length : Int))), (21, .int .i64 v156)]) (fun ⟨v155, v156⟩ w' => I157 v155 v156 ∧ Below w.heap.size w w' ∧ Sep w' w.heap.size []) (fun ⟨v155, v156⟩ => μ158 v155 v156) (0, 0) ⟨rfl, rfl, rfl, rfl, rfl, trivial⟩ ⟨h0159, hB16, hS17⟩ ?_
      rintro ⟨v155, v156⟩ b_ w161 ⟨hi_, hB162, hS163⟩
      show Wp _ _ _ _ (upds b_ [(0, .slice a0 n0 c0), (1, .slice a1 n1 c1), (5, .int .i64 v155), (20, .int .i64 (sal 1 (p1.length : Int))), (21, .int .i64 v156)]) w161
      have hm := hr160 v155 v156 hi_
      refine w_seq fun K165 hK165 => ?_
      refine w_region ?_
      refine wl_val (g_lss (a := v156) (b := (sal 1 (p1.length : Int))) rfl rfl) rfl ?_
      refine wl_nil ?_
      refine hK165 _ _ ?_
      refine w_seq fun K166 hK166 => ?_
      refine w_condI (p := v156 < (sal 1 (p1.length : Int))) (b := (decide (v156 < (sal 1 (p1.length : Int))))) rfl decide_eq_true_iff (fun h167 => ?_) (fun h167 => ?_)
      · replace hm := hm.1 h167
        refine w_skip ?_
        refine hK166 _ _ ?_
        refine w_seq fun K168 hK168 => ?_
        refine w_block ?_
        refine w_seq fun K169 hK169 => ?_
        refine w_region ?_
        refine wl_val (g_move (v := .int .i64 v156) rfl) rfl ?_
        refine wl_val (g_assign (v := .int .i64 v156) rfl) rfl ?_
        refine wl_nil ?_
        refine hK169 _ _ ?_
        refine w_seq fun K170 hK170 => ?_
        refine w_region ?_
        refine wl_val (g_move (v := .slice a1 n1 c1) rfl) rfl ?_
        refine wl_val (g_move (v := .int .i64 v156) rfl) rfl ?_
        refine wl_step rfl (g_call (vs := #[.slice a1 n1 c1, .int .i64 v156]) CF67 (args2 rfl rfl) (m_impl_subset_fn ((hp1.bel hB162).up hS163) v156 hm)) ?_
        rintro _ w171 ⟨r174, a175, n176, c177, hm, rfl, hE172, hN173⟩
        have hS179 := hS163.call1 hE172 hN173
        have hB180 := hB162.trans (Ext.stp hE172 hS163.base)
        refine wl_val (g_assign (v := .slice a175 n176 c177) rfl) rfl ?_
        refine wl_nil ?_
        refine hK170 _ _ ?_
        refine w_seq fun K181 hK181 => ?_
        refine w_seq fun K182 hK182 => ?_
        refine w_region ?_
        refine wl_val (g_move (v := .slice a175 n176 c177) rfl) rfl ?_
        refine wl_val (q_len SL23 rfl (Vw.len (oS.vw hS179.g0))) rfl ?_
        refine wl_val (g_move (v := .int .i64 v155) rfl) rfl ?_
        refine wl_val (g_leq (a := (r174.length : Int)) (b := v155) rfl rfl) rfl ?_
        refine wl_nil ?_
        refine hK182 _ _ ?_
        refine w_condI (p := (r174.length : Int) ≤ v155) (b := (decide ((r174.length : Int) ≤ v155))) rfl decide_eq_true_iff (fun h183 => ?_) (fun h183 => ?_)
        · replace hm := hm.1 h183
          refine w_exit ?_
          refine hK168 _ _ ?_
          refine w_region ?_
          obtain ⟨hg184, hm⟩ := hm
          refine wl_val (g_add (a := v156) (b := 1) rfl rfl hg184) rfl ?_
          refine wl_val (g_move (v := .int .i64 (v156 + 1)) rfl) rfl ?_
          refine wl_nil ?_
          have hS185 := hS179.tail
          exact ⟨(v155, (v156 + 1)), hm.2, ⟨rfl, rfl, rfl, rfl, rfl, trivial⟩, ⟨hm.1, hB180, hS185⟩⟩
        · replace hm := hm.2 h183
          refine w_skip ?_
          refine hK181 _ _ ?_
          refine w_seq fun K186 hK186 => ?_
          refine w_region ?_
          refine wl_val (g_move (v := .slice a0 n0 c0) rfl) rfl ?_
          refine wl_val (g_move (v := .slice a175 n176 c177) rfl) rfl ?_
          refine wl_step rfl (g_call (vs := #[.slice a0 n0 c0, .slice a175 n176 c177]) CF16 (args2 rfl rfl) (m_impl_FirstCasting_fn ((hp0.bel hB180).up hS179) (oS.vw hS179.g0) hm)) ?_
          rintro _ w187 ⟨r190, a191, n192, c193, r195, hm, rfl, hE188, hN189⟩
          have hS196 := hS179.call1 hE188 hN189
          have hB197 := hB180.trans (Ext.stp hE188 hS179.base)
          refine wl_val (g_move (v := .tuple #[.slice a191 n192 c193, .bool r195]) rfl) rfl ?_
          refine wl_val (g_extract (vs := #[.slice a191 n192 c193, .bool r195]) rfl rfl) rfl ?_
          refine wl_val (g_extract (vs := #[.slice a191 n192 c193, .bool r195]) rfl rfl) rfl ?_
          refine wl_val (g_assign (v := .slice a191 n192 c193) rfl) rfl ?_
          refine wl_val (g_assign (v := .bool r195) rfl) rfl ?_
          refine wl_nil ?_
          refine hK186 _ _ ?_
          refine w_seq fun K198 hK198 => ?_
          refine w_region ?_
          refine wl_val (g_move (v := .bool r195) rfl) rfl ?_
          refine wl_nil ?_
          refine hK198 _ _ ?_
          refine w_condI (p := r195 = true) (b := r195) rfl Iff.rfl (fun h199 => ?_) (fun h199 => ?_)
          · replace hm := hm.1 h199
            refine w_region ?_
            refine wl_val (g_move (v := .slice a175 n176 c177) rfl) rfl ?_
            refine wl_val (q_len SL23 rfl (Vw.len (oS.vw hS196.g1))) rfl ?_
            refine wl_val (g_assign (v := .int .i64 (r174.length : Int)) rfl) rfl ?_
            refine wl_nil ?_
            refine hK168 _ _ ?_
            refine w_region ?_
            obtain ⟨hg200, hm⟩ := hm
            refine wl_val (g_add (a := v156) (b := 1) rfl rfl hg200) rfl ?_
            refine wl_val (g_move (v := .int .i64 (v156 + 1)) rfl) rfl ?_
            refine wl_nil ?_
            have hS201 := hS196.tail
            have hS202 := hS201.tail
            exact ⟨((r174.length : Int), (v156 + 1)), hm.2, ⟨rfl, rfl, rfl, rfl, rfl, trivial⟩, ⟨hm.1, hB197, hS202⟩⟩
          · replace hm := hm.2 h199
            refine w_skip ?_
            refine hK168 _ _ ?_
            refine w_region ?_
            obtain ⟨hg203, hm⟩ := hm
            refine wl_val (g_add (a := v156) (b := 1) rfl rfl hg203) rfl ?_
            refine wl_val (g_move (v := .int .i64 (v156 + 1)) rfl) rfl ?_
            refine wl_nil ?_
            have hS204 := hS196.tail
            have hS205 := hS204.tail
            exact ⟨(v155, (v156 + 1)), hm.2, ⟨rfl, rfl, rfl, rfl, rfl, trivial⟩, ⟨hm.1, hB197, hS205⟩⟩
      · replace hm := hm.2 h167
        refine w_exit ?_
        exact ⟨(v155), ⟨rfl, trivial⟩, ⟨hm, hB162, hS163⟩⟩
    · rintro v150 b_ w206 ⟨hm, hB207, hS208⟩
      show Wp _ _ _ _ (upds b_ [(5, .int .i64 v150)]) w206
      refine w_seq fun K209 hK209 => ?_
      refine w_region ?_
      refine wl_val (g_move (v := .int .i64 v150) rfl) rfl ?_
      refine wl_val (g_assign (v := .int .i64 v150) rfl) rfl ?_
      refine wl_nil ?_
      refine hK209 _ _ ?_
      refine w_ret ?_
      repeat first | with_reducible refine q_then ?_ | with_reducible refine q_block ?_
      exact ret1 rfl (by decide) ⟨_, hm, rfl, toExt hB207⟩

theorem m_spec_l17Copy_fn {w : World} {a0 : Option Addr} {n0 c0 : Nat} {y0 : List PlayerD} {p0 : List PlayerC} {Q : (List PlayerC) → Prop} (hp0 : Tv w.heap.size w a0 n0 c0 y0 p0) (hm : m_spec_l17Copy p0 Q) :
    Fn Try.prog 92 #[.slice a0 n0 c0] w (fun v w' => ∃ (r0 : List PlayerC) (a0 : Option Addr) (n0 c0 : Nat) (y0 : List PlayerD), Q r0 ∧ ers y0 = r0 ∧ v = .slice a0 n0 c0 ∧ Ext w w' ∧ Sep w' w.heap.size [oS 54 a0 n0 c0 y0, oT 3 y0]) := by
  unfold m_spec_l17Copy at hm
  have hB0 := Below.refl w.heap.size w
  have hS0 : Sep w w.heap.size [] := Sep.nil (Nat.le_refl _)
  refine fn_of_wp Try.func92 rfl (by kernel_rfl) (Nat.le_of_ble_eq_true rfl) ?_
  refine w_seq fun K1 hK1 => ?_
  refine w_region ?_
  refine wl_val (g_assign (v := .slice none 0 0) rfl) rfl ?_
  refine wl_nil ?_
  refine hK1 _ _ ?_
  refine w_seq fun K2 hK2 => ?_
  refine w_region ?_
  refine wl_step rfl (q_lit0 (α := PlayerD) rfl SL27 hS0) ?_
  rintro _ w3 ⟨a4, rfl, hS6, hE5⟩
  have hB8 := hB0.trans (Ext.stp hE5 hS0.base)
  have hS9 := hS6.noRows (δ := PlayerD) (E := 3)
  have he11 : ers ([] : List PlayerD) = ([] : List PlayerC) := rfl
  refine wl_val (g_assign (v := .slice a4 0 0) rfl) rfl ?_
  refine wl_nil ?_
  refine hK2 _ _ ?_
  refine w_cut (σ := List PlayerC × Option Addr × Nat × Nat × List PlayerD) (fun ⟨x291, a292, n293, c294, y295⟩ => [(3, .slice a292 n293 c294)]) (fun ⟨x291, a292, n293, c294, y295⟩ w' => m_spec_l17Copy_K0 Q x291 ∧ ers y295 = x291 ∧ Below w.heap.size w w' ∧ Sep w' w.heap.size [oS 54 a292 n293 c294 (y295 : List PlayerD), oT 3 (y295 : List PlayerD)]) ?_ ?_
  · refine w_seq fun K298 hK298 => ?_
    refine w_region ?_
    refine wl_val (g_assign (v := .int .i64 0) rfl) rfl ?_
    refine wl_nil ?_
    refine hK298 _ _ ?_
    refine w_block ?_
    have hS306 := hS9.f1
    obtain ⟨I307, μ308, h0309, hr310⟩ := hm
    refine w_for (σ := List PlayerC × Option Addr × Nat × Nat × List PlayerD × Int) (fun ⟨x299, a300, n301, c302, y303, v305⟩ => [(0, .slice a0 n0 c0), (3, .slice a300 n301 c302), (4, .int .i64 v305)]) (fun ⟨x299, a300, n301, c302, y303, v305⟩ w' => I307 x299 v305 ∧ ers y303 = x299 ∧ Below w.heap.size w w' ∧ Sep w' w.heap.size [oS 54 a300 n301 c302 (y303 : List PlayerD), oT 3 (y303 : List PlayerD)]) (fun ⟨x299, a300, n301, c302, y303, v305⟩ => μ308 x299 v305) ([], a4, 0, 0, [], 0) ⟨rfl, rfl, rfl, trivial⟩ ⟨h0309, he11, hB8, hS306⟩ ?_
    rintro ⟨x299, a300, n301, c302, y303, v305⟩ b_ w311 ⟨hi_, he304, hB312, hS313⟩
    show Wp _ _ _ _ (upds b_ [(0, .slice a0 n0 c0), (3, .slice a300 n301 c302), (4, .int .i64 v305)]) w311
    have hm := hr310 x299 v305 hi_
    refine w_seq fun K315 hK315 => ?_
    refine w_seq fun K316 hK316 => ?_
    refine w_region ?_
    refine wl_val (g_move (v := .int .i64 v305) rfl) rfl ?_
    refine wl_val (g_move (v := .slice a0 n0 c0) rfl) rfl ?_
    refine wl_val (q_len SL27 rfl (Tv.len (hp0.bel hB312))) rfl ?_
    refine wl_val (g_lss (a := v305) (b := (p0.length : Int)) rfl rfl) rfl ?_
    refine wl_nil ?_
    refine hK316 _ _ ?_
    refine w_condI (p := v305 < (p0.length : Int)) (b := (decide (v305 < (p0.length : Int)))) rfl decide_eq_true_iff (fun h317 => ?_) (fun h317 => ?_)
    · replace hm := hm.1 h317
      refine w_skip ?_
      refine hK315 _ _ ?_
      refine w_seq fun K318 hK318 => ?_
      refine w_block ?_
      have hlt321 := hS313.all
      refine w_tree (X := Ext) (Y := BelN w311.heap.size) [3, 2, 0, 0, 0, 0, 0, 4, 3, 3, 3, 3, 3, 0, 2, 1, 0] [0, 2, 3, 8, 9, 4, 10, 5, 11, 6, 12, 1, 7, 13, 14, 15, 16] .fin MIX (by decide +kernel) (by decide +kernel) (by decide +kernel) rfl Ext.refl (fun _ _ _ => Ext.trans) (fun _ _ _ => BelN.trans) (fun _ _ h => h.belN) (fun w319 hE320 => ?_)
      have hB322 := Ext.stp hE320 (Nat.le_refl _)
      have hS323 : Sep w319 w311.heap.size [] := Sep.nil hE320.size
      refine ⟨.slice a300 n301 c302, fun w324 hX325 => od_plain rfl (by have hB327 := hB322.trans (hX325 hS323.base); exact is_ext (g_move (v := .slice a300 n301 c302) rfl)), ?_⟩
      refine ⟨.slice a0 n0 c0, fun w328 hX329 => od_plain rfl (by have hS330 := hS323.ext hX329; have hB331 := hB322.trans (Ext.stp hX329 hS323.base); exact is_ext (g_move (v := .slice a0 n0 c0) rfl)), ?_⟩
      refine ⟨.int .i64 v305, fun w332 hX333 => od_plain rfl (by have hS334 := hS323.ext hX333; have hB335 := hB322.trans (Ext.stp hX333 hS323.base); exact is_ext (g_move (v := .int .i64 v305) rfl)), ?_⟩
      refine ⟨.slice a0 n0 c0, fun w336 hX337 => od_plain rfl (by have hB339 := hB322.trans (hX337 hS323.base); exact is_ext (g_move (v := .slice a0 n0 c0) rfl)), ?_⟩
      refine ⟨.int .i64 v305, fun w340 hX341 => od_plain rfl (by have hB343 := hB322.trans (hX341 hS323.base); exact is_ext (g_move (v := .int .i64 v305) rfl)), ?_⟩
      obtain ⟨hg348, hm⟩ := hm
      refine ⟨.pointer (some ((adr a0).add ((Int.toNat v305) * El.m PlayerD))), fun w344 hX345 => od_plain rfl (by have hS346 := hS323.ext hX345; have hB347 := hB322.trans (Ext.stp hX345 hS323.base); exact is_ext (q_index (i := v305) SL27 rfl rfl (Tv.o (hp0.bel (hB312.trans (bel_le hB347 hS313.base)))) (Tv.g (hp0.bel (hB312.trans (bel_le hB347 hS313.base))) hg348))), ?_⟩
      obtain ⟨hg353, hm⟩ := hm
      refine ⟨.pointer (some ((adr a0).add ((Int.toNat v305) * El.m PlayerD))), fun w349 hX350 => od_plain rfl (by have hB352 := hB322.trans (hX350 hS323.base); exact is_ext (q_index (i := v305) SL27 rfl rfl (Tv.o (hp0.bel (hB312.trans (bel_le hB352 hS313.base)))) (Tv.g (hp0.bel (hB312.trans (bel_le hB352 hS313.base))) hg353))), ?_⟩
      refine ⟨.pointer (some (((adr a0).add ((Int.toNat v305) * El.m PlayerD)).add 0)), fun w354 hX355 => od_plain rfl (by have hS356 := hS323.ext hX355; have hB357 := hB322.trans (Ext.stp hX355 hS323.base); exact is_ext (g_fieldAddr (q := (adr a0).add ((Int.toNat v305) * El.m PlayerD)) FL54_0 ON23 rfl)), ?_⟩
      refine ⟨.pointer (some (((adr a0).add ((Int.toNat v305) * El.m PlayerD)).add 1)), fun w358 hX359 => od_plain rfl (by have hB361 := hB322.trans (hX359 hS323.base); exact is_ext (g_fieldAddr (q := (adr a0).add ((Int.toNat v305) * El.m PlayerD)) FL54_1 ON3 rfl)), ?_⟩
      refine ⟨.slice ((y0[(Int.toNat v305)]!).1.1) ((y0[(Int.toNat v305)]!).1.2.2.length) ((y0[(Int.toNat v305)]!).1.2.1), fun w362 hX363 => od_plain rfl (by have hS364 := hS323.ext hX363; have hB365 := hB322.trans (Ext.stp hX363 hS323.base); exact is_ext (q_loadF (i := v305) (j := 0) (v := .slice ((y0[(Int.toNat v305)]!).1.1) ((y0[(Int.toNat v305)]!).1.2.2.length) ((y0[(Int.toNat v305)]!).1.2.1)) ON23 (Tv.o (hp0.bel (hB312.trans (bel_le hB365 hS313.base)))) (Tv.g (hp0.bel (hB312.trans (bel_le hB365 hS313.base))) hg348) rfl rfl)), ?_⟩
      refine ⟨.int .i64 (p0[(Int.toNat v305)]!.2), fun w366 hX367 => od_plain rfl (by have hB369 := hB322.trans (hX367 hS323.base); exact is_ext (q_loadF (i := v305) (j := 1) (v := .int .i64 (p0[(Int.toNat v305)]!.2)) ON3 (Tv.o (hp0.bel (hB312.trans (bel_le hB369 hS313.base)))) (Tv.g (hp0.bel (hB312.trans (bel_le hB369 hS313.base))) hg353) (by rw [← Tv.free (hp0.bel (hB312.trans (bel_le hB369 hS313.base))) hg353]; rfl) rfl)), ?_⟩
      intro w370 hX371
      have hB372 := hB322.trans (Ext.stp hX371 hS323.base)
      have hS373 := hS323.ext hX371
      refine ⟨_, od_plain rfl (q_lit0 (α := Int) rfl SL23 hS373), ?_⟩
      rintro _ w374 ⟨a375, rfl, hS377, hE376⟩
      refine ⟨hE376, ?_⟩
      have hB379 := hB372.trans (Ext.stp hE376 hS373.base)
      intro w380 hX381
      have hB382 := hB379.trans (Ext.stp hX381 hS377.base)
      have hS383 := hS377.ext hX381
      obtain ⟨hg389, hm⟩ := hm
      refine ⟨_, od_plain rfl (q_append SL23 rfl rfl hS383 (Tv.rowP (hp0.bel (hB312.trans (bel_le hB382 hS313.base))) hg348) hg389 (by decide)), ?_⟩
      rintro _ w384 ⟨a385, c386, rfl, hS388, hb387⟩
      refine ⟨fun _ => hb387, ?_⟩
      have hB390 := hB382.trans hb387
      refine ⟨.agg #[.slice a385 (0 + (y0[(Int.toNat v305)]!).1.2.2.length) c386, .int .i64 (p0[(Int.toNat v305)]!.2)], fun w391 hX392 => od_plain rfl (by have hS393 := hS388.ext hX392; have hB394 := hB390.trans (Ext.stp hX392 hS388.base); exact is_ext (g_build (v := .agg #[.slice a385 (0 + (y0[(Int.toNat v305)]!).1.2.2.length) c386, .int .i64 (p0[(Int.toNat v305)]!.2)]) (parts2 rfl rfl) (BD54_01 a385 (0 + (y0[(Int.toNat v305)]!).1.2.2.length) c386 (p0[(Int.toNat v305)]!.2)))), ?_⟩
      intro w395 hX396
      have hB397 := hB390.trans (Ext.stp hX396 hS388.base)
      have hS398 := hS388.ext hX396
      have hn404 := oS.len hS398.g0
      have hS405 := hS398.rowsPlayer (p0[(Int.toNat v305)]!.2)
      have he403 : ers [(((a385, c386, p0[(Int.toNat v305)]!.1), p0[(Int.toNat v305)]!.2) : PlayerD)] = [(p0[(Int.toNat v305)]!.1, p0[(Int.toNat v305)]!.2)] := rfl
      refine ⟨_, od_plain rfl (q_lit1 (y := ((((a385, c386, p0[(Int.toNat v305)]!.1), p0[(Int.toNat v305)]!.2) : PlayerD) : PlayerD)) SL27 rfl (by rw [hn404]; rfl) (by decide) hS405), ?_⟩
      rintro _ w399 ⟨a400, rfl, hS402, hE401⟩
      refine ⟨hE401, ?_⟩
      have hB408 := hB397.trans (Ext.stp hE401 hS405.base)
      intro w410 hX411
      have hB412 := hB408.trans (Ext.stp hX411 hS402.base)
      have hS413 := hS402.ext hX411
      have hS414 := Sep.app2 hS413 (Sep.belN hS313 hlt321 hB412) hlt321 hS313.base
      have hB415 := hB312.trans (bel_le hB412 hS313.base)
      have hS421 := hS414.f2
      obtain ⟨hg422, hm⟩ := hm
      have hl423 : (y303).length + ([(((a385, c386, p0[(Int.toNat v305)]!.1), p0[(Int.toNat v305)]!.2) : PlayerD)]).length ≤ 1099511627776 := by have h1 := congrArg List.length he304; have h2 := congrArg List.length he403; have h3 := hg422; simp only [ers, List.length_map, List.length_append, List.length_cons, List.length_nil, List.length_replicate, List.length_set] at h1 h2 h3 ⊢; omega
      refine ⟨_, od_plain rfl (q_append SL27 rfl rfl hS421 (oS.vw hS421.g1) hl423 (by decide)), ?_⟩
      rintro _ w416 ⟨a417, c418, rfl, hS420, hb419⟩
      have hB424 := hB415.trans hb419
      have hS425 := hS420.f1
      have hS426 := hS425.tail
      have hS427 := hS426.f2
      have hS428 := hS427.f2
      have hS429 := hS428.catRows
      have he430 : ers (y303 ++ ([(((a385, c386, p0[(Int.toNat v305)]!.1), p0[(Int.toNat v305)]!.2) : PlayerD)])) = (x299 ++ ([(p0[(Int.toNat v305)]!.1, p0[(Int.toNat v305)]!.2)])) := by rw [← he304, ← he403]; exact List.map_append
      refine ⟨.slice a417 (n301 + 1) c418, fun w431 hX432 => od_plain rfl (by have hS433 := hS429.ext hX432; have hB434 := hB424.trans (Ext.stp hX432 hS429.base); exact is_ext (g_assign (v := .slice a417 (n301 + 1) c418) rfl)), ?_⟩
      intro w435 hX436
      have hB437 := hB424.trans (Ext.stp hX436 hS429.base)
      have hS438 := hS429.ext hX436
      refine kt_fin ?_
      refine hK318 _ _ ?_
      refine w_region ?_
      refine wl_val (g_move (v := .int .i64 v305) rfl) rfl ?_
      obtain ⟨hg439, hm⟩ := hm
      refine wl_val (g_add (a := v305) (b := 1) rfl rfl hg439) rfl ?_
      refine wl_val (g_assign (v := .int .i64 (v305 + 1)) rfl) rfl ?_
      refine wl_nil ?_
      have hS440 := hS438.f1
      exact ⟨((x299 ++ ([(p0[(Int.toNat v305)]!.1, p0[(Int.toNat v305)]!.2)])), a417, (n301 + 1), c418, (y303 ++ ([(((a385, c386, p0[(Int.toNat v305)]!.1), p0[(Int.toNat v305)]!.2) : PlayerD)])), (v305 + 1)), hm.2, ⟨rfl, rfl, rfl, trivial⟩, ⟨hm.1, he430, hB437, hS440⟩⟩
    · replace hm := hm.2 h317
      refine w_exit ?_
      exact ⟨(x299, a300, n301, c302, y303), ⟨rfl, trivial⟩, ⟨hm, he304, hB312, hS313⟩⟩
  · rintro ⟨x291, a292, n293, c294, y295⟩ b_ w441 ⟨hm, he296, hB442, hS443⟩
    show Wp _ _ _ _ (upds b_ [(3, .slice a292 n293 c294)]) w441
    refine w_seq fun K444 hK444 => ?_
    refine w_region ?_
    refine wl_val (g_move (v := .slice a292 n293 c294) rfl) rfl ?_
    refine wl_val (g_assign (v := .slice a292 n293 c294) rfl) rfl ?_
    refine wl_nil ?_
    refine hK444 _ _ ?_
    refine w_ret ?_
    repeat first | with_reducible refine q_then ?_ | with_reducible refine q_block ?_
    exact ret1 rfl (by decide) ⟨_, _, _, _, _, hm, he296, rfl, toExt hB442, hS443⟩

theorem m_spec_WithoutPlayer_fn {w : World} {a0 : Option Addr} {n0 c0 : Nat} {y0 : List PlayerD} {p0 : List PlayerC} {Q : (List PlayerC) → Bool → Prop} (hp0 : Tv w.heap.size w a0 n0 c0 y0 p0) (p1 : Int) (hm : m_spec_WithoutPlayer p0 p1 Q) :
    Fn Try.prog 68 #[.slice a0 n0 c0, .int .i64 p1] w (fun v w' => ∃ (r0 : List PlayerC) (a0 : Option Addr) (n0 c0 : Nat) (y0 : List PlayerD) (r1 : Bool), Q r0 r1 ∧ ers y0 = r0 ∧ v = .tuple #[.slice a0 n0 c0, .bool r1] ∧ Ext w w' ∧ Sep w' w.heap.size [oS 54 a0 n0 c0 y0, oT 3 y0]) := by
  unfold m_spec_WithoutPlayer at hm
  have hB0 := Below.refl w.heap.size w
  have hS0 : Sep w w.heap.size [] := Sep.nil (Nat.le_refl _)
  refine fn_of_wp Try.func68 rfl (by kernel_rfl) (Nat.le_of_ble_eq_true rfl) ?_
  refine w_seq fun K1 hK1 => ?_
  refine w_region ?_
  refine wl_val (g_assign (v := .slice none 0 0) rfl) rfl ?_
  refine wl_val (g_assign (v := .bool false) rfl) rfl ?_
  refine wl_nil ?_
  refine hK1 _ _ ?_
  refine w_seq fun K2 hK2 => ?_
  refine w_region ?_
  refine wl_val (g_move (v := .slice a0 n0 c0) rfl) rfl ?_
  refine wl_step rfl (g_call (vs := #[.slice a0 n0 c0]) CF92 (args1 rfl) (m_spec_l17Copy_fn ((hp0.bel hB0).up hS0) hm)) ?_
  rintro _ w3 ⟨r6, a7, n8, c9, y10, hm, he11, rfl, hE4, hN5⟩
  have hS15 := hS0.call2 hE4 hN5
  have hB16 := hB0.trans (Ext.stp hE4 hS0.base)
  refine wl_val (g_assign (v := .slice a7 n8 c9) rfl) rfl ?_
  refine wl_nil ?_
  refine hK2 _ _ ?_
  refine w_seq fun K17 hK17 => ?_
  refine w_seq fun K18 hK18 => ?_
  refine w_region ?_
  refine wl_val (g_move (v := .slice a0 n0 c0) rfl) rfl ?_
  refine wl_step rfl (g_call (vs := #[.slice a0 n0 c0]) CF57 (args1 rfl) (m_spec_PlayersOk_fn ((hp0.bel hB16).up hS15) hm)) ?_
  rintro _ w19 ⟨r22, hm, rfl, hE20⟩
  have hB23 := hB16.trans (Ext.stp hE20 hS15.base)
  have hS24 := hS15.ext hE20
  refine wl_val (g_not (a := r22) rfl) rfl ?_
  refine wl_val (g_move (v := .bool (!r22)) rfl) rfl ?_
  refine wl_guard (c := (!r22) = false) (val := .int .i64 p1) (b := ((!r22) == false)) (gv_some rfl rfl rfl) beq_iff_eq (fun hc25 => ?_) ?_
  · have hcq0 : ¬ (¬ (r22 = true)) := (i_neg (i_not Iff.rfl) hc25)
    exact g_move (v := .int .i64 p1) rfl
  refine wl_guard (c := (!r22) = false) (val := .slice a0 n0 c0) (b := ((!r22) == false)) (gv_some rfl rfl rfl) beq_iff_eq (fun hc26 => ?_) ?_
  · have hcq0 : ¬ (¬ (r22 = true)) := (i_neg (i_not Iff.rfl) hc26)
    exact g_move (v := .slice a0 n0 c0) rfl
  refine wl_guard (c := (!r22) = false) (val := .int .i64 (p0.length : Int)) (b := ((!r22) == false)) (gv_some rfl rfl rfl) beq_iff_eq (fun hc27 => ?_) ?_
  · have hcq0 : ¬ (¬ (r22 = true)) := (i_neg (i_not Iff.rfl) hc27)
    exact q_len SL27 (if_pos hc27) (Tv.len (hp0.bel hB23))
  obtain ⟨hg29, hm⟩ := hm
  refine wl_guard (c := (!r22) = false) (val := .int .i64 ((p0.length : Int) - 1)) (b := ((!r22) == false)) (gv_some rfl rfl rfl) beq_iff_eq (fun hc28 => ?_) ?_
  · have hcq0 : ¬ (¬ (r22 = true)) := (i_neg (i_not Iff.rfl) hc28)
    exact g_sub (a := (p0.length : Int)) (b := 1) (if_pos hc28) rfl (hg29 hcq0)
  obtain ⟨r31, hk32, hm⟩ := hm
  refine wl_guardE (X := Ext) (c := (!r22) = false) (val := .bool r31) (Ext.refl _) (b := ((!r22) == false)) (gv_some rfl rfl rfl) beq_iff_eq (fun hc30 => ?_) (fun w33 hE34 => ?_)
  · have hcq0 : ¬ (¬ (r22 = true)) := (i_neg (i_not Iff.rfl) hc30)
    exact (g_call (vs := #[.int .i64 p1, .int .i64 0, .int .i64 ((p0.length : Int) - 1)]) CF88 (args3 (if_pos hc30) rfl (if_pos hc30)) ((m_spec_l01In_fn p1 0 ((p0.length : Int) - 1) (hk32 hcq0)).mono fun _ _ ⟨_, h1, h2, h3⟩ => ⟨by rw [h2, h1], h3⟩))
  have hB35 := hB23.trans (Ext.stp hE34 hS24.base)
  have hS36 := hS24.ext hE34
  refine wl_guard (c := (!r22) = false) (val := .bool (!r31)) (b := ((!r22) == false)) (gv_some rfl rfl rfl) beq_iff_eq (fun hc37 => ?_) ?_
  · have hcq0 : ¬ (¬ (r22 = true)) := (i_neg (i_not Iff.rfl) hc37)
    exact g_not (a := r31) (if_pos hc37)
  refine wl_val (g_pick_or (b := (!r22)) (q := (!r31)) rfl rfl) rfl ?_
  refine wl_nil ?_
  refine hK18 _ _ ?_
  refine w_condI (p := ((¬ (r22 = true)) ∨ (¬ (r31 = true)))) (b := ((!r22) || (!r31))) rfl (i_or (i_not Iff.rfl) (i_not Iff.rfl)) (fun h38 => ?_) (fun h38 => ?_)
  · replace hm := hm.1 h38
    refine w_seq fun K39 hK39 => ?_
    refine w_region ?_
    refine wl_val (g_move (v := .slice a7 n8 c9) rfl) rfl ?_
    refine wl_val (g_assign (v := .slice a7 n8 c9) rfl) rfl ?_
    refine wl_val (g_assign (v := .bool false) rfl) rfl ?_
    refine wl_nil ?_
    refine hK39 _ _ ?_
    refine w_ret ?_
    repeat first | with_reducible refine q_then ?_ | with_reducible refine q_block ?_
    exact ret2 rfl (by decide) (by decide) ⟨_, _, _, _, _, _, hm, he11, rfl, toExt hB35, hS36⟩
  · replace hm := hm.2 h38
    refine w_skip ?_
    refine hK17 _ _ ?_
    refine w_seq fun K40 hK40 => ?_
    refine w_region ?_
    refine wl_val (g_move (v := .slice a7 n8 c9) rfl) rfl ?_
    refine wl_val (g_move (v := .int .i64 p1) rfl) rfl ?_
    obtain ⟨hg41, hm⟩ := hm
    refine wl_val (q_index (i := p1) SL27 rfl rfl (Tv.o (oT.vw hS36.g0 hS36.g1 he11)) (Tv.g (oT.vw hS36.g0 hS36.g1 he11) hg41)) rfl ?_
    refine wl_val (g_fieldAddr (q := (adr a7).add ((Int.toNat p1) * El.m PlayerD)) FL54_1 ON3 rfl) rfl ?_
    have hS45 := hS36.f1
    have hS46 := hS45.f1
    have hl47 : ix p1 (y10).length := by have h3 := congrArg List.length he11; simp only [ers, List.length_map] at h3; rw [h3]; exact hg41
    refine wl_step rfl (q_storeF (i := p1) (j := 1) (v := (((y10)[(Int.toNat p1)]!.1, 0) : PlayerD)) hS46 ON3 hl47 rfl rfl rfl rfl (by decide) rfl) ?_
    rintro _ w42 ⟨rfl, hS43, hb44⟩
    have hB48 := hB35.trans hb44
    have hl49 : (Int.toNat p1) < (y10).length := by have h1 := (hl47).1; have h2 := (hl47).2; omega
    have he50 : ers (y10.set (Int.toNat p1) ((y10)[(Int.toNat p1)]!.1, 0)) = (r6.set (Int.toNat p1) (r6[(Int.toNat p1)]!.1, 0)) := ers_set he11 (by first | rfl | (rw [← he11, er_get hl49]; rfl)) _
    have hS51 := hS43.f1
    have hS52 := hS51.rowsSame (ys' := (y10.set (Int.toNat p1) ((y10)[(Int.toNat p1)]!.1, 0))) (by simp) (fun i' j' h1 h2 => by rw [set_at _ _ _ hl49]; exact if hc : (Int.toNat p1) = i' then (by subst hc; rw [if_pos rfl]; rfl) else (by rw [if_neg hc]))
    refine wl_nil ?_
    refine hK40 _ _ ?_
    refine w_seq fun K53 hK53 => ?_
    refine w_region ?_
    refine wl_val (g_move (v := .slice a7 n8 c9) rfl) rfl ?_
    refine wl_val (g_assign (v := .slice a7 n8 c9) rfl) rfl ?_
    refine wl_val (g_assign (v := .bool true) rfl) rfl ?_
    refine wl_nil ?_
    refine hK53 _ _ ?_
    refine w_ret ?_
    have hS54 := hS52.f1
    repeat first | with_reducible refine q_then ?_ | with_reducible refine q_block ?_
    exact ret2 rfl (by decide) (by decide) ⟨_, _, _, _, _, _, hm, he50, rfl, toExt hB48, hS54⟩

theorem m_spec_l17Can_fn {w : World} {a0 : Option Addr} {n0 c0 : Nat} {y0 : List PlayerD} {p0 : List PlayerC} {a1 : Option Addr} {n1 c1 : Nat} {p1 : List Int} {Q : Bool → Prop} (hp0 : Tv w.heap.size w a0 n0 c0 y0 p0) (hp1 : Vw w.heap.size w a1 n1 c1 p1) (hm : m_spec_l17Can p0 p1 Q) :
    Fn Try.prog 69 #[.slice a0 n0 c0, .slice a1 n1 c1] w (fun v w' => ∃ (r0 : Bool), Q r0 ∧ v = .bool r0 ∧ Ext w w') := by
  unfold m_spec_l17Can at hm
  have hB0 := Below.refl w.heap.size w
  have hS0 : Sep w w.heap.size [] := Sep.nil (Nat.le_refl _)
  refine fn_of_wp Try.func69 rfl (by kernel_rfl) (Nat.le_of_ble_eq_true rfl) ?_
  refine w_seq fun K1 hK1 => ?_
  refine w_region ?_
  refine wl_val (g_assign (v := .bool false) rfl) rfl ?_
  refine wl_nil ?_
  refine hK1 _ _ ?_
  refine w_seq fun K2 hK2 => ?_
  refine w_region ?_
  refine wl_val (g_move (v := .slice a0 n0 c0) rfl) rfl ?_
  refine wl_val (g_move (v := .slice a1 n1 c1) rfl) rfl ?_
  refine wl_step rfl (g_call (vs := #[.slice a0 n0 c0, .slice a1 n1 c1]) CF13 (args2 rfl rfl) (m_spec_FirstCasting_fn ((hp0.bel hB0).up hS0) ((hp1.bel hB0).up hS0) hm)) ?_
  rintro _ w3 ⟨r6, a7, n8, c9, r11, hm, rfl, hE4, hN5⟩
  have hS12 := hS0.call1 hE4 hN5
  have hB13 := hB0.trans (Ext.stp hE4 hS0.base)
  refine wl_val (g_move (v := .tuple #[.slice a7 n8 c9, .bool r11]) rfl) rfl ?_
  refine wl_val (g_extract (vs := #[.slice a7 n8 c9, .bool r11]) rfl rfl) rfl ?_
  refine wl_val (g_extract (vs := #[.slice a7 n8 c9, .bool r11]) rfl rfl) rfl ?_
  refine wl_val (g_assign (v := .slice a7 n8 c9) rfl) rfl ?_
  refine wl_val (g_assign (v := .bool r11) rfl) rfl ?_
  refine wl_nil ?_
  refine hK2 _ _ ?_
  refine w_seq fun K14 hK14 => ?_
  refine w_region ?_
  refine wl_val (g_move (v := .bool r11) rfl) rfl ?_
  refine wl_val (g_assign (v := .bool r11) rfl) rfl ?_
  refine wl_nil ?_
  refine hK14 _ _ ?_
  refine w_ret ?_
  repeat first | with_reducible refine q_then ?_ | with_reducible refine q_block ?_
  exact ret1 rfl (by decide) ⟨_, hm, rfl, toExt hB13⟩

theorem m_spec_IsSafe_fn {w : World} {a0 : Option Addr} {n0 c0 : Nat} {y0 : List PlayerD} {p0 : List PlayerC} {a1 : Option Addr} {n1 c1 : Nat} {p1 : List Int} {Q : Bool → Prop} (hp0 : Tv w.heap.size w a0 n0 c0 y0 p0) (hp1 : Vw w.heap.size w a1 n1 c1 p1) (hm : m_spec_IsSafe p0 p1 Q) :
    Fn Try.prog 24 #[.slice a0 n0 c0, .slice a1 n1 c1] w (fun v w' => ∃ (r0 : Bool), Q r0 ∧ v = .bool r0 ∧ Ext w w') := by
  unfold m_spec_IsSafe at hm
  have hB0 := Below.refl w.heap.size w
  have hS0 : Sep w w.heap.size [] := Sep.nil (Nat.le_refl _)
  refine fn_of_wp Try.func24 rfl (by kernel_rfl) (Nat.le_of_ble_eq_true rfl) ?_
  refine w_seq fun K1 hK1 => ?_
  refine w_region ?_
  refine wl_val (g_assign (v := .bool false) rfl) rfl ?_
  refine wl_nil ?_
  refine hK1 _ _ ?_
  refine w_seq fun K2 hK2 => ?_
  refine w_seq fun K3 hK3 => ?_
  refine w_region ?_
  refine wl_val (g_move (v := .slice a0 n0 c0) rfl) rfl ?_
  refine wl_val (g_move (v := .slice a1 n1 c1) rfl) rfl ?_
  refine wl_step rfl (g_call (vs := #[.slice a0 n0 c0, .slice a1 n1 c1]) CF65 (args2 rfl rfl) (m_spec_l14Ok_fn ((hp0.bel hB0).up hS0) ((hp1.bel hB0).up hS0) hm)) ?_
  rintro _ w4 ⟨r7, hm, rfl, hE5⟩
  have hB8 := hB0.trans (Ext.stp hE5 hS0.base)
  have hS9 := hS0.ext hE5
  refine wl_val (g_not (a := r7) rfl) rfl ?_
  refine wl_nil ?_
  refine hK3 _ _ ?_
  refine w_condI (p := ¬ (r7 = true)) (b := (!r7)) rfl (i_not Iff.rfl) (fun h10 => ?_) (fun h10 => ?_)
  · replace hm := hm.1 h10
    refine w_seq fun K11 hK11 => ?_
    refine w_region ?_
    refine wl_val (g_assign (v := .bool false) rfl) rfl ?_
    refine wl_nil ?_
    refine hK11 _ _ ?_
    refine w_ret ?_
    repeat first | with_reducible refine q_then ?_ | with_reducible refine q_block ?_
    exact ret1 rfl (by decide) ⟨_, hm, rfl, toExt hB8⟩
  · replace hm := hm.2 h10
    refine w_skip ?_
    refine hK2 _ _ ?_
    refine w_cut (σ := Unit) (fun _ => []) (fun _ w' => m_spec_IsSafe_K0 Q ∧ Below w.heap.size w w' ∧ Sep w' w.heap.size []) ?_ ?_
    · refine w_seq fun K13 hK13 => ?_
      refine w_region ?_
      refine wl_val (g_assign (v := .int .i64 0) rfl) rfl ?_
      refine wl_nil ?_
      refine hK13 _ _ ?_
      refine w_block ?_
      obtain ⟨I53, μ54, h055, hr56⟩ := hm
      refine w_for (σ := Int) (fun v52 => [(0, .slice a0 n0 c0), (1, .slice a1 n1 c1), (5, .int .i64 v52)]) (fun v52 w' => I53 v52 ∧ Below w.heap.size w w' ∧ Sep w' w.heap.size []) (fun v52 => μ54 v52) (0) ⟨rfl, rfl, rfl, trivial⟩ ⟨h055, hB8, hS9⟩ ?_
      rintro v52 b_ w57 ⟨hi_, hB58, hS59⟩
      show Wp _ _ _ _ (upds b_ [(0, .slice a0 n0 c0), (1, .slice a1 n1 c1), (5, .int .i64 v52)]) w57
      have hm := hr56 v52 hi_
      refine w_seq fun K61 hK61 => ?_
      refine w_seq fun K62 hK62 => ?_
      refine w_region ?_
      refine wl_val (g_move (v := .int .i64 v52) rfl) rfl ?_
      refine wl_val (g_move (v := .slice a0 n0 c0) rfl) rfl ?_
      refine wl_val (q_len SL27 rfl (Tv.len (hp0.bel hB58))) rfl ?_
      refine wl_val (g_lss (a := v52) (b := (p0.length : Int)) rfl rfl) rfl ?_
      refine wl_nil ?_
      refine hK62 _ _ ?_
      refine w_condI (p := v52 < (p0.length : Int)) (b := (decide (v52 < (p0.length : Int)))) rfl decide_eq_true_iff (fun h63 => ?_) (fun h63 => ?_)
      · replace hm := hm.1 h63
        refine w_skip ?_
        refine hK61 _ _ ?_
        refine w_seq fun K64 hK64 => ?_
        refine w_block ?_
        refine w_seq fun K65 hK65 => ?_
        refine w_region ?_
        refine wl_val (g_move (v := .slice a0 n0 c0) rfl) rfl ?_
        refine wl_val (g_move (v := .int .i64 v52) rfl) rfl ?_
        refine wl_step rfl (g_call (vs := #[.slice a0 n0 c0, .int .i64 v52]) CF68 (args2 rfl rfl) (m_spec_WithoutPlayer_fn ((hp0.bel hB58).up hS59) v52 hm)) ?_
        rintro _ w66 ⟨r69, a70, n71, c72, y73, r78, hm, he74, rfl, hE67, hN68⟩
        have hS79 := hS59.call2 hE67 hN68
        have hB80 := hB58.trans (Ext.stp hE67 hS59.base)
        refine wl_val (g_move (v := .tuple #[.slice a70 n71 c72, .bool r78]) rfl) rfl ?_
        refine wl_val (g_extract (vs := #[.slice a70 n71 c72, .bool r78]) rfl rfl) rfl ?_
        refine wl_val (g_extract (vs := #[.slice a70 n71 c72, .bool r78]) rfl rfl) rfl ?_
        refine wl_val (g_assign (v := .slice a70 n71 c72) rfl) rfl ?_
        refine wl_val (g_assign (v := .bool r78) rfl) rfl ?_
        refine wl_nil ?_
        refine hK65 _ _ ?_
        refine w_seq fun K81 hK81 => ?_
        refine w_region ?_
        refine wl_val (g_move (v := .slice a70 n71 c72) rfl) rfl ?_
        refine wl_val (g_move (v := .slice a1 n1 c1) rfl) rfl ?_
        refine wl_step rfl (g_call (vs := #[.slice a70 n71 c72, .slice a1 n1 c1]) CF69 (args2 rfl rfl) (m_spec_l17Can_fn (oT.vw hS79.g0 hS79.g1 he74) ((hp1.bel hB80).up hS79) hm)) ?_
        rintro _ w82 ⟨r85, hm, rfl, hE83⟩
        have hB86 := hB80.trans (Ext.stp hE83 hS79.base)
        have hS87 := hS79.ext hE83
        refine wl_val (g_not (a := r85) rfl) rfl ?_
        refine wl_nil ?_
        refine hK81 _ _ ?_
        refine w_condI (p := ¬ (r85 = true)) (b := (!r85)) rfl (i_not Iff.rfl) (fun h88 => ?_) (fun h88 => ?_)
        · replace hm := hm.1 h88
          refine w_seq fun K89 hK89 => ?_
          refine w_region ?_
          refine wl_val (g_assign (v := .bool false) rfl) rfl ?_
          refine wl_nil ?_
          refine hK89 _ _ ?_
          refine w_ret ?_
          repeat first | with_reducible refine q_then ?_ | with_reducible refine q_block ?_
          exact ret1 rfl (by decide) ⟨_, hm, rfl, toExt hB86⟩
        · replace hm := hm.2 h88
          refine w_skip ?_
          refine hK64 _ _ ?_
          refine w_region ?_
          refine wl_val (g_move (v := .int .i64 v52) rfl) rfl ?_
          obtain ⟨hg90, hm⟩ := hm
          refine wl_val (g_add (a := v52) (b := 1) rfl rfl hg90) rfl ?_
          refine wl_val (g_assign (v := .int .i64 (v52 + 1)) rfl) rfl ?_
          refine wl_nil ?_
          have hS91 := hS87.tail
          have hS92 := hS91.tail
          exact ⟨((v52 + 1)), hm.2, ⟨rfl, rfl, rfl, trivial⟩, ⟨hm.1, hB86, hS92⟩⟩
      · replace hm := hm.2 h63
        refine w_exit ?_
        exact ⟨(), trivial, ⟨hm, hB58, hS59⟩⟩
    · rintro _ b_ w93 ⟨hm, hB94, hS95⟩
      show Wp _ _ _ _ (upds b_ []) w93
      refine w_seq fun K96 hK96 => ?_
      refine w_region ?_
      refine wl_val (g_assign (v := .bool true) rfl) rfl ?_
      refine wl_nil ?_
      refine hK96 _ _ ?_
      refine w_ret ?_
      repeat first | with_reducible refine q_then ?_ | with_reducible refine q_block ?_
      exact ret1 rfl (by decide) ⟨_, hm, rfl, toExt hB94⟩

theorem m_impl_canPlay_fn {w : World} {a0 : Option Addr} {n0 c0 : Nat} {y0 : List PlayerD} {p0 : List PlayerC} {a1 : Option Addr} {n1 c1 : Nat} {p1 : List Int} {Q : Bool → Prop} (hp0 : Tv w.heap.size w a0 n0 c0 y0 p0) (hp1 : Vw w.heap.size w a1 n1 c1 p1) (hm : m_impl_canPlay p0 p1 Q) :
    Fn Try.prog 70 #[.slice a0 n0 c0, .slice a1 n1 c1] w (fun v w' => ∃ (r0 : Bool), Q r0 ∧ v = .bool r0 ∧ Ext w w') := by
  unfold m_impl_canPlay at hm
  have hB0 := Below.refl w.heap.size w
  have hS0 : Sep w w.heap.size [] := Sep.nil (Nat.le_refl _)
  refine fn_of_wp Try.func70 rfl (by kernel_rfl) (Nat.le_of_ble_eq_true rfl) ?_
  refine w_seq fun K1 hK1 => ?_
  refine w_region ?_
  refine wl_val (g_assign (v := .bool false) rfl) rfl ?_
  refine wl_nil ?_
  refine hK1 _ _ ?_
  refine w_seq fun K2 hK2 => ?_
  refine w_region ?_
  refine wl_val (g_move (v := .slice a0 n0 c0) rfl) rfl ?_
  refine wl_val (g_move (v := .slice a1 n1 c1) rfl) rfl ?_
  refine wl_step rfl (g_call (vs := #[.slice a0 n0 c0, .slice a1 n1 c1]) CF16 (args2 rfl rfl) (m_impl_FirstCasting_fn ((hp0.bel hB0).up hS0) ((hp1.bel hB0).up hS0) hm)) ?_
  rintro _ w3 ⟨r6, a7, n8, c9, r11, hm, rfl, hE4, hN5⟩
  have hS12 := hS0.call1 hE4 hN5
  have hB13 := hB0.trans (Ext.stp hE4 hS0.base)
  refine wl_val (g_move (v := .tuple #[.slice a7 n8 c9, .bool r11]) rfl) rfl ?_
  refine wl_val (g_extract (vs := #[.slice a7 n8 c9, .bool r11]) rfl rfl) rfl ?_
  refine wl_val (g_extract (vs := #[.slice a7 n8 c9, .bool r11]) rfl rfl) rfl ?_
  refine wl_val (g_assign (v := .slice a7 n8 c9) rfl) rfl ?_
  refine wl_val (g_assign (v := .bool r11) rfl) rfl ?_
  refine wl_nil ?_
  refine hK2 _ _ ?_
  refine w_seq fun K14 hK14 => ?_
  refine w_region ?_
  refine wl_val (g_move (v := .bool r11) rfl) rfl ?_
  refine wl_val (g_assign (v := .bool r11) rfl) rfl ?_
  refine wl_nil ?_
  refine hK14 _ _ ?_
  refine w_ret ?_
  repeat first | with_reducible refine q_then ?_ | with_reducible refine q_block ?_
  exact ret1 rfl (by decide) ⟨_, hm, rfl, toExt hB13⟩

theorem m_impl_copyPlayers_fn {w : World} {a0 : Option Addr} {n0 c0 : Nat} {y0 : List PlayerD} {p0 : List PlayerC} {Q : (List PlayerC) → Prop} (hp0 : Tv w.heap.size w a0 n0 c0 y0 p0) (hm : m_impl_copyPlayers p0 Q) :
    Fn Try.prog 97 #[.slice a0 n0 c0] w (fun v w' => ∃ (r0 : List PlayerC) (a0 : Option Addr) (n0 c0 : Nat) (y0 : List PlayerD), Q r0 ∧ ers y0 = r0 ∧ v = .slice a0 n0 c0 ∧ Ext w w' ∧ Sep w' w.heap.size [oS 54 a0 n0 c0 y0, oT 3 y0]) := by
  unfold m_impl_copyPlayers at hm
  have hB0 := Below.refl w.heap.size w
  have hS0 : Sep w w.heap.size [] := Sep.nil (Nat.le_refl _)
  refine fn_of_wp Try.func97 rfl (by kernel_rfl) (Nat.le_of_ble_eq_true rfl) ?_
  refine w_seq fun K1 hK1 => ?_
  refine w_region ?_
  refine wl_val (g_assign (v := .slice none 0 0) rfl) rfl ?_
  refine wl_nil ?_
  refine hK1 _ _ ?_
  refine w_seq fun K2 hK2 => ?_
  refine w_region ?_
  refine wl_step rfl (q_lit0 (α := PlayerD) rfl SL27 hS0) ?_
  rintro _ w3 ⟨a4, rfl, hS6, hE5⟩
  have hB8 := hB0.trans (Ext.stp hE5 hS0.base)
  have hS9 := hS6.noRows (δ := PlayerD) (E := 3)
  have he11 : ers ([] : List PlayerD) = ([] : List PlayerC) := rfl
  refine wl_val (g_assign (v := .slice a4 0 0) rfl) rfl ?_
  refine wl_nil ?_
  refine hK2 _ _ ?_
  refine w_cut (σ := List PlayerC × Option Addr × Nat × Nat × List PlayerD) (fun ⟨x251, a252, n253, c254, y255⟩ => [(3, .slice a252 n253 c254)]) (fun ⟨x251, a252, n253, c254, y255⟩ w' => m_impl_copyPlayers_K0 Q x251 ∧ ers y255 = x251 ∧ Below w.heap.size w w' ∧ Sep w' w.heap.size [oS 54 a252 n253 c254 (y255 : List PlayerD), oT 3 (y255 : List PlayerD)]) ?_ ?_
  · refine w_seq fun K258 hK258 => ?_
    refine w_region ?_
    refine wl_val (g_move (v := .slice a0 n0 c0) rfl) rfl ?_
    refine wl_val (q_len SL27 rfl (Tv.len (hp0.bel hB8))) rfl ?_
    refine wl_val (g_move (v := .int .i64 0) rfl) rfl ?_
    refine wl_nil ?_
    refine hK258 _ _ ?_
    refine w_block ?_
    have hS266 := hS9.f1
    obtain ⟨I267, μ268, h0269, hr270⟩ := hm
    refine w_for (σ := List PlayerC × Option Addr × Nat × Nat × List PlayerD × Int) (fun ⟨x259, a260, n261, c262, y263, v265⟩ => [(3, .slice a260 n261 c262), (7, .slice a0 n0 c0), (8, .int .i64 (p0.length : Int)), (9, .int .i64 v265)]) (fun ⟨x259, a260, n261, c262, y263, v265⟩ w' => I267 x259 v265 ∧ ers y263 = x259 ∧ Below w.heap.size w w' ∧ Sep w' w.heap.size [oS 54 a260 n261 c262 (y263 : List PlayerD), oT 3 (y263 : List PlayerD)]) (fun ⟨x259, a260, n261, c262, y263, v265⟩ => μ268 x259 v265) ([], a4, 0, 0, [], 0) ⟨rfl, rfl, rfl, rfl, trivial⟩ ⟨h0269, he11, hB8, hS266⟩ ?_
    rintro ⟨x259, a260, n261, c262, y263, v265⟩ b_ w271 ⟨hi_, he264, hB272, hS273⟩
    show Wp _ _ _ _ (upds b_ [(3, .slice a260 n261 c262), (7, .slice a0 n0 c0), (8, .int .i64 (p0.length : Int)), (9, .int .i64 v265)]) w271
    have hm := hr270 x259 v265 hi_
    refine w_seq fun K275 hK275 => ?_
    refine w_region ?_
    refine wl_val (g_lss (a := v265) (b := (p0.length : Int)) rfl rfl) rfl ?_
    refine wl_nil ?_
    refine hK275 _ _ ?_
    refine w_seq fun K276 hK276 => ?_
    refine w_condI (p := v265 < (p0.length : Int)) (b := (decide (v265 < (p0.length : Int)))) rfl decide_eq_true_iff (fun h277 => ?_) (fun h277 => ?_)
    · replace hm := hm.1 h277
      refine w_skip ?_
      refine hK276 _ _ ?_
      refine w_seq fun K278 hK278 => ?_
      refine w_block ?_
      refine w_seq fun K279 hK279 => ?_
      refine w_region ?_
      obtain ⟨hg280, hm⟩ := hm
      refine wl_val (q_index (i := v265) SL27 rfl rfl (Tv.o (hp0.bel hB272)) (Tv.g (hp0.bel hB272) hg280)) rfl ?_
      refine wl_val (q_loadS (i := v265) (cs := [.slice ((y0[(Int.toNat v265)]!).1.1) ((y0[(Int.toNat v265)]!).1.2.2.length) ((y0[(Int.toNat v265)]!).1.2.1), .int .i64 (p0[(Int.toNat v265)]!.2)]) AG54 (Tv.o (hp0.bel hB272)) (Tv.g (hp0.bel hB272) hg280) (by rw [← Tv.free (hp0.bel hB272) hg280]; rfl) rfl) rfl ?_
      refine wl_step rfl (q_alloc (cs := #[.slice none 0 0, .int .i64 0]) ZR54 rfl hS273) ?_
      rintro _ w281 ⟨g282, rfl, hS284, hE283⟩
      have hB286 := hB272.trans (Ext.stp hE283 hS273.base)
      refine wl_step rfl (q_storeB (i := 0) (bs' := #[.slice ((y0[(Int.toNat v265)]!).1.1) ((y0[(Int.toNat v265)]!).1.2.2.length) ((y0[(Int.toNat v265)]!).1.2.1), .int .i64 (p0[(Int.toNat v265)]!.2)]) (vs := [.slice ((y0[(Int.toNat v265)]!).1.1) ((y0[(Int.toNat v265)]!).1.2.2.length) ((y0[(Int.toNat v265)]!).1.2.1), .int .i64 (p0[(Int.toNat v265)]!.2)]) hS284 AG54.sz rfl rfl rfl (by simp [Value.oneCell']) (Nat.le_of_ble_eq_true rfl) rfl) ?_
      rintro _ w287 ⟨rfl, hS288, hb289⟩
      have hB290 := hB286.trans hb289
      refine wl_nil ?_
      refine hK279 _ _ ?_
      have hlt293 := hS288.all
      refine w_tree (X := Ext) (Y := BelN w287.heap.size) [0, 0, 0, 2, 0, 0, 0, 2, 1, 0] [0, 1, 4, 2, 5, 3, 6, 7, 8, 9] .fin MIX (by decide +kernel) (by decide +kernel) (by decide +kernel) rfl Ext.refl (fun _ _ _ => Ext.trans) (fun _ _ _ => BelN.trans) (fun _ _ h => h.belN) (fun w291 hE292 => ?_)
      have hB294 := Ext.stp hE292 (Nat.le_refl _)
      have hS295 : Sep w291 w287.heap.size [] := Sep.nil hE292.size
      refine ⟨.slice a260 n261 c262, fun w296 hX297 => od_plain rfl (by have hS298 := hS295.ext hX297; have hB299 := hB294.trans (Ext.stp hX297 hS295.base); exact is_ext (g_move (v := .slice a260 n261 c262) rfl)), ?_⟩
      refine ⟨.pointer (some (((⟨g282, 0, none⟩ : Addr)).add 0)), fun w300 hX301 => od_plain rfl (by have hS302 := hS295.ext hX301; have hB303 := hB294.trans (Ext.stp hX301 hS295.base); exact is_ext (g_fieldAddr (q := (⟨g282, 0, none⟩ : Addr)) FL54_0 ON23 rfl)), ?_⟩
      refine ⟨.pointer (some (((⟨g282, 0, none⟩ : Addr)).add 1)), fun w304 hX305 => od_plain rfl (by have hS306 := hS295.ext hX305; have hB307 := hB294.trans (Ext.stp hX305 hS295.base); exact is_ext (g_fieldAddr (q := (⟨g282, 0, none⟩ : Addr)) FL54_1 ON3 rfl)), ?_⟩
      refine ⟨.slice ((y0[(Int.toNat v265)]!).1.1) ((y0[(Int.toNat v265)]!).1.2.2.length) ((y0[(Int.toNat v265)]!).1.2.1), fun w308 hX309 => od_plain rfl (by have hS310 := hS295.ext hX309; have hB311 := hB294.trans (Ext.stp hX309 hS295.base); exact is_ext (q_loadB (i := 0) (bs := #[.slice ((y0[(Int.toNat v265)]!).1.1) ((y0[(Int.toNat v265)]!).1.2.2.length) ((y0[(Int.toNat v265)]!).1.2.1), .int .i64 (p0[(Int.toNat v265)]!.2)]) (Sep.belN hS288 hlt293 hB311).g0 ON23 rfl rfl)), ?_⟩
      refine ⟨.int .i64 (p0[(Int.toNat v265)]!.2), fun w312 hX313 => od_plain rfl (by have hS314 := hS295.ext hX313; have hB315 := hB294.trans (Ext.stp hX313 hS295.base); exact is_ext (q_loadB (i := 1) (bs := #[.slice ((y0[(Int.toNat v265)]!).1.1) ((y0[(Int.toNat v265)]!).1.2.2.length) ((y0[(Int.toNat v265)]!).1.2.1), .int .i64 (p0[(Int.toNat v265)]!.2)]) (Sep.belN hS288 hlt293 hB315).g0 ON3 rfl rfl)), ?_⟩
      intro w316 hX317
      have hB318 := hB294.trans (Ext.stp hX317 hS295.base)
      have hS319 := hS295.ext hX317
      refine ⟨_, od_plain rfl (g_call (vs := #[.slice ((y0[(Int.toNat v265)]!).1.1) ((y0[(Int.toNat v265)]!).1.2.2.length) ((y0[(Int.toNat v265)]!).1.2.1)]) CF79 (args1 rfl) (m_impl_copyOf_fn (Vw.upN (Tv.rowP (hp0.bel (hB290.trans (bel_le hB318 hS288.base))) hg280) (Nat.le_trans hS288.base hB318.size)) hm)), ?_⟩
      rintro _ w320 ⟨r323, a324, n325, c326, hm, rfl, hE321, hN322⟩
      have hS328 := hS319.call1 hE321 hN322
      refine ⟨hE321, ?_⟩
      have hB329 := hB318.trans (Ext.stp hE321 hS319.base)
      refine ⟨.agg #[.slice a324 n325 c326, .int .i64 (p0[(Int.toNat v265)]!.2)], fun w330 hX331 => od_plain rfl (by have hS332 := hS328.ext hX331; have hB333 := hB329.trans (Ext.stp hX331 hS328.base); exact is_ext (g_build (v := .agg #[.slice a324 n325 c326, .int .i64 (p0[(Int.toNat v265)]!.2)]) (parts2 rfl rfl) (BD54_01 a324 n325 c326 (p0[(Int.toNat v265)]!.2)))), ?_⟩
      intro w334 hX335
      have hB336 := hB329.trans (Ext.stp hX335 hS328.base)
      have hS337 := hS328.ext hX335
      have hn343 := oS.len hS337.g0
      have hS344 := hS337.rowsPlayer (p0[(Int.toNat v265)]!.2)
      have he342 : ers [(((a324, c326, r323), p0[(Int.toNat v265)]!.2) : PlayerD)] = [(r323, p0[(Int.toNat v265)]!.2)] := rfl
      refine ⟨_, od_plain rfl (q_lit1 (y := ((((a324, c326, r323), p0[(Int.toNat v265)]!.2) : PlayerD) : PlayerD)) SL27 rfl (by rw [hn343]; rfl) (by decide) hS344), ?_⟩
      rintro _ w338 ⟨a339, rfl, hS341, hE340⟩
      refine ⟨hE340, ?_⟩
      have hB347 := hB336.trans (Ext.stp hE340 hS344.base)
      intro w349 hX350
      have hB351 := hB347.trans (Ext.stp hX350 hS341.base)
      have hS352 := hS341.ext hX350
      have hS353 := Sep.app2 hS352 (Sep.belN hS288 hlt293 hB351) hlt293 hS288.base
      have hB354 := hB290.trans (bel_le hB351 hS288.base)
      have hS360 := hS353.f3
      obtain ⟨hg361, hm⟩ := hm
      have hl362 : (y263).length + ([(((a324, c326, r323), p0[(Int.toNat v265)]!.2) : PlayerD)]).length ≤ 1099511627776 := by have h1 := congrArg List.length he264; have h2 := congrArg List.length he342; have h3 := hg361; simp only [ers, List.length_map, List.length_append, List.length_cons, List.length_nil, List.length_replicate, List.length_set] at h1 h2 h3 ⊢; omega
      refine ⟨_, od_plain rfl (q_append SL27 rfl rfl hS360 (oS.vw hS360.g1) hl362 (by decide)), ?_⟩
      rintro _ w355 ⟨a356, c357, rfl, hS359, hb358⟩
      have hB363 := hB354.trans hb358
      have hS364 := hS359.f1
      have hS365 := hS364.tail
      have hS366 := hS365.f3
      have hS367 := hS366.f2
      have hS368 := hS367.catRows
      have he369 : ers (y263 ++ ([(((a324, c326, r323), p0[(Int.toNat v265)]!.2) : PlayerD)])) = (x259 ++ ([(r323, p0[(Int.toNat v265)]!.2)])) := by rw [← he264, ← he342]; exact List.map_append
      refine ⟨.slice a356 (n261 + 1) c357, fun w370 hX371 => od_plain rfl (by have hS372 := hS368.ext hX371; have hB373 := hB363.trans (Ext.stp hX371 hS368.base); exact is_ext (g_assign (v := .slice a356 (n261 + 1) c357) rfl)), ?_⟩
      intro w374 hX375
      have hB376 := hB363.trans (Ext.stp hX375 hS368.base)
      have hS377 := hS368.ext hX375
      refine kt_fin ?_
      refine hK278 _ _ ?_
      refine w_region ?_
      obtain ⟨hg378, hm⟩ := hm
      refine wl_val (g_add (a := v265) (b := 1) rfl rfl hg378) rfl ?_
      refine wl_val (g_move (v := .int .i64 (v265 + 1)) rfl) rfl ?_
      refine wl_nil ?_
      have hS379 := hS377.f2
      have hS380 := hS379.tail
      have hS381 := hS380.f1
      exact ⟨((x259 ++ ([(r323, p0[(Int.toNat v265)]!.2)])), a356, (n261 + 1), c357, (y263 ++ ([(((a324, c326, r323), p0[(Int.toNat v265)]!.2) : PlayerD)])), (v265 + 1)), hm.2, ⟨rfl, rfl, rfl, rfl, trivial⟩, ⟨hm.1, he369, hB376, hS381⟩⟩
    · replace hm := hm.2 h277
      refine w_exit ?_
      exact ⟨(x259, a260, n261, c262, y263), ⟨rfl, trivial⟩, ⟨hm, he264, hB272, hS273⟩⟩
  · rintro ⟨x251, a252, n253, c254, y255⟩ b_ w382 ⟨hm, he256, hB383, hS384⟩
    show Wp _ _ _ _ (upds b_ [(3, .slice a252 n253 c254)]) w382
    refine w_seq fun K385 hK385 => ?_
    refine w_region ?_
    refine wl_val (g_move (v := .slice a252 n253 c254) rfl) rfl ?_
    refine wl_val (g_assign (v := .slice a252 n253 c254) rfl) rfl ?_
    refine wl_nil ?_
    refine hK385 _ _ ?_
    refine w_ret ?_
    repeat first | with_reducible refine q_then ?_ | with_reducible refine q_block ?_
    exact ret1 rfl (by decide) ⟨_, _, _, _, _, hm, he256, rfl, toExt hB383, hS384⟩

theorem m_impl_WithoutPlayer_fn {w : World} {a0 : Option Addr} {n0 c0 : Nat} {y0 : List PlayerD} {p0 : List PlayerC} {Q : (List PlayerC) → Bool → Prop} (hp0 : Tv w.heap.size w a0 n0 c0 y0 p0) (p1 : Int) (hm : m_impl_WithoutPlayer p0 p1 Q) :
    Fn Try.prog 93 #[.slice a0 n0 c0, .int .i64 p1] w (fun v w' => ∃ (r0 : List PlayerC) (a0 : Option Addr) (n0 c0 : Nat) (y0 : List PlayerD) (r1 : Bool), Q r0 r1 ∧ ers y0 = r0 ∧ v = .tuple #[.slice a0 n0 c0, .bool r1] ∧ Ext w w' ∧ Sep w' w.heap.size [oS 54 a0 n0 c0 y0, oT 3 y0]) := by
  unfold m_impl_WithoutPlayer at hm
  have hB0 := Below.refl w.heap.size w
  have hS0 : Sep w w.heap.size [] := Sep.nil (Nat.le_refl _)
  refine fn_of_wp Try.func93 rfl (by kernel_rfl) (Nat.le_of_ble_eq_true rfl) ?_
  refine w_seq fun K1 hK1 => ?_
  refine w_region ?_
  refine wl_val (g_assign (v := .slice none 0 0) rfl) rfl ?_
  refine wl_val (g_assign (v := .bool false) rfl) rfl ?_
  refine wl_nil ?_
  refine hK1 _ _ ?_
  refine w_seq fun K2 hK2 => ?_
  refine w_region ?_
  refine wl_val (g_move (v := .slice a0 n0 c0) rfl) rfl ?_
  refine wl_step rfl (g_call (vs := #[.slice a0 n0 c0]) CF97 (args1 rfl) (m_impl_copyPlayers_fn ((hp0.bel hB0).up hS0) hm)) ?_
  rintro _ w3 ⟨r6, a7, n8, c9, y10, hm, he11, rfl, hE4, hN5⟩
  have hS15 := hS0.call2 hE4 hN5
  have hB16 := hB0.trans (Ext.stp hE4 hS0.base)
  refine wl_val (g_assign (v := .slice a7 n8 c9) rfl) rfl ?_
  refine wl_nil ?_
  refine hK2 _ _ ?_
  refine w_seq fun K17 hK17 => ?_
  refine w_seq fun K18 hK18 => ?_
  refine w_region ?_
  refine wl_val (g_move (v := .slice a0 n0 c0) rfl) rfl ?_
  refine wl_step rfl (g_call (vs := #[.slice a0 n0 c0]) CF44 (args1 rfl) (m_impl_PlayersOk_fn ((hp0.bel hB16).up hS15) hm)) ?_
  rintro _ w19 ⟨r22, hm, rfl, hE20⟩
  have hB23 := hB16.trans (Ext.stp hE20 hS15.base)
  have hS24 := hS15.ext hE20
  refine wl_val (g_not (a := r22) rfl) rfl ?_
  refine wl_val (g_move (v := .bool (!r22)) rfl) rfl ?_
  refine wl_guard (c := (!r22) = false) (val := .int .i64 p1) (b := ((!r22) == false)) (gv_some rfl rfl rfl) beq_iff_eq (fun hc25 => ?_) ?_
  · have hcq0 : ¬ (¬ (r22 = true)) := (i_neg (i_not Iff.rfl) hc25)
    exact g_move (v := .int .i64 p1) rfl
  refine wl_guard (c := (!r22) = false) (val := .slice a0 n0 c0) (b := ((!r22) == false)) (gv_some rfl rfl rfl) beq_iff_eq (fun hc26 => ?_) ?_
  · have hcq0 : ¬ (¬ (r22 = true)) := (i_neg (i_not Iff.rfl) hc26)
    exact g_move (v := .slice a0 n0 c0) rfl
  refine wl_guard (c := (!r22) = false) (val := .int .i64 (p0.length : Int)) (b := ((!r22) == false)) (gv_some rfl rfl rfl) beq_iff_eq (fun hc27 => ?_) ?_
  · have hcq0 : ¬ (¬ (r22 = true)) := (i_neg (i_not Iff.rfl) hc27)
    exact q_len SL27 (if_pos hc27) (Tv.len (hp0.bel hB23))
  obtain ⟨hg29, hm⟩ := hm
  refine wl_guard (c := (!r22) = false) (val := .int .i64 ((p0.length : Int) - 1)) (b := ((!r22) == false)) (gv_some rfl rfl rfl) beq_iff_eq (fun hc28 => ?_) ?_
  · have hcq0 : ¬ (¬ (r22 = true)) := (i_neg (i_not Iff.rfl) hc28)
    exact g_sub (a := (p0.length : Int)) (b := 1) (if_pos hc28) rfl (hg29 hcq0)
  obtain ⟨r31, hk32, hm⟩ := hm
  refine wl_guardE (X := Ext) (c := (!r22) = false) (val := .bool r31) (Ext.refl _) (b := ((!r22) == false)) (gv_some rfl rfl rfl) beq_iff_eq (fun hc30 => ?_) (fun w33 hE34 => ?_)
  · have hcq0 : ¬ (¬ (r22 = true)) := (i_neg (i_not Iff.rfl) hc30)
    exact (g_call (vs := #[.int .i64 p1, .int .i64 0, .int .i64 ((p0.length : Int) - 1)]) CF83 (args3 (if_pos hc30) rfl (if_pos hc30)) ((m_impl_within_fn p1 0 ((p0.length : Int) - 1) (hk32 hcq0)).mono fun _ _ ⟨_, h1, h2, h3⟩ => ⟨by rw [h2, h1], h3⟩))
  have hB35 := hB23.trans (Ext.stp hE34 hS24.base)
  have hS36 := hS24.ext hE34
  refine wl_guard (c := (!r22) = false) (val := .bool (!r31)) (b := ((!r22) == false)) (gv_some rfl rfl rfl) beq_iff_eq (fun hc37 => ?_) ?_
  · have hcq0 : ¬ (¬ (r22 = true)) := (i_neg (i_not Iff.rfl) hc37)
    exact g_not (a := r31) (if_pos hc37)
  refine wl_val (g_pick_or (b := (!r22)) (q := (!r31)) rfl rfl) rfl ?_
  refine wl_nil ?_
  refine hK18 _ _ ?_
  refine w_condI (p := ((¬ (r22 = true)) ∨ (¬ (r31 = true)))) (b := ((!r22) || (!r31))) rfl (i_or (i_not Iff.rfl) (i_not Iff.rfl)) (fun h38 => ?_) (fun h38 => ?_)
  · replace hm := hm.1 h38
    refine w_seq fun K39 hK39 => ?_
    refine w_region ?_
    refine wl_val (g_move (v := .slice a7 n8 c9) rfl) rfl ?_
    refine wl_val (g_assign (v := .slice a7 n8 c9) rfl) rfl ?_
    refine wl_val (g_assign (v := .bool false) rfl) rfl ?_
    refine wl_nil ?_
    refine hK39 _ _ ?_
    refine w_ret ?_
    repeat first | with_reducible refine q_then ?_ | with_reducible refine q_block ?_
    exact ret2 rfl (by decide) (by decide) ⟨_, _, _, _, _, _, hm, he11, rfl, toExt hB35, hS36⟩
  · replace hm := hm.2 h38
    refine w_skip ?_
    refine hK17 _ _ ?_
    refine w_seq fun K40 hK40 => ?_
    refine w_region ?_
    refine wl_val (g_move (v := .slice a7 n8 c9) rfl) rfl ?_
    refine wl_val (g_move (v := .int .i64 p1) rfl) rfl ?_
    obtain ⟨hg41, hm⟩ := hm
    refine wl_val (q_index (i := p1) SL27 rfl rfl (Tv.o (oT.vw hS36.g0 hS36.g1 he11)) (Tv.g (oT.vw hS36.g0 hS36.g1 he11) hg41)) rfl ?_
    refine wl_val (g_fieldAddr (q := (adr a7).add ((Int.toNat p1) * El.m PlayerD)) FL54_1 ON3 rfl) rfl ?_
    have hS45 := hS36.f1
    have hS46 := hS45.f1
    have hl47 : ix p1 (y10).length := by have h3 := congrArg List.length he11; simp only [ers, List.length_map] at h3; rw [h3]; exact hg41
    refine wl_step rfl (q_storeF (i := p1) (j := 1) (v := (((y10)[(Int.toNat p1)]!.1, 0) : PlayerD)) hS46 ON3 hl47 rfl rfl rfl rfl (by decide) rfl) ?_
    rintro _ w42 ⟨rfl, hS43, hb44⟩
    have hB48 := hB35.trans hb44
    have hl49 : (Int.toNat p1) < (y10).length := by have h1 := (hl47).1; have h2 := (hl47).2; omega
    have he50 : ers (y10.set (Int.toNat p1) ((y10)[(Int.toNat p1)]!.1, 0)) = (r6.set (Int.toNat p1) (r6[(Int.toNat p1)]!.1, 0)) := ers_set he11 (by first | rfl | (rw [← he11, er_get hl49]; rfl)) _
    have hS51 := hS43.f1
    have hS52 := hS51.rowsSame (ys' := (y10.set (Int.toNat p1) ((y10)[(Int.toNat p1)]!.1, 0))) (by simp) (fun i' j' h1 h2 => by rw [set_at _ _ _ hl49]; exact if hc : (Int.toNat p1) = i' then (by subst hc; rw [if_pos rfl]; rfl) else (by rw [if_neg hc]))
    refine wl_nil ?_
    refine hK40 _ _ ?_
    refine w_seq fun K53 hK53 => ?_
    refine w_region ?_
    refine wl_val (g_move (v := .slice a7 n8 c9) rfl) rfl ?_
    refine wl_val (g_assign (v := .slice a7 n8 c9) rfl) rfl ?_
    refine wl_val (g_assign (v := .bool true) rfl) rfl ?_
    refine wl_nil ?_
    refine hK53 _ _ ?_
    refine w_ret ?_
    have hS54 := hS52.f1
    repeat first | with_reducible refine q_then ?_ | with_reducible refine q_block ?_
    exact ret2 rfl (by decide) (by decide) ⟨_, _, _, _, _, _, hm, he50, rfl, toExt hB48, hS54⟩

theorem m_impl_without_fn {w : World} {a0 : Option Addr} {n0 c0 : Nat} {y0 : List PlayerD} {p0 : List PlayerC} {a1 : Option Addr} {n1 c1 : Nat} {p1 : List Int} {Q : Bool → Prop} (hp0 : Tv w.heap.size w a0 n0 c0 y0 p0) (hp1 : Vw w.heap.size w a1 n1 c1 p1) (p2 : Int) (hm : m_impl_without p0 p1 p2 Q) :
    Fn Try.prog 71 #[.slice a0 n0 c0, .slice a1 n1 c1, .int .i64 p2] w (fun v w' => ∃ (r0 : Bool), Q r0 ∧ v = .bool r0 ∧ Ext w w') := by
  unfold m_impl_without at hm
  have hB0 := Below.refl w.heap.size w
  have hS0 : Sep w w.heap.size [] := Sep.nil (Nat.le_refl _)
  refine fn_of_wp Try.func71 rfl (by kernel_rfl) (Nat.le_of_ble_eq_true rfl) ?_
  refine w_seq fun K1 hK1 => ?_
  refine w_region ?_
  refine wl_val (g_assign (v := .bool false) rfl) rfl ?_
  refine wl_nil ?_
  refine hK1 _ _ ?_
  refine w_seq fun K2 hK2 => ?_
  refine w_region ?_
  refine wl_val (g_move (v := .slice a0 n0 c0) rfl) rfl ?_
  refine wl_val (g_move (v := .int .i64 p2) rfl) rfl ?_
  refine wl_step rfl (g_call (vs := #[.slice a0 n0 c0, .int .i64 p2]) CF93 (args2 rfl rfl) (m_impl_WithoutPlayer_fn ((hp0.bel hB0).up hS0) p2 hm)) ?_
  rintro _ w3 ⟨r6, a7, n8, c9, y10, r15, hm, he11, rfl, hE4, hN5⟩
  have hS16 := hS0.call2 hE4 hN5
  have hB17 := hB0.trans (Ext.stp hE4 hS0.base)
  refine wl_val (g_move (v := .tuple #[.slice a7 n8 c9, .bool r15]) rfl) rfl ?_
  refine wl_val (g_extract (vs := #[.slice a7 n8 c9, .bool r15]) rfl rfl) rfl ?_
  refine wl_val (g_extract (vs := #[.slice a7 n8 c9, .bool r15]) rfl rfl) rfl ?_
  refine wl_val (g_assign (v := .slice a7 n8 c9) rfl) rfl ?_
  refine wl_val (g_assign (v := .bool r15) rfl) rfl ?_
  refine wl_nil ?_
  refine hK2 _ _ ?_
  refine w_seq fun K18 hK18 => ?_
  refine w_region ?_
  refine wl_val (g_move (v := .slice a7 n8 c9) rfl) rfl ?_
  refine wl_val (g_move (v := .slice a1 n1 c1) rfl) rfl ?_
  refine wl_step rfl (g_call (vs := #[.slice a7 n8 c9, .slice a1 n1 c1]) CF70 (args2 rfl rfl) (m_impl_canPlay_fn (oT.vw hS16.g0 hS16.g1 he11) ((hp1.bel hB17).up hS16) hm)) ?_
  rintro _ w19 ⟨r22, hm, rfl, hE20⟩
  have hB23 := hB17.trans (Ext.stp hE20 hS16.base)
  have hS24 := hS16.ext hE20
  refine wl_val (g_assign (v := .bool r22) rfl) rfl ?_
  refine wl_nil ?_
  refine hK18 _ _ ?_
  refine w_ret ?_
  repeat first | with_reducible refine q_then ?_ | with_reducible refine q_block ?_
  exact ret1 rfl (by decide) ⟨_, hm, rfl, toExt hB23⟩

theorem m_impl_IsSafe_fn {w : World} {a0 : Option Addr} {n0 c0 : Nat} {y0 : List PlayerD} {p0 : List PlayerC} {a1 : Option Addr} {n1 c1 : Nat} {p1 : List Int} {Q : Bool → Prop} (hp0 : Tv w.heap.size w a0 n0 c0 y0 p0) (hp1 : Vw w.heap.size w a1 n1 c1 p1) (hm : m_impl_IsSafe p0 p1 Q) :
    Fn Try.prog 25 #[.slice a0 n0 c0, .slice a1 n1 c1] w (fun v w' => ∃ (r0 : Bool), Q r0 ∧ v = .bool r0 ∧ Ext w w') := by
  unfold m_impl_IsSafe at hm
  have hB0 := Below.refl w.heap.size w
  have hS0 : Sep w w.heap.size [] := Sep.nil (Nat.le_refl _)
  refine fn_of_wp Try.func25 rfl (by kernel_rfl) (Nat.le_of_ble_eq_true rfl) ?_
  refine w_seq fun K1 hK1 => ?_
  refine w_region ?_
  refine wl_val (g_assign (v := .bool false) rfl) rfl ?_
  refine wl_nil ?_
  refine hK1 _ _ ?_
  refine w_seq fun K2 hK2 => ?_
  refine w_seq fun K3 hK3 => ?_
  refine w_region ?_
  refine wl_val (g_move (v := .slice a0 n0 c0) rfl) rfl ?_
  refine wl_val (g_move (v := .slice a1 n1 c1) rfl) rfl ?_
  refine wl_step rfl (g_call (vs := #[.slice a0 n0 c0, .slice a1 n1 c1]) CF70 (args2 rfl rfl) (m_impl_canPlay_fn ((hp0.bel hB0).up hS0) ((hp1.bel hB0).up hS0) hm)) ?_
  rintro _ w4 ⟨r7, hm, rfl, hE5⟩
  have hB8 := hB0.trans (Ext.stp hE5 hS0.base)
  have hS9 := hS0.ext hE5
  refine wl_val (g_not (a := r7) rfl) rfl ?_
  refine wl_nil ?_
  refine hK3 _ _ ?_
  refine w_condI (p := ¬ (r7 = true)) (b := (!r7)) rfl (i_not Iff.rfl) (fun h10 => ?_) (fun h10 => ?_)
  · replace hm := hm.1 h10
    refine w_seq fun K11 hK11 => ?_
    refine w_region ?_
    refine wl_val (g_assign (v := .bool false) rfl) rfl ?_
    refine wl_nil ?_
    refine hK11 _ _ ?_
    refine w_ret ?_
    repeat first | with_reducible refine q_then ?_ | with_reducible refine q_block ?_
    exact ret1 rfl (by decide) ⟨_, hm, rfl, toExt hB8⟩
  · replace hm := hm.2 h10
    refine w_skip ?_
    refine hK2 _ _ ?_
    refine w_cut (σ := Unit) (fun _ => []) (fun _ w' => m_impl_IsSafe_K0 Q ∧ Below w.heap.size w w' ∧ Sep w' w.heap.size []) ?_ ?_
    · refine w_seq fun K13 hK13 => ?_
      refine w_region ?_
      refine wl_val (g_move (v := .slice a0 n0 c0) rfl) rfl ?_
      refine wl_val (q_len SL27 rfl (Tv.len (hp0.bel hB8))) rfl ?_
      refine wl_val (g_move (v := .int .i64 0) rfl) rfl ?_
      refine wl_nil ?_
      refine hK13 _ _ ?_
      refine w_block ?_
      obtain ⟨I38, μ39, h040, hr41⟩ := hm
      refine w_for (σ := Int) (fun v37 => [(0, .slice a0 n0 c0), (1, .slice a1 n1 c1), (11, .int .i64 (p0.length : Int)), (12, .int .i64 v37)]) (fun v37 w' => I38 v37 ∧ Below w.heap.size w w' ∧ Sep w' w.heap.size []) (fun v37 => μ39 v37) (0) ⟨rfl, rfl, rfl, rfl, trivial⟩ ⟨h040, hB8, hS9⟩ ?_
      rintro v37 b_ w42 ⟨hi_, hB43, hS44⟩
      show Wp _ _ _ _ (upds b_ [(0, .slice a0 n0 c0), (1, .slice a1 n1 c1), (11, .int .i64 (p0.length : Int)), (12, .int .i64 v37)]) w42
      have hm := hr41 v37 hi_
      refine w_seq fun K46 hK46 => ?_
      refine w_region ?_
      refine wl_val (g_lss (a := v37) (b := (p0.length : Int)) rfl rfl) rfl ?_
      refine wl_nil ?_
      refine hK46 _ _ ?_
      refine w_seq fun K47 hK47 => ?_
      refine w_condI (p := v37 < (p0.length : Int)) (b := (decide (v37 < (p0.length : Int)))) rfl decide_eq_true_iff (fun h48 => ?_) (fun h48 => ?_)
      · replace hm := hm.1 h48
        refine w_skip ?_
        refine hK47 _ _ ?_
        refine w_seq fun K49 hK49 => ?_
        refine w_block ?_
        refine w_seq fun K50 hK50 => ?_
        refine w_region ?_
        refine wl_val (g_move (v := .int .i64 v37) rfl) rfl ?_
        refine wl_val (g_assign (v := .int .i64 v37) rfl) rfl ?_
        refine wl_nil ?_
        refine hK50 _ _ ?_
        refine w_seq fun K51 hK51 => ?_
        refine w_region ?_
        refine wl_val (g_move (v := .slice a0 n0 c0) rfl) rfl ?_
        refine wl_val (g_move (v := .slice a1 n1 c1) rfl) rfl ?_
        refine wl_val (g_move (v := .int .i64 v37) rfl) rfl ?_
        refine wl_step rfl (g_call (vs := #[.slice a0 n0 c0, .slice a1 n1 c1, .int .i64 v37]) CF71 (args3 rfl rfl rfl) (m_impl_without_fn ((hp0.bel hB43).up hS44) ((hp1.bel hB43).up hS44) v37 hm)) ?_
        rintro _ w52 ⟨r55, hm, rfl, hE53⟩
        have hB56 := hB43.trans (Ext.stp hE53 hS44.base)
        have hS57 := hS44.ext hE53
        refine wl_val (g_not (a := r55) rfl) rfl ?_
        refine wl_nil ?_
        refine hK51 _ _ ?_
        refine w_condI (p := ¬ (r55 = true)) (b := (!r55)) rfl (i_not Iff.rfl) (fun h58 => ?_) (fun h58 => ?_)
        · replace hm := hm.1 h58
          refine w_seq fun K59 hK59 => ?_
          refine w_region ?_
          refine wl_val (g_assign (v := .bool false) rfl) rfl ?_
          refine wl_nil ?_
          refine hK59 _ _ ?_
          refine w_ret ?_
          repeat first | with_reducible refine q_then ?_ | with_reducible refine q_block ?_
          exact ret1 rfl (by decide) ⟨_, hm, rfl, toExt hB56⟩
        · replace hm := hm.2 h58
          refine w_skip ?_
          refine hK49 _ _ ?_
          refine w_region ?_
          obtain ⟨hg60, hm⟩ := hm
          refine wl_val (g_add (a := v37) (b := 1) rfl rfl hg60) rfl ?_
          refine wl_val (g_move (v := .int .i64 (v37 + 1)) rfl) rfl ?_
          refine wl_nil ?_
          exact ⟨((v37 + 1)), hm.2, ⟨rfl, rfl, rfl, rfl, trivial⟩, ⟨hm.1, hB56, hS57⟩⟩
      · replace hm := hm.2 h48
        refine w_exit ?_
        exact ⟨(), trivial, ⟨hm, hB43, hS44⟩⟩
    · rintro _ b_ w61 ⟨hm, hB62, hS63⟩
      show Wp _ _ _ _ (upds b_ []) w61
      refine w_seq fun K64 hK64 => ?_
      refine w_region ?_
      refine wl_val (g_assign (v := .bool true) rfl) rfl ?_
      refine wl_nil ?_
      refine hK64 _ _ ?_
      refine w_ret ?_
      repeat first | with_reducible refine q_then ?_ | with_reducible refine q_block ?_
      exact ret1 rfl (by decide) ⟨_, hm, rfl, toExt hB62⟩

theorem m_spec_LoadOf_fn {w : World} {a0 : Option Addr} {n0 c0 : Nat} {y0 : List PlayerD} {p0 : List PlayerC} {a1 : Option Addr} {n1 c1 : Nat} {p1 : List Int} {Q : (List Int) → Prop} (hp0 : Tv w.heap.size w a0 n0 c0 y0 p0) (hp1 : Vw w.heap.size w a1 n1 c1 p1) (hm : m_spec_LoadOf p0 p1 Q) :
    Fn Try.prog 90 #[.slice a0 n0 c0, .slice a1 n1 c1] w (fun v w' => ∃ (r0 : List Int) (a0 : Option Addr) (n0 c0 : Nat), Q r0 ∧ v = .slice a0 n0 c0 ∧ Ext w w' ∧ Sep w' w.heap.size [oS 3 a0 n0 c0 r0]) := by
  unfold m_spec_LoadOf at hm
  have hB0 := Below.refl w.heap.size w
  have hS0 : Sep w w.heap.size [] := Sep.nil (Nat.le_refl _)
  refine fn_of_wp Try.func90 rfl (by kernel_rfl) (Nat.le_of_ble_eq_true rfl) ?_
  refine w_seq fun K1 hK1 => ?_
  refine w_region ?_
  refine wl_val (g_assign (v := .slice none 0 0) rfl) rfl ?_
  refine wl_nil ?_
  refine hK1 _ _ ?_
  refine w_seq fun K2 hK2 => ?_
  refine w_region ?_
  refine wl_step rfl (q_lit0 (α := Int) rfl SL23 hS0) ?_
  rintro _ w3 ⟨a4, rfl, hS6, hE5⟩
  have hB8 := hB0.trans (Ext.stp hE5 hS0.base)
  refine wl_val (g_assign (v := .slice a4 0 0) rfl) rfl ?_
  refine wl_nil ?_
  refine hK2 _ _ ?_
  refine w_seq fun K9 hK9 => ?_
  refine w_seq fun K10 hK10 => ?_
  refine w_region ?_
  refine wl_val (g_move (v := .slice a0 n0 c0) rfl) rfl ?_
  refine wl_step rfl (g_call (vs := #[.slice a0 n0 c0]) CF57 (args1 rfl) (m_spec_PlayersOk_fn ((hp0.bel hB8).up hS6) hm)) ?_
  rintro _ w11 ⟨r14, hm, rfl, hE12⟩
  have hB15 := hB8.trans (Ext.stp hE12 hS6.base)
  have hS16 := hS6.ext hE12
  refine wl_val (g_not (a := r14) rfl) rfl ?_
  refine wl_nil ?_
  refine hK10 _ _ ?_
  refine w_condI (p := ¬ (r14 = true)) (b := (!r14)) rfl (i_not Iff.rfl) (fun h17 => ?_) (fun h17 => ?_)
  · replace hm := hm.1 h17
    refine w_seq fun K18 hK18 => ?_
    refine w_region ?_
    refine wl_val (g_move (v := .slice a4 0 0) rfl) rfl ?_
    refine wl_val (g_assign (v := .slice a4 0 0) rfl) rfl ?_
    refine wl_nil ?_
    refine hK18 _ _ ?_
    refine w_ret ?_
    repeat first | with_reducible refine q_then ?_ | with_reducible refine q_block ?_
    exact ret1 rfl (by decide) ⟨_, _, _, _, hm, rfl, toExt hB15, hS16⟩
  · replace hm := hm.2 h17
    refine w_skip ?_
    refine hK9 _ _ ?_
    refine w_cut (σ := List Int × Option Addr × Nat × Nat) (fun ⟨x233, a234, n235, c236⟩ => [(5, .slice a234 n235 c236)]) (fun ⟨x233, a234, n235, c236⟩ w' => m_spec_LoadOf_K2 Q x233 ∧ Below w.heap.size w w' ∧ Sep w' w.heap.size [oS 3 a234 n235 c236 (x233 : List Int)]) ?_ ?_
    · refine w_seq fun K238 hK238 => ?_
      refine w_region ?_
      refine wl_val (g_assign (v := .int .i64 0) rfl) rfl ?_
      refine wl_nil ?_
      refine hK238 _ _ ?_
      refine w_block ?_
      obtain ⟨I244, μ245, h0246, hr247⟩ := hm
      refine w_for (σ := List Int × Option Addr × Nat × Nat × Int) (fun ⟨x239, a240, n241, c242, v243⟩ => [(0, .slice a0 n0 c0), (1, .slice a1 n1 c1), (5, .slice a240 n241 c242), (6, .int .i64 v243)]) (fun ⟨x239, a240, n241, c242, v243⟩ w' => I244 x239 v243 ∧ Below w.heap.size w w' ∧ Sep w' w.heap.size [oS 3 a240 n241 c242 (x239 : List Int)]) (fun ⟨x239, a240, n241, c242, v243⟩ => μ245 x239 v243) ([], a4, 0, 0, 0) ⟨rfl, rfl, rfl, rfl, trivial⟩ ⟨h0246, hB15, hS16⟩ ?_
      rintro ⟨x239, a240, n241, c242, v243⟩ b_ w248 ⟨hi_, hB249, hS250⟩
      show Wp _ _ _ _ (upds b_ [(0, .slice a0 n0 c0), (1, .slice a1 n1 c1), (5, .slice a240 n241 c242), (6, .int .i64 v243)]) w248
      have hm := hr247 x239 v243 hi_
      refine w_seq fun K252 hK252 => ?_
      refine w_seq fun K253 hK253 => ?_
      refine w_region ?_
      refine wl_val (g_move (v := .int .i64 v243) rfl) rfl ?_
      refine wl_val (g_move (v := .slice a0 n0 c0) rfl) rfl ?_
      refine wl_val (q_len SL27 rfl (Tv.len (hp0.bel hB249))) rfl ?_
      refine wl_val (g_lss (a := v243) (b := (p0.length : Int)) rfl rfl) rfl ?_
      refine wl_nil ?_
      refine hK253 _ _ ?_
      refine w_condI (p := v243 < (p0.length : Int)) (b := (decide (v243 < (p0.length : Int)))) rfl decide_eq_true_iff (fun h254 => ?_) (fun h254 => ?_)
      · replace hm := hm.1 h254
        refine w_skip ?_
        refine hK252 _ _ ?_
        refine w_cut (σ := List Int × Option Addr × Nat × Nat) (fun ⟨x255, a256, n257, c258⟩ => [(0, .slice a0 n0 c0), (1, .slice a1 n1 c1), (5, .slice a256 n257 c258), (6, .int .i64 v243)]) (fun ⟨x255, a256, n257, c258⟩ w' => m_spec_LoadOf_K1 v243 (fun x239' v243' => I244 x239' v243' ∧ μ245 x239' v243' < μ245 x239 v243) x255 ∧ Below w.heap.size w w' ∧ Sep w' w.heap.size [oS 3 a256 n257 c258 (x255 : List Int)]) ?_ ?_
        · refine w_block ?_
          refine w_seq fun K260 hK260 => ?_
          refine w_region ?_
          refine wl_val (g_assign (v := .int .i64 0) rfl) rfl ?_
          refine wl_nil ?_
          refine hK260 _ _ ?_
          refine w_cut (σ := Int) (fun v261 => [(0, .slice a0 n0 c0), (1, .slice a1 n1 c1), (5, .slice a240 n241 c242), (6, .int .i64 v243), (7, .int .i64 v261)]) (fun v261 w' => m_spec_LoadOf_K0 x239 (m_spec_LoadOf_K1 v243 (fun x239' v243' => I244 x239' v243' ∧ μ245 x239' v243' < μ245 x239 v243)) v261 ∧ Below w.heap.size w w' ∧ Sep w' w.heap.size [oS 3 a240 n241 c242 (x239 : List Int)]) ?_ ?_
          · refine w_seq fun K263 hK263 => ?_
            refine w_region ?_
            refine wl_val (g_assign (v := .int .i64 0) rfl) rfl ?_
            refine wl_nil ?_
            refine hK263 _ _ ?_
            refine w_block ?_
            obtain ⟨I266, μ267, h0268, hr269⟩ := hm
            refine w_for (σ := Int × Int) (fun ⟨v264, v265⟩ => [(0, .slice a0 n0 c0), (1, .slice a1 n1 c1), (5, .slice a240 n241 c242), (6, .int .i64 v243), (7, .int .i64 v264), (8, .int .i64 v265)]) (fun ⟨v264, v265⟩ w' => I266 v264 v265 ∧ Below w.heap.size w w' ∧ Sep w' w.heap.size [oS 3 a240 n241 c242 (x239 : List Int)]) (fun ⟨v264, v265⟩ => μ267 v264 v265) (0, 0) ⟨rfl, rfl, rfl, rfl, rfl, rfl, trivial⟩ ⟨h0268, hB249, hS250⟩ ?_
            rintro ⟨v264, v265⟩ b_ w270 ⟨hi_, hB271, hS272⟩
            show Wp _ _ _ _ (upds b_ [(0, .slice a0 n0 c0), (1, .slice a1 n1 c1), (5, .slice a240 n241 c242), (6, .int .i64 v243), (7, .int .i64 v264), (8, .int .i64 v265)]) w270
            have hm := hr269 v264 v265 hi_
            refine w_seq fun K274 hK274 => ?_
            refine w_seq fun K275 hK275 => ?_
            refine w_region ?_
            refine wl_val (g_move (v := .int .i64 v265) rfl) rfl ?_
            refine wl_val (g_move (v := .slice a1 n1 c1) rfl) rfl ?_
            refine wl_val (q_len SL23 rfl (Vw.len (hp1.bel hB271))) rfl ?_
            refine wl_val (g_lss (a := v265) (b := (p1.length : Int)) rfl rfl) rfl ?_
            refine wl_nil ?_
            refine hK275 _ _ ?_
            refine w_condI (p := v265 < (p1.length : Int)) (b := (decide (v265 < (p1.length : Int)))) rfl decide_eq_true_iff (fun h276 => ?_) (fun h276 => ?_)
            · replace hm := hm.1 h276
              refine w_skip ?_
              refine hK274 _ _ ?_
              refine w_seq fun K277 hK277 => ?_
              refine w_block ?_
              refine w_seq fun K278 hK278 => ?_
              refine w_region ?_
              refine wl_val (g_move (v := .slice a1 n1 c1) rfl) rfl ?_
              refine wl_val (g_move (v := .int .i64 v265) rfl) rfl ?_
              obtain ⟨hg279, hm⟩ := hm
              refine wl_val (q_index (i := v265) SL23 rfl rfl (hp1.bel hB271) hg279) rfl ?_
              refine wl_val (q_load (i := v265) (v := .int .i64 (p1[(Int.toNat v265)]!)) ON3 (hp1.bel hB271) hg279 rfl rfl) rfl ?_
              refine wl_val (g_move (v := .int .i64 v243) rfl) rfl ?_
              refine wl_val (g_eql (a := p1[(Int.toNat v265)]!) (b := v243) rfl rfl) rfl ?_
              refine wl_nil ?_
              refine hK278 _ _ ?_
              refine w_condI (p := p1[(Int.toNat v265)]! = v243) (b := (decide (p1[(Int.toNat v265)]! = v243))) rfl decide_eq_true_iff (fun h280 => ?_) (fun h280 => ?_)
              · replace hm := hm.1 h280
                refine w_region ?_
                refine wl_val (g_move (v := .int .i64 v264) rfl) rfl ?_
                obtain ⟨hg281, hm⟩ := hm
                refine wl_val (g_add (a := v264) (b := 1) rfl rfl hg281) rfl ?_
                refine wl_val (g_assign (v := .int .i64 (v264 + 1)) rfl) rfl ?_
                refine wl_nil ?_
                refine hK277 _ _ ?_
                refine w_region ?_
                refine wl_val (g_move (v := .int .i64 v265) rfl) rfl ?_
                obtain ⟨hg282, hm⟩ := hm
                refine wl_val (g_add (a := v265) (b := 1) rfl rfl hg282) rfl ?_
                refine wl_val (g_assign (v := .int .i64 (v265 + 1)) rfl) rfl ?_
                refine wl_nil ?_
                exact ⟨((v264 + 1), (v265 + 1)), hm.2, ⟨rfl, rfl, rfl, rfl, rfl, rfl, trivial⟩, ⟨hm.1, hB271, hS272⟩⟩
              · replace hm := hm.2 h280
                refine w_skip ?_
                refine hK277 _ _ ?_
                refine w_region ?_
                refine wl_val (g_move (v := .int .i64 v265) rfl) rfl ?_
                obtain ⟨hg283, hm⟩ := hm
                refine wl_val (g_add (a := v265) (b := 1) rfl rfl hg283) rfl ?_
                refine wl_val (g_assign (v := .int .i64 (v265 + 1)) rfl) rfl ?_
                refine wl_nil ?_
                exact ⟨(v264, (v265 + 1)), hm.2, ⟨rfl, rfl, rfl, rfl, rfl, rfl, trivial⟩, ⟨hm.1, hB271, hS272⟩⟩
            · replace hm := hm.2 h276
              refine w_exit ?_
              exact ⟨(v264), ⟨rfl, rfl, rfl, rfl, rfl, trivial⟩, ⟨hm, hB271, hS272⟩⟩
          · rintro v261 b_ w284 ⟨hm, hB285, hS286⟩
            show Wp _ _ _ _ (upds b_ [(0, .slice a0 n0 c0), (1, .slice a1 n1 c1), (5, .slice a240 n241 c242), (6, .int .i64 v243), (7, .int .i64 v261)]) w284
            refine w_region ?_
            refine wl_val (g_move (v := .slice a240 n241 c242) rfl) rfl ?_
            refine wl_val (g_move (v := .int .i64 v261) rfl) rfl ?_
            refine wl_step rfl (q_lit1 (y := (v261 : Int)) SL23 rfl rfl (by decide) hS286) ?_
            rintro _ w287 ⟨a288, rfl, hS290, hE289⟩
            have hB292 := hB285.trans (Ext.stp hE289 hS286.base)
            have hS298 := hS290.f1
            obtain ⟨hg299, hm⟩ := hm
            refine wl_step rfl (q_append SL23 rfl rfl hS298 (oS.vw hS298.g1) hg299 (by decide)) ?_
            rintro _ w293 ⟨a294, c295, rfl, hS297, hb296⟩
            have hB300 := hB292.trans hb296
            refine wl_val (g_assign (v := .slice a294 (n241 + 1) c295) rfl) rfl ?_
            refine wl_nil ?_
            have hS301 := hS297.f1
            have hS302 := hS301.tail
            exact ⟨((x239 ++ ([v261])), a294, (n241 + 1), c295), ⟨rfl, rfl, rfl, rfl, trivial⟩, ⟨hm, hB300, hS302⟩⟩
        · rintro ⟨x255, a256, n257, c258⟩ b_ w303 ⟨hm, hB304, hS305⟩
          show Wp _ _ _ _ (upds b_ [(0, .slice a0 n0 c0), (1, .slice a1 n1 c1), (5, .slice a256 n257 c258), (6, .int .i64 v243)]) w303
          refine w_region ?_
          refine wl_val (g_move (v := .int .i64 v243) rfl) rfl ?_
          obtain ⟨hg306, hm⟩ := hm
          refine wl_val (g_add (a := v243) (b := 1) rfl rfl hg306) rfl ?_
          refine wl_val (g_assign (v := .int .i64 (v243 + 1)) rfl) rfl ?_
          refine wl_nil ?_
          exact ⟨(x255, a256, n257, c258, (v243 + 1)), hm.2, ⟨rfl, rfl, rfl, rfl, trivial⟩, ⟨hm.1, hB304, hS305⟩⟩
      · replace hm := hm.2 h254
        refine w_exit ?_
        exact ⟨(x239, a240, n241, c242), ⟨rfl, trivial⟩, ⟨hm, hB249, hS250⟩⟩
    · rintro ⟨x233, a234, n235, c236⟩ b_ w307 ⟨hm, hB308, hS309⟩
      show Wp _ _ _ _ (upds b_ [(5, .slice a234 n235 c236)]) w307
      refine w_seq fun K310 hK310 => ?_
      refine w_region ?_
      refine wl_val (g_move (v := .slice a234 n235 c236) rfl) rfl ?_
      refine wl_val (g_assign (v := .slice a234 n235 c236) rfl) rfl ?_
      refine wl_nil ?_
      refine hK310 _ _ ?_
      refine w_ret ?_
      repeat first | with_reducible refine q_then ?_ | with_reducible refine q_block ?_
      exact ret1 rfl (by decide) ⟨_, _, _, _, hm, rfl, toExt hB308, hS309⟩

theorem m_spec_IsCasting_fn {w : World} {a0 : Option Addr} {n0 c0 : Nat} {y0 : List PlayerD} {p0 : List PlayerC} {a1 : Option Addr} {n1 c1 : Nat} {p1 : List Int} {a2 : Option Addr} {n2 c2 : Nat} {p2 : List Int} {Q : Bool → Prop} (hp0 : Tv w.heap.size w a0 n0 c0 y0 p0) (hp1 : Vw w.heap.size w a1 n1 c1 p1) (hp2 : Vw w.heap.size w a2 n2 c2 p2) (hm : m_spec_IsCasting p0 p1 p2 Q) :
    Fn Try.prog 53 #[.slice a0 n0 c0, .slice a1 n1 c1, .slice a2 n2 c2] w (fun v w' => ∃ (r0 : Bool), Q r0 ∧ v = .bool r0 ∧ Ext w w') := by
  unfold m_spec_IsCasting at hm
  have hB0 := Below.refl w.heap.size w
  have hS0 : Sep w w.heap.size [] := Sep.nil (Nat.le_refl _)
  refine fn_of_wp Try.func53 rfl (by kernel_rfl) (Nat.le_of_ble_eq_true rfl) ?_
  refine w_seq fun K1 hK1 => ?_
  refine w_region ?_
  refine wl_val (g_assign (v := .bool false) rfl) rfl ?_
  refine wl_nil ?_
  refine hK1 _ _ ?_
  refine w_seq fun K2 hK2 => ?_
  refine w_seq fun K3 hK3 => ?_
  refine w_region ?_
  refine wl_val (g_move (v := .slice a0 n0 c0) rfl) rfl ?_
  refine wl_step rfl (g_call (vs := #[.slice a0 n0 c0]) CF57 (args1 rfl) (m_spec_PlayersOk_fn ((hp0.bel hB0).up hS0) hm)) ?_
  rintro _ w4 ⟨r7, hm, rfl, hE5⟩
  have hB8 := hB0.trans (Ext.stp hE5 hS0.base)
  have hS9 := hS0.ext hE5
  refine wl_val (g_not (a := r7) rfl) rfl ?_
  refine wl_val (g_move (v := .bool (!r7)) rfl) rfl ?_
  refine wl_guard (c := (!r7) = false) (val := .slice a1 n1 c1) (b := ((!r7) == false)) (gv_some rfl rfl rfl) beq_iff_eq (fun hc10 => ?_) ?_
  · have hcq0 : ¬ (¬ (r7 = true)) := (i_neg (i_not Iff.rfl) hc10)
    exact g_move (v := .slice a1 n1 c1) rfl
  obtain ⟨r12, hk13, hm⟩ := hm
  refine wl_guardE (X := Ext) (c := (!r7) = false) (val := .bool r12) (Ext.refl _) (b := ((!r7) == false)) (gv_some rfl rfl rfl) beq_iff_eq (fun hc11 => ?_) (fun w14 hE15 => ?_)
  · have hcq0 : ¬ (¬ (r7 = true)) := (i_neg (i_not Iff.rfl) hc11)
    exact (g_call (vs := #[.slice a1 n1 c1, .int .i64 6]) CF58 (args2 (if_pos hc11) rfl) ((m_spec_l11Rising_fn ((hp1.bel hB8).up hS9) 6 (hk13 hcq0)).mono fun _ _ ⟨_, h1, h2, h3⟩ => ⟨by rw [h2, h1], h3⟩))
  have hB16 := hB8.trans (Ext.stp hE15 hS9.base)
  have hS17 := hS9.ext hE15
  refine wl_guard (c := (!r7) = false) (val := .bool (!r12)) (b := ((!r7) == false)) (gv_some rfl rfl rfl) beq_iff_eq (fun hc18 => ?_) ?_
  · have hcq0 : ¬ (¬ (r7 = true)) := (i_neg (i_not Iff.rfl) hc18)
    exact g_not (a := r12) (if_pos hc18)
  refine wl_val (g_pick_or (b := (!r7)) (q := (!r12)) rfl rfl) rfl ?_
  refine wl_val (g_move (v := .bool ((!r7) || (!r12))) rfl) rfl ?_
  refine wl_guard (c := ((!r7) || (!r12)) = false) (val := .slice a2 n2 c2) (b := (((!r7) || (!r12)) == false)) (gv_some rfl rfl rfl) beq_iff_eq (fun hc19 => ?_) ?_
  · have hcq1 : ¬ (((¬ (r7 = true)) ∨ (¬ (r12 = true)))) := (i_neg (i_or (i_not Iff.rfl) (i_not Iff.rfl)) hc19)
    exact g_move (v := .slice a2 n2 c2) rfl
  refine wl_guard (c := ((!r7) || (!r12)) = false) (val := .int .i64 (p2.length : Int)) (b := (((!r7) || (!r12)) == false)) (gv_some rfl rfl rfl) beq_iff_eq (fun hc20 => ?_) ?_
  · have hcq1 : ¬ (((¬ (r7 = true)) ∨ (¬ (r12 = true)))) := (i_neg (i_or (i_not Iff.rfl) (i_not Iff.rfl)) hc20)
    exact q_len SL23 (if_pos hc20) (Vw.len (hp2.bel hB16))
  refine wl_guard (c := ((!r7) || (!r12)) = false) (val := .slice a1 n1 c1) (b := (((!r7) || (!r12)) == false)) (gv_some rfl rfl rfl) beq_iff_eq (fun hc21 => ?_) ?_
  · have hcq1 : ¬ (((¬ (r7 = true)) ∨ (¬ (r12 = true)))) := (i_neg (i_or (i_not Iff.rfl) (i_not Iff.rfl)) hc21)
    exact g_move (v := .slice a1 n1 c1) rfl
  refine wl_guard (c := ((!r7) || (!r12)) = false) (val := .int .i64 (p1.length : Int)) (b := (((!r7) || (!r12)) == false)) (gv_some rfl rfl rfl) beq_iff_eq (fun hc22 => ?_) ?_
  · have hcq1 : ¬ (((¬ (r7 = true)) ∨ (¬ (r12 = true)))) := (i_neg (i_or (i_not Iff.rfl) (i_not Iff.rfl)) hc22)
    exact q_len SL23 (if_pos hc22) (Vw.len (hp1.bel hB16))
  refine wl_guard (c := ((!r7) || (!r12)) = false) (val := .bool (decide ((p2.length : Int) ≠ (p1.length : Int)))) (b := (((!r7) || (!r12)) == false)) (gv_some rfl rfl rfl) beq_iff_eq (fun hc23 => ?_) ?_
  · have hcq1 : ¬ (((¬ (r7 = true)) ∨ (¬ (r12 = true)))) := (i_neg (i_or (i_not Iff.rfl) (i_not Iff.rfl)) hc23)
    exact g_neq (a := (p2.length : Int)) (b := (p1.length : Int)) (if_pos hc23) (if_pos hc23)
  refine wl_val (g_pick_or (b := ((!r7) || (!r12))) (q := (decide ((p2.length : Int) ≠ (p1.length : Int)))) rfl rfl) rfl ?_
  refine wl_nil ?_
  refine hK3 _ _ ?_
  refine w_condI (p := ((((¬ (r7 = true)) ∨ (¬ (r12 = true)))) ∨ ((p2.length : Int) ≠ (p1.length : Int)))) (b := (((!r7) || (!r12)) || (decide ((p2.length : Int) ≠ (p1.length : Int))))) rfl (i_or (i_or (i_not Iff.rfl) (i_not Iff.rfl)) decide_eq_true_iff) (fun h24 => ?_) (fun h24 => ?_)
  · replace hm := hm.1 h24
    refine w_seq fun K25 hK25 => ?_
    refine w_region ?_
    refine wl_val (g_assign (v := .bool false) rfl) rfl ?_
    refine wl_nil ?_
    refine hK25 _ _ ?_
    refine w_ret ?_
    repeat first | with_reducible refine q_then ?_ | with_reducible refine q_block ?_
    exact ret1 rfl (by decide) ⟨_, hm, rfl, toExt hB16⟩
  · replace hm := hm.2 h24
    refine w_skip ?_
    refine hK2 _ _ ?_
    refine w_cut (σ := Unit) (fun _ => [(0, .slice a0 n0 c0), (2, .slice a2 n2 c2)]) (fun _ w' => m_spec_IsCasting_K1 p0 p2 Q ∧ Below w.heap.size w w' ∧ Sep w' w.heap.size []) ?_ ?_
    · refine w_seq fun K27 hK27 => ?_
      refine w_region ?_
      refine wl_val (g_assign (v := .int .i64 0) rfl) rfl ?_
      refine wl_nil ?_
      refine hK27 _ _ ?_
      refine w_block ?_
      obtain ⟨I171, μ172, h0173, hr174⟩ := hm
      refine w_for (σ := Int) (fun v170 => [(0, .slice a0 n0 c0), (1, .slice a1 n1 c1), (2, .slice a2 n2 c2), (7, .int .i64 v170)]) (fun v170 w' => I171 v170 ∧ Below w.heap.size w w' ∧ Sep w' w.heap.size []) (fun v170 => μ172 v170) (0) ⟨rfl, rfl, rfl, rfl, trivial⟩ ⟨h0173, hB16, hS17⟩ ?_
      rintro v170 b_ w175 ⟨hi_, hB176, hS177⟩
      show Wp _ _ _ _ (upds b_ [(0, .slice a0 n0 c0), (1, .slice a1 n1 c1), (2, .slice a2 n2 c2), (7, .int .i64 v170)]) w175
      have hm := hr174 v170 hi_
      refine w_seq fun K179 hK179 => ?_
      refine w_seq fun K180 hK180 => ?_
      refine w_region ?_
      refine wl_val (g_move (v := .int .i64 v170) rfl) rfl ?_
      refine wl_val (g_move (v := .slice a2 n2 c2) rfl) rfl ?_
      refine wl_val (q_len SL23 rfl (Vw.len (hp2.bel hB176))) rfl ?_
      refine wl_val (g_lss (a := v170) (b := (p2.length : Int)) rfl rfl) rfl ?_
      refine wl_nil ?_
      refine hK180 _ _ ?_
      refine w_condI (p := v170 < (p2.length : Int)) (b := (decide (v170 < (p2.length : Int)))) rfl decide_eq_true_iff (fun h181 => ?_) (fun h181 => ?_)
      · replace hm := hm.1 h181
        refine w_skip ?_
        refine hK179 _ _ ?_
        refine w_seq fun K182 hK182 => ?_
        refine w_block ?_
        refine w_seq fun K183 hK183 => ?_
        refine w_draw (X := Ext) (Y := Ext) [] MIX (by decide +kernel) rfl Ext.refl (fun _ _ _ => Ext.trans) (fun _ _ _ => Chg.trans) (fun _ _ h => Ext.chg h _) (fun w184 hE185 => ?_)
        have hB186 := hB176.trans (Ext.stp hE185 hS177.base)
        have hS187 := hS177.ext hE185
        refine ⟨.slice a2 n2 c2, fun w188 hX189 => od_plain rfl (by have hS190 := hS187.ext hX189; have hB191 := hB186.trans (Ext.stp hX189 hS187.base); exact is_ext (g_move (v := .slice a2 n2 c2) rfl)), ?_⟩
        refine ⟨.int .i64 v170, fun w192 hX193 => od_plain rfl (by have hS194 := hS187.ext hX193; have hB195 := hB186.trans (Ext.stp hX193 hS187.base); exact is_ext (g_move (v := .int .i64 v170) rfl)), ?_⟩
        obtain ⟨hg200, hm⟩ := hm
        refine ⟨.pointer (some ((adr a2).add ((Int.toNat v170) * El.m Int))), fun w196 hX197 => od_plain rfl (by have hS198 := hS187.ext hX197; have hB199 := hB186.trans (Ext.stp hX197 hS187.base); exact is_ext (q_index (i := v170) SL23 rfl rfl (hp2.bel hB199) hg200)), ?_⟩
        refine ⟨.int .i64 (p2[(Int.toNat v170)]!), fun w201 hX202 => od_plain rfl (by have hS203 := hS187.ext hX202; have hB204 := hB186.trans (Ext.stp hX202 hS187.base); exact is_ext (q_load (i := v170) (v := .int .i64 (p2[(Int.toNat v170)]!)) ON3 (hp2.bel hB204) hg200 rfl rfl)), ?_⟩
        refine ⟨.slice a0 n0 c0, fun w205 hX206 => od_plain rfl (by have hS207 := hS187.ext hX206; have hB208 := hB186.trans (Ext.stp hX206 hS187.base); exact is_ext (g_move (v := .slice a0 n0 c0) rfl)), ?_⟩
        refine ⟨.int .i64 (p0.length : Int), fun w209 hX210 => od_plain rfl (by have hS211 := hS187.ext hX210; have hB212 := hB186.trans (Ext.stp hX210 hS187.base); exact is_ext (q_len SL27 rfl (Tv.len (hp0.bel hB212)))), ?_⟩
        obtain ⟨hg217, hm⟩ := hm
        refine ⟨.int .i64 ((p0.length : Int) - 1), fun w213 hX214 => od_plain rfl (by have hS215 := hS187.ext hX214; have hB216 := hB186.trans (Ext.stp hX214 hS187.base); exact is_ext (g_sub (a := (p0.length : Int)) (b := 1) rfl rfl hg217)), ?_⟩
        obtain ⟨r222, hk223, hm⟩ := hm
        refine ⟨.bool r222, fun w218 hX219 => od_plain rfl (by have hS220 := hS187.ext hX219; have hB221 := hB186.trans (Ext.stp hX219 hS187.base); exact (g_call (vs := #[.int .i64 (p2[(Int.toNat v170)]!), .int .i64 0, .int .i64 ((p0.length : Int) - 1)]) CF88 (args3 rfl rfl rfl) ((m_spec_l01In_fn (p2[(Int.toNat v170)]!) 0 ((p0.length : Int) - 1) hk223).mono fun _ _ ⟨_, h1, h2, h3⟩ => ⟨by rw [h2, h1], h3⟩))), ?_⟩
        refine ⟨.bool (!r222), fun w224 hX225 => od_plain rfl (by have hS226 := hS187.ext hX225; have hB227 := hB186.trans (Ext.stp hX225 hS187.base); exact is_ext (g_not (a := r222) rfl)), ?_⟩
        refine ⟨.bool (!r222), fun w228 hX229 => od_plain rfl (by have hS230 := hS187.ext hX229; have hB231 := hB186.trans (Ext.stp hX229 hS187.base); exact is_ext (g_move (v := .bool (!r222)) rfl)), ?_⟩
        refine ⟨if (!r222) = false then .slice a0 n0 c0 else undef, fun w232 hX233 => od_guard (c := (!r222) = false) (val := .slice a0 n0 c0) (b := ((!r222) == false)) (gv_some rfl rfl rfl) beq_iff_eq (fun hc236 => ?_), ?_⟩
        · have hS234 := hS187.ext hX233
          have hB235 := hB186.trans (Ext.stp hX233 hS187.base)
          have hcq3 : ¬ (¬ (r222 = true)) := (i_neg (i_not Iff.rfl) hc236)
          exact is_ext (g_move (v := .slice a0 n0 c0) rfl)
        refine ⟨if (!r222) = false then .slice a2 n2 c2 else undef, fun w237 hX238 => od_guard (c := (!r222) = false) (val := .slice a2 n2 c2) (b := ((!r222) == false)) (gv_some rfl rfl rfl) beq_iff_eq (fun hc241 => ?_), ?_⟩
        · have hS239 := hS187.ext hX238
          have hB240 := hB186.trans (Ext.stp hX238 hS187.base)
          have hcq3 : ¬ (¬ (r222 = true)) := (i_neg (i_not Iff.rfl) hc241)
          exact is_ext (g_move (v := .slice a2 n2 c2) rfl)
        refine ⟨if (!r222) = false then .int .i64 v170 else undef, fun w242 hX243 => od_guard (c := (!r222) = false) (val := .int .i64 v170) (b := ((!r222) == false)) (gv_some rfl rfl rfl) beq_iff_eq (fun hc246 => ?_), ?_⟩
        · have hS244 := hS187.ext hX243
          have hB245 := hB186.trans (Ext.stp hX243 hS187.base)
          have hcq3 : ¬ (¬ (r222 = true)) := (i_neg (i_not Iff.rfl) hc246)
          exact is_ext (g_move (v := .int .i64 v170) rfl)
        obtain ⟨hg252, hm⟩ := hm
        refine ⟨if (!r222) = false then .pointer (some ((adr a2).add ((Int.toNat v170) * El.m Int))) else undef, fun w247 hX248 => od_guard (c := (!r222) = false) (val := .pointer (some ((adr a2).add ((Int.toNat v170) * El.m Int)))) (b := ((!r222) == false)) (gv_some rfl rfl rfl) beq_iff_eq (fun hc251 => ?_), ?_⟩
        · have hS249 := hS187.ext hX248
          have hB250 := hB186.trans (Ext.stp hX248 hS187.base)
          have hcq3 : ¬ (¬ (r222 = true)) := (i_neg (i_not Iff.rfl) hc251)
          exact is_ext (q_index (i := v170) SL23 (if_pos hc251) (if_pos hc251) (hp2.bel hB250) (hg252 hcq3))
        refine ⟨if (!r222) = false then .int .i64 (p2[(Int.toNat v170)]!) else undef, fun w253 hX254 => od_guard (c := (!r222) = false) (val := .int .i64 (p2[(Int.toNat v170)]!)) (b := ((!r222) == false)) (gv_some rfl rfl rfl) beq_iff_eq (fun hc257 => ?_), ?_⟩
        · have hS255 := hS187.ext hX254
          have hB256 := hB186.trans (Ext.stp hX254 hS187.base)
          have hcq3 : ¬ (¬ (r222 = true)) := (i_neg (i_not Iff.rfl) hc257)
          exact is_ext (q_load (i := v170) (v := .int .i64 (p2[(Int.toNat v170)]!)) ON3 (hp2.bel hB256) (hg252 hcq3) rfl (if_pos hc257))
        obtain ⟨hg263, hm⟩ := hm
        refine ⟨if (!r222) = false then .pointer (some ((adr a0).add ((Int.toNat (p2[(Int.toNat v170)]!)) * El.m PlayerD))) else undef, fun w258 hX259 => od_guard (c := (!r222) = false) (val := .pointer (some ((adr a0).add ((Int.toNat (p2[(Int.toNat v170)]!)) * El.m PlayerD)))) (b := ((!r222) == false)) (gv_some rfl rfl rfl) beq_iff_eq (fun hc262 => ?_), ?_⟩
        · have hS260 := hS187.ext hX259
          have hB261 := hB186.trans (Ext.stp hX259 hS187.base)
          have hcq3 : ¬ (¬ (r222 = true)) := (i_neg (i_not Iff.rfl) hc262)
          exact is_ext (q_index (i := p2[(Int.toNat v170)]!) SL27 (if_pos hc262) (if_pos hc262) (Tv.o (hp0.bel hB261)) (Tv.g (hp0.bel hB261) (hg263 hcq3)))
        refine ⟨if (!r222) = false then .agg #[.slice ((y0[(Int.toNat (p2[(Int.toNat v170)]!))]!).1.1) ((y0[(Int.toNat (p2[(Int.toNat v170)]!))]!).1.2.2.length) ((y0[(Int.toNat (p2[(Int.toNat v170)]!))]!).1.2.1), .int .i64 (p0[(Int.toNat (p2[(Int.toNat v170)]!))]!.2)] else undef, fun w264 hX265 => od_guard (c := (!r222) = false) (val := .agg #[.slice ((y0[(Int.toNat (p2[(Int.toNat v170)]!))]!).1.1) ((y0[(Int.toNat (p2[(Int.toNat v170)]!))]!).1.2.2.length) ((y0[(Int.toNat (p2[(Int.toNat v170)]!))]!).1.2.1), .int .i64 (p0[(Int.toNat (p2[(Int.toNat v170)]!))]!.2)]) (b := ((!r222) == false)) (gv_some rfl rfl rfl) beq_iff_eq (fun hc268 => ?_), ?_⟩
        · have hS266 := hS187.ext hX265
          have hB267 := hB186.trans (Ext.stp hX265 hS187.base)
          have hcq3 : ¬ (¬ (r222 = true)) := (i_neg (i_not Iff.rfl) hc268)
          exact is_ext (q_loadS (i := p2[(Int.toNat v170)]!) (cs := [.slice ((y0[(Int.toNat (p2[(Int.toNat v170)]!))]!).1.1) ((y0[(Int.toNat (p2[(Int.toNat v170)]!))]!).1.2.2.length) ((y0[(Int.toNat (p2[(Int.toNat v170)]!))]!).1.2.1), .int .i64 (p0[(Int.toNat (p2[(Int.toNat v170)]!))]!.2)]) AG54 (Tv.o (hp0.bel hB267)) (Tv.g (hp0.bel hB267) (hg263 hcq3)) (by rw [← Tv.free (hp0.bel hB267) (hg263 hcq3)]; rfl) (if_pos hc268))
        refine ⟨if (!r222) = false then .slice a1 n1 c1 else undef, fun w269 hX270 => od_guard (c := (!r222) = false) (val := .slice a1 n1 c1) (b := ((!r222) == false)) (gv_some rfl rfl rfl) beq_iff_eq (fun hc273 => ?_), ?_⟩
        · have hS271 := hS187.ext hX270
          have hB272 := hB186.trans (Ext.stp hX270 hS187.base)
          have hcq3 : ¬ (¬ (r222 = true)) := (i_neg (i_not Iff.rfl) hc273)
          exact is_ext (g_move (v := .slice a1 n1 c1) rfl)
        refine ⟨if (!r222) = false then .int .i64 v170 else undef, fun w274 hX275 => od_guard (c := (!r222) = false) (val := .int .i64 v170) (b := ((!r222) == false)) (gv_some rfl rfl rfl) beq_iff_eq (fun hc278 => ?_), ?_⟩
        · have hS276 := hS187.ext hX275
          have hB277 := hB186.trans (Ext.stp hX275 hS187.base)
          have hcq3 : ¬ (¬ (r222 = true)) := (i_neg (i_not Iff.rfl) hc278)
          exact is_ext (g_move (v := .int .i64 v170) rfl)
        obtain ⟨hg284, hm⟩ := hm
        refine ⟨if (!r222) = false then .pointer (some ((adr a1).add ((Int.toNat v170) * El.m Int))) else undef, fun w279 hX280 => od_guard (c := (!r222) = false) (val := .pointer (some ((adr a1).add ((Int.toNat v170) * El.m Int)))) (b := ((!r222) == false)) (gv_some rfl rfl rfl) beq_iff_eq (fun hc283 => ?_), ?_⟩
        · have hS281 := hS187.ext hX280
          have hB282 := hB186.trans (Ext.stp hX280 hS187.base)
          have hcq3 : ¬ (¬ (r222 = true)) := (i_neg (i_not Iff.rfl) hc283)
          exact is_ext (q_index (i := v170) SL23 (if_pos hc283) (if_pos hc283) (hp1.bel hB282) (hg284 hcq3))
        refine ⟨if (!r222) = false then .int .i64 (p1[(Int.toNat v170)]!) else undef, fun w285 hX286 => od_guard (c := (!r222) = false) (val := .int .i64 (p1[(Int.toNat v170)]!)) (b := ((!r222) == false)) (gv_some rfl rfl rfl) beq_iff_eq (fun hc289 => ?_), ?_⟩
        · have hS287 := hS187.ext hX286
          have hB288 := hB186.trans (Ext.stp hX286 hS187.base)
          have hcq3 : ¬ (¬ (r222 = true)) := (i_neg (i_not Iff.rfl) hc289)
          exact is_ext (q_load (i := v170) (v := .int .i64 (p1[(Int.toNat v170)]!)) ON3 (hp1.bel hB288) (hg284 hcq3) rfl (if_pos hc289))
        obtain ⟨r295, hk296, hm⟩ := hm
        refine ⟨if (!r222) = false then .bool r295 else undef, fun w290 hX291 => od_guard (c := (!r222) = false) (val := .bool r295) (b := ((!r222) == false)) (gv_some rfl rfl rfl) beq_iff_eq (fun hc294 => ?_), ?_⟩
        · have hS292 := hS187.ext hX291
          have hB293 := hB186.trans (Ext.stp hX291 hS187.base)
          have hcq3 : ¬ (¬ (r222 = true)) := (i_neg (i_not Iff.rfl) hc294)
          exact (g_call (vs := #[.agg #[.slice ((y0[(Int.toNat (p2[(Int.toNat v170)]!))]!).1.1) ((y0[(Int.toNat (p2[(Int.toNat v170)]!))]!).1.2.2.length) ((y0[(Int.toNat (p2[(Int.toNat v170)]!))]!).1.2.1), .int .i64 (p0[(Int.toNat (p2[(Int.toNat v170)]!))]!.2)], .int .i64 (p1[(Int.toNat v170)]!)]) CF89 (args2 (if_pos hc294) (if_pos hc294)) ((m_spec_l13Knows_fn (p0[(Int.toNat (p2[(Int.toNat v170)]!))]!) ((Tv.rowP (hp0.bel hB293) (hg263 hcq3)).up hS292) (p1[(Int.toNat v170)]!) (hk296 hcq3)).mono fun _ _ ⟨_, h1, h2, h3⟩ => ⟨by rw [h2, h1], h3⟩))
        refine ⟨if (!r222) = false then .bool (!r295) else undef, fun w297 hX298 => od_guard (c := (!r222) = false) (val := .bool (!r295)) (b := ((!r222) == false)) (gv_some rfl rfl rfl) beq_iff_eq (fun hc301 => ?_), ?_⟩
        · have hS299 := hS187.ext hX298
          have hB300 := hB186.trans (Ext.stp hX298 hS187.base)
          have hcq3 : ¬ (¬ (r222 = true)) := (i_neg (i_not Iff.rfl) hc301)
          exact is_ext (g_not (a := r295) (if_pos hc301))
        refine ⟨.bool ((!r222) || (!r295)), fun w302 hX303 => od_plain rfl (by have hS304 := hS187.ext hX303; have hB305 := hB186.trans (Ext.stp hX303 hS187.base); exact is_ext (g_pick_or (b := (!r222)) (q := (!r295)) rfl rfl)), ?_⟩
        intro w306 hX307
        have hB308 := hB186.trans (Ext.stp hX307 hS187.base)
        have hS309 := hS187.ext hX307
        refine hK183 _ _ ?_
        refine w_condI (p := ((¬ (r222 = true)) ∨ (¬ (r295 = true)))) (b := ((!r222) || (!r295))) rfl (i_or (i_not Iff.rfl) (i_not Iff.rfl)) (fun h310 => ?_) (fun h310 => ?_)
        · replace hm := hm.1 h310
          refine w_seq fun K311 hK311 => ?_
          refine w_region ?_
          refine wl_val (g_assign (v := .bool false) rfl) rfl ?_
          refine wl_nil ?_
          refine hK311 _ _ ?_
          refine w_ret ?_
          repeat first | with_reducible refine q_then ?_ | with_reducible refine q_block ?_
          exact ret1 rfl (by decide) ⟨_, hm, rfl, toExt hB308⟩
        · replace hm := hm.2 h310
          refine w_skip ?_
          refine hK182 _ _ ?_
          refine w_region ?_
          refine wl_val (g_move (v := .int .i64 v170) rfl) rfl ?_
          obtain ⟨hg312, hm⟩ := hm
          refine wl_val (g_add (a := v170) (b := 1) rfl rfl hg312) rfl ?_
          refine wl_val (g_assign (v := .int .i64 (v170 + 1)) rfl) rfl ?_
          refine wl_nil ?_
          exact ⟨((v170 + 1)), hm.2, ⟨rfl, rfl, rfl, rfl, trivial⟩, ⟨hm.1, hB308, hS309⟩⟩
      · replace hm := hm.2 h181
        refine w_exit ?_
        exact ⟨(), ⟨rfl, rfl, trivial⟩, ⟨hm, hB176, hS177⟩⟩
    · rintro _ b_ w313 ⟨hm, hB314, hS315⟩
      show Wp _ _ _ _ (upds b_ [(0, .slice a0 n0 c0), (2, .slice a2 n2 c2)]) w313
      refine w_seq fun K316 hK316 => ?_
      refine w_region ?_
      refine wl_val (g_move (v := .slice a0 n0 c0) rfl) rfl ?_
      refine wl_val (g_move (v := .slice a2 n2 c2) rfl) rfl ?_
      refine wl_step rfl (g_call (vs := #[.slice a0 n0 c0, .slice a2 n2 c2]) CF90 (args2 rfl rfl) (m_spec_LoadOf_fn ((hp0.bel hB314).up hS315) ((hp2.bel hB314).up hS315) hm)) ?_
      rintro _ w317 ⟨r320, a321, n322, c323, hm, rfl, hE318, hN319⟩
      have hS325 := hS315.call1 hE318 hN319
      have hB326 := hB314.trans (Ext.stp hE318 hS315.base)
      refine wl_val (g_assign (v := .slice a321 n322 c323) rfl) rfl ?_
      refine wl_nil ?_
      refine hK316 _ _ ?_
      refine w_cut (σ := Unit) (fun _ => []) (fun _ w' => m_spec_IsCasting_K0 Q ∧ Below w.heap.size w w' ∧ Sep w' w.heap.size []) ?_ ?_
      · refine w_seq fun K328 hK328 => ?_
        refine w_region ?_
        refine wl_val (g_assign (v := .int .i64 0) rfl) rfl ?_
        refine wl_nil ?_
        refine hK328 _ _ ?_
        refine w_block ?_
        obtain ⟨I396, μ397, h0398, hr399⟩ := hm
        refine w_for (σ := Int) (fun v395 => [(0, .slice a0 n0 c0), (8, .slice a321 n322 c323), (9, .int .i64 v395)]) (fun v395 w' => I396 v395 ∧ Below w.heap.size w w' ∧ Sep w' w.heap.size [oS 3 a321 n322 c323 (r320 : List Int)]) (fun v395 => μ397 v395) (0) ⟨rfl, rfl, rfl, trivial⟩ ⟨h0398, hB326, hS325⟩ ?_
        rintro v395 b_ w400 ⟨hi_, hB401, hS402⟩
        show Wp _ _ _ _ (upds b_ [(0, .slice a0 n0 c0), (8, .slice a321 n322 c323), (9, .int .i64 v395)]) w400
        have hm := hr399 v395 hi_
        refine w_seq fun K404 hK404 => ?_
        refine w_seq fun K405 hK405 => ?_
        refine w_region ?_
        refine wl_val (g_move (v := .int .i64 v395) rfl) rfl ?_
        refine wl_val (g_move (v := .slice a321 n322 c323) rfl) rfl ?_
        refine wl_val (q_len SL23 rfl (Vw.len (oS.vw hS402.g0))) rfl ?_
        refine wl_val (g_lss (a := v395) (b := (r320.length : Int)) rfl rfl) rfl ?_
        refine wl_nil ?_
        refine hK405 _ _ ?_
        refine w_condI (p := v395 < (r320.length : Int)) (b := (decide (v395 < (r320.length : Int)))) rfl decide_eq_true_iff (fun h406 => ?_) (fun h406 => ?_)
        · replace hm := hm.1 h406
          refine w_skip ?_
          refine hK404 _ _ ?_
          refine w_seq fun K407 hK407 => ?_
          refine w_block ?_
          refine w_seq fun K408 hK408 => ?_
          refine w_draw (X := Ext) (Y := Ext) [] MIX (by decide +kernel) rfl Ext.refl (fun _ _ _ => Ext.trans) (fun _ _ _ => Chg.trans) (fun _ _ h => Ext.chg h _) (fun w409 hE410 => ?_)
          have hB411 := hB401.trans (Ext.stp hE410 hS402.base)
          have hS412 := hS402.ext hE410
          refine ⟨.slice a321 n322 c323, fun w413 hX414 => od_plain rfl (by have hS415 := hS412.ext hX414; have hB416 := hB411.trans (Ext.stp hX414 hS412.base); exact is_ext (g_move (v := .slice a321 n322 c323) rfl)), ?_⟩
          refine ⟨.int .i64 v395, fun w417 hX418 => od_plain rfl (by have hS419 := hS412.ext hX418; have hB420 := hB411.trans (Ext.stp hX418 hS412.base); exact is_ext (g_move (v := .int .i64 v395) rfl)), ?_⟩
          obtain ⟨hg425, hm⟩ := hm
          refine ⟨.pointer (some ((adr a321).add ((Int.toNat v395) * El.m Int))), fun w421 hX422 => od_plain rfl (by have hS423 := hS412.ext hX422; have hB424 := hB411.trans (Ext.stp hX422 hS412.base); exact is_ext (q_index (i := v395) SL23 rfl rfl (oS.vw hS423.g0) hg425)), ?_⟩
          refine ⟨.int .i64 (r320[(Int.toNat v395)]!), fun w426 hX427 => od_plain rfl (by have hS428 := hS412.ext hX427; have hB429 := hB411.trans (Ext.stp hX427 hS412.base); exact is_ext (q_load (i := v395) (v := .int .i64 (r320[(Int.toNat v395)]!)) ON3 (oS.vw hS428.g0) hg425 rfl rfl)), ?_⟩
          refine ⟨.slice a0 n0 c0, fun w430 hX431 => od_plain rfl (by have hS432 := hS412.ext hX431; have hB433 := hB411.trans (Ext.stp hX431 hS412.base); exact is_ext (g_move (v := .slice a0 n0 c0) rfl)), ?_⟩
          refine ⟨.int .i64 v395, fun w434 hX435 => od_plain rfl (by have hS436 := hS412.ext hX435; have hB437 := hB411.trans (Ext.stp hX435 hS412.base); exact is_ext (g_move (v := .int .i64 v395) rfl)), ?_⟩
          obtain ⟨hg442, hm⟩ := hm
          refine ⟨.pointer (some ((adr a0).add ((Int.toNat v395) * El.m PlayerD))), fun w438 hX439 => od_plain rfl (by have hS440 := hS412.ext hX439; have hB441 := hB411.trans (Ext.stp hX439 hS412.base); exact is_ext (q_index (i := v395) SL27 rfl rfl (Tv.o (hp0.bel hB441)) (Tv.g (hp0.bel hB441) hg442))), ?_⟩
          refine ⟨.pointer (some (((adr a0).add ((Int.toNat v395) * El.m PlayerD)).add 1)), fun w443 hX444 => od_plain rfl (by have hS445 := hS412.ext hX444; have hB446 := hB411.trans (Ext.stp hX444 hS412.base); exact is_ext (g_fieldAddr (q := (adr a0).add ((Int.toNat v395) * El.m PlayerD)) FL54_1 ON3 rfl)), ?_⟩
          refine ⟨.int .i64 (p0[(Int.toNat v395)]!.2), fun w447 hX448 => od_plain rfl (by have hS449 := hS412.ext hX448; have hB450 := hB411.trans (Ext.stp hX448 hS412.base); exact is_ext (q_loadF (i := v395) (j := 1) (v := .int .i64 (p0[(Int.toNat v395)]!.2)) ON3 (Tv.o (hp0.bel hB450)) (Tv.g (hp0.bel hB450) hg442) (by rw [← Tv.free (hp0.bel hB450) hg442]; rfl) rfl)), ?_⟩
          refine ⟨.bool (decide (r320[(Int.toNat v395)]! > p0[(Int.toNat v395)]!.2)), fun w451 hX452 => od_plain rfl (by have hS453 := hS412.ext hX452; have hB454 := hB411.trans (Ext.stp hX452 hS412.base); exact is_ext (g_gtr (a := r320[(Int.toNat v395)]!) (b := p0[(Int.toNat v395)]!.2) rfl rfl)), ?_⟩
          intro w455 hX456
          have hB457 := hB411.trans (Ext.stp hX456 hS412.base)
          have hS458 := hS412.ext hX456
          refine hK408 _ _ ?_
          refine w_condI (p := r320[(Int.toNat v395)]! > p0[(Int.toNat v395)]!.2) (b := (decide (r320[(Int.toNat v395)]! > p0[(Int.toNat v395)]!.2))) rfl decide_eq_true_iff (fun h459 => ?_) (fun h459 => ?_)
          · replace hm := hm.1 h459
            refine w_seq fun K460 hK460 => ?_
            refine w_region ?_
            refine wl_val (g_assign (v := .bool false) rfl) rfl ?_
            refine wl_nil ?_
            refine hK460 _ _ ?_
            refine w_ret ?_
            repeat first | with_reducible refine q_then ?_ | with_reducible refine q_block ?_
            exact ret1 rfl (by decide) ⟨_, hm, rfl, toExt hB457⟩
          · replace hm := hm.2 h459
            refine w_skip ?_
            refine hK407 _ _ ?_
            refine w_region ?_
            refine wl_val (g_move (v := .int .i64 v395) rfl) rfl ?_
            obtain ⟨hg461, hm⟩ := hm
            refine wl_val (g_add (a := v395) (b := 1) rfl rfl hg461) rfl ?_
            refine wl_val (g_assign (v := .int .i64 (v395 + 1)) rfl) rfl ?_
            refine wl_nil ?_
            exact ⟨((v395 + 1)), hm.2, ⟨rfl, rfl, rfl, trivial⟩, ⟨hm.1, hB457, hS458⟩⟩
        · replace hm := hm.2 h406
          refine w_exit ?_
          have hS462 := hS402.tail
          exact ⟨(), trivial, ⟨hm, hB401, hS462⟩⟩
      · rintro _ b_ w463 ⟨hm, hB464, hS465⟩
        show Wp _ _ _ _ (upds b_ []) w463
        refine w_seq fun K466 hK466 => ?_
        refine w_region ?_
        refine wl_val (g_assign (v := .bool true) rfl) rfl ?_
        refine wl_nil ?_
        refine hK466 _ _ ?_
        refine w_ret ?_
        repeat first | with_reducible refine q_then ?_ | with_reducible refine q_block ?_
        exact ret1 rfl (by decide) ⟨_, hm, rfl, toExt hB464⟩

theorem m_spec_CastingsOf_fn {w : World} {a0 : Option Addr} {n0 c0 : Nat} {y0 : List PlayerD} {p0 : List PlayerC} {a1 : Option Addr} {n1 c1 : Nat} {p1 : List Int} {Q : (List (List Int)) → Prop} (hp0 : Tv w.heap.size w a0 n0 c0 y0 p0) (hp1 : Vw w.heap.size w a1 n1 c1 p1) (hm : m_spec_CastingsOf p0 p1 Q) :
    Fn Try.prog 26 #[.slice a0 n0 c0, .slice a1 n1 c1] w (fun v w' => ∃ (r0 : List (List Int)) (a0 : Option Addr) (n0 c0 : Nat) (y0 : List (Hd Int)), Q r0 ∧ ers y0 = r0 ∧ v = .slice a0 n0 c0 ∧ Ext w w' ∧ Sep w' w.heap.size [oS 23 a0 n0 c0 y0, oT 3 y0]) := by
  unfold m_spec_CastingsOf at hm
  have hB0 := Below.refl w.heap.size w
  have hS0 : Sep w w.heap.size [] := Sep.nil (Nat.le_refl _)
  refine fn_of_wp Try.func26 rfl (by kernel_rfl) (Nat.le_of_ble_eq_true rfl) ?_
  refine w_seq fun K1 hK1 => ?_
  refine w_region ?_
  refine wl_val (g_assign (v := .slice none 0 0) rfl) rfl ?_
  refine wl_nil ?_
  refine hK1 _ _ ?_
  refine w_seq fun K2 hK2 => ?_
  refine w_region ?_
  refine wl_step rfl (q_lit0 (α := (Hd Int)) rfl SL37 hS0) ?_
  rintro _ w3 ⟨a4, rfl, hS6, hE5⟩
  have hB8 := hB0.trans (Ext.stp hE5 hS0.base)
  have hS9 := hS6.noRows (δ := Hd Int) (E := 3)
  have he11 : ers ([] : List (Hd Int)) = ([] : List (List Int)) := rfl
  refine wl_val (g_assign (v := .slice a4 0 0) rfl) rfl ?_
  refine wl_nil ?_
  refine hK2 _ _ ?_
  refine w_seq fun K13 hK13 => ?_
  refine w_seq fun K14 hK14 => ?_
  refine w_region ?_
  refine wl_val (g_move (v := .slice a0 n0 c0) rfl) rfl ?_
  refine wl_val (g_move (v := .slice a1 n1 c1) rfl) rfl ?_
  refine wl_step rfl (g_call (vs := #[.slice a0 n0 c0, .slice a1 n1 c1]) CF65 (args2 rfl rfl) (m_spec_l14Ok_fn ((hp0.bel hB8).up hS9) ((hp1.bel hB8).up hS9) hm)) ?_
  rintro _ w15 ⟨r18, hm, rfl, hE16⟩
  have hB19 := hB8.trans (Ext.stp hE16 hS9.base)
  have hS20 := hS9.ext hE16
  refine wl_val (g_not (a := r18) rfl) rfl ?_
  refine wl_val (g_move (v := .bool (!r18)) rfl) rfl ?_
  refine wl_guard (c := (!r18) = false) (val := .slice a1 n1 c1) (b := ((!r18) == false)) (gv_some rfl rfl rfl) beq_iff_eq (fun hc21 => ?_) ?_
  · have hcq0 : ¬ (¬ (r18 = true)) := (i_neg (i_not Iff.rfl) hc21)
    exact g_move (v := .slice a1 n1 c1) rfl
  refine wl_guard (c := (!r18) = false) (val := .int .i64 (p1.length : Int)) (b := ((!r18) == false)) (gv_some rfl rfl rfl) beq_iff_eq (fun hc22 => ?_) ?_
  · have hcq0 : ¬ (¬ (r18 = true)) := (i_neg (i_not Iff.rfl) hc22)
    exact q_len SL23 (if_pos hc22) (Vw.len (hp1.bel hB19))
  refine wl_guard (c := (!r18) = false) (val := .bool (decide ((p1.length : Int) > 4))) (b := ((!r18) == false)) (gv_some rfl rfl rfl) beq_iff_eq (fun hc23 => ?_) ?_
  · have hcq0 : ¬ (¬ (r18 = true)) := (i_neg (i_not Iff.rfl) hc23)
    exact g_gtr (a := (p1.length : Int)) (b := 4) (if_pos hc23) rfl
  refine wl_val (g_pick_or (b := (!r18)) (q := (decide ((p1.length : Int) > 4))) rfl rfl) rfl ?_
  refine wl_nil ?_
  refine hK14 _ _ ?_
  refine w_condI (p := ((¬ (r18 = true)) ∨ ((p1.length : Int) > 4))) (b := ((!r18) || (decide ((p1.length : Int) > 4)))) rfl (i_or (i_not Iff.rfl) decide_eq_true_iff) (fun h24 => ?_) (fun h24 => ?_)
  · replace hm := hm.1 h24
    refine w_seq fun K25 hK25 => ?_
    refine w_region ?_
    refine wl_val (g_move (v := .slice a4 0 0) rfl) rfl ?_
    refine wl_val (g_assign (v := .slice a4 0 0) rfl) rfl ?_
    refine wl_nil ?_
    refine hK25 _ _ ?_
    refine w_ret ?_
    have hS26 := hS20.f1
    repeat first | with_reducible refine q_then ?_ | with_reducible refine q_block ?_
    exact ret1 rfl (by decide) ⟨_, _, _, _, _, hm, he11, rfl, toExt hB19, hS26⟩
  · replace hm := hm.2 h24
    refine w_skip ?_
    refine hK13 _ _ ?_
    refine w_seq fun K27 hK27 => ?_
    refine w_region ?_
    refine wl_val (g_assign (v := .int .i64 1) rfl) rfl ?_
    refine wl_nil ?_
    refine hK27 _ _ ?_
    refine w_cut (σ := Int) (fun v62 => [(0, .slice a0 n0 c0), (1, .slice a1 n1 c1), (5, .slice a4 0 0), (6, .int .i64 v62)]) (fun v62 w' => m_spec_CastingsOf_K3 p0 p1 Q v62 ∧ Below w.heap.size w w' ∧ Sep w' w.heap.size [oS 23 a4 0 0 ([] : List (Hd Int)), oT 3 ([] : List (Hd Int))]) ?_ ?_
    · refine w_seq fun K64 hK64 => ?_
      refine w_region ?_
      refine wl_val (g_assign (v := .int .i64 0) rfl) rfl ?_
      refine wl_nil ?_
      refine hK64 _ _ ?_
      refine w_block ?_
      have hS67 := hS20.f1
      obtain ⟨I68, μ69, h070, hr71⟩ := hm
      refine w_for (σ := Int × Int) (fun ⟨v65, v66⟩ => [(0, .slice a0 n0 c0), (1, .slice a1 n1 c1), (5, .slice a4 0 0), (6, .int .i64 v65), (7, .int .i64 v66)]) (fun ⟨v65, v66⟩ w' => I68 v65 v66 ∧ Below w.heap.size w w' ∧ Sep w' w.heap.size [oS 23 a4 0 0 ([] : List (Hd Int)), oT 3 ([] : List (Hd Int))]) (fun ⟨v65, v66⟩ => μ69 v65 v66) (1, 0) ⟨rfl, rfl, rfl, rfl, rfl, trivial⟩ ⟨h070, hB19, hS67⟩ ?_
      rintro ⟨v65, v66⟩ b_ w72 ⟨hi_, hB73, hS74⟩
      show Wp _ _ _ _ (upds b_ [(0, .slice a0 n0 c0), (1, .slice a1 n1 c1), (5, .slice a4 0 0), (6, .int .i64 v65), (7, .int .i64 v66)]) w72
      have hm := hr71 v65 v66 hi_
      refine w_seq fun K76 hK76 => ?_
      refine w_seq fun K77 hK77 => ?_
      refine w_region ?_
      refine wl_val (g_move (v := .int .i64 v66) rfl) rfl ?_
      refine wl_val (g_move (v := .slice a1 n1 c1) rfl) rfl ?_
      refine wl_val (q_len SL23 rfl (Vw.len (hp1.bel hB73))) rfl ?_
      refine wl_val (g_lss (a := v66) (b := (p1.length : Int)) rfl rfl) rfl ?_
      refine wl_nil ?_
      refine hK77 _ _ ?_
      refine w_condI (p := v66 < (p1.length : Int)) (b := (decide (v66 < (p1.length : Int)))) rfl decide_eq_true_iff (fun h78 => ?_) (fun h78 => ?_)
      · replace hm := hm.1 h78
        refine w_skip ?_
        refine hK76 _ _ ?_
        refine w_seq fun K79 hK79 => ?_
        refine w_block ?_
        refine w_region ?_
        refine wl_val (g_move (v := .int .i64 v65) rfl) rfl ?_
        refine wl_val (g_move (v := .slice a0 n0 c0) rfl) rfl ?_
        refine wl_val (q_len SL27 rfl (Tv.len (hp0.bel hB73))) rfl ?_
        obtain ⟨hg80, hm⟩ := hm
        refine wl_val (g_mul (a := v65) (b := (p0.length : Int)) rfl rfl hg80) rfl ?_
        refine wl_val (g_assign (v := .int .i64 (v65 * (p0.length : Int))) rfl) rfl ?_
        refine wl_nil ?_
        refine hK79 _ _ ?_
        refine w_region ?_
        refine wl_val (g_move (v := .int .i64 v66) rfl) rfl ?_
        obtain ⟨hg81, hm⟩ := hm
        refine wl_val (g_add (a := v66) (b := 1) rfl rfl hg81) rfl ?_
        refine wl_val (g_assign (v := .int .i64 (v66 + 1)) rfl) rfl ?_
        refine wl_nil ?_
        exact ⟨((v65 * (p0.length : Int)), (v66 + 1)), hm.2, ⟨rfl, rfl, rfl, rfl, rfl, trivial⟩, ⟨hm.1, hB73, hS74⟩⟩
      · replace hm := hm.2 h78
        refine w_exit ?_
        exact ⟨(v65), ⟨rfl, rfl, rfl, rfl, trivial⟩, ⟨hm, hB73, hS74⟩⟩
    · rintro v62 b_ w82 ⟨hm, hB83, hS84⟩
      show Wp _ _ _ _ (upds b_ [(0, .slice a0 n0 c0), (1, .slice a1 n1 c1), (5, .slice a4 0 0), (6, .int .i64 v62)]) w82
      refine w_cut (σ := List (List Int) × Option Addr × Nat × Nat × List (Hd Int)) (fun ⟨x446, a447, n448, c449, y450⟩ => [(5, .slice a447 n448 c449)]) (fun ⟨x446, a447, n448, c449, y450⟩ w' => m_spec_CastingsOf_K2 Q x446 ∧ ers y450 = x446 ∧ Below w.heap.size w w' ∧ Sep w' w.heap.size [oS 23 a447 n448 c449 (y450 : List (Hd Int)), oT 3 (y450 : List (Hd Int))]) ?_ ?_
      · refine w_seq fun K453 hK453 => ?_
        refine w_region ?_
        refine wl_val (g_assign (v := .int .i64 0) rfl) rfl ?_
        refine wl_nil ?_
        refine hK453 _ _ ?_
        refine w_block ?_
        obtain ⟨I461, μ462, h0463, hr464⟩ := hm
        refine w_for (σ := List (List Int) × Option Addr × Nat × Nat × List (Hd Int) × Int) (fun ⟨x454, a455, n456, c457, y458, v460⟩ => [(0, .slice a0 n0 c0), (1, .slice a1 n1 c1), (5, .slice a455 n456 c457), (6, .int .i64 v62), (8, .int .i64 v460)]) (fun ⟨x454, a455, n456, c457, y458, v460⟩ w' => I461 x454 v460 ∧ ers y458 = x454 ∧ Below w.heap.size w w' ∧ Sep w' w.heap.size [oS 23 a455 n456 c457 (y458 : List (Hd Int)), oT 3 (y458 : List (Hd Int))]) (fun ⟨x454, a455, n456, c457, y458, v460⟩ => μ462 x454 v460) ([], a4, 0, 0, [], 0) ⟨rfl, rfl, rfl, rfl, rfl, trivial⟩ ⟨h0463, he11, hB83, hS84⟩ ?_
        rintro ⟨x454, a455, n456, c457, y458, v460⟩ b_ w465 ⟨hi_, he459, hB466, hS467⟩
        show Wp _ _ _ _ (upds b_ [(0, .slice a0 n0 c0), (1, .slice a1 n1 c1), (5, .slice a455 n456 c457), (6, .int .i64 v62), (8, .int .i64 v460)]) w465
        have hm := hr464 x454 v460 hi_
        refine w_seq fun K469 hK469 => ?_
        refine w_seq fun K470 hK470 => ?_
        refine w_region ?_
        refine wl_val (g_move (v := .int .i64 v460) rfl) rfl ?_
        refine wl_val (g_move (v := .int .i64 v62) rfl) rfl ?_
        refine wl_val (g_lss (a := v460) (b := v62) rfl rfl) rfl ?_
        refine wl_nil ?_
        refine hK470 _ _ ?_
        refine w_condI (p := v460 < v62) (b := (decide (v460 < v62))) rfl decide_eq_true_iff (fun h471 => ?_) (fun h471 => ?_)
        · replace hm := hm.1 h471
          refine w_skip ?_
          refine hK469 _ _ ?_
          refine w_cut (σ := List (List Int) × Option Addr × Nat × Nat × List (Hd Int)) (fun ⟨x472, a473, n474, c475, y476⟩ => [(0, .slice a0 n0 c0), (1, .slice a1 n1 c1), (5, .slice a473 n474 c475), (6, .int .i64 v62), (8, .int .i64 v460)]) (fun ⟨x472, a473, n474, c475, y476⟩ w' => m_spec_CastingsOf_K1 v460 (fun x454' v460' => I461 x454' v460' ∧ μ462 x454' v460' < μ462 x454 v460) x472 ∧ ers y476 = x472 ∧ Below w.heap.size w w' ∧ Sep w' w.heap.size [oS 23 a473 n474 c475 (y476 : List (Hd Int)), oT 3 (y476 : List (Hd Int))]) ?_ ?_
          · refine w_block ?_
            refine w_seq fun K479 hK479 => ?_
            refine w_region ?_
            refine wl_val (g_move (v := .slice a1 n1 c1) rfl) rfl ?_
            refine wl_val (q_len SL23 rfl (Vw.len (hp1.bel hB466))) rfl ?_
            obtain ⟨hg480, hm⟩ := hm
            refine wl_step rfl (q_make (y := (0 : Int)) SL23 rfl rfl hg480.1 hg480.2 (by decide) hS467) ?_
            rintro _ w481 ⟨a482, rfl, hS484, hE483⟩
            have hB486 := hB466.trans (Ext.stp hE483 hS467.base)
            refine wl_val (g_assign (v := .slice a482 (Int.toNat (p1.length : Int)) (Int.toNat (p1.length : Int))) rfl) rfl ?_
            refine wl_nil ?_
            refine hK479 _ _ ?_
            refine w_seq fun K487 hK487 => ?_
            refine w_region ?_
            refine wl_val (g_move (v := .int .i64 v460) rfl) rfl ?_
            refine wl_val (g_assign (v := .int .i64 v460) rfl) rfl ?_
            refine wl_nil ?_
            refine hK487 _ _ ?_
            refine w_cut (σ := List Int) (fun x488 => [(0, .slice a0 n0 c0), (1, .slice a1 n1 c1), (5, .slice a455 n456 c457), (6, .int .i64 v62), (8, .int .i64 v460), (9, .slice a482 (Int.toNat (p1.length : Int)) (Int.toNat (p1.length : Int)))]) (fun x488 w' => m_spec_CastingsOf_K0 p0 p1 x454 (m_spec_CastingsOf_K1 v460 (fun x454' v460' => I461 x454' v460' ∧ μ462 x454' v460' < μ462 x454 v460)) x488 ∧ Below w.heap.size w w' ∧ Sep w' w.heap.size [oS 23 a455 n456 c457 (y458 : List (Hd Int)), oT 3 (y458 : List (Hd Int)), oS 3 a482 (Int.toNat (p1.length : Int)) (Int.toNat (p1.length : Int)) (x488 : List Int)]) ?_ ?_
            · refine w_seq fun K490 hK490 => ?_
              refine w_region ?_
              refine wl_val (g_move (v := .slice a1 n1 c1) rfl) rfl ?_
              refine wl_val (q_len SL23 rfl (Vw.len (hp1.bel hB486))) rfl ?_
              obtain ⟨hg491, hm⟩ := hm
              refine wl_val (g_sub (a := (p1.length : Int)) (b := 1) rfl rfl hg491) rfl ?_
              refine wl_val (g_assign (v := .int .i64 ((p1.length : Int) - 1)) rfl) rfl ?_
              refine wl_nil ?_
              refine hK490 _ _ ?_
              refine w_block ?_
              have hS495 := hS484.f2
              have hS496 := hS495.f2
              obtain ⟨I497, μ498, h0499, hr500⟩ := hm
              refine w_for (σ := List Int × Int × Int) (fun ⟨x492, v493, v494⟩ => [(0, .slice a0 n0 c0), (1, .slice a1 n1 c1), (5, .slice a455 n456 c457), (6, .int .i64 v62), (8, .int .i64 v460), (9, .slice a482 (Int.toNat (p1.length : Int)) (Int.toNat (p1.length : Int))), (10, .int .i64 v493), (11, .int .i64 v494)]) (fun ⟨x492, v493, v494⟩ w' => I497 x492 v493 v494 ∧ Below w.heap.size w w' ∧ Sep w' w.heap.size [oS 23 a455 n456 c457 (y458 : List (Hd Int)), oT 3 (y458 : List (Hd Int)), oS 3 a482 (Int.toNat (p1.length : Int)) (Int.toNat (p1.length : Int)) (x492 : List Int)]) (fun ⟨x492, v493, v494⟩ => μ498 x492 v493 v494) (List.replicate (Int.toNat (p1.length : Int)) (0 : Int), v460, ((p1.length : Int) - 1)) ⟨rfl, rfl, rfl, rfl, rfl, rfl, rfl, rfl, trivial⟩ ⟨h0499, hB486, hS496⟩ ?_
              rintro ⟨x492, v493, v494⟩ b_ w501 ⟨hi_, hB502, hS503⟩
              show Wp _ _ _ _ (upds b_ [(0, .slice a0 n0 c0), (1, .slice a1 n1 c1), (5, .slice a455 n456 c457), (6, .int .i64 v62), (8, .int .i64 v460), (9, .slice a482 (Int.toNat (p1.length : Int)) (Int.toNat (p1.length : Int))), (10, .int .i64 v493), (11, .int .i64 v494)]) w501
              have hm := hr500 x492 v493 v494 hi_
              refine w_seq fun K505 hK505 => ?_
              refine w_seq fun K506 hK506 => ?_
              refine w_region ?_
              refine wl_val (g_move (v := .int .i64 v494) rfl) rfl ?_
              refine wl_val (g_geq (a := v494) (b := 0) rfl rfl) rfl ?_
              refine wl_nil ?_
              refine hK506 _ _ ?_
              refine w_condI (p := v494 ≥ 0) (b := (decide (v494 ≥ 0))) rfl decide_eq_true_iff (fun h507 => ?_) (fun h507 => ?_)
              · replace hm := hm.1 h507
                refine w_skip ?_
                refine hK505 _ _ ?_
                refine w_seq fun K508 hK508 => ?_
                refine w_block ?_
                refine w_seq fun K509 hK509 => ?_
                refine w_region ?_
                refine wl_val (g_move (v := .slice a482 (Int.toNat (p1.length : Int)) (Int.toNat (p1.length : Int))) rfl) rfl ?_
                refine wl_val (g_move (v := .int .i64 v494) rfl) rfl ?_
                refine wl_val (g_move (v := .int .i64 v493) rfl) rfl ?_
                refine wl_val (g_move (v := .slice a0 n0 c0) rfl) rfl ?_
                refine wl_val (q_len SL27 rfl (Tv.len (hp0.bel hB502))) rfl ?_
                obtain ⟨hg510, hm⟩ := hm
                refine wl_val (g_rem (a := v493) (b := (p0.length : Int)) rfl rfl hg510) rfl ?_
                obtain ⟨hg511, hm⟩ := hm
                refine wl_val (q_index (i := v494) SL23 rfl rfl (oS.vw hS503.g2) hg511) rfl ?_
                have hS515 := hS503.f2
                refine wl_step rfl (q_store (i := v494) (v := ((Int.tmod v493 (p0.length : Int)) : Int)) hS515 ON3.sz hg511 rfl rfl rfl) ?_
                rintro _ w512 ⟨rfl, hS513, hb514⟩
                have hB516 := hB502.trans hb514
                refine wl_nil ?_
                refine hK509 _ _ ?_
                refine w_region ?_
                refine wl_val (g_move (v := .int .i64 v493) rfl) rfl ?_
                refine wl_val (g_move (v := .slice a0 n0 c0) rfl) rfl ?_
                refine wl_val (q_len SL27 rfl (Tv.len (hp0.bel hB516))) rfl ?_
                obtain ⟨hg517, hm⟩ := hm
                obtain ⟨hg518, hm⟩ := hm
                refine wl_val (g_quo (a := v493) (b := (p0.length : Int)) rfl rfl hg517 hg518) rfl ?_
                refine wl_val (g_assign (v := .int .i64 (Int.tdiv v493 (p0.length : Int))) rfl) rfl ?_
                refine wl_nil ?_
                refine hK508 _ _ ?_
                refine w_region ?_
                refine wl_val (g_move (v := .int .i64 v494) rfl) rfl ?_
                obtain ⟨hg519, hm⟩ := hm
                refine wl_val (g_sub (a := v494) (b := 1) rfl rfl hg519) rfl ?_
                refine wl_val (g_assign (v := .int .i64 (v494 - 1)) rfl) rfl ?_
                refine wl_nil ?_
                have hS520 := hS513.f2
                have hS521 := hS520.f2
                exact ⟨((x492.set (Int.toNat v494) (Int.tmod v493 (p0.length : Int))), (Int.tdiv v493 (p0.length : Int)), (v494 - 1)), hm.2, ⟨rfl, rfl, rfl, rfl, rfl, rfl, rfl, rfl, trivial⟩, ⟨hm.1, hB516, hS521⟩⟩
              · replace hm := hm.2 h507
                refine w_exit ?_
                exact ⟨(x492), ⟨rfl, rfl, rfl, rfl, rfl, rfl, trivial⟩, ⟨hm, hB502, hS503⟩⟩
            · rintro x488 b_ w522 ⟨hm, hB523, hS524⟩
              show Wp _ _ _ _ (upds b_ [(0, .slice a0 n0 c0), (1, .slice a1 n1 c1), (5, .slice a455 n456 c457), (6, .int .i64 v62), (8, .int .i64 v460), (9, .slice a482 (Int.toNat (p1.length : Int)) (Int.toNat (p1.length : Int)))]) w522
              refine w_seq fun K525 hK525 => ?_
              refine w_region ?_
              refine wl_val (g_move (v := .slice a0 n0 c0) rfl) rfl ?_
              refine wl_val (g_move (v := .slice a1 n1 c1) rfl) rfl ?_
              refine wl_val (g_move (v := .slice a482 (Int.toNat (p1.length : Int)) (Int.toNat (p1.length : Int))) rfl) rfl ?_
              refine wl_step rfl (g_call (vs := #[.slice a0 n0 c0, .slice a1 n1 c1, .slice a482 (Int.toNat (p1.length : Int)) (Int.toNat (p1.length : Int))]) CF53 (args3 rfl rfl rfl) (m_spec_IsCasting_fn ((hp0.bel hB523).up hS524) ((hp1.bel hB523).up hS524) (oS.vw hS524.g2) hm)) ?_
              rintro _ w526 ⟨r529, hm, rfl, hE527⟩
              have hB530 := hB523.trans (Ext.stp hE527 hS524.base)
              have hS531 := hS524.ext hE527
              refine wl_nil ?_
              refine hK525 _ _ ?_
              refine w_condI (p := r529 = true) (b := r529) rfl Iff.rfl (fun h532 => ?_) (fun h532 => ?_)
              · replace hm := hm.1 h532
                refine w_region ?_
                refine wl_val (g_move (v := .slice a455 n456 c457) rfl) rfl ?_
                refine wl_val (g_move (v := .slice a482 (Int.toNat (p1.length : Int)) (Int.toNat (p1.length : Int))) rfl) rfl ?_
                have hS538 := hS531.f2
                have hn539 := oS.len hS538.g0
                have hS540 := hS538.oneRow
                have he537 : ers [((a482, (Int.toNat (p1.length : Int)), x488) : Hd Int)] = [x488] := rfl
                refine wl_step rfl (q_lit1 (y := ((a482, (Int.toNat (p1.length : Int)), x488) : Hd Int)) SL37 rfl (hd_cells hn539) (by decide) hS540) ?_
                rintro _ w533 ⟨a534, rfl, hS536, hE535⟩
                have hB543 := hB530.trans (Ext.stp hE535 hS540.base)
                have hS550 := hS536.f2
                obtain ⟨hg551, hm⟩ := hm
                have hl552 : (y458).length + ([(a482, (Int.toNat (p1.length : Int)), x488)]).length ≤ 1099511627776 := by have h1 := congrArg List.length he459; have h2 := congrArg List.length he537; have h3 := hg551; simp only [ers, List.length_map, List.length_append, List.length_cons, List.length_nil, List.length_replicate, List.length_set] at h1 h2 h3 ⊢; omega
                refine wl_step rfl (q_append SL37 rfl rfl hS550 (oS.vw hS550.g1) hl552 (by decide)) ?_
                rintro _ w545 ⟨a546, c547, rfl, hS549, hb548⟩
                have hB553 := hB543.trans hb548
                have hS554 := hS549.f1
                have hS555 := hS554.tail
                have hS556 := hS555.f2
                have hS557 := hS556.f2
                have hS558 := hS557.catRows
                have he559 : ers (y458 ++ ([(a482, (Int.toNat (p1.length : Int)), x488)])) = (x454 ++ ([x488])) := by rw [← he459, ← he537]; exact List.map_append
                refine wl_val (g_assign (v := .slice a546 (n456 + 1) c547) rfl) rfl ?_
                refine wl_nil ?_
                have hS560 := hS558.f1
                exact ⟨((x454 ++ ([x488])), a546, (n456 + 1), c547, (y458 ++ ([(a482, (Int.toNat (p1.length : Int)), x488)]))), ⟨rfl, rfl, rfl, rfl, rfl, trivial⟩, ⟨hm, he559, hB553, hS560⟩⟩
              · replace hm := hm.2 h532
                refine w_skip ?_
                have hS561 := hS531.f2
                have hS562 := hS561.tail
                exact ⟨(x454, a455, n456, c457, y458), ⟨rfl, rfl, rfl, rfl, rfl, trivial⟩, ⟨hm, he459, hB530, hS562⟩⟩
          · rintro ⟨x472, a473, n474, c475, y476⟩ b_ w563 ⟨hm, he477, hB564, hS565⟩
            show Wp _ _ _ _ (upds b_ [(0, .slice a0 n0 c0), (1, .slice a1 n1 c1), (5, .slice a473 n474 c475), (6, .int .i64 v62), (8, .int .i64 v460)]) w563
            refine w_region ?_
            refine wl_val (g_move (v := .int .i64 v460) rfl) rfl ?_
            obtain ⟨hg566, hm⟩ := hm
            refine wl_val (g_add (a := v460) (b := 1) rfl rfl hg566) rfl ?_
            refine wl_val (g_assign (v := .int .i64 (v460 + 1)) rfl) rfl ?_
            refine wl_nil ?_
            exact ⟨(x472, a473, n474, c475, y476, (v460 + 1)), hm.2, ⟨rfl, rfl, rfl, rfl, rfl, trivial⟩, ⟨hm.1, he477, hB564, hS565⟩⟩
        · replace hm := hm.2 h471
          refine w_exit ?_
          exact ⟨(x454, a455, n456, c457, y458), ⟨rfl, trivial⟩, ⟨hm, he459, hB466, hS467⟩⟩
      · rintro ⟨x446, a447, n448, c449, y450⟩ b_ w567 ⟨hm, he451, hB568, hS569⟩
        show Wp _ _ _ _ (upds b_ [(5, .slice a447 n448 c449)]) w567
        refine w_seq fun K570 hK570 => ?_
        refine w_region ?_
        refine wl_val (g_move (v := .slice a447 n448 c449) rfl) rfl ?_
        refine wl_val (g_assign (v := .slice a447 n448 c449) rfl) rfl ?_
        refine wl_nil ?_
        refine hK570 _ _ ?_
        refine w_ret ?_
        repeat first | with_reducible refine q_then ?_ | with_reducible refine q_block ?_
        exact ret1 rfl (by decide) ⟨_, _, _, _, _, hm, he451, rfl, toExt hB568, hS569⟩

theorem m_impl_CastingsOf_1_fn {w : World} {B_ : Nat} {L_ : List Ob} {a0 : Option Addr} {n0 c0 : Nat} {p0 : List Int} {gq0 : Nat} {aq0 : Option Addr} {nq0 cq0 : Nat} {q0 : List (List Int)} {yq0 : List (Hd Int)} {Q : Bool → (List (List Int)) → Prop} (hS0 : Sep w B_ (oS 3 a0 n0 c0 (p0 : List Int) :: oB gq0 37 #[.slice aq0 nq0 cq0] :: oS 23 aq0 nq0 cq0 (yq0 : List (Hd Int)) :: oT 3 (yq0 : List (Hd Int)) :: L_)) (heq0 : ers yq0 = q0) (hm : m_impl_CastingsOf_1 p0 q0 Q) :
    Fn Try.prog 72 #[.slice a0 n0 c0, .pointer (some (⟨gq0, 0, none⟩ : Addr))] w (fun v w' => ∃ (r0 : Bool) (x0 : List (List Int)) (aa0 : Option Addr) (nn0 cc0 : Nat) (yy0 : List (Hd Int)), Q r0 x0 ∧ ers yy0 = x0 ∧ v = .bool r0 ∧ Below B_ w w' ∧ Sep w' B_ (oB gq0 37 #[.slice aa0 nn0 cc0] :: oS 23 aa0 nn0 cc0 yy0 :: oT 3 yy0 :: L_)) := by
  unfold m_impl_CastingsOf_1 at hm
  have hB0 := Below.refl B_ w
  refine fn_of_wp Try.func72 rfl (by kernel_rfl) (Nat.le_of_ble_eq_true rfl) ?_
  refine w_seq fun K6 hK6 => ?_
  refine w_region ?_
  refine wl_val (g_assign (v := .bool false) rfl) rfl ?_
  refine wl_nil ?_
  refine hK6 _ _ ?_
  refine w_seq fun K7 hK7 => ?_
  refine w_region ?_
  refine wl_val (q_loadB (i := 0) (bs := #[.slice aq0 nq0 cq0]) hS0.g1 ON37 rfl rfl) rfl ?_
  refine wl_val (g_move (v := .slice a0 n0 c0) rfl) rfl ?_
  have hn13 := oS.len hS0.g0
  have hS14 := hS0.oneRow
  have he12 : ers [((a0, c0, p0) : Hd Int)] = [p0] := rfl
  refine wl_step rfl (q_lit1 (y := ((a0, c0, p0) : Hd Int)) SL37 rfl (hd_cells hn13) (by decide) hS14) ?_
  rintro _ w8 ⟨a9, rfl, hS11, hE10⟩
  have hB17 := hB0.trans (Ext.stp hE10 hS14.base)
  have hS24 := hS11.f3
  obtain ⟨hg25, hm⟩ := hm
  have hl26 : (yq0).length + ([(a0, c0, p0)]).length ≤ 1099511627776 := by have h1 := congrArg List.length heq0; have h2 := congrArg List.length he12; have h3 := hg25; simp only [ers, List.length_map, List.length_append, List.length_cons, List.length_nil, List.length_replicate, List.length_set] at h1 h2 h3 ⊢; omega
  refine wl_step rfl (q_append SL37 rfl rfl hS24 (oS.vw hS24.g1) hl26 (by decide)) ?_
  rintro _ w19 ⟨a20, c21, rfl, hS23, hb22⟩
  have hB27 := hB17.trans hb22
  have hS28 := hS23.f1
  have hS29 := hS28.tail
  have hS30 := hS29.f3
  have hS31 := hS30.f2
  have hS32 := hS31.catRows
  have he33 : ers (yq0 ++ ([(a0, c0, p0)])) = (q0 ++ ([p0])) := by rw [← heq0, ← he12]; exact List.map_append
  have hS37 := hS32.f2
  refine wl_step rfl (q_storeB (i := 0) (bs' := #[.slice a20 (nq0 + 1) c21]) (vs := [.slice a20 (nq0 + 1) c21]) hS37 ON37.sz rfl rfl rfl (by simp [Value.oneCell']) (Nat.le_of_ble_eq_true rfl) rfl) ?_
  rintro _ w34 ⟨rfl, hS35, hb36⟩
  have hB38 := hB27.trans hb36
  refine wl_nil ?_
  refine hK7 _ _ ?_
  refine w_seq fun K39 hK39 => ?_
  refine w_region ?_
  refine wl_val (g_assign (v := .bool true) rfl) rfl ?_
  refine wl_nil ?_
  refine hK39 _ _ ?_
  refine w_ret ?_
  have hS40 := hS35.f1
  have hS41 := hS40.f2
  have hS42 := hS41.f2
  repeat first | with_reducible refine q_then ?_ | with_reducible refine q_block ?_
  exact ret1 rfl (by decide) ⟨_, _, _, _, _, _, hm, he33, rfl, hB38, hS42⟩

end Go.Proofs.Ytddjkiefadiijaa
