/- The walks: the code does what its model says. Printed by a program (gen2.py). No statement of the claim stands here. -/
import Derived.Test.YtcgkcoogaieolaaFacts2
import Derived.Test.YtcgkcoogaieolaaSop
import Derived.Test.YtcgkcoogaieolaaFacts
import Derived.Test.YtcgkcoogaieolaaMB
namespace Go.Proofs.Ytcgkcoogaieolaa
open Go Go.RowKit
set_option maxRecDepth 100000
theorem m_laws_big_fn {w : World} {a0 : Option Addr} {n0 c0 : Nat} {p0 : List Byte} {Q : Bool → Prop} (hp0 : Vw w.heap.size w a0 n0 c0 p0) (hm : m_laws_big p0 Q) :
    Fn Try.prog 23 #[.slice a0 n0 c0] w (fun v w' => ∃ (r0 : Bool), Q r0 ∧ v = .bool r0 ∧ Ext w w') := by
  unfold m_laws_big at hm
  have hB0 := Below.refl w.heap.size w
  have hS0 : Sep w w.heap.size [] := Sep.nil (Nat.le_refl _)
  refine fn_of_wp Try.func23 rfl (by kernel_rfl) (Nat.le_of_ble_eq_true rfl) ?_
  refine w_seq fun K1 hK1 => ?_
  refine w_region ?_
  refine wl_val (g_assign (v := .bool false) rfl) rfl ?_
  refine wl_nil ?_
  refine hK1 _ _ ?_
  refine w_seq fun K2 hK2 => ?_
  refine w_region ?_
  refine wl_val (g_move (v := .slice a0 n0 c0) rfl) rfl ?_
  refine wl_val (q_len SL33 rfl (Vw.len (hp0.bel hB0))) rfl ?_
  refine wl_val (g_gtr (a := (p0.length : Int)) (b := 1048576) rfl rfl) rfl ?_
  refine wl_val (g_assign (v := .bool (decide ((p0.length : Int) > 1048576))) rfl) rfl ?_
  refine wl_nil ?_
  refine hK2 _ _ ?_
  refine w_ret ?_
  repeat first | with_reducible refine q_then ?_ | with_reducible refine q_block ?_
  exact ret1 rfl (by decide) ⟨_, hm, rfl, toExt hB0⟩

theorem m_spec_l01New_raw_fn {w : World} {a0 : Option Addr} {n0 c0 : Nat} {p0 : List Byte} {Q : Int → Int → Prop} (hp0 : Vw w.heap.size w a0 n0 c0 p0) (hm : m_spec_l01New_raw p0 Q) :
    Fn Try.prog 56 #[.slice a0 n0 c0] w (fun v w' => ∃ (g0 : Nat) (r0 r0_ : Int), Q r0 r0_ ∧ v = .pointer (some ⟨g0, 0, none⟩) ∧ Ext w w' ∧ Sep w' w.heap.size [oB g0 74 #[.slice a0 n0 c0, .int .i64 r0, .int .i64 r0_]]) := by
  unfold m_spec_l01New_raw at hm
  have hB0 := Below.refl w.heap.size w
  have hS0 : Sep w w.heap.size [] := Sep.nil (Nat.le_refl _)
  refine fn_of_wp Try.func56 rfl (by kernel_rfl) (Nat.le_of_ble_eq_true rfl) ?_
  refine w_seq fun K1 hK1 => ?_
  refine w_region ?_
  refine wl_val (g_assign (v := .pointer none) rfl) rfl ?_
  refine wl_nil ?_
  refine hK1 _ _ ?_
  refine w_seq fun K2 hK2 => ?_
  refine w_region ?_
  refine wl_val (g_move (v := .slice a0 n0 c0) rfl) rfl ?_
  refine wl_val (q_len SL33 rfl (Vw.len (hp0.bel hB0))) rfl ?_
  obtain ⟨hg3, hm⟩ := hm
  refine wl_val (g_add (a := 33061) (b := (p0.length : Int)) rfl rfl hg3) rfl ?_
  refine wl_val (g_assign (v := .int .i64 (33061 + (p0.length : Int))) rfl) rfl ?_
  refine wl_nil ?_
  refine hK2 _ _ ?_
  refine w_cut (σ := Int) (fun v40 => [(0, .slice a0 n0 c0), (3, .int .i64 v40)]) (fun v40 w' => m_spec_l01New_raw_K0 Q v40 ∧ Below w.heap.size w w' ∧ Sep w' w.heap.size []) ?_ ?_
  · refine w_seq fun K42 hK42 => ?_
    refine w_region ?_
    refine wl_val (g_assign (v := .int .i64 0) rfl) rfl ?_
    refine wl_nil ?_
    refine hK42 _ _ ?_
    refine w_block ?_
    obtain ⟨I45, μ46, h047, hr48⟩ := hm
    refine w_for (σ := Int × Int) (fun ⟨v43, v44⟩ => [(0, .slice a0 n0 c0), (3, .int .i64 v43), (4, .int .i64 v44)]) (fun ⟨v43, v44⟩ w' => I45 v43 v44 ∧ Below w.heap.size w w' ∧ Sep w' w.heap.size []) (fun ⟨v43, v44⟩ => μ46 v43 v44) ((33061 + (p0.length : Int)), 0) ⟨rfl, rfl, rfl, trivial⟩ ⟨h047, hB0, hS0⟩ ?_
    rintro ⟨v43, v44⟩ b_ w49 ⟨hi_, hB50, hS51⟩
    show Wp _ _ _ _ (upds b_ [(0, .slice a0 n0 c0), (3, .int .i64 v43), (4, .int .i64 v44)]) w49
    have hm := hr48 v43 v44 hi_
    refine w_seq fun K53 hK53 => ?_
    refine w_seq fun K54 hK54 => ?_
    refine w_region ?_
    refine wl_val (g_move (v := .int .i64 v44) rfl) rfl ?_
    refine wl_val (g_move (v := .slice a0 n0 c0) rfl) rfl ?_
    refine wl_val (q_len SL33 rfl (Vw.len (hp0.bel hB50))) rfl ?_
    refine wl_val (g_lss (a := v44) (b := (p0.length : Int)) rfl rfl) rfl ?_
    refine wl_val (g_move (v := .bool (decide (v44 < (p0.length : Int)))) rfl) rfl ?_
    refine wl_guard (c := (decide (v44 < (p0.length : Int))) = true) (val := .int .i64 v44) (b := ((decide (v44 < (p0.length : Int))) == true)) (gv_some rfl rfl rfl) beq_iff_eq (fun hc55 => ?_) ?_
    · have hcq2 : v44 < (p0.length : Int) := (decide_eq_true_iff.mp hc55)
      exact g_move (v := .int .i64 v44) rfl
    refine wl_guard (c := (decide (v44 < (p0.length : Int))) = true) (val := .bool (decide (v44 < 4000))) (b := ((decide (v44 < (p0.length : Int))) == true)) (gv_some rfl rfl rfl) beq_iff_eq (fun hc56 => ?_) ?_
    · have hcq2 : v44 < (p0.length : Int) := (decide_eq_true_iff.mp hc56)
      exact g_lss (a := v44) (b := 4000) (if_pos hc56) rfl
    refine wl_val (g_pick_and (b := (decide (v44 < (p0.length : Int)))) (q := (decide (v44 < 4000))) rfl rfl) rfl ?_
    refine wl_nil ?_
    refine hK54 _ _ ?_
    refine w_condI (p := ((v44 < (p0.length : Int)) ∧ (v44 < 4000))) (b := ((decide (v44 < (p0.length : Int))) && (decide (v44 < 4000)))) rfl (i_and decide_eq_true_iff decide_eq_true_iff) (fun h57 => ?_) (fun h57 => ?_)
    · replace hm := hm.1 h57
      refine w_skip ?_
      refine hK53 _ _ ?_
      refine w_seq fun K58 hK58 => ?_
      refine w_block ?_
      refine w_region ?_
      refine wl_val (g_move (v := .int .i64 v43) rfl) rfl ?_
      refine wl_val (q_wmul (a := v43) (b := 131) rfl rfl) rfl ?_
      refine wl_val (g_move (v := .slice a0 n0 c0) rfl) rfl ?_
      refine wl_val (g_move (v := .int .i64 v44) rfl) rfl ?_
      obtain ⟨hg59, hm⟩ := hm
      refine wl_val (q_index (i := v44) SL33 rfl rfl (hp0.bel hB50) hg59) rfl ?_
      refine wl_val (q_load (i := v44) (v := .int .u8 ((p0[(Int.toNat v44)]!).val : Int)) ON5 (hp0.bel hB50) hg59 rfl rfl) rfl ?_
      refine wl_val (g_conv8 (v := p0[(Int.toNat v44)]!) CV5_3 rfl) rfl ?_
      refine wl_val (q_wadd (a := (wmul v43 131)) (b := ((p0[(Int.toNat v44)]!).val : Int)) rfl rfl) rfl ?_
      refine wl_val (q_wadd (a := (wadd (wmul v43 131) ((p0[(Int.toNat v44)]!).val : Int))) (b := 7) rfl rfl) rfl ?_
      refine wl_val (q_wand (a := (wadd (wadd (wmul v43 131) ((p0[(Int.toNat v44)]!).val : Int)) 7)) (b := 1073741823) rfl rfl) rfl ?_
      refine wl_val (g_assign (v := .int .i64 (wand (wadd (wadd (wmul v43 131) ((p0[(Int.toNat v44)]!).val : Int)) 7) 1073741823)) rfl) rfl ?_
      refine wl_nil ?_
      refine hK58 _ _ ?_
      refine w_region ?_
      refine wl_val (g_move (v := .int .i64 v44) rfl) rfl ?_
      obtain ⟨hg60, hm⟩ := hm
      refine wl_val (g_add (a := v44) (b := 1) rfl rfl hg60) rfl ?_
      refine wl_val (g_assign (v := .int .i64 (v44 + 1)) rfl) rfl ?_
      refine wl_nil ?_
      exact ⟨((wand (wadd (wadd (wmul v43 131) ((p0[(Int.toNat v44)]!).val : Int)) 7) 1073741823), (v44 + 1)), hm.2, ⟨rfl, rfl, rfl, trivial⟩, ⟨hm.1, hB50, hS51⟩⟩
    · replace hm := hm.2 h57
      refine w_exit ?_
      exact ⟨(v43), ⟨rfl, rfl, trivial⟩, ⟨hm, hB50, hS51⟩⟩
  · rintro v40 b_ w61 ⟨hm, hB62, hS63⟩
    show Wp _ _ _ _ (upds b_ [(0, .slice a0 n0 c0), (3, .int .i64 v40)]) w61
    refine w_seq fun K64 hK64 => ?_
    refine w_region ?_
    refine wl_val (g_move (v := .slice a0 n0 c0) rfl) rfl ?_
    refine wl_val (g_move (v := .int .i64 v40) rfl) rfl ?_
    refine wl_val (g_build (v := .agg #[.slice a0 n0 c0, .int .i64 0, .int .i64 v40]) (parts2 rfl rfl) (BD74_02 a0 n0 c0 v40)) rfl ?_
    refine wl_step rfl (q_box (cs := #[.slice a0 n0 c0, .int .i64 0, .int .i64 v40]) rfl rfl hS63) ?_
    rintro _ w65 ⟨g66, rfl, hS68, hE67⟩
    have hB70 := hB62.trans (Ext.stp hE67 hS63.base)
    refine wl_val (g_assign (v := .pointer (some (⟨g66, 0, none⟩ : Addr))) rfl) rfl ?_
    refine wl_nil ?_
    refine hK64 _ _ ?_
    refine w_ret ?_
    repeat first | with_reducible refine q_then ?_ | with_reducible refine q_block ?_
    exact ret1 rfl (by decide) ⟨_, _, _, hm, rfl, toExt hB70, hS68⟩
theorem l01New_raw_ok {p0 : List Byte} {Q : Int → Int → Prop} (hl : p0.length ≤ 1099511627776) (hq : ∀ h, Q 0 h) : m_spec_l01New_raw p0 Q := by
  refine ⟨by omega, fun h i => 0 ≤ i, fun h i => (p0.length - i).toNat, Int.le_refl _, ?_⟩
  rintro h i h0
  exact ⟨fun hc => ⟨⟨h0, hc.1⟩, by omega, by omega, by dsimp only; omega⟩, fun _ => hq _⟩
theorem m_spec_l01New_fn {w : World} {a0 : Option Addr} {n0 c0 : Nat} {p0 : List Byte} {Q : Prop} (hp0 : Vw w.heap.size w a0 n0 c0 p0) (hm : m_spec_l01New p0 Q) :
    Fn Try.prog 56 #[.slice a0 n0 c0] w (fun v w' => ∃ (g0 : Nat), Q ∧ v = .pointer (some ⟨g0, 0, none⟩) ∧ Ext w w' ∧ Sep w' w.heap.size [oCur 74 g0 a0 n0 c0]) := by
  have hl := hm.1
  have hn := hp0.len
  refine (m_spec_l01New_raw_fn (Q := fun r _ => 0 ≤ r ∧ Q) hp0 (l01New_raw_ok hl fun _ => ⟨Int.le_refl _, hm.2⟩)).mono ?_
  rintro v w' ⟨g0, r, r_, ⟨h0, hQ⟩, hv, hE, hS⟩
  exact ⟨g0, hQ, hv, hE, hS.cur h0 (by omega)⟩

theorem m_spec_l01Byte_raw_fn {w : World} {B_ : Nat} {L_ : List Ob} {gp0 : Nat} {ap0 : Option Addr} {np0 cp0 : Nat} {p0 : List Byte} {i0 : Int} {h0 : Int} {Q : Int → Int → Int → Prop} (hS0 : Sep w B_ (oB gp0 74 #[.slice ap0 np0 cp0, .int .i64 i0, .int .i64 h0] :: L_)) (hp0 : Vw B_ w ap0 np0 cp0 p0) (hm : m_spec_l01Byte_raw p0 i0 h0 Q) :
    Fn Try.prog 81 #[.pointer (some (⟨gp0, 0, none⟩ : Addr))] w (fun v w' => ∃ (r0 : Int) (xi xh : Int), Q r0 xi xh ∧ v = .int .i64 r0 ∧ Below B_ w w' ∧ Sep w' B_ (oB gp0 74 #[.slice ap0 np0 cp0, .int .i64 xi, .int .i64 xh] :: L_)) := by
  unfold m_spec_l01Byte_raw at hm
  have hB0 := Below.refl B_ w
  refine fn_of_wp Try.func81 rfl (by kernel_rfl) (Nat.le_of_ble_eq_true rfl) ?_
  refine w_seq fun K2 hK2 => ?_
  refine w_region ?_
  refine wl_val (g_assign (v := .int .i64 0) rfl) rfl ?_
  refine wl_nil ?_
  refine hK2 _ _ ?_
  refine w_seq fun K3 hK3 => ?_
  refine w_region ?_
  refine wl_val (g_move (v := .pointer (some (⟨gp0, 0, none⟩ : Addr))) rfl) rfl ?_
  refine wl_val (g_move (v := .pointer (some (⟨gp0, 0, none⟩ : Addr))) rfl) rfl ?_
  refine wl_val (g_nilCheck (q := (⟨gp0, 0, none⟩ : Addr)) rfl) rfl ?_
  refine wl_val (g_fieldAddr (q := (⟨gp0, 0, none⟩ : Addr)) FL74_2 ON3 rfl) rfl ?_
  refine wl_val (q_loadB (i := 2) (bs := #[.slice ap0 np0 cp0, .int .i64 i0, .int .i64 h0]) hS0.g0 ON3 rfl rfl) rfl ?_
  refine wl_val (q_wmul (a := h0) (b := 6364136223846793005) rfl rfl) rfl ?_
  refine wl_val (q_wadd (a := (wmul h0 6364136223846793005)) (b := 1442695040888963407) rfl rfl) rfl ?_
  refine wl_val (g_nilCheck (q := (⟨gp0, 0, none⟩ : Addr)) rfl) rfl ?_
  refine wl_val (g_fieldAddr (q := (⟨gp0, 0, none⟩ : Addr)) FL74_2 ON3 rfl) rfl ?_
  refine wl_step rfl (q_storeB (i := 2) (bs' := #[.slice ap0 np0 cp0, .int .i64 i0, .int .i64 (wadd (wmul h0 6364136223846793005) 1442695040888963407)]) (vs := [.int .i64 (wadd (wmul h0 6364136223846793005) 1442695040888963407)]) hS0 ON3.sz rfl rfl rfl (by simp [Value.oneCell']) (Nat.le_of_ble_eq_true rfl) rfl) ?_
  rintro _ w4 ⟨rfl, hS5, hb6⟩
  have hB7 := hB0.trans hb6
  refine wl_nil ?_
  refine hK3 _ _ ?_
  refine w_seq fun K8 hK8 => ?_
  refine w_draw (X := Ext) (Y := Ext) [] MIX (by decide +kernel) rfl Ext.refl (fun _ _ _ => Ext.trans) (fun _ _ _ => Chg.trans) (fun _ _ h => Ext.chg h _) (fun w9 hE10 => ?_)
  have hB11 := hB7.trans (Ext.stp hE10 hS5.base)
  have hS12 := hS5.ext hE10
  refine ⟨.pointer (some (⟨gp0, 0, none⟩ : Addr)), fun w13 hX14 => od_plain rfl (by have hS15 := hS12.ext hX14; have hB16 := hB11.trans (Ext.stp hX14 hS12.base); exact is_ext (g_move (v := .pointer (some (⟨gp0, 0, none⟩ : Addr))) rfl)), ?_⟩
  refine ⟨.pointer (some (⟨gp0, 0, none⟩ : Addr)), fun w17 hX18 => od_plain rfl (by have hS19 := hS12.ext hX18; have hB20 := hB11.trans (Ext.stp hX18 hS12.base); exact is_ext (g_nilCheck (q := (⟨gp0, 0, none⟩ : Addr)) rfl)), ?_⟩
  refine ⟨.pointer (some (((⟨gp0, 0, none⟩ : Addr)).add 2)), fun w21 hX22 => od_plain rfl (by have hS23 := hS12.ext hX22; have hB24 := hB11.trans (Ext.stp hX22 hS12.base); exact is_ext (g_fieldAddr (q := (⟨gp0, 0, none⟩ : Addr)) FL74_2 ON3 rfl)), ?_⟩
  refine ⟨.int .i64 (wadd (wmul h0 6364136223846793005) 1442695040888963407), fun w25 hX26 => od_plain rfl (by have hS27 := hS12.ext hX26; have hB28 := hB11.trans (Ext.stp hX26 hS12.base); exact is_ext (q_loadB (i := 2) (bs := #[.slice ap0 np0 cp0, .int .i64 i0, .int .i64 (wadd (wmul h0 6364136223846793005) 1442695040888963407)]) hS27.g0 ON3 rfl rfl)), ?_⟩
  refine ⟨.int .i64 (sar (wadd (wmul h0 6364136223846793005) 1442695040888963407) 33), fun w29 hX30 => od_plain rfl (by have hS31 := hS12.ext hX30; have hB32 := hB11.trans (Ext.stp hX30 hS12.base); exact is_ext (g_shr (a := (wadd (wmul h0 6364136223846793005) 1442695040888963407)) (b := 33) rfl rfl ⟨by decide, by decide⟩)), ?_⟩
  refine ⟨.pointer (some (⟨gp0, 0, none⟩ : Addr)), fun w33 hX34 => od_plain rfl (by have hS35 := hS12.ext hX34; have hB36 := hB11.trans (Ext.stp hX34 hS12.base); exact is_ext (g_move (v := .pointer (some (⟨gp0, 0, none⟩ : Addr))) rfl)), ?_⟩
  refine ⟨.pointer (some (⟨gp0, 0, none⟩ : Addr)), fun w37 hX38 => od_plain rfl (by have hS39 := hS12.ext hX38; have hB40 := hB11.trans (Ext.stp hX38 hS12.base); exact is_ext (g_nilCheck (q := (⟨gp0, 0, none⟩ : Addr)) rfl)), ?_⟩
  refine ⟨.pointer (some (((⟨gp0, 0, none⟩ : Addr)).add 2)), fun w41 hX42 => od_plain rfl (by have hS43 := hS12.ext hX42; have hB44 := hB11.trans (Ext.stp hX42 hS12.base); exact is_ext (g_fieldAddr (q := (⟨gp0, 0, none⟩ : Addr)) FL74_2 ON3 rfl)), ?_⟩
  refine ⟨.int .i64 (wadd (wmul h0 6364136223846793005) 1442695040888963407), fun w45 hX46 => od_plain rfl (by have hS47 := hS12.ext hX46; have hB48 := hB11.trans (Ext.stp hX46 hS12.base); exact is_ext (q_loadB (i := 2) (bs := #[.slice ap0 np0 cp0, .int .i64 i0, .int .i64 (wadd (wmul h0 6364136223846793005) 1442695040888963407)]) hS47.g0 ON3 rfl rfl)), ?_⟩
  refine ⟨.int .i64 (sar (wadd (wmul h0 6364136223846793005) 1442695040888963407) 45), fun w49 hX50 => od_plain rfl (by have hS51 := hS12.ext hX50; have hB52 := hB11.trans (Ext.stp hX50 hS12.base); exact is_ext (g_shr (a := (wadd (wmul h0 6364136223846793005) 1442695040888963407)) (b := 45) rfl rfl ⟨by decide, by decide⟩)), ?_⟩
  refine ⟨.int .i64 (wxor (sar (wadd (wmul h0 6364136223846793005) 1442695040888963407) 33) (sar (wadd (wmul h0 6364136223846793005) 1442695040888963407) 45)), fun w53 hX54 => od_plain rfl (by have hS55 := hS12.ext hX54; have hB56 := hB11.trans (Ext.stp hX54 hS12.base); exact is_ext (q_wxor (a := (sar (wadd (wmul h0 6364136223846793005) 1442695040888963407) 33)) (b := (sar (wadd (wmul h0 6364136223846793005) 1442695040888963407) 45)) rfl rfl)), ?_⟩
  refine ⟨.int .i64 (wand (wxor (sar (wadd (wmul h0 6364136223846793005) 1442695040888963407) 33) (sar (wadd (wmul h0 6364136223846793005) 1442695040888963407) 45)) 255), fun w57 hX58 => od_plain rfl (by have hS59 := hS12.ext hX58; have hB60 := hB11.trans (Ext.stp hX58 hS12.base); exact is_ext (q_wand (a := (wxor (sar (wadd (wmul h0 6364136223846793005) 1442695040888963407) 33) (sar (wadd (wmul h0 6364136223846793005) 1442695040888963407) 45))) (b := 255) rfl rfl)), ?_⟩
  refine ⟨.int .i64 (wand (wxor (sar (wadd (wmul h0 6364136223846793005) 1442695040888963407) 33) (sar (wadd (wmul h0 6364136223846793005) 1442695040888963407) 45)) 255), fun w61 hX62 => od_plain rfl (by have hS63 := hS12.ext hX62; have hB64 := hB11.trans (Ext.stp hX62 hS12.base); exact is_ext (g_assign (v := .int .i64 (wand (wxor (sar (wadd (wmul h0 6364136223846793005) 1442695040888963407) 33) (sar (wadd (wmul h0 6364136223846793005) 1442695040888963407) 45)) 255)) rfl)), ?_⟩
  intro w65 hX66
  have hB67 := hB11.trans (Ext.stp hX66 hS12.base)
  have hS68 := hS12.ext hX66
  refine hK8 _ _ ?_
  refine w_seq fun K69 hK69 => ?_
  refine w_seq fun K70 hK70 => ?_
  refine w_draw (X := Ext) (Y := Ext) [] MIX (by decide +kernel) rfl Ext.refl (fun _ _ _ => Ext.trans) (fun _ _ _ => Chg.trans) (fun _ _ h => Ext.chg h _) (fun w71 hE72 => ?_)
  have hB73 := hB67.trans (Ext.stp hE72 hS68.base)
  have hS74 := hS68.ext hE72
  refine ⟨.pointer (some (⟨gp0, 0, none⟩ : Addr)), fun w75 hX76 => od_plain rfl (by have hS77 := hS74.ext hX76; have hB78 := hB73.trans (Ext.stp hX76 hS74.base); exact is_ext (g_move (v := .pointer (some (⟨gp0, 0, none⟩ : Addr))) rfl)), ?_⟩
  refine ⟨.pointer (some (⟨gp0, 0, none⟩ : Addr)), fun w79 hX80 => od_plain rfl (by have hS81 := hS74.ext hX80; have hB82 := hB73.trans (Ext.stp hX80 hS74.base); exact is_ext (g_nilCheck (q := (⟨gp0, 0, none⟩ : Addr)) rfl)), ?_⟩
  refine ⟨.pointer (some (((⟨gp0, 0, none⟩ : Addr)).add 1)), fun w83 hX84 => od_plain rfl (by have hS85 := hS74.ext hX84; have hB86 := hB73.trans (Ext.stp hX84 hS74.base); exact is_ext (g_fieldAddr (q := (⟨gp0, 0, none⟩ : Addr)) FL74_1 ON3 rfl)), ?_⟩
  refine ⟨.int .i64 i0, fun w87 hX88 => od_plain rfl (by have hS89 := hS74.ext hX88; have hB90 := hB73.trans (Ext.stp hX88 hS74.base); exact is_ext (q_loadB (i := 1) (bs := #[.slice ap0 np0 cp0, .int .i64 i0, .int .i64 (wadd (wmul h0 6364136223846793005) 1442695040888963407)]) hS89.g0 ON3 rfl rfl)), ?_⟩
  refine ⟨.pointer (some (⟨gp0, 0, none⟩ : Addr)), fun w91 hX92 => od_plain rfl (by have hS93 := hS74.ext hX92; have hB94 := hB73.trans (Ext.stp hX92 hS74.base); exact is_ext (g_move (v := .pointer (some (⟨gp0, 0, none⟩ : Addr))) rfl)), ?_⟩
  refine ⟨.pointer (some (⟨gp0, 0, none⟩ : Addr)), fun w95 hX96 => od_plain rfl (by have hS97 := hS74.ext hX96; have hB98 := hB73.trans (Ext.stp hX96 hS74.base); exact is_ext (g_nilCheck (q := (⟨gp0, 0, none⟩ : Addr)) rfl)), ?_⟩
  refine ⟨.pointer (some (((⟨gp0, 0, none⟩ : Addr)).add 0)), fun w99 hX100 => od_plain rfl (by have hS101 := hS74.ext hX100; have hB102 := hB73.trans (Ext.stp hX100 hS74.base); exact is_ext (g_fieldAddr (q := (⟨gp0, 0, none⟩ : Addr)) FL74_0 ON33 rfl)), ?_⟩
  refine ⟨.slice ap0 np0 cp0, fun w103 hX104 => od_plain rfl (by have hS105 := hS74.ext hX104; have hB106 := hB73.trans (Ext.stp hX104 hS74.base); exact is_ext (q_loadB (i := 0) (bs := #[.slice ap0 np0 cp0, .int .i64 i0, .int .i64 (wadd (wmul h0 6364136223846793005) 1442695040888963407)]) hS105.g0 ON33 rfl rfl)), ?_⟩
  refine ⟨.int .i64 (p0.length : Int), fun w107 hX108 => od_plain rfl (by have hS109 := hS74.ext hX108; have hB110 := hB73.trans (Ext.stp hX108 hS74.base); exact is_ext (q_len SL33 rfl (Vw.len (hp0.bel hB110)))), ?_⟩
  refine ⟨.bool (decide (i0 < (p0.length : Int))), fun w111 hX112 => od_plain rfl (by have hS113 := hS74.ext hX112; have hB114 := hB73.trans (Ext.stp hX112 hS74.base); exact is_ext (g_lss (a := i0) (b := (p0.length : Int)) rfl rfl)), ?_⟩
  intro w115 hX116
  have hB117 := hB73.trans (Ext.stp hX116 hS74.base)
  have hS118 := hS74.ext hX116
  refine hK70 _ _ ?_
  refine w_condI (p := i0 < (p0.length : Int)) (b := (decide (i0 < (p0.length : Int)))) rfl decide_eq_true_iff (fun h119 => ?_) (fun h119 => ?_)
  · replace hm := hm.1 h119
    refine w_seq fun K120 hK120 => ?_
    refine w_draw (X := Ext) (Y := Ext) [] MIX (by decide +kernel) rfl Ext.refl (fun _ _ _ => Ext.trans) (fun _ _ _ => Chg.trans) (fun _ _ h => Ext.chg h _) (fun w121 hE122 => ?_)
    have hB123 := hB117.trans (Ext.stp hE122 hS118.base)
    have hS124 := hS118.ext hE122
    refine ⟨.int .i64 (wand (wxor (sar (wadd (wmul h0 6364136223846793005) 1442695040888963407) 33) (sar (wadd (wmul h0 6364136223846793005) 1442695040888963407) 45)) 255), fun w125 hX126 => od_plain rfl (by have hS127 := hS124.ext hX126; have hB128 := hB123.trans (Ext.stp hX126 hS124.base); exact is_ext (g_move (v := .int .i64 (wand (wxor (sar (wadd (wmul h0 6364136223846793005) 1442695040888963407) 33) (sar (wadd (wmul h0 6364136223846793005) 1442695040888963407) 45)) 255)) rfl)), ?_⟩
    refine ⟨.pointer (some (⟨gp0, 0, none⟩ : Addr)), fun w129 hX130 => od_plain rfl (by have hS131 := hS124.ext hX130; have hB132 := hB123.trans (Ext.stp hX130 hS124.base); exact is_ext (g_move (v := .pointer (some (⟨gp0, 0, none⟩ : Addr))) rfl)), ?_⟩
    refine ⟨.pointer (some (⟨gp0, 0, none⟩ : Addr)), fun w133 hX134 => od_plain rfl (by have hS135 := hS124.ext hX134; have hB136 := hB123.trans (Ext.stp hX134 hS124.base); exact is_ext (g_nilCheck (q := (⟨gp0, 0, none⟩ : Addr)) rfl)), ?_⟩
    refine ⟨.pointer (some (((⟨gp0, 0, none⟩ : Addr)).add 0)), fun w137 hX138 => od_plain rfl (by have hS139 := hS124.ext hX138; have hB140 := hB123.trans (Ext.stp hX138 hS124.base); exact is_ext (g_fieldAddr (q := (⟨gp0, 0, none⟩ : Addr)) FL74_0 ON33 rfl)), ?_⟩
    refine ⟨.slice ap0 np0 cp0, fun w141 hX142 => od_plain rfl (by have hS143 := hS124.ext hX142; have hB144 := hB123.trans (Ext.stp hX142 hS124.base); exact is_ext (q_loadB (i := 0) (bs := #[.slice ap0 np0 cp0, .int .i64 i0, .int .i64 (wadd (wmul h0 6364136223846793005) 1442695040888963407)]) hS143.g0 ON33 rfl rfl)), ?_⟩
    refine ⟨.pointer (some (⟨gp0, 0, none⟩ : Addr)), fun w145 hX146 => od_plain rfl (by have hS147 := hS124.ext hX146; have hB148 := hB123.trans (Ext.stp hX146 hS124.base); exact is_ext (g_move (v := .pointer (some (⟨gp0, 0, none⟩ : Addr))) rfl)), ?_⟩
    refine ⟨.pointer (some (⟨gp0, 0, none⟩ : Addr)), fun w149 hX150 => od_plain rfl (by have hS151 := hS124.ext hX150; have hB152 := hB123.trans (Ext.stp hX150 hS124.base); exact is_ext (g_nilCheck (q := (⟨gp0, 0, none⟩ : Addr)) rfl)), ?_⟩
    refine ⟨.pointer (some (((⟨gp0, 0, none⟩ : Addr)).add 1)), fun w153 hX154 => od_plain rfl (by have hS155 := hS124.ext hX154; have hB156 := hB123.trans (Ext.stp hX154 hS124.base); exact is_ext (g_fieldAddr (q := (⟨gp0, 0, none⟩ : Addr)) FL74_1 ON3 rfl)), ?_⟩
    refine ⟨.int .i64 i0, fun w157 hX158 => od_plain rfl (by have hS159 := hS124.ext hX158; have hB160 := hB123.trans (Ext.stp hX158 hS124.base); exact is_ext (q_loadB (i := 1) (bs := #[.slice ap0 np0 cp0, .int .i64 i0, .int .i64 (wadd (wmul h0 6364136223846793005) 1442695040888963407)]) hS159.g0 ON3 rfl rfl)), ?_⟩
    obtain ⟨hg165, hm⟩ := hm
    refine ⟨.pointer (some ((adr ap0).add ((Int.toNat i0) * El.m Byte))), fun w161 hX162 => od_plain rfl (by have hS163 := hS124.ext hX162; have hB164 := hB123.trans (Ext.stp hX162 hS124.base); exact is_ext (q_index (i := i0) SL33 rfl rfl (hp0.bel hB164) hg165)), ?_⟩
    refine ⟨.int .u8 ((p0[(Int.toNat i0)]!).val : Int), fun w166 hX167 => od_plain rfl (by have hS168 := hS124.ext hX167; have hB169 := hB123.trans (Ext.stp hX167 hS124.base); exact is_ext (q_load (i := i0) (v := .int .u8 ((p0[(Int.toNat i0)]!).val : Int)) ON5 (hp0.bel hB169) hg165 rfl rfl)), ?_⟩
    refine ⟨.int .i64 ((p0[(Int.toNat i0)]!).val : Int), fun w170 hX171 => od_plain rfl (by have hS172 := hS124.ext hX171; have hB173 := hB123.trans (Ext.stp hX171 hS124.base); exact is_ext (g_conv8 (v := p0[(Int.toNat i0)]!) CV5_3 rfl)), ?_⟩
    refine ⟨.int .i64 (wadd (wand (wxor (sar (wadd (wmul h0 6364136223846793005) 1442695040888963407) 33) (sar (wadd (wmul h0 6364136223846793005) 1442695040888963407) 45)) 255) ((p0[(Int.toNat i0)]!).val : Int)), fun w174 hX175 => od_plain rfl (by have hS176 := hS124.ext hX175; have hB177 := hB123.trans (Ext.stp hX175 hS124.base); exact is_ext (q_wadd (a := (wand (wxor (sar (wadd (wmul h0 6364136223846793005) 1442695040888963407) 33) (sar (wadd (wmul h0 6364136223846793005) 1442695040888963407) 45)) 255)) (b := ((p0[(Int.toNat i0)]!).val : Int)) rfl rfl)), ?_⟩
    refine ⟨.int .i64 (wand (wadd (wand (wxor (sar (wadd (wmul h0 6364136223846793005) 1442695040888963407) 33) (sar (wadd (wmul h0 6364136223846793005) 1442695040888963407) 45)) 255) ((p0[(Int.toNat i0)]!).val : Int)) 255), fun w178 hX179 => od_plain rfl (by have hS180 := hS124.ext hX179; have hB181 := hB123.trans (Ext.stp hX179 hS124.base); exact is_ext (q_wand (a := (wadd (wand (wxor (sar (wadd (wmul h0 6364136223846793005) 1442695040888963407) 33) (sar (wadd (wmul h0 6364136223846793005) 1442695040888963407) 45)) 255) ((p0[(Int.toNat i0)]!).val : Int))) (b := 255) rfl rfl)), ?_⟩
    refine ⟨.int .i64 (wand (wadd (wand (wxor (sar (wadd (wmul h0 6364136223846793005) 1442695040888963407) 33) (sar (wadd (wmul h0 6364136223846793005) 1442695040888963407) 45)) 255) ((p0[(Int.toNat i0)]!).val : Int)) 255), fun w182 hX183 => od_plain rfl (by have hS184 := hS124.ext hX183; have hB185 := hB123.trans (Ext.stp hX183 hS124.base); exact is_ext (g_assign (v := .int .i64 (wand (wadd (wand (wxor (sar (wadd (wmul h0 6364136223846793005) 1442695040888963407) 33) (sar (wadd (wmul h0 6364136223846793005) 1442695040888963407) 45)) 255) ((p0[(Int.toNat i0)]!).val : Int)) 255)) rfl)), ?_⟩
    intro w186 hX187
    have hB188 := hB123.trans (Ext.stp hX187 hS124.base)
    have hS189 := hS124.ext hX187
    refine hK120 _ _ ?_
    refine w_region ?_
    refine wl_val (g_move (v := .pointer (some (⟨gp0, 0, none⟩ : Addr))) rfl) rfl ?_
    refine wl_val (g_move (v := .pointer (some (⟨gp0, 0, none⟩ : Addr))) rfl) rfl ?_
    refine wl_val (g_nilCheck (q := (⟨gp0, 0, none⟩ : Addr)) rfl) rfl ?_
    refine wl_val (g_fieldAddr (q := (⟨gp0, 0, none⟩ : Addr)) FL74_1 ON3 rfl) rfl ?_
    refine wl_val (q_loadB (i := 1) (bs := #[.slice ap0 np0 cp0, .int .i64 i0, .int .i64 (wadd (wmul h0 6364136223846793005) 1442695040888963407)]) hS189.g0 ON3 rfl rfl) rfl ?_
    obtain ⟨hg190, hm⟩ := hm
    refine wl_val (g_add (a := i0) (b := 1) rfl rfl hg190) rfl ?_
    refine wl_val (g_nilCheck (q := (⟨gp0, 0, none⟩ : Addr)) rfl) rfl ?_
    refine wl_val (g_fieldAddr (q := (⟨gp0, 0, none⟩ : Addr)) FL74_1 ON3 rfl) rfl ?_
    refine wl_step rfl (q_storeB (i := 1) (bs' := #[.slice ap0 np0 cp0, .int .i64 (i0 + 1), .int .i64 (wadd (wmul h0 6364136223846793005) 1442695040888963407)]) (vs := [.int .i64 (i0 + 1)]) hS189 ON3.sz rfl rfl rfl (by simp [Value.oneCell']) (Nat.le_of_ble_eq_true rfl) rfl) ?_
    rintro _ w191 ⟨rfl, hS192, hb193⟩
    have hB194 := hB188.trans hb193
    refine wl_nil ?_
    refine hK69 _ _ ?_
    refine w_seq fun K195 hK195 => ?_
    refine w_region ?_
    refine wl_val (g_move (v := .int .i64 (wand (wadd (wand (wxor (sar (wadd (wmul h0 6364136223846793005) 1442695040888963407) 33) (sar (wadd (wmul h0 6364136223846793005) 1442695040888963407) 45)) 255) ((p0[(Int.toNat i0)]!).val : Int)) 255)) rfl) rfl ?_
    refine wl_val (g_assign (v := .int .i64 (wand (wadd (wand (wxor (sar (wadd (wmul h0 6364136223846793005) 1442695040888963407) 33) (sar (wadd (wmul h0 6364136223846793005) 1442695040888963407) 45)) 255) ((p0[(Int.toNat i0)]!).val : Int)) 255)) rfl) rfl ?_
    refine wl_nil ?_
    refine hK195 _ _ ?_
    refine w_ret ?_
    repeat first | with_reducible refine q_then ?_ | with_reducible refine q_block ?_
    exact ret1 rfl (by decide) ⟨_, _, _, hm, rfl, hB194, hS192⟩
  · replace hm := hm.2 h119
    refine w_skip ?_
    refine hK69 _ _ ?_
    refine w_seq fun K196 hK196 => ?_
    refine w_region ?_
    refine wl_val (g_move (v := .int .i64 (wand (wxor (sar (wadd (wmul h0 6364136223846793005) 1442695040888963407) 33) (sar (wadd (wmul h0 6364136223846793005) 1442695040888963407) 45)) 255)) rfl) rfl ?_
    refine wl_val (g_assign (v := .int .i64 (wand (wxor (sar (wadd (wmul h0 6364136223846793005) 1442695040888963407) 33) (sar (wadd (wmul h0 6364136223846793005) 1442695040888963407) 45)) 255)) rfl) rfl ?_
    refine wl_nil ?_
    refine hK196 _ _ ?_
    refine w_ret ?_
    repeat first | with_reducible refine q_then ?_ | with_reducible refine q_block ?_
    exact ret1 rfl (by decide) ⟨_, _, _, hm, rfl, hB117, hS118⟩
theorem l01Byte_raw_ok {p0 : List Byte} {i0 h0 : Int} {Q : Int → Int → Int → Prop} (hl : p0.length ≤ 1099511627776) (hi : 0 ≤ i0) (hq : ∀ r i h, 0 ≤ r → r ≤ 255 → 0 ≤ i → Q r i h) : m_spec_l01Byte_raw p0 i0 h0 Q := by
  exact ⟨fun h => ⟨⟨hi, h⟩, by omega, hq _ _ _ (wand_rng (by decide) (by decide)).1 (wand_rng (by decide) (by decide)).2 (by omega)⟩, fun h => hq _ _ _ (wand_rng (by decide) (by decide)).1 (wand_rng (by decide) (by decide)).2 hi⟩
theorem m_spec_l01Byte_fn {B_ : Nat} {L_ : List Ob} {w : World} {gp0 : Nat} {ap0 : Option Addr} {np0 cp0 : Nat} {p0 : List Byte} {Q : Int → Prop} (hS0 : Sep w B_ (oCur 74 gp0 ap0 np0 cp0 :: L_)) (hp0 : Vw B_ w ap0 np0 cp0 p0) (hm : m_spec_l01Byte Q) :
    Fn Try.prog 81 #[.pointer (some (⟨gp0, 0, none⟩ : Addr))] w (fun v w' => ∃ (r0 : Int), Q r0 ∧ v = .int .i64 r0 ∧ Below B_ w w' ∧ Sep w' B_ (oCur 74 gp0 ap0 np0 cp0 :: L_)) := by
  obtain ⟨i, h, hi, hl, hS⟩ := hS0.uncur
  have hn := hp0.len
  refine (m_spec_l01Byte_raw_fn (Q := fun r i _ => 0 ≤ i ∧ Q r) hS hp0 (l01Byte_raw_ok (by omega) hi fun r i _ h1 h2 h3 => ⟨h3, hm r h1 h2⟩)).mono ?_
  rintro v w' ⟨r0, xi, xh, ⟨h0, hQ⟩, hv, hB, hS'⟩
  exact ⟨r0, hQ, hv, hB, hS'.cur h0 hl⟩

theorem m_spec_l01Below_fn {w : World} {B_ : Nat} {L_ : List Ob} {gp0 : Nat} {ap0 : Option Addr} {np0 cp0 : Nat} {p0 : List Byte} {Q : Int → Prop} (hS0 : Sep w B_ (oCur 74 gp0 ap0 np0 cp0 :: L_)) (hp0 : Vw B_ w ap0 np0 cp0 p0) (p1 : Int) (hm : m_spec_l01Below p1 Q) :
    Fn Try.prog 72 #[.pointer (some (⟨gp0, 0, none⟩ : Addr)), .int .i64 p1] w (fun v w' => ∃ (r0 : Int), Q r0 ∧ v = .int .i64 r0 ∧ Below B_ w w' ∧ Sep w' B_ (oCur 74 gp0 ap0 np0 cp0 :: L_)) := by
  unfold m_spec_l01Below at hm
  have hB0 := Below.refl B_ w
  refine fn_of_wp Try.func72 rfl (by kernel_rfl) (Nat.le_of_ble_eq_true rfl) ?_
  refine w_seq fun K2 hK2 => ?_
  refine w_region ?_
  refine wl_val (g_assign (v := .int .i64 0) rfl) rfl ?_
  refine wl_nil ?_
  refine hK2 _ _ ?_
  refine w_seq fun K3 hK3 => ?_
  refine w_seq fun K4 hK4 => ?_
  refine w_region ?_
  refine wl_val (g_move (v := .int .i64 p1) rfl) rfl ?_
  refine wl_val (g_leq (a := p1) (b := 0) rfl rfl) rfl ?_
  refine wl_nil ?_
  refine hK4 _ _ ?_
  refine w_condI (p := p1 ≤ 0) (b := (decide (p1 ≤ 0))) rfl decide_eq_true_iff (fun h5 => ?_) (fun h5 => ?_)
  · replace hm := hm.1 h5
    refine w_seq fun K6 hK6 => ?_
    refine w_region ?_
    refine wl_val (g_assign (v := .int .i64 0) rfl) rfl ?_
    refine wl_nil ?_
    refine hK6 _ _ ?_
    refine w_ret ?_
    repeat first | with_reducible refine q_then ?_ | with_reducible refine q_block ?_
    exact ret1 rfl (by decide) ⟨_, hm, rfl, hB0, hS0⟩
  · replace hm := hm.2 h5
    refine w_skip ?_
    refine hK3 _ _ ?_
    refine w_seq fun K7 hK7 => ?_
    refine w_seq fun K8 hK8 => ?_
    refine w_region ?_
    refine wl_val (g_move (v := .int .i64 p1) rfl) rfl ?_
    refine wl_val (g_leq (a := p1) (b := 256) rfl rfl) rfl ?_
    refine wl_nil ?_
    refine hK8 _ _ ?_
    refine w_condI (p := p1 ≤ 256) (b := (decide (p1 ≤ 256))) rfl decide_eq_true_iff (fun h9 => ?_) (fun h9 => ?_)
    · replace hm := hm.1 h9
      refine w_seq fun K10 hK10 => ?_
      refine w_region ?_
      refine wl_val (g_move (v := .pointer (some (⟨gp0, 0, none⟩ : Addr))) rfl) rfl ?_
      refine wl_step rfl (g_call (vs := #[.pointer (some (⟨gp0, 0, none⟩ : Addr))]) CF81 (args1 rfl) (m_spec_l01Byte_fn hS0 (hp0.bel hB0) hm)) ?_
      rintro _ w11 ⟨r14, hm, rfl, hb12, hS13⟩
      have hB15 := hB0.trans hb12
      refine wl_val (g_move (v := .int .i64 p1) rfl) rfl ?_
      obtain ⟨hg16, hm⟩ := hm
      refine wl_val (g_rem (a := r14) (b := p1) rfl rfl hg16) rfl ?_
      refine wl_val (g_assign (v := .int .i64 (Int.tmod r14 p1)) rfl) rfl ?_
      refine wl_nil ?_
      refine hK10 _ _ ?_
      refine w_ret ?_
      repeat first | with_reducible refine q_then ?_ | with_reducible refine q_block ?_
      exact ret1 rfl (by decide) ⟨_, hm, rfl, hB15, hS13⟩
    · replace hm := hm.2 h9
      refine w_skip ?_
      refine hK7 _ _ ?_
      refine w_seq fun K17 hK17 => ?_
      refine w_region ?_
      refine wl_val (g_move (v := .pointer (some (⟨gp0, 0, none⟩ : Addr))) rfl) rfl ?_
      refine wl_step rfl (g_call (vs := #[.pointer (some (⟨gp0, 0, none⟩ : Addr))]) CF81 (args1 rfl) (m_spec_l01Byte_fn hS0 (hp0.bel hB0) hm)) ?_
      rintro _ w18 ⟨r21, hm, rfl, hb19, hS20⟩
      have hB22 := hB0.trans hb19
      refine wl_val (g_assign (v := .int .i64 r21) rfl) rfl ?_
      refine wl_nil ?_
      refine hK17 _ _ ?_
      refine w_seq fun K23 hK23 => ?_
      refine w_region ?_
      refine wl_val (g_move (v := .pointer (some (⟨gp0, 0, none⟩ : Addr))) rfl) rfl ?_
      refine wl_step rfl (g_call (vs := #[.pointer (some (⟨gp0, 0, none⟩ : Addr))]) CF81 (args1 rfl) (m_spec_l01Byte_fn hS20 (hp0.bel hB22) hm)) ?_
      rintro _ w24 ⟨r27, hm, rfl, hb25, hS26⟩
      have hB28 := hB22.trans hb25
      refine wl_val (g_assign (v := .int .i64 r27) rfl) rfl ?_
      refine wl_nil ?_
      refine hK23 _ _ ?_
      refine w_seq fun K29 hK29 => ?_
      refine w_region ?_
      refine wl_val (g_move (v := .pointer (some (⟨gp0, 0, none⟩ : Addr))) rfl) rfl ?_
      refine wl_step rfl (g_call (vs := #[.pointer (some (⟨gp0, 0, none⟩ : Addr))]) CF81 (args1 rfl) (m_spec_l01Byte_fn hS26 (hp0.bel hB28) hm)) ?_
      rintro _ w30 ⟨r33, hm, rfl, hb31, hS32⟩
      have hB34 := hB28.trans hb31
      refine wl_val (g_assign (v := .int .i64 r33) rfl) rfl ?_
      refine wl_nil ?_
      refine hK29 _ _ ?_
      refine w_seq fun K35 hK35 => ?_
      refine w_region ?_
      refine wl_val (g_move (v := .pointer (some (⟨gp0, 0, none⟩ : Addr))) rfl) rfl ?_
      refine wl_step rfl (g_call (vs := #[.pointer (some (⟨gp0, 0, none⟩ : Addr))]) CF81 (args1 rfl) (m_spec_l01Byte_fn hS32 (hp0.bel hB34) hm)) ?_
      rintro _ w36 ⟨r39, hm, rfl, hb37, hS38⟩
      have hB40 := hB34.trans hb37
      refine wl_val (g_assign (v := .int .i64 r39) rfl) rfl ?_
      refine wl_nil ?_
      refine hK35 _ _ ?_
      refine w_seq fun K41 hK41 => ?_
      refine w_region ?_
      refine wl_val (g_move (v := .int .i64 r21) rfl) rfl ?_
      obtain ⟨hg42, hm⟩ := hm
      refine wl_val (g_mul (a := r21) (b := 16777216) rfl rfl hg42) rfl ?_
      refine wl_val (g_move (v := .int .i64 r27) rfl) rfl ?_
      obtain ⟨hg43, hm⟩ := hm
      refine wl_val (g_mul (a := r27) (b := 65536) rfl rfl hg43) rfl ?_
      obtain ⟨hg44, hm⟩ := hm
      refine wl_val (g_add (a := (r21 * 16777216)) (b := (r27 * 65536)) rfl rfl hg44) rfl ?_
      refine wl_val (g_move (v := .int .i64 r33) rfl) rfl ?_
      obtain ⟨hg45, hm⟩ := hm
      refine wl_val (g_mul (a := r33) (b := 256) rfl rfl hg45) rfl ?_
      obtain ⟨hg46, hm⟩ := hm
      refine wl_val (g_add (a := ((r21 * 16777216) + (r27 * 65536))) (b := (r33 * 256)) rfl rfl hg46) rfl ?_
      refine wl_val (g_move (v := .int .i64 r39) rfl) rfl ?_
      obtain ⟨hg47, hm⟩ := hm
      refine wl_val (g_add (a := (((r21 * 16777216) + (r27 * 65536)) + (r33 * 256))) (b := r39) rfl rfl hg47) rfl ?_
      refine wl_val (g_move (v := .int .i64 p1) rfl) rfl ?_
      obtain ⟨hg48, hm⟩ := hm
      refine wl_val (g_rem (a := ((((r21 * 16777216) + (r27 * 65536)) + (r33 * 256)) + r39)) (b := p1) rfl rfl hg48) rfl ?_
      refine wl_val (g_assign (v := .int .i64 (Int.tmod ((((r21 * 16777216) + (r27 * 65536)) + (r33 * 256)) + r39) p1)) rfl) rfl ?_
      refine wl_nil ?_
      refine hK41 _ _ ?_
      refine w_ret ?_
      repeat first | with_reducible refine q_then ?_ | with_reducible refine q_block ?_
      exact ret1 rfl (by decide) ⟨_, hm, rfl, hB40, hS38⟩

theorem m_spec_l01Once_fn {w : World} {B_ : Nat} {L_ : List Ob} {gp0 : Nat} {ap0 : Option Addr} {np0 cp0 : Nat} {p0 : List Byte} {Q : Bool → Prop} (hS0 : Sep w B_ (oCur 74 gp0 ap0 np0 cp0 :: L_)) (hp0 : Vw B_ w ap0 np0 cp0 p0) (p1 : Int) (hm : m_spec_l01Once p1 Q) :
    Fn Try.prog 73 #[.pointer (some (⟨gp0, 0, none⟩ : Addr)), .int .i64 p1] w (fun v w' => ∃ (r0 : Bool), Q r0 ∧ v = .bool r0 ∧ Below B_ w w' ∧ Sep w' B_ (oCur 74 gp0 ap0 np0 cp0 :: L_)) := by
  unfold m_spec_l01Once at hm
  have hB0 := Below.refl B_ w
  refine fn_of_wp Try.func73 rfl (by kernel_rfl) (Nat.le_of_ble_eq_true rfl) ?_
  refine w_seq fun K2 hK2 => ?_
  refine w_region ?_
  refine wl_val (g_assign (v := .bool false) rfl) rfl ?_
  refine wl_nil ?_
  refine hK2 _ _ ?_
  refine w_seq fun K3 hK3 => ?_
  refine w_region ?_
  refine wl_val (g_move (v := .pointer (some (⟨gp0, 0, none⟩ : Addr))) rfl) rfl ?_
  refine wl_val (g_move (v := .int .i64 p1) rfl) rfl ?_
  refine wl_step rfl (g_call (vs := #[.pointer (some (⟨gp0, 0, none⟩ : Addr)), .int .i64 p1]) CF72 (args2 rfl rfl) (m_spec_l01Below_fn hS0 (hp0.bel hB0) p1 hm)) ?_
  rintro _ w4 ⟨r7, hm, rfl, hb5, hS6⟩
  have hB8 := hB0.trans hb5
  refine wl_val (g_eql (a := r7) (b := 0) rfl rfl) rfl ?_
  refine wl_val (g_assign (v := .bool (decide (r7 = 0))) rfl) rfl ?_
  refine wl_nil ?_
  refine hK3 _ _ ?_
  refine w_ret ?_
  repeat first | with_reducible refine q_then ?_ | with_reducible refine q_block ?_
  exact ret1 rfl (by decide) ⟨_, hm, rfl, hB8, hS6⟩

theorem m_spec_l08List_fn {w : World} {B_ : Nat} {L_ : List Ob} {gp0 : Nat} {ap0 : Option Addr} {np0 cp0 : Nat} {p0 : List Byte} {Q : Int → (List Cross) → Prop} (hS0 : Sep w B_ (oCur 74 gp0 ap0 np0 cp0 :: L_)) (hp0 : Vw B_ w ap0 np0 cp0 p0) (hm : m_spec_l08List Q) :
    Fn Try.prog 55 #[.pointer (some (⟨gp0, 0, none⟩ : Addr))] w (fun v w' => ∃ (r0 : Int) (r1 : List Cross) (a1 : Option Addr) (n1 c1 : Nat), Q r0 r1 ∧ v = .tuple #[.int .i64 r0, .slice a1 n1 c1] ∧ Below B_ w w' ∧ Sep w' B_ (oS 56 a1 n1 c1 r1 :: oCur 74 gp0 ap0 np0 cp0 :: L_)) := by
  unfold m_spec_l08List at hm
  have hB0 := Below.refl B_ w
  refine fn_of_wp Try.func55 rfl (by kernel_rfl) (Nat.le_of_ble_eq_true rfl) ?_
  refine w_seq fun K2 hK2 => ?_
  refine w_region ?_
  refine wl_val (g_assign (v := .int .i64 0) rfl) rfl ?_
  refine wl_val (g_assign (v := .slice none 0 0) rfl) rfl ?_
  refine wl_nil ?_
  refine hK2 _ _ ?_
  refine w_seq fun K3 hK3 => ?_
  refine w_region ?_
  refine wl_val (g_move (v := .pointer (some (⟨gp0, 0, none⟩ : Addr))) rfl) rfl ?_
  refine wl_step rfl (g_call (vs := #[.pointer (some (⟨gp0, 0, none⟩ : Addr)), .int .i64 4]) CF72 (args2 rfl rfl) (m_spec_l01Below_fn hS0 (hp0.bel hB0) 4 hm)) ?_
  rintro _ w4 ⟨r7, hm, rfl, hb5, hS6⟩
  have hB8 := hB0.trans hb5
  obtain ⟨hg9, hm⟩ := hm
  refine wl_val (g_add (a := 2) (b := r7) rfl rfl hg9) rfl ?_
  refine wl_val (g_assign (v := .int .i64 (2 + r7)) rfl) rfl ?_
  refine wl_nil ?_
  refine hK3 _ _ ?_
  refine w_seq fun K10 hK10 => ?_
  refine w_region ?_
  refine wl_step rfl (q_lit0 (α := Cross) rfl SL24 hS6) ?_
  rintro _ w11 ⟨a12, rfl, hS14, hE13⟩
  have hB16 := hB8.trans (Ext.stp hE13 hS6.base)
  refine wl_val (g_assign (v := .slice a12 0 0) rfl) rfl ?_
  refine wl_nil ?_
  refine hK10 _ _ ?_
  refine w_cut (σ := List Cross × Option Addr × Nat × Nat) (fun ⟨x539, a540, n541, c542⟩ => [(4, .int .i64 (2 + r7)), (5, .slice a540 n541 c542)]) (fun ⟨x539, a540, n541, c542⟩ w' => m_spec_l08List_K1 r7 Q x539 ∧ Below B_ w w' ∧ Sep w' B_ (oCur 74 gp0 ap0 np0 cp0 :: oS 56 a540 n541 c542 (x539 : List Cross) :: L_)) ?_ ?_
  · refine w_seq fun K544 hK544 => ?_
    refine w_region ?_
    refine wl_val (g_move (v := .pointer (some (⟨gp0, 0, none⟩ : Addr))) rfl) rfl ?_
    have hS545 := hS14.f1
    refine wl_step rfl (g_call (vs := #[.pointer (some (⟨gp0, 0, none⟩ : Addr)), .int .i64 10]) CF72 (args2 rfl rfl) (m_spec_l01Below_fn hS545 (hp0.bel hB16) 10 hm)) ?_
    rintro _ w546 ⟨r549, hm, rfl, hb547, hS548⟩
    have hB550 := hB16.trans hb547
    refine wl_val (g_assign (v := .int .i64 r549) rfl) rfl ?_
    refine wl_nil ?_
    refine hK544 _ _ ?_
    refine w_block ?_
    obtain ⟨I556, μ557, h0558, hr559⟩ := hm
    refine w_for (σ := List Cross × Option Addr × Nat × Nat × Int) (fun ⟨x551, a552, n553, c554, v555⟩ => [(0, .pointer (some (⟨gp0, 0, none⟩ : Addr))), (4, .int .i64 (2 + r7)), (5, .slice a552 n553 c554), (6, .int .i64 v555)]) (fun ⟨x551, a552, n553, c554, v555⟩ w' => I556 x551 v555 ∧ Below B_ w w' ∧ Sep w' B_ (oCur 74 gp0 ap0 np0 cp0 :: oS 56 a552 n553 c554 (x551 : List Cross) :: L_)) (fun ⟨x551, a552, n553, c554, v555⟩ => μ557 x551 v555) ([], a12, 0, 0, r549) ⟨rfl, rfl, rfl, rfl, trivial⟩ ⟨h0558, hB550, hS548⟩ ?_
    rintro ⟨x551, a552, n553, c554, v555⟩ b_ w560 ⟨hi_, hB561, hS562⟩
    show Wp _ _ _ _ (upds b_ [(0, .pointer (some (⟨gp0, 0, none⟩ : Addr))), (4, .int .i64 (2 + r7)), (5, .slice a552 n553 c554), (6, .int .i64 v555)]) w560
    have hm := hr559 x551 v555 hi_
    refine w_seq fun K564 hK564 => ?_
    refine w_seq fun K565 hK565 => ?_
    refine w_region ?_
    refine wl_val (g_move (v := .int .i64 v555) rfl) rfl ?_
    refine wl_val (g_gtr (a := v555) (b := 0) rfl rfl) rfl ?_
    refine wl_nil ?_
    refine hK565 _ _ ?_
    refine w_condI (p := v555 > 0) (b := (decide (v555 > 0))) rfl decide_eq_true_iff (fun h566 => ?_) (fun h566 => ?_)
    · replace hm := hm.1 h566
      refine w_skip ?_
      refine hK564 _ _ ?_
      refine w_seq fun K567 hK567 => ?_
      refine w_block ?_
      refine w_seq fun K568 hK568 => ?_
      refine w_region ?_
      refine wl_val (g_move (v := .pointer (some (⟨gp0, 0, none⟩ : Addr))) rfl) rfl ?_
      refine wl_val (g_move (v := .int .i64 (2 + r7)) rfl) rfl ?_
      obtain ⟨hg569, hm⟩ := hm
      refine wl_val (g_sub (a := (2 + r7)) (b := 1) rfl rfl hg569) rfl ?_
      refine wl_step rfl (g_call (vs := #[.pointer (some (⟨gp0, 0, none⟩ : Addr)), .int .i64 ((2 + r7) - 1)]) CF72 (args2 rfl rfl) (m_spec_l01Below_fn hS562 (hp0.bel hB561) ((2 + r7) - 1) hm)) ?_
      rintro _ w570 ⟨r573, hm, rfl, hb571, hS572⟩
      have hB574 := hB561.trans hb571
      refine wl_val (g_move (v := .pointer (some (⟨gp0, 0, none⟩ : Addr))) rfl) rfl ?_
      refine wl_step rfl (g_call (vs := #[.pointer (some (⟨gp0, 0, none⟩ : Addr)), .int .i64 2]) CF73 (args2 rfl rfl) (m_spec_l01Once_fn hS572 (hp0.bel hB574) 2 hm)) ?_
      rintro _ w575 ⟨r578, hm, rfl, hb576, hS577⟩
      have hB579 := hB574.trans hb576
      refine wl_val (g_build (v := .agg #[.int .i64 r573, .bool r578]) (parts2 rfl rfl) (BD56_01 r573 r578)) rfl ?_
      refine wl_step rfl (q_alloc (cs := #[.int .i64 0, .bool false]) ZR56 rfl hS577) ?_
      rintro _ w580 ⟨g581, rfl, hS583, hE582⟩
      have hB585 := hB579.trans (Ext.stp hE582 hS577.base)
      refine wl_step rfl (q_storeB (i := 0) (bs' := #[.int .i64 r573, .bool r578]) (vs := [.int .i64 r573, .bool r578]) hS583 AG56.sz rfl rfl rfl (by simp [Value.oneCell']) (Nat.le_of_ble_eq_true rfl) rfl) ?_
      rintro _ w586 ⟨rfl, hS587, hb588⟩
      have hB589 := hB585.trans hb588
      refine wl_nil ?_
      refine hK568 _ _ ?_
      refine w_cut (σ := Int × Bool) (fun ⟨v685, v686⟩ => [(0, .pointer (some (⟨gp0, 0, none⟩ : Addr))), (4, .int .i64 (2 + r7)), (5, .slice a552 n553 c554), (6, .int .i64 v555), (7, .pointer (some (⟨g581, 0, none⟩ : Addr)))]) (fun ⟨v685, v686⟩ w' => m_spec_l08List_K0 x551 v555 (fun x551' v555' => I556 x551' v555' ∧ μ557 x551' v555' < μ557 x551 v555) v685 v686 ∧ Below B_ w w' ∧ Sep w' B_ (oCur 74 gp0 ap0 np0 cp0 :: oS 56 a552 n553 c554 (x551 : List Cross) :: oB g581 56 #[.int .i64 v685, .bool v686] :: L_)) ?_ ?_
      · refine w_seq fun K688 hK688 => ?_
        refine w_region ?_
        refine wl_val (g_move (v := .slice a552 n553 c554) rfl) rfl ?_
        refine wl_val (q_len SL24 rfl (Vw.len (oS.vw hS587.g2))) rfl ?_
        refine wl_val (g_gtr (a := (x551.length : Int)) (b := 0) rfl rfl) rfl ?_
        refine wl_val (g_move (v := .bool (decide ((x551.length : Int) > 0))) rfl) rfl ?_
        by_cases hc689 : (decide ((x551.length : Int) > 0)) = true
        · replace hm := hm.1 (decide_eq_true_iff.mp hc689)
          refine wl_valT (g_move (v := .pointer (some (⟨gp0, 0, none⟩ : Addr))) rfl) (gv_T (gv_some rfl rfl rfl) hc689) ?_
          have hS690 := hS587.f1
          refine wl_stepT (gv_T (gv_some rfl rfl rfl) hc689) (g_call (vs := #[.pointer (some (⟨gp0, 0, none⟩ : Addr)), .int .i64 3]) CF73 (args2 rfl rfl) (m_spec_l01Once_fn hS690 (hp0.bel hB589) 3 hm)) ?_
          rintro _ w691 ⟨r694, hm, rfl, hb692, hS693⟩
          have hB695 := hB589.trans hb692
          refine wl_val (g_pickT (b := (decide ((x551.length : Int) > 0))) rfl hc689 rfl) rfl ?_
          refine wl_nil ?_
          refine hK688 _ _ ?_
          refine w_condI (p := r694 = true) (b := r694) rfl Iff.rfl (fun h696 => ?_) (fun h696 => ?_)
          · replace hm := hm.1 h696
            refine w_draw (X := Ext) (Y := Ext) [0, 0, 0, 0, 0, 0, 0, 0, 0, 0, 0, 0, 0, 0, 0, 0, 1] MIX (by decide +kernel) rfl Ext.refl (fun _ _ _ => Ext.trans) (fun _ _ _ => Chg.trans) (fun _ _ h => Ext.chg h _) (fun w697 hE698 => ?_)
            have hB699 := hB695.trans (Ext.stp hE698 hS693.base)
            have hS700 := hS693.ext hE698
            refine ⟨.slice a552 n553 c554, fun w701 hX702 => od_plain rfl (by have hS703 := hS700.ext hX702; have hB704 := hB699.trans (Ext.stp hX702 hS700.base); exact is_ext (g_move (v := .slice a552 n553 c554) rfl)), ?_⟩
            refine ⟨.slice a552 n553 c554, fun w705 hX706 => od_plain rfl (by have hS707 := hS700.ext hX706; have hB708 := hB699.trans (Ext.stp hX706 hS700.base); exact is_ext (g_move (v := .slice a552 n553 c554) rfl)), ?_⟩
            refine ⟨.int .i64 (x551.length : Int), fun w709 hX710 => od_plain rfl (by have hS711 := hS700.ext hX710; have hB712 := hB699.trans (Ext.stp hX710 hS700.base); exact is_ext (q_len SL24 rfl (Vw.len (oS.vw hS711.g2)))), ?_⟩
            obtain ⟨hg717, hm⟩ := hm
            refine ⟨.int .i64 ((x551.length : Int) - 1), fun w713 hX714 => od_plain rfl (by have hS715 := hS700.ext hX714; have hB716 := hB699.trans (Ext.stp hX714 hS700.base); exact is_ext (g_sub (a := (x551.length : Int)) (b := 1) rfl rfl hg717)), ?_⟩
            obtain ⟨hg722, hm⟩ := hm
            refine ⟨.pointer (some ((adr a552).add ((Int.toNat ((x551.length : Int) - 1)) * El.m Cross))), fun w718 hX719 => od_plain rfl (by have hS720 := hS700.ext hX719; have hB721 := hB699.trans (Ext.stp hX719 hS700.base); exact is_ext (q_index (i := ((x551.length : Int) - 1)) SL24 rfl rfl (oS.vw hS720.g2) hg722)), ?_⟩
            refine ⟨.pointer (some (((adr a552).add ((Int.toNat ((x551.length : Int) - 1)) * El.m Cross)).add 0)), fun w723 hX724 => od_plain rfl (by have hS725 := hS700.ext hX724; have hB726 := hB699.trans (Ext.stp hX724 hS700.base); exact is_ext (g_fieldAddr (q := (adr a552).add ((Int.toNat ((x551.length : Int) - 1)) * El.m Cross)) FL56_0 ON3 rfl)), ?_⟩
            refine ⟨.int .i64 (x551[(Int.toNat ((x551.length : Int) - 1))]!.1), fun w727 hX728 => od_plain rfl (by have hS729 := hS700.ext hX728; have hB730 := hB699.trans (Ext.stp hX728 hS700.base); exact is_ext (q_loadF (i := ((x551.length : Int) - 1)) (j := 0) (v := .int .i64 (x551[(Int.toNat ((x551.length : Int) - 1))]!.1)) ON3 (oS.vw hS729.g2) hg722 rfl rfl)), ?_⟩
            refine ⟨.slice a552 n553 c554, fun w731 hX732 => od_plain rfl (by have hS733 := hS700.ext hX732; have hB734 := hB699.trans (Ext.stp hX732 hS700.base); exact is_ext (g_move (v := .slice a552 n553 c554) rfl)), ?_⟩
            refine ⟨.slice a552 n553 c554, fun w735 hX736 => od_plain rfl (by have hS737 := hS700.ext hX736; have hB738 := hB699.trans (Ext.stp hX736 hS700.base); exact is_ext (g_move (v := .slice a552 n553 c554) rfl)), ?_⟩
            refine ⟨.int .i64 (x551.length : Int), fun w739 hX740 => od_plain rfl (by have hS741 := hS700.ext hX740; have hB742 := hB699.trans (Ext.stp hX740 hS700.base); exact is_ext (q_len SL24 rfl (Vw.len (oS.vw hS741.g2)))), ?_⟩
            obtain ⟨hg747, hm⟩ := hm
            refine ⟨.int .i64 ((x551.length : Int) - 1), fun w743 hX744 => od_plain rfl (by have hS745 := hS700.ext hX744; have hB746 := hB699.trans (Ext.stp hX744 hS700.base); exact is_ext (g_sub (a := (x551.length : Int)) (b := 1) rfl rfl hg747)), ?_⟩
            obtain ⟨hg752, hm⟩ := hm
            refine ⟨.pointer (some ((adr a552).add ((Int.toNat ((x551.length : Int) - 1)) * El.m Cross))), fun w748 hX749 => od_plain rfl (by have hS750 := hS700.ext hX749; have hB751 := hB699.trans (Ext.stp hX749 hS700.base); exact is_ext (q_index (i := ((x551.length : Int) - 1)) SL24 rfl rfl (oS.vw hS750.g2) hg752)), ?_⟩
            refine ⟨.pointer (some (((adr a552).add ((Int.toNat ((x551.length : Int) - 1)) * El.m Cross)).add 1)), fun w753 hX754 => od_plain rfl (by have hS755 := hS700.ext hX754; have hB756 := hB699.trans (Ext.stp hX754 hS700.base); exact is_ext (g_fieldAddr (q := (adr a552).add ((Int.toNat ((x551.length : Int) - 1)) * El.m Cross)) FL56_1 ON4 rfl)), ?_⟩
            refine ⟨.bool (x551[(Int.toNat ((x551.length : Int) - 1))]!.2), fun w757 hX758 => od_plain rfl (by have hS759 := hS700.ext hX758; have hB760 := hB699.trans (Ext.stp hX758 hS700.base); exact is_ext (q_loadF (i := ((x551.length : Int) - 1)) (j := 1) (v := .bool (x551[(Int.toNat ((x551.length : Int) - 1))]!.2)) ON4 (oS.vw hS759.g2) hg752 rfl rfl)), ?_⟩
            refine ⟨.bool (!(x551[(Int.toNat ((x551.length : Int) - 1))]!.2)), fun w761 hX762 => od_plain rfl (by have hS763 := hS700.ext hX762; have hB764 := hB699.trans (Ext.stp hX762 hS700.base); exact is_ext (g_not (a := (x551[(Int.toNat ((x551.length : Int) - 1))]!.2)) rfl)), ?_⟩
            refine ⟨.agg #[.int .i64 (x551[(Int.toNat ((x551.length : Int) - 1))]!.1), .bool (!(x551[(Int.toNat ((x551.length : Int) - 1))]!.2))], fun w765 hX766 => od_plain rfl (by have hS767 := hS700.ext hX766; have hB768 := hB699.trans (Ext.stp hX766 hS700.base); exact is_ext (g_build (v := .agg #[.int .i64 (x551[(Int.toNat ((x551.length : Int) - 1))]!.1), .bool (!(x551[(Int.toNat ((x551.length : Int) - 1))]!.2))]) (parts2 rfl rfl) (BD56_01 (x551[(Int.toNat ((x551.length : Int) - 1))]!.1) (!(x551[(Int.toNat ((x551.length : Int) - 1))]!.2))))), ?_⟩
            intro w769 hX770
            have hB771 := hB699.trans (Ext.stp hX770 hS700.base)
            have hS772 := hS700.ext hX770
            have hS776 := hS772.f1
            refine ⟨_, od_plain rfl (q_storeB (i := 0) (bs' := #[.int .i64 (x551[(Int.toNat ((x551.length : Int) - 1))]!.1), .bool (!(x551[(Int.toNat ((x551.length : Int) - 1))]!.2))]) (vs := [.int .i64 (x551[(Int.toNat ((x551.length : Int) - 1))]!.1), .bool (!(x551[(Int.toNat ((x551.length : Int) - 1))]!.2))]) hS776 AG56.sz rfl rfl rfl (by simp [Value.oneCell']) (Nat.le_of_ble_eq_true rfl) rfl), ?_⟩
            rintro _ w773 ⟨rfl, hS774, hb775⟩
            have hB777 := hB771.trans hb775
            intro w778 hX779
            have hB780 := hB777.trans (Ext.stp hX779 hS774.base)
            have hS781 := hS774.ext hX779
            have hS782 := hS781.f2
            have hS783 := hS782.f2
            exact ⟨(x551[(Int.toNat ((x551.length : Int) - 1))]!.1, !(x551[(Int.toNat ((x551.length : Int) - 1))]!.2)), ⟨rfl, rfl, rfl, rfl, rfl, trivial⟩, ⟨hm, hB780, hS783⟩⟩
          · replace hm := hm.2 h696
            refine w_skip ?_
            have hS784 := hS693.f1
            have hS785 := hS784.f2
            have hS786 := hS785.f2
            exact ⟨(r573, r578), ⟨rfl, rfl, rfl, rfl, rfl, trivial⟩, ⟨hm, hB695, hS786⟩⟩
        · have hc689n := b_F hc689
          replace hm := hm.2 (i_neg decide_eq_true_iff hc689n)
          refine wl_skipF (gv_F (gv_some rfl rfl rfl) hc689n) ?_
          refine wl_skipF (gv_F (gv_some rfl rfl rfl) hc689n) ?_
          refine wl_val (g_pickF (b := (decide ((x551.length : Int) > 0))) rfl hc689n rfl) rfl ?_
          refine wl_nil ?_
          refine hK688 _ _ ?_
          refine w_cond (b := false) rfl (fun h => by cases h) (fun _ => ?_)
          refine w_skip ?_
          have hS788 := hS587.f2
          have hS789 := hS788.f2
          exact ⟨(r573, r578), ⟨rfl, rfl, rfl, rfl, rfl, trivial⟩, ⟨hm, hB589, hS789⟩⟩
      · rintro ⟨v685, v686⟩ b_ w790 ⟨hm, hB791, hS792⟩
        show Wp _ _ _ _ (upds b_ [(0, .pointer (some (⟨gp0, 0, none⟩ : Addr))), (4, .int .i64 (2 + r7)), (5, .slice a552 n553 c554), (6, .int .i64 v555), (7, .pointer (some (⟨g581, 0, none⟩ : Addr)))]) w790
        refine w_region ?_
        refine wl_val (g_move (v := .slice a552 n553 c554) rfl) rfl ?_
        refine wl_val (q_loadBS (bs := #[.int .i64 v685, .bool v686]) hS792.g2 AG56 rfl) rfl ?_
        refine wl_step rfl (q_lit1 (y := ((v685, v686) : Cross)) SL24 rfl rfl (by decide) hS792) ?_
        rintro _ w793 ⟨a794, rfl, hS796, hE795⟩
        have hB798 := hB791.trans (Ext.stp hE795 hS792.base)
        have hS804 := hS796.f2
        obtain ⟨hg805, hm⟩ := hm
        refine wl_step rfl (q_append SL24 rfl rfl hS804 (oS.vw hS804.g1) hg805 (by decide)) ?_
        rintro _ w799 ⟨a800, c801, rfl, hS803, hb802⟩
        have hB806 := hB798.trans hb802
        refine wl_val (g_assign (v := .slice a800 (n553 + 1) c801) rfl) rfl ?_
        refine wl_nil ?_
        refine hK567 _ _ ?_
        refine w_region ?_
        refine wl_val (g_move (v := .int .i64 v555) rfl) rfl ?_
        obtain ⟨hg807, hm⟩ := hm
        refine wl_val (g_sub (a := v555) (b := 1) rfl rfl hg807) rfl ?_
        refine wl_val (g_assign (v := .int .i64 (v555 - 1)) rfl) rfl ?_
        refine wl_nil ?_
        have hS808 := hS803.f1
        have hS809 := hS808.tail
        have hS810 := hS809.f2
        have hS811 := hS810.tail
        have hS812 := hS811.f1
        exact ⟨((x551 ++ ([(v685, v686)])), a800, (n553 + 1), c801, (v555 - 1)), hm.2, ⟨rfl, rfl, rfl, rfl, trivial⟩, ⟨hm.1, hB806, hS812⟩⟩
    · replace hm := hm.2 h566
      refine w_exit ?_
      exact ⟨(x551, a552, n553, c554), ⟨rfl, rfl, trivial⟩, ⟨hm, hB561, hS562⟩⟩
  · rintro ⟨x539, a540, n541, c542⟩ b_ w813 ⟨hm, hB814, hS815⟩
    show Wp _ _ _ _ (upds b_ [(4, .int .i64 (2 + r7)), (5, .slice a540 n541 c542)]) w813
    refine w_seq fun K816 hK816 => ?_
    refine w_region ?_
    refine wl_val (g_move (v := .int .i64 (2 + r7)) rfl) rfl ?_
    refine wl_val (g_move (v := .slice a540 n541 c542) rfl) rfl ?_
    refine wl_val (g_assign (v := .int .i64 (2 + r7)) rfl) rfl ?_
    refine wl_val (g_assign (v := .slice a540 n541 c542) rfl) rfl ?_
    refine wl_nil ?_
    refine hK816 _ _ ?_
    refine w_ret ?_
    have hS817 := hS815.f1
    repeat first | with_reducible refine q_then ?_ | with_reducible refine q_block ?_
    exact ret2 rfl (by decide) (by decide) ⟨_, _, _, _, _, hm, rfl, hB814, hS817⟩

theorem m_spec_DrawCrosses_fn {w : World} {a0 : Option Addr} {n0 c0 : Nat} {p0 : List Byte} {Q : Int → (List Cross) → Prop} (hp0 : Vw w.heap.size w a0 n0 c0 p0) (hm : m_spec_DrawCrosses p0 Q) :
    Fn Try.prog 24 #[.slice a0 n0 c0] w (fun v w' => ∃ (r0 : Int) (r1 : List Cross) (a1 : Option Addr) (n1 c1 : Nat), Q r0 r1 ∧ v = .tuple #[.int .i64 r0, .slice a1 n1 c1] ∧ Ext w w' ∧ Sep w' w.heap.size [oS 56 a1 n1 c1 r1]) := by
  unfold m_spec_DrawCrosses at hm
  have hB0 := Below.refl w.heap.size w
  have hS0 : Sep w w.heap.size [] := Sep.nil (Nat.le_refl _)
  refine fn_of_wp Try.func24 rfl (by kernel_rfl) (Nat.le_of_ble_eq_true rfl) ?_
  refine w_seq fun K1 hK1 => ?_
  refine w_region ?_
  refine wl_val (g_assign (v := .int .i64 0) rfl) rfl ?_
  refine wl_val (g_assign (v := .slice none 0 0) rfl) rfl ?_
  refine wl_nil ?_
  refine hK1 _ _ ?_
  refine w_seq fun K2 hK2 => ?_
  refine w_region ?_
  refine wl_val (g_move (v := .slice a0 n0 c0) rfl) rfl ?_
  refine wl_step rfl (g_call (vs := #[.slice a0 n0 c0]) CF56 (args1 rfl) (m_spec_l01New_fn ((hp0.bel hB0).up hS0) hm)) ?_
  rintro _ w3 ⟨g6, hm, rfl, hE4, hN5⟩
  have hS8 := hS0.call1 hE4 hN5
  have hB9 := hB0.trans (Ext.stp hE4 hS0.base)
  refine wl_step rfl (g_call (vs := #[.pointer (some (⟨g6, 0, none⟩ : Addr))]) CF55 (args1 rfl) (m_spec_l08List_fn hS8 (hp0.bel hB9) hm)) ?_
  rintro _ w10 ⟨r13, r14, a15, n16, c17, hm, rfl, hb11, hS12⟩
  have hB19 := hB9.trans hb11
  refine wl_val (g_move (v := .tuple #[.int .i64 r13, .slice a15 n16 c17]) rfl) rfl ?_
  refine wl_val (g_extract (vs := #[.int .i64 r13, .slice a15 n16 c17]) rfl rfl) rfl ?_
  refine wl_val (g_extract (vs := #[.int .i64 r13, .slice a15 n16 c17]) rfl rfl) rfl ?_
  refine wl_val (g_assign (v := .int .i64 r13) rfl) rfl ?_
  refine wl_val (g_assign (v := .slice a15 n16 c17) rfl) rfl ?_
  refine wl_nil ?_
  refine hK2 _ _ ?_
  refine w_seq fun K20 hK20 => ?_
  refine w_region ?_
  refine wl_val (g_move (v := .int .i64 r13) rfl) rfl ?_
  refine wl_val (g_move (v := .slice a15 n16 c17) rfl) rfl ?_
  refine wl_val (g_assign (v := .int .i64 r13) rfl) rfl ?_
  refine wl_val (g_assign (v := .slice a15 n16 c17) rfl) rfl ?_
  refine wl_nil ?_
  refine hK20 _ _ ?_
  refine w_ret ?_
  have hS21 := hS12.f1
  have hS22 := hS21.tail
  repeat first | with_reducible refine q_then ?_ | with_reducible refine q_block ?_
  exact ret2 rfl (by decide) (by decide) ⟨_, _, _, _, _, hm, rfl, toExt hB19, hS22⟩

theorem m_impl_within_fn {w : World}  {Q : Bool → Prop} (p0 : Int) (p1 : Int) (p2 : Int) (hm : m_impl_within p0 p1 p2 Q) :
    Fn Try.prog 54 #[.int .i64 p0, .int .i64 p1, .int .i64 p2] w (fun v w' => ∃ (r0 : Bool), Q r0 ∧ v = .bool r0 ∧ Ext w w') := by
  unfold m_impl_within at hm
  have hB0 := Below.refl w.heap.size w
  have hS0 : Sep w w.heap.size [] := Sep.nil (Nat.le_refl _)
  refine fn_of_wp Try.func54 rfl (by kernel_rfl) (Nat.le_of_ble_eq_true rfl) ?_
  refine w_seq fun K1 hK1 => ?_
  refine w_region ?_
  refine wl_val (g_assign (v := .bool false) rfl) rfl ?_
  refine wl_nil ?_
  refine hK1 _ _ ?_
  refine w_seq fun K2 hK2 => ?_
  refine w_region ?_
  refine wl_val (g_move (v := .int .i64 p0) rfl) rfl ?_
  refine wl_val (g_move (v := .int .i64 p1) rfl) rfl ?_
  refine wl_val (g_geq (a := p0) (b := p1) rfl rfl) rfl ?_
  refine wl_val (g_move (v := .bool (decide (p0 ≥ p1))) rfl) rfl ?_
  refine wl_guard (c := (decide (p0 ≥ p1)) = true) (val := .int .i64 p0) (b := ((decide (p0 ≥ p1)) == true)) (gv_some rfl rfl rfl) beq_iff_eq (fun hc3 => ?_) ?_
  · have hcq0 : p0 ≥ p1 := (decide_eq_true_iff.mp hc3)
    exact g_move (v := .int .i64 p0) rfl
  refine wl_guard (c := (decide (p0 ≥ p1)) = true) (val := .int .i64 p2) (b := ((decide (p0 ≥ p1)) == true)) (gv_some rfl rfl rfl) beq_iff_eq (fun hc4 => ?_) ?_
  · have hcq0 : p0 ≥ p1 := (decide_eq_true_iff.mp hc4)
    exact g_move (v := .int .i64 p2) rfl
  refine wl_guard (c := (decide (p0 ≥ p1)) = true) (val := .bool (decide (p0 ≤ p2))) (b := ((decide (p0 ≥ p1)) == true)) (gv_some rfl rfl rfl) beq_iff_eq (fun hc5 => ?_) ?_
  · have hcq0 : p0 ≥ p1 := (decide_eq_true_iff.mp hc5)
    exact g_leq (a := p0) (b := p2) (if_pos hc5) (if_pos hc5)
  refine wl_val (g_pick_and (b := (decide (p0 ≥ p1))) (q := (decide (p0 ≤ p2))) rfl rfl) rfl ?_
  refine wl_val (g_assign (v := .bool ((decide (p0 ≥ p1)) && (decide (p0 ≤ p2)))) rfl) rfl ?_
  refine wl_nil ?_
  refine hK2 _ _ ?_
  refine w_ret ?_
  repeat first | with_reducible refine q_then ?_ | with_reducible refine q_block ?_
  exact ret1 rfl (by decide) ⟨_, hm, rfl, toExt hB0⟩

theorem m_impl_CrossesOk_fn {w : World} {a1 : Option Addr} {n1 c1 : Nat} {p1 : List Cross} {Q : Bool → Prop} (p0 : Int) (hp1 : Vw w.heap.size w a1 n1 c1 p1) (hm : m_impl_CrossesOk p0 p1 Q) :
    Fn Try.prog 57 #[.int .i64 p0, .slice a1 n1 c1] w (fun v w' => ∃ (r0 : Bool), Q r0 ∧ v = .bool r0 ∧ Ext w w') := by
  unfold m_impl_CrossesOk at hm
  have hB0 := Below.refl w.heap.size w
  have hS0 : Sep w w.heap.size [] := Sep.nil (Nat.le_refl _)
  refine fn_of_wp Try.func57 rfl (by kernel_rfl) (Nat.le_of_ble_eq_true rfl) ?_
  refine w_seq fun K1 hK1 => ?_
  refine w_region ?_
  refine wl_val (g_assign (v := .bool false) rfl) rfl ?_
  refine wl_nil ?_
  refine hK1 _ _ ?_
  refine w_seq fun K2 hK2 => ?_
  refine w_seq fun K3 hK3 => ?_
  refine w_region ?_
  refine wl_val (g_move (v := .int .i64 p0) rfl) rfl ?_
  refine wl_step rfl (g_call (vs := #[.int .i64 p0, .int .i64 1, .int .i64 7]) CF54 (args3 rfl rfl rfl) (m_impl_within_fn p0 1 7 hm)) ?_
  rintro _ w4 ⟨r7, hm, rfl, hE5⟩
  have hB8 := hB0.trans (Ext.stp hE5 hS0.base)
  have hS9 := hS0.ext hE5
  refine wl_val (g_not (a := r7) rfl) rfl ?_
  refine wl_val (g_move (v := .bool (!r7)) rfl) rfl ?_
  refine wl_guard (c := (!r7) = false) (val := .slice a1 n1 c1) (b := ((!r7) == false)) (gv_some rfl rfl rfl) beq_iff_eq (fun hc10 => ?_) ?_
  · have hcq0 : ¬ (¬ (r7 = true)) := (i_neg (i_not Iff.rfl) hc10)
    exact g_move (v := .slice a1 n1 c1) rfl
  refine wl_guard (c := (!r7) = false) (val := .int .i64 (p1.length : Int)) (b := ((!r7) == false)) (gv_some rfl rfl rfl) beq_iff_eq (fun hc11 => ?_) ?_
  · have hcq0 : ¬ (¬ (r7 = true)) := (i_neg (i_not Iff.rfl) hc11)
    exact q_len SL24 (if_pos hc11) (Vw.len (hp1.bel hB8))
  refine wl_guard (c := (!r7) = false) (val := .bool (decide ((p1.length : Int) > 40))) (b := ((!r7) == false)) (gv_some rfl rfl rfl) beq_iff_eq (fun hc12 => ?_) ?_
  · have hcq0 : ¬ (¬ (r7 = true)) := (i_neg (i_not Iff.rfl) hc12)
    exact g_gtr (a := (p1.length : Int)) (b := 40) (if_pos hc12) rfl
  refine wl_val (g_pick_or (b := (!r7)) (q := (decide ((p1.length : Int) > 40))) rfl rfl) rfl ?_
  refine wl_nil ?_
  refine hK3 _ _ ?_
  refine w_condI (p := ((¬ (r7 = true)) ∨ ((p1.length : Int) > 40))) (b := ((!r7) || (decide ((p1.length : Int) > 40)))) rfl (i_or (i_not Iff.rfl) decide_eq_true_iff) (fun h13 => ?_) (fun h13 => ?_)
  · replace hm := hm.1 h13
    refine w_seq fun K14 hK14 => ?_
    refine w_region ?_
    refine wl_val (g_assign (v := .bool false) rfl) rfl ?_
    refine wl_nil ?_
    refine hK14 _ _ ?_
    refine w_ret ?_
    repeat first | with_reducible refine q_then ?_ | with_reducible refine q_block ?_
    exact ret1 rfl (by decide) ⟨_, hm, rfl, toExt hB8⟩
  · replace hm := hm.2 h13
    refine w_skip ?_
    refine hK2 _ _ ?_
    refine w_cut (σ := Unit) (fun _ => []) (fun _ w' => m_impl_CrossesOk_K0 Q ∧ Below w.heap.size w w' ∧ Sep w' w.heap.size []) ?_ ?_
    · refine w_seq fun K16 hK16 => ?_
      refine w_region ?_
      refine wl_val (g_move (v := .slice a1 n1 c1) rfl) rfl ?_
      refine wl_val (q_len SL24 rfl (Vw.len (hp1.bel hB8))) rfl ?_
      refine wl_val (g_move (v := .int .i64 0) rfl) rfl ?_
      refine wl_nil ?_
      refine hK16 _ _ ?_
      refine w_block ?_
      obtain ⟨I53, μ54, h055, hr56⟩ := hm
      refine w_for (σ := Int) (fun v52 => [(0, .int .i64 p0), (15, .slice a1 n1 c1), (16, .int .i64 (p1.length : Int)), (17, .int .i64 v52)]) (fun v52 w' => I53 v52 ∧ Below w.heap.size w w' ∧ Sep w' w.heap.size []) (fun v52 => μ54 v52) (0) ⟨rfl, rfl, rfl, rfl, trivial⟩ ⟨h055, hB8, hS9⟩ ?_
      rintro v52 b_ w57 ⟨hi_, hB58, hS59⟩
      show Wp _ _ _ _ (upds b_ [(0, .int .i64 p0), (15, .slice a1 n1 c1), (16, .int .i64 (p1.length : Int)), (17, .int .i64 v52)]) w57
      have hm := hr56 v52 hi_
      refine w_seq fun K61 hK61 => ?_
      refine w_region ?_
      refine wl_val (g_lss (a := v52) (b := (p1.length : Int)) rfl rfl) rfl ?_
      refine wl_nil ?_
      refine hK61 _ _ ?_
      refine w_seq fun K62 hK62 => ?_
      refine w_condI (p := v52 < (p1.length : Int)) (b := (decide (v52 < (p1.length : Int)))) rfl decide_eq_true_iff (fun h63 => ?_) (fun h63 => ?_)
      · replace hm := hm.1 h63
        refine w_skip ?_
        refine hK62 _ _ ?_
        refine w_seq fun K64 hK64 => ?_
        refine w_block ?_
        refine w_seq fun K65 hK65 => ?_
        refine w_region ?_
        obtain ⟨hg66, hm⟩ := hm
        refine wl_val (q_index (i := v52) SL24 rfl rfl (hp1.bel hB58) hg66) rfl ?_
        refine wl_val (q_loadS (i := v52) (cs := [.int .i64 (p1[(Int.toNat v52)]!.1), .bool (p1[(Int.toNat v52)]!.2)]) AG56 (hp1.bel hB58) hg66 rfl rfl) rfl ?_
        refine wl_step rfl (q_alloc (cs := #[.int .i64 0, .bool false]) ZR56 rfl hS59) ?_
        rintro _ w67 ⟨g68, rfl, hS70, hE69⟩
        have hB72 := hB58.trans (Ext.stp hE69 hS59.base)
        refine wl_step rfl (q_storeB (i := 0) (bs' := #[.int .i64 (p1[(Int.toNat v52)]!.1), .bool (p1[(Int.toNat v52)]!.2)]) (vs := [.int .i64 (p1[(Int.toNat v52)]!.1), .bool (p1[(Int.toNat v52)]!.2)]) hS70 AG56.sz rfl rfl rfl (by simp [Value.oneCell']) (Nat.le_of_ble_eq_true rfl) rfl) ?_
        rintro _ w73 ⟨rfl, hS74, hb75⟩
        have hB76 := hB72.trans hb75
        refine wl_nil ?_
        refine hK65 _ _ ?_
        refine w_seq fun K77 hK77 => ?_
        refine w_region ?_
        refine wl_val (g_fieldAddr (q := (⟨g68, 0, none⟩ : Addr)) FL56_0 ON3 rfl) rfl ?_
        refine wl_val (q_loadB (i := 0) (bs := #[.int .i64 (p1[(Int.toNat v52)]!.1), .bool (p1[(Int.toNat v52)]!.2)]) hS74.g0 ON3 rfl rfl) rfl ?_
        refine wl_val (g_move (v := .int .i64 p0) rfl) rfl ?_
        obtain ⟨hg78, hm⟩ := hm
        refine wl_val (g_sub (a := p0) (b := 2) rfl rfl hg78) rfl ?_
        refine wl_step rfl (g_call (vs := #[.int .i64 (p1[(Int.toNat v52)]!.1), .int .i64 0, .int .i64 (p0 - 2)]) CF54 (args3 rfl rfl rfl) (m_impl_within_fn (p1[(Int.toNat v52)]!.1) 0 (p0 - 2) hm)) ?_
        rintro _ w79 ⟨r82, hm, rfl, hE80⟩
        have hB83 := hB76.trans (Ext.stp hE80 hS74.base)
        have hS84 := hS74.ext hE80
        refine wl_val (g_not (a := r82) rfl) rfl ?_
        refine wl_nil ?_
        refine hK77 _ _ ?_
        refine w_condI (p := ¬ (r82 = true)) (b := (!r82)) rfl (i_not Iff.rfl) (fun h85 => ?_) (fun h85 => ?_)
        · replace hm := hm.1 h85
          refine w_seq fun K86 hK86 => ?_
          refine w_region ?_
          refine wl_val (g_assign (v := .bool false) rfl) rfl ?_
          refine wl_nil ?_
          refine hK86 _ _ ?_
          refine w_ret ?_
          repeat first | with_reducible refine q_then ?_ | with_reducible refine q_block ?_
          exact ret1 rfl (by decide) ⟨_, hm, rfl, toExt hB83⟩
        · replace hm := hm.2 h85
          refine w_skip ?_
          refine hK64 _ _ ?_
          refine w_region ?_
          obtain ⟨hg87, hm⟩ := hm
          refine wl_val (g_add (a := v52) (b := 1) rfl rfl hg87) rfl ?_
          refine wl_val (g_move (v := .int .i64 (v52 + 1)) rfl) rfl ?_
          refine wl_nil ?_
          have hS88 := hS84.tail
          exact ⟨((v52 + 1)), hm.2, ⟨rfl, rfl, rfl, rfl, trivial⟩, ⟨hm.1, hB83, hS88⟩⟩
      · replace hm := hm.2 h63
        refine w_exit ?_
        exact ⟨(), trivial, ⟨hm, hB58, hS59⟩⟩
    · rintro _ b_ w89 ⟨hm, hB90, hS91⟩
      show Wp _ _ _ _ (upds b_ []) w89
      refine w_seq fun K92 hK92 => ?_
      refine w_region ?_
      refine wl_val (g_assign (v := .bool true) rfl) rfl ?_
      refine wl_nil ?_
      refine hK92 _ _ ?_
      refine w_ret ?_
      repeat first | with_reducible refine q_then ?_ | with_reducible refine q_block ?_
      exact ret1 rfl (by decide) ⟨_, hm, rfl, toExt hB90⟩

theorem m_impl_twists_1_fn {w : World} {B_ : Nat} {L_ : List Ob} {gq0 : Nat} {aq0 : Option Addr} {nq0 cq0 : Nat} {q0 : List (List Int)} {yq0 : List (Hd Int)} {Q : (List (List Int)) → Prop} (hS0 : Sep w B_ (oB gq0 37 #[.slice aq0 nq0 cq0] :: oS 39 aq0 nq0 cq0 (yq0 : List (Hd Int)) :: oT 3 (yq0 : List (Hd Int)) :: L_)) (p0 : Cross) (p1 : Int) (p2 : Int) (heq0 : ers yq0 = q0) (hm : m_impl_twists_1 p0 p1 p2 q0 Q) :
    Fn Try.prog 75 #[.agg #[.int .i64 p0.1, .bool p0.2], .int .i64 p1, .int .i64 p2, .pointer (some (⟨gq0, 0, none⟩ : Addr))] w (fun v w' => ∃ (x0 : List (List Int)) (aa0 : Option Addr) (nn0 cc0 : Nat) (yy0 : List (Hd Int)), Q x0 ∧ ers yy0 = x0 ∧ v = .tuple #[] ∧ Below B_ w w' ∧ Sep w' B_ (oB gq0 37 #[.slice aa0 nn0 cc0] :: oS 39 aa0 nn0 cc0 yy0 :: oT 3 yy0 :: L_)) := by
  unfold m_impl_twists_1 at hm
  have hB0 := Below.refl B_ w
  refine fn_of_wp Try.func75 rfl (by kernel_rfl) (Nat.le_of_ble_eq_true rfl) ?_
  refine w_seq fun K5 hK5 => ?_
  refine w_region ?_
  refine wl_step rfl (q_box (cs := #[.int .i64 p0.1, .bool p0.2]) rfl rfl hS0) ?_
  rintro _ w6 ⟨g7, rfl, hS9, hE8⟩
  have hB11 := hB0.trans (Ext.stp hE8 hS0.base)
  refine wl_nil ?_
  refine hK5 _ _ ?_
  refine w_seq fun K12 hK12 => ?_
  refine w_region ?_
  refine wl_val (g_assign (v := .int .i64 (-1)) rfl) rfl ?_
  refine wl_nil ?_
  refine hK12 _ _ ?_
  refine w_cut (σ := Int) (fun v16 => [(1, .int .i64 p1), (2, .int .i64 p2), (3, .pointer (some (⟨gq0, 0, none⟩ : Addr))), (7, .int .i64 v16)]) (fun v16 w' => m_impl_twists_1_K0 p1 p2 q0 Q v16 ∧ Below B_ w w' ∧ Sep w' B_ (oB gq0 37 #[.slice aq0 nq0 cq0] :: oS 39 aq0 nq0 cq0 (yq0 : List (Hd Int)) :: oT 3 (yq0 : List (Hd Int)) :: L_)) ?_ ?_
  · refine w_seq fun K18 hK18 => ?_
    refine w_region ?_
    refine wl_val (g_fieldAddr (q := (⟨g7, 0, none⟩ : Addr)) FL56_1 ON4 rfl) rfl ?_
    refine wl_val (q_loadB (i := 1) (bs := #[.int .i64 p0.1, .bool p0.2]) hS9.g0 ON4 rfl rfl) rfl ?_
    refine wl_nil ?_
    refine hK18 _ _ ?_
    refine w_condI (p := p0.2 = true) (b := p0.2) rfl Iff.rfl (fun h19 => ?_) (fun h19 => ?_)
    · replace hm := hm.1 h19
      refine w_region ?_
      refine wl_val (g_assign (v := .int .i64 1) rfl) rfl ?_
      refine wl_nil ?_
      have hS20 := hS9.tail
      exact ⟨(1), ⟨rfl, rfl, rfl, rfl, trivial⟩, ⟨hm, hB11, hS20⟩⟩
    · replace hm := hm.2 h19
      refine w_skip ?_
      have hS21 := hS9.tail
      exact ⟨((-1)), ⟨rfl, rfl, rfl, rfl, trivial⟩, ⟨hm, hB11, hS21⟩⟩
  · rintro v16 b_ w22 ⟨hm, hB23, hS24⟩
    show Wp _ _ _ _ (upds b_ [(1, .int .i64 p1), (2, .int .i64 p2), (3, .pointer (some (⟨gq0, 0, none⟩ : Addr))), (7, .int .i64 v16)]) w22
    refine w_seq fun K25 hK25 => ?_
    refine w_region ?_
    refine wl_val (q_loadB (i := 0) (bs := #[.slice aq0 nq0 cq0]) hS24.g0 ON37 rfl rfl) rfl ?_
    refine wl_val (g_move (v := .int .i64 p1) rfl) rfl ?_
    obtain ⟨hg26, hm⟩ := hm
    refine wl_val (q_index (i := p1) SL37 rfl rfl (Tv.o (oT.vw hS24.g1 hS24.g2 heq0)) (Tv.g (oT.vw hS24.g1 hS24.g2 heq0) hg26)) rfl ?_
    refine wl_val (q_load (i := p1) (v := .slice ((yq0[(Int.toNat p1)]!).1) ((yq0[(Int.toNat p1)]!).2.2.length) ((yq0[(Int.toNat p1)]!).2.1)) ON39 (Tv.o (oT.vw hS24.g1 hS24.g2 heq0)) (Tv.g (oT.vw hS24.g1 hS24.g2 heq0) hg26) rfl rfl) rfl ?_
    refine wl_val (g_move (v := .int .i64 p2) rfl) rfl ?_
    obtain ⟨hg27, hm⟩ := hm
    refine wl_val (q_index (i := p2) SL39 rfl rfl (Tv.row (oT.vw hS24.g1 hS24.g2 heq0) hg26) hg27) rfl ?_
    refine wl_val (q_load (i := p2) (v := .int .i64 ((q0[(Int.toNat p1)]!)[(Int.toNat p2)]!)) ON3 (Tv.row (oT.vw hS24.g1 hS24.g2 heq0) hg26) hg27 rfl rfl) rfl ?_
    refine wl_val (g_move (v := .int .i64 v16) rfl) rfl ?_
    obtain ⟨hg28, hm⟩ := hm
    refine wl_val (g_add (a := (q0[(Int.toNat p1)]!)[(Int.toNat p2)]!) (b := v16) rfl rfl hg28) rfl ?_
    obtain ⟨hg29, hm⟩ := hm
    refine wl_val (q_index (i := p2) SL39 rfl rfl (Tv.row (oT.vw hS24.g1 hS24.g2 heq0) hg26) hg29) rfl ?_
    have hS33 := hS24.f2
    have hS34 := hS33.f2
    refine wl_step rfl (q_row (i := p1) (k := p2) (v := (((q0[(Int.toNat p1)]!)[(Int.toNat p2)]! + v16) : Int)) hS34 heq0 hg26 hg29 ON3.sz rfl rfl rfl) ?_
    rintro _ w30 ⟨rfl, y35, he36, hS31, hb32⟩
    have hB37 := hB23.trans hb32
    refine wl_nil ?_
    refine hK25 _ _ ?_
    refine w_region ?_
    refine wl_val (q_loadB (i := 0) (bs := #[.slice aq0 nq0 cq0]) hS31.g2 ON37 rfl rfl) rfl ?_
    refine wl_val (g_move (v := .int .i64 p2) rfl) rfl ?_
    obtain ⟨hg38, hm⟩ := hm
    refine wl_val (q_index (i := p2) SL37 rfl rfl (Tv.o (oT.vw hS31.g0 hS31.g1 he36)) (Tv.g (oT.vw hS31.g0 hS31.g1 he36) hg38)) rfl ?_
    refine wl_val (q_load (i := p2) (v := .slice ((y35[(Int.toNat p2)]!).1) ((y35[(Int.toNat p2)]!).2.2.length) ((y35[(Int.toNat p2)]!).2.1)) ON39 (Tv.o (oT.vw hS31.g0 hS31.g1 he36)) (Tv.g (oT.vw hS31.g0 hS31.g1 he36) hg38) rfl rfl) rfl ?_
    refine wl_val (g_move (v := .int .i64 p1) rfl) rfl ?_
    obtain ⟨hg39, hm⟩ := hm
    refine wl_val (q_index (i := p1) SL39 rfl rfl (Tv.row (oT.vw hS31.g0 hS31.g1 he36) hg38) hg39) rfl ?_
    refine wl_val (q_load (i := p1) (v := .int .i64 (((q0.set (Int.toNat p1) (q0[(Int.toNat p1)]!.set (Int.toNat p2) ((q0[(Int.toNat p1)]!)[(Int.toNat p2)]! + v16)))[(Int.toNat p2)]!)[(Int.toNat p1)]!)) ON3 (Tv.row (oT.vw hS31.g0 hS31.g1 he36) hg38) hg39 rfl rfl) rfl ?_
    refine wl_val (g_move (v := .int .i64 v16) rfl) rfl ?_
    obtain ⟨hg40, hm⟩ := hm
    refine wl_val (g_add (a := ((q0.set (Int.toNat p1) (q0[(Int.toNat p1)]!.set (Int.toNat p2) ((q0[(Int.toNat p1)]!)[(Int.toNat p2)]! + v16)))[(Int.toNat p2)]!)[(Int.toNat p1)]!) (b := v16) rfl rfl hg40) rfl ?_
    obtain ⟨hg41, hm⟩ := hm
    refine wl_val (q_index (i := p1) SL39 rfl rfl (Tv.row (oT.vw hS31.g0 hS31.g1 he36) hg38) hg41) rfl ?_
    have hS45 := hS31.f1
    have hS46 := hS45.f1
    refine wl_step rfl (q_row (i := p2) (k := p1) (v := ((((q0.set (Int.toNat p1) (q0[(Int.toNat p1)]!.set (Int.toNat p2) ((q0[(Int.toNat p1)]!)[(Int.toNat p2)]! + v16)))[(Int.toNat p2)]!)[(Int.toNat p1)]! + v16) : Int)) hS46 he36 hg38 hg41 ON3.sz rfl rfl rfl) ?_
    rintro _ w42 ⟨rfl, y47, he48, hS43, hb44⟩
    have hB49 := hB37.trans hb44
    refine wl_nil ?_
    have hS50 := hS43.f1
    have hS51 := hS50.f1
    have hS52 := hS51.f2
    repeat first | with_reducible refine q_then ?_ | with_reducible refine q_block ?_
    exact ret0n rfl ⟨_, _, _, _, _, hm, he48, rfl, hB49, hS52⟩

theorem m_impl_upTo_fn {w : World}  {Q : (List Int) → Prop} (p0 : Int) (hm : m_impl_upTo p0 Q) :
    Fn Try.prog 77 #[.int .i64 p0] w (fun v w' => ∃ (r0 : List Int) (a0 : Option Addr) (n0 c0 : Nat), Q r0 ∧ v = .slice a0 n0 c0 ∧ Ext w w' ∧ Sep w' w.heap.size [oS 3 a0 n0 c0 r0]) := by
  unfold m_impl_upTo at hm
  have hB0 := Below.refl w.heap.size w
  have hS0 : Sep w w.heap.size [] := Sep.nil (Nat.le_refl _)
  refine fn_of_wp Try.func77 rfl (by kernel_rfl) (Nat.le_of_ble_eq_true rfl) ?_
  refine w_seq fun K1 hK1 => ?_
  refine w_region ?_
  refine wl_val (g_assign (v := .slice none 0 0) rfl) rfl ?_
  refine wl_nil ?_
  refine hK1 _ _ ?_
  refine w_seq fun K2 hK2 => ?_
  refine w_region ?_
  refine wl_step rfl (q_lit0 (α := Int) rfl SL39 hS0) ?_
  rintro _ w3 ⟨a4, rfl, hS6, hE5⟩
  have hB8 := hB0.trans (Ext.stp hE5 hS0.base)
  refine wl_val (g_assign (v := .slice a4 0 0) rfl) rfl ?_
  refine wl_nil ?_
  refine hK2 _ _ ?_
  refine w_cut (σ := List Int × Option Addr × Nat × Nat) (fun ⟨x74, a75, n76, c77⟩ => [(3, .slice a75 n76 c77)]) (fun ⟨x74, a75, n76, c77⟩ w' => m_impl_upTo_K0 Q x74 ∧ Below w.heap.size w w' ∧ Sep w' w.heap.size [oS 3 a75 n76 c77 (x74 : List Int)]) ?_ ?_
  · refine w_seq fun K79 hK79 => ?_
    refine w_region ?_
    refine wl_val (g_move (v := .int .i64 p0) rfl) rfl ?_
    refine wl_val (g_move (v := .int .i64 0) rfl) rfl ?_
    refine wl_nil ?_
    refine hK79 _ _ ?_
    refine w_block ?_
    obtain ⟨I85, μ86, h087, hr88⟩ := hm
    refine w_for (σ := List Int × Option Addr × Nat × Nat × Int) (fun ⟨x80, a81, n82, c83, v84⟩ => [(3, .slice a81 n82 c83), (6, .int .i64 p0), (7, .int .i64 v84)]) (fun ⟨x80, a81, n82, c83, v84⟩ w' => I85 x80 v84 ∧ Below w.heap.size w w' ∧ Sep w' w.heap.size [oS 3 a81 n82 c83 (x80 : List Int)]) (fun ⟨x80, a81, n82, c83, v84⟩ => μ86 x80 v84) ([], a4, 0, 0, 0) ⟨rfl, rfl, rfl, trivial⟩ ⟨h087, hB8, hS6⟩ ?_
    rintro ⟨x80, a81, n82, c83, v84⟩ b_ w89 ⟨hi_, hB90, hS91⟩
    show Wp _ _ _ _ (upds b_ [(3, .slice a81 n82 c83), (6, .int .i64 p0), (7, .int .i64 v84)]) w89
    have hm := hr88 x80 v84 hi_
    refine w_seq fun K93 hK93 => ?_
    refine w_region ?_
    refine wl_val (g_lss (a := v84) (b := p0) rfl rfl) rfl ?_
    refine wl_nil ?_
    refine hK93 _ _ ?_
    refine w_seq fun K94 hK94 => ?_
    refine w_condI (p := v84 < p0) (b := (decide (v84 < p0))) rfl decide_eq_true_iff (fun h95 => ?_) (fun h95 => ?_)
    · replace hm := hm.1 h95
      refine w_skip ?_
      refine hK94 _ _ ?_
      refine w_seq fun K96 hK96 => ?_
      refine w_block ?_
      refine w_seq fun K97 hK97 => ?_
      refine w_region ?_
      refine wl_val (g_move (v := .int .i64 v84) rfl) rfl ?_
      refine wl_val (g_assign (v := .int .i64 v84) rfl) rfl ?_
      refine wl_nil ?_
      refine hK97 _ _ ?_
      refine w_region ?_
      refine wl_val (g_move (v := .slice a81 n82 c83) rfl) rfl ?_
      refine wl_val (g_move (v := .int .i64 v84) rfl) rfl ?_
      refine wl_step rfl (q_lit1 (y := (v84 : Int)) SL39 rfl rfl (by decide) hS91) ?_
      rintro _ w98 ⟨a99, rfl, hS101, hE100⟩
      have hB103 := hB90.trans (Ext.stp hE100 hS91.base)
      have hS109 := hS101.f1
      obtain ⟨hg110, hm⟩ := hm
      refine wl_step rfl (q_append SL39 rfl rfl hS109 (oS.vw hS109.g1) hg110 (by decide)) ?_
      rintro _ w104 ⟨a105, c106, rfl, hS108, hb107⟩
      have hB111 := hB103.trans hb107
      refine wl_val (g_assign (v := .slice a105 (n82 + 1) c106) rfl) rfl ?_
      refine wl_nil ?_
      refine hK96 _ _ ?_
      refine w_region ?_
      obtain ⟨hg112, hm⟩ := hm
      refine wl_val (g_add (a := v84) (b := 1) rfl rfl hg112) rfl ?_
      refine wl_val (g_move (v := .int .i64 (v84 + 1)) rfl) rfl ?_
      refine wl_nil ?_
      have hS113 := hS108.f1
      have hS114 := hS113.tail
      exact ⟨((x80 ++ ([v84])), a105, (n82 + 1), c106, (v84 + 1)), hm.2, ⟨rfl, rfl, rfl, trivial⟩, ⟨hm.1, hB111, hS114⟩⟩
    · replace hm := hm.2 h95
      refine w_exit ?_
      exact ⟨(x80, a81, n82, c83), ⟨rfl, trivial⟩, ⟨hm, hB90, hS91⟩⟩
  · rintro ⟨x74, a75, n76, c77⟩ b_ w115 ⟨hm, hB116, hS117⟩
    show Wp _ _ _ _ (upds b_ [(3, .slice a75 n76 c77)]) w115
    refine w_seq fun K118 hK118 => ?_
    refine w_region ?_
    refine wl_val (g_move (v := .slice a75 n76 c77) rfl) rfl ?_
    refine wl_val (g_assign (v := .slice a75 n76 c77) rfl) rfl ?_
    refine wl_nil ?_
    refine hK118 _ _ ?_
    refine w_ret ?_
    repeat first | with_reducible refine q_then ?_ | with_reducible refine q_block ?_
    exact ret1 rfl (by decide) ⟨_, _, _, _, hm, rfl, toExt hB116, hS117⟩

theorem m_impl_follow_twists_1_fn {w : World} {B_ : Nat} {L_ : List Ob} {a1 : Option Addr} {n1 c1 : Nat} {p1 : List Cross} {gp2_0 : Nat} {ap2_0 : Option Addr} {np2_0 cp2_0 : Nat} {p2_0 : List (List Int)} {yp2_0 : List (Hd Int)} {Q : (List Int) → (List (List Int)) → Prop} (hS0 : Sep w B_ (oB gp2_0 37 #[.slice ap2_0 np2_0 cp2_0] :: oS 39 ap2_0 np2_0 cp2_0 (yp2_0 : List (Hd Int)) :: oT 3 (yp2_0 : List (Hd Int)) :: L_)) (p0 : Int) (hp1 : Vw B_ w a1 n1 c1 p1) (hep2_0 : ers yp2_0 = p2_0) (hm : m_impl_follow_twists_1 p0 p1 p2_0 Q) :
    Fn Try.prog 74 #[.int .i64 p0, .slice a1 n1 c1, .func (.func 75) #[] #[.pointer (some (⟨gp2_0, 0, none⟩ : Addr))]] w (fun v w' => ∃ (r0 : List Int) (a0 : Option Addr) (n0 c0 : Nat) (x0 : List (List Int)) (aa0 : Option Addr) (nn0 cc0 : Nat) (yy0 : List (Hd Int)), Q r0 x0 ∧ ers yy0 = x0 ∧ v = .slice a0 n0 c0 ∧ Below B_ w w' ∧ Sep w' B_ (oS 3 a0 n0 c0 r0 :: oB gp2_0 37 #[.slice aa0 nn0 cc0] :: oS 39 aa0 nn0 cc0 yy0 :: oT 3 yy0 :: L_)) := by
  unfold m_impl_follow_twists_1 at hm
  have hB0 := Below.refl B_ w
  refine fn_of_wp Try.func74 rfl (by kernel_rfl) (Nat.le_of_ble_eq_true rfl) ?_
  refine w_seq fun K5 hK5 => ?_
  refine w_region ?_
  refine wl_val (g_assign (v := .slice none 0 0) rfl) rfl ?_
  refine wl_nil ?_
  refine hK5 _ _ ?_
  refine w_seq fun K6 hK6 => ?_
  refine w_region ?_
  refine wl_val (g_move (v := .int .i64 p0) rfl) rfl ?_
  refine wl_step rfl (g_call (vs := #[.int .i64 p0]) CF77 (args1 rfl) (m_impl_upTo_fn p0 hm)) ?_
  rintro _ w7 ⟨r10, a11, n12, c13, hm, rfl, hE8, hN9⟩
  have hS15 := hS0.call1 hE8 hN9
  have hB16 := hB0.trans (Ext.stp hE8 hS0.base)
  refine wl_val (g_assign (v := .slice a11 n12 c13) rfl) rfl ?_
  refine wl_nil ?_
  refine hK6 _ _ ?_
  refine w_cut (σ := List Int × List (List Int) × Option Addr × Nat × Nat × List (Hd Int)) (fun ⟨x487, x488, a489, n490, c491, y492⟩ => [(7, .slice a11 n12 c13)]) (fun ⟨x487, x488, a489, n490, c491, y492⟩ w' => m_impl_follow_twists_1_K0 Q x487 x488 ∧ ers y492 = x488 ∧ Below B_ w w' ∧ Sep w' B_ (oB gp2_0 37 #[.slice a489 n490 c491] :: oS 3 a11 n12 c13 (x487 : List Int) :: oS 39 a489 n490 c491 (y492 : List (Hd Int)) :: oT 3 (y492 : List (Hd Int)) :: L_)) ?_ ?_
  · refine w_seq fun K495 hK495 => ?_
    refine w_region ?_
    refine wl_val (g_move (v := .slice a1 n1 c1) rfl) rfl ?_
    refine wl_val (q_len SL24 rfl (Vw.len (hp1.bel hB16))) rfl ?_
    refine wl_val (g_move (v := .int .i64 0) rfl) rfl ?_
    refine wl_nil ?_
    refine hK495 _ _ ?_
    refine w_block ?_
    have hS504 := hS15.f3
    have hS505 := hS504.f3
    have hS506 := hS505.f2
    have hS507 := hS506.f3
    obtain ⟨I508, μ509, h0510, hr511⟩ := hm
    refine w_for (σ := List Int × Int × List (List Int) × Option Addr × Nat × Nat × List (Hd Int)) (fun ⟨x496, v497, x498, a499, n500, c501, y502⟩ => [(2, .func (.func 75) #[] #[.pointer (some (⟨gp2_0, 0, none⟩ : Addr))]), (7, .slice a11 n12 c13), (12, .slice a1 n1 c1), (13, .int .i64 (p1.length : Int)), (14, .int .i64 v497)]) (fun ⟨x496, v497, x498, a499, n500, c501, y502⟩ w' => I508 x496 v497 x498 ∧ ers y502 = x498 ∧ Below B_ w w' ∧ Sep w' B_ (oB gp2_0 37 #[.slice a499 n500 c501] :: oS 3 a11 n12 c13 (x496 : List Int) :: oS 39 a499 n500 c501 (y502 : List (Hd Int)) :: oT 3 (y502 : List (Hd Int)) :: L_)) (fun ⟨x496, v497, x498, a499, n500, c501, y502⟩ => μ509 x496 v497 x498) (r10, 0, p2_0, ap2_0, np2_0, cp2_0, yp2_0) ⟨rfl, rfl, rfl, rfl, rfl, trivial⟩ ⟨h0510, hep2_0, hB16, hS507⟩ ?_
    rintro ⟨x496, v497, x498, a499, n500, c501, y502⟩ b_ w512 ⟨hi_, he503, hB513, hS514⟩
    show Wp _ _ _ _ (upds b_ [(2, .func (.func 75) #[] #[.pointer (some (⟨gp2_0, 0, none⟩ : Addr))]), (7, .slice a11 n12 c13), (12, .slice a1 n1 c1), (13, .int .i64 (p1.length : Int)), (14, .int .i64 v497)]) w512
    have hm := hr511 x496 v497 x498 hi_
    refine w_seq fun K516 hK516 => ?_
    refine w_region ?_
    refine wl_val (g_lss (a := v497) (b := (p1.length : Int)) rfl rfl) rfl ?_
    refine wl_nil ?_
    refine hK516 _ _ ?_
    refine w_seq fun K517 hK517 => ?_
    refine w_condI (p := v497 < (p1.length : Int)) (b := (decide (v497 < (p1.length : Int)))) rfl decide_eq_true_iff (fun h518 => ?_) (fun h518 => ?_)
    · replace hm := hm.1 h518
      refine w_skip ?_
      refine hK517 _ _ ?_
      refine w_seq fun K519 hK519 => ?_
      refine w_block ?_
      refine w_seq fun K520 hK520 => ?_
      refine w_region ?_
      obtain ⟨hg521, hm⟩ := hm
      refine wl_val (q_index (i := v497) SL24 rfl rfl (hp1.bel hB513) hg521) rfl ?_
      refine wl_val (q_loadS (i := v497) (cs := [.int .i64 (p1[(Int.toNat v497)]!.1), .bool (p1[(Int.toNat v497)]!.2)]) AG56 (hp1.bel hB513) hg521 rfl rfl) rfl ?_
      refine wl_step rfl (q_alloc (cs := #[.int .i64 0, .bool false]) ZR56 rfl hS514) ?_
      rintro _ w522 ⟨g523, rfl, hS525, hE524⟩
      have hB527 := hB513.trans (Ext.stp hE524 hS514.base)
      refine wl_step rfl (q_storeB (i := 0) (bs' := #[.int .i64 (p1[(Int.toNat v497)]!.1), .bool (p1[(Int.toNat v497)]!.2)]) (vs := [.int .i64 (p1[(Int.toNat v497)]!.1), .bool (p1[(Int.toNat v497)]!.2)]) hS525 AG56.sz rfl rfl rfl (by simp [Value.oneCell']) (Nat.le_of_ble_eq_true rfl) rfl) ?_
      rintro _ w528 ⟨rfl, hS529, hb530⟩
      have hB531 := hB527.trans hb530
      refine wl_nil ?_
      refine hK520 _ _ ?_
      refine w_seq fun K532 hK532 => ?_
      refine w_draw (X := Ext) (Y := Ext) [0, 0, 0, 0, 0, 0, 0, 0, 0, 0, 0, 0, 0, 1] MIX (by decide +kernel) rfl Ext.refl (fun _ _ _ => Ext.trans) (fun _ _ _ => Chg.trans) (fun _ _ h => Ext.chg h _) (fun w533 hE534 => ?_)
      have hB535 := hB531.trans (Ext.stp hE534 hS529.base)
      have hS536 := hS529.ext hE534
      refine ⟨.func (.func 75) #[] #[.pointer (some (⟨gp2_0, 0, none⟩ : Addr))], fun w537 hX538 => od_plain rfl (by have hS539 := hS536.ext hX538; have hB540 := hB535.trans (Ext.stp hX538 hS536.base); exact is_ext (g_move (v := .func (.func 75) #[] #[.pointer (some (⟨gp2_0, 0, none⟩ : Addr))]) rfl)), ?_⟩
      refine ⟨.agg #[.int .i64 (p1[(Int.toNat v497)]!.1), .bool (p1[(Int.toNat v497)]!.2)], fun w541 hX542 => od_plain rfl (by have hS543 := hS536.ext hX542; have hB544 := hB535.trans (Ext.stp hX542 hS536.base); exact is_ext (q_loadBS (bs := #[.int .i64 (p1[(Int.toNat v497)]!.1), .bool (p1[(Int.toNat v497)]!.2)]) hS543.g0 AG56 rfl)), ?_⟩
      refine ⟨.slice a11 n12 c13, fun w545 hX546 => od_plain rfl (by have hS547 := hS536.ext hX546; have hB548 := hB535.trans (Ext.stp hX546 hS536.base); exact is_ext (g_move (v := .slice a11 n12 c13) rfl)), ?_⟩
      refine ⟨.pointer (some (((⟨g523, 0, none⟩ : Addr)).add 0)), fun w549 hX550 => od_plain rfl (by have hS551 := hS536.ext hX550; have hB552 := hB535.trans (Ext.stp hX550 hS536.base); exact is_ext (g_fieldAddr (q := (⟨g523, 0, none⟩ : Addr)) FL56_0 ON3 rfl)), ?_⟩
      refine ⟨.int .i64 (p1[(Int.toNat v497)]!.1), fun w553 hX554 => od_plain rfl (by have hS555 := hS536.ext hX554; have hB556 := hB535.trans (Ext.stp hX554 hS536.base); exact is_ext (q_loadB (i := 0) (bs := #[.int .i64 (p1[(Int.toNat v497)]!.1), .bool (p1[(Int.toNat v497)]!.2)]) hS555.g0 ON3 rfl rfl)), ?_⟩
      obtain ⟨hg561, hm⟩ := hm
      refine ⟨.pointer (some ((adr a11).add ((Int.toNat (p1[(Int.toNat v497)]!.1)) * El.m Int))), fun w557 hX558 => od_plain rfl (by have hS559 := hS536.ext hX558; have hB560 := hB535.trans (Ext.stp hX558 hS536.base); exact is_ext (q_index (i := p1[(Int.toNat v497)]!.1) SL39 rfl rfl (oS.vw hS559.g2) hg561)), ?_⟩
      refine ⟨.int .i64 (x496[(Int.toNat (p1[(Int.toNat v497)]!.1))]!), fun w562 hX563 => od_plain rfl (by have hS564 := hS536.ext hX563; have hB565 := hB535.trans (Ext.stp hX563 hS536.base); exact is_ext (q_load (i := p1[(Int.toNat v497)]!.1) (v := .int .i64 (x496[(Int.toNat (p1[(Int.toNat v497)]!.1))]!)) ON3 (oS.vw hS564.g2) hg561 rfl rfl)), ?_⟩
      refine ⟨.slice a11 n12 c13, fun w566 hX567 => od_plain rfl (by have hS568 := hS536.ext hX567; have hB569 := hB535.trans (Ext.stp hX567 hS536.base); exact is_ext (g_move (v := .slice a11 n12 c13) rfl)), ?_⟩
      refine ⟨.pointer (some (((⟨g523, 0, none⟩ : Addr)).add 0)), fun w570 hX571 => od_plain rfl (by have hS572 := hS536.ext hX571; have hB573 := hB535.trans (Ext.stp hX571 hS536.base); exact is_ext (g_fieldAddr (q := (⟨g523, 0, none⟩ : Addr)) FL56_0 ON3 rfl)), ?_⟩
      refine ⟨.int .i64 (p1[(Int.toNat v497)]!.1), fun w574 hX575 => od_plain rfl (by have hS576 := hS536.ext hX575; have hB577 := hB535.trans (Ext.stp hX575 hS536.base); exact is_ext (q_loadB (i := 0) (bs := #[.int .i64 (p1[(Int.toNat v497)]!.1), .bool (p1[(Int.toNat v497)]!.2)]) hS576.g0 ON3 rfl rfl)), ?_⟩
      obtain ⟨hg582, hm⟩ := hm
      refine ⟨.int .i64 (p1[(Int.toNat v497)]!.1 + 1), fun w578 hX579 => od_plain rfl (by have hS580 := hS536.ext hX579; have hB581 := hB535.trans (Ext.stp hX579 hS536.base); exact is_ext (g_add (a := p1[(Int.toNat v497)]!.1) (b := 1) rfl rfl hg582)), ?_⟩
      obtain ⟨hg587, hm⟩ := hm
      refine ⟨.pointer (some ((adr a11).add ((Int.toNat (p1[(Int.toNat v497)]!.1 + 1)) * El.m Int))), fun w583 hX584 => od_plain rfl (by have hS585 := hS536.ext hX584; have hB586 := hB535.trans (Ext.stp hX584 hS536.base); exact is_ext (q_index (i := (p1[(Int.toNat v497)]!.1 + 1)) SL39 rfl rfl (oS.vw hS585.g2) hg587)), ?_⟩
      refine ⟨.int .i64 (x496[(Int.toNat (p1[(Int.toNat v497)]!.1 + 1))]!), fun w588 hX589 => od_plain rfl (by have hS590 := hS536.ext hX589; have hB591 := hB535.trans (Ext.stp hX589 hS536.base); exact is_ext (q_load (i := (p1[(Int.toNat v497)]!.1 + 1)) (v := .int .i64 (x496[(Int.toNat (p1[(Int.toNat v497)]!.1 + 1))]!)) ON3 (oS.vw hS590.g2) hg587 rfl rfl)), ?_⟩
      intro w592 hX593
      have hB594 := hB535.trans (Ext.stp hX593 hS536.base)
      have hS595 := hS536.ext hX593
      have hS596 := hS595.f4
      have hS597 := hS596.f4
      have hS598 := hS597.f3
      refine ⟨_, od_plain rfl (g_callvc (f := 75) (va := #[.agg #[.int .i64 (p1[(Int.toNat v497)]!.1), .bool (p1[(Int.toNat v497)]!.2)], .int .i64 (x496[(Int.toNat (p1[(Int.toNat v497)]!.1))]!), .int .i64 (x496[(Int.toNat (p1[(Int.toNat v497)]!.1 + 1))]!)]) (cap := #[.pointer (some (⟨gp2_0, 0, none⟩ : Addr))]) (vs := #[.agg #[.int .i64 (p1[(Int.toNat v497)]!.1), .bool (p1[(Int.toNat v497)]!.2)], .int .i64 (x496[(Int.toNat (p1[(Int.toNat v497)]!.1))]!), .int .i64 (x496[(Int.toNat (p1[(Int.toNat v497)]!.1 + 1))]!), .pointer (some (⟨gp2_0, 0, none⟩ : Addr))]) CF75 rfl (args3 rfl rfl rfl) rfl (m_impl_twists_1_fn hS598 (p1[(Int.toNat v497)]!.1, p1[(Int.toNat v497)]!.2) (x496[(Int.toNat (p1[(Int.toNat v497)]!.1))]!) (x496[(Int.toNat (p1[(Int.toNat v497)]!.1 + 1))]!) he503 hm)), ?_⟩
      rintro _ w599 ⟨x602, a603, n604, c605, y606, hm, he607, rfl, hb600, hS601⟩
      have hB608 := hB594.trans hb600
      intro w609 hX610
      have hB611 := hB608.trans (Ext.stp hX610 hS601.base)
      have hS612 := hS601.ext hX610
      refine hK532 _ _ ?_
      have hS618 := hS612.f4
      refine w_draw (X := Ext) (Y := (fun w_ w_' => Chg w_ w_' (blk a11))) [0, 0, 0, 3, 3, 3, 3, 0, 0, 0, 0, 0, 0, 0, 0, 0, 0, 0, 0, 4, 0, 1] MIX (by decide +kernel) rfl Ext.refl (fun _ _ _ => Ext.trans) (fun _ _ _ => Chg.trans) (fun _ _ h => Ext.chg h _) (fun w619 hE620 => ?_)
      have hB621 := hB611.trans (Ext.stp hE620 hS618.base)
      have hS622 := hS618.ext hE620
      refine ⟨.slice a11 n12 c13, fun w623 hX624 => od_plain rfl (by have hS625 := hS622.ext hX624; have hB626 := hB621.trans (Ext.stp hX624 hS622.base); exact is_ext (g_move (v := .slice a11 n12 c13) rfl)), ?_⟩
      refine ⟨.pointer (some (((⟨g523, 0, none⟩ : Addr)).add 0)), fun w627 hX628 => od_plain rfl (by have hS629 := hS622.ext hX628; have hB630 := hB621.trans (Ext.stp hX628 hS622.base); exact is_ext (g_fieldAddr (q := (⟨g523, 0, none⟩ : Addr)) FL56_0 ON3 rfl)), ?_⟩
      refine ⟨.int .i64 (p1[(Int.toNat v497)]!.1), fun w631 hX632 => od_plain rfl (by have hS633 := hS622.ext hX632; have hB634 := hB621.trans (Ext.stp hX632 hS622.base); exact is_ext (q_loadB (i := 0) (bs := #[.int .i64 (p1[(Int.toNat v497)]!.1), .bool (p1[(Int.toNat v497)]!.2)]) hS633.g4 ON3 rfl rfl)), ?_⟩
      refine ⟨.slice a11 n12 c13, fun w635 hX636 => od_plain rfl (by have hS637 := Sep.chgT hS622 hX636 (fun k hk => hk); have hB638 := hB621.trans (Sep.stp hS622 hX636 (fun k hk => hk)); exact is_ext (g_move (v := .slice a11 n12 c13) rfl)), ?_⟩
      refine ⟨.pointer (some (((⟨g523, 0, none⟩ : Addr)).add 0)), fun w639 hX640 => od_plain rfl (by have hS641 := Sep.chgT hS622 hX640 (fun k hk => hk); have hB642 := hB621.trans (Sep.stp hS622 hX640 (fun k hk => hk)); exact is_ext (g_fieldAddr (q := (⟨g523, 0, none⟩ : Addr)) FL56_0 ON3 rfl)), ?_⟩
      refine ⟨.int .i64 (p1[(Int.toNat v497)]!.1), fun w643 hX644 => od_plain rfl (by have hS645 := Sep.chgT hS622 hX644 (fun k hk => hk); have hB646 := hB621.trans (Sep.stp hS622 hX644 (fun k hk => hk)); exact is_ext (q_loadB (i := 0) (bs := #[.int .i64 (p1[(Int.toNat v497)]!.1), .bool (p1[(Int.toNat v497)]!.2)]) hS645.g3 ON3 rfl rfl)), ?_⟩
      obtain ⟨hg651, hm⟩ := hm
      refine ⟨.int .i64 (p1[(Int.toNat v497)]!.1 + 1), fun w647 hX648 => od_plain rfl (by have hS649 := Sep.chgT hS622 hX648 (fun k hk => hk); have hB650 := hB621.trans (Sep.stp hS622 hX648 (fun k hk => hk)); exact is_ext (g_add (a := p1[(Int.toNat v497)]!.1) (b := 1) rfl rfl hg651)), ?_⟩
      refine ⟨.slice a11 n12 c13, fun w652 hX653 => od_plain rfl (by have hS654 := hS622.ext hX653; have hB655 := hB621.trans (Ext.stp hX653 hS622.base); exact is_ext (g_move (v := .slice a11 n12 c13) rfl)), ?_⟩
      refine ⟨.pointer (some (((⟨g523, 0, none⟩ : Addr)).add 0)), fun w656 hX657 => od_plain rfl (by have hS658 := hS622.ext hX657; have hB659 := hB621.trans (Ext.stp hX657 hS622.base); exact is_ext (g_fieldAddr (q := (⟨g523, 0, none⟩ : Addr)) FL56_0 ON3 rfl)), ?_⟩
      refine ⟨.int .i64 (p1[(Int.toNat v497)]!.1), fun w660 hX661 => od_plain rfl (by have hS662 := hS622.ext hX661; have hB663 := hB621.trans (Ext.stp hX661 hS622.base); exact is_ext (q_loadB (i := 0) (bs := #[.int .i64 (p1[(Int.toNat v497)]!.1), .bool (p1[(Int.toNat v497)]!.2)]) hS662.g4 ON3 rfl rfl)), ?_⟩
      obtain ⟨hg668, hm⟩ := hm
      refine ⟨.int .i64 (p1[(Int.toNat v497)]!.1 + 1), fun w664 hX665 => od_plain rfl (by have hS666 := hS622.ext hX665; have hB667 := hB621.trans (Ext.stp hX665 hS622.base); exact is_ext (g_add (a := p1[(Int.toNat v497)]!.1) (b := 1) rfl rfl hg668)), ?_⟩
      obtain ⟨hg673, hm⟩ := hm
      refine ⟨.pointer (some ((adr a11).add ((Int.toNat (p1[(Int.toNat v497)]!.1 + 1)) * El.m Int))), fun w669 hX670 => od_plain rfl (by have hS671 := hS622.ext hX670; have hB672 := hB621.trans (Ext.stp hX670 hS622.base); exact is_ext (q_index (i := (p1[(Int.toNat v497)]!.1 + 1)) SL39 rfl rfl (oS.vw hS671.g0) hg673)), ?_⟩
      refine ⟨.int .i64 (x496[(Int.toNat (p1[(Int.toNat v497)]!.1 + 1))]!), fun w674 hX675 => od_plain rfl (by have hS676 := hS622.ext hX675; have hB677 := hB621.trans (Ext.stp hX675 hS622.base); exact is_ext (q_load (i := (p1[(Int.toNat v497)]!.1 + 1)) (v := .int .i64 (x496[(Int.toNat (p1[(Int.toNat v497)]!.1 + 1))]!)) ON3 (oS.vw hS676.g0) hg673 rfl rfl)), ?_⟩
      refine ⟨.slice a11 n12 c13, fun w678 hX679 => od_plain rfl (by have hS680 := hS622.ext hX679; have hB681 := hB621.trans (Ext.stp hX679 hS622.base); exact is_ext (g_move (v := .slice a11 n12 c13) rfl)), ?_⟩
      refine ⟨.pointer (some (((⟨g523, 0, none⟩ : Addr)).add 0)), fun w682 hX683 => od_plain rfl (by have hS684 := hS622.ext hX683; have hB685 := hB621.trans (Ext.stp hX683 hS622.base); exact is_ext (g_fieldAddr (q := (⟨g523, 0, none⟩ : Addr)) FL56_0 ON3 rfl)), ?_⟩
      refine ⟨.int .i64 (p1[(Int.toNat v497)]!.1), fun w686 hX687 => od_plain rfl (by have hS688 := hS622.ext hX687; have hB689 := hB621.trans (Ext.stp hX687 hS622.base); exact is_ext (q_loadB (i := 0) (bs := #[.int .i64 (p1[(Int.toNat v497)]!.1), .bool (p1[(Int.toNat v497)]!.2)]) hS688.g4 ON3 rfl rfl)), ?_⟩
      obtain ⟨hg694, hm⟩ := hm
      refine ⟨.pointer (some ((adr a11).add ((Int.toNat (p1[(Int.toNat v497)]!.1)) * El.m Int))), fun w690 hX691 => od_plain rfl (by have hS692 := hS622.ext hX691; have hB693 := hB621.trans (Ext.stp hX691 hS622.base); exact is_ext (q_index (i := p1[(Int.toNat v497)]!.1) SL39 rfl rfl (oS.vw hS692.g0) hg694)), ?_⟩
      refine ⟨.int .i64 (x496[(Int.toNat (p1[(Int.toNat v497)]!.1))]!), fun w695 hX696 => od_plain rfl (by have hS697 := hS622.ext hX696; have hB698 := hB621.trans (Ext.stp hX696 hS622.base); exact is_ext (q_load (i := p1[(Int.toNat v497)]!.1) (v := .int .i64 (x496[(Int.toNat (p1[(Int.toNat v497)]!.1))]!)) ON3 (oS.vw hS697.g0) hg694 rfl rfl)), ?_⟩
      obtain ⟨hg703, hm⟩ := hm
      refine ⟨.pointer (some ((adr a11).add ((Int.toNat (p1[(Int.toNat v497)]!.1)) * El.m Int))), fun w699 hX700 => od_plain rfl (by have hS701 := hS622.ext hX700; have hB702 := hB621.trans (Ext.stp hX700 hS622.base); exact is_ext (q_index (i := p1[(Int.toNat v497)]!.1) SL39 rfl rfl (oS.vw hS701.g0) hg703)), ?_⟩
      intro w704 hX705
      have hB706 := hB621.trans (Ext.stp hX705 hS622.base)
      have hS707 := hS622.ext hX705
      refine ⟨_, od_plain rfl (q_storeC (i := p1[(Int.toNat v497)]!.1) (v := (x496[(Int.toNat (p1[(Int.toNat v497)]!.1 + 1))]! : Int)) hS707 ON3.sz hg703 rfl rfl rfl), ?_⟩
      rintro _ w708 ⟨rfl, hS709, hb710, hC711⟩
      refine ⟨hC711, ?_⟩
      have hB712 := hB706.trans hb710
      obtain ⟨hg717, hm⟩ := hm
      refine ⟨.pointer (some ((adr a11).add ((Int.toNat (p1[(Int.toNat v497)]!.1 + 1)) * El.m Int))), fun w713 hX714 => od_plain rfl (by have hS715 := hS709.ext hX714; have hB716 := hB712.trans (Ext.stp hX714 hS709.base); exact is_ext (q_index (i := (p1[(Int.toNat v497)]!.1 + 1)) SL39 rfl rfl (oS.vw hS715.g0) hg717)), ?_⟩
      intro w718 hX719
      have hB720 := hB712.trans (Ext.stp hX719 hS709.base)
      have hS721 := hS709.ext hX719
      refine ⟨_, od_plain rfl (q_store (i := (p1[(Int.toNat v497)]!.1 + 1)) (v := (x496[(Int.toNat (p1[(Int.toNat v497)]!.1))]! : Int)) hS721 ON3.sz hg717 rfl rfl rfl), ?_⟩
      rintro _ w722 ⟨rfl, hS723, hb724⟩
      have hB725 := hB720.trans hb724
      intro w726 hX727
      have hB728 := hB725.trans (Ext.stp hX727 hS723.base)
      have hS729 := hS723.ext hX727
      refine hK519 _ _ ?_
      refine w_region ?_
      obtain ⟨hg730, hm⟩ := hm
      refine wl_val (g_add (a := v497) (b := 1) rfl rfl hg730) rfl ?_
      refine wl_val (g_move (v := .int .i64 (v497 + 1)) rfl) rfl ?_
      refine wl_nil ?_
      have hS731 := hS729.f4
      have hS732 := hS731.tail
      have hS733 := hS732.f3
      have hS734 := hS733.f3
      have hS735 := hS734.f2
      have hS736 := hS735.f3
      exact ⟨(((x496.set (Int.toNat (p1[(Int.toNat v497)]!.1)) (x496[(Int.toNat (p1[(Int.toNat v497)]!.1 + 1))]!)).set (Int.toNat (p1[(Int.toNat v497)]!.1 + 1)) (x496[(Int.toNat (p1[(Int.toNat v497)]!.1))]!)), (v497 + 1), x602, a603, n604, c605, y606), hm.2, ⟨rfl, rfl, rfl, rfl, rfl, trivial⟩, ⟨hm.1, he607, hB728, hS736⟩⟩
    · replace hm := hm.2 h518
      refine w_exit ?_
      exact ⟨(x496, x498, a499, n500, c501, y502), ⟨rfl, trivial⟩, ⟨hm, he503, hB513, hS514⟩⟩
  · rintro ⟨x487, x488, a489, n490, c491, y492⟩ b_ w737 ⟨hm, he493, hB738, hS739⟩
    show Wp _ _ _ _ (upds b_ [(7, .slice a11 n12 c13)]) w737
    refine w_seq fun K740 hK740 => ?_
    refine w_region ?_
    refine wl_val (g_move (v := .slice a11 n12 c13) rfl) rfl ?_
    refine wl_val (g_assign (v := .slice a11 n12 c13) rfl) rfl ?_
    refine wl_nil ?_
    refine hK740 _ _ ?_
    refine w_ret ?_
    have hS741 := hS739.f3
    have hS742 := hS741.f3
    have hS743 := hS742.f2
    have hS744 := hS743.f3
    repeat first | with_reducible refine q_then ?_ | with_reducible refine q_block ?_
    exact ret1 rfl (by decide) ⟨_, _, _, _, _, _, _, _, _, hm, he493, rfl, hB738, hS744⟩

theorem m_impl_twists_fn {w : World} {a1 : Option Addr} {n1 c1 : Nat} {p1 : List Cross} {Q : (List (List Int)) → Prop} (p0 : Int) (hp1 : Vw w.heap.size w a1 n1 c1 p1) (hm : m_impl_twists p0 p1 Q) :
    Fn Try.prog 58 #[.int .i64 p0, .slice a1 n1 c1] w (fun v w' => ∃ (r0 : List (List Int)) (a0 : Option Addr) (n0 c0 : Nat) (y0 : List (Hd Int)), Q r0 ∧ ers y0 = r0 ∧ v = .slice a0 n0 c0 ∧ Ext w w' ∧ Sep w' w.heap.size [oS 39 a0 n0 c0 y0, oT 3 y0]) := by
  unfold m_impl_twists at hm
  have hB0 := Below.refl w.heap.size w
  have hS0 : Sep w w.heap.size [] := Sep.nil (Nat.le_refl _)
  refine fn_of_wp Try.func58 rfl (by kernel_rfl) (Nat.le_of_ble_eq_true rfl) ?_
  refine w_seq fun K1 hK1 => ?_
  refine w_region ?_
  refine wl_val (g_assign (v := .slice none 0 0) rfl) rfl ?_
  refine wl_nil ?_
  refine hK1 _ _ ?_
  refine w_seq fun K2 hK2 => ?_
  refine w_region ?_
  refine wl_val (g_move (v := .int .i64 p0) rfl) rfl ?_
  obtain ⟨hg3, hm⟩ := hm
  refine wl_step rfl (q_make (y := ((none, 0, []) : Hd Int)) SL37 rfl rfl hg3.1 hg3.2 (by decide) hS0) ?_
  rintro _ w4 ⟨a5, rfl, hS7, hE6⟩
  have hB9 := hB0.trans (Ext.stp hE6 hS0.base)
  have hS10 := hS7.nilRows (y := ((none, 0, []) : Hd Int)) (E := 3) (fun j hj => by first | rfl | (show (if j = 0 then _ else _) = _; split <;> rfl)) (Int.toNat p0)
  have he12 : ers (List.replicate (Int.toNat p0) ((none, 0, []) : Hd Int)) = List.replicate (Int.toNat p0) ([] : List Int) := by simp only [ers, List.map_replicate]; rfl
  refine wl_step rfl (q_alloc (cs := #[.slice none 0 0]) ZR37 rfl hS10) ?_
  rintro _ w14 ⟨g15, rfl, hS17, hE16⟩
  have hB19 := hB9.trans (Ext.stp hE16 hS10.base)
  refine wl_step rfl (q_storeB (i := 0) (bs' := #[.slice a5 (Int.toNat p0) (Int.toNat p0)]) (vs := [.slice a5 (Int.toNat p0) (Int.toNat p0)]) hS17 ON37.sz rfl rfl rfl (by simp [Value.oneCell']) (Nat.le_of_ble_eq_true rfl) rfl) ?_
  rintro _ w20 ⟨rfl, hS21, hb22⟩
  have hB23 := hB19.trans hb22
  refine wl_nil ?_
  refine hK2 _ _ ?_
  refine w_cut (σ := List (List Int) × List (Hd Int)) (fun ⟨x175, y176⟩ => [(0, .int .i64 p0), (1, .slice a1 n1 c1), (5, .pointer (some (⟨g15, 0, none⟩ : Addr)))]) (fun ⟨x175, y176⟩ w' => m_impl_twists_K0 p0 p1 Q x175 ∧ ers y176 = x175 ∧ Below w.heap.size w w' ∧ Sep w' w.heap.size [oB g15 37 #[.slice a5 (Int.toNat p0) (Int.toNat p0)], oS 39 a5 (Int.toNat p0) (Int.toNat p0) (y176 : List (Hd Int)), oT 3 (y176 : List (Hd Int))]) ?_ ?_
  · refine w_seq fun K179 hK179 => ?_
    refine w_region ?_
    refine wl_val (q_loadB (i := 0) (bs := #[.slice a5 (Int.toNat p0) (Int.toNat p0)]) hS21.g0 ON37 rfl rfl) rfl ?_
    refine wl_val (q_len SL37 rfl (Tv.len (oT.vw hS21.g2 hS21.g1 he12))) rfl ?_
    refine wl_val (g_move (v := .int .i64 0) rfl) rfl ?_
    refine wl_nil ?_
    refine hK179 _ _ ?_
    refine w_block ?_
    have hS184 := hS21.f1
    have hS185 := hS184.f2
    have hS186 := hS185.f2
    obtain ⟨I187, μ188, h0189, hr190⟩ := hm
    refine w_for (σ := Int × List (List Int) × List (Hd Int)) (fun ⟨v180, x181, y182⟩ => [(0, .int .i64 p0), (1, .slice a1 n1 c1), (5, .pointer (some (⟨g15, 0, none⟩ : Addr))), (10, .int .i64 ((List.replicate (Int.toNat p0) ([] : List Int)).length : Int)), (11, .int .i64 v180)]) (fun ⟨v180, x181, y182⟩ w' => I187 v180 x181 ∧ ers y182 = x181 ∧ Below w.heap.size w w' ∧ Sep w' w.heap.size [oB g15 37 #[.slice a5 (Int.toNat p0) (Int.toNat p0)], oS 39 a5 (Int.toNat p0) (Int.toNat p0) (y182 : List (Hd Int)), oT 3 (y182 : List (Hd Int))]) (fun ⟨v180, x181, y182⟩ => μ188 v180 x181) (0, List.replicate (Int.toNat p0) ([] : List Int), List.replicate (Int.toNat p0) ((none, 0, []) : Hd Int)) ⟨rfl, rfl, rfl, rfl, rfl, trivial⟩ ⟨h0189, he12, hB23, hS186⟩ ?_
    rintro ⟨v180, x181, y182⟩ b_ w191 ⟨hi_, he183, hB192, hS193⟩
    show Wp _ _ _ _ (upds b_ [(0, .int .i64 p0), (1, .slice a1 n1 c1), (5, .pointer (some (⟨g15, 0, none⟩ : Addr))), (10, .int .i64 ((List.replicate (Int.toNat p0) ([] : List Int)).length : Int)), (11, .int .i64 v180)]) w191
    have hm := hr190 v180 x181 hi_
    refine w_seq fun K195 hK195 => ?_
    refine w_region ?_
    refine wl_val (g_lss (a := v180) (b := ((List.replicate (Int.toNat p0) ([] : List Int)).length : Int)) rfl rfl) rfl ?_
    refine wl_nil ?_
    refine hK195 _ _ ?_
    refine w_seq fun K196 hK196 => ?_
    refine w_condI (p := v180 < ((List.replicate (Int.toNat p0) ([] : List Int)).length : Int)) (b := (decide (v180 < ((List.replicate (Int.toNat p0) ([] : List Int)).length : Int)))) rfl decide_eq_true_iff (fun h197 => ?_) (fun h197 => ?_)
    · replace hm := hm.1 h197
      refine w_skip ?_
      refine hK196 _ _ ?_
      refine w_seq fun K198 hK198 => ?_
      refine w_block ?_
      refine w_seq fun K199 hK199 => ?_
      refine w_region ?_
      refine wl_val (g_move (v := .int .i64 v180) rfl) rfl ?_
      refine wl_val (g_assign (v := .int .i64 v180) rfl) rfl ?_
      refine wl_nil ?_
      refine hK199 _ _ ?_
      refine w_draw (X := Ext) (Y := Ext) [0, 0, 0, 2, 0, 1] MIX (by decide +kernel) rfl Ext.refl (fun _ _ _ => Ext.trans) (fun _ _ _ => Chg.trans) (fun _ _ h => Ext.chg h _) (fun w200 hE201 => ?_)
      have hB202 := hB192.trans (Ext.stp hE201 hS193.base)
      have hS203 := hS193.ext hE201
      refine ⟨.slice a5 (Int.toNat p0) (Int.toNat p0), fun w204 hX205 => od_plain rfl (by have hS206 := hS203.ext hX205; have hB207 := hB202.trans (Ext.stp hX205 hS203.base); exact is_ext (q_loadB (i := 0) (bs := #[.slice a5 (Int.toNat p0) (Int.toNat p0)]) hS206.g0 ON37 rfl rfl)), ?_⟩
      refine ⟨.int .i64 v180, fun w208 hX209 => od_plain rfl (by have hS210 := hS203.ext hX209; have hB211 := hB202.trans (Ext.stp hX209 hS203.base); exact is_ext (g_move (v := .int .i64 v180) rfl)), ?_⟩
      refine ⟨.int .i64 p0, fun w212 hX213 => od_plain rfl (by have hS214 := hS203.ext hX213; have hB215 := hB202.trans (Ext.stp hX213 hS203.base); exact is_ext (g_move (v := .int .i64 p0) rfl)), ?_⟩
      intro w216 hX217
      have hB218 := hB202.trans (Ext.stp hX217 hS203.base)
      have hS219 := hS203.ext hX217
      obtain ⟨hg220, hm⟩ := hm
      refine ⟨_, od_plain rfl (q_make (y := (0 : Int)) SL39 rfl rfl hg220.1 hg220.2 (by decide) hS219), ?_⟩
      rintro _ w221 ⟨a222, rfl, hS224, hE223⟩
      refine ⟨hE223, ?_⟩
      have hB226 := hB218.trans (Ext.stp hE223 hS219.base)
      obtain ⟨hg231, hm⟩ := hm
      refine ⟨.pointer (some ((adr a5).add ((Int.toNat v180) * El.m (Hd Int)))), fun w227 hX228 => od_plain rfl (by have hS229 := hS224.ext hX228; have hB230 := hB226.trans (Ext.stp hX228 hS224.base); exact is_ext (q_index (i := v180) SL37 rfl rfl (Tv.o (oT.vw hS229.g2 hS229.g3 he183)) (Tv.g (oT.vw hS229.g2 hS229.g3 he183) hg231))), ?_⟩
      intro w232 hX233
      have hB234 := hB226.trans (Ext.stp hX233 hS224.base)
      have hS235 := hS224.ext hX233
      have hn240 := oS.len hS235.g0
      have hS241 := hS235.oneRow
      have he239 : ers [((a222, (Int.toNat p0), List.replicate (Int.toNat p0) (0 : Int)) : Hd Int)] = [List.replicate (Int.toNat p0) (0 : Int)] := rfl
      have hS243 := hS241.f3
      have hS244 := hS243.f3
      have hS245 := hS244.f2
      refine ⟨_, od_plain rfl (q_setT (i := v180) hS245 he183 hg231 ON39.sz rfl rfl (hd_cells hn240)), ?_⟩
      rintro _ w236 ⟨rfl, y246, he247, hS237, hb238⟩
      have he248 := he247.trans (congrArg (List.set _ _) (ers_one he239))
      have hB249 := hB234.trans hb238
      intro w250 hX251
      have hB252 := hB249.trans (Ext.stp hX251 hS237.base)
      have hS253 := hS237.ext hX251
      refine hK198 _ _ ?_
      refine w_region ?_
      obtain ⟨hg254, hm⟩ := hm
      refine wl_val (g_add (a := v180) (b := 1) rfl rfl hg254) rfl ?_
      refine wl_val (g_move (v := .int .i64 (v180 + 1)) rfl) rfl ?_
      refine wl_nil ?_
      have hS255 := hS253.f1
      have hS256 := hS255.f1
      have hS257 := hS256.f2
      exact ⟨((v180 + 1), (x181.set (Int.toNat v180) (List.replicate (Int.toNat p0) (0 : Int))), y246), hm.2, ⟨rfl, rfl, rfl, rfl, rfl, trivial⟩, ⟨hm.1, he248, hB252, hS257⟩⟩
    · replace hm := hm.2 h197
      refine w_exit ?_
      exact ⟨(x181, y182), ⟨rfl, rfl, rfl, trivial⟩, ⟨hm, he183, hB192, hS193⟩⟩
  · rintro ⟨x175, y176⟩ b_ w258 ⟨hm, he177, hB259, hS260⟩
    show Wp _ _ _ _ (upds b_ [(0, .int .i64 p0), (1, .slice a1 n1 c1), (5, .pointer (some (⟨g15, 0, none⟩ : Addr)))]) w258
    refine w_seq fun K261 hK261 => ?_
    refine w_region ?_
    refine wl_val (g_move (v := .int .i64 p0) rfl) rfl ?_
    refine wl_val (g_move (v := .slice a1 n1 c1) rfl) rfl ?_
    refine wl_val (g_makeFunc (vs := #[.pointer (some (⟨g15, 0, none⟩ : Addr))]) (args1 rfl)) rfl ?_
    have hS262 := hS260.f2
    have hS263 := hS262.f2
    have hS264 := hS263.f2
    refine wl_step rfl (g_call (vs := #[.int .i64 p0, .slice a1 n1 c1, .func (.func 75) #[] #[.pointer (some (⟨g15, 0, none⟩ : Addr))]]) CF74 (args3 rfl rfl rfl) (m_impl_follow_twists_1_fn hS264 p0 (hp1.bel hB259) he177 hm)) ?_
    rintro _ w265 ⟨r268, a269, n270, c271, x273, a274, n275, c276, y277, hm, he278, rfl, hb266, hS267⟩
    have hB279 := hB259.trans hb266
    refine wl_nil ?_
    refine hK261 _ _ ?_
    refine w_seq fun K280 hK280 => ?_
    refine w_region ?_
    refine wl_val (q_loadB (i := 0) (bs := #[.slice a274 n275 c276]) hS267.g1 ON37 rfl rfl) rfl ?_
    refine wl_val (g_assign (v := .slice a274 n275 c276) rfl) rfl ?_
    refine wl_nil ?_
    refine hK280 _ _ ?_
    refine w_ret ?_
    have hS281 := hS267.tail
    have hS282 := hS281.tail
    repeat first | with_reducible refine q_then ?_ | with_reducible refine q_block ?_
    exact ret1 rfl (by decide) ⟨_, _, _, _, _, hm, he278, rfl, toExt hB279, hS282⟩

theorem m_impl_TwistTable_fn {w : World} {a1 : Option Addr} {n1 c1 : Nat} {p1 : List Cross} {Q : (List (List Int)) → Prop} (p0 : Int) (hp1 : Vw w.heap.size w a1 n1 c1 p1) (hm : m_impl_TwistTable p0 p1 Q) :
    Fn Try.prog 25 #[.int .i64 p0, .slice a1 n1 c1] w (fun v w' => ∃ (r0 : List (List Int)) (a0 : Option Addr) (n0 c0 : Nat) (y0 : List (Hd Int)), Q r0 ∧ ers y0 = r0 ∧ v = .slice a0 n0 c0 ∧ Ext w w' ∧ Sep w' w.heap.size [oS 39 a0 n0 c0 y0, oT 3 y0]) := by
  unfold m_impl_TwistTable at hm
  have hB0 := Below.refl w.heap.size w
  have hS0 : Sep w w.heap.size [] := Sep.nil (Nat.le_refl _)
  refine fn_of_wp Try.func25 rfl (by kernel_rfl) (Nat.le_of_ble_eq_true rfl) ?_
  refine w_seq fun K1 hK1 => ?_
  refine w_region ?_
  refine wl_val (g_assign (v := .slice none 0 0) rfl) rfl ?_
  refine wl_nil ?_
  refine hK1 _ _ ?_
  refine w_seq fun K2 hK2 => ?_
  refine w_seq fun K3 hK3 => ?_
  refine w_region ?_
  refine wl_val (g_move (v := .int .i64 p0) rfl) rfl ?_
  refine wl_val (g_move (v := .slice a1 n1 c1) rfl) rfl ?_
  refine wl_step rfl (g_call (vs := #[.int .i64 p0, .slice a1 n1 c1]) CF57 (args2 rfl rfl) (m_impl_CrossesOk_fn p0 ((hp1.bel hB0).up hS0) hm)) ?_
  rintro _ w4 ⟨r7, hm, rfl, hE5⟩
  have hB8 := hB0.trans (Ext.stp hE5 hS0.base)
  have hS9 := hS0.ext hE5
  refine wl_val (g_not (a := r7) rfl) rfl ?_
  refine wl_nil ?_
  refine hK3 _ _ ?_
  refine w_condI (p := ¬ (r7 = true)) (b := (!r7)) rfl (i_not Iff.rfl) (fun h10 => ?_) (fun h10 => ?_)
  · replace hm := hm.1 h10
    refine w_seq fun K11 hK11 => ?_
    refine w_region ?_
    refine wl_val (g_assign (v := .slice none 0 0) rfl) rfl ?_
    refine wl_nil ?_
    refine hK11 _ _ ?_
    refine w_ret ?_
    have hS12 := hS9.nilS (α := (Hd Int)) (E := 39)
    have hS14 := hS12.noRows (δ := Hd Int) (E := 3)
    have he16 : ers ([] : List (Hd Int)) = ([] : List (List Int)) := rfl
    have hS18 := hS14.f1
    repeat first | with_reducible refine q_then ?_ | with_reducible refine q_block ?_
    exact ret1 rfl (by decide) ⟨_, _, _, _, _, hm, he16, rfl, toExt hB8, hS18⟩
  · replace hm := hm.2 h10
    refine w_skip ?_
    refine hK2 _ _ ?_
    refine w_seq fun K19 hK19 => ?_
    refine w_region ?_
    refine wl_val (g_move (v := .int .i64 p0) rfl) rfl ?_
    refine wl_val (g_move (v := .slice a1 n1 c1) rfl) rfl ?_
    refine wl_step rfl (g_call (vs := #[.int .i64 p0, .slice a1 n1 c1]) CF58 (args2 rfl rfl) (m_impl_twists_fn p0 ((hp1.bel hB8).up hS9) hm)) ?_
    rintro _ w20 ⟨r23, a24, n25, c26, y27, hm, he28, rfl, hE21, hN22⟩
    have hS32 := hS9.call2 hE21 hN22
    have hB33 := hB8.trans (Ext.stp hE21 hS9.base)
    refine wl_val (g_assign (v := .slice a24 n25 c26) rfl) rfl ?_
    refine wl_nil ?_
    refine hK19 _ _ ?_
    refine w_ret ?_
    repeat first | with_reducible refine q_then ?_ | with_reducible refine q_block ?_
    exact ret1 rfl (by decide) ⟨_, _, _, _, _, hm, he28, rfl, toExt hB33, hS32⟩

theorem m_spec_l01In_fn {w : World}  {Q : Bool → Prop} (p0 : Int) (p1 : Int) (p2 : Int) (hm : m_spec_l01In p0 p1 p2 Q) :
    Fn Try.prog 53 #[.int .i64 p0, .int .i64 p1, .int .i64 p2] w (fun v w' => ∃ (r0 : Bool), Q r0 ∧ v = .bool r0 ∧ Ext w w') := by
  unfold m_spec_l01In at hm
  have hB0 := Below.refl w.heap.size w
  have hS0 : Sep w w.heap.size [] := Sep.nil (Nat.le_refl _)
  refine fn_of_wp Try.func53 rfl (by kernel_rfl) (Nat.le_of_ble_eq_true rfl) ?_
  refine w_seq fun K1 hK1 => ?_
  refine w_region ?_
  refine wl_val (g_assign (v := .bool false) rfl) rfl ?_
  refine wl_nil ?_
  refine hK1 _ _ ?_
  refine w_seq fun K2 hK2 => ?_
  refine w_region ?_
  refine wl_val (g_move (v := .int .i64 p0) rfl) rfl ?_
  refine wl_val (g_move (v := .int .i64 p1) rfl) rfl ?_
  refine wl_val (g_geq (a := p0) (b := p1) rfl rfl) rfl ?_
  refine wl_val (g_move (v := .bool (decide (p0 ≥ p1))) rfl) rfl ?_
  refine wl_guard (c := (decide (p0 ≥ p1)) = true) (val := .int .i64 p0) (b := ((decide (p0 ≥ p1)) == true)) (gv_some rfl rfl rfl) beq_iff_eq (fun hc3 => ?_) ?_
  · have hcq0 : p0 ≥ p1 := (decide_eq_true_iff.mp hc3)
    exact g_move (v := .int .i64 p0) rfl
  refine wl_guard (c := (decide (p0 ≥ p1)) = true) (val := .int .i64 p2) (b := ((decide (p0 ≥ p1)) == true)) (gv_some rfl rfl rfl) beq_iff_eq (fun hc4 => ?_) ?_
  · have hcq0 : p0 ≥ p1 := (decide_eq_true_iff.mp hc4)
    exact g_move (v := .int .i64 p2) rfl
  refine wl_guard (c := (decide (p0 ≥ p1)) = true) (val := .bool (decide (p0 ≤ p2))) (b := ((decide (p0 ≥ p1)) == true)) (gv_some rfl rfl rfl) beq_iff_eq (fun hc5 => ?_) ?_
  · have hcq0 : p0 ≥ p1 := (decide_eq_true_iff.mp hc5)
    exact g_leq (a := p0) (b := p2) (if_pos hc5) (if_pos hc5)
  refine wl_val (g_pick_and (b := (decide (p0 ≥ p1))) (q := (decide (p0 ≤ p2))) rfl rfl) rfl ?_
  refine wl_val (g_assign (v := .bool ((decide (p0 ≥ p1)) && (decide (p0 ≤ p2)))) rfl) rfl ?_
  refine wl_nil ?_
  refine hK2 _ _ ?_
  refine w_ret ?_
  repeat first | with_reducible refine q_then ?_ | with_reducible refine q_block ?_
  exact ret1 rfl (by decide) ⟨_, hm, rfl, toExt hB0⟩

theorem m_spec_CrossesOk_fn {w : World} {a1 : Option Addr} {n1 c1 : Nat} {p1 : List Cross} {Q : Bool → Prop} (p0 : Int) (hp1 : Vw w.heap.size w a1 n1 c1 p1) (hm : m_spec_CrossesOk p0 p1 Q) :
    Fn Try.prog 59 #[.int .i64 p0, .slice a1 n1 c1] w (fun v w' => ∃ (r0 : Bool), Q r0 ∧ v = .bool r0 ∧ Ext w w') := by
  unfold m_spec_CrossesOk at hm
  have hB0 := Below.refl w.heap.size w
  have hS0 : Sep w w.heap.size [] := Sep.nil (Nat.le_refl _)
  refine fn_of_wp Try.func59 rfl (by kernel_rfl) (Nat.le_of_ble_eq_true rfl) ?_
  refine w_seq fun K1 hK1 => ?_
  refine w_region ?_
  refine wl_val (g_assign (v := .bool false) rfl) rfl ?_
  refine wl_nil ?_
  refine hK1 _ _ ?_
  refine w_seq fun K2 hK2 => ?_
  refine w_seq fun K3 hK3 => ?_
  refine w_region ?_
  refine wl_val (g_move (v := .int .i64 p0) rfl) rfl ?_
  refine wl_step rfl (g_call (vs := #[.int .i64 p0, .int .i64 1, .int .i64 7]) CF53 (args3 rfl rfl rfl) (m_spec_l01In_fn p0 1 7 hm)) ?_
  rintro _ w4 ⟨r7, hm, rfl, hE5⟩
  have hB8 := hB0.trans (Ext.stp hE5 hS0.base)
  have hS9 := hS0.ext hE5
  refine wl_val (g_not (a := r7) rfl) rfl ?_
  refine wl_val (g_move (v := .bool (!r7)) rfl) rfl ?_
  refine wl_guard (c := (!r7) = false) (val := .slice a1 n1 c1) (b := ((!r7) == false)) (gv_some rfl rfl rfl) beq_iff_eq (fun hc10 => ?_) ?_
  · have hcq0 : ¬ (¬ (r7 = true)) := (i_neg (i_not Iff.rfl) hc10)
    exact g_move (v := .slice a1 n1 c1) rfl
  refine wl_guard (c := (!r7) = false) (val := .int .i64 (p1.length : Int)) (b := ((!r7) == false)) (gv_some rfl rfl rfl) beq_iff_eq (fun hc11 => ?_) ?_
  · have hcq0 : ¬ (¬ (r7 = true)) := (i_neg (i_not Iff.rfl) hc11)
    exact q_len SL24 (if_pos hc11) (Vw.len (hp1.bel hB8))
  refine wl_guard (c := (!r7) = false) (val := .bool (decide ((p1.length : Int) > 40))) (b := ((!r7) == false)) (gv_some rfl rfl rfl) beq_iff_eq (fun hc12 => ?_) ?_
  · have hcq0 : ¬ (¬ (r7 = true)) := (i_neg (i_not Iff.rfl) hc12)
    exact g_gtr (a := (p1.length : Int)) (b := 40) (if_pos hc12) rfl
  refine wl_val (g_pick_or (b := (!r7)) (q := (decide ((p1.length : Int) > 40))) rfl rfl) rfl ?_
  refine wl_nil ?_
  refine hK3 _ _ ?_
  refine w_condI (p := ((¬ (r7 = true)) ∨ ((p1.length : Int) > 40))) (b := ((!r7) || (decide ((p1.length : Int) > 40)))) rfl (i_or (i_not Iff.rfl) decide_eq_true_iff) (fun h13 => ?_) (fun h13 => ?_)
  · replace hm := hm.1 h13
    refine w_seq fun K14 hK14 => ?_
    refine w_region ?_
    refine wl_val (g_assign (v := .bool false) rfl) rfl ?_
    refine wl_nil ?_
    refine hK14 _ _ ?_
    refine w_ret ?_
    repeat first | with_reducible refine q_then ?_ | with_reducible refine q_block ?_
    exact ret1 rfl (by decide) ⟨_, hm, rfl, toExt hB8⟩
  · replace hm := hm.2 h13
    refine w_skip ?_
    refine hK2 _ _ ?_
    refine w_cut (σ := Unit) (fun _ => []) (fun _ w' => m_spec_CrossesOk_K0 Q ∧ Below w.heap.size w w' ∧ Sep w' w.heap.size []) ?_ ?_
    · refine w_seq fun K16 hK16 => ?_
      refine w_region ?_
      refine wl_val (g_assign (v := .int .i64 0) rfl) rfl ?_
      refine wl_nil ?_
      refine hK16 _ _ ?_
      refine w_block ?_
      obtain ⟨I42, μ43, h044, hr45⟩ := hm
      refine w_for (σ := Int) (fun v41 => [(0, .int .i64 p0), (1, .slice a1 n1 c1), (5, .int .i64 v41)]) (fun v41 w' => I42 v41 ∧ Below w.heap.size w w' ∧ Sep w' w.heap.size []) (fun v41 => μ43 v41) (0) ⟨rfl, rfl, rfl, trivial⟩ ⟨h044, hB8, hS9⟩ ?_
      rintro v41 b_ w46 ⟨hi_, hB47, hS48⟩
      show Wp _ _ _ _ (upds b_ [(0, .int .i64 p0), (1, .slice a1 n1 c1), (5, .int .i64 v41)]) w46
      have hm := hr45 v41 hi_
      refine w_seq fun K50 hK50 => ?_
      refine w_seq fun K51 hK51 => ?_
      refine w_region ?_
      refine wl_val (g_move (v := .int .i64 v41) rfl) rfl ?_
      refine wl_val (g_move (v := .slice a1 n1 c1) rfl) rfl ?_
      refine wl_val (q_len SL24 rfl (Vw.len (hp1.bel hB47))) rfl ?_
      refine wl_val (g_lss (a := v41) (b := (p1.length : Int)) rfl rfl) rfl ?_
      refine wl_nil ?_
      refine hK51 _ _ ?_
      refine w_condI (p := v41 < (p1.length : Int)) (b := (decide (v41 < (p1.length : Int)))) rfl decide_eq_true_iff (fun h52 => ?_) (fun h52 => ?_)
      · replace hm := hm.1 h52
        refine w_skip ?_
        refine hK50 _ _ ?_
        refine w_seq fun K53 hK53 => ?_
        refine w_block ?_
        refine w_seq fun K54 hK54 => ?_
        refine w_region ?_
        refine wl_val (g_move (v := .slice a1 n1 c1) rfl) rfl ?_
        refine wl_val (g_move (v := .int .i64 v41) rfl) rfl ?_
        obtain ⟨hg55, hm⟩ := hm
        refine wl_val (q_index (i := v41) SL24 rfl rfl (hp1.bel hB47) hg55) rfl ?_
        refine wl_val (g_fieldAddr (q := (adr a1).add ((Int.toNat v41) * El.m Cross)) FL56_0 ON3 rfl) rfl ?_
        refine wl_val (q_loadF (i := v41) (j := 0) (v := .int .i64 (p1[(Int.toNat v41)]!.1)) ON3 (hp1.bel hB47) hg55 rfl rfl) rfl ?_
        refine wl_val (g_move (v := .int .i64 p0) rfl) rfl ?_
        obtain ⟨hg56, hm⟩ := hm
        refine wl_val (g_sub (a := p0) (b := 2) rfl rfl hg56) rfl ?_
        refine wl_step rfl (g_call (vs := #[.int .i64 (p1[(Int.toNat v41)]!.1), .int .i64 0, .int .i64 (p0 - 2)]) CF53 (args3 rfl rfl rfl) (m_spec_l01In_fn (p1[(Int.toNat v41)]!.1) 0 (p0 - 2) hm)) ?_
        rintro _ w57 ⟨r60, hm, rfl, hE58⟩
        have hB61 := hB47.trans (Ext.stp hE58 hS48.base)
        have hS62 := hS48.ext hE58
        refine wl_val (g_not (a := r60) rfl) rfl ?_
        refine wl_nil ?_
        refine hK54 _ _ ?_
        refine w_condI (p := ¬ (r60 = true)) (b := (!r60)) rfl (i_not Iff.rfl) (fun h63 => ?_) (fun h63 => ?_)
        · replace hm := hm.1 h63
          refine w_seq fun K64 hK64 => ?_
          refine w_region ?_
          refine wl_val (g_assign (v := .bool false) rfl) rfl ?_
          refine wl_nil ?_
          refine hK64 _ _ ?_
          refine w_ret ?_
          repeat first | with_reducible refine q_then ?_ | with_reducible refine q_block ?_
          exact ret1 rfl (by decide) ⟨_, hm, rfl, toExt hB61⟩
        · replace hm := hm.2 h63
          refine w_skip ?_
          refine hK53 _ _ ?_
          refine w_region ?_
          refine wl_val (g_move (v := .int .i64 v41) rfl) rfl ?_
          obtain ⟨hg65, hm⟩ := hm
          refine wl_val (g_add (a := v41) (b := 1) rfl rfl hg65) rfl ?_
          refine wl_val (g_assign (v := .int .i64 (v41 + 1)) rfl) rfl ?_
          refine wl_nil ?_
          exact ⟨((v41 + 1)), hm.2, ⟨rfl, rfl, rfl, trivial⟩, ⟨hm.1, hB61, hS62⟩⟩
      · replace hm := hm.2 h52
        refine w_exit ?_
        exact ⟨(), trivial, ⟨hm, hB47, hS48⟩⟩
    · rintro _ b_ w66 ⟨hm, hB67, hS68⟩
      show Wp _ _ _ _ (upds b_ []) w66
      refine w_seq fun K69 hK69 => ?_
      refine w_region ?_
      refine wl_val (g_assign (v := .bool true) rfl) rfl ?_
      refine wl_nil ?_
      refine hK69 _ _ ?_
      refine w_ret ?_
      repeat first | with_reducible refine q_then ?_ | with_reducible refine q_block ?_
      exact ret1 rfl (by decide) ⟨_, hm, rfl, toExt hB67⟩

theorem m_spec_l08Start_fn {w : World}  {Q : (List Int) → Prop} (p0 : Int) (hm : m_spec_l08Start p0 Q) :
    Fn Try.prog 60 #[.int .i64 p0] w (fun v w' => ∃ (r0 : List Int) (a0 : Option Addr) (n0 c0 : Nat), Q r0 ∧ v = .slice a0 n0 c0 ∧ Ext w w' ∧ Sep w' w.heap.size [oS 3 a0 n0 c0 r0]) := by
  unfold m_spec_l08Start at hm
  have hB0 := Below.refl w.heap.size w
  have hS0 : Sep w w.heap.size [] := Sep.nil (Nat.le_refl _)
  refine fn_of_wp Try.func60 rfl (by kernel_rfl) (Nat.le_of_ble_eq_true rfl) ?_
  refine w_seq fun K1 hK1 => ?_
  refine w_region ?_
  refine wl_val (g_assign (v := .slice none 0 0) rfl) rfl ?_
  refine wl_nil ?_
  refine hK1 _ _ ?_
  refine w_seq fun K2 hK2 => ?_
  refine w_region ?_
  refine wl_step rfl (q_lit0 (α := Int) rfl SL39 hS0) ?_
  rintro _ w3 ⟨a4, rfl, hS6, hE5⟩
  have hB8 := hB0.trans (Ext.stp hE5 hS0.base)
  refine wl_val (g_assign (v := .slice a4 0 0) rfl) rfl ?_
  refine wl_nil ?_
  refine hK2 _ _ ?_
  refine w_cut (σ := List Int × Option Addr × Nat × Nat) (fun ⟨x72, a73, n74, c75⟩ => [(3, .slice a73 n74 c75)]) (fun ⟨x72, a73, n74, c75⟩ w' => m_spec_l08Start_K0 Q x72 ∧ Below w.heap.size w w' ∧ Sep w' w.heap.size [oS 3 a73 n74 c75 (x72 : List Int)]) ?_ ?_
  · refine w_seq fun K77 hK77 => ?_
    refine w_region ?_
    refine wl_val (g_assign (v := .int .i64 0) rfl) rfl ?_
    refine wl_nil ?_
    refine hK77 _ _ ?_
    refine w_block ?_
    obtain ⟨I83, μ84, h085, hr86⟩ := hm
    refine w_for (σ := List Int × Option Addr × Nat × Nat × Int) (fun ⟨x78, a79, n80, c81, v82⟩ => [(0, .int .i64 p0), (3, .slice a79 n80 c81), (4, .int .i64 v82)]) (fun ⟨x78, a79, n80, c81, v82⟩ w' => I83 x78 v82 ∧ Below w.heap.size w w' ∧ Sep w' w.heap.size [oS 3 a79 n80 c81 (x78 : List Int)]) (fun ⟨x78, a79, n80, c81, v82⟩ => μ84 x78 v82) ([], a4, 0, 0, 0) ⟨rfl, rfl, rfl, trivial⟩ ⟨h085, hB8, hS6⟩ ?_
    rintro ⟨x78, a79, n80, c81, v82⟩ b_ w87 ⟨hi_, hB88, hS89⟩
    show Wp _ _ _ _ (upds b_ [(0, .int .i64 p0), (3, .slice a79 n80 c81), (4, .int .i64 v82)]) w87
    have hm := hr86 x78 v82 hi_
    refine w_seq fun K91 hK91 => ?_
    refine w_seq fun K92 hK92 => ?_
    refine w_region ?_
    refine wl_val (g_move (v := .int .i64 v82) rfl) rfl ?_
    refine wl_val (g_move (v := .int .i64 p0) rfl) rfl ?_
    refine wl_val (g_lss (a := v82) (b := p0) rfl rfl) rfl ?_
    refine wl_nil ?_
    refine hK92 _ _ ?_
    refine w_condI (p := v82 < p0) (b := (decide (v82 < p0))) rfl decide_eq_true_iff (fun h93 => ?_) (fun h93 => ?_)
    · replace hm := hm.1 h93
      refine w_skip ?_
      refine hK91 _ _ ?_
      refine w_seq fun K94 hK94 => ?_
      refine w_block ?_
      refine w_region ?_
      refine wl_val (g_move (v := .slice a79 n80 c81) rfl) rfl ?_
      refine wl_val (g_move (v := .int .i64 v82) rfl) rfl ?_
      refine wl_step rfl (q_lit1 (y := (v82 : Int)) SL39 rfl rfl (by decide) hS89) ?_
      rintro _ w95 ⟨a96, rfl, hS98, hE97⟩
      have hB100 := hB88.trans (Ext.stp hE97 hS89.base)
      have hS106 := hS98.f1
      obtain ⟨hg107, hm⟩ := hm
      refine wl_step rfl (q_append SL39 rfl rfl hS106 (oS.vw hS106.g1) hg107 (by decide)) ?_
      rintro _ w101 ⟨a102, c103, rfl, hS105, hb104⟩
      have hB108 := hB100.trans hb104
      refine wl_val (g_assign (v := .slice a102 (n80 + 1) c103) rfl) rfl ?_
      refine wl_nil ?_
      refine hK94 _ _ ?_
      refine w_region ?_
      refine wl_val (g_move (v := .int .i64 v82) rfl) rfl ?_
      obtain ⟨hg109, hm⟩ := hm
      refine wl_val (g_add (a := v82) (b := 1) rfl rfl hg109) rfl ?_
      refine wl_val (g_assign (v := .int .i64 (v82 + 1)) rfl) rfl ?_
      refine wl_nil ?_
      have hS110 := hS105.f1
      have hS111 := hS110.tail
      exact ⟨((x78 ++ ([v82])), a102, (n80 + 1), c103, (v82 + 1)), hm.2, ⟨rfl, rfl, rfl, trivial⟩, ⟨hm.1, hB108, hS111⟩⟩
    · replace hm := hm.2 h93
      refine w_exit ?_
      exact ⟨(x78, a79, n80, c81), ⟨rfl, trivial⟩, ⟨hm, hB88, hS89⟩⟩
  · rintro ⟨x72, a73, n74, c75⟩ b_ w112 ⟨hm, hB113, hS114⟩
    show Wp _ _ _ _ (upds b_ [(3, .slice a73 n74 c75)]) w112
    refine w_seq fun K115 hK115 => ?_
    refine w_region ?_
    refine wl_val (g_move (v := .slice a73 n74 c75) rfl) rfl ?_
    refine wl_val (g_assign (v := .slice a73 n74 c75) rfl) rfl ?_
    refine wl_nil ?_
    refine hK115 _ _ ?_
    refine w_ret ?_
    repeat first | with_reducible refine q_then ?_ | with_reducible refine q_block ?_
    exact ret1 rfl (by decide) ⟨_, _, _, _, hm, rfl, toExt hB113, hS114⟩

theorem m_spec_OrderOk_fn {w : World} {a0 : Option Addr} {n0 c0 : Nat} {p0 : List Int} {Q : Bool → Prop} (hp0 : Vw w.heap.size w a0 n0 c0 p0) (hm : m_spec_OrderOk p0 Q) :
    Fn Try.prog 62 #[.slice a0 n0 c0] w (fun v w' => ∃ (r0 : Bool), Q r0 ∧ v = .bool r0 ∧ Ext w w') := by
  unfold m_spec_OrderOk at hm
  have hB0 := Below.refl w.heap.size w
  have hS0 : Sep w w.heap.size [] := Sep.nil (Nat.le_refl _)
  refine fn_of_wp Try.func62 rfl (by kernel_rfl) (Nat.le_of_ble_eq_true rfl) ?_
  refine w_seq fun K1 hK1 => ?_
  refine w_region ?_
  refine wl_val (g_assign (v := .bool false) rfl) rfl ?_
  refine wl_nil ?_
  refine hK1 _ _ ?_
  refine w_cut (σ := Unit) (fun _ => [(0, .slice a0 n0 c0)]) (fun _ w' => m_spec_OrderOk_K1 p0 Q ∧ Below w.heap.size w w' ∧ Sep w' w.heap.size []) ?_ ?_
  · refine w_seq fun K3 hK3 => ?_
    refine w_region ?_
    refine wl_val (g_assign (v := .int .i64 0) rfl) rfl ?_
    refine wl_nil ?_
    refine hK3 _ _ ?_
    refine w_block ?_
    obtain ⟨I159, μ160, h0161, hr162⟩ := hm
    refine w_for (σ := Int) (fun v158 => [(0, .slice a0 n0 c0), (3, .int .i64 v158)]) (fun v158 w' => I159 v158 ∧ Below w.heap.size w w' ∧ Sep w' w.heap.size []) (fun v158 => μ160 v158) (0) ⟨rfl, rfl, trivial⟩ ⟨h0161, hB0, hS0⟩ ?_
    rintro v158 b_ w163 ⟨hi_, hB164, hS165⟩
    show Wp _ _ _ _ (upds b_ [(0, .slice a0 n0 c0), (3, .int .i64 v158)]) w163
    have hm := hr162 v158 hi_
    refine w_seq fun K167 hK167 => ?_
    refine w_seq fun K168 hK168 => ?_
    refine w_region ?_
    refine wl_val (g_move (v := .int .i64 v158) rfl) rfl ?_
    refine wl_val (g_move (v := .slice a0 n0 c0) rfl) rfl ?_
    refine wl_val (q_len SL39 rfl (Vw.len (hp0.bel hB164))) rfl ?_
    refine wl_val (g_lss (a := v158) (b := (p0.length : Int)) rfl rfl) rfl ?_
    refine wl_nil ?_
    refine hK168 _ _ ?_
    refine w_condI (p := v158 < (p0.length : Int)) (b := (decide (v158 < (p0.length : Int)))) rfl decide_eq_true_iff (fun h169 => ?_) (fun h169 => ?_)
    · replace hm := hm.1 h169
      refine w_skip ?_
      refine hK167 _ _ ?_
      refine w_cut (σ := Unit) (fun _ => [(0, .slice a0 n0 c0), (3, .int .i64 v158)]) (fun _ w' => m_spec_OrderOk_K0 v158 (fun v158' => I159 v158' ∧ μ160 v158' < μ160 v158) ∧ Below w.heap.size w w' ∧ Sep w' w.heap.size []) ?_ ?_
      · refine w_block ?_
        refine w_seq fun K171 hK171 => ?_
        refine w_seq fun K172 hK172 => ?_
        refine w_region ?_
        refine wl_val (g_move (v := .slice a0 n0 c0) rfl) rfl ?_
        refine wl_val (g_move (v := .int .i64 v158) rfl) rfl ?_
        obtain ⟨hg173, hm⟩ := hm
        refine wl_val (q_index (i := v158) SL39 rfl rfl (hp0.bel hB164) hg173) rfl ?_
        refine wl_val (q_load (i := v158) (v := .int .i64 (p0[(Int.toNat v158)]!)) ON3 (hp0.bel hB164) hg173 rfl rfl) rfl ?_
        refine wl_val (g_move (v := .slice a0 n0 c0) rfl) rfl ?_
        refine wl_val (q_len SL39 rfl (Vw.len (hp0.bel hB164))) rfl ?_
        obtain ⟨hg174, hm⟩ := hm
        refine wl_val (g_sub (a := (p0.length : Int)) (b := 1) rfl rfl hg174) rfl ?_
        refine wl_step rfl (g_call (vs := #[.int .i64 (p0[(Int.toNat v158)]!), .int .i64 0, .int .i64 ((p0.length : Int) - 1)]) CF53 (args3 rfl rfl rfl) (m_spec_l01In_fn (p0[(Int.toNat v158)]!) 0 ((p0.length : Int) - 1) hm)) ?_
        rintro _ w175 ⟨r178, hm, rfl, hE176⟩
        have hB179 := hB164.trans (Ext.stp hE176 hS165.base)
        have hS180 := hS165.ext hE176
        refine wl_val (g_not (a := r178) rfl) rfl ?_
        refine wl_nil ?_
        refine hK172 _ _ ?_
        refine w_condI (p := ¬ (r178 = true)) (b := (!r178)) rfl (i_not Iff.rfl) (fun h181 => ?_) (fun h181 => ?_)
        · replace hm := hm.1 h181
          refine w_seq fun K182 hK182 => ?_
          refine w_region ?_
          refine wl_val (g_assign (v := .bool false) rfl) rfl ?_
          refine wl_nil ?_
          refine hK182 _ _ ?_
          refine w_ret ?_
          repeat first | with_reducible refine q_then ?_ | with_reducible refine q_block ?_
          exact ret1 rfl (by decide) ⟨_, hm, rfl, toExt hB179⟩
        · replace hm := hm.2 h181
          refine w_skip ?_
          refine hK171 _ _ ?_
          refine w_seq fun K183 hK183 => ?_
          refine w_region ?_
          refine wl_val (g_assign (v := .int .i64 0) rfl) rfl ?_
          refine wl_nil ?_
          refine hK183 _ _ ?_
          refine w_block ?_
          obtain ⟨I185, μ186, h0187, hr188⟩ := hm
          refine w_for (σ := Int) (fun v184 => [(0, .slice a0 n0 c0), (3, .int .i64 v158), (4, .int .i64 v184)]) (fun v184 w' => I185 v184 ∧ Below w.heap.size w w' ∧ Sep w' w.heap.size []) (fun v184 => μ186 v184) (0) ⟨rfl, rfl, rfl, trivial⟩ ⟨h0187, hB179, hS180⟩ ?_
          rintro v184 b_ w189 ⟨hi_, hB190, hS191⟩
          show Wp _ _ _ _ (upds b_ [(0, .slice a0 n0 c0), (3, .int .i64 v158), (4, .int .i64 v184)]) w189
          have hm := hr188 v184 hi_
          refine w_seq fun K193 hK193 => ?_
          refine w_seq fun K194 hK194 => ?_
          refine w_region ?_
          refine wl_val (g_move (v := .int .i64 v184) rfl) rfl ?_
          refine wl_val (g_move (v := .int .i64 v158) rfl) rfl ?_
          refine wl_val (g_lss (a := v184) (b := v158) rfl rfl) rfl ?_
          refine wl_nil ?_
          refine hK194 _ _ ?_
          refine w_condI (p := v184 < v158) (b := (decide (v184 < v158))) rfl decide_eq_true_iff (fun h195 => ?_) (fun h195 => ?_)
          · replace hm := hm.1 h195
            refine w_skip ?_
            refine hK193 _ _ ?_
            refine w_seq fun K196 hK196 => ?_
            refine w_block ?_
            refine w_seq fun K197 hK197 => ?_
            refine w_draw (X := Ext) (Y := Ext) [] MIX (by decide +kernel) rfl Ext.refl (fun _ _ _ => Ext.trans) (fun _ _ _ => Chg.trans) (fun _ _ h => Ext.chg h _) (fun w198 hE199 => ?_)
            have hB200 := hB190.trans (Ext.stp hE199 hS191.base)
            have hS201 := hS191.ext hE199
            refine ⟨.slice a0 n0 c0, fun w202 hX203 => od_plain rfl (by have hS204 := hS201.ext hX203; have hB205 := hB200.trans (Ext.stp hX203 hS201.base); exact is_ext (g_move (v := .slice a0 n0 c0) rfl)), ?_⟩
            refine ⟨.int .i64 v184, fun w206 hX207 => od_plain rfl (by have hS208 := hS201.ext hX207; have hB209 := hB200.trans (Ext.stp hX207 hS201.base); exact is_ext (g_move (v := .int .i64 v184) rfl)), ?_⟩
            obtain ⟨hg214, hm⟩ := hm
            refine ⟨.pointer (some ((adr a0).add ((Int.toNat v184) * El.m Int))), fun w210 hX211 => od_plain rfl (by have hS212 := hS201.ext hX211; have hB213 := hB200.trans (Ext.stp hX211 hS201.base); exact is_ext (q_index (i := v184) SL39 rfl rfl (hp0.bel hB213) hg214)), ?_⟩
            refine ⟨.int .i64 (p0[(Int.toNat v184)]!), fun w215 hX216 => od_plain rfl (by have hS217 := hS201.ext hX216; have hB218 := hB200.trans (Ext.stp hX216 hS201.base); exact is_ext (q_load (i := v184) (v := .int .i64 (p0[(Int.toNat v184)]!)) ON3 (hp0.bel hB218) hg214 rfl rfl)), ?_⟩
            refine ⟨.slice a0 n0 c0, fun w219 hX220 => od_plain rfl (by have hS221 := hS201.ext hX220; have hB222 := hB200.trans (Ext.stp hX220 hS201.base); exact is_ext (g_move (v := .slice a0 n0 c0) rfl)), ?_⟩
            refine ⟨.int .i64 v158, fun w223 hX224 => od_plain rfl (by have hS225 := hS201.ext hX224; have hB226 := hB200.trans (Ext.stp hX224 hS201.base); exact is_ext (g_move (v := .int .i64 v158) rfl)), ?_⟩
            obtain ⟨hg231, hm⟩ := hm
            refine ⟨.pointer (some ((adr a0).add ((Int.toNat v158) * El.m Int))), fun w227 hX228 => od_plain rfl (by have hS229 := hS201.ext hX228; have hB230 := hB200.trans (Ext.stp hX228 hS201.base); exact is_ext (q_index (i := v158) SL39 rfl rfl (hp0.bel hB230) hg231)), ?_⟩
            refine ⟨.int .i64 (p0[(Int.toNat v158)]!), fun w232 hX233 => od_plain rfl (by have hS234 := hS201.ext hX233; have hB235 := hB200.trans (Ext.stp hX233 hS201.base); exact is_ext (q_load (i := v158) (v := .int .i64 (p0[(Int.toNat v158)]!)) ON3 (hp0.bel hB235) hg231 rfl rfl)), ?_⟩
            refine ⟨.bool (decide (p0[(Int.toNat v184)]! = p0[(Int.toNat v158)]!)), fun w236 hX237 => od_plain rfl (by have hS238 := hS201.ext hX237; have hB239 := hB200.trans (Ext.stp hX237 hS201.base); exact is_ext (g_eql (a := p0[(Int.toNat v184)]!) (b := p0[(Int.toNat v158)]!) rfl rfl)), ?_⟩
            intro w240 hX241
            have hB242 := hB200.trans (Ext.stp hX241 hS201.base)
            have hS243 := hS201.ext hX241
            refine hK197 _ _ ?_
            refine w_condI (p := p0[(Int.toNat v184)]! = p0[(Int.toNat v158)]!) (b := (decide (p0[(Int.toNat v184)]! = p0[(Int.toNat v158)]!))) rfl decide_eq_true_iff (fun h244 => ?_) (fun h244 => ?_)
            · replace hm := hm.1 h244
              refine w_seq fun K245 hK245 => ?_
              refine w_region ?_
              refine wl_val (g_assign (v := .bool false) rfl) rfl ?_
              refine wl_nil ?_
              refine hK245 _ _ ?_
              refine w_ret ?_
              repeat first | with_reducible refine q_then ?_ | with_reducible refine q_block ?_
              exact ret1 rfl (by decide) ⟨_, hm, rfl, toExt hB242⟩
            · replace hm := hm.2 h244
              refine w_skip ?_
              refine hK196 _ _ ?_
              refine w_region ?_
              refine wl_val (g_move (v := .int .i64 v184) rfl) rfl ?_
              obtain ⟨hg246, hm⟩ := hm
              refine wl_val (g_add (a := v184) (b := 1) rfl rfl hg246) rfl ?_
              refine wl_val (g_assign (v := .int .i64 (v184 + 1)) rfl) rfl ?_
              refine wl_nil ?_
              exact ⟨((v184 + 1)), hm.2, ⟨rfl, rfl, rfl, trivial⟩, ⟨hm.1, hB242, hS243⟩⟩
          · replace hm := hm.2 h195
            refine w_exit ?_
            exact ⟨(), ⟨rfl, rfl, trivial⟩, ⟨hm, hB190, hS191⟩⟩
      · rintro _ b_ w247 ⟨hm, hB248, hS249⟩
        show Wp _ _ _ _ (upds b_ [(0, .slice a0 n0 c0), (3, .int .i64 v158)]) w247
        refine w_region ?_
        refine wl_val (g_move (v := .int .i64 v158) rfl) rfl ?_
        obtain ⟨hg250, hm⟩ := hm
        refine wl_val (g_add (a := v158) (b := 1) rfl rfl hg250) rfl ?_
        refine wl_val (g_assign (v := .int .i64 (v158 + 1)) rfl) rfl ?_
        refine wl_nil ?_
        exact ⟨((v158 + 1)), hm.2, ⟨rfl, rfl, trivial⟩, ⟨hm.1, hB248, hS249⟩⟩
    · replace hm := hm.2 h169
      refine w_exit ?_
      exact ⟨(), ⟨rfl, trivial⟩, ⟨hm, hB164, hS165⟩⟩
  · rintro _ b_ w251 ⟨hm, hB252, hS253⟩
    show Wp _ _ _ _ (upds b_ [(0, .slice a0 n0 c0)]) w251
    refine w_seq fun K254 hK254 => ?_
    refine w_region ?_
    refine wl_val (g_move (v := .slice a0 n0 c0) rfl) rfl ?_
    refine wl_val (q_len SL39 rfl (Vw.len (hp0.bel hB252))) rfl ?_
    refine wl_step rfl (g_call (vs := #[.int .i64 (p0.length : Int), .int .i64 1, .int .i64 7]) CF53 (args3 rfl rfl rfl) (m_spec_l01In_fn (p0.length : Int) 1 7 hm)) ?_
    rintro _ w255 ⟨r258, hm, rfl, hE256⟩
    have hB259 := hB252.trans (Ext.stp hE256 hS253.base)
    have hS260 := hS253.ext hE256
    refine wl_val (g_assign (v := .bool r258) rfl) rfl ?_
    refine wl_nil ?_
    refine hK254 _ _ ?_
    refine w_ret ?_
    repeat first | with_reducible refine q_then ?_ | with_reducible refine q_block ?_
    exact ret1 rfl (by decide) ⟨_, hm, rfl, toExt hB259⟩

theorem m_spec_SwapAt_fn {w : World} {a0 : Option Addr} {n0 c0 : Nat} {p0 : List Int} {Q : (List Int) → Bool → Prop} (hp0 : Vw w.heap.size w a0 n0 c0 p0) (p1 : Int) (hm : m_spec_SwapAt p0 p1 Q) :
    Fn Try.prog 61 #[.slice a0 n0 c0, .int .i64 p1] w (fun v w' => ∃ (r0 : List Int) (a0 : Option Addr) (n0 c0 : Nat) (r1 : Bool), Q r0 r1 ∧ v = .tuple #[.slice a0 n0 c0, .bool r1] ∧ Ext w w' ∧ Sep w' w.heap.size [oS 3 a0 n0 c0 r0]) := by
  unfold m_spec_SwapAt at hm
  have hB0 := Below.refl w.heap.size w
  have hS0 : Sep w w.heap.size [] := Sep.nil (Nat.le_refl _)
  refine fn_of_wp Try.func61 rfl (by kernel_rfl) (Nat.le_of_ble_eq_true rfl) ?_
  refine w_seq fun K1 hK1 => ?_
  refine w_region ?_
  refine wl_val (g_assign (v := .slice none 0 0) rfl) rfl ?_
  refine wl_val (g_assign (v := .bool false) rfl) rfl ?_
  refine wl_nil ?_
  refine hK1 _ _ ?_
  refine w_seq fun K2 hK2 => ?_
  refine w_region ?_
  refine wl_step rfl (q_lit0 (α := Int) rfl SL39 hS0) ?_
  rintro _ w3 ⟨a4, rfl, hS6, hE5⟩
  have hB8 := hB0.trans (Ext.stp hE5 hS0.base)
  refine wl_val (g_move (v := .slice a0 n0 c0) rfl) rfl ?_
  obtain ⟨hg14, hm⟩ := hm
  refine wl_step rfl (q_append SL39 rfl rfl hS6 (hp0.bel hB8) hg14 (by decide)) ?_
  rintro _ w9 ⟨a10, c11, rfl, hS13, hb12⟩
  have hB15 := hB8.trans hb12
  refine wl_val (g_assign (v := .slice a10 (0 + n0) c11) rfl) rfl ?_
  refine wl_nil ?_
  refine hK2 _ _ ?_
  refine w_seq fun K16 hK16 => ?_
  refine w_seq fun K17 hK17 => ?_
  refine w_region ?_
  refine wl_val (g_move (v := .slice a0 n0 c0) rfl) rfl ?_
  refine wl_step rfl (g_call (vs := #[.slice a0 n0 c0]) CF62 (args1 rfl) (m_spec_OrderOk_fn ((hp0.bel hB15).up hS13) hm)) ?_
  rintro _ w18 ⟨r21, hm, rfl, hE19⟩
  have hB22 := hB15.trans (Ext.stp hE19 hS13.base)
  have hS23 := hS13.ext hE19
  refine wl_val (g_not (a := r21) rfl) rfl ?_
  refine wl_val (g_move (v := .bool (!r21)) rfl) rfl ?_
  refine wl_guard (c := (!r21) = false) (val := .int .i64 p1) (b := ((!r21) == false)) (gv_some rfl rfl rfl) beq_iff_eq (fun hc24 => ?_) ?_
  · have hcq0 : ¬ (¬ (r21 = true)) := (i_neg (i_not Iff.rfl) hc24)
    exact g_move (v := .int .i64 p1) rfl
  refine wl_guard (c := (!r21) = false) (val := .slice a0 n0 c0) (b := ((!r21) == false)) (gv_some rfl rfl rfl) beq_iff_eq (fun hc25 => ?_) ?_
  · have hcq0 : ¬ (¬ (r21 = true)) := (i_neg (i_not Iff.rfl) hc25)
    exact g_move (v := .slice a0 n0 c0) rfl
  refine wl_guard (c := (!r21) = false) (val := .int .i64 (p0.length : Int)) (b := ((!r21) == false)) (gv_some rfl rfl rfl) beq_iff_eq (fun hc26 => ?_) ?_
  · have hcq0 : ¬ (¬ (r21 = true)) := (i_neg (i_not Iff.rfl) hc26)
    exact q_len SL39 (if_pos hc26) (Vw.len (hp0.bel hB22))
  obtain ⟨hg28, hm⟩ := hm
  refine wl_guard (c := (!r21) = false) (val := .int .i64 ((p0.length : Int) - 2)) (b := ((!r21) == false)) (gv_some rfl rfl rfl) beq_iff_eq (fun hc27 => ?_) ?_
  · have hcq0 : ¬ (¬ (r21 = true)) := (i_neg (i_not Iff.rfl) hc27)
    exact g_sub (a := (p0.length : Int)) (b := 2) (if_pos hc27) rfl (hg28 hcq0)
  obtain ⟨r30, hk31, hm⟩ := hm
  refine wl_guardE (X := Ext) (c := (!r21) = false) (val := .bool r30) (Ext.refl _) (b := ((!r21) == false)) (gv_some rfl rfl rfl) beq_iff_eq (fun hc29 => ?_) (fun w32 hE33 => ?_)
  · have hcq0 : ¬ (¬ (r21 = true)) := (i_neg (i_not Iff.rfl) hc29)
    exact (g_call (vs := #[.int .i64 p1, .int .i64 0, .int .i64 ((p0.length : Int) - 2)]) CF53 (args3 (if_pos hc29) rfl (if_pos hc29)) ((m_spec_l01In_fn p1 0 ((p0.length : Int) - 2) (hk31 hcq0)).mono fun _ _ ⟨_, h1, h2, h3⟩ => ⟨by rw [h2, h1], h3⟩))
  have hB34 := hB22.trans (Ext.stp hE33 hS23.base)
  have hS35 := hS23.ext hE33
  refine wl_guard (c := (!r21) = false) (val := .bool (!r30)) (b := ((!r21) == false)) (gv_some rfl rfl rfl) beq_iff_eq (fun hc36 => ?_) ?_
  · have hcq0 : ¬ (¬ (r21 = true)) := (i_neg (i_not Iff.rfl) hc36)
    exact g_not (a := r30) (if_pos hc36)
  refine wl_val (g_pick_or (b := (!r21)) (q := (!r30)) rfl rfl) rfl ?_
  refine wl_nil ?_
  refine hK17 _ _ ?_
  refine w_condI (p := ((¬ (r21 = true)) ∨ (¬ (r30 = true)))) (b := ((!r21) || (!r30))) rfl (i_or (i_not Iff.rfl) (i_not Iff.rfl)) (fun h37 => ?_) (fun h37 => ?_)
  · replace hm := hm.1 h37
    refine w_seq fun K38 hK38 => ?_
    refine w_region ?_
    refine wl_val (g_move (v := .slice a10 (0 + n0) c11) rfl) rfl ?_
    refine wl_val (g_assign (v := .slice a10 (0 + n0) c11) rfl) rfl ?_
    refine wl_val (g_assign (v := .bool false) rfl) rfl ?_
    refine wl_nil ?_
    refine hK38 _ _ ?_
    refine w_ret ?_
    repeat first | with_reducible refine q_then ?_ | with_reducible refine q_block ?_
    exact ret2 rfl (by decide) (by decide) ⟨_, _, _, _, _, hm, rfl, toExt hB34, hS35⟩
  · replace hm := hm.2 h37
    refine w_skip ?_
    refine hK16 _ _ ?_
    refine w_seq fun K39 hK39 => ?_
    refine w_region ?_
    refine wl_val (g_move (v := .slice a10 (0 + n0) c11) rfl) rfl ?_
    refine wl_val (g_move (v := .int .i64 p1) rfl) rfl ?_
    refine wl_val (g_move (v := .slice a0 n0 c0) rfl) rfl ?_
    refine wl_val (g_move (v := .int .i64 p1) rfl) rfl ?_
    obtain ⟨hg40, hm⟩ := hm
    refine wl_val (g_add (a := p1) (b := 1) rfl rfl hg40) rfl ?_
    obtain ⟨hg41, hm⟩ := hm
    refine wl_val (q_index (i := (p1 + 1)) SL39 rfl rfl (hp0.bel hB34) hg41) rfl ?_
    refine wl_val (q_load (i := (p1 + 1)) (v := .int .i64 (p0[(Int.toNat (p1 + 1))]!)) ON3 (hp0.bel hB34) hg41 rfl rfl) rfl ?_
    obtain ⟨hg42, hm⟩ := hm
    refine wl_val (q_index (i := p1) SL39 rfl rfl (oS.vw hS35.g0) hg42) rfl ?_
    refine wl_step rfl (q_store (i := p1) (v := (p0[(Int.toNat (p1 + 1))]! : Int)) hS35 ON3.sz hg42 rfl rfl rfl) ?_
    rintro _ w43 ⟨rfl, hS44, hb45⟩
    have hB46 := hB34.trans hb45
    refine wl_nil ?_
    refine hK39 _ _ ?_
    refine w_seq fun K47 hK47 => ?_
    refine w_region ?_
    refine wl_val (g_move (v := .slice a10 (0 + n0) c11) rfl) rfl ?_
    refine wl_val (g_move (v := .int .i64 p1) rfl) rfl ?_
    obtain ⟨hg48, hm⟩ := hm
    refine wl_val (g_add (a := p1) (b := 1) rfl rfl hg48) rfl ?_
    refine wl_val (g_move (v := .slice a0 n0 c0) rfl) rfl ?_
    refine wl_val (g_move (v := .int .i64 p1) rfl) rfl ?_
    obtain ⟨hg49, hm⟩ := hm
    refine wl_val (q_index (i := p1) SL39 rfl rfl (hp0.bel hB46) hg49) rfl ?_
    refine wl_val (q_load (i := p1) (v := .int .i64 (p0[(Int.toNat p1)]!)) ON3 (hp0.bel hB46) hg49 rfl rfl) rfl ?_
    obtain ⟨hg50, hm⟩ := hm
    refine wl_val (q_index (i := (p1 + 1)) SL39 rfl rfl (oS.vw hS44.g0) hg50) rfl ?_
    refine wl_step rfl (q_store (i := (p1 + 1)) (v := (p0[(Int.toNat p1)]! : Int)) hS44 ON3.sz hg50 rfl rfl rfl) ?_
    rintro _ w51 ⟨rfl, hS52, hb53⟩
    have hB54 := hB46.trans hb53
    refine wl_nil ?_
    refine hK47 _ _ ?_
    refine w_seq fun K55 hK55 => ?_
    refine w_region ?_
    refine wl_val (g_move (v := .slice a10 (0 + n0) c11) rfl) rfl ?_
    refine wl_val (g_assign (v := .slice a10 (0 + n0) c11) rfl) rfl ?_
    refine wl_val (g_assign (v := .bool true) rfl) rfl ?_
    refine wl_nil ?_
    refine hK55 _ _ ?_
    refine w_ret ?_
    repeat first | with_reducible refine q_then ?_ | with_reducible refine q_block ?_
    exact ret2 rfl (by decide) (by decide) ⟨_, _, _, _, _, hm, rfl, toExt hB54, hS52⟩

theorem m_spec_OrderAfter_fn {w : World} {a1 : Option Addr} {n1 c1 : Nat} {p1 : List Cross} {Q : (List Int) → Prop} (p0 : Int) (hp1 : Vw w.heap.size w a1 n1 c1 p1) (hm : m_spec_OrderAfter p0 p1 Q) :
    Fn Try.prog 26 #[.int .i64 p0, .slice a1 n1 c1] w (fun v w' => ∃ (r0 : List Int) (a0 : Option Addr) (n0 c0 : Nat), Q r0 ∧ v = .slice a0 n0 c0 ∧ Ext w w' ∧ Sep w' w.heap.size [oS 3 a0 n0 c0 r0]) := by
  unfold m_spec_OrderAfter at hm
  have hB0 := Below.refl w.heap.size w
  have hS0 : Sep w w.heap.size [] := Sep.nil (Nat.le_refl _)
  refine fn_of_wp Try.func26 rfl (by kernel_rfl) (Nat.le_of_ble_eq_true rfl) ?_
  refine w_seq fun K1 hK1 => ?_
  refine w_region ?_
  refine wl_val (g_assign (v := .slice none 0 0) rfl) rfl ?_
  refine wl_nil ?_
  refine hK1 _ _ ?_
  refine w_seq fun K2 hK2 => ?_
  refine w_seq fun K3 hK3 => ?_
  refine w_region ?_
  refine wl_val (g_move (v := .int .i64 p0) rfl) rfl ?_
  refine wl_val (g_move (v := .slice a1 n1 c1) rfl) rfl ?_
  refine wl_step rfl (g_call (vs := #[.int .i64 p0, .slice a1 n1 c1]) CF59 (args2 rfl rfl) (m_spec_CrossesOk_fn p0 ((hp1.bel hB0).up hS0) hm)) ?_
  rintro _ w4 ⟨r7, hm, rfl, hE5⟩
  have hB8 := hB0.trans (Ext.stp hE5 hS0.base)
  have hS9 := hS0.ext hE5
  refine wl_val (g_not (a := r7) rfl) rfl ?_
  refine wl_nil ?_
  refine hK3 _ _ ?_
  refine w_condI (p := ¬ (r7 = true)) (b := (!r7)) rfl (i_not Iff.rfl) (fun h10 => ?_) (fun h10 => ?_)
  · replace hm := hm.1 h10
    refine w_seq fun K11 hK11 => ?_
    refine w_region ?_
    refine wl_step rfl (q_lit0 (α := Int) rfl SL39 hS9) ?_
    rintro _ w12 ⟨a13, rfl, hS15, hE14⟩
    have hB17 := hB8.trans (Ext.stp hE14 hS9.base)
    refine wl_val (g_assign (v := .slice a13 0 0) rfl) rfl ?_
    refine wl_nil ?_
    refine hK11 _ _ ?_
    refine w_ret ?_
    repeat first | with_reducible refine q_then ?_ | with_reducible refine q_block ?_
    exact ret1 rfl (by decide) ⟨_, _, _, _, hm, rfl, toExt hB17, hS15⟩
  · replace hm := hm.2 h10
    refine w_skip ?_
    refine hK2 _ _ ?_
    refine w_seq fun K18 hK18 => ?_
    refine w_region ?_
    refine wl_val (g_move (v := .int .i64 p0) rfl) rfl ?_
    refine wl_step rfl (g_call (vs := #[.int .i64 p0]) CF60 (args1 rfl) (m_spec_l08Start_fn p0 hm)) ?_
    rintro _ w19 ⟨r22, a23, n24, c25, hm, rfl, hE20, hN21⟩
    have hS27 := hS9.call1 hE20 hN21
    have hB28 := hB8.trans (Ext.stp hE20 hS9.base)
    refine wl_val (g_assign (v := .slice a23 n24 c25) rfl) rfl ?_
    refine wl_nil ?_
    refine hK18 _ _ ?_
    refine w_cut (σ := List Int × Option Addr × Nat × Nat) (fun ⟨x88, a89, n90, c91⟩ => [(5, .slice a89 n90 c91)]) (fun ⟨x88, a89, n90, c91⟩ w' => m_spec_OrderAfter_K0 Q x88 ∧ Below w.heap.size w w' ∧ Sep w' w.heap.size [oS 3 a89 n90 c91 (x88 : List Int)]) ?_ ?_
    · refine w_seq fun K93 hK93 => ?_
      refine w_region ?_
      refine wl_val (g_assign (v := .int .i64 0) rfl) rfl ?_
      refine wl_nil ?_
      refine hK93 _ _ ?_
      refine w_block ?_
      obtain ⟨I99, μ100, h0101, hr102⟩ := hm
      refine w_for (σ := List Int × Option Addr × Nat × Nat × Int) (fun ⟨x94, a95, n96, c97, v98⟩ => [(1, .slice a1 n1 c1), (5, .slice a95 n96 c97), (6, .int .i64 v98)]) (fun ⟨x94, a95, n96, c97, v98⟩ w' => I99 x94 v98 ∧ Below w.heap.size w w' ∧ Sep w' w.heap.size [oS 3 a95 n96 c97 (x94 : List Int)]) (fun ⟨x94, a95, n96, c97, v98⟩ => μ100 x94 v98) (r22, a23, n24, c25, 0) ⟨rfl, rfl, rfl, trivial⟩ ⟨h0101, hB28, hS27⟩ ?_
      rintro ⟨x94, a95, n96, c97, v98⟩ b_ w103 ⟨hi_, hB104, hS105⟩
      show Wp _ _ _ _ (upds b_ [(1, .slice a1 n1 c1), (5, .slice a95 n96 c97), (6, .int .i64 v98)]) w103
      have hm := hr102 x94 v98 hi_
      refine w_seq fun K107 hK107 => ?_
      refine w_seq fun K108 hK108 => ?_
      refine w_region ?_
      refine wl_val (g_move (v := .int .i64 v98) rfl) rfl ?_
      refine wl_val (g_move (v := .slice a1 n1 c1) rfl) rfl ?_
      refine wl_val (q_len SL24 rfl (Vw.len (hp1.bel hB104))) rfl ?_
      refine wl_val (g_lss (a := v98) (b := (p1.length : Int)) rfl rfl) rfl ?_
      refine wl_nil ?_
      refine hK108 _ _ ?_
      refine w_condI (p := v98 < (p1.length : Int)) (b := (decide (v98 < (p1.length : Int)))) rfl decide_eq_true_iff (fun h109 => ?_) (fun h109 => ?_)
      · replace hm := hm.1 h109
        refine w_skip ?_
        refine hK107 _ _ ?_
        refine w_seq fun K110 hK110 => ?_
        refine w_block ?_
        refine w_region ?_
        refine wl_val (g_move (v := .slice a95 n96 c97) rfl) rfl ?_
        refine wl_val (g_move (v := .slice a1 n1 c1) rfl) rfl ?_
        refine wl_val (g_move (v := .int .i64 v98) rfl) rfl ?_
        obtain ⟨hg111, hm⟩ := hm
        refine wl_val (q_index (i := v98) SL24 rfl rfl (hp1.bel hB104) hg111) rfl ?_
        refine wl_val (g_fieldAddr (q := (adr a1).add ((Int.toNat v98) * El.m Cross)) FL56_0 ON3 rfl) rfl ?_
        refine wl_val (q_loadF (i := v98) (j := 0) (v := .int .i64 (p1[(Int.toNat v98)]!.1)) ON3 (hp1.bel hB104) hg111 rfl rfl) rfl ?_
        refine wl_step rfl (g_call (vs := #[.slice a95 n96 c97, .int .i64 (p1[(Int.toNat v98)]!.1)]) CF61 (args2 rfl rfl) (m_spec_SwapAt_fn (oS.vw hS105.g0) (p1[(Int.toNat v98)]!.1) hm)) ?_
        rintro _ w112 ⟨r115, a116, n117, c118, r120, hm, rfl, hE113, hN114⟩
        have hS121 := hS105.call1 hE113 hN114
        have hB122 := hB104.trans (Ext.stp hE113 hS105.base)
        refine wl_val (g_move (v := .tuple #[.slice a116 n117 c118, .bool r120]) rfl) rfl ?_
        refine wl_val (g_extract (vs := #[.slice a116 n117 c118, .bool r120]) rfl rfl) rfl ?_
        refine wl_val (g_extract (vs := #[.slice a116 n117 c118, .bool r120]) rfl rfl) rfl ?_
        refine wl_val (g_assign (v := .slice a116 n117 c118) rfl) rfl ?_
        refine wl_nil ?_
        refine hK110 _ _ ?_
        refine w_region ?_
        refine wl_val (g_move (v := .int .i64 v98) rfl) rfl ?_
        obtain ⟨hg123, hm⟩ := hm
        refine wl_val (g_add (a := v98) (b := 1) rfl rfl hg123) rfl ?_
        refine wl_val (g_assign (v := .int .i64 (v98 + 1)) rfl) rfl ?_
        refine wl_nil ?_
        have hS124 := hS121.f1
        have hS125 := hS124.tail
        exact ⟨(r115, a116, n117, c118, (v98 + 1)), hm.2, ⟨rfl, rfl, rfl, trivial⟩, ⟨hm.1, hB122, hS125⟩⟩
      · replace hm := hm.2 h109
        refine w_exit ?_
        exact ⟨(x94, a95, n96, c97), ⟨rfl, trivial⟩, ⟨hm, hB104, hS105⟩⟩
    · rintro ⟨x88, a89, n90, c91⟩ b_ w126 ⟨hm, hB127, hS128⟩
      show Wp _ _ _ _ (upds b_ [(5, .slice a89 n90 c91)]) w126
      refine w_seq fun K129 hK129 => ?_
      refine w_region ?_
      refine wl_val (g_move (v := .slice a89 n90 c91) rfl) rfl ?_
      refine wl_val (g_assign (v := .slice a89 n90 c91) rfl) rfl ?_
      refine wl_nil ?_
      refine hK129 _ _ ?_
      refine w_ret ?_
      repeat first | with_reducible refine q_then ?_ | with_reducible refine q_block ?_
      exact ret1 rfl (by decide) ⟨_, _, _, _, hm, rfl, toExt hB127, hS128⟩

theorem m_impl_TwistOf_fn {w : World} {a1 : Option Addr} {n1 c1 : Nat} {p1 : List Cross} {Q : Int → Prop} (p0 : Int) (hp1 : Vw w.heap.size w a1 n1 c1 p1) (p2 : Int) (p3 : Int) (hm : m_impl_TwistOf p0 p1 p2 p3 Q) :
    Fn Try.prog 27 #[.int .i64 p0, .slice a1 n1 c1, .int .i64 p2, .int .i64 p3] w (fun v w' => ∃ (r0 : Int), Q r0 ∧ v = .int .i64 r0 ∧ Ext w w') := by
  unfold m_impl_TwistOf at hm
  have hB0 := Below.refl w.heap.size w
  have hS0 : Sep w w.heap.size [] := Sep.nil (Nat.le_refl _)
  refine fn_of_wp Try.func27 rfl (by kernel_rfl) (Nat.le_of_ble_eq_true rfl) ?_
  refine w_seq fun K1 hK1 => ?_
  refine w_region ?_
  refine wl_val (g_assign (v := .int .i64 0) rfl) rfl ?_
  refine wl_nil ?_
  refine hK1 _ _ ?_
  refine w_seq fun K2 hK2 => ?_
  refine w_seq fun K3 hK3 => ?_
  refine w_region ?_
  refine wl_val (g_move (v := .int .i64 p0) rfl) rfl ?_
  refine wl_val (g_move (v := .slice a1 n1 c1) rfl) rfl ?_
  refine wl_step rfl (g_call (vs := #[.int .i64 p0, .slice a1 n1 c1]) CF57 (args2 rfl rfl) (m_impl_CrossesOk_fn p0 ((hp1.bel hB0).up hS0) hm)) ?_
  rintro _ w4 ⟨r7, hm, rfl, hE5⟩
  have hB8 := hB0.trans (Ext.stp hE5 hS0.base)
  have hS9 := hS0.ext hE5
  refine wl_val (g_not (a := r7) rfl) rfl ?_
  refine wl_val (g_move (v := .bool (!r7)) rfl) rfl ?_
  refine wl_guard (c := (!r7) = false) (val := .int .i64 p2) (b := ((!r7) == false)) (gv_some rfl rfl rfl) beq_iff_eq (fun hc10 => ?_) ?_
  · have hcq0 : ¬ (¬ (r7 = true)) := (i_neg (i_not Iff.rfl) hc10)
    exact g_move (v := .int .i64 p2) rfl
  refine wl_guard (c := (!r7) = false) (val := .int .i64 p0) (b := ((!r7) == false)) (gv_some rfl rfl rfl) beq_iff_eq (fun hc11 => ?_) ?_
  · have hcq0 : ¬ (¬ (r7 = true)) := (i_neg (i_not Iff.rfl) hc11)
    exact g_move (v := .int .i64 p0) rfl
  obtain ⟨hg13, hm⟩ := hm
  refine wl_guard (c := (!r7) = false) (val := .int .i64 (p0 - 1)) (b := ((!r7) == false)) (gv_some rfl rfl rfl) beq_iff_eq (fun hc12 => ?_) ?_
  · have hcq0 : ¬ (¬ (r7 = true)) := (i_neg (i_not Iff.rfl) hc12)
    exact g_sub (a := p0) (b := 1) (if_pos hc12) rfl (hg13 hcq0)
  obtain ⟨r15, hk16, hm⟩ := hm
  refine wl_guardE (X := Ext) (c := (!r7) = false) (val := .bool r15) (Ext.refl _) (b := ((!r7) == false)) (gv_some rfl rfl rfl) beq_iff_eq (fun hc14 => ?_) (fun w17 hE18 => ?_)
  · have hcq0 : ¬ (¬ (r7 = true)) := (i_neg (i_not Iff.rfl) hc14)
    exact (g_call (vs := #[.int .i64 p2, .int .i64 0, .int .i64 (p0 - 1)]) CF54 (args3 (if_pos hc14) rfl (if_pos hc14)) ((m_impl_within_fn p2 0 (p0 - 1) (hk16 hcq0)).mono fun _ _ ⟨_, h1, h2, h3⟩ => ⟨by rw [h2, h1], h3⟩))
  have hB19 := hB8.trans (Ext.stp hE18 hS9.base)
  have hS20 := hS9.ext hE18
  refine wl_guard (c := (!r7) = false) (val := .bool (!r15)) (b := ((!r7) == false)) (gv_some rfl rfl rfl) beq_iff_eq (fun hc21 => ?_) ?_
  · have hcq0 : ¬ (¬ (r7 = true)) := (i_neg (i_not Iff.rfl) hc21)
    exact g_not (a := r15) (if_pos hc21)
  refine wl_val (g_pick_or (b := (!r7)) (q := (!r15)) rfl rfl) rfl ?_
  refine wl_val (g_move (v := .bool ((!r7) || (!r15))) rfl) rfl ?_
  refine wl_guard (c := ((!r7) || (!r15)) = false) (val := .int .i64 p3) (b := (((!r7) || (!r15)) == false)) (gv_some rfl rfl rfl) beq_iff_eq (fun hc22 => ?_) ?_
  · have hcq1 : ¬ (((¬ (r7 = true)) ∨ (¬ (r15 = true)))) := (i_neg (i_or (i_not Iff.rfl) (i_not Iff.rfl)) hc22)
    exact g_move (v := .int .i64 p3) rfl
  refine wl_guard (c := ((!r7) || (!r15)) = false) (val := .int .i64 p0) (b := (((!r7) || (!r15)) == false)) (gv_some rfl rfl rfl) beq_iff_eq (fun hc23 => ?_) ?_
  · have hcq1 : ¬ (((¬ (r7 = true)) ∨ (¬ (r15 = true)))) := (i_neg (i_or (i_not Iff.rfl) (i_not Iff.rfl)) hc23)
    exact g_move (v := .int .i64 p0) rfl
  obtain ⟨hg25, hm⟩ := hm
  refine wl_guard (c := ((!r7) || (!r15)) = false) (val := .int .i64 (p0 - 1)) (b := (((!r7) || (!r15)) == false)) (gv_some rfl rfl rfl) beq_iff_eq (fun hc24 => ?_) ?_
  · have hcq1 : ¬ (((¬ (r7 = true)) ∨ (¬ (r15 = true)))) := (i_neg (i_or (i_not Iff.rfl) (i_not Iff.rfl)) hc24)
    exact g_sub (a := p0) (b := 1) (if_pos hc24) rfl (hg25 hcq1)
  obtain ⟨r27, hk28, hm⟩ := hm
  refine wl_guardE (X := Ext) (c := ((!r7) || (!r15)) = false) (val := .bool r27) (Ext.refl _) (b := (((!r7) || (!r15)) == false)) (gv_some rfl rfl rfl) beq_iff_eq (fun hc26 => ?_) (fun w29 hE30 => ?_)
  · have hcq1 : ¬ (((¬ (r7 = true)) ∨ (¬ (r15 = true)))) := (i_neg (i_or (i_not Iff.rfl) (i_not Iff.rfl)) hc26)
    exact (g_call (vs := #[.int .i64 p3, .int .i64 0, .int .i64 (p0 - 1)]) CF54 (args3 (if_pos hc26) rfl (if_pos hc26)) ((m_impl_within_fn p3 0 (p0 - 1) (hk28 hcq1)).mono fun _ _ ⟨_, h1, h2, h3⟩ => ⟨by rw [h2, h1], h3⟩))
  have hB31 := hB19.trans (Ext.stp hE30 hS20.base)
  have hS32 := hS20.ext hE30
  refine wl_guard (c := ((!r7) || (!r15)) = false) (val := .bool (!r27)) (b := (((!r7) || (!r15)) == false)) (gv_some rfl rfl rfl) beq_iff_eq (fun hc33 => ?_) ?_
  · have hcq1 : ¬ (((¬ (r7 = true)) ∨ (¬ (r15 = true)))) := (i_neg (i_or (i_not Iff.rfl) (i_not Iff.rfl)) hc33)
    exact g_not (a := r27) (if_pos hc33)
  refine wl_val (g_pick_or (b := ((!r7) || (!r15))) (q := (!r27)) rfl rfl) rfl ?_
  refine wl_val (g_move (v := .bool (((!r7) || (!r15)) || (!r27))) rfl) rfl ?_
  refine wl_guard (c := (((!r7) || (!r15)) || (!r27)) = false) (val := .int .i64 p2) (b := ((((!r7) || (!r15)) || (!r27)) == false)) (gv_some rfl rfl rfl) beq_iff_eq (fun hc34 => ?_) ?_
  · have hcq2 : ¬ (((((¬ (r7 = true)) ∨ (¬ (r15 = true)))) ∨ (¬ (r27 = true)))) := (i_neg (i_or (i_or (i_not Iff.rfl) (i_not Iff.rfl)) (i_not Iff.rfl)) hc34)
    exact g_move (v := .int .i64 p2) rfl
  refine wl_guard (c := (((!r7) || (!r15)) || (!r27)) = false) (val := .int .i64 p3) (b := ((((!r7) || (!r15)) || (!r27)) == false)) (gv_some rfl rfl rfl) beq_iff_eq (fun hc35 => ?_) ?_
  · have hcq2 : ¬ (((((¬ (r7 = true)) ∨ (¬ (r15 = true)))) ∨ (¬ (r27 = true)))) := (i_neg (i_or (i_or (i_not Iff.rfl) (i_not Iff.rfl)) (i_not Iff.rfl)) hc35)
    exact g_move (v := .int .i64 p3) rfl
  refine wl_guard (c := (((!r7) || (!r15)) || (!r27)) = false) (val := .bool (decide (p2 = p3))) (b := ((((!r7) || (!r15)) || (!r27)) == false)) (gv_some rfl rfl rfl) beq_iff_eq (fun hc36 => ?_) ?_
  · have hcq2 : ¬ (((((¬ (r7 = true)) ∨ (¬ (r15 = true)))) ∨ (¬ (r27 = true)))) := (i_neg (i_or (i_or (i_not Iff.rfl) (i_not Iff.rfl)) (i_not Iff.rfl)) hc36)
    exact g_eql (a := p2) (b := p3) (if_pos hc36) (if_pos hc36)
  refine wl_val (g_pick_or (b := (((!r7) || (!r15)) || (!r27))) (q := (decide (p2 = p3))) rfl rfl) rfl ?_
  refine wl_nil ?_
  refine hK3 _ _ ?_
  refine w_condI (p := ((((((¬ (r7 = true)) ∨ (¬ (r15 = true)))) ∨ (¬ (r27 = true)))) ∨ (p2 = p3))) (b := ((((!r7) || (!r15)) || (!r27)) || (decide (p2 = p3)))) rfl (i_or (i_or (i_or (i_not Iff.rfl) (i_not Iff.rfl)) (i_not Iff.rfl)) decide_eq_true_iff) (fun h37 => ?_) (fun h37 => ?_)
  · replace hm := hm.1 h37
    refine w_seq fun K38 hK38 => ?_
    refine w_region ?_
    refine wl_val (g_assign (v := .int .i64 0) rfl) rfl ?_
    refine wl_nil ?_
    refine hK38 _ _ ?_
    refine w_ret ?_
    repeat first | with_reducible refine q_then ?_ | with_reducible refine q_block ?_
    exact ret1 rfl (by decide) ⟨_, hm, rfl, toExt hB31⟩
  · replace hm := hm.2 h37
    refine w_skip ?_
    refine hK2 _ _ ?_
    refine w_seq fun K39 hK39 => ?_
    refine w_region ?_
    refine wl_val (g_move (v := .int .i64 p0) rfl) rfl ?_
    refine wl_val (g_move (v := .slice a1 n1 c1) rfl) rfl ?_
    refine wl_step rfl (g_call (vs := #[.int .i64 p0, .slice a1 n1 c1]) CF58 (args2 rfl rfl) (m_impl_twists_fn p0 ((hp1.bel hB31).up hS32) hm)) ?_
    rintro _ w40 ⟨r43, a44, n45, c46, y47, hm, he48, rfl, hE41, hN42⟩
    have hS52 := hS32.call2 hE41 hN42
    have hB53 := hB31.trans (Ext.stp hE41 hS32.base)
    refine wl_val (g_move (v := .int .i64 p2) rfl) rfl ?_
    obtain ⟨hg54, hm⟩ := hm
    refine wl_val (q_index (i := p2) SL37 rfl rfl (Tv.o (oT.vw hS52.g0 hS52.g1 he48)) (Tv.g (oT.vw hS52.g0 hS52.g1 he48) hg54)) rfl ?_
    refine wl_val (q_load (i := p2) (v := .slice ((y47[(Int.toNat p2)]!).1) ((y47[(Int.toNat p2)]!).2.2.length) ((y47[(Int.toNat p2)]!).2.1)) ON39 (Tv.o (oT.vw hS52.g0 hS52.g1 he48)) (Tv.g (oT.vw hS52.g0 hS52.g1 he48) hg54) rfl rfl) rfl ?_
    refine wl_val (g_move (v := .int .i64 p3) rfl) rfl ?_
    obtain ⟨hg55, hm⟩ := hm
    refine wl_val (q_index (i := p3) SL39 rfl rfl (Tv.row (oT.vw hS52.g0 hS52.g1 he48) hg54) hg55) rfl ?_
    refine wl_val (q_load (i := p3) (v := .int .i64 ((r43[(Int.toNat p2)]!)[(Int.toNat p3)]!)) ON3 (Tv.row (oT.vw hS52.g0 hS52.g1 he48) hg54) hg55 rfl rfl) rfl ?_
    refine wl_val (g_assign (v := .int .i64 ((r43[(Int.toNat p2)]!)[(Int.toNat p3)]!)) rfl) rfl ?_
    refine wl_nil ?_
    refine hK39 _ _ ?_
    refine w_ret ?_
    repeat first | with_reducible refine q_then ?_ | with_reducible refine q_block ?_
    exact ret1 rfl (by decide) ⟨_, hm, rfl, toExt hB53⟩

theorem m_spec_PlaceOf_fn {w : World} {a0 : Option Addr} {n0 c0 : Nat} {p0 : List Int} {Q : Int → Prop} (hp0 : Vw w.heap.size w a0 n0 c0 p0) (p1 : Int) (hm : m_spec_PlaceOf p0 p1 Q) :
    Fn Try.prog 28 #[.slice a0 n0 c0, .int .i64 p1] w (fun v w' => ∃ (r0 : Int), Q r0 ∧ v = .int .i64 r0 ∧ Ext w w') := by
  unfold m_spec_PlaceOf at hm
  have hB0 := Below.refl w.heap.size w
  have hS0 : Sep w w.heap.size [] := Sep.nil (Nat.le_refl _)
  refine fn_of_wp Try.func28 rfl (by kernel_rfl) (Nat.le_of_ble_eq_true rfl) ?_
  refine w_seq fun K1 hK1 => ?_
  refine w_region ?_
  refine wl_val (g_assign (v := .int .i64 0) rfl) rfl ?_
  refine wl_nil ?_
  refine hK1 _ _ ?_
  refine w_cut (σ := Unit) (fun _ => []) (fun _ w' => m_spec_PlaceOf_K0 Q ∧ Below w.heap.size w w' ∧ Sep w' w.heap.size []) ?_ ?_
  · refine w_seq fun K3 hK3 => ?_
    refine w_region ?_
    refine wl_val (g_assign (v := .int .i64 0) rfl) rfl ?_
    refine wl_nil ?_
    refine hK3 _ _ ?_
    refine w_block ?_
    obtain ⟨I30, μ31, h032, hr33⟩ := hm
    refine w_for (σ := Int) (fun v29 => [(0, .slice a0 n0 c0), (1, .int .i64 p1), (5, .int .i64 v29)]) (fun v29 w' => I30 v29 ∧ Below w.heap.size w w' ∧ Sep w' w.heap.size []) (fun v29 => μ31 v29) (0) ⟨rfl, rfl, rfl, trivial⟩ ⟨h032, hB0, hS0⟩ ?_
    rintro v29 b_ w34 ⟨hi_, hB35, hS36⟩
    show Wp _ _ _ _ (upds b_ [(0, .slice a0 n0 c0), (1, .int .i64 p1), (5, .int .i64 v29)]) w34
    have hm := hr33 v29 hi_
    refine w_seq fun K38 hK38 => ?_
    refine w_seq fun K39 hK39 => ?_
    refine w_region ?_
    refine wl_val (g_move (v := .int .i64 v29) rfl) rfl ?_
    refine wl_val (g_move (v := .slice a0 n0 c0) rfl) rfl ?_
    refine wl_val (q_len SL39 rfl (Vw.len (hp0.bel hB35))) rfl ?_
    refine wl_val (g_lss (a := v29) (b := (p0.length : Int)) rfl rfl) rfl ?_
    refine wl_val (g_move (v := .bool (decide (v29 < (p0.length : Int)))) rfl) rfl ?_
    refine wl_guard (c := (decide (v29 < (p0.length : Int))) = true) (val := .slice a0 n0 c0) (b := ((decide (v29 < (p0.length : Int))) == true)) (gv_some rfl rfl rfl) beq_iff_eq (fun hc40 => ?_) ?_
    · have hcq1 : v29 < (p0.length : Int) := (decide_eq_true_iff.mp hc40)
      exact g_move (v := .slice a0 n0 c0) rfl
    obtain ⟨r42, hk43, hm⟩ := hm
    refine wl_guardE (X := Ext) (c := (decide (v29 < (p0.length : Int))) = true) (val := .bool r42) (Ext.refl _) (b := ((decide (v29 < (p0.length : Int))) == true)) (gv_some rfl rfl rfl) beq_iff_eq (fun hc41 => ?_) (fun w44 hE45 => ?_)
    · have hcq1 : v29 < (p0.length : Int) := (decide_eq_true_iff.mp hc41)
      exact (g_call (vs := #[.slice a0 n0 c0]) CF62 (args1 (if_pos hc41)) ((m_spec_OrderOk_fn ((hp0.bel hB35).up hS36) (hk43 hcq1)).mono fun _ _ ⟨_, h1, h2, h3⟩ => ⟨by rw [h2, h1], h3⟩))
    have hB46 := hB35.trans (Ext.stp hE45 hS36.base)
    have hS47 := hS36.ext hE45
    refine wl_val (g_pick_and (b := (decide (v29 < (p0.length : Int)))) (q := r42) rfl rfl) rfl ?_
    refine wl_nil ?_
    refine hK39 _ _ ?_
    refine w_condI (p := ((v29 < (p0.length : Int)) ∧ (r42 = true))) (b := ((decide (v29 < (p0.length : Int))) && r42)) rfl (i_and decide_eq_true_iff Iff.rfl) (fun h48 => ?_) (fun h48 => ?_)
    · replace hm := hm.1 h48
      refine w_skip ?_
      refine hK38 _ _ ?_
      refine w_seq fun K49 hK49 => ?_
      refine w_block ?_
      refine w_seq fun K50 hK50 => ?_
      refine w_region ?_
      refine wl_val (g_move (v := .slice a0 n0 c0) rfl) rfl ?_
      refine wl_val (g_move (v := .int .i64 v29) rfl) rfl ?_
      obtain ⟨hg51, hm⟩ := hm
      refine wl_val (q_index (i := v29) SL39 rfl rfl (hp0.bel hB46) hg51) rfl ?_
      refine wl_val (q_load (i := v29) (v := .int .i64 (p0[(Int.toNat v29)]!)) ON3 (hp0.bel hB46) hg51 rfl rfl) rfl ?_
      refine wl_val (g_move (v := .int .i64 p1) rfl) rfl ?_
      refine wl_val (g_eql (a := p0[(Int.toNat v29)]!) (b := p1) rfl rfl) rfl ?_
      refine wl_nil ?_
      refine hK50 _ _ ?_
      refine w_condI (p := p0[(Int.toNat v29)]! = p1) (b := (decide (p0[(Int.toNat v29)]! = p1))) rfl decide_eq_true_iff (fun h52 => ?_) (fun h52 => ?_)
      · replace hm := hm.1 h52
        refine w_seq fun K53 hK53 => ?_
        refine w_region ?_
        refine wl_val (g_move (v := .int .i64 v29) rfl) rfl ?_
        refine wl_val (g_assign (v := .int .i64 v29) rfl) rfl ?_
        refine wl_nil ?_
        refine hK53 _ _ ?_
        refine w_ret ?_
        repeat first | with_reducible refine q_then ?_ | with_reducible refine q_block ?_
        exact ret1 rfl (by decide) ⟨_, hm, rfl, toExt hB46⟩
      · replace hm := hm.2 h52
        refine w_skip ?_
        refine hK49 _ _ ?_
        refine w_region ?_
        refine wl_val (g_move (v := .int .i64 v29) rfl) rfl ?_
        obtain ⟨hg54, hm⟩ := hm
        refine wl_val (g_add (a := v29) (b := 1) rfl rfl hg54) rfl ?_
        refine wl_val (g_assign (v := .int .i64 (v29 + 1)) rfl) rfl ?_
        refine wl_nil ?_
        exact ⟨((v29 + 1)), hm.2, ⟨rfl, rfl, rfl, trivial⟩, ⟨hm.1, hB46, hS47⟩⟩
    · replace hm := hm.2 h48
      refine w_exit ?_
      exact ⟨(), trivial, ⟨hm, hB46, hS47⟩⟩
  · rintro _ b_ w55 ⟨hm, hB56, hS57⟩
    show Wp _ _ _ _ (upds b_ []) w55
    refine w_seq fun K58 hK58 => ?_
    refine w_region ?_
    refine wl_val (g_assign (v := .int .i64 (-1)) rfl) rfl ?_
    refine wl_nil ?_
    refine hK58 _ _ ?_
    refine w_ret ?_
    repeat first | with_reducible refine q_then ?_ | with_reducible refine q_block ?_
    exact ret1 rfl (by decide) ⟨_, hm, rfl, toExt hB56⟩

theorem m_laws_btoi_fn {w : World}  {Q : Int → Prop} (p0 : Bool) (hm : m_laws_btoi p0 Q) :
    Fn Try.prog 29 #[.bool p0] w (fun v w' => ∃ (r0 : Int), Q r0 ∧ v = .int .i64 r0 ∧ Ext w w') := by
  unfold m_laws_btoi at hm
  have hB0 := Below.refl w.heap.size w
  have hS0 : Sep w w.heap.size [] := Sep.nil (Nat.le_refl _)
  refine fn_of_wp Try.func29 rfl (by kernel_rfl) (Nat.le_of_ble_eq_true rfl) ?_
  refine w_seq fun K1 hK1 => ?_
  refine w_region ?_
  refine wl_val (g_assign (v := .int .i64 0) rfl) rfl ?_
  refine wl_nil ?_
  refine hK1 _ _ ?_
  refine w_seq fun K2 hK2 => ?_
  refine w_seq fun K3 hK3 => ?_
  refine w_region ?_
  refine wl_val (g_move (v := .bool p0) rfl) rfl ?_
  refine wl_nil ?_
  refine hK3 _ _ ?_
  refine w_condI (p := p0 = true) (b := p0) rfl Iff.rfl (fun h4 => ?_) (fun h4 => ?_)
  · replace hm := hm.1 h4
    refine w_seq fun K5 hK5 => ?_
    refine w_region ?_
    refine wl_val (g_assign (v := .int .i64 1) rfl) rfl ?_
    refine wl_nil ?_
    refine hK5 _ _ ?_
    refine w_ret ?_
    repeat first | with_reducible refine q_then ?_ | with_reducible refine q_block ?_
    exact ret1 rfl (by decide) ⟨_, hm, rfl, toExt hB0⟩
  · replace hm := hm.2 h4
    refine w_skip ?_
    refine hK2 _ _ ?_
    refine w_seq fun K6 hK6 => ?_
    refine w_region ?_
    refine wl_val (g_assign (v := .int .i64 0) rfl) rfl ?_
    refine wl_nil ?_
    refine hK6 _ _ ?_
    refine w_ret ?_
    repeat first | with_reducible refine q_then ?_ | with_reducible refine q_block ?_
    exact ret1 rfl (by decide) ⟨_, hm, rfl, toExt hB0⟩

theorem m_spec_UndoCrosses_fn {w : World} {a0 : Option Addr} {n0 c0 : Nat} {p0 : List Cross} {Q : (List Cross) → Prop} (hp0 : Vw w.heap.size w a0 n0 c0 p0) (hm : m_spec_UndoCrosses p0 Q) :
    Fn Try.prog 30 #[.slice a0 n0 c0] w (fun v w' => ∃ (r0 : List Cross) (a0 : Option Addr) (n0 c0 : Nat), Q r0 ∧ v = .slice a0 n0 c0 ∧ Ext w w' ∧ Sep w' w.heap.size [oS 56 a0 n0 c0 r0]) := by
  unfold m_spec_UndoCrosses at hm
  have hB0 := Below.refl w.heap.size w
  have hS0 : Sep w w.heap.size [] := Sep.nil (Nat.le_refl _)
  refine fn_of_wp Try.func30 rfl (by kernel_rfl) (Nat.le_of_ble_eq_true rfl) ?_
  refine w_seq fun K1 hK1 => ?_
  refine w_region ?_
  refine wl_val (g_assign (v := .slice none 0 0) rfl) rfl ?_
  refine wl_nil ?_
  refine hK1 _ _ ?_
  refine w_seq fun K2 hK2 => ?_
  refine w_region ?_
  refine wl_step rfl (q_lit0 (α := Cross) rfl SL24 hS0) ?_
  rintro _ w3 ⟨a4, rfl, hS6, hE5⟩
  have hB8 := hB0.trans (Ext.stp hE5 hS0.base)
  refine wl_val (g_assign (v := .slice a4 0 0) rfl) rfl ?_
  refine wl_nil ?_
  refine hK2 _ _ ?_
  refine w_cut (σ := List Cross × Option Addr × Nat × Nat) (fun ⟨x221, a222, n223, c224⟩ => [(3, .slice a222 n223 c224)]) (fun ⟨x221, a222, n223, c224⟩ w' => m_spec_UndoCrosses_K0 Q x221 ∧ Below w.heap.size w w' ∧ Sep w' w.heap.size [oS 56 a222 n223 c224 (x221 : List Cross)]) ?_ ?_
  · refine w_seq fun K226 hK226 => ?_
    refine w_region ?_
    refine wl_val (g_move (v := .slice a0 n0 c0) rfl) rfl ?_
    refine wl_val (q_len SL24 rfl (Vw.len (hp0.bel hB8))) rfl ?_
    obtain ⟨hg227, hm⟩ := hm
    refine wl_val (g_sub (a := (p0.length : Int)) (b := 1) rfl rfl hg227) rfl ?_
    refine wl_val (g_assign (v := .int .i64 ((p0.length : Int) - 1)) rfl) rfl ?_
    refine wl_nil ?_
    refine hK226 _ _ ?_
    refine w_block ?_
    obtain ⟨I233, μ234, h0235, hr236⟩ := hm
    refine w_for (σ := List Cross × Option Addr × Nat × Nat × Int) (fun ⟨x228, a229, n230, c231, v232⟩ => [(0, .slice a0 n0 c0), (3, .slice a229 n230 c231), (4, .int .i64 v232)]) (fun ⟨x228, a229, n230, c231, v232⟩ w' => I233 x228 v232 ∧ Below w.heap.size w w' ∧ Sep w' w.heap.size [oS 56 a229 n230 c231 (x228 : List Cross)]) (fun ⟨x228, a229, n230, c231, v232⟩ => μ234 x228 v232) ([], a4, 0, 0, ((p0.length : Int) - 1)) ⟨rfl, rfl, rfl, trivial⟩ ⟨h0235, hB8, hS6⟩ ?_
    rintro ⟨x228, a229, n230, c231, v232⟩ b_ w237 ⟨hi_, hB238, hS239⟩
    show Wp _ _ _ _ (upds b_ [(0, .slice a0 n0 c0), (3, .slice a229 n230 c231), (4, .int .i64 v232)]) w237
    have hm := hr236 x228 v232 hi_
    refine w_seq fun K241 hK241 => ?_
    refine w_seq fun K242 hK242 => ?_
    refine w_region ?_
    refine wl_val (g_move (v := .int .i64 v232) rfl) rfl ?_
    refine wl_val (g_geq (a := v232) (b := 0) rfl rfl) rfl ?_
    refine wl_nil ?_
    refine hK242 _ _ ?_
    refine w_condI (p := v232 ≥ 0) (b := (decide (v232 ≥ 0))) rfl decide_eq_true_iff (fun h243 => ?_) (fun h243 => ?_)
    · replace hm := hm.1 h243
      refine w_skip ?_
      refine hK241 _ _ ?_
      refine w_seq fun K244 hK244 => ?_
      refine w_block ?_
      refine w_draw (X := Ext) (Y := Ext) [0, 0, 0, 0, 0, 0, 0, 0, 0, 0, 0, 0, 0, 2, 1, 0] MIX (by decide +kernel) rfl Ext.refl (fun _ _ _ => Ext.trans) (fun _ _ _ => Chg.trans) (fun _ _ h => Ext.chg h _) (fun w245 hE246 => ?_)
      have hB247 := hB238.trans (Ext.stp hE246 hS239.base)
      have hS248 := hS239.ext hE246
      refine ⟨.slice a229 n230 c231, fun w249 hX250 => od_plain rfl (by have hS251 := hS248.ext hX250; have hB252 := hB247.trans (Ext.stp hX250 hS248.base); exact is_ext (g_move (v := .slice a229 n230 c231) rfl)), ?_⟩
      refine ⟨.slice a0 n0 c0, fun w253 hX254 => od_plain rfl (by have hS255 := hS248.ext hX254; have hB256 := hB247.trans (Ext.stp hX254 hS248.base); exact is_ext (g_move (v := .slice a0 n0 c0) rfl)), ?_⟩
      refine ⟨.int .i64 v232, fun w257 hX258 => od_plain rfl (by have hS259 := hS248.ext hX258; have hB260 := hB247.trans (Ext.stp hX258 hS248.base); exact is_ext (g_move (v := .int .i64 v232) rfl)), ?_⟩
      obtain ⟨hg265, hm⟩ := hm
      refine ⟨.pointer (some ((adr a0).add ((Int.toNat v232) * El.m Cross))), fun w261 hX262 => od_plain rfl (by have hS263 := hS248.ext hX262; have hB264 := hB247.trans (Ext.stp hX262 hS248.base); exact is_ext (q_index (i := v232) SL24 rfl rfl (hp0.bel hB264) hg265)), ?_⟩
      refine ⟨.pointer (some (((adr a0).add ((Int.toNat v232) * El.m Cross)).add 0)), fun w266 hX267 => od_plain rfl (by have hS268 := hS248.ext hX267; have hB269 := hB247.trans (Ext.stp hX267 hS248.base); exact is_ext (g_fieldAddr (q := (adr a0).add ((Int.toNat v232) * El.m Cross)) FL56_0 ON3 rfl)), ?_⟩
      refine ⟨.int .i64 (p0[(Int.toNat v232)]!.1), fun w270 hX271 => od_plain rfl (by have hS272 := hS248.ext hX271; have hB273 := hB247.trans (Ext.stp hX271 hS248.base); exact is_ext (q_loadF (i := v232) (j := 0) (v := .int .i64 (p0[(Int.toNat v232)]!.1)) ON3 (hp0.bel hB273) hg265 rfl rfl)), ?_⟩
      refine ⟨.slice a0 n0 c0, fun w274 hX275 => od_plain rfl (by have hS276 := hS248.ext hX275; have hB277 := hB247.trans (Ext.stp hX275 hS248.base); exact is_ext (g_move (v := .slice a0 n0 c0) rfl)), ?_⟩
      refine ⟨.int .i64 v232, fun w278 hX279 => od_plain rfl (by have hS280 := hS248.ext hX279; have hB281 := hB247.trans (Ext.stp hX279 hS248.base); exact is_ext (g_move (v := .int .i64 v232) rfl)), ?_⟩
      obtain ⟨hg286, hm⟩ := hm
      refine ⟨.pointer (some ((adr a0).add ((Int.toNat v232) * El.m Cross))), fun w282 hX283 => od_plain rfl (by have hS284 := hS248.ext hX283; have hB285 := hB247.trans (Ext.stp hX283 hS248.base); exact is_ext (q_index (i := v232) SL24 rfl rfl (hp0.bel hB285) hg286)), ?_⟩
      refine ⟨.pointer (some (((adr a0).add ((Int.toNat v232) * El.m Cross)).add 1)), fun w287 hX288 => od_plain rfl (by have hS289 := hS248.ext hX288; have hB290 := hB247.trans (Ext.stp hX288 hS248.base); exact is_ext (g_fieldAddr (q := (adr a0).add ((Int.toNat v232) * El.m Cross)) FL56_1 ON4 rfl)), ?_⟩
      refine ⟨.bool (p0[(Int.toNat v232)]!.2), fun w291 hX292 => od_plain rfl (by have hS293 := hS248.ext hX292; have hB294 := hB247.trans (Ext.stp hX292 hS248.base); exact is_ext (q_loadF (i := v232) (j := 1) (v := .bool (p0[(Int.toNat v232)]!.2)) ON4 (hp0.bel hB294) hg286 rfl rfl)), ?_⟩
      refine ⟨.bool (!(p0[(Int.toNat v232)]!.2)), fun w295 hX296 => od_plain rfl (by have hS297 := hS248.ext hX296; have hB298 := hB247.trans (Ext.stp hX296 hS248.base); exact is_ext (g_not (a := (p0[(Int.toNat v232)]!.2)) rfl)), ?_⟩
      refine ⟨.agg #[.int .i64 (p0[(Int.toNat v232)]!.1), .bool (!(p0[(Int.toNat v232)]!.2))], fun w299 hX300 => od_plain rfl (by have hS301 := hS248.ext hX300; have hB302 := hB247.trans (Ext.stp hX300 hS248.base); exact is_ext (g_build (v := .agg #[.int .i64 (p0[(Int.toNat v232)]!.1), .bool (!(p0[(Int.toNat v232)]!.2))]) (parts2 rfl rfl) (BD56_01 (p0[(Int.toNat v232)]!.1) (!(p0[(Int.toNat v232)]!.2))))), ?_⟩
      intro w303 hX304
      have hB305 := hB247.trans (Ext.stp hX304 hS248.base)
      have hS306 := hS248.ext hX304
      refine ⟨_, od_plain rfl (q_lit1 (y := ((p0[(Int.toNat v232)]!.1, !(p0[(Int.toNat v232)]!.2)) : Cross)) SL24 rfl rfl (by decide) hS306), ?_⟩
      rintro _ w307 ⟨a308, rfl, hS310, hE309⟩
      refine ⟨hE309, ?_⟩
      have hB312 := hB305.trans (Ext.stp hE309 hS306.base)
      intro w313 hX314
      have hB315 := hB312.trans (Ext.stp hX314 hS310.base)
      have hS316 := hS310.ext hX314
      have hS322 := hS316.f1
      obtain ⟨hg323, hm⟩ := hm
      refine ⟨_, od_plain rfl (q_append SL24 rfl rfl hS322 (oS.vw hS322.g1) hg323 (by decide)), ?_⟩
      rintro _ w317 ⟨a318, c319, rfl, hS321, hb320⟩
      have hB324 := hB315.trans hb320
      refine ⟨.slice a318 (n230 + 1) c319, fun w325 hX326 => od_plain rfl (by have hS327 := hS321.ext hX326; have hB328 := hB324.trans (Ext.stp hX326 hS321.base); exact is_ext (g_assign (v := .slice a318 (n230 + 1) c319) rfl)), ?_⟩
      intro w329 hX330
      have hB331 := hB324.trans (Ext.stp hX330 hS321.base)
      have hS332 := hS321.ext hX330
      refine hK244 _ _ ?_
      refine w_region ?_
      refine wl_val (g_move (v := .int .i64 v232) rfl) rfl ?_
      obtain ⟨hg333, hm⟩ := hm
      refine wl_val (g_sub (a := v232) (b := 1) rfl rfl hg333) rfl ?_
      refine wl_val (g_assign (v := .int .i64 (v232 - 1)) rfl) rfl ?_
      refine wl_nil ?_
      have hS334 := hS332.f1
      have hS335 := hS334.tail
      exact ⟨((x228 ++ ([(p0[(Int.toNat v232)]!.1, !(p0[(Int.toNat v232)]!.2))])), a318, (n230 + 1), c319, (v232 - 1)), hm.2, ⟨rfl, rfl, rfl, trivial⟩, ⟨hm.1, hB331, hS335⟩⟩
    · replace hm := hm.2 h243
      refine w_exit ?_
      exact ⟨(x228, a229, n230, c231), ⟨rfl, trivial⟩, ⟨hm, hB238, hS239⟩⟩
  · rintro ⟨x221, a222, n223, c224⟩ b_ w336 ⟨hm, hB337, hS338⟩
    show Wp _ _ _ _ (upds b_ [(3, .slice a222 n223 c224)]) w336
    refine w_seq fun K339 hK339 => ?_
    refine w_region ?_
    refine wl_val (g_move (v := .slice a222 n223 c224) rfl) rfl ?_
    refine wl_val (g_assign (v := .slice a222 n223 c224) rfl) rfl ?_
    refine wl_nil ?_
    refine hK339 _ _ ?_
    refine w_ret ?_
    repeat first | with_reducible refine q_then ?_ | with_reducible refine q_block ?_
    exact ret1 rfl (by decide) ⟨_, _, _, _, hm, rfl, toExt hB337, hS338⟩

end Go.Proofs.Ytcgkcoogaieolaa
