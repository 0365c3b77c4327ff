/- The walks: the code does what its model says. Printed by a program (gen2.py). No statement of the claim stands here. -/
import Derived.Test.YthmemoealgieaaaFacts2
import Derived.Test.YthmemoealgieaaaSop
import Derived.Test.YthmemoealgieaaaFacts
import Derived.Test.YthmemoealgieaaaMC
namespace Go.Proofs.Ythmemoealgieaaa
open Go Go.RowKit
set_option maxRecDepth 100000
theorem m_laws_big_fn {w : World} {a0 : Option Addr} {n0 c0 : Nat} {p0 : List Byte} {Q : Bool → Prop} (hp0 : Vw w.heap.size w a0 n0 c0 p0) (hm : m_laws_big p0 Q) :
    Fn Try.prog 26 #[.slice a0 n0 c0] w (fun v w' => ∃ (r0 : Bool), Q r0 ∧ v = .bool r0 ∧ Ext w w') := by
  unfold m_laws_big at hm
  have hB0 := Below.refl w.heap.size w
  have hS0 : Sep w w.heap.size [] := Sep.nil (Nat.le_refl _)
  refine fn_of_wp Try.func26 rfl (by kernel_rfl) (Nat.le_of_ble_eq_true rfl) ?_
  refine w_seq fun K1 hK1 => ?_
  refine w_region ?_
  refine wl_val (g_assign (v := .bool false) rfl) rfl ?_
  refine wl_nil ?_
  refine hK1 _ _ ?_
  refine w_seq fun K2 hK2 => ?_
  refine w_region ?_
  refine wl_val (g_move (v := .slice a0 n0 c0) rfl) rfl ?_
  refine wl_val (q_len SL33 rfl (Vw.len (hp0.bel hB0))) rfl ?_
  refine wl_val (g_gtr (a := (p0.length : Int)) (b := 1048576) rfl rfl) rfl ?_
  refine wl_val (g_assign (v := .bool (decide ((p0.length : Int) > 1048576))) rfl) rfl ?_
  refine wl_nil ?_
  refine hK2 _ _ ?_
  refine w_ret ?_
  repeat first | with_reducible refine q_then ?_ | with_reducible refine q_block ?_
  exact ret1 rfl (by decide) ⟨_, hm, rfl, toExt hB0⟩

theorem m_spec_l01New_raw_fn {w : World} {a0 : Option Addr} {n0 c0 : Nat} {p0 : List Byte} {Q : Int → Int → Prop} (hp0 : Vw w.heap.size w a0 n0 c0 p0) (hm : m_spec_l01New_raw p0 Q) :
    Fn Try.prog 63 #[.slice a0 n0 c0] w (fun v w' => ∃ (g0 : Nat) (r0 r0_ : Int), Q r0 r0_ ∧ v = .pointer (some ⟨g0, 0, none⟩) ∧ Ext w w' ∧ Sep w' w.heap.size [oB g0 67 #[.slice a0 n0 c0, .int .i64 r0, .int .i64 r0_]]) := by
  unfold m_spec_l01New_raw at hm
  have hB0 := Below.refl w.heap.size w
  have hS0 : Sep w w.heap.size [] := Sep.nil (Nat.le_refl _)
  refine fn_of_wp Try.func63 rfl (by kernel_rfl) (Nat.le_of_ble_eq_true rfl) ?_
  refine w_seq fun K1 hK1 => ?_
  refine w_region ?_
  refine wl_val (g_assign (v := .pointer none) rfl) rfl ?_
  refine wl_nil ?_
  refine hK1 _ _ ?_
  refine w_seq fun K2 hK2 => ?_
  refine w_region ?_
  refine wl_val (g_move (v := .slice a0 n0 c0) rfl) rfl ?_
  refine wl_val (q_len SL33 rfl (Vw.len (hp0.bel hB0))) rfl ?_
  obtain ⟨hg3, hm⟩ := hm
  refine wl_val (g_add (a := 33061) (b := (p0.length : Int)) rfl rfl hg3) rfl ?_
  refine wl_val (g_assign (v := .int .i64 (33061 + (p0.length : Int))) rfl) rfl ?_
  refine wl_nil ?_
  refine hK2 _ _ ?_
  refine w_cut (σ := Int) (fun v40 => [(0, .slice a0 n0 c0), (3, .int .i64 v40)]) (fun v40 w' => m_spec_l01New_raw_K0 Q v40 ∧ Below w.heap.size w w' ∧ Sep w' w.heap.size []) ?_ ?_
  · refine w_seq fun K42 hK42 => ?_
    refine w_region ?_
    refine wl_val (g_assign (v := .int .i64 0) rfl) rfl ?_
    refine wl_nil ?_
    refine hK42 _ _ ?_
    refine w_block ?_
    obtain ⟨I45, μ46, h047, hr48⟩ := hm
    refine w_for (σ := Int × Int) (fun ⟨v43, v44⟩ => [(0, .slice a0 n0 c0), (3, .int .i64 v43), (4, .int .i64 v44)]) (fun ⟨v43, v44⟩ w' => I45 v43 v44 ∧ Below w.heap.size w w' ∧ Sep w' w.heap.size []) (fun ⟨v43, v44⟩ => μ46 v43 v44) ((33061 + (p0.length : Int)), 0) ⟨rfl, rfl, rfl, trivial⟩ ⟨h047, hB0, hS0⟩ ?_
    rintro ⟨v43, v44⟩ b_ w49 ⟨hi_, hB50, hS51⟩
    show Wp _ _ _ _ (upds b_ [(0, .slice a0 n0 c0), (3, .int .i64 v43), (4, .int .i64 v44)]) w49
    have hm := hr48 v43 v44 hi_
    refine w_seq fun K53 hK53 => ?_
    refine w_seq fun K54 hK54 => ?_
    refine w_region ?_
    refine wl_val (g_move (v := .int .i64 v44) rfl) rfl ?_
    refine wl_val (g_move (v := .slice a0 n0 c0) rfl) rfl ?_
    refine wl_val (q_len SL33 rfl (Vw.len (hp0.bel hB50))) rfl ?_
    refine wl_val (g_lss (a := v44) (b := (p0.length : Int)) rfl rfl) rfl ?_
    refine wl_val (g_move (v := .bool (decide (v44 < (p0.length : Int)))) rfl) rfl ?_
    refine wl_guard (c := (decide (v44 < (p0.length : Int))) = true) (val := .int .i64 v44) (b := ((decide (v44 < (p0.length : Int))) == true)) (gv_some rfl rfl rfl) beq_iff_eq (fun hc55 => ?_) ?_
    · have hcq2 : v44 < (p0.length : Int) := (decide_eq_true_iff.mp hc55)
      exact g_move (v := .int .i64 v44) rfl
    refine wl_guard (c := (decide (v44 < (p0.length : Int))) = true) (val := .bool (decide (v44 < 4000))) (b := ((decide (v44 < (p0.length : Int))) == true)) (gv_some rfl rfl rfl) beq_iff_eq (fun hc56 => ?_) ?_
    · have hcq2 : v44 < (p0.length : Int) := (decide_eq_true_iff.mp hc56)
      exact g_lss (a := v44) (b := 4000) (if_pos hc56) rfl
    refine wl_val (g_pick_and (b := (decide (v44 < (p0.length : Int)))) (q := (decide (v44 < 4000))) rfl rfl) rfl ?_
    refine wl_nil ?_
    refine hK54 _ _ ?_
    refine w_condI (p := ((v44 < (p0.length : Int)) ∧ (v44 < 4000))) (b := ((decide (v44 < (p0.length : Int))) && (decide (v44 < 4000)))) rfl (i_and decide_eq_true_iff decide_eq_true_iff) (fun h57 => ?_) (fun h57 => ?_)
    · replace hm := hm.1 h57
      refine w_skip ?_
      refine hK53 _ _ ?_
      refine w_seq fun K58 hK58 => ?_
      refine w_block ?_
      refine w_region ?_
      refine wl_val (g_move (v := .int .i64 v43) rfl) rfl ?_
      refine wl_val (q_wmul (a := v43) (b := 131) rfl rfl) rfl ?_
      refine wl_val (g_move (v := .slice a0 n0 c0) rfl) rfl ?_
      refine wl_val (g_move (v := .int .i64 v44) rfl) rfl ?_
      obtain ⟨hg59, hm⟩ := hm
      refine wl_val (q_index (i := v44) SL33 rfl rfl (hp0.bel hB50) hg59) rfl ?_
      refine wl_val (q_load (i := v44) (v := .int .u8 ((p0[(Int.toNat v44)]!).val : Int)) ON5 (hp0.bel hB50) hg59 rfl rfl) rfl ?_
      refine wl_val (g_conv8 (v := p0[(Int.toNat v44)]!) CV5_3 rfl) rfl ?_
      refine wl_val (q_wadd (a := (wmul v43 131)) (b := ((p0[(Int.toNat v44)]!).val : Int)) rfl rfl) rfl ?_
      refine wl_val (q_wadd (a := (wadd (wmul v43 131) ((p0[(Int.toNat v44)]!).val : Int))) (b := 7) rfl rfl) rfl ?_
      refine wl_val (q_wand (a := (wadd (wadd (wmul v43 131) ((p0[(Int.toNat v44)]!).val : Int)) 7)) (b := 1073741823) rfl rfl) rfl ?_
      refine wl_val (g_assign (v := .int .i64 (wand (wadd (wadd (wmul v43 131) ((p0[(Int.toNat v44)]!).val : Int)) 7) 1073741823)) rfl) rfl ?_
      refine wl_nil ?_
      refine hK58 _ _ ?_
      refine w_region ?_
      refine wl_val (g_move (v := .int .i64 v44) rfl) rfl ?_
      obtain ⟨hg60, hm⟩ := hm
      refine wl_val (g_add (a := v44) (b := 1) rfl rfl hg60) rfl ?_
      refine wl_val (g_assign (v := .int .i64 (v44 + 1)) rfl) rfl ?_
      refine wl_nil ?_
      exact ⟨((wand (wadd (wadd (wmul v43 131) ((p0[(Int.toNat v44)]!).val : Int)) 7) 1073741823), (v44 + 1)), hm.2, ⟨rfl, rfl, rfl, trivial⟩, ⟨hm.1, hB50, hS51⟩⟩
    · replace hm := hm.2 h57
      refine w_exit ?_
      exact ⟨(v43), ⟨rfl, rfl, trivial⟩, ⟨hm, hB50, hS51⟩⟩
  · rintro v40 b_ w61 ⟨hm, hB62, hS63⟩
    show Wp _ _ _ _ (upds b_ [(0, .slice a0 n0 c0), (3, .int .i64 v40)]) w61
    refine w_seq fun K64 hK64 => ?_
    refine w_region ?_
    refine wl_val (g_move (v := .slice a0 n0 c0) rfl) rfl ?_
    refine wl_val (g_move (v := .int .i64 v40) rfl) rfl ?_
    refine wl_val (g_build (v := .agg #[.slice a0 n0 c0, .int .i64 0, .int .i64 v40]) (parts2 rfl rfl) (BD67_02 a0 n0 c0 v40)) rfl ?_
    refine wl_step rfl (q_box (cs := #[.slice a0 n0 c0, .int .i64 0, .int .i64 v40]) rfl rfl hS63) ?_
    rintro _ w65 ⟨g66, rfl, hS68, hE67⟩
    have hB70 := hB62.trans (Ext.stp hE67 hS63.base)
    refine wl_val (g_assign (v := .pointer (some (⟨g66, 0, none⟩ : Addr))) rfl) rfl ?_
    refine wl_nil ?_
    refine hK64 _ _ ?_
    refine w_ret ?_
    repeat first | with_reducible refine q_then ?_ | with_reducible refine q_block ?_
    exact ret1 rfl (by decide) ⟨_, _, _, hm, rfl, toExt hB70, hS68⟩
theorem l01New_raw_ok {p0 : List Byte} {Q : Int → Int → Prop} (hl : p0.length ≤ 1099511627776) (hq : ∀ h, Q 0 h) : m_spec_l01New_raw p0 Q := by
  refine ⟨by omega, fun h i => 0 ≤ i, fun h i => (p0.length - i).toNat, Int.le_refl _, ?_⟩
  rintro h i h0
  exact ⟨fun hc => ⟨⟨h0, hc.1⟩, by omega, by omega, by dsimp only; omega⟩, fun _ => hq _⟩
theorem m_spec_l01New_fn {w : World} {a0 : Option Addr} {n0 c0 : Nat} {p0 : List Byte} {Q : Prop} (hp0 : Vw w.heap.size w a0 n0 c0 p0) (hm : m_spec_l01New p0 Q) :
    Fn Try.prog 63 #[.slice a0 n0 c0] w (fun v w' => ∃ (g0 : Nat), Q ∧ v = .pointer (some ⟨g0, 0, none⟩) ∧ Ext w w' ∧ Sep w' w.heap.size [oCur 67 g0 a0 n0 c0]) := by
  have hl := hm.1
  have hn := hp0.len
  refine (m_spec_l01New_raw_fn (Q := fun r _ => 0 ≤ r ∧ Q) hp0 (l01New_raw_ok hl fun _ => ⟨Int.le_refl _, hm.2⟩)).mono ?_
  rintro v w' ⟨g0, r, r_, ⟨h0, hQ⟩, hv, hE, hS⟩
  exact ⟨g0, hQ, hv, hE, hS.cur h0 (by omega)⟩

theorem m_spec_l01Byte_raw_fn {w : World} {B_ : Nat} {L_ : List Ob} {gp0 : Nat} {ap0 : Option Addr} {np0 cp0 : Nat} {p0 : List Byte} {i0 : Int} {h0 : Int} {Q : Int → Int → Int → Prop} (hS0 : Sep w B_ (oB gp0 67 #[.slice ap0 np0 cp0, .int .i64 i0, .int .i64 h0] :: L_)) (hp0 : Vw B_ w ap0 np0 cp0 p0) (hm : m_spec_l01Byte_raw p0 i0 h0 Q) :
    Fn Try.prog 78 #[.pointer (some (⟨gp0, 0, none⟩ : Addr))] w (fun v w' => ∃ (r0 : Int) (xi xh : Int), Q r0 xi xh ∧ v = .int .i64 r0 ∧ Below B_ w w' ∧ Sep w' B_ (oB gp0 67 #[.slice ap0 np0 cp0, .int .i64 xi, .int .i64 xh] :: L_)) := by
  unfold m_spec_l01Byte_raw at hm
  have hB0 := Below.refl B_ w
  refine fn_of_wp Try.func78 rfl (by kernel_rfl) (Nat.le_of_ble_eq_true rfl) ?_
  refine w_seq fun K2 hK2 => ?_
  refine w_region ?_
  refine wl_val (g_assign (v := .int .i64 0) rfl) rfl ?_
  refine wl_nil ?_
  refine hK2 _ _ ?_
  refine w_seq fun K3 hK3 => ?_
  refine w_region ?_
  refine wl_val (g_move (v := .pointer (some (⟨gp0, 0, none⟩ : Addr))) rfl) rfl ?_
  refine wl_val (g_move (v := .pointer (some (⟨gp0, 0, none⟩ : Addr))) rfl) rfl ?_
  refine wl_val (g_nilCheck (q := (⟨gp0, 0, none⟩ : Addr)) rfl) rfl ?_
  refine wl_val (g_fieldAddr (q := (⟨gp0, 0, none⟩ : Addr)) FL67_2 ON3 rfl) rfl ?_
  refine wl_val (q_loadB (i := 2) (bs := #[.slice ap0 np0 cp0, .int .i64 i0, .int .i64 h0]) hS0.g0 ON3 rfl rfl) rfl ?_
  refine wl_val (q_wmul (a := h0) (b := 6364136223846793005) rfl rfl) rfl ?_
  refine wl_val (q_wadd (a := (wmul h0 6364136223846793005)) (b := 1442695040888963407) rfl rfl) rfl ?_
  refine wl_val (g_nilCheck (q := (⟨gp0, 0, none⟩ : Addr)) rfl) rfl ?_
  refine wl_val (g_fieldAddr (q := (⟨gp0, 0, none⟩ : Addr)) FL67_2 ON3 rfl) rfl ?_
  refine wl_step rfl (q_storeB (i := 2) (bs' := #[.slice ap0 np0 cp0, .int .i64 i0, .int .i64 (wadd (wmul h0 6364136223846793005) 1442695040888963407)]) (vs := [.int .i64 (wadd (wmul h0 6364136223846793005) 1442695040888963407)]) hS0 ON3.sz rfl rfl rfl (by simp [Value.oneCell']) (Nat.le_of_ble_eq_true rfl) rfl) ?_
  rintro _ w4 ⟨rfl, hS5, hb6⟩
  have hB7 := hB0.trans hb6
  refine wl_nil ?_
  refine hK3 _ _ ?_
  refine w_seq fun K8 hK8 => ?_
  refine w_draw (X := Ext) (Y := Ext) [] MIX (by decide +kernel) rfl Ext.refl (fun _ _ _ => Ext.trans) (fun _ _ _ => Chg.trans) (fun _ _ h => Ext.chg h _) (fun w9 hE10 => ?_)
  have hB11 := hB7.trans (Ext.stp hE10 hS5.base)
  have hS12 := hS5.ext hE10
  refine ⟨.pointer (some (⟨gp0, 0, none⟩ : Addr)), fun w13 hX14 => od_plain rfl (by have hS15 := hS12.ext hX14; have hB16 := hB11.trans (Ext.stp hX14 hS12.base); exact is_ext (g_move (v := .pointer (some (⟨gp0, 0, none⟩ : Addr))) rfl)), ?_⟩
  refine ⟨.pointer (some (⟨gp0, 0, none⟩ : Addr)), fun w17 hX18 => od_plain rfl (by have hS19 := hS12.ext hX18; have hB20 := hB11.trans (Ext.stp hX18 hS12.base); exact is_ext (g_nilCheck (q := (⟨gp0, 0, none⟩ : Addr)) rfl)), ?_⟩
  refine ⟨.pointer (some (((⟨gp0, 0, none⟩ : Addr)).add 2)), fun w21 hX22 => od_plain rfl (by have hS23 := hS12.ext hX22; have hB24 := hB11.trans (Ext.stp hX22 hS12.base); exact is_ext (g_fieldAddr (q := (⟨gp0, 0, none⟩ : Addr)) FL67_2 ON3 rfl)), ?_⟩
  refine ⟨.int .i64 (wadd (wmul h0 6364136223846793005) 1442695040888963407), fun w25 hX26 => od_plain rfl (by have hS27 := hS12.ext hX26; have hB28 := hB11.trans (Ext.stp hX26 hS12.base); exact is_ext (q_loadB (i := 2) (bs := #[.slice ap0 np0 cp0, .int .i64 i0, .int .i64 (wadd (wmul h0 6364136223846793005) 1442695040888963407)]) hS27.g0 ON3 rfl rfl)), ?_⟩
  refine ⟨.int .i64 (sar (wadd (wmul h0 6364136223846793005) 1442695040888963407) 33), fun w29 hX30 => od_plain rfl (by have hS31 := hS12.ext hX30; have hB32 := hB11.trans (Ext.stp hX30 hS12.base); exact is_ext (g_shr (a := (wadd (wmul h0 6364136223846793005) 1442695040888963407)) (b := 33) rfl rfl ⟨by decide, by decide⟩)), ?_⟩
  refine ⟨.pointer (some (⟨gp0, 0, none⟩ : Addr)), fun w33 hX34 => od_plain rfl (by have hS35 := hS12.ext hX34; have hB36 := hB11.trans (Ext.stp hX34 hS12.base); exact is_ext (g_move (v := .pointer (some (⟨gp0, 0, none⟩ : Addr))) rfl)), ?_⟩
  refine ⟨.pointer (some (⟨gp0, 0, none⟩ : Addr)), fun w37 hX38 => od_plain rfl (by have hS39 := hS12.ext hX38; have hB40 := hB11.trans (Ext.stp hX38 hS12.base); exact is_ext (g_nilCheck (q := (⟨gp0, 0, none⟩ : Addr)) rfl)), ?_⟩
  refine ⟨.pointer (some (((⟨gp0, 0, none⟩ : Addr)).add 2)), fun w41 hX42 => od_plain rfl (by have hS43 := hS12.ext hX42; have hB44 := hB11.trans (Ext.stp hX42 hS12.base); exact is_ext (g_fieldAddr (q := (⟨gp0, 0, none⟩ : Addr)) FL67_2 ON3 rfl)), ?_⟩
  refine ⟨.int .i64 (wadd (wmul h0 6364136223846793005) 1442695040888963407), fun w45 hX46 => od_plain rfl (by have hS47 := hS12.ext hX46; have hB48 := hB11.trans (Ext.stp hX46 hS12.base); exact is_ext (q_loadB (i := 2) (bs := #[.slice ap0 np0 cp0, .int .i64 i0, .int .i64 (wadd (wmul h0 6364136223846793005) 1442695040888963407)]) hS47.g0 ON3 rfl rfl)), ?_⟩
  refine ⟨.int .i64 (sar (wadd (wmul h0 6364136223846793005) 1442695040888963407) 45), fun w49 hX50 => od_plain rfl (by have hS51 := hS12.ext hX50; have hB52 := hB11.trans (Ext.stp hX50 hS12.base); exact is_ext (g_shr (a := (wadd (wmul h0 6364136223846793005) 1442695040888963407)) (b := 45) rfl rfl ⟨by decide, by decide⟩)), ?_⟩
  refine ⟨.int .i64 (wxor (sar (wadd (wmul h0 6364136223846793005) 1442695040888963407) 33) (sar (wadd (wmul h0 6364136223846793005) 1442695040888963407) 45)), fun w53 hX54 => od_plain rfl (by have hS55 := hS12.ext hX54; have hB56 := hB11.trans (Ext.stp hX54 hS12.base); exact is_ext (q_wxor (a := (sar (wadd (wmul h0 6364136223846793005) 1442695040888963407) 33)) (b := (sar (wadd (wmul h0 6364136223846793005) 1442695040888963407) 45)) rfl rfl)), ?_⟩
  refine ⟨.int .i64 (wand (wxor (sar (wadd (wmul h0 6364136223846793005) 1442695040888963407) 33) (sar (wadd (wmul h0 6364136223846793005) 1442695040888963407) 45)) 255), fun w57 hX58 => od_plain rfl (by have hS59 := hS12.ext hX58; have hB60 := hB11.trans (Ext.stp hX58 hS12.base); exact is_ext (q_wand (a := (wxor (sar (wadd (wmul h0 6364136223846793005) 1442695040888963407) 33) (sar (wadd (wmul h0 6364136223846793005) 1442695040888963407) 45))) (b := 255) rfl rfl)), ?_⟩
  refine ⟨.int .i64 (wand (wxor (sar (wadd (wmul h0 6364136223846793005) 1442695040888963407) 33) (sar (wadd (wmul h0 6364136223846793005) 1442695040888963407) 45)) 255), fun w61 hX62 => od_plain rfl (by have hS63 := hS12.ext hX62; have hB64 := hB11.trans (Ext.stp hX62 hS12.base); exact is_ext (g_assign (v := .int .i64 (wand (wxor (sar (wadd (wmul h0 6364136223846793005) 1442695040888963407) 33) (sar (wadd (wmul h0 6364136223846793005) 1442695040888963407) 45)) 255)) rfl)), ?_⟩
  intro w65 hX66
  have hB67 := hB11.trans (Ext.stp hX66 hS12.base)
  have hS68 := hS12.ext hX66
  refine hK8 _ _ ?_
  refine w_seq fun K69 hK69 => ?_
  refine w_seq fun K70 hK70 => ?_
  refine w_draw (X := Ext) (Y := Ext) [] MIX (by decide +kernel) rfl Ext.refl (fun _ _ _ => Ext.trans) (fun _ _ _ => Chg.trans) (fun _ _ h => Ext.chg h _) (fun w71 hE72 => ?_)
  have hB73 := hB67.trans (Ext.stp hE72 hS68.base)
  have hS74 := hS68.ext hE72
  refine ⟨.pointer (some (⟨gp0, 0, none⟩ : Addr)), fun w75 hX76 => od_plain rfl (by have hS77 := hS74.ext hX76; have hB78 := hB73.trans (Ext.stp hX76 hS74.base); exact is_ext (g_move (v := .pointer (some (⟨gp0, 0, none⟩ : Addr))) rfl)), ?_⟩
  refine ⟨.pointer (some (⟨gp0, 0, none⟩ : Addr)), fun w79 hX80 => od_plain rfl (by have hS81 := hS74.ext hX80; have hB82 := hB73.trans (Ext.stp hX80 hS74.base); exact is_ext (g_nilCheck (q := (⟨gp0, 0, none⟩ : Addr)) rfl)), ?_⟩
  refine ⟨.pointer (some (((⟨gp0, 0, none⟩ : Addr)).add 1)), fun w83 hX84 => od_plain rfl (by have hS85 := hS74.ext hX84; have hB86 := hB73.trans (Ext.stp hX84 hS74.base); exact is_ext (g_fieldAddr (q := (⟨gp0, 0, none⟩ : Addr)) FL67_1 ON3 rfl)), ?_⟩
  refine ⟨.int .i64 i0, fun w87 hX88 => od_plain rfl (by have hS89 := hS74.ext hX88; have hB90 := hB73.trans (Ext.stp hX88 hS74.base); exact is_ext (q_loadB (i := 1) (bs := #[.slice ap0 np0 cp0, .int .i64 i0, .int .i64 (wadd (wmul h0 6364136223846793005) 1442695040888963407)]) hS89.g0 ON3 rfl rfl)), ?_⟩
  refine ⟨.pointer (some (⟨gp0, 0, none⟩ : Addr)), fun w91 hX92 => od_plain rfl (by have hS93 := hS74.ext hX92; have hB94 := hB73.trans (Ext.stp hX92 hS74.base); exact is_ext (g_move (v := .pointer (some (⟨gp0, 0, none⟩ : Addr))) rfl)), ?_⟩
  refine ⟨.pointer (some (⟨gp0, 0, none⟩ : Addr)), fun w95 hX96 => od_plain rfl (by have hS97 := hS74.ext hX96; have hB98 := hB73.trans (Ext.stp hX96 hS74.base); exact is_ext (g_nilCheck (q := (⟨gp0, 0, none⟩ : Addr)) rfl)), ?_⟩
  refine ⟨.pointer (some (((⟨gp0, 0, none⟩ : Addr)).add 0)), fun w99 hX100 => od_plain rfl (by have hS101 := hS74.ext hX100; have hB102 := hB73.trans (Ext.stp hX100 hS74.base); exact is_ext (g_fieldAddr (q := (⟨gp0, 0, none⟩ : Addr)) FL67_0 ON33 rfl)), ?_⟩
  refine ⟨.slice ap0 np0 cp0, fun w103 hX104 => od_plain rfl (by have hS105 := hS74.ext hX104; have hB106 := hB73.trans (Ext.stp hX104 hS74.base); exact is_ext (q_loadB (i := 0) (bs := #[.slice ap0 np0 cp0, .int .i64 i0, .int .i64 (wadd (wmul h0 6364136223846793005) 1442695040888963407)]) hS105.g0 ON33 rfl rfl)), ?_⟩
  refine ⟨.int .i64 (p0.length : Int), fun w107 hX108 => od_plain rfl (by have hS109 := hS74.ext hX108; have hB110 := hB73.trans (Ext.stp hX108 hS74.base); exact is_ext (q_len SL33 rfl (Vw.len (hp0.bel hB110)))), ?_⟩
  refine ⟨.bool (decide (i0 < (p0.length : Int))), fun w111 hX112 => od_plain rfl (by have hS113 := hS74.ext hX112; have hB114 := hB73.trans (Ext.stp hX112 hS74.base); exact is_ext (g_lss (a := i0) (b := (p0.length : Int)) rfl rfl)), ?_⟩
  intro w115 hX116
  have hB117 := hB73.trans (Ext.stp hX116 hS74.base)
  have hS118 := hS74.ext hX116
  refine hK70 _ _ ?_
  refine w_condI (p := i0 < (p0.length : Int)) (b := (decide (i0 < (p0.length : Int)))) rfl decide_eq_true_iff (fun h119 => ?_) (fun h119 => ?_)
  · replace hm := hm.1 h119
    refine w_seq fun K120 hK120 => ?_
    refine w_draw (X := Ext) (Y := Ext) [] MIX (by decide +kernel) rfl Ext.refl (fun _ _ _ => Ext.trans) (fun _ _ _ => Chg.trans) (fun _ _ h => Ext.chg h _) (fun w121 hE122 => ?_)
    have hB123 := hB117.trans (Ext.stp hE122 hS118.base)
    have hS124 := hS118.ext hE122
    refine ⟨.int .i64 (wand (wxor (sar (wadd (wmul h0 6364136223846793005) 1442695040888963407) 33) (sar (wadd (wmul h0 6364136223846793005) 1442695040888963407) 45)) 255), fun w125 hX126 => od_plain rfl (by have hS127 := hS124.ext hX126; have hB128 := hB123.trans (Ext.stp hX126 hS124.base); exact is_ext (g_move (v := .int .i64 (wand (wxor (sar (wadd (wmul h0 6364136223846793005) 1442695040888963407) 33) (sar (wadd (wmul h0 6364136223846793005) 1442695040888963407) 45)) 255)) rfl)), ?_⟩
    refine ⟨.pointer (some (⟨gp0, 0, none⟩ : Addr)), fun w129 hX130 => od_plain rfl (by have hS131 := hS124.ext hX130; have hB132 := hB123.trans (Ext.stp hX130 hS124.base); exact is_ext (g_move (v := .pointer (some (⟨gp0, 0, none⟩ : Addr))) rfl)), ?_⟩
    refine ⟨.pointer (some (⟨gp0, 0, none⟩ : Addr)), fun w133 hX134 => od_plain rfl (by have hS135 := hS124.ext hX134; have hB136 := hB123.trans (Ext.stp hX134 hS124.base); exact is_ext (g_nilCheck (q := (⟨gp0, 0, none⟩ : Addr)) rfl)), ?_⟩
    refine ⟨.pointer (some (((⟨gp0, 0, none⟩ : Addr)).add 0)), fun w137 hX138 => od_plain rfl (by have hS139 := hS124.ext hX138; have hB140 := hB123.trans (Ext.stp hX138 hS124.base); exact is_ext (g_fieldAddr (q := (⟨gp0, 0, none⟩ : Addr)) FL67_0 ON33 rfl)), ?_⟩
    refine ⟨.slice ap0 np0 cp0, fun w141 hX142 => od_plain rfl (by have hS143 := hS124.ext hX142; have hB144 := hB123.trans (Ext.stp hX142 hS124.base); exact is_ext (q_loadB (i := 0) (bs := #[.slice ap0 np0 cp0, .int .i64 i0, .int .i64 (wadd (wmul h0 6364136223846793005) 1442695040888963407)]) hS143.g0 ON33 rfl rfl)), ?_⟩
    refine ⟨.pointer (some (⟨gp0, 0, none⟩ : Addr)), fun w145 hX146 => od_plain rfl (by have hS147 := hS124.ext hX146; have hB148 := hB123.trans (Ext.stp hX146 hS124.base); exact is_ext (g_move (v := .pointer (some (⟨gp0, 0, none⟩ : Addr))) rfl)), ?_⟩
    refine ⟨.pointer (some (⟨gp0, 0, none⟩ : Addr)), fun w149 hX150 => od_plain rfl (by have hS151 := hS124.ext hX150; have hB152 := hB123.trans (Ext.stp hX150 hS124.base); exact is_ext (g_nilCheck (q := (⟨gp0, 0, none⟩ : Addr)) rfl)), ?_⟩
    refine ⟨.pointer (some (((⟨gp0, 0, none⟩ : Addr)).add 1)), fun w153 hX154 => od_plain rfl (by have hS155 := hS124.ext hX154; have hB156 := hB123.trans (Ext.stp hX154 hS124.base); exact is_ext (g_fieldAddr (q := (⟨gp0, 0, none⟩ : Addr)) FL67_1 ON3 rfl)), ?_⟩
    refine ⟨.int .i64 i0, fun w157 hX158 => od_plain rfl (by have hS159 := hS124.ext hX158; have hB160 := hB123.trans (Ext.stp hX158 hS124.base); exact is_ext (q_loadB (i := 1) (bs := #[.slice ap0 np0 cp0, .int .i64 i0, .int .i64 (wadd (wmul h0 6364136223846793005) 1442695040888963407)]) hS159.g0 ON3 rfl rfl)), ?_⟩
    obtain ⟨hg165, hm⟩ := hm
    refine ⟨.pointer (some ((adr ap0).add ((Int.toNat i0) * El.m Byte))), fun w161 hX162 => od_plain rfl (by have hS163 := hS124.ext hX162; have hB164 := hB123.trans (Ext.stp hX162 hS124.base); exact is_ext (q_index (i := i0) SL33 rfl rfl (hp0.bel hB164) hg165)), ?_⟩
    refine ⟨.int .u8 ((p0[(Int.toNat i0)]!).val : Int), fun w166 hX167 => od_plain rfl (by have hS168 := hS124.ext hX167; have hB169 := hB123.trans (Ext.stp hX167 hS124.base); exact is_ext (q_load (i := i0) (v := .int .u8 ((p0[(Int.toNat i0)]!).val : Int)) ON5 (hp0.bel hB169) hg165 rfl rfl)), ?_⟩
    refine ⟨.int .i64 ((p0[(Int.toNat i0)]!).val : Int), fun w170 hX171 => od_plain rfl (by have hS172 := hS124.ext hX171; have hB173 := hB123.trans (Ext.stp hX171 hS124.base); exact is_ext (g_conv8 (v := p0[(Int.toNat i0)]!) CV5_3 rfl)), ?_⟩
    refine ⟨.int .i64 (wadd (wand (wxor (sar (wadd (wmul h0 6364136223846793005) 1442695040888963407) 33) (sar (wadd (wmul h0 6364136223846793005) 1442695040888963407) 45)) 255) ((p0[(Int.toNat i0)]!).val : Int)), fun w174 hX175 => od_plain rfl (by have hS176 := hS124.ext hX175; have hB177 := hB123.trans (Ext.stp hX175 hS124.base); exact is_ext (q_wadd (a := (wand (wxor (sar (wadd (wmul h0 6364136223846793005) 1442695040888963407) 33) (sar (wadd (wmul h0 6364136223846793005) 1442695040888963407) 45)) 255)) (b := ((p0[(Int.toNat i0)]!).val : Int)) rfl rfl)), ?_⟩
    refine ⟨.int .i64 (wand (wadd (wand (wxor (sar (wadd (wmul h0 6364136223846793005) 1442695040888963407) 33) (sar (wadd (wmul h0 6364136223846793005) 1442695040888963407) 45)) 255) ((p0[(Int.toNat i0)]!).val : Int)) 255), fun w178 hX179 => od_plain rfl (by have hS180 := hS124.ext hX179; have hB181 := hB123.trans (Ext.stp hX179 hS124.base); exact is_ext (q_wand (a := (wadd (wand (wxor (sar (wadd (wmul h0 6364136223846793005) 1442695040888963407) 33) (sar (wadd (wmul h0 6364136223846793005) 1442695040888963407) 45)) 255) ((p0[(Int.toNat i0)]!).val : Int))) (b := 255) rfl rfl)), ?_⟩
    refine ⟨.int .i64 (wand (wadd (wand (wxor (sar (wadd (wmul h0 6364136223846793005) 1442695040888963407) 33) (sar (wadd (wmul h0 6364136223846793005) 1442695040888963407) 45)) 255) ((p0[(Int.toNat i0)]!).val : Int)) 255), fun w182 hX183 => od_plain rfl (by have hS184 := hS124.ext hX183; have hB185 := hB123.trans (Ext.stp hX183 hS124.base); exact is_ext (g_assign (v := .int .i64 (wand (wadd (wand (wxor (sar (wadd (wmul h0 6364136223846793005) 1442695040888963407) 33) (sar (wadd (wmul h0 6364136223846793005) 1442695040888963407) 45)) 255) ((p0[(Int.toNat i0)]!).val : Int)) 255)) rfl)), ?_⟩
    intro w186 hX187
    have hB188 := hB123.trans (Ext.stp hX187 hS124.base)
    have hS189 := hS124.ext hX187
    refine hK120 _ _ ?_
    refine w_region ?_
    refine wl_val (g_move (v := .pointer (some (⟨gp0, 0, none⟩ : Addr))) rfl) rfl ?_
    refine wl_val (g_move (v := .pointer (some (⟨gp0, 0, none⟩ : Addr))) rfl) rfl ?_
    refine wl_val (g_nilCheck (q := (⟨gp0, 0, none⟩ : Addr)) rfl) rfl ?_
    refine wl_val (g_fieldAddr (q := (⟨gp0, 0, none⟩ : Addr)) FL67_1 ON3 rfl) rfl ?_
    refine wl_val (q_loadB (i := 1) (bs := #[.slice ap0 np0 cp0, .int .i64 i0, .int .i64 (wadd (wmul h0 6364136223846793005) 1442695040888963407)]) hS189.g0 ON3 rfl rfl) rfl ?_
    obtain ⟨hg190, hm⟩ := hm
    refine wl_val (g_add (a := i0) (b := 1) rfl rfl hg190) rfl ?_
    refine wl_val (g_nilCheck (q := (⟨gp0, 0, none⟩ : Addr)) rfl) rfl ?_
    refine wl_val (g_fieldAddr (q := (⟨gp0, 0, none⟩ : Addr)) FL67_1 ON3 rfl) rfl ?_
    refine wl_step rfl (q_storeB (i := 1) (bs' := #[.slice ap0 np0 cp0, .int .i64 (i0 + 1), .int .i64 (wadd (wmul h0 6364136223846793005) 1442695040888963407)]) (vs := [.int .i64 (i0 + 1)]) hS189 ON3.sz rfl rfl rfl (by simp [Value.oneCell']) (Nat.le_of_ble_eq_true rfl) rfl) ?_
    rintro _ w191 ⟨rfl, hS192, hb193⟩
    have hB194 := hB188.trans hb193
    refine wl_nil ?_
    refine hK69 _ _ ?_
    refine w_seq fun K195 hK195 => ?_
    refine w_region ?_
    refine wl_val (g_move (v := .int .i64 (wand (wadd (wand (wxor (sar (wadd (wmul h0 6364136223846793005) 1442695040888963407) 33) (sar (wadd (wmul h0 6364136223846793005) 1442695040888963407) 45)) 255) ((p0[(Int.toNat i0)]!).val : Int)) 255)) rfl) rfl ?_
    refine wl_val (g_assign (v := .int .i64 (wand (wadd (wand (wxor (sar (wadd (wmul h0 6364136223846793005) 1442695040888963407) 33) (sar (wadd (wmul h0 6364136223846793005) 1442695040888963407) 45)) 255) ((p0[(Int.toNat i0)]!).val : Int)) 255)) rfl) rfl ?_
    refine wl_nil ?_
    refine hK195 _ _ ?_
    refine w_ret ?_
    repeat first | with_reducible refine q_then ?_ | with_reducible refine q_block ?_
    exact ret1 rfl (by decide) ⟨_, _, _, hm, rfl, hB194, hS192⟩
  · replace hm := hm.2 h119
    refine w_skip ?_
    refine hK69 _ _ ?_
    refine w_seq fun K196 hK196 => ?_
    refine w_region ?_
    refine wl_val (g_move (v := .int .i64 (wand (wxor (sar (wadd (wmul h0 6364136223846793005) 1442695040888963407) 33) (sar (wadd (wmul h0 6364136223846793005) 1442695040888963407) 45)) 255)) rfl) rfl ?_
    refine wl_val (g_assign (v := .int .i64 (wand (wxor (sar (wadd (wmul h0 6364136223846793005) 1442695040888963407) 33) (sar (wadd (wmul h0 6364136223846793005) 1442695040888963407) 45)) 255)) rfl) rfl ?_
    refine wl_nil ?_
    refine hK196 _ _ ?_
    refine w_ret ?_
    repeat first | with_reducible refine q_then ?_ | with_reducible refine q_block ?_
    exact ret1 rfl (by decide) ⟨_, _, _, hm, rfl, hB117, hS118⟩
theorem l01Byte_raw_ok {p0 : List Byte} {i0 h0 : Int} {Q : Int → Int → Int → Prop} (hl : p0.length ≤ 1099511627776) (hi : 0 ≤ i0) (hq : ∀ r i h, 0 ≤ r → r ≤ 255 → 0 ≤ i → Q r i h) : m_spec_l01Byte_raw p0 i0 h0 Q := by
  exact ⟨fun h => ⟨⟨hi, h⟩, by omega, hq _ _ _ (wand_rng (by decide) (by decide)).1 (wand_rng (by decide) (by decide)).2 (by omega)⟩, fun h => hq _ _ _ (wand_rng (by decide) (by decide)).1 (wand_rng (by decide) (by decide)).2 hi⟩
theorem m_spec_l01Byte_fn {B_ : Nat} {L_ : List Ob} {w : World} {gp0 : Nat} {ap0 : Option Addr} {np0 cp0 : Nat} {p0 : List Byte} {Q : Int → Prop} (hS0 : Sep w B_ (oCur 67 gp0 ap0 np0 cp0 :: L_)) (hp0 : Vw B_ w ap0 np0 cp0 p0) (hm : m_spec_l01Byte Q) :
    Fn Try.prog 78 #[.pointer (some (⟨gp0, 0, none⟩ : Addr))] w (fun v w' => ∃ (r0 : Int), Q r0 ∧ v = .int .i64 r0 ∧ Below B_ w w' ∧ Sep w' B_ (oCur 67 gp0 ap0 np0 cp0 :: L_)) := by
  obtain ⟨i, h, hi, hl, hS⟩ := hS0.uncur
  have hn := hp0.len
  refine (m_spec_l01Byte_raw_fn (Q := fun r i _ => 0 ≤ i ∧ Q r) hS hp0 (l01Byte_raw_ok (by omega) hi fun r i _ h1 h2 h3 => ⟨h3, hm r h1 h2⟩)).mono ?_
  rintro v w' ⟨r0, xi, xh, ⟨h0, hQ⟩, hv, hB, hS'⟩
  exact ⟨r0, hQ, hv, hB, hS'.cur h0 hl⟩

theorem m_spec_l01Below_fn {w : World} {B_ : Nat} {L_ : List Ob} {gp0 : Nat} {ap0 : Option Addr} {np0 cp0 : Nat} {p0 : List Byte} {Q : Int → Prop} (hS0 : Sep w B_ (oCur 67 gp0 ap0 np0 cp0 :: L_)) (hp0 : Vw B_ w ap0 np0 cp0 p0) (p1 : Int) (hm : m_spec_l01Below p1 Q) :
    Fn Try.prog 75 #[.pointer (some (⟨gp0, 0, none⟩ : Addr)), .int .i64 p1] w (fun v w' => ∃ (r0 : Int), Q r0 ∧ v = .int .i64 r0 ∧ Below B_ w w' ∧ Sep w' B_ (oCur 67 gp0 ap0 np0 cp0 :: L_)) := by
  unfold m_spec_l01Below at hm
  have hB0 := Below.refl B_ w
  refine fn_of_wp Try.func75 rfl (by kernel_rfl) (Nat.le_of_ble_eq_true rfl) ?_
  refine w_seq fun K2 hK2 => ?_
  refine w_region ?_
  refine wl_val (g_assign (v := .int .i64 0) rfl) rfl ?_
  refine wl_nil ?_
  refine hK2 _ _ ?_
  refine w_seq fun K3 hK3 => ?_
  refine w_seq fun K4 hK4 => ?_
  refine w_region ?_
  refine wl_val (g_move (v := .int .i64 p1) rfl) rfl ?_
  refine wl_val (g_leq (a := p1) (b := 0) rfl rfl) rfl ?_
  refine wl_nil ?_
  refine hK4 _ _ ?_
  refine w_condI (p := p1 ≤ 0) (b := (decide (p1 ≤ 0))) rfl decide_eq_true_iff (fun h5 => ?_) (fun h5 => ?_)
  · replace hm := hm.1 h5
    refine w_seq fun K6 hK6 => ?_
    refine w_region ?_
    refine wl_val (g_assign (v := .int .i64 0) rfl) rfl ?_
    refine wl_nil ?_
    refine hK6 _ _ ?_
    refine w_ret ?_
    repeat first | with_reducible refine q_then ?_ | with_reducible refine q_block ?_
    exact ret1 rfl (by decide) ⟨_, hm, rfl, hB0, hS0⟩
  · replace hm := hm.2 h5
    refine w_skip ?_
    refine hK3 _ _ ?_
    refine w_seq fun K7 hK7 => ?_
    refine w_seq fun K8 hK8 => ?_
    refine w_region ?_
    refine wl_val (g_move (v := .int .i64 p1) rfl) rfl ?_
    refine wl_val (g_leq (a := p1) (b := 256) rfl rfl) rfl ?_
    refine wl_nil ?_
    refine hK8 _ _ ?_
    refine w_condI (p := p1 ≤ 256) (b := (decide (p1 ≤ 256))) rfl decide_eq_true_iff (fun h9 => ?_) (fun h9 => ?_)
    · replace hm := hm.1 h9
      refine w_seq fun K10 hK10 => ?_
      refine w_region ?_
      refine wl_val (g_move (v := .pointer (some (⟨gp0, 0, none⟩ : Addr))) rfl) rfl ?_
      refine wl_step rfl (g_call (vs := #[.pointer (some (⟨gp0, 0, none⟩ : Addr))]) CF78 (args1 rfl) (m_spec_l01Byte_fn hS0 (hp0.bel hB0) hm)) ?_
      rintro _ w11 ⟨r14, hm, rfl, hb12, hS13⟩
      have hB15 := hB0.trans hb12
      refine wl_val (g_move (v := .int .i64 p1) rfl) rfl ?_
      obtain ⟨hg16, hm⟩ := hm
      refine wl_val (g_rem (a := r14) (b := p1) rfl rfl hg16) rfl ?_
      refine wl_val (g_assign (v := .int .i64 (Int.tmod r14 p1)) rfl) rfl ?_
      refine wl_nil ?_
      refine hK10 _ _ ?_
      refine w_ret ?_
      repeat first | with_reducible refine q_then ?_ | with_reducible refine q_block ?_
      exact ret1 rfl (by decide) ⟨_, hm, rfl, hB15, hS13⟩
    · replace hm := hm.2 h9
      refine w_skip ?_
      refine hK7 _ _ ?_
      refine w_seq fun K17 hK17 => ?_
      refine w_region ?_
      refine wl_val (g_move (v := .pointer (some (⟨gp0, 0, none⟩ : Addr))) rfl) rfl ?_
      refine wl_step rfl (g_call (vs := #[.pointer (some (⟨gp0, 0, none⟩ : Addr))]) CF78 (args1 rfl) (m_spec_l01Byte_fn hS0 (hp0.bel hB0) hm)) ?_
      rintro _ w18 ⟨r21, hm, rfl, hb19, hS20⟩
      have hB22 := hB0.trans hb19
      refine wl_val (g_assign (v := .int .i64 r21) rfl) rfl ?_
      refine wl_nil ?_
      refine hK17 _ _ ?_
      refine w_seq fun K23 hK23 => ?_
      refine w_region ?_
      refine wl_val (g_move (v := .pointer (some (⟨gp0, 0, none⟩ : Addr))) rfl) rfl ?_
      refine wl_step rfl (g_call (vs := #[.pointer (some (⟨gp0, 0, none⟩ : Addr))]) CF78 (args1 rfl) (m_spec_l01Byte_fn hS20 (hp0.bel hB22) hm)) ?_
      rintro _ w24 ⟨r27, hm, rfl, hb25, hS26⟩
      have hB28 := hB22.trans hb25
      refine wl_val (g_assign (v := .int .i64 r27) rfl) rfl ?_
      refine wl_nil ?_
      refine hK23 _ _ ?_
      refine w_seq fun K29 hK29 => ?_
      refine w_region ?_
      refine wl_val (g_move (v := .pointer (some (⟨gp0, 0, none⟩ : Addr))) rfl) rfl ?_
      refine wl_step rfl (g_call (vs := #[.pointer (some (⟨gp0, 0, none⟩ : Addr))]) CF78 (args1 rfl) (m_spec_l01Byte_fn hS26 (hp0.bel hB28) hm)) ?_
      rintro _ w30 ⟨r33, hm, rfl, hb31, hS32⟩
      have hB34 := hB28.trans hb31
      refine wl_val (g_assign (v := .int .i64 r33) rfl) rfl ?_
      refine wl_nil ?_
      refine hK29 _ _ ?_
      refine w_seq fun K35 hK35 => ?_
      refine w_region ?_
      refine wl_val (g_move (v := .pointer (some (⟨gp0, 0, none⟩ : Addr))) rfl) rfl ?_
      refine wl_step rfl (g_call (vs := #[.pointer (some (⟨gp0, 0, none⟩ : Addr))]) CF78 (args1 rfl) (m_spec_l01Byte_fn hS32 (hp0.bel hB34) hm)) ?_
      rintro _ w36 ⟨r39, hm, rfl, hb37, hS38⟩
      have hB40 := hB34.trans hb37
      refine wl_val (g_assign (v := .int .i64 r39) rfl) rfl ?_
      refine wl_nil ?_
      refine hK35 _ _ ?_
      refine w_seq fun K41 hK41 => ?_
      refine w_region ?_
      refine wl_val (g_move (v := .int .i64 r21) rfl) rfl ?_
      obtain ⟨hg42, hm⟩ := hm
      refine wl_val (g_mul (a := r21) (b := 16777216) rfl rfl hg42) rfl ?_
      refine wl_val (g_move (v := .int .i64 r27) rfl) rfl ?_
      obtain ⟨hg43, hm⟩ := hm
      refine wl_val (g_mul (a := r27) (b := 65536) rfl rfl hg43) rfl ?_
      obtain ⟨hg44, hm⟩ := hm
      refine wl_val (g_add (a := (r21 * 16777216)) (b := (r27 * 65536)) rfl rfl hg44) rfl ?_
      refine wl_val (g_move (v := .int .i64 r33) rfl) rfl ?_
      obtain ⟨hg45, hm⟩ := hm
      refine wl_val (g_mul (a := r33) (b := 256) rfl rfl hg45) rfl ?_
      obtain ⟨hg46, hm⟩ := hm
      refine wl_val (g_add (a := ((r21 * 16777216) + (r27 * 65536))) (b := (r33 * 256)) rfl rfl hg46) rfl ?_
      refine wl_val (g_move (v := .int .i64 r39) rfl) rfl ?_
      obtain ⟨hg47, hm⟩ := hm
      refine wl_val (g_add (a := (((r21 * 16777216) + (r27 * 65536)) + (r33 * 256))) (b := r39) rfl rfl hg47) rfl ?_
      refine wl_val (g_move (v := .int .i64 p1) rfl) rfl ?_
      obtain ⟨hg48, hm⟩ := hm
      refine wl_val (g_rem (a := ((((r21 * 16777216) + (r27 * 65536)) + (r33 * 256)) + r39)) (b := p1) rfl rfl hg48) rfl ?_
      refine wl_val (g_assign (v := .int .i64 (Int.tmod ((((r21 * 16777216) + (r27 * 65536)) + (r33 * 256)) + r39) p1)) rfl) rfl ?_
      refine wl_nil ?_
      refine hK41 _ _ ?_
      refine w_ret ?_
      repeat first | with_reducible refine q_then ?_ | with_reducible refine q_block ?_
      exact ret1 rfl (by decide) ⟨_, hm, rfl, hB40, hS38⟩

theorem m_spec_l01Once_fn {w : World} {B_ : Nat} {L_ : List Ob} {gp0 : Nat} {ap0 : Option Addr} {np0 cp0 : Nat} {p0 : List Byte} {Q : Bool → Prop} (hS0 : Sep w B_ (oCur 67 gp0 ap0 np0 cp0 :: L_)) (hp0 : Vw B_ w ap0 np0 cp0 p0) (p1 : Int) (hm : m_spec_l01Once p1 Q) :
    Fn Try.prog 76 #[.pointer (some (⟨gp0, 0, none⟩ : Addr)), .int .i64 p1] w (fun v w' => ∃ (r0 : Bool), Q r0 ∧ v = .bool r0 ∧ Below B_ w w' ∧ Sep w' B_ (oCur 67 gp0 ap0 np0 cp0 :: L_)) := by
  unfold m_spec_l01Once at hm
  have hB0 := Below.refl B_ w
  refine fn_of_wp Try.func76 rfl (by kernel_rfl) (Nat.le_of_ble_eq_true rfl) ?_
  refine w_seq fun K2 hK2 => ?_
  refine w_region ?_
  refine wl_val (g_assign (v := .bool false) rfl) rfl ?_
  refine wl_nil ?_
  refine hK2 _ _ ?_
  refine w_seq fun K3 hK3 => ?_
  refine w_region ?_
  refine wl_val (g_move (v := .pointer (some (⟨gp0, 0, none⟩ : Addr))) rfl) rfl ?_
  refine wl_val (g_move (v := .int .i64 p1) rfl) rfl ?_
  refine wl_step rfl (g_call (vs := #[.pointer (some (⟨gp0, 0, none⟩ : Addr)), .int .i64 p1]) CF75 (args2 rfl rfl) (m_spec_l01Below_fn hS0 (hp0.bel hB0) p1 hm)) ?_
  rintro _ w4 ⟨r7, hm, rfl, hb5, hS6⟩
  have hB8 := hB0.trans hb5
  refine wl_val (g_eql (a := r7) (b := 0) rfl rfl) rfl ?_
  refine wl_val (g_assign (v := .bool (decide (r7 = 0))) rfl) rfl ?_
  refine wl_nil ?_
  refine hK3 _ _ ?_
  refine w_ret ?_
  repeat first | with_reducible refine q_then ?_ | with_reducible refine q_block ?_
  exact ret1 rfl (by decide) ⟨_, hm, rfl, hB8, hS6⟩

theorem m_spec_l11List_fn {w : World} {B_ : Nat} {L_ : List Ob} {gp0 : Nat} {ap0 : Option Addr} {np0 cp0 : Nat} {p0 : List Byte} {Q : (List CueC) → Prop} (hS0 : Sep w B_ (oCur 67 gp0 ap0 np0 cp0 :: L_)) (hp0 : Vw B_ w ap0 np0 cp0 p0) (hm : m_spec_l11List Q) :
    Fn Try.prog 62 #[.pointer (some (⟨gp0, 0, none⟩ : Addr))] w (fun v w' => ∃ (r0 : List CueC) (a0 : Option Addr) (n0 c0 : Nat) (y0 : List CueD), Q r0 ∧ ers y0 = r0 ∧ v = .slice a0 n0 c0 ∧ Below B_ w w' ∧ Sep w' B_ (oS 39 a0 n0 c0 y0 :: oT 3 y0 :: oCur 67 gp0 ap0 np0 cp0 :: L_)) := by
  unfold m_spec_l11List at hm
  have hB0 := Below.refl B_ w
  refine fn_of_wp Try.func62 rfl (by kernel_rfl) (Nat.le_of_ble_eq_true rfl) ?_
  refine w_seq fun K2 hK2 => ?_
  refine w_region ?_
  refine wl_val (g_assign (v := .slice none 0 0) rfl) rfl ?_
  refine wl_nil ?_
  refine hK2 _ _ ?_
  refine w_seq fun K3 hK3 => ?_
  refine w_region ?_
  refine wl_step rfl (q_lit0 (α := CueD) rfl SL26 hS0) ?_
  rintro _ w4 ⟨a5, rfl, hS7, hE6⟩
  have hB9 := hB0.trans (Ext.stp hE6 hS0.base)
  have hS10 := hS7.noRows (δ := CueD) (E := 3)
  have he12 : ers ([] : List CueD) = ([] : List CueC) := rfl
  refine wl_val (g_assign (v := .slice a5 0 0) rfl) rfl ?_
  refine wl_nil ?_
  refine hK3 _ _ ?_
  refine w_seq fun K14 hK14 => ?_
  refine w_region ?_
  refine wl_val (g_move (v := .pointer (some (⟨gp0, 0, none⟩ : Addr))) rfl) rfl ?_
  have hS15 := hS10.f2
  refine wl_step rfl (g_call (vs := #[.pointer (some (⟨gp0, 0, none⟩ : Addr)), .int .i64 7]) CF75 (args2 rfl rfl) (m_spec_l01Below_fn hS15 (hp0.bel hB9) 7 hm)) ?_
  rintro _ w16 ⟨r19, hm, rfl, hb17, hS18⟩
  have hB20 := hB9.trans hb17
  obtain ⟨hg21, hm⟩ := hm
  refine wl_val (g_add (a := 1) (b := r19) rfl rfl hg21) rfl ?_
  refine wl_val (g_assign (v := .int .i64 (1 + r19)) rfl) rfl ?_
  refine wl_nil ?_
  refine hK14 _ _ ?_
  refine w_cut (σ := List CueC × Option Addr × Nat × Nat × List CueD) (fun ⟨x1273, a1274, n1275, c1276, y1277⟩ => [(3, .slice a1274 n1275 c1276)]) (fun ⟨x1273, a1274, n1275, c1276, y1277⟩ w' => m_spec_l11List_K3 Q x1273 ∧ ers y1277 = x1273 ∧ Below B_ w w' ∧ Sep w' B_ (oCur 67 gp0 ap0 np0 cp0 :: oS 39 a1274 n1275 c1276 (y1277 : List CueD) :: oT 3 (y1277 : List CueD) :: L_)) ?_ ?_
  · refine w_seq fun K1280 hK1280 => ?_
    refine w_region ?_
    refine wl_val (g_assign (v := .int .i64 0) rfl) rfl ?_
    refine wl_nil ?_
    refine hK1280 _ _ ?_
    refine w_block ?_
    have hS1288 := hS18.f1
    have hS1289 := hS1288.f2
    have hS1290 := hS1289.f2
    obtain ⟨I1291, μ1292, h01293, hr1294⟩ := hm
    refine w_for (σ := List CueC × Option Addr × Nat × Nat × List CueD × Int) (fun ⟨x1281, a1282, n1283, c1284, y1285, v1287⟩ => [(0, .pointer (some (⟨gp0, 0, none⟩ : Addr))), (3, .slice a1282 n1283 c1284), (4, .int .i64 (1 + r19)), (5, .int .i64 v1287)]) (fun ⟨x1281, a1282, n1283, c1284, y1285, v1287⟩ w' => I1291 x1281 v1287 ∧ ers y1285 = x1281 ∧ Below B_ w w' ∧ Sep w' B_ (oCur 67 gp0 ap0 np0 cp0 :: oS 39 a1282 n1283 c1284 (y1285 : List CueD) :: oT 3 (y1285 : List CueD) :: L_)) (fun ⟨x1281, a1282, n1283, c1284, y1285, v1287⟩ => μ1292 x1281 v1287) ([], a5, 0, 0, [], 0) ⟨rfl, rfl, rfl, rfl, trivial⟩ ⟨h01293, he12, hB20, hS1290⟩ ?_
    rintro ⟨x1281, a1282, n1283, c1284, y1285, v1287⟩ b_ w1295 ⟨hi_, he1286, hB1296, hS1297⟩
    show Wp _ _ _ _ (upds b_ [(0, .pointer (some (⟨gp0, 0, none⟩ : Addr))), (3, .slice a1282 n1283 c1284), (4, .int .i64 (1 + r19)), (5, .int .i64 v1287)]) w1295
    have hm := hr1294 x1281 v1287 hi_
    refine w_seq fun K1299 hK1299 => ?_
    refine w_seq fun K1300 hK1300 => ?_
    refine w_region ?_
    refine wl_val (g_move (v := .int .i64 v1287) rfl) rfl ?_
    refine wl_val (g_move (v := .int .i64 (1 + r19)) rfl) rfl ?_
    refine wl_val (g_lss (a := v1287) (b := (1 + r19)) rfl rfl) rfl ?_
    refine wl_nil ?_
    refine hK1300 _ _ ?_
    refine w_condI (p := v1287 < (1 + r19)) (b := (decide (v1287 < (1 + r19)))) rfl decide_eq_true_iff (fun h1301 => ?_) (fun h1301 => ?_)
    · replace hm := hm.1 h1301
      refine w_skip ?_
      refine hK1299 _ _ ?_
      refine w_cut (σ := List CueC × Option Addr × Nat × Nat × List CueD) (fun ⟨x1302, a1303, n1304, c1305, y1306⟩ => [(0, .pointer (some (⟨gp0, 0, none⟩ : Addr))), (3, .slice a1303 n1304 c1305), (4, .int .i64 (1 + r19)), (5, .int .i64 v1287)]) (fun ⟨x1302, a1303, n1304, c1305, y1306⟩ w' => m_spec_l11List_K2 v1287 (fun x1281' v1287' => I1291 x1281' v1287' ∧ μ1292 x1281' v1287' < μ1292 x1281 v1287) x1302 ∧ ers y1306 = x1302 ∧ Below B_ w w' ∧ Sep w' B_ (oCur 67 gp0 ap0 np0 cp0 :: oS 39 a1303 n1304 c1305 (y1306 : List CueD) :: oT 3 (y1306 : List CueD) :: L_)) ?_ ?_
      · refine w_block ?_
        refine w_seq fun K1309 hK1309 => ?_
        refine w_region ?_
        refine wl_val (g_move (v := .pointer (some (⟨gp0, 0, none⟩ : Addr))) rfl) rfl ?_
        refine wl_step rfl (g_call (vs := #[.pointer (some (⟨gp0, 0, none⟩ : Addr)), .int .i64 9]) CF75 (args2 rfl rfl) (m_spec_l01Below_fn hS1297 (hp0.bel hB1296) 9 hm)) ?_
        rintro _ w1310 ⟨r1313, hm, rfl, hb1311, hS1312⟩
        have hB1314 := hB1296.trans hb1311
        obtain ⟨hg1315, hm⟩ := hm
        refine wl_val (g_add (a := 1) (b := r1313) rfl rfl hg1315) rfl ?_
        refine wl_val (g_build (v := .agg #[.int .i64 (1 + r1313), .slice none 0 0, .slice none 0 0]) (parts1 rfl) (BD39_0 (1 + r1313))) rfl ?_
        refine wl_step rfl (q_alloc (cs := #[.int .i64 0, .slice none 0 0, .slice none 0 0]) ZR39 rfl hS1312) ?_
        rintro _ w1316 ⟨g1317, rfl, hS1319, hE1318⟩
        have hB1321 := hB1314.trans (Ext.stp hE1318 hS1312.base)
        refine wl_step rfl (q_storeB (i := 0) (bs' := #[.int .i64 (1 + r1313), .slice none 0 0, .slice none 0 0]) (vs := [.int .i64 (1 + r1313), .slice none 0 0, .slice none 0 0]) hS1319 AG39.sz rfl rfl rfl (by simp [Value.oneCell']) (Nat.le_of_ble_eq_true rfl) rfl) ?_
        rintro _ w1322 ⟨rfl, hS1323, hb1324⟩
        have hB1325 := hB1321.trans hb1324
        refine wl_nil ?_
        refine hK1309 _ _ ?_
        refine w_cut (σ := List Int × Option Addr × Nat × Nat) (fun ⟨x1431, a1432, n1433, c1434⟩ => [(0, .pointer (some (⟨gp0, 0, none⟩ : Addr))), (3, .slice a1282 n1283 c1284), (4, .int .i64 (1 + r19)), (5, .int .i64 v1287), (6, .pointer (some (⟨g1317, 0, none⟩ : Addr)))]) (fun ⟨x1431, a1432, n1433, c1434⟩ w' => m_spec_l11List_K1 x1281 r1313 (m_spec_l11List_K2 v1287 (fun x1281' v1287' => I1291 x1281' v1287' ∧ μ1292 x1281' v1287' < μ1292 x1281 v1287)) x1431 ∧ Below B_ w w' ∧ Sep w' B_ (oCur 67 gp0 ap0 np0 cp0 :: oS 39 a1282 n1283 c1284 (y1285 : List CueD) :: oT 3 (y1285 : List CueD) :: oB g1317 39 #[.int .i64 (1 + r1313), .slice a1432 n1433 c1434, .slice none 0 0] :: oS 3 a1432 n1433 c1434 (x1431 : List Int) :: L_)) ?_ ?_
        · refine w_seq fun K1437 hK1437 => ?_
          refine w_region ?_
          refine wl_val (g_assign (v := .int .i64 0) rfl) rfl ?_
          refine wl_nil ?_
          refine hK1437 _ _ ?_
          refine w_block ?_
          have hS1444 := hS1323.nilS (α := Int) (E := 3)
          have hS1446 := hS1444.f1
          have hS1447 := hS1446.f4
          have hS1448 := hS1447.f4
          have hS1449 := hS1448.f4
          obtain ⟨I1450, μ1451, h01452, hr1453⟩ := hm
          refine w_for (σ := Int × List Int × Option Addr × Nat × Nat) (fun ⟨v1438, x1439, a1440, n1441, c1442⟩ => [(0, .pointer (some (⟨gp0, 0, none⟩ : Addr))), (3, .slice a1282 n1283 c1284), (4, .int .i64 (1 + r19)), (5, .int .i64 v1287), (6, .pointer (some (⟨g1317, 0, none⟩ : Addr))), (7, .int .i64 v1438)]) (fun ⟨v1438, x1439, a1440, n1441, c1442⟩ w' => I1450 v1438 x1439 ∧ Below B_ w w' ∧ Sep w' B_ (oCur 67 gp0 ap0 np0 cp0 :: oS 39 a1282 n1283 c1284 (y1285 : List CueD) :: oT 3 (y1285 : List CueD) :: oB g1317 39 #[.int .i64 (1 + r1313), .slice a1440 n1441 c1442, .slice none 0 0] :: oS 3 a1440 n1441 c1442 (x1439 : List Int) :: L_)) (fun ⟨v1438, x1439, a1440, n1441, c1442⟩ => μ1451 v1438 x1439) (0, [], none, 0, 0) ⟨rfl, rfl, rfl, rfl, rfl, rfl, trivial⟩ ⟨h01452, hB1325, hS1449⟩ ?_
          rintro ⟨v1438, x1439, a1440, n1441, c1442⟩ b_ w1454 ⟨hi_, hB1455, hS1456⟩
          show Wp _ _ _ _ (upds b_ [(0, .pointer (some (⟨gp0, 0, none⟩ : Addr))), (3, .slice a1282 n1283 c1284), (4, .int .i64 (1 + r19)), (5, .int .i64 v1287), (6, .pointer (some (⟨g1317, 0, none⟩ : Addr))), (7, .int .i64 v1438)]) w1454
          have hm := hr1453 v1438 x1439 hi_
          refine w_seq fun K1458 hK1458 => ?_
          refine w_seq fun K1459 hK1459 => ?_
          refine w_region ?_
          refine wl_val (g_move (v := .int .i64 v1438) rfl) rfl ?_
          refine wl_val (g_move (v := .int .i64 v1287) rfl) rfl ?_
          refine wl_val (g_lss (a := v1438) (b := v1287) rfl rfl) rfl ?_
          refine wl_nil ?_
          refine hK1459 _ _ ?_
          refine w_condI (p := v1438 < v1287) (b := (decide (v1438 < v1287))) rfl decide_eq_true_iff (fun h1460 => ?_) (fun h1460 => ?_)
          · replace hm := hm.1 h1460
            refine w_skip ?_
            refine hK1458 _ _ ?_
            refine w_seq fun K1461 hK1461 => ?_
            refine w_block ?_
            refine w_seq fun K1462 hK1462 => ?_
            refine w_region ?_
            refine wl_val (g_move (v := .pointer (some (⟨gp0, 0, none⟩ : Addr))) rfl) rfl ?_
            refine wl_step rfl (g_call (vs := #[.pointer (some (⟨gp0, 0, none⟩ : Addr)), .int .i64 4]) CF76 (args2 rfl rfl) (m_spec_l01Once_fn hS1456 (hp0.bel hB1455) 4 hm)) ?_
            rintro _ w1463 ⟨r1466, hm, rfl, hb1464, hS1465⟩
            have hB1467 := hB1455.trans hb1464
            refine wl_nil ?_
            refine hK1462 _ _ ?_
            refine w_condI (p := r1466 = true) (b := r1466) rfl Iff.rfl (fun h1468 => ?_) (fun h1468 => ?_)
            · replace hm := hm.1 h1468
              refine w_region ?_
              refine wl_val (g_fieldAddr (q := (⟨g1317, 0, none⟩ : Addr)) FL39_1 ON24 rfl) rfl ?_
              refine wl_val (q_loadB (i := 1) (bs := #[.int .i64 (1 + r1313), .slice a1440 n1441 c1442, .slice none 0 0]) hS1465.g3 ON24 rfl rfl) rfl ?_
              refine wl_val (g_move (v := .int .i64 v1438) rfl) rfl ?_
              refine wl_step rfl (q_lit1 (y := (v1438 : Int)) SL24 rfl rfl (by decide) hS1465) ?_
              rintro _ w1469 ⟨a1470, rfl, hS1472, hE1471⟩
              have hB1474 := hB1467.trans (Ext.stp hE1471 hS1465.base)
              have hS1480 := hS1472.f5
              obtain ⟨hg1481, hm⟩ := hm
              refine wl_step rfl (q_append SL24 rfl rfl hS1480 (oS.vw hS1480.g1) hg1481 (by decide)) ?_
              rintro _ w1475 ⟨a1476, c1477, rfl, hS1479, hb1478⟩
              have hB1482 := hB1474.trans hb1478
              refine wl_val (g_fieldAddr (q := (⟨g1317, 0, none⟩ : Addr)) FL39_1 ON24 rfl) rfl ?_
              have hS1486 := hS1479.f5
              refine wl_step rfl (q_storeB (i := 1) (bs' := #[.int .i64 (1 + r1313), .slice a1476 (n1441 + 1) c1477, .slice none 0 0]) (vs := [.slice a1476 (n1441 + 1) c1477]) hS1486 ON24.sz rfl rfl rfl (by simp [Value.oneCell']) (Nat.le_of_ble_eq_true rfl) rfl) ?_
              rintro _ w1483 ⟨rfl, hS1484, hb1485⟩
              have hB1487 := hB1482.trans hb1485
              refine wl_nil ?_
              refine hK1461 _ _ ?_
              refine w_region ?_
              refine wl_val (g_move (v := .int .i64 v1438) rfl) rfl ?_
              obtain ⟨hg1488, hm⟩ := hm
              refine wl_val (g_add (a := v1438) (b := 1) rfl rfl hg1488) rfl ?_
              refine wl_val (g_assign (v := .int .i64 (v1438 + 1)) rfl) rfl ?_
              refine wl_nil ?_
              have hS1489 := hS1484.f2
              have hS1490 := hS1489.tail
              have hS1491 := hS1490.f1
              have hS1492 := hS1491.f1
              have hS1493 := hS1492.f4
              have hS1494 := hS1493.f4
              have hS1495 := hS1494.f4
              exact ⟨((v1438 + 1), (x1439 ++ ([v1438])), a1476, (n1441 + 1), c1477), hm.2, ⟨rfl, rfl, rfl, rfl, rfl, rfl, trivial⟩, ⟨hm.1, hB1487, hS1495⟩⟩
            · replace hm := hm.2 h1468
              refine w_skip ?_
              refine hK1461 _ _ ?_
              refine w_region ?_
              refine wl_val (g_move (v := .int .i64 v1438) rfl) rfl ?_
              obtain ⟨hg1496, hm⟩ := hm
              refine wl_val (g_add (a := v1438) (b := 1) rfl rfl hg1496) rfl ?_
              refine wl_val (g_assign (v := .int .i64 (v1438 + 1)) rfl) rfl ?_
              refine wl_nil ?_
              exact ⟨((v1438 + 1), x1439, a1440, n1441, c1442), hm.2, ⟨rfl, rfl, rfl, rfl, rfl, rfl, trivial⟩, ⟨hm.1, hB1467, hS1465⟩⟩
          · replace hm := hm.2 h1460
            refine w_exit ?_
            exact ⟨(x1439, a1440, n1441, c1442), ⟨rfl, rfl, rfl, rfl, rfl, trivial⟩, ⟨hm, hB1455, hS1456⟩⟩
        · rintro ⟨x1431, a1432, n1433, c1434⟩ b_ w1497 ⟨hm, hB1498, hS1499⟩
          show Wp _ _ _ _ (upds b_ [(0, .pointer (some (⟨gp0, 0, none⟩ : Addr))), (3, .slice a1282 n1283 c1284), (4, .int .i64 (1 + r19)), (5, .int .i64 v1287), (6, .pointer (some (⟨g1317, 0, none⟩ : Addr)))]) w1497
          refine w_cut (σ := List Int × Option Addr × Nat × Nat) (fun ⟨x1604, a1605, n1606, c1607⟩ => [(0, .pointer (some (⟨gp0, 0, none⟩ : Addr))), (3, .slice a1282 n1283 c1284), (4, .int .i64 (1 + r19)), (5, .int .i64 v1287), (6, .pointer (some (⟨g1317, 0, none⟩ : Addr)))]) (fun ⟨x1604, a1605, n1606, c1607⟩ w' => m_spec_l11List_K0 x1281 r1313 x1431 (m_spec_l11List_K2 v1287 (fun x1281' v1287' => I1291 x1281' v1287' ∧ μ1292 x1281' v1287' < μ1292 x1281 v1287)) x1604 ∧ Below B_ w w' ∧ Sep w' B_ (oCur 67 gp0 ap0 np0 cp0 :: oS 39 a1282 n1283 c1284 (y1285 : List CueD) :: oT 3 (y1285 : List CueD) :: oB g1317 39 #[.int .i64 (1 + r1313), .slice a1432 n1433 c1434, .slice a1605 n1606 c1607] :: oS 3 a1432 n1433 c1434 (x1431 : List Int) :: oS 3 a1605 n1606 c1607 (x1604 : List Int) :: L_)) ?_ ?_
          · refine w_seq fun K1610 hK1610 => ?_
            refine w_region ?_
            refine wl_val (g_assign (v := .int .i64 0) rfl) rfl ?_
            refine wl_nil ?_
            refine hK1610 _ _ ?_
            refine w_block ?_
            have hS1617 := hS1499.nilS (α := Int) (E := 3)
            have hS1619 := hS1617.f5
            have hS1620 := hS1619.f5
            have hS1621 := hS1620.f5
            have hS1622 := hS1621.f5
            have hS1623 := hS1622.f5
            obtain ⟨I1624, μ1625, h01626, hr1627⟩ := hm
            refine w_for (σ := Int × List Int × Option Addr × Nat × Nat) (fun ⟨v1611, x1612, a1613, n1614, c1615⟩ => [(0, .pointer (some (⟨gp0, 0, none⟩ : Addr))), (3, .slice a1282 n1283 c1284), (4, .int .i64 (1 + r19)), (5, .int .i64 v1287), (6, .pointer (some (⟨g1317, 0, none⟩ : Addr))), (8, .int .i64 v1611)]) (fun ⟨v1611, x1612, a1613, n1614, c1615⟩ w' => I1624 v1611 x1612 ∧ Below B_ w w' ∧ Sep w' B_ (oCur 67 gp0 ap0 np0 cp0 :: oS 39 a1282 n1283 c1284 (y1285 : List CueD) :: oT 3 (y1285 : List CueD) :: oB g1317 39 #[.int .i64 (1 + r1313), .slice a1432 n1433 c1434, .slice a1613 n1614 c1615] :: oS 3 a1432 n1433 c1434 (x1431 : List Int) :: oS 3 a1613 n1614 c1615 (x1612 : List Int) :: L_)) (fun ⟨v1611, x1612, a1613, n1614, c1615⟩ => μ1625 v1611 x1612) (0, [], none, 0, 0) ⟨rfl, rfl, rfl, rfl, rfl, rfl, trivial⟩ ⟨h01626, hB1498, hS1623⟩ ?_
            rintro ⟨v1611, x1612, a1613, n1614, c1615⟩ b_ w1628 ⟨hi_, hB1629, hS1630⟩
            show Wp _ _ _ _ (upds b_ [(0, .pointer (some (⟨gp0, 0, none⟩ : Addr))), (3, .slice a1282 n1283 c1284), (4, .int .i64 (1 + r19)), (5, .int .i64 v1287), (6, .pointer (some (⟨g1317, 0, none⟩ : Addr))), (8, .int .i64 v1611)]) w1628
            have hm := hr1627 v1611 x1612 hi_
            refine w_seq fun K1632 hK1632 => ?_
            refine w_seq fun K1633 hK1633 => ?_
            refine w_region ?_
            refine wl_val (g_move (v := .int .i64 v1611) rfl) rfl ?_
            refine wl_val (g_lss (a := v1611) (b := 5) rfl rfl) rfl ?_
            refine wl_nil ?_
            refine hK1633 _ _ ?_
            refine w_condI (p := v1611 < 5) (b := (decide (v1611 < 5))) rfl decide_eq_true_iff (fun h1634 => ?_) (fun h1634 => ?_)
            · replace hm := hm.1 h1634
              refine w_skip ?_
              refine hK1632 _ _ ?_
              refine w_seq fun K1635 hK1635 => ?_
              refine w_block ?_
              refine w_seq fun K1636 hK1636 => ?_
              refine w_region ?_
              refine wl_val (g_move (v := .pointer (some (⟨gp0, 0, none⟩ : Addr))) rfl) rfl ?_
              refine wl_step rfl (g_call (vs := #[.pointer (some (⟨gp0, 0, none⟩ : Addr)), .int .i64 3]) CF76 (args2 rfl rfl) (m_spec_l01Once_fn hS1630 (hp0.bel hB1629) 3 hm)) ?_
              rintro _ w1637 ⟨r1640, hm, rfl, hb1638, hS1639⟩
              have hB1641 := hB1629.trans hb1638
              refine wl_nil ?_
              refine hK1636 _ _ ?_
              refine w_condI (p := r1640 = true) (b := r1640) rfl Iff.rfl (fun h1642 => ?_) (fun h1642 => ?_)
              · replace hm := hm.1 h1642
                refine w_region ?_
                refine wl_val (g_fieldAddr (q := (⟨g1317, 0, none⟩ : Addr)) FL39_2 ON24 rfl) rfl ?_
                refine wl_val (q_loadB (i := 2) (bs := #[.int .i64 (1 + r1313), .slice a1432 n1433 c1434, .slice a1613 n1614 c1615]) hS1639.g3 ON24 rfl rfl) rfl ?_
                refine wl_val (g_move (v := .int .i64 v1611) rfl) rfl ?_
                refine wl_step rfl (q_lit1 (y := (v1611 : Int)) SL24 rfl rfl (by decide) hS1639) ?_
                rintro _ w1643 ⟨a1644, rfl, hS1646, hE1645⟩
                have hB1648 := hB1641.trans (Ext.stp hE1645 hS1639.base)
                have hS1654 := hS1646.f6
                obtain ⟨hg1655, hm⟩ := hm
                refine wl_step rfl (q_append SL24 rfl rfl hS1654 (oS.vw hS1654.g1) hg1655 (by decide)) ?_
                rintro _ w1649 ⟨a1650, c1651, rfl, hS1653, hb1652⟩
                have hB1656 := hB1648.trans hb1652
                refine wl_val (g_fieldAddr (q := (⟨g1317, 0, none⟩ : Addr)) FL39_2 ON24 rfl) rfl ?_
                have hS1660 := hS1653.f5
                refine wl_step rfl (q_storeB (i := 2) (bs' := #[.int .i64 (1 + r1313), .slice a1432 n1433 c1434, .slice a1650 (n1614 + 1) c1651]) (vs := [.slice a1650 (n1614 + 1) c1651]) hS1660 ON24.sz rfl rfl rfl (by simp [Value.oneCell']) (Nat.le_of_ble_eq_true rfl) rfl) ?_
                rintro _ w1657 ⟨rfl, hS1658, hb1659⟩
                have hB1661 := hB1656.trans hb1659
                refine wl_nil ?_
                refine hK1635 _ _ ?_
                refine w_region ?_
                refine wl_val (g_move (v := .int .i64 v1611) rfl) rfl ?_
                obtain ⟨hg1662, hm⟩ := hm
                refine wl_val (g_add (a := v1611) (b := 1) rfl rfl hg1662) rfl ?_
                refine wl_val (g_assign (v := .int .i64 (v1611 + 1)) rfl) rfl ?_
                refine wl_nil ?_
                have hS1663 := hS1658.f2
                have hS1664 := hS1663.tail
                have hS1665 := hS1664.f1
                have hS1666 := hS1665.f5
                have hS1667 := hS1666.f2
                have hS1668 := hS1667.f5
                have hS1669 := hS1668.f5
                have hS1670 := hS1669.f5
                exact ⟨((v1611 + 1), (x1612 ++ ([v1611])), a1650, (n1614 + 1), c1651), hm.2, ⟨rfl, rfl, rfl, rfl, rfl, rfl, trivial⟩, ⟨hm.1, hB1661, hS1670⟩⟩
              · replace hm := hm.2 h1642
                refine w_skip ?_
                refine hK1635 _ _ ?_
                refine w_region ?_
                refine wl_val (g_move (v := .int .i64 v1611) rfl) rfl ?_
                obtain ⟨hg1671, hm⟩ := hm
                refine wl_val (g_add (a := v1611) (b := 1) rfl rfl hg1671) rfl ?_
                refine wl_val (g_assign (v := .int .i64 (v1611 + 1)) rfl) rfl ?_
                refine wl_nil ?_
                exact ⟨((v1611 + 1), x1612, a1613, n1614, c1615), hm.2, ⟨rfl, rfl, rfl, rfl, rfl, rfl, trivial⟩, ⟨hm.1, hB1641, hS1639⟩⟩
            · replace hm := hm.2 h1634
              refine w_exit ?_
              exact ⟨(x1612, a1613, n1614, c1615), ⟨rfl, rfl, rfl, rfl, rfl, trivial⟩, ⟨hm, hB1629, hS1630⟩⟩
          · rintro ⟨x1604, a1605, n1606, c1607⟩ b_ w1672 ⟨hm, hB1673, hS1674⟩
            show Wp _ _ _ _ (upds b_ [(0, .pointer (some (⟨gp0, 0, none⟩ : Addr))), (3, .slice a1282 n1283 c1284), (4, .int .i64 (1 + r19)), (5, .int .i64 v1287), (6, .pointer (some (⟨g1317, 0, none⟩ : Addr)))]) w1672
            refine w_region ?_
            refine wl_val (g_move (v := .slice a1282 n1283 c1284) rfl) rfl ?_
            refine wl_val (q_loadBS (bs := #[.int .i64 (1 + r1313), .slice a1432 n1433 c1434, .slice a1605 n1606 c1607]) hS1674.g3 AG39 rfl) rfl ?_
            have hS1680 := hS1674.f5
            have hS1681 := hS1680.f5
            have hn1682 := oS.len hS1681.g0
            have hn1683 := oS.len hS1681.g1
            have hS1684 := hS1681.rowsCue (1 + r1313)
            have he1679 : ers [(((1 + r1313), (a1432, c1434, x1431), (a1605, c1607, x1604)) : CueD)] = [((1 + r1313), x1431, x1604)] := rfl
            refine wl_step rfl (q_lit1 (y := ((((1 + r1313), (a1432, c1434, x1431), (a1605, c1607, x1604)) : CueD) : CueD)) SL26 rfl (by rw [hn1682, hn1683]; rfl) (by decide) hS1684) ?_
            rintro _ w1675 ⟨a1676, rfl, hS1678, hE1677⟩
            have hB1687 := hB1673.trans (Ext.stp hE1677 hS1684.base)
            have hS1694 := hS1678.f3
            obtain ⟨hg1695, hm⟩ := hm
            have hl1696 : (y1285).length + ([(((1 + r1313), (a1432, c1434, x1431), (a1605, c1607, x1604)) : CueD)]).length ≤ 1099511627776 := by have h1 := congrArg List.length he1286; have h2 := congrArg List.length he1679; have h3 := hg1695; simp only [ers, List.length_map, List.length_append, List.length_cons, List.length_nil, List.length_replicate, List.length_set] at h1 h2 h3 ⊢; omega
            refine wl_step rfl (q_append SL26 rfl rfl hS1694 (oS.vw hS1694.g1) hl1696 (by decide)) ?_
            rintro _ w1689 ⟨a1690, c1691, rfl, hS1693, hb1692⟩
            have hB1697 := hB1687.trans hb1692
            have hS1698 := hS1693.f1
            have hS1699 := hS1698.tail
            have hS1700 := hS1699.f3
            have hS1701 := hS1700.f2
            have hS1702 := hS1701.catRows
            have he1703 : ers (y1285 ++ ([(((1 + r1313), (a1432, c1434, x1431), (a1605, c1607, x1604)) : CueD)])) = (x1281 ++ ([((1 + r1313), x1431, x1604)])) := by rw [← he1286, ← he1679]; exact List.map_append
            refine wl_val (g_assign (v := .slice a1690 (n1283 + 1) c1691) rfl) rfl ?_
            refine wl_nil ?_
            have hS1704 := hS1702.f3
            have hS1705 := hS1704.tail
            have hS1706 := hS1705.f1
            have hS1707 := hS1706.f2
            exact ⟨((x1281 ++ ([((1 + r1313), x1431, x1604)])), a1690, (n1283 + 1), c1691, (y1285 ++ ([(((1 + r1313), (a1432, c1434, x1431), (a1605, c1607, x1604)) : CueD)]))), ⟨rfl, rfl, rfl, rfl, trivial⟩, ⟨hm, he1703, hB1697, hS1707⟩⟩
      · rintro ⟨x1302, a1303, n1304, c1305, y1306⟩ b_ w1708 ⟨hm, he1307, hB1709, hS1710⟩
        show Wp _ _ _ _ (upds b_ [(0, .pointer (some (⟨gp0, 0, none⟩ : Addr))), (3, .slice a1303 n1304 c1305), (4, .int .i64 (1 + r19)), (5, .int .i64 v1287)]) w1708
        refine w_region ?_
        refine wl_val (g_move (v := .int .i64 v1287) rfl) rfl ?_
        obtain ⟨hg1711, hm⟩ := hm
        refine wl_val (g_add (a := v1287) (b := 1) rfl rfl hg1711) rfl ?_
        refine wl_val (g_assign (v := .int .i64 (v1287 + 1)) rfl) rfl ?_
        refine wl_nil ?_
        exact ⟨(x1302, a1303, n1304, c1305, y1306, (v1287 + 1)), hm.2, ⟨rfl, rfl, rfl, rfl, trivial⟩, ⟨hm.1, he1307, hB1709, hS1710⟩⟩
    · replace hm := hm.2 h1301
      refine w_exit ?_
      exact ⟨(x1281, a1282, n1283, c1284, y1285), ⟨rfl, trivial⟩, ⟨hm, he1286, hB1296, hS1297⟩⟩
  · rintro ⟨x1273, a1274, n1275, c1276, y1277⟩ b_ w1712 ⟨hm, he1278, hB1713, hS1714⟩
    show Wp _ _ _ _ (upds b_ [(3, .slice a1274 n1275 c1276)]) w1712
    refine w_seq fun K1715 hK1715 => ?_
    refine w_region ?_
    refine wl_val (g_move (v := .slice a1274 n1275 c1276) rfl) rfl ?_
    refine wl_val (g_assign (v := .slice a1274 n1275 c1276) rfl) rfl ?_
    refine wl_nil ?_
    refine hK1715 _ _ ?_
    refine w_ret ?_
    have hS1716 := hS1714.f2
    have hS1717 := hS1716.f2
    repeat first | with_reducible refine q_then ?_ | with_reducible refine q_block ?_
    exact ret1 rfl (by decide) ⟨_, _, _, _, _, hm, he1278, rfl, hB1713, hS1717⟩

theorem m_spec_DrawCues_fn {w : World} {a0 : Option Addr} {n0 c0 : Nat} {p0 : List Byte} {Q : (List CueC) → Prop} (hp0 : Vw w.heap.size w a0 n0 c0 p0) (hm : m_spec_DrawCues p0 Q) :
    Fn Try.prog 27 #[.slice a0 n0 c0] w (fun v w' => ∃ (r0 : List CueC) (a0 : Option Addr) (n0 c0 : Nat) (y0 : List CueD), Q r0 ∧ ers y0 = r0 ∧ v = .slice a0 n0 c0 ∧ Ext w w' ∧ Sep w' w.heap.size [oS 39 a0 n0 c0 y0, oT 3 y0]) := by
  unfold m_spec_DrawCues at hm
  have hB0 := Below.refl w.heap.size w
  have hS0 : Sep w w.heap.size [] := Sep.nil (Nat.le_refl _)
  refine fn_of_wp Try.func27 rfl (by kernel_rfl) (Nat.le_of_ble_eq_true rfl) ?_
  refine w_seq fun K1 hK1 => ?_
  refine w_region ?_
  refine wl_val (g_assign (v := .slice none 0 0) rfl) rfl ?_
  refine wl_nil ?_
  refine hK1 _ _ ?_
  refine w_seq fun K2 hK2 => ?_
  refine w_region ?_
  refine wl_val (g_move (v := .slice a0 n0 c0) rfl) rfl ?_
  refine wl_step rfl (g_call (vs := #[.slice a0 n0 c0]) CF63 (args1 rfl) (m_spec_l01New_fn ((hp0.bel hB0).up hS0) hm)) ?_
  rintro _ w3 ⟨g6, hm, rfl, hE4, hN5⟩
  have hS8 := hS0.call1 hE4 hN5
  have hB9 := hB0.trans (Ext.stp hE4 hS0.base)
  refine wl_step rfl (g_call (vs := #[.pointer (some (⟨g6, 0, none⟩ : Addr))]) CF62 (args1 rfl) (m_spec_l11List_fn hS8 (hp0.bel hB9) hm)) ?_
  rintro _ w10 ⟨r13, a14, n15, c16, y17, hm, he18, rfl, hb11, hS12⟩
  have hB22 := hB9.trans hb11
  refine wl_val (g_assign (v := .slice a14 n15 c16) rfl) rfl ?_
  refine wl_nil ?_
  refine hK2 _ _ ?_
  refine w_ret ?_
  have hS23 := hS12.f2
  have hS24 := hS23.tail
  repeat first | with_reducible refine q_then ?_ | with_reducible refine q_block ?_
  exact ret1 rfl (by decide) ⟨_, _, _, _, _, hm, he18, rfl, toExt hB22, hS24⟩

theorem m_impl_within_fn {w : World}  {Q : Bool → Prop} (p0 : Int) (p1 : Int) (p2 : Int) (hm : m_impl_within p0 p1 p2 Q) :
    Fn Try.prog 65 #[.int .i64 p0, .int .i64 p1, .int .i64 p2] w (fun v w' => ∃ (r0 : Bool), Q r0 ∧ v = .bool r0 ∧ Ext w w') := by
  unfold m_impl_within at hm
  have hB0 := Below.refl w.heap.size w
  have hS0 : Sep w w.heap.size [] := Sep.nil (Nat.le_refl _)
  refine fn_of_wp Try.func65 rfl (by kernel_rfl) (Nat.le_of_ble_eq_true rfl) ?_
  refine w_seq fun K1 hK1 => ?_
  refine w_region ?_
  refine wl_val (g_assign (v := .bool false) rfl) rfl ?_
  refine wl_nil ?_
  refine hK1 _ _ ?_
  refine w_seq fun K2 hK2 => ?_
  refine w_region ?_
  refine wl_val (g_move (v := .int .i64 p0) rfl) rfl ?_
  refine wl_val (g_move (v := .int .i64 p1) rfl) rfl ?_
  refine wl_val (g_geq (a := p0) (b := p1) rfl rfl) rfl ?_
  refine wl_val (g_move (v := .bool (decide (p0 ≥ p1))) rfl) rfl ?_
  refine wl_guard (c := (decide (p0 ≥ p1)) = true) (val := .int .i64 p0) (b := ((decide (p0 ≥ p1)) == true)) (gv_some rfl rfl rfl) beq_iff_eq (fun hc3 => ?_) ?_
  · have hcq0 : p0 ≥ p1 := (decide_eq_true_iff.mp hc3)
    exact g_move (v := .int .i64 p0) rfl
  refine wl_guard (c := (decide (p0 ≥ p1)) = true) (val := .int .i64 p2) (b := ((decide (p0 ≥ p1)) == true)) (gv_some rfl rfl rfl) beq_iff_eq (fun hc4 => ?_) ?_
  · have hcq0 : p0 ≥ p1 := (decide_eq_true_iff.mp hc4)
    exact g_move (v := .int .i64 p2) rfl
  refine wl_guard (c := (decide (p0 ≥ p1)) = true) (val := .bool (decide (p0 ≤ p2))) (b := ((decide (p0 ≥ p1)) == true)) (gv_some rfl rfl rfl) beq_iff_eq (fun hc5 => ?_) ?_
  · have hcq0 : p0 ≥ p1 := (decide_eq_true_iff.mp hc5)
    exact g_leq (a := p0) (b := p2) (if_pos hc5) (if_pos hc5)
  refine wl_val (g_pick_and (b := (decide (p0 ≥ p1))) (q := (decide (p0 ≤ p2))) rfl rfl) rfl ?_
  refine wl_val (g_assign (v := .bool ((decide (p0 ≥ p1)) && (decide (p0 ≤ p2)))) rfl) rfl ?_
  refine wl_nil ?_
  refine hK2 _ _ ?_
  refine w_ret ?_
  repeat first | with_reducible refine q_then ?_ | with_reducible refine q_block ?_
  exact ret1 rfl (by decide) ⟨_, hm, rfl, toExt hB0⟩

theorem m_impl_allWithin_fn {w : World} {a0 : Option Addr} {n0 c0 : Nat} {p0 : List Int} {Q : Bool → Prop} (hp0 : Vw w.heap.size w a0 n0 c0 p0) (p1 : Int) (p2 : Int) (hm : m_impl_allWithin p0 p1 p2 Q) :
    Fn Try.prog 77 #[.slice a0 n0 c0, .int .i64 p1, .int .i64 p2] w (fun v w' => ∃ (r0 : Bool), Q r0 ∧ v = .bool r0 ∧ Ext w w') := by
  unfold m_impl_allWithin at hm
  have hB0 := Below.refl w.heap.size w
  have hS0 : Sep w w.heap.size [] := Sep.nil (Nat.le_refl _)
  refine fn_of_wp Try.func77 rfl (by kernel_rfl) (Nat.le_of_ble_eq_true rfl) ?_
  refine w_seq fun K1 hK1 => ?_
  refine w_region ?_
  refine wl_val (g_assign (v := .bool false) rfl) rfl ?_
  refine wl_nil ?_
  refine hK1 _ _ ?_
  refine w_cut (σ := Unit) (fun _ => []) (fun _ w' => m_impl_allWithin_K0 Q ∧ Below w.heap.size w w' ∧ Sep w' w.heap.size []) ?_ ?_
  · refine w_seq fun K3 hK3 => ?_
    refine w_region ?_
    refine wl_val (g_move (v := .slice a0 n0 c0) rfl) rfl ?_
    refine wl_val (q_len SL24 rfl (Vw.len (hp0.bel hB0))) rfl ?_
    refine wl_val (g_move (v := .int .i64 0) rfl) rfl ?_
    refine wl_nil ?_
    refine hK3 _ _ ?_
    refine w_block ?_
    obtain ⟨I29, μ30, h031, hr32⟩ := hm
    refine w_for (σ := Int) (fun v28 => [(1, .int .i64 p1), (2, .int .i64 p2), (9, .slice a0 n0 c0), (10, .int .i64 (p0.length : Int)), (11, .int .i64 v28)]) (fun v28 w' => I29 v28 ∧ Below w.heap.size w w' ∧ Sep w' w.heap.size []) (fun v28 => μ30 v28) (0) ⟨rfl, rfl, rfl, rfl, rfl, trivial⟩ ⟨h031, hB0, hS0⟩ ?_
    rintro v28 b_ w33 ⟨hi_, hB34, hS35⟩
    show Wp _ _ _ _ (upds b_ [(1, .int .i64 p1), (2, .int .i64 p2), (9, .slice a0 n0 c0), (10, .int .i64 (p0.length : Int)), (11, .int .i64 v28)]) w33
    have hm := hr32 v28 hi_
    refine w_seq fun K37 hK37 => ?_
    refine w_region ?_
    refine wl_val (g_lss (a := v28) (b := (p0.length : Int)) rfl rfl) rfl ?_
    refine wl_nil ?_
    refine hK37 _ _ ?_
    refine w_seq fun K38 hK38 => ?_
    refine w_condI (p := v28 < (p0.length : Int)) (b := (decide (v28 < (p0.length : Int)))) rfl decide_eq_true_iff (fun h39 => ?_) (fun h39 => ?_)
    · replace hm := hm.1 h39
      refine w_skip ?_
      refine hK38 _ _ ?_
      refine w_seq fun K40 hK40 => ?_
      refine w_block ?_
      refine w_seq fun K41 hK41 => ?_
      refine w_region ?_
      obtain ⟨hg42, hm⟩ := hm
      refine wl_val (q_index (i := v28) SL24 rfl rfl (hp0.bel hB34) hg42) rfl ?_
      refine wl_val (q_load (i := v28) (v := .int .i64 (p0[(Int.toNat v28)]!)) ON3 (hp0.bel hB34) hg42 rfl rfl) rfl ?_
      refine wl_val (g_assign (v := .int .i64 (p0[(Int.toNat v28)]!)) rfl) rfl ?_
      refine wl_nil ?_
      refine hK41 _ _ ?_
      refine w_seq fun K43 hK43 => ?_
      refine w_region ?_
      refine wl_val (g_move (v := .int .i64 (p0[(Int.toNat v28)]!)) rfl) rfl ?_
      refine wl_val (g_move (v := .int .i64 p1) rfl) rfl ?_
      refine wl_val (g_move (v := .int .i64 p2) rfl) rfl ?_
      refine wl_step rfl (g_call (vs := #[.int .i64 (p0[(Int.toNat v28)]!), .int .i64 p1, .int .i64 p2]) CF65 (args3 rfl rfl rfl) (m_impl_within_fn (p0[(Int.toNat v28)]!) p1 p2 hm)) ?_
      rintro _ w44 ⟨r47, hm, rfl, hE45⟩
      have hB48 := hB34.trans (Ext.stp hE45 hS35.base)
      have hS49 := hS35.ext hE45
      refine wl_val (g_not (a := r47) rfl) rfl ?_
      refine wl_nil ?_
      refine hK43 _ _ ?_
      refine w_condI (p := ¬ (r47 = true)) (b := (!r47)) rfl (i_not Iff.rfl) (fun h50 => ?_) (fun h50 => ?_)
      · replace hm := hm.1 h50
        refine w_seq fun K51 hK51 => ?_
        refine w_region ?_
        refine wl_val (g_assign (v := .bool false) rfl) rfl ?_
        refine wl_nil ?_
        refine hK51 _ _ ?_
        refine w_ret ?_
        repeat first | with_reducible refine q_then ?_ | with_reducible refine q_block ?_
        exact ret1 rfl (by decide) ⟨_, hm, rfl, toExt hB48⟩
      · replace hm := hm.2 h50
        refine w_skip ?_
        refine hK40 _ _ ?_
        refine w_region ?_
        obtain ⟨hg52, hm⟩ := hm
        refine wl_val (g_add (a := v28) (b := 1) rfl rfl hg52) rfl ?_
        refine wl_val (g_move (v := .int .i64 (v28 + 1)) rfl) rfl ?_
        refine wl_nil ?_
        exact ⟨((v28 + 1)), hm.2, ⟨rfl, rfl, rfl, rfl, rfl, trivial⟩, ⟨hm.1, hB48, hS49⟩⟩
    · replace hm := hm.2 h39
      refine w_exit ?_
      exact ⟨(), trivial, ⟨hm, hB34, hS35⟩⟩
  · rintro _ b_ w53 ⟨hm, hB54, hS55⟩
    show Wp _ _ _ _ (upds b_ []) w53
    refine w_seq fun K56 hK56 => ?_
    refine w_region ?_
    refine wl_val (g_assign (v := .bool true) rfl) rfl ?_
    refine wl_nil ?_
    refine hK56 _ _ ?_
    refine w_ret ?_
    repeat first | with_reducible refine q_then ?_ | with_reducible refine q_block ?_
    exact ret1 rfl (by decide) ⟨_, hm, rfl, toExt hB54⟩

theorem m_impl_isStrict_fn {w : World} {a0 : Option Addr} {n0 c0 : Nat} {p0 : List Int} {Q : Bool → Prop} (hp0 : Vw w.heap.size w a0 n0 c0 p0) (p1 : Int) (p2 : Int) (hm : m_impl_isStrict p0 p1 p2 Q) :
    Fn Try.prog 66 #[.slice a0 n0 c0, .int .i64 p1, .int .i64 p2] w (fun v w' => ∃ (r0 : Bool), Q r0 ∧ v = .bool r0 ∧ Ext w w') := by
  unfold m_impl_isStrict at hm
  have hB0 := Below.refl w.heap.size w
  have hS0 : Sep w w.heap.size [] := Sep.nil (Nat.le_refl _)
  refine fn_of_wp Try.func66 rfl (by kernel_rfl) (Nat.le_of_ble_eq_true rfl) ?_
  refine w_seq fun K1 hK1 => ?_
  refine w_region ?_
  refine wl_val (g_assign (v := .bool false) rfl) rfl ?_
  refine wl_nil ?_
  refine hK1 _ _ ?_
  refine w_cut (σ := Unit) (fun _ => [(0, .slice a0 n0 c0), (1, .int .i64 p1), (2, .int .i64 p2)]) (fun _ w' => m_impl_isStrict_K0 p0 p1 p2 Q ∧ Below w.heap.size w w' ∧ Sep w' w.heap.size []) ?_ ?_
  · refine w_seq fun K3 hK3 => ?_
    refine w_region ?_
    refine wl_val (g_move (v := .slice a0 n0 c0) rfl) rfl ?_
    refine wl_val (q_len SL24 rfl (Vw.len (hp0.bel hB0))) rfl ?_
    refine wl_val (g_move (v := .int .i64 0) rfl) rfl ?_
    refine wl_nil ?_
    refine hK3 _ _ ?_
    refine w_block ?_
    obtain ⟨I99, μ100, h0101, hr102⟩ := hm
    refine w_for (σ := Int) (fun v98 => [(0, .slice a0 n0 c0), (1, .int .i64 p1), (2, .int .i64 p2), (9, .int .i64 (p0.length : Int)), (10, .int .i64 v98)]) (fun v98 w' => I99 v98 ∧ Below w.heap.size w w' ∧ Sep w' w.heap.size []) (fun v98 => μ100 v98) (0) ⟨rfl, rfl, rfl, rfl, rfl, trivial⟩ ⟨h0101, hB0, hS0⟩ ?_
    rintro v98 b_ w103 ⟨hi_, hB104, hS105⟩
    show Wp _ _ _ _ (upds b_ [(0, .slice a0 n0 c0), (1, .int .i64 p1), (2, .int .i64 p2), (9, .int .i64 (p0.length : Int)), (10, .int .i64 v98)]) w103
    have hm := hr102 v98 hi_
    refine w_seq fun K107 hK107 => ?_
    refine w_region ?_
    refine wl_val (g_lss (a := v98) (b := (p0.length : Int)) rfl rfl) rfl ?_
    refine wl_nil ?_
    refine hK107 _ _ ?_
    refine w_seq fun K108 hK108 => ?_
    refine w_condI (p := v98 < (p0.length : Int)) (b := (decide (v98 < (p0.length : Int)))) rfl decide_eq_true_iff (fun h109 => ?_) (fun h109 => ?_)
    · replace hm := hm.1 h109
      refine w_skip ?_
      refine hK108 _ _ ?_
      refine w_seq fun K110 hK110 => ?_
      refine w_block ?_
      refine w_seq fun K111 hK111 => ?_
      refine w_region ?_
      refine wl_val (g_move (v := .int .i64 v98) rfl) rfl ?_
      refine wl_val (g_assign (v := .int .i64 v98) rfl) rfl ?_
      refine wl_nil ?_
      refine hK111 _ _ ?_
      refine w_seq fun K112 hK112 => ?_
      refine w_draw (X := Ext) (Y := Ext) [] MIX (by decide +kernel) rfl Ext.refl (fun _ _ _ => Ext.trans) (fun _ _ _ => Chg.trans) (fun _ _ h => Ext.chg h _) (fun w113 hE114 => ?_)
      have hB115 := hB104.trans (Ext.stp hE114 hS105.base)
      have hS116 := hS105.ext hE114
      refine ⟨.int .i64 v98, fun w117 hX118 => od_plain rfl (by have hS119 := hS116.ext hX118; have hB120 := hB115.trans (Ext.stp hX118 hS116.base); exact is_ext (g_move (v := .int .i64 v98) rfl)), ?_⟩
      refine ⟨.bool (decide (v98 > 0)), fun w121 hX122 => od_plain rfl (by have hS123 := hS116.ext hX122; have hB124 := hB115.trans (Ext.stp hX122 hS116.base); exact is_ext (g_gtr (a := v98) (b := 0) rfl rfl)), ?_⟩
      refine ⟨.bool (decide (v98 > 0)), fun w125 hX126 => od_plain rfl (by have hS127 := hS116.ext hX126; have hB128 := hB115.trans (Ext.stp hX126 hS116.base); exact is_ext (g_move (v := .bool (decide (v98 > 0))) rfl)), ?_⟩
      refine ⟨if (decide (v98 > 0)) = true then .slice a0 n0 c0 else undef, fun w129 hX130 => od_guard (c := (decide (v98 > 0)) = true) (val := .slice a0 n0 c0) (b := ((decide (v98 > 0)) == true)) (gv_some rfl rfl rfl) beq_iff_eq (fun hc133 => ?_), ?_⟩
      · have hS131 := hS116.ext hX130
        have hB132 := hB115.trans (Ext.stp hX130 hS116.base)
        have hcq1 : v98 > 0 := (decide_eq_true_iff.mp hc133)
        exact is_ext (g_move (v := .slice a0 n0 c0) rfl)
      refine ⟨if (decide (v98 > 0)) = true then .int .i64 v98 else undef, fun w134 hX135 => od_guard (c := (decide (v98 > 0)) = true) (val := .int .i64 v98) (b := ((decide (v98 > 0)) == true)) (gv_some rfl rfl rfl) beq_iff_eq (fun hc138 => ?_), ?_⟩
      · have hS136 := hS116.ext hX135
        have hB137 := hB115.trans (Ext.stp hX135 hS116.base)
        have hcq1 : v98 > 0 := (decide_eq_true_iff.mp hc138)
        exact is_ext (g_move (v := .int .i64 v98) rfl)
      obtain ⟨hg144, hm⟩ := hm
      refine ⟨if (decide (v98 > 0)) = true then .pointer (some ((adr a0).add ((Int.toNat v98) * El.m Int))) else undef, fun w139 hX140 => od_guard (c := (decide (v98 > 0)) = true) (val := .pointer (some ((adr a0).add ((Int.toNat v98) * El.m Int)))) (b := ((decide (v98 > 0)) == true)) (gv_some rfl rfl rfl) beq_iff_eq (fun hc143 => ?_), ?_⟩
      · have hS141 := hS116.ext hX140
        have hB142 := hB115.trans (Ext.stp hX140 hS116.base)
        have hcq1 : v98 > 0 := (decide_eq_true_iff.mp hc143)
        exact is_ext (q_index (i := v98) SL24 (if_pos hc143) (if_pos hc143) (hp0.bel hB142) (hg144 hcq1))
      refine ⟨if (decide (v98 > 0)) = true then .int .i64 (p0[(Int.toNat v98)]!) else undef, fun w145 hX146 => od_guard (c := (decide (v98 > 0)) = true) (val := .int .i64 (p0[(Int.toNat v98)]!)) (b := ((decide (v98 > 0)) == true)) (gv_some rfl rfl rfl) beq_iff_eq (fun hc149 => ?_), ?_⟩
      · have hS147 := hS116.ext hX146
        have hB148 := hB115.trans (Ext.stp hX146 hS116.base)
        have hcq1 : v98 > 0 := (decide_eq_true_iff.mp hc149)
        exact is_ext (q_load (i := v98) (v := .int .i64 (p0[(Int.toNat v98)]!)) ON3 (hp0.bel hB148) (hg144 hcq1) rfl (if_pos hc149))
      refine ⟨if (decide (v98 > 0)) = true then .slice a0 n0 c0 else undef, fun w150 hX151 => od_guard (c := (decide (v98 > 0)) = true) (val := .slice a0 n0 c0) (b := ((decide (v98 > 0)) == true)) (gv_some rfl rfl rfl) beq_iff_eq (fun hc154 => ?_), ?_⟩
      · have hS152 := hS116.ext hX151
        have hB153 := hB115.trans (Ext.stp hX151 hS116.base)
        have hcq1 : v98 > 0 := (decide_eq_true_iff.mp hc154)
        exact is_ext (g_move (v := .slice a0 n0 c0) rfl)
      refine ⟨if (decide (v98 > 0)) = true then .int .i64 v98 else undef, fun w155 hX156 => od_guard (c := (decide (v98 > 0)) = true) (val := .int .i64 v98) (b := ((decide (v98 > 0)) == true)) (gv_some rfl rfl rfl) beq_iff_eq (fun hc159 => ?_), ?_⟩
      · have hS157 := hS116.ext hX156
        have hB158 := hB115.trans (Ext.stp hX156 hS116.base)
        have hcq1 : v98 > 0 := (decide_eq_true_iff.mp hc159)
        exact is_ext (g_move (v := .int .i64 v98) rfl)
      obtain ⟨hg165, hm⟩ := hm
      refine ⟨if (decide (v98 > 0)) = true then .int .i64 (v98 - 1) else undef, fun w160 hX161 => od_guard (c := (decide (v98 > 0)) = true) (val := .int .i64 (v98 - 1)) (b := ((decide (v98 > 0)) == true)) (gv_some rfl rfl rfl) beq_iff_eq (fun hc164 => ?_), ?_⟩
      · have hS162 := hS116.ext hX161
        have hB163 := hB115.trans (Ext.stp hX161 hS116.base)
        have hcq1 : v98 > 0 := (decide_eq_true_iff.mp hc164)
        exact is_ext (g_sub (a := v98) (b := 1) (if_pos hc164) rfl (hg165 hcq1))
      obtain ⟨hg171, hm⟩ := hm
      refine ⟨if (decide (v98 > 0)) = true then .pointer (some ((adr a0).add ((Int.toNat (v98 - 1)) * El.m Int))) else undef, fun w166 hX167 => od_guard (c := (decide (v98 > 0)) = true) (val := .pointer (some ((adr a0).add ((Int.toNat (v98 - 1)) * El.m Int)))) (b := ((decide (v98 > 0)) == true)) (gv_some rfl rfl rfl) beq_iff_eq (fun hc170 => ?_), ?_⟩
      · have hS168 := hS116.ext hX167
        have hB169 := hB115.trans (Ext.stp hX167 hS116.base)
        have hcq1 : v98 > 0 := (decide_eq_true_iff.mp hc170)
        exact is_ext (q_index (i := (v98 - 1)) SL24 (if_pos hc170) (if_pos hc170) (hp0.bel hB169) (hg171 hcq1))
      refine ⟨if (decide (v98 > 0)) = true then .int .i64 (p0[(Int.toNat (v98 - 1))]!) else undef, fun w172 hX173 => od_guard (c := (decide (v98 > 0)) = true) (val := .int .i64 (p0[(Int.toNat (v98 - 1))]!)) (b := ((decide (v98 > 0)) == true)) (gv_some rfl rfl rfl) beq_iff_eq (fun hc176 => ?_), ?_⟩
      · have hS174 := hS116.ext hX173
        have hB175 := hB115.trans (Ext.stp hX173 hS116.base)
        have hcq1 : v98 > 0 := (decide_eq_true_iff.mp hc176)
        exact is_ext (q_load (i := (v98 - 1)) (v := .int .i64 (p0[(Int.toNat (v98 - 1))]!)) ON3 (hp0.bel hB175) (hg171 hcq1) rfl (if_pos hc176))
      refine ⟨if (decide (v98 > 0)) = true then .bool (decide (p0[(Int.toNat v98)]! ≤ p0[(Int.toNat (v98 - 1))]!)) else undef, fun w177 hX178 => od_guard (c := (decide (v98 > 0)) = true) (val := .bool (decide (p0[(Int.toNat v98)]! ≤ p0[(Int.toNat (v98 - 1))]!))) (b := ((decide (v98 > 0)) == true)) (gv_some rfl rfl rfl) beq_iff_eq (fun hc181 => ?_), ?_⟩
      · have hS179 := hS116.ext hX178
        have hB180 := hB115.trans (Ext.stp hX178 hS116.base)
        have hcq1 : v98 > 0 := (decide_eq_true_iff.mp hc181)
        exact is_ext (g_leq (a := p0[(Int.toNat v98)]!) (b := p0[(Int.toNat (v98 - 1))]!) (if_pos hc181) (if_pos hc181))
      refine ⟨.bool ((decide (v98 > 0)) && (decide (p0[(Int.toNat v98)]! ≤ p0[(Int.toNat (v98 - 1))]!))), fun w182 hX183 => od_plain rfl (by have hS184 := hS116.ext hX183; have hB185 := hB115.trans (Ext.stp hX183 hS116.base); exact is_ext (g_pick_and (b := (decide (v98 > 0))) (q := (decide (p0[(Int.toNat v98)]! ≤ p0[(Int.toNat (v98 - 1))]!))) rfl rfl)), ?_⟩
      intro w186 hX187
      have hB188 := hB115.trans (Ext.stp hX187 hS116.base)
      have hS189 := hS116.ext hX187
      refine hK112 _ _ ?_
      refine w_condI (p := ((v98 > 0) ∧ (p0[(Int.toNat v98)]! ≤ p0[(Int.toNat (v98 - 1))]!))) (b := ((decide (v98 > 0)) && (decide (p0[(Int.toNat v98)]! ≤ p0[(Int.toNat (v98 - 1))]!)))) rfl (i_and decide_eq_true_iff decide_eq_true_iff) (fun h190 => ?_) (fun h190 => ?_)
      · replace hm := hm.1 h190
        refine w_seq fun K191 hK191 => ?_
        refine w_region ?_
        refine wl_val (g_assign (v := .bool false) rfl) rfl ?_
        refine wl_nil ?_
        refine hK191 _ _ ?_
        refine w_ret ?_
        repeat first | with_reducible refine q_then ?_ | with_reducible refine q_block ?_
        exact ret1 rfl (by decide) ⟨_, hm, rfl, toExt hB188⟩
      · replace hm := hm.2 h190
        refine w_skip ?_
        refine hK110 _ _ ?_
        refine w_region ?_
        obtain ⟨hg192, hm⟩ := hm
        refine wl_val (g_add (a := v98) (b := 1) rfl rfl hg192) rfl ?_
        refine wl_val (g_move (v := .int .i64 (v98 + 1)) rfl) rfl ?_
        refine wl_nil ?_
        exact ⟨((v98 + 1)), hm.2, ⟨rfl, rfl, rfl, rfl, rfl, trivial⟩, ⟨hm.1, hB188, hS189⟩⟩
    · replace hm := hm.2 h109
      refine w_exit ?_
      exact ⟨(), ⟨rfl, rfl, rfl, trivial⟩, ⟨hm, hB104, hS105⟩⟩
  · rintro _ b_ w193 ⟨hm, hB194, hS195⟩
    show Wp _ _ _ _ (upds b_ [(0, .slice a0 n0 c0), (1, .int .i64 p1), (2, .int .i64 p2)]) w193
    refine w_seq fun K196 hK196 => ?_
    refine w_region ?_
    refine wl_val (g_move (v := .slice a0 n0 c0) rfl) rfl ?_
    refine wl_val (g_move (v := .int .i64 p1) rfl) rfl ?_
    refine wl_val (g_move (v := .int .i64 p2) rfl) rfl ?_
    refine wl_step rfl (g_call (vs := #[.slice a0 n0 c0, .int .i64 p1, .int .i64 p2]) CF77 (args3 rfl rfl rfl) (m_impl_allWithin_fn ((hp0.bel hB194).up hS195) p1 p2 hm)) ?_
    rintro _ w197 ⟨r200, hm, rfl, hE198⟩
    have hB201 := hB194.trans (Ext.stp hE198 hS195.base)
    have hS202 := hS195.ext hE198
    refine wl_val (g_assign (v := .bool r200) rfl) rfl ?_
    refine wl_nil ?_
    refine hK196 _ _ ?_
    refine w_ret ?_
    repeat first | with_reducible refine q_then ?_ | with_reducible refine q_block ?_
    exact ret1 rfl (by decide) ⟨_, hm, rfl, toExt hB201⟩

theorem m_impl_waits_fn {w : World} {a0 : Option Addr} {n0 c0 : Nat} {y0 : List CueD} {p0 : List CueC} {Q : (List (List Bool)) → Prop} (hp0 : Tv w.heap.size w a0 n0 c0 y0 p0) (hm : m_impl_waits p0 Q) :
    Fn Try.prog 60 #[.slice a0 n0 c0] w (fun v w' => ∃ (r0 : List (List Bool)) (a0 : Option Addr) (n0 c0 : Nat) (y0 : List (Hd Bool)), Q r0 ∧ ers y0 = r0 ∧ v = .slice a0 n0 c0 ∧ Ext w w' ∧ Sep w' w.heap.size [oS 56 a0 n0 c0 y0, oT 4 y0]) := by
  unfold m_impl_waits at hm
  have hB0 := Below.refl w.heap.size w
  have hS0 : Sep w w.heap.size [] := Sep.nil (Nat.le_refl _)
  refine fn_of_wp Try.func60 rfl (by kernel_rfl) (Nat.le_of_ble_eq_true rfl) ?_
  refine w_seq fun K1 hK1 => ?_
  refine w_region ?_
  refine wl_val (g_assign (v := .slice none 0 0) rfl) rfl ?_
  refine wl_nil ?_
  refine hK1 _ _ ?_
  refine w_seq fun K2 hK2 => ?_
  refine w_region ?_
  refine wl_val (g_move (v := .slice a0 n0 c0) rfl) rfl ?_
  refine wl_val (q_len SL26 rfl (Tv.len (hp0.bel hB0))) rfl ?_
  refine wl_val (g_assign (v := .int .i64 (p0.length : Int)) rfl) rfl ?_
  refine wl_nil ?_
  refine hK2 _ _ ?_
  refine w_seq fun K3 hK3 => ?_
  refine w_region ?_
  refine wl_val (g_move (v := .int .i64 (p0.length : Int)) rfl) rfl ?_
  obtain ⟨hg4, hm⟩ := hm
  refine wl_step rfl (q_make (y := ((none, 0, []) : Hd Bool)) SL54 rfl rfl hg4.1 hg4.2 (by decide) hS0) ?_
  rintro _ w5 ⟨a6, rfl, hS8, hE7⟩
  have hB10 := hB0.trans (Ext.stp hE7 hS0.base)
  have hS11 := hS8.nilRows (y := ((none, 0, []) : Hd Bool)) (E := 4) (fun j hj => by first | rfl | (show (if j = 0 then _ else _) = _; split <;> rfl)) (Int.toNat (p0.length : Int))
  have he13 : ers (List.replicate (Int.toNat (p0.length : Int)) ((none, 0, []) : Hd Bool)) = List.replicate (Int.toNat (p0.length : Int)) ([] : List Bool) := by simp only [ers, List.map_replicate]; rfl
  refine wl_val (g_assign (v := .slice a6 (Int.toNat (p0.length : Int)) (Int.toNat (p0.length : Int))) rfl) rfl ?_
  refine wl_nil ?_
  refine hK3 _ _ ?_
  refine w_cut (σ := List (List Bool) × List (Hd Bool)) (fun ⟨x329, y330⟩ => [(3, .int .i64 (p0.length : Int)), (4, .slice a6 (Int.toNat (p0.length : Int)) (Int.toNat (p0.length : Int)))]) (fun ⟨x329, y330⟩ w' => m_impl_waits_K4 p0 Q x329 ∧ ers y330 = x329 ∧ Below w.heap.size w w' ∧ Sep w' w.heap.size [oS 56 a6 (Int.toNat (p0.length : Int)) (Int.toNat (p0.length : Int)) (y330 : List (Hd Bool)), oT 4 (y330 : List (Hd Bool))]) ?_ ?_
  · refine w_seq fun K333 hK333 => ?_
    refine w_region ?_
    refine wl_val (g_move (v := .slice a0 n0 c0) rfl) rfl ?_
    refine wl_val (q_len SL26 rfl (Tv.len (hp0.bel hB10))) rfl ?_
    refine wl_val (g_move (v := .int .i64 0) rfl) rfl ?_
    refine wl_nil ?_
    refine hK333 _ _ ?_
    refine w_block ?_
    have hS338 := hS11.f1
    obtain ⟨I339, μ340, h0341, hr342⟩ := hm
    refine w_for (σ := List (List Bool) × List (Hd Bool) × Int) (fun ⟨x334, y335, v337⟩ => [(3, .int .i64 (p0.length : Int)), (4, .slice a6 (Int.toNat (p0.length : Int)) (Int.toNat (p0.length : Int))), (16, .slice a0 n0 c0), (17, .int .i64 (p0.length : Int)), (18, .int .i64 v337)]) (fun ⟨x334, y335, v337⟩ w' => I339 x334 v337 ∧ ers y335 = x334 ∧ Below w.heap.size w w' ∧ Sep w' w.heap.size [oS 56 a6 (Int.toNat (p0.length : Int)) (Int.toNat (p0.length : Int)) (y335 : List (Hd Bool)), oT 4 (y335 : List (Hd Bool))]) (fun ⟨x334, y335, v337⟩ => μ340 x334 v337) (List.replicate (Int.toNat (p0.length : Int)) ([] : List Bool), List.replicate (Int.toNat (p0.length : Int)) ((none, 0, []) : Hd Bool), 0) ⟨rfl, rfl, rfl, rfl, rfl, trivial⟩ ⟨h0341, he13, hB10, hS338⟩ ?_
    rintro ⟨x334, y335, v337⟩ b_ w343 ⟨hi_, he336, hB344, hS345⟩
    show Wp _ _ _ _ (upds b_ [(3, .int .i64 (p0.length : Int)), (4, .slice a6 (Int.toNat (p0.length : Int)) (Int.toNat (p0.length : Int))), (16, .slice a0 n0 c0), (17, .int .i64 (p0.length : Int)), (18, .int .i64 v337)]) w343
    have hm := hr342 x334 v337 hi_
    refine w_seq fun K347 hK347 => ?_
    refine w_region ?_
    refine wl_val (g_lss (a := v337) (b := (p0.length : Int)) rfl rfl) rfl ?_
    refine wl_nil ?_
    refine hK347 _ _ ?_
    refine w_seq fun K348 hK348 => ?_
    refine w_condI (p := v337 < (p0.length : Int)) (b := (decide (v337 < (p0.length : Int)))) rfl decide_eq_true_iff (fun h349 => ?_) (fun h349 => ?_)
    · replace hm := hm.1 h349
      refine w_skip ?_
      refine hK348 _ _ ?_
      refine w_cut (σ := List (List Bool) × List (Hd Bool)) (fun ⟨x350, y351⟩ => [(3, .int .i64 (p0.length : Int)), (4, .slice a6 (Int.toNat (p0.length : Int)) (Int.toNat (p0.length : Int))), (16, .slice a0 n0 c0), (17, .int .i64 (p0.length : Int)), (18, .int .i64 v337)]) (fun ⟨x350, y351⟩ w' => m_impl_waits_K0 v337 (fun x334' v337' => I339 x334' v337' ∧ μ340 x334' v337' < μ340 x334 v337) x350 ∧ ers y351 = x350 ∧ Below w.heap.size w w' ∧ Sep w' w.heap.size [oS 56 a6 (Int.toNat (p0.length : Int)) (Int.toNat (p0.length : Int)) (y351 : List (Hd Bool)), oT 4 (y351 : List (Hd Bool))]) ?_ ?_
      · refine w_block ?_
        refine w_seq fun K354 hK354 => ?_
        refine w_region ?_
        refine wl_val (g_move (v := .int .i64 v337) rfl) rfl ?_
        obtain ⟨hg355, hm⟩ := hm
        refine wl_val (q_index (i := v337) SL26 rfl rfl (Tv.o (hp0.bel hB344)) (Tv.g (hp0.bel hB344) hg355)) rfl ?_
        refine wl_val (q_loadS (i := v337) (cs := [.int .i64 (p0[(Int.toNat v337)]!.1), .slice ((y0[(Int.toNat v337)]!).2.1.1) ((y0[(Int.toNat v337)]!).2.1.2.2.length) ((y0[(Int.toNat v337)]!).2.1.2.1), .slice ((y0[(Int.toNat v337)]!).2.2.1) ((y0[(Int.toNat v337)]!).2.2.2.2.length) ((y0[(Int.toNat v337)]!).2.2.2.1)]) AG39 (Tv.o (hp0.bel hB344)) (Tv.g (hp0.bel hB344) hg355) (by rw [← Tv.ticks (hp0.bel hB344) hg355]; rfl) rfl) rfl ?_
        refine wl_step rfl (q_alloc (cs := #[.int .i64 0, .slice none 0 0, .slice none 0 0]) ZR39 rfl hS345) ?_
        rintro _ w356 ⟨g357, rfl, hS359, hE358⟩
        have hB361 := hB344.trans (Ext.stp hE358 hS345.base)
        refine wl_val (g_assign (v := .int .i64 v337) rfl) rfl ?_
        refine wl_step rfl (q_storeB (i := 0) (bs' := #[.int .i64 (p0[(Int.toNat v337)]!.1), .slice ((y0[(Int.toNat v337)]!).2.1.1) ((y0[(Int.toNat v337)]!).2.1.2.2.length) ((y0[(Int.toNat v337)]!).2.1.2.1), .slice ((y0[(Int.toNat v337)]!).2.2.1) ((y0[(Int.toNat v337)]!).2.2.2.2.length) ((y0[(Int.toNat v337)]!).2.2.2.1)]) (vs := [.int .i64 (p0[(Int.toNat v337)]!.1), .slice ((y0[(Int.toNat v337)]!).2.1.1) ((y0[(Int.toNat v337)]!).2.1.2.2.length) ((y0[(Int.toNat v337)]!).2.1.2.1), .slice ((y0[(Int.toNat v337)]!).2.2.1) ((y0[(Int.toNat v337)]!).2.2.2.2.length) ((y0[(Int.toNat v337)]!).2.2.2.1)]) hS359 AG39.sz rfl rfl rfl (by simp [Value.oneCell']) (Nat.le_of_ble_eq_true rfl) rfl) ?_
        rintro _ w362 ⟨rfl, hS363, hb364⟩
        have hB365 := hB361.trans hb364
        refine wl_nil ?_
        refine hK354 _ _ ?_
        refine w_seq fun K366 hK366 => ?_
        refine w_region ?_
        refine wl_val (g_move (v := .slice a6 (Int.toNat (p0.length : Int)) (Int.toNat (p0.length : Int))) rfl) rfl ?_
        refine wl_val (g_move (v := .int .i64 v337) rfl) rfl ?_
        refine wl_val (g_move (v := .int .i64 (p0.length : Int)) rfl) rfl ?_
        obtain ⟨hg367, hm⟩ := hm
        refine wl_step rfl (q_make (y := (false : Bool)) SL56 rfl rfl hg367.1 hg367.2 (by decide) hS363) ?_
        rintro _ w368 ⟨a369, rfl, hS371, hE370⟩
        have hB373 := hB365.trans (Ext.stp hE370 hS363.base)
        obtain ⟨hg374, hm⟩ := hm
        refine wl_val (q_index (i := v337) SL54 rfl rfl (Tv.o (oT.vw hS371.g2 hS371.g3 he336)) (Tv.g (oT.vw hS371.g2 hS371.g3 he336) hg374)) rfl ?_
        have hn379 := oS.len hS371.g0
        have hS380 := hS371.oneRow
        have he378 : ers [((a369, (Int.toNat (p0.length : Int)), List.replicate (Int.toNat (p0.length : Int)) (false : Bool)) : Hd Bool)] = [List.replicate (Int.toNat (p0.length : Int)) (false : Bool)] := rfl
        have hS382 := hS380.f3
        have hS383 := hS382.f3
        have hS384 := hS383.f2
        refine wl_step rfl (q_setT (i := v337) hS384 he336 hg374 ON56.sz rfl rfl (hd_cells hn379)) ?_
        rintro _ w375 ⟨rfl, y385, he386, hS376, hb377⟩
        have he387 := he386.trans (congrArg (List.set _ _) (ers_one he378))
        have hB388 := hB373.trans hb377
        refine wl_nil ?_
        refine hK366 _ _ ?_
        refine w_seq fun K389 hK389 => ?_
        refine w_region ?_
        refine wl_val (g_fieldAddr (q := (⟨g357, 0, none⟩ : Addr)) FL39_1 ON24 rfl) rfl ?_
        refine wl_val (q_loadB (i := 1) (bs := #[.int .i64 (p0[(Int.toNat v337)]!.1), .slice ((y0[(Int.toNat v337)]!).2.1.1) ((y0[(Int.toNat v337)]!).2.1.2.2.length) ((y0[(Int.toNat v337)]!).2.1.2.1), .slice ((y0[(Int.toNat v337)]!).2.2.1) ((y0[(Int.toNat v337)]!).2.2.2.2.length) ((y0[(Int.toNat v337)]!).2.2.2.1)]) hS376.g2 ON24 rfl rfl) rfl ?_
        refine wl_val (q_len SL24 rfl (Vw.len (Tv.rowC0 (hp0.bel hB388) hg355))) rfl ?_
        refine wl_val (g_move (v := .int .i64 0) rfl) rfl ?_
        refine wl_nil ?_
        refine hK389 _ _ ?_
        refine w_block ?_
        have hS394 := hS376.f2
        have hS395 := hS394.tail
        obtain ⟨I396, μ397, h0398, hr399⟩ := hm
        refine w_for (σ := List (List Bool) × List (Hd Bool) × Int) (fun ⟨x390, y391, v393⟩ => [(3, .int .i64 (p0.length : Int)), (4, .slice a6 (Int.toNat (p0.length : Int)) (Int.toNat (p0.length : Int))), (5, .int .i64 v337), (16, .slice a0 n0 c0), (17, .int .i64 (p0.length : Int)), (18, .int .i64 v337), (29, .slice ((y0[(Int.toNat v337)]!).2.1.1) ((y0[(Int.toNat v337)]!).2.1.2.2.length) ((y0[(Int.toNat v337)]!).2.1.2.1)), (30, .int .i64 ((p0[(Int.toNat v337)]!.2.1).length : Int)), (31, .int .i64 v393)]) (fun ⟨x390, y391, v393⟩ w' => I396 x390 v393 ∧ ers y391 = x390 ∧ Below w.heap.size w w' ∧ Sep w' w.heap.size [oS 56 a6 (Int.toNat (p0.length : Int)) (Int.toNat (p0.length : Int)) (y391 : List (Hd Bool)), oT 4 (y391 : List (Hd Bool))]) (fun ⟨x390, y391, v393⟩ => μ397 x390 v393) ((x334.set (Int.toNat v337) (List.replicate (Int.toNat (p0.length : Int)) (false : Bool))), y385, 0) ⟨rfl, rfl, rfl, rfl, rfl, rfl, rfl, rfl, rfl, trivial⟩ ⟨h0398, he387, hB388, hS395⟩ ?_
        rintro ⟨x390, y391, v393⟩ b_ w400 ⟨hi_, he392, hB401, hS402⟩
        show Wp _ _ _ _ (upds b_ [(3, .int .i64 (p0.length : Int)), (4, .slice a6 (Int.toNat (p0.length : Int)) (Int.toNat (p0.length : Int))), (5, .int .i64 v337), (16, .slice a0 n0 c0), (17, .int .i64 (p0.length : Int)), (18, .int .i64 v337), (29, .slice ((y0[(Int.toNat v337)]!).2.1.1) ((y0[(Int.toNat v337)]!).2.1.2.2.length) ((y0[(Int.toNat v337)]!).2.1.2.1)), (30, .int .i64 ((p0[(Int.toNat v337)]!.2.1).length : Int)), (31, .int .i64 v393)]) w400
        have hm := hr399 x390 v393 hi_
        refine w_seq fun K404 hK404 => ?_
        refine w_region ?_
        refine wl_val (g_lss (a := v393) (b := ((p0[(Int.toNat v337)]!.2.1).length : Int)) rfl rfl) rfl ?_
        refine wl_nil ?_
        refine hK404 _ _ ?_
        refine w_seq fun K405 hK405 => ?_
        refine w_condI (p := v393 < ((p0[(Int.toNat v337)]!.2.1).length : Int)) (b := (decide (v393 < ((p0[(Int.toNat v337)]!.2.1).length : Int)))) rfl decide_eq_true_iff (fun h406 => ?_) (fun h406 => ?_)
        · replace hm := hm.1 h406
          refine w_skip ?_
          refine hK405 _ _ ?_
          refine w_seq fun K407 hK407 => ?_
          refine w_block ?_
          refine w_seq fun K408 hK408 => ?_
          refine w_region ?_
          obtain ⟨hg409, hm⟩ := hm
          refine wl_val (q_index (i := v393) SL24 rfl rfl (Tv.rowC0 (hp0.bel hB401) hg355) hg409) rfl ?_
          refine wl_val (q_load (i := v393) (v := .int .i64 ((p0[(Int.toNat v337)]!.2.1)[(Int.toNat v393)]!)) ON3 (Tv.rowC0 (hp0.bel hB401) hg355) hg409 rfl rfl) rfl ?_
          refine wl_val (g_assign (v := .int .i64 ((p0[(Int.toNat v337)]!.2.1)[(Int.toNat v393)]!)) rfl) rfl ?_
          refine wl_nil ?_
          refine hK408 _ _ ?_
          refine w_seq fun K410 hK410 => ?_
          refine w_region ?_
          refine wl_val (g_move (v := .int .i64 ((p0[(Int.toNat v337)]!.2.1)[(Int.toNat v393)]!)) rfl) rfl ?_
          refine wl_val (g_move (v := .int .i64 (p0.length : Int)) rfl) rfl ?_
          obtain ⟨hg411, hm⟩ := hm
          refine wl_val (g_sub (a := (p0.length : Int)) (b := 1) rfl rfl hg411) rfl ?_
          refine wl_step rfl (g_call (vs := #[.int .i64 ((p0[(Int.toNat v337)]!.2.1)[(Int.toNat v393)]!), .int .i64 0, .int .i64 ((p0.length : Int) - 1)]) CF65 (args3 rfl rfl rfl) (m_impl_within_fn ((p0[(Int.toNat v337)]!.2.1)[(Int.toNat v393)]!) 0 ((p0.length : Int) - 1) hm)) ?_
          rintro _ w412 ⟨r415, hm, rfl, hE413⟩
          have hB416 := hB401.trans (Ext.stp hE413 hS402.base)
          have hS417 := hS402.ext hE413
          refine wl_nil ?_
          refine hK410 _ _ ?_
          refine w_condI (p := r415 = true) (b := r415) rfl Iff.rfl (fun h418 => ?_) (fun h418 => ?_)
          · replace hm := hm.1 h418
            refine w_region ?_
            refine wl_val (g_move (v := .slice a6 (Int.toNat (p0.length : Int)) (Int.toNat (p0.length : Int))) rfl) rfl ?_
            refine wl_val (g_move (v := .int .i64 v337) rfl) rfl ?_
            obtain ⟨hg419, hm⟩ := hm
            refine wl_val (q_index (i := v337) SL54 rfl rfl (Tv.o (oT.vw hS417.g0 hS417.g1 he392)) (Tv.g (oT.vw hS417.g0 hS417.g1 he392) hg419)) rfl ?_
            refine wl_val (q_load (i := v337) (v := .slice ((y391[(Int.toNat v337)]!).1) ((y391[(Int.toNat v337)]!).2.2.length) ((y391[(Int.toNat v337)]!).2.1)) ON56 (Tv.o (oT.vw hS417.g0 hS417.g1 he392)) (Tv.g (oT.vw hS417.g0 hS417.g1 he392) hg419) rfl rfl) rfl ?_
            refine wl_val (g_move (v := .int .i64 ((p0[(Int.toNat v337)]!.2.1)[(Int.toNat v393)]!)) rfl) rfl ?_
            obtain ⟨hg420, hm⟩ := hm
            refine wl_val (q_index (i := (p0[(Int.toNat v337)]!.2.1)[(Int.toNat v393)]!) SL56 rfl rfl (Tv.row (oT.vw hS417.g0 hS417.g1 he392) hg419) hg420) rfl ?_
            have hS424 := hS417.f1
            have hS425 := hS424.f1
            refine wl_step rfl (q_row (i := v337) (k := (p0[(Int.toNat v337)]!.2.1)[(Int.toNat v393)]!) (v := (true : Bool)) hS425 he392 hg419 hg420 ON4.sz rfl rfl rfl) ?_
            rintro _ w421 ⟨rfl, y426, he427, hS422, hb423⟩
            have hB428 := hB416.trans hb423
            refine wl_nil ?_
            refine hK407 _ _ ?_
            refine w_region ?_
            obtain ⟨hg429, hm⟩ := hm
            refine wl_val (g_add (a := v393) (b := 1) rfl rfl hg429) rfl ?_
            refine wl_val (g_move (v := .int .i64 (v393 + 1)) rfl) rfl ?_
            refine wl_nil ?_
            exact ⟨((x390.set (Int.toNat v337) (x390[(Int.toNat v337)]!.set (Int.toNat ((p0[(Int.toNat v337)]!.2.1)[(Int.toNat v393)]!)) true)), y426, (v393 + 1)), hm.2, ⟨rfl, rfl, rfl, rfl, rfl, rfl, rfl, rfl, rfl, trivial⟩, ⟨hm.1, he427, hB428, hS422⟩⟩
          · replace hm := hm.2 h418
            refine w_skip ?_
            refine hK407 _ _ ?_
            refine w_region ?_
            obtain ⟨hg430, hm⟩ := hm
            refine wl_val (g_add (a := v393) (b := 1) rfl rfl hg430) rfl ?_
            refine wl_val (g_move (v := .int .i64 (v393 + 1)) rfl) rfl ?_
            refine wl_nil ?_
            exact ⟨(x390, y391, (v393 + 1)), hm.2, ⟨rfl, rfl, rfl, rfl, rfl, rfl, rfl, rfl, rfl, trivial⟩, ⟨hm.1, he392, hB416, hS417⟩⟩
        · replace hm := hm.2 h406
          refine w_exit ?_
          exact ⟨(x390, y391), ⟨rfl, rfl, rfl, rfl, rfl, trivial⟩, ⟨hm, he392, hB401, hS402⟩⟩
      · rintro ⟨x350, y351⟩ b_ w431 ⟨hm, he352, hB432, hS433⟩
        show Wp _ _ _ _ (upds b_ [(3, .int .i64 (p0.length : Int)), (4, .slice a6 (Int.toNat (p0.length : Int)) (Int.toNat (p0.length : Int))), (16, .slice a0 n0 c0), (17, .int .i64 (p0.length : Int)), (18, .int .i64 v337)]) w431
        refine w_region ?_
        obtain ⟨hg434, hm⟩ := hm
        refine wl_val (g_add (a := v337) (b := 1) rfl rfl hg434) rfl ?_
        refine wl_val (g_move (v := .int .i64 (v337 + 1)) rfl) rfl ?_
        refine wl_nil ?_
        exact ⟨(x350, y351, (v337 + 1)), hm.2, ⟨rfl, rfl, rfl, rfl, rfl, trivial⟩, ⟨hm.1, he352, hB432, hS433⟩⟩
    · replace hm := hm.2 h349
      refine w_exit ?_
      exact ⟨(x334, y335), ⟨rfl, rfl, trivial⟩, ⟨hm, he336, hB344, hS345⟩⟩
  · rintro ⟨x329, y330⟩ b_ w435 ⟨hm, he331, hB436, hS437⟩
    show Wp _ _ _ _ (upds b_ [(3, .int .i64 (p0.length : Int)), (4, .slice a6 (Int.toNat (p0.length : Int)) (Int.toNat (p0.length : Int)))]) w435
    refine w_cut (σ := List (List Bool) × List (Hd Bool)) (fun ⟨x1700, y1701⟩ => [(4, .slice a6 (Int.toNat (p0.length : Int)) (Int.toNat (p0.length : Int)))]) (fun ⟨x1700, y1701⟩ w' => m_impl_waits_K3 Q x1700 ∧ ers y1701 = x1700 ∧ Below w.heap.size w w' ∧ Sep w' w.heap.size [oS 56 a6 (Int.toNat (p0.length : Int)) (Int.toNat (p0.length : Int)) (y1701 : List (Hd Bool)), oT 4 (y1701 : List (Hd Bool))]) ?_ ?_
    · refine w_seq fun K1704 hK1704 => ?_
      refine w_region ?_
      refine wl_val (g_move (v := .int .i64 (p0.length : Int)) rfl) rfl ?_
      refine wl_val (g_move (v := .int .i64 0) rfl) rfl ?_
      refine wl_nil ?_
      refine hK1704 _ _ ?_
      refine w_block ?_
      obtain ⟨I1709, μ1710, h01711, hr1712⟩ := hm
      refine w_for (σ := List (List Bool) × List (Hd Bool) × Int) (fun ⟨x1705, y1706, v1708⟩ => [(3, .int .i64 (p0.length : Int)), (4, .slice a6 (Int.toNat (p0.length : Int)) (Int.toNat (p0.length : Int))), (47, .int .i64 (p0.length : Int)), (48, .int .i64 v1708)]) (fun ⟨x1705, y1706, v1708⟩ w' => I1709 x1705 v1708 ∧ ers y1706 = x1705 ∧ Below w.heap.size w w' ∧ Sep w' w.heap.size [oS 56 a6 (Int.toNat (p0.length : Int)) (Int.toNat (p0.length : Int)) (y1706 : List (Hd Bool)), oT 4 (y1706 : List (Hd Bool))]) (fun ⟨x1705, y1706, v1708⟩ => μ1710 x1705 v1708) (x329, y330, 0) ⟨rfl, rfl, rfl, rfl, trivial⟩ ⟨h01711, he331, hB436, hS437⟩ ?_
      rintro ⟨x1705, y1706, v1708⟩ b_ w1713 ⟨hi_, he1707, hB1714, hS1715⟩
      show Wp _ _ _ _ (upds b_ [(3, .int .i64 (p0.length : Int)), (4, .slice a6 (Int.toNat (p0.length : Int)) (Int.toNat (p0.length : Int))), (47, .int .i64 (p0.length : Int)), (48, .int .i64 v1708)]) w1713
      have hm := hr1712 x1705 v1708 hi_
      refine w_seq fun K1717 hK1717 => ?_
      refine w_region ?_
      refine wl_val (g_lss (a := v1708) (b := (p0.length : Int)) rfl rfl) rfl ?_
      refine wl_nil ?_
      refine hK1717 _ _ ?_
      refine w_seq fun K1718 hK1718 => ?_
      refine w_condI (p := v1708 < (p0.length : Int)) (b := (decide (v1708 < (p0.length : Int)))) rfl decide_eq_true_iff (fun h1719 => ?_) (fun h1719 => ?_)
      · replace hm := hm.1 h1719
        refine w_skip ?_
        refine hK1718 _ _ ?_
        refine w_cut (σ := List (List Bool) × List (Hd Bool)) (fun ⟨x1720, y1721⟩ => [(3, .int .i64 (p0.length : Int)), (4, .slice a6 (Int.toNat (p0.length : Int)) (Int.toNat (p0.length : Int))), (47, .int .i64 (p0.length : Int)), (48, .int .i64 v1708)]) (fun ⟨x1720, y1721⟩ w' => m_impl_waits_K2 v1708 (fun x1705' v1708' => I1709 x1705' v1708' ∧ μ1710 x1705' v1708' < μ1710 x1705 v1708) x1720 ∧ ers y1721 = x1720 ∧ Below w.heap.size w w' ∧ Sep w' w.heap.size [oS 56 a6 (Int.toNat (p0.length : Int)) (Int.toNat (p0.length : Int)) (y1721 : List (Hd Bool)), oT 4 (y1721 : List (Hd Bool))]) ?_ ?_
        · refine w_block ?_
          refine w_seq fun K1724 hK1724 => ?_
          refine w_region ?_
          refine wl_val (g_move (v := .int .i64 v1708) rfl) rfl ?_
          refine wl_val (g_assign (v := .int .i64 v1708) rfl) rfl ?_
          refine wl_nil ?_
          refine hK1724 _ _ ?_
          refine w_seq fun K1725 hK1725 => ?_
          refine w_region ?_
          refine wl_val (g_move (v := .int .i64 (p0.length : Int)) rfl) rfl ?_
          refine wl_val (g_move (v := .int .i64 0) rfl) rfl ?_
          refine wl_nil ?_
          refine hK1725 _ _ ?_
          refine w_block ?_
          obtain ⟨I1730, μ1731, h01732, hr1733⟩ := hm
          refine w_for (σ := List (List Bool) × List (Hd Bool) × Int) (fun ⟨x1726, y1727, v1729⟩ => [(3, .int .i64 (p0.length : Int)), (4, .slice a6 (Int.toNat (p0.length : Int)) (Int.toNat (p0.length : Int))), (9, .int .i64 v1708), (47, .int .i64 (p0.length : Int)), (48, .int .i64 v1708), (51, .int .i64 (p0.length : Int)), (52, .int .i64 v1729)]) (fun ⟨x1726, y1727, v1729⟩ w' => I1730 x1726 v1729 ∧ ers y1727 = x1726 ∧ Below w.heap.size w w' ∧ Sep w' w.heap.size [oS 56 a6 (Int.toNat (p0.length : Int)) (Int.toNat (p0.length : Int)) (y1727 : List (Hd Bool)), oT 4 (y1727 : List (Hd Bool))]) (fun ⟨x1726, y1727, v1729⟩ => μ1731 x1726 v1729) (x1705, y1706, 0) ⟨rfl, rfl, rfl, rfl, rfl, rfl, rfl, trivial⟩ ⟨h01732, he1707, hB1714, hS1715⟩ ?_
          rintro ⟨x1726, y1727, v1729⟩ b_ w1734 ⟨hi_, he1728, hB1735, hS1736⟩
          show Wp _ _ _ _ (upds b_ [(3, .int .i64 (p0.length : Int)), (4, .slice a6 (Int.toNat (p0.length : Int)) (Int.toNat (p0.length : Int))), (9, .int .i64 v1708), (47, .int .i64 (p0.length : Int)), (48, .int .i64 v1708), (51, .int .i64 (p0.length : Int)), (52, .int .i64 v1729)]) w1734
          have hm := hr1733 x1726 v1729 hi_
          refine w_seq fun K1738 hK1738 => ?_
          refine w_region ?_
          refine wl_val (g_lss (a := v1729) (b := (p0.length : Int)) rfl rfl) rfl ?_
          refine wl_nil ?_
          refine hK1738 _ _ ?_
          refine w_seq fun K1739 hK1739 => ?_
          refine w_condI (p := v1729 < (p0.length : Int)) (b := (decide (v1729 < (p0.length : Int)))) rfl decide_eq_true_iff (fun h1740 => ?_) (fun h1740 => ?_)
          · replace hm := hm.1 h1740
            refine w_skip ?_
            refine hK1739 _ _ ?_
            refine w_cut (σ := List (List Bool) × List (Hd Bool)) (fun ⟨x1741, y1742⟩ => [(3, .int .i64 (p0.length : Int)), (4, .slice a6 (Int.toNat (p0.length : Int)) (Int.toNat (p0.length : Int))), (9, .int .i64 v1708), (47, .int .i64 (p0.length : Int)), (48, .int .i64 v1708), (51, .int .i64 (p0.length : Int)), (52, .int .i64 v1729)]) (fun ⟨x1741, y1742⟩ w' => m_impl_waits_K1 v1729 (fun x1726' v1729' => I1730 x1726' v1729' ∧ μ1731 x1726' v1729' < μ1731 x1726 v1729) x1741 ∧ ers y1742 = x1741 ∧ Below w.heap.size w w' ∧ Sep w' w.heap.size [oS 56 a6 (Int.toNat (p0.length : Int)) (Int.toNat (p0.length : Int)) (y1742 : List (Hd Bool)), oT 4 (y1742 : List (Hd Bool))]) ?_ ?_
            · refine w_block ?_
              refine w_seq fun K1745 hK1745 => ?_
              refine w_region ?_
              refine wl_val (g_move (v := .int .i64 v1729) rfl) rfl ?_
              refine wl_val (g_assign (v := .int .i64 v1729) rfl) rfl ?_
              refine wl_nil ?_
              refine hK1745 _ _ ?_
              refine w_seq fun K1746 hK1746 => ?_
              refine w_region ?_
              refine wl_val (g_move (v := .int .i64 (p0.length : Int)) rfl) rfl ?_
              refine wl_val (g_move (v := .int .i64 0) rfl) rfl ?_
              refine wl_nil ?_
              refine hK1746 _ _ ?_
              refine w_block ?_
              obtain ⟨I1751, μ1752, h01753, hr1754⟩ := hm
              refine w_for (σ := List (List Bool) × List (Hd Bool) × Int) (fun ⟨x1747, y1748, v1750⟩ => [(3, .int .i64 (p0.length : Int)), (4, .slice a6 (Int.toNat (p0.length : Int)) (Int.toNat (p0.length : Int))), (9, .int .i64 v1708), (10, .int .i64 v1729), (47, .int .i64 (p0.length : Int)), (48, .int .i64 v1708), (51, .int .i64 (p0.length : Int)), (52, .int .i64 v1729), (55, .int .i64 (p0.length : Int)), (56, .int .i64 v1750)]) (fun ⟨x1747, y1748, v1750⟩ w' => I1751 x1747 v1750 ∧ ers y1748 = x1747 ∧ Below w.heap.size w w' ∧ Sep w' w.heap.size [oS 56 a6 (Int.toNat (p0.length : Int)) (Int.toNat (p0.length : Int)) (y1748 : List (Hd Bool)), oT 4 (y1748 : List (Hd Bool))]) (fun ⟨x1747, y1748, v1750⟩ => μ1752 x1747 v1750) (x1726, y1727, 0) ⟨rfl, rfl, rfl, rfl, rfl, rfl, rfl, rfl, rfl, rfl, trivial⟩ ⟨h01753, he1728, hB1735, hS1736⟩ ?_
              rintro ⟨x1747, y1748, v1750⟩ b_ w1755 ⟨hi_, he1749, hB1756, hS1757⟩
              show Wp _ _ _ _ (upds b_ [(3, .int .i64 (p0.length : Int)), (4, .slice a6 (Int.toNat (p0.length : Int)) (Int.toNat (p0.length : Int))), (9, .int .i64 v1708), (10, .int .i64 v1729), (47, .int .i64 (p0.length : Int)), (48, .int .i64 v1708), (51, .int .i64 (p0.length : Int)), (52, .int .i64 v1729), (55, .int .i64 (p0.length : Int)), (56, .int .i64 v1750)]) w1755
              have hm := hr1754 x1747 v1750 hi_
              refine w_seq fun K1759 hK1759 => ?_
              refine w_region ?_
              refine wl_val (g_lss (a := v1750) (b := (p0.length : Int)) rfl rfl) rfl ?_
              refine wl_nil ?_
              refine hK1759 _ _ ?_
              refine w_seq fun K1760 hK1760 => ?_
              refine w_condI (p := v1750 < (p0.length : Int)) (b := (decide (v1750 < (p0.length : Int)))) rfl decide_eq_true_iff (fun h1761 => ?_) (fun h1761 => ?_)
              · replace hm := hm.1 h1761
                refine w_skip ?_
                refine hK1760 _ _ ?_
                refine w_seq fun K1762 hK1762 => ?_
                refine w_block ?_
                refine w_seq fun K1763 hK1763 => ?_
                refine w_region ?_
                refine wl_val (g_move (v := .int .i64 v1750) rfl) rfl ?_
                refine wl_val (g_assign (v := .int .i64 v1750) rfl) rfl ?_
                refine wl_nil ?_
                refine hK1763 _ _ ?_
                refine w_draw (X := Ext) (Y := Ext) [0, 0, 0, 0, 0, 0, 0, 0, 0, 0, 0, 0, 0, 0, 0, 0, 0, 0, 0, 0, 0, 0, 0, 0, 0, 0, 0, 0, 0, 0, 0, 1] MIX (by decide +kernel) rfl Ext.refl (fun _ _ _ => Ext.trans) (fun _ _ _ => Chg.trans) (fun _ _ h => Ext.chg h _) (fun w1764 hE1765 => ?_)
                have hB1766 := hB1756.trans (Ext.stp hE1765 hS1757.base)
                have hS1767 := hS1757.ext hE1765
                refine ⟨.slice a6 (Int.toNat (p0.length : Int)) (Int.toNat (p0.length : Int)), fun w1768 hX1769 => od_plain rfl (by have hS1770 := hS1767.ext hX1769; have hB1771 := hB1766.trans (Ext.stp hX1769 hS1767.base); exact is_ext (g_move (v := .slice a6 (Int.toNat (p0.length : Int)) (Int.toNat (p0.length : Int))) rfl)), ?_⟩
                refine ⟨.int .i64 v1729, fun w1772 hX1773 => od_plain rfl (by have hS1774 := hS1767.ext hX1773; have hB1775 := hB1766.trans (Ext.stp hX1773 hS1767.base); exact is_ext (g_move (v := .int .i64 v1729) rfl)), ?_⟩
                obtain ⟨hg1780, hm⟩ := hm
                refine ⟨.pointer (some ((adr a6).add ((Int.toNat v1729) * El.m (Hd Bool)))), fun w1776 hX1777 => od_plain rfl (by have hS1778 := hS1767.ext hX1777; have hB1779 := hB1766.trans (Ext.stp hX1777 hS1767.base); exact is_ext (q_index (i := v1729) SL54 rfl rfl (Tv.o (oT.vw hS1778.g0 hS1778.g1 he1749)) (Tv.g (oT.vw hS1778.g0 hS1778.g1 he1749) hg1780))), ?_⟩
                refine ⟨.slice ((y1748[(Int.toNat v1729)]!).1) ((y1748[(Int.toNat v1729)]!).2.2.length) ((y1748[(Int.toNat v1729)]!).2.1), fun w1781 hX1782 => od_plain rfl (by have hS1783 := hS1767.ext hX1782; have hB1784 := hB1766.trans (Ext.stp hX1782 hS1767.base); exact is_ext (q_load (i := v1729) (v := .slice ((y1748[(Int.toNat v1729)]!).1) ((y1748[(Int.toNat v1729)]!).2.2.length) ((y1748[(Int.toNat v1729)]!).2.1)) ON56 (Tv.o (oT.vw hS1783.g0 hS1783.g1 he1749)) (Tv.g (oT.vw hS1783.g0 hS1783.g1 he1749) hg1780) rfl rfl)), ?_⟩
                refine ⟨.int .i64 v1750, fun w1785 hX1786 => od_plain rfl (by have hS1787 := hS1767.ext hX1786; have hB1788 := hB1766.trans (Ext.stp hX1786 hS1767.base); exact is_ext (g_move (v := .int .i64 v1750) rfl)), ?_⟩
                refine ⟨.slice a6 (Int.toNat (p0.length : Int)) (Int.toNat (p0.length : Int)), fun w1789 hX1790 => od_plain rfl (by have hS1791 := hS1767.ext hX1790; have hB1792 := hB1766.trans (Ext.stp hX1790 hS1767.base); exact is_ext (g_move (v := .slice a6 (Int.toNat (p0.length : Int)) (Int.toNat (p0.length : Int))) rfl)), ?_⟩
                refine ⟨.int .i64 v1729, fun w1793 hX1794 => od_plain rfl (by have hS1795 := hS1767.ext hX1794; have hB1796 := hB1766.trans (Ext.stp hX1794 hS1767.base); exact is_ext (g_move (v := .int .i64 v1729) rfl)), ?_⟩
                obtain ⟨hg1801, hm⟩ := hm
                refine ⟨.pointer (some ((adr a6).add ((Int.toNat v1729) * El.m (Hd Bool)))), fun w1797 hX1798 => od_plain rfl (by have hS1799 := hS1767.ext hX1798; have hB1800 := hB1766.trans (Ext.stp hX1798 hS1767.base); exact is_ext (q_index (i := v1729) SL54 rfl rfl (Tv.o (oT.vw hS1799.g0 hS1799.g1 he1749)) (Tv.g (oT.vw hS1799.g0 hS1799.g1 he1749) hg1801))), ?_⟩
                refine ⟨.slice ((y1748[(Int.toNat v1729)]!).1) ((y1748[(Int.toNat v1729)]!).2.2.length) ((y1748[(Int.toNat v1729)]!).2.1), fun w1802 hX1803 => od_plain rfl (by have hS1804 := hS1767.ext hX1803; have hB1805 := hB1766.trans (Ext.stp hX1803 hS1767.base); exact is_ext (q_load (i := v1729) (v := .slice ((y1748[(Int.toNat v1729)]!).1) ((y1748[(Int.toNat v1729)]!).2.2.length) ((y1748[(Int.toNat v1729)]!).2.1)) ON56 (Tv.o (oT.vw hS1804.g0 hS1804.g1 he1749)) (Tv.g (oT.vw hS1804.g0 hS1804.g1 he1749) hg1801) rfl rfl)), ?_⟩
                refine ⟨.int .i64 v1750, fun w1806 hX1807 => od_plain rfl (by have hS1808 := hS1767.ext hX1807; have hB1809 := hB1766.trans (Ext.stp hX1807 hS1767.base); exact is_ext (g_move (v := .int .i64 v1750) rfl)), ?_⟩
                obtain ⟨hg1814, hm⟩ := hm
                refine ⟨.pointer (some ((adr ((y1748[(Int.toNat v1729)]!).1)).add ((Int.toNat v1750) * El.m Bool))), fun w1810 hX1811 => od_plain rfl (by have hS1812 := hS1767.ext hX1811; have hB1813 := hB1766.trans (Ext.stp hX1811 hS1767.base); exact is_ext (q_index (i := v1750) SL56 rfl rfl (Tv.row (oT.vw hS1812.g0 hS1812.g1 he1749) hg1801) hg1814)), ?_⟩
                refine ⟨.bool ((x1747[(Int.toNat v1729)]!)[(Int.toNat v1750)]!), fun w1815 hX1816 => od_plain rfl (by have hS1817 := hS1767.ext hX1816; have hB1818 := hB1766.trans (Ext.stp hX1816 hS1767.base); exact is_ext (q_load (i := v1750) (v := .bool ((x1747[(Int.toNat v1729)]!)[(Int.toNat v1750)]!)) ON4 (Tv.row (oT.vw hS1817.g0 hS1817.g1 he1749) hg1801) hg1814 rfl rfl)), ?_⟩
                refine ⟨.bool ((x1747[(Int.toNat v1729)]!)[(Int.toNat v1750)]!), fun w1819 hX1820 => od_plain rfl (by have hS1821 := hS1767.ext hX1820; have hB1822 := hB1766.trans (Ext.stp hX1820 hS1767.base); exact is_ext (g_move (v := .bool ((x1747[(Int.toNat v1729)]!)[(Int.toNat v1750)]!)) rfl)), ?_⟩
                refine ⟨if ((x1747[(Int.toNat v1729)]!)[(Int.toNat v1750)]!) = false then .slice a6 (Int.toNat (p0.length : Int)) (Int.toNat (p0.length : Int)) else undef, fun w1823 hX1824 => od_guard (c := ((x1747[(Int.toNat v1729)]!)[(Int.toNat v1750)]!) = false) (val := .slice a6 (Int.toNat (p0.length : Int)) (Int.toNat (p0.length : Int))) (b := (((x1747[(Int.toNat v1729)]!)[(Int.toNat v1750)]!) == false)) (gv_some rfl rfl rfl) beq_iff_eq (fun hc1827 => ?_), ?_⟩
                · have hS1825 := hS1767.ext hX1824
                  have hB1826 := hB1766.trans (Ext.stp hX1824 hS1767.base)
                  have hcq12 : ¬ (((x1747[(Int.toNat v1729)]!)[(Int.toNat v1750)]!) = true) := (i_neg Iff.rfl hc1827)
                  exact is_ext (g_move (v := .slice a6 (Int.toNat (p0.length : Int)) (Int.toNat (p0.length : Int))) rfl)
                refine ⟨if ((x1747[(Int.toNat v1729)]!)[(Int.toNat v1750)]!) = false then .int .i64 v1729 else undef, fun w1828 hX1829 => od_guard (c := ((x1747[(Int.toNat v1729)]!)[(Int.toNat v1750)]!) = false) (val := .int .i64 v1729) (b := (((x1747[(Int.toNat v1729)]!)[(Int.toNat v1750)]!) == false)) (gv_some rfl rfl rfl) beq_iff_eq (fun hc1832 => ?_), ?_⟩
                · have hS1830 := hS1767.ext hX1829
                  have hB1831 := hB1766.trans (Ext.stp hX1829 hS1767.base)
                  have hcq12 : ¬ (((x1747[(Int.toNat v1729)]!)[(Int.toNat v1750)]!) = true) := (i_neg Iff.rfl hc1832)
                  exact is_ext (g_move (v := .int .i64 v1729) rfl)
                obtain ⟨hg1838, hm⟩ := hm
                refine ⟨if ((x1747[(Int.toNat v1729)]!)[(Int.toNat v1750)]!) = false then .pointer (some ((adr a6).add ((Int.toNat v1729) * El.m (Hd Bool)))) else undef, fun w1833 hX1834 => od_guard (c := ((x1747[(Int.toNat v1729)]!)[(Int.toNat v1750)]!) = false) (val := .pointer (some ((adr a6).add ((Int.toNat v1729) * El.m (Hd Bool))))) (b := (((x1747[(Int.toNat v1729)]!)[(Int.toNat v1750)]!) == false)) (gv_some rfl rfl rfl) beq_iff_eq (fun hc1837 => ?_), ?_⟩
                · have hS1835 := hS1767.ext hX1834
                  have hB1836 := hB1766.trans (Ext.stp hX1834 hS1767.base)
                  have hcq12 : ¬ (((x1747[(Int.toNat v1729)]!)[(Int.toNat v1750)]!) = true) := (i_neg Iff.rfl hc1837)
                  exact is_ext (q_index (i := v1729) SL54 (if_pos hc1837) (if_pos hc1837) (Tv.o (oT.vw hS1835.g0 hS1835.g1 he1749)) (Tv.g (oT.vw hS1835.g0 hS1835.g1 he1749) (hg1838 hcq12)))
                refine ⟨if ((x1747[(Int.toNat v1729)]!)[(Int.toNat v1750)]!) = false then .slice ((y1748[(Int.toNat v1729)]!).1) ((y1748[(Int.toNat v1729)]!).2.2.length) ((y1748[(Int.toNat v1729)]!).2.1) else undef, fun w1839 hX1840 => od_guard (c := ((x1747[(Int.toNat v1729)]!)[(Int.toNat v1750)]!) = false) (val := .slice ((y1748[(Int.toNat v1729)]!).1) ((y1748[(Int.toNat v1729)]!).2.2.length) ((y1748[(Int.toNat v1729)]!).2.1)) (b := (((x1747[(Int.toNat v1729)]!)[(Int.toNat v1750)]!) == false)) (gv_some rfl rfl rfl) beq_iff_eq (fun hc1843 => ?_), ?_⟩
                · have hS1841 := hS1767.ext hX1840
                  have hB1842 := hB1766.trans (Ext.stp hX1840 hS1767.base)
                  have hcq12 : ¬ (((x1747[(Int.toNat v1729)]!)[(Int.toNat v1750)]!) = true) := (i_neg Iff.rfl hc1843)
                  exact is_ext (q_load (i := v1729) (v := .slice ((y1748[(Int.toNat v1729)]!).1) ((y1748[(Int.toNat v1729)]!).2.2.length) ((y1748[(Int.toNat v1729)]!).2.1)) ON56 (Tv.o (oT.vw hS1841.g0 hS1841.g1 he1749)) (Tv.g (oT.vw hS1841.g0 hS1841.g1 he1749) (hg1838 hcq12)) rfl (if_pos hc1843))
                refine ⟨if ((x1747[(Int.toNat v1729)]!)[(Int.toNat v1750)]!) = false then .int .i64 v1708 else undef, fun w1844 hX1845 => od_guard (c := ((x1747[(Int.toNat v1729)]!)[(Int.toNat v1750)]!) = false) (val := .int .i64 v1708) (b := (((x1747[(Int.toNat v1729)]!)[(Int.toNat v1750)]!) == false)) (gv_some rfl rfl rfl) beq_iff_eq (fun hc1848 => ?_), ?_⟩
                · have hS1846 := hS1767.ext hX1845
                  have hB1847 := hB1766.trans (Ext.stp hX1845 hS1767.base)
                  have hcq12 : ¬ (((x1747[(Int.toNat v1729)]!)[(Int.toNat v1750)]!) = true) := (i_neg Iff.rfl hc1848)
                  exact is_ext (g_move (v := .int .i64 v1708) rfl)
                obtain ⟨hg1854, hm⟩ := hm
                refine ⟨if ((x1747[(Int.toNat v1729)]!)[(Int.toNat v1750)]!) = false then .pointer (some ((adr ((y1748[(Int.toNat v1729)]!).1)).add ((Int.toNat v1708) * El.m Bool))) else undef, fun w1849 hX1850 => od_guard (c := ((x1747[(Int.toNat v1729)]!)[(Int.toNat v1750)]!) = false) (val := .pointer (some ((adr ((y1748[(Int.toNat v1729)]!).1)).add ((Int.toNat v1708) * El.m Bool)))) (b := (((x1747[(Int.toNat v1729)]!)[(Int.toNat v1750)]!) == false)) (gv_some rfl rfl rfl) beq_iff_eq (fun hc1853 => ?_), ?_⟩
                · have hS1851 := hS1767.ext hX1850
                  have hB1852 := hB1766.trans (Ext.stp hX1850 hS1767.base)
                  have hcq12 : ¬ (((x1747[(Int.toNat v1729)]!)[(Int.toNat v1750)]!) = true) := (i_neg Iff.rfl hc1853)
                  exact is_ext (q_index (i := v1708) SL56 (if_pos hc1853) (if_pos hc1853) (Tv.row (oT.vw hS1851.g0 hS1851.g1 he1749) (hg1838 hcq12)) (hg1854 hcq12))
                refine ⟨if ((x1747[(Int.toNat v1729)]!)[(Int.toNat v1750)]!) = false then .bool ((x1747[(Int.toNat v1729)]!)[(Int.toNat v1708)]!) else undef, fun w1855 hX1856 => od_guard (c := ((x1747[(Int.toNat v1729)]!)[(Int.toNat v1750)]!) = false) (val := .bool ((x1747[(Int.toNat v1729)]!)[(Int.toNat v1708)]!)) (b := (((x1747[(Int.toNat v1729)]!)[(Int.toNat v1750)]!) == false)) (gv_some rfl rfl rfl) beq_iff_eq (fun hc1859 => ?_), ?_⟩
                · have hS1857 := hS1767.ext hX1856
                  have hB1858 := hB1766.trans (Ext.stp hX1856 hS1767.base)
                  have hcq12 : ¬ (((x1747[(Int.toNat v1729)]!)[(Int.toNat v1750)]!) = true) := (i_neg Iff.rfl hc1859)
                  exact is_ext (q_load (i := v1708) (v := .bool ((x1747[(Int.toNat v1729)]!)[(Int.toNat v1708)]!)) ON4 (Tv.row (oT.vw hS1857.g0 hS1857.g1 he1749) (hg1838 hcq12)) (hg1854 hcq12) rfl (if_pos hc1859))
                refine ⟨if ((x1747[(Int.toNat v1729)]!)[(Int.toNat v1750)]!) = false then .bool ((x1747[(Int.toNat v1729)]!)[(Int.toNat v1708)]!) else undef, fun w1860 hX1861 => od_guard (c := ((x1747[(Int.toNat v1729)]!)[(Int.toNat v1750)]!) = false) (val := .bool ((x1747[(Int.toNat v1729)]!)[(Int.toNat v1708)]!)) (b := (((x1747[(Int.toNat v1729)]!)[(Int.toNat v1750)]!) == false)) (gv_some rfl rfl rfl) beq_iff_eq (fun hc1864 => ?_), ?_⟩
                · have hS1862 := hS1767.ext hX1861
                  have hB1863 := hB1766.trans (Ext.stp hX1861 hS1767.base)
                  have hcq12 : ¬ (((x1747[(Int.toNat v1729)]!)[(Int.toNat v1750)]!) = true) := (i_neg Iff.rfl hc1864)
                  exact is_ext (g_move (v := .bool ((x1747[(Int.toNat v1729)]!)[(Int.toNat v1708)]!)) (if_pos hc1864))
                refine ⟨if (((x1747[(Int.toNat v1729)]!)[(Int.toNat v1750)]!) = false) ∧ ((x1747[(Int.toNat v1729)]!)[(Int.toNat v1708)]!) = true then .slice a6 (Int.toNat (p0.length : Int)) (Int.toNat (p0.length : Int)) else undef, fun w1865 hX1866 => od_guard (c := (((x1747[(Int.toNat v1729)]!)[(Int.toNat v1750)]!) = false) ∧ ((x1747[(Int.toNat v1729)]!)[(Int.toNat v1708)]!) = true) (val := .slice a6 (Int.toNat (p0.length : Int)) (Int.toNat (p0.length : Int))) (b := decide ((((x1747[(Int.toNat v1729)]!)[(Int.toNat v1750)]!) = false) ∧ ((x1747[(Int.toNat v1729)]!)[(Int.toNat v1708)]!) = true)) (gv_gd rfl rfl rfl) decide_eq_true_iff (fun hc1869 => ?_), ?_⟩
                · have hS1867 := hS1767.ext hX1866
                  have hB1868 := hB1766.trans (Ext.stp hX1866 hS1767.base)
                  have hcq13 : (¬ (((x1747[(Int.toNat v1729)]!)[(Int.toNat v1750)]!) = true)) ∧ (((x1747[(Int.toNat v1729)]!)[(Int.toNat v1708)]!) = true) := ⟨(i_neg Iff.rfl (hc1869).1), Iff.rfl.mp (hc1869).2⟩
                  have hcq12 := (hcq13).1
                  exact is_ext (g_move (v := .slice a6 (Int.toNat (p0.length : Int)) (Int.toNat (p0.length : Int))) rfl)
                refine ⟨if (((x1747[(Int.toNat v1729)]!)[(Int.toNat v1750)]!) = false) ∧ ((x1747[(Int.toNat v1729)]!)[(Int.toNat v1708)]!) = true then .int .i64 v1708 else undef, fun w1870 hX1871 => od_guard (c := (((x1747[(Int.toNat v1729)]!)[(Int.toNat v1750)]!) = false) ∧ ((x1747[(Int.toNat v1729)]!)[(Int.toNat v1708)]!) = true) (val := .int .i64 v1708) (b := decide ((((x1747[(Int.toNat v1729)]!)[(Int.toNat v1750)]!) = false) ∧ ((x1747[(Int.toNat v1729)]!)[(Int.toNat v1708)]!) = true)) (gv_gd rfl rfl rfl) decide_eq_true_iff (fun hc1874 => ?_), ?_⟩
                · have hS1872 := hS1767.ext hX1871
                  have hB1873 := hB1766.trans (Ext.stp hX1871 hS1767.base)
                  have hcq13 : (¬ (((x1747[(Int.toNat v1729)]!)[(Int.toNat v1750)]!) = true)) ∧ (((x1747[(Int.toNat v1729)]!)[(Int.toNat v1708)]!) = true) := ⟨(i_neg Iff.rfl (hc1874).1), Iff.rfl.mp (hc1874).2⟩
                  have hcq12 := (hcq13).1
                  exact is_ext (g_move (v := .int .i64 v1708) rfl)
                obtain ⟨hg1880, hm⟩ := hm
                refine ⟨if (((x1747[(Int.toNat v1729)]!)[(Int.toNat v1750)]!) = false) ∧ ((x1747[(Int.toNat v1729)]!)[(Int.toNat v1708)]!) = true then .pointer (some ((adr a6).add ((Int.toNat v1708) * El.m (Hd Bool)))) else undef, fun w1875 hX1876 => od_guard (c := (((x1747[(Int.toNat v1729)]!)[(Int.toNat v1750)]!) = false) ∧ ((x1747[(Int.toNat v1729)]!)[(Int.toNat v1708)]!) = true) (val := .pointer (some ((adr a6).add ((Int.toNat v1708) * El.m (Hd Bool))))) (b := decide ((((x1747[(Int.toNat v1729)]!)[(Int.toNat v1750)]!) = false) ∧ ((x1747[(Int.toNat v1729)]!)[(Int.toNat v1708)]!) = true)) (gv_gd rfl rfl rfl) decide_eq_true_iff (fun hc1879 => ?_), ?_⟩
                · have hS1877 := hS1767.ext hX1876
                  have hB1878 := hB1766.trans (Ext.stp hX1876 hS1767.base)
                  have hcq13 : (¬ (((x1747[(Int.toNat v1729)]!)[(Int.toNat v1750)]!) = true)) ∧ (((x1747[(Int.toNat v1729)]!)[(Int.toNat v1708)]!) = true) := ⟨(i_neg Iff.rfl (hc1879).1), Iff.rfl.mp (hc1879).2⟩
                  have hcq12 := (hcq13).1
                  exact is_ext (q_index (i := v1708) SL54 (if_pos hc1879) (if_pos hc1879) (Tv.o (oT.vw hS1877.g0 hS1877.g1 he1749)) (Tv.g (oT.vw hS1877.g0 hS1877.g1 he1749) (hg1880 hcq13)))
                refine ⟨if (((x1747[(Int.toNat v1729)]!)[(Int.toNat v1750)]!) = false) ∧ ((x1747[(Int.toNat v1729)]!)[(Int.toNat v1708)]!) = true then .slice ((y1748[(Int.toNat v1708)]!).1) ((y1748[(Int.toNat v1708)]!).2.2.length) ((y1748[(Int.toNat v1708)]!).2.1) else undef, fun w1881 hX1882 => od_guard (c := (((x1747[(Int.toNat v1729)]!)[(Int.toNat v1750)]!) = false) ∧ ((x1747[(Int.toNat v1729)]!)[(Int.toNat v1708)]!) = true) (val := .slice ((y1748[(Int.toNat v1708)]!).1) ((y1748[(Int.toNat v1708)]!).2.2.length) ((y1748[(Int.toNat v1708)]!).2.1)) (b := decide ((((x1747[(Int.toNat v1729)]!)[(Int.toNat v1750)]!) = false) ∧ ((x1747[(Int.toNat v1729)]!)[(Int.toNat v1708)]!) = true)) (gv_gd rfl rfl rfl) decide_eq_true_iff (fun hc1885 => ?_), ?_⟩
                · have hS1883 := hS1767.ext hX1882
                  have hB1884 := hB1766.trans (Ext.stp hX1882 hS1767.base)
                  have hcq13 : (¬ (((x1747[(Int.toNat v1729)]!)[(Int.toNat v1750)]!) = true)) ∧ (((x1747[(Int.toNat v1729)]!)[(Int.toNat v1708)]!) = true) := ⟨(i_neg Iff.rfl (hc1885).1), Iff.rfl.mp (hc1885).2⟩
                  have hcq12 := (hcq13).1
                  exact is_ext (q_load (i := v1708) (v := .slice ((y1748[(Int.toNat v1708)]!).1) ((y1748[(Int.toNat v1708)]!).2.2.length) ((y1748[(Int.toNat v1708)]!).2.1)) ON56 (Tv.o (oT.vw hS1883.g0 hS1883.g1 he1749)) (Tv.g (oT.vw hS1883.g0 hS1883.g1 he1749) (hg1880 hcq13)) rfl (if_pos hc1885))
                refine ⟨if (((x1747[(Int.toNat v1729)]!)[(Int.toNat v1750)]!) = false) ∧ ((x1747[(Int.toNat v1729)]!)[(Int.toNat v1708)]!) = true then .int .i64 v1750 else undef, fun w1886 hX1887 => od_guard (c := (((x1747[(Int.toNat v1729)]!)[(Int.toNat v1750)]!) = false) ∧ ((x1747[(Int.toNat v1729)]!)[(Int.toNat v1708)]!) = true) (val := .int .i64 v1750) (b := decide ((((x1747[(Int.toNat v1729)]!)[(Int.toNat v1750)]!) = false) ∧ ((x1747[(Int.toNat v1729)]!)[(Int.toNat v1708)]!) = true)) (gv_gd rfl rfl rfl) decide_eq_true_iff (fun hc1890 => ?_), ?_⟩
                · have hS1888 := hS1767.ext hX1887
                  have hB1889 := hB1766.trans (Ext.stp hX1887 hS1767.base)
                  have hcq13 : (¬ (((x1747[(Int.toNat v1729)]!)[(Int.toNat v1750)]!) = true)) ∧ (((x1747[(Int.toNat v1729)]!)[(Int.toNat v1708)]!) = true) := ⟨(i_neg Iff.rfl (hc1890).1), Iff.rfl.mp (hc1890).2⟩
                  have hcq12 := (hcq13).1
                  exact is_ext (g_move (v := .int .i64 v1750) rfl)
                obtain ⟨hg1896, hm⟩ := hm
                refine ⟨if (((x1747[(Int.toNat v1729)]!)[(Int.toNat v1750)]!) = false) ∧ ((x1747[(Int.toNat v1729)]!)[(Int.toNat v1708)]!) = true then .pointer (some ((adr ((y1748[(Int.toNat v1708)]!).1)).add ((Int.toNat v1750) * El.m Bool))) else undef, fun w1891 hX1892 => od_guard (c := (((x1747[(Int.toNat v1729)]!)[(Int.toNat v1750)]!) = false) ∧ ((x1747[(Int.toNat v1729)]!)[(Int.toNat v1708)]!) = true) (val := .pointer (some ((adr ((y1748[(Int.toNat v1708)]!).1)).add ((Int.toNat v1750) * El.m Bool)))) (b := decide ((((x1747[(Int.toNat v1729)]!)[(Int.toNat v1750)]!) = false) ∧ ((x1747[(Int.toNat v1729)]!)[(Int.toNat v1708)]!) = true)) (gv_gd rfl rfl rfl) decide_eq_true_iff (fun hc1895 => ?_), ?_⟩
                · have hS1893 := hS1767.ext hX1892
                  have hB1894 := hB1766.trans (Ext.stp hX1892 hS1767.base)
                  have hcq13 : (¬ (((x1747[(Int.toNat v1729)]!)[(Int.toNat v1750)]!) = true)) ∧ (((x1747[(Int.toNat v1729)]!)[(Int.toNat v1708)]!) = true) := ⟨(i_neg Iff.rfl (hc1895).1), Iff.rfl.mp (hc1895).2⟩
                  have hcq12 := (hcq13).1
                  exact is_ext (q_index (i := v1750) SL56 (if_pos hc1895) (if_pos hc1895) (Tv.row (oT.vw hS1893.g0 hS1893.g1 he1749) (hg1880 hcq13)) (hg1896 hcq13))
                refine ⟨if (((x1747[(Int.toNat v1729)]!)[(Int.toNat v1750)]!) = false) ∧ ((x1747[(Int.toNat v1729)]!)[(Int.toNat v1708)]!) = true then .bool ((x1747[(Int.toNat v1708)]!)[(Int.toNat v1750)]!) else undef, fun w1897 hX1898 => od_guard (c := (((x1747[(Int.toNat v1729)]!)[(Int.toNat v1750)]!) = false) ∧ ((x1747[(Int.toNat v1729)]!)[(Int.toNat v1708)]!) = true) (val := .bool ((x1747[(Int.toNat v1708)]!)[(Int.toNat v1750)]!)) (b := decide ((((x1747[(Int.toNat v1729)]!)[(Int.toNat v1750)]!) = false) ∧ ((x1747[(Int.toNat v1729)]!)[(Int.toNat v1708)]!) = true)) (gv_gd rfl rfl rfl) decide_eq_true_iff (fun hc1901 => ?_), ?_⟩
                · have hS1899 := hS1767.ext hX1898
                  have hB1900 := hB1766.trans (Ext.stp hX1898 hS1767.base)
                  have hcq13 : (¬ (((x1747[(Int.toNat v1729)]!)[(Int.toNat v1750)]!) = true)) ∧ (((x1747[(Int.toNat v1729)]!)[(Int.toNat v1708)]!) = true) := ⟨(i_neg Iff.rfl (hc1901).1), Iff.rfl.mp (hc1901).2⟩
                  have hcq12 := (hcq13).1
                  exact is_ext (q_load (i := v1750) (v := .bool ((x1747[(Int.toNat v1708)]!)[(Int.toNat v1750)]!)) ON4 (Tv.row (oT.vw hS1899.g0 hS1899.g1 he1749) (hg1880 hcq13)) (hg1896 hcq13) rfl (if_pos hc1901))
                refine ⟨if ((x1747[(Int.toNat v1729)]!)[(Int.toNat v1750)]!) = false then .bool (((x1747[(Int.toNat v1729)]!)[(Int.toNat v1708)]!) && ((x1747[(Int.toNat v1708)]!)[(Int.toNat v1750)]!)) else undef, fun w1902 hX1903 => od_guard (c := ((x1747[(Int.toNat v1729)]!)[(Int.toNat v1750)]!) = false) (val := .bool (((x1747[(Int.toNat v1729)]!)[(Int.toNat v1708)]!) && ((x1747[(Int.toNat v1708)]!)[(Int.toNat v1750)]!))) (b := (((x1747[(Int.toNat v1729)]!)[(Int.toNat v1750)]!) == false)) (gv_some rfl rfl rfl) beq_iff_eq (fun hc1906 => ?_), ?_⟩
                · have hS1904 := hS1767.ext hX1903
                  have hB1905 := hB1766.trans (Ext.stp hX1903 hS1767.base)
                  have hcq12 : ¬ (((x1747[(Int.toNat v1729)]!)[(Int.toNat v1750)]!) = true) := (i_neg Iff.rfl hc1906)
                  exact is_ext (g_pick_and (b := ((x1747[(Int.toNat v1729)]!)[(Int.toNat v1708)]!)) (q := ((x1747[(Int.toNat v1708)]!)[(Int.toNat v1750)]!)) (if_pos hc1906) (gd_in hc1906))
                refine ⟨.bool (((x1747[(Int.toNat v1729)]!)[(Int.toNat v1750)]!) || (((x1747[(Int.toNat v1729)]!)[(Int.toNat v1708)]!) && ((x1747[(Int.toNat v1708)]!)[(Int.toNat v1750)]!))), fun w1907 hX1908 => od_plain rfl (by have hS1909 := hS1767.ext hX1908; have hB1910 := hB1766.trans (Ext.stp hX1908 hS1767.base); exact is_ext (g_pick_or (b := ((x1747[(Int.toNat v1729)]!)[(Int.toNat v1750)]!)) (q := (((x1747[(Int.toNat v1729)]!)[(Int.toNat v1708)]!) && ((x1747[(Int.toNat v1708)]!)[(Int.toNat v1750)]!))) rfl rfl)), ?_⟩
                obtain ⟨hg1915, hm⟩ := hm
                refine ⟨.pointer (some ((adr ((y1748[(Int.toNat v1729)]!).1)).add ((Int.toNat v1750) * El.m Bool))), fun w1911 hX1912 => od_plain rfl (by have hS1913 := hS1767.ext hX1912; have hB1914 := hB1766.trans (Ext.stp hX1912 hS1767.base); exact is_ext (q_index (i := v1750) SL56 rfl rfl (Tv.row (oT.vw hS1913.g0 hS1913.g1 he1749) hg1780) hg1915)), ?_⟩
                intro w1916 hX1917
                have hB1918 := hB1766.trans (Ext.stp hX1917 hS1767.base)
                have hS1919 := hS1767.ext hX1917
                have hS1923 := hS1919.f1
                have hS1924 := hS1923.f1
                refine ⟨_, od_plain rfl (q_row (i := v1729) (k := v1750) (v := ((((x1747[(Int.toNat v1729)]!)[(Int.toNat v1750)]!) || (((x1747[(Int.toNat v1729)]!)[(Int.toNat v1708)]!) && ((x1747[(Int.toNat v1708)]!)[(Int.toNat v1750)]!))) : Bool)) hS1924 he1749 hg1780 hg1915 ON4.sz rfl rfl rfl), ?_⟩
                rintro _ w1920 ⟨rfl, y1925, he1926, hS1921, hb1922⟩
                have hB1927 := hB1918.trans hb1922
                intro w1928 hX1929
                have hB1930 := hB1927.trans (Ext.stp hX1929 hS1921.base)
                have hS1931 := hS1921.ext hX1929
                refine hK1762 _ _ ?_
                refine w_region ?_
                obtain ⟨hg1932, hm⟩ := hm
                refine wl_val (g_add (a := v1750) (b := 1) rfl rfl hg1932) rfl ?_
                refine wl_val (g_move (v := .int .i64 (v1750 + 1)) rfl) rfl ?_
                refine wl_nil ?_
                exact ⟨((x1747.set (Int.toNat v1729) (x1747[(Int.toNat v1729)]!.set (Int.toNat v1750) (((x1747[(Int.toNat v1729)]!)[(Int.toNat v1750)]!) || (((x1747[(Int.toNat v1729)]!)[(Int.toNat v1708)]!) && ((x1747[(Int.toNat v1708)]!)[(Int.toNat v1750)]!))))), y1925, (v1750 + 1)), hm.2, ⟨rfl, rfl, rfl, rfl, rfl, rfl, rfl, rfl, rfl, rfl, trivial⟩, ⟨hm.1, he1926, hB1930, hS1931⟩⟩
              · replace hm := hm.2 h1761
                refine w_exit ?_
                exact ⟨(x1747, y1748), ⟨rfl, rfl, rfl, rfl, rfl, rfl, rfl, trivial⟩, ⟨hm, he1749, hB1756, hS1757⟩⟩
            · rintro ⟨x1741, y1742⟩ b_ w1933 ⟨hm, he1743, hB1934, hS1935⟩
              show Wp _ _ _ _ (upds b_ [(3, .int .i64 (p0.length : Int)), (4, .slice a6 (Int.toNat (p0.length : Int)) (Int.toNat (p0.length : Int))), (9, .int .i64 v1708), (47, .int .i64 (p0.length : Int)), (48, .int .i64 v1708), (51, .int .i64 (p0.length : Int)), (52, .int .i64 v1729)]) w1933
              refine w_region ?_
              obtain ⟨hg1936, hm⟩ := hm
              refine wl_val (g_add (a := v1729) (b := 1) rfl rfl hg1936) rfl ?_
              refine wl_val (g_move (v := .int .i64 (v1729 + 1)) rfl) rfl ?_
              refine wl_nil ?_
              exact ⟨(x1741, y1742, (v1729 + 1)), hm.2, ⟨rfl, rfl, rfl, rfl, rfl, rfl, rfl, trivial⟩, ⟨hm.1, he1743, hB1934, hS1935⟩⟩
          · replace hm := hm.2 h1740
            refine w_exit ?_
            exact ⟨(x1726, y1727), ⟨rfl, rfl, rfl, rfl, trivial⟩, ⟨hm, he1728, hB1735, hS1736⟩⟩
        · rintro ⟨x1720, y1721⟩ b_ w1937 ⟨hm, he1722, hB1938, hS1939⟩
          show Wp _ _ _ _ (upds b_ [(3, .int .i64 (p0.length : Int)), (4, .slice a6 (Int.toNat (p0.length : Int)) (Int.toNat (p0.length : Int))), (47, .int .i64 (p0.length : Int)), (48, .int .i64 v1708)]) w1937
          refine w_region ?_
          obtain ⟨hg1940, hm⟩ := hm
          refine wl_val (g_add (a := v1708) (b := 1) rfl rfl hg1940) rfl ?_
          refine wl_val (g_move (v := .int .i64 (v1708 + 1)) rfl) rfl ?_
          refine wl_nil ?_
          exact ⟨(x1720, y1721, (v1708 + 1)), hm.2, ⟨rfl, rfl, rfl, rfl, trivial⟩, ⟨hm.1, he1722, hB1938, hS1939⟩⟩
      · replace hm := hm.2 h1719
        refine w_exit ?_
        exact ⟨(x1705, y1706), ⟨rfl, trivial⟩, ⟨hm, he1707, hB1714, hS1715⟩⟩
    · rintro ⟨x1700, y1701⟩ b_ w1941 ⟨hm, he1702, hB1942, hS1943⟩
      show Wp _ _ _ _ (upds b_ [(4, .slice a6 (Int.toNat (p0.length : Int)) (Int.toNat (p0.length : Int)))]) w1941
      refine w_seq fun K1944 hK1944 => ?_
      refine w_region ?_
      refine wl_val (g_move (v := .slice a6 (Int.toNat (p0.length : Int)) (Int.toNat (p0.length : Int))) rfl) rfl ?_
      refine wl_val (g_assign (v := .slice a6 (Int.toNat (p0.length : Int)) (Int.toNat (p0.length : Int))) rfl) rfl ?_
      refine wl_nil ?_
      refine hK1944 _ _ ?_
      refine w_ret ?_
      repeat first | with_reducible refine q_then ?_ | with_reducible refine q_block ?_
      exact ret1 rfl (by decide) ⟨_, _, _, _, _, hm, he1702, rfl, toExt hB1942, hS1943⟩

theorem m_impl_CircleIn_fn {w : World} {a0 : Option Addr} {n0 c0 : Nat} {y0 : List CueD} {p0 : List CueC} {Q : (List Int) → Prop} (hp0 : Tv w.heap.size w a0 n0 c0 y0 p0) (hm : m_impl_CircleIn p0 Q) :
    Fn Try.prog 20 #[.slice a0 n0 c0] w (fun v w' => ∃ (r0 : List Int) (a0 : Option Addr) (n0 c0 : Nat), Q r0 ∧ v = .slice a0 n0 c0 ∧ Ext w w' ∧ Sep w' w.heap.size [oS 3 a0 n0 c0 r0]) := by
  unfold m_impl_CircleIn at hm
  have hB0 := Below.refl w.heap.size w
  have hS0 : Sep w w.heap.size [] := Sep.nil (Nat.le_refl _)
  refine fn_of_wp Try.func20 rfl (by kernel_rfl) (Nat.le_of_ble_eq_true rfl) ?_
  refine w_seq fun K1 hK1 => ?_
  refine w_region ?_
  refine wl_val (g_assign (v := .slice none 0 0) rfl) rfl ?_
  refine wl_nil ?_
  refine hK1 _ _ ?_
  refine w_seq fun K2 hK2 => ?_
  refine w_seq fun K3 hK3 => ?_
  refine w_region ?_
  refine wl_val (g_move (v := .slice a0 n0 c0) rfl) rfl ?_
  refine wl_val (q_len SL26 rfl (Tv.len (hp0.bel hB0))) rfl ?_
  refine wl_val (g_gtr (a := (p0.length : Int)) (b := 12) rfl rfl) rfl ?_
  refine wl_nil ?_
  refine hK3 _ _ ?_
  refine w_condI (p := (p0.length : Int) > 12) (b := (decide ((p0.length : Int) > 12))) rfl decide_eq_true_iff (fun h4 => ?_) (fun h4 => ?_)
  · replace hm := hm.1 h4
    refine w_seq fun K5 hK5 => ?_
    refine w_region ?_
    refine wl_val (g_assign (v := .slice none 0 0) rfl) rfl ?_
    refine wl_nil ?_
    refine hK5 _ _ ?_
    refine w_ret ?_
    have hS6 := hS0.nilS (α := Int) (E := 3)
    repeat first | with_reducible refine q_then ?_ | with_reducible refine q_block ?_
    exact ret1 rfl (by decide) ⟨_, _, _, _, hm, rfl, toExt hB0, hS6⟩
  · replace hm := hm.2 h4
    refine w_skip ?_
    refine hK2 _ _ ?_
    refine w_seq fun K8 hK8 => ?_
    refine w_region ?_
    refine wl_val (g_move (v := .slice a0 n0 c0) rfl) rfl ?_
    refine wl_step rfl (g_call (vs := #[.slice a0 n0 c0]) CF60 (args1 rfl) (m_impl_waits_fn ((hp0.bel hB0).up hS0) hm)) ?_
    rintro _ w9 ⟨r12, a13, n14, c15, y16, hm, he17, rfl, hE10, hN11⟩
    have hS21 := hS0.call2 hE10 hN11
    have hB22 := hB0.trans (Ext.stp hE10 hS0.base)
    refine wl_step rfl (q_lit0 (α := Int) rfl SL24 hS21) ?_
    rintro _ w23 ⟨a24, rfl, hS26, hE25⟩
    have hB28 := hB22.trans (Ext.stp hE25 hS21.base)
    refine wl_val (g_assign (v := .slice a13 n14 c15) rfl) rfl ?_
    refine wl_val (g_assign (v := .slice a24 0 0) rfl) rfl ?_
    refine wl_nil ?_
    refine hK8 _ _ ?_
    refine w_cut (σ := List Int × Option Addr × Nat × Nat) (fun ⟨x109, a110, n111, c112⟩ => [(4, .slice a110 n111 c112)]) (fun ⟨x109, a110, n111, c112⟩ w' => m_impl_CircleIn_K0 Q x109 ∧ Below w.heap.size w w' ∧ Sep w' w.heap.size [oS 3 a110 n111 c112 (x109 : List Int)]) ?_ ?_
    · refine w_seq fun K114 hK114 => ?_
      refine w_region ?_
      refine wl_val (g_move (v := .slice a0 n0 c0) rfl) rfl ?_
      refine wl_val (q_len SL26 rfl (Tv.len (hp0.bel hB28))) rfl ?_
      refine wl_val (g_move (v := .int .i64 0) rfl) rfl ?_
      refine wl_nil ?_
      refine hK114 _ _ ?_
      refine w_block ?_
      have hS120 := hS26.f2
      have hS121 := hS120.f2
      obtain ⟨I122, μ123, h0124, hr125⟩ := hm
      refine w_for (σ := List Int × Option Addr × Nat × Nat × Int) (fun ⟨x115, a116, n117, c118, v119⟩ => [(3, .slice a13 n14 c15), (4, .slice a116 n117 c118), (13, .int .i64 (p0.length : Int)), (14, .int .i64 v119)]) (fun ⟨x115, a116, n117, c118, v119⟩ w' => I122 x115 v119 ∧ Below w.heap.size w w' ∧ Sep w' w.heap.size [oS 56 a13 n14 c15 (y16 : List (Hd Bool)), oT 4 (y16 : List (Hd Bool)), oS 3 a116 n117 c118 (x115 : List Int)]) (fun ⟨x115, a116, n117, c118, v119⟩ => μ123 x115 v119) ([], a24, 0, 0, 0) ⟨rfl, rfl, rfl, rfl, trivial⟩ ⟨h0124, hB28, hS121⟩ ?_
      rintro ⟨x115, a116, n117, c118, v119⟩ b_ w126 ⟨hi_, hB127, hS128⟩
      show Wp _ _ _ _ (upds b_ [(3, .slice a13 n14 c15), (4, .slice a116 n117 c118), (13, .int .i64 (p0.length : Int)), (14, .int .i64 v119)]) w126
      have hm := hr125 x115 v119 hi_
      refine w_seq fun K130 hK130 => ?_
      refine w_region ?_
      refine wl_val (g_lss (a := v119) (b := (p0.length : Int)) rfl rfl) rfl ?_
      refine wl_nil ?_
      refine hK130 _ _ ?_
      refine w_seq fun K131 hK131 => ?_
      refine w_condI (p := v119 < (p0.length : Int)) (b := (decide (v119 < (p0.length : Int)))) rfl decide_eq_true_iff (fun h132 => ?_) (fun h132 => ?_)
      · replace hm := hm.1 h132
        refine w_skip ?_
        refine hK131 _ _ ?_
        refine w_seq fun K133 hK133 => ?_
        refine w_block ?_
        refine w_seq fun K134 hK134 => ?_
        refine w_region ?_
        refine wl_val (g_move (v := .int .i64 v119) rfl) rfl ?_
        refine wl_val (g_assign (v := .int .i64 v119) rfl) rfl ?_
        refine wl_nil ?_
        refine hK134 _ _ ?_
        refine w_seq fun K135 hK135 => ?_
        refine w_region ?_
        refine wl_val (g_move (v := .slice a13 n14 c15) rfl) rfl ?_
        refine wl_val (g_move (v := .int .i64 v119) rfl) rfl ?_
        obtain ⟨hg136, hm⟩ := hm
        refine wl_val (q_index (i := v119) SL54 rfl rfl (Tv.o (oT.vw hS128.g0 hS128.g1 he17)) (Tv.g (oT.vw hS128.g0 hS128.g1 he17) hg136)) rfl ?_
        refine wl_val (q_load (i := v119) (v := .slice ((y16[(Int.toNat v119)]!).1) ((y16[(Int.toNat v119)]!).2.2.length) ((y16[(Int.toNat v119)]!).2.1)) ON56 (Tv.o (oT.vw hS128.g0 hS128.g1 he17)) (Tv.g (oT.vw hS128.g0 hS128.g1 he17) hg136) rfl rfl) rfl ?_
        refine wl_val (g_move (v := .int .i64 v119) rfl) rfl ?_
        obtain ⟨hg137, hm⟩ := hm
        refine wl_val (q_index (i := v119) SL56 rfl rfl (Tv.row (oT.vw hS128.g0 hS128.g1 he17) hg136) hg137) rfl ?_
        refine wl_val (q_load (i := v119) (v := .bool ((r12[(Int.toNat v119)]!)[(Int.toNat v119)]!)) ON4 (Tv.row (oT.vw hS128.g0 hS128.g1 he17) hg136) hg137 rfl rfl) rfl ?_
        refine wl_nil ?_
        refine hK135 _ _ ?_
        refine w_condI (p := ((r12[(Int.toNat v119)]!)[(Int.toNat v119)]!) = true) (b := ((r12[(Int.toNat v119)]!)[(Int.toNat v119)]!)) rfl Iff.rfl (fun h138 => ?_) (fun h138 => ?_)
        · replace hm := hm.1 h138
          refine w_region ?_
          refine wl_val (g_move (v := .slice a116 n117 c118) rfl) rfl ?_
          refine wl_val (g_move (v := .int .i64 v119) rfl) rfl ?_
          refine wl_step rfl (q_lit1 (y := (v119 : Int)) SL24 rfl rfl (by decide) hS128) ?_
          rintro _ w139 ⟨a140, rfl, hS142, hE141⟩
          have hB144 := hB127.trans (Ext.stp hE141 hS128.base)
          have hS150 := hS142.f3
          obtain ⟨hg151, hm⟩ := hm
          refine wl_step rfl (q_append SL24 rfl rfl hS150 (oS.vw hS150.g1) hg151 (by decide)) ?_
          rintro _ w145 ⟨a146, c147, rfl, hS149, hb148⟩
          have hB152 := hB144.trans hb148
          refine wl_val (g_assign (v := .slice a146 (n117 + 1) c147) rfl) rfl ?_
          refine wl_nil ?_
          refine hK133 _ _ ?_
          refine w_region ?_
          obtain ⟨hg153, hm⟩ := hm
          refine wl_val (g_add (a := v119) (b := 1) rfl rfl hg153) rfl ?_
          refine wl_val (g_move (v := .int .i64 (v119 + 1)) rfl) rfl ?_
          refine wl_nil ?_
          have hS154 := hS149.f1
          have hS155 := hS154.tail
          have hS156 := hS155.f2
          have hS157 := hS156.f2
          exact ⟨((x115 ++ ([v119])), a146, (n117 + 1), c147, (v119 + 1)), hm.2, ⟨rfl, rfl, rfl, rfl, trivial⟩, ⟨hm.1, hB152, hS157⟩⟩
        · replace hm := hm.2 h138
          refine w_skip ?_
          refine hK133 _ _ ?_
          refine w_region ?_
          obtain ⟨hg158, hm⟩ := hm
          refine wl_val (g_add (a := v119) (b := 1) rfl rfl hg158) rfl ?_
          refine wl_val (g_move (v := .int .i64 (v119 + 1)) rfl) rfl ?_
          refine wl_nil ?_
          exact ⟨(x115, a116, n117, c118, (v119 + 1)), hm.2, ⟨rfl, rfl, rfl, rfl, trivial⟩, ⟨hm.1, hB127, hS128⟩⟩
      · replace hm := hm.2 h132
        refine w_exit ?_
        have hS159 := hS128.tail
        have hS160 := hS159.tail
        exact ⟨(x115, a116, n117, c118), ⟨rfl, trivial⟩, ⟨hm, hB127, hS160⟩⟩
    · rintro ⟨x109, a110, n111, c112⟩ b_ w161 ⟨hm, hB162, hS163⟩
      show Wp _ _ _ _ (upds b_ [(4, .slice a110 n111 c112)]) w161
      refine w_seq fun K164 hK164 => ?_
      refine w_region ?_
      refine wl_val (g_move (v := .slice a110 n111 c112) rfl) rfl ?_
      refine wl_val (g_assign (v := .slice a110 n111 c112) rfl) rfl ?_
      refine wl_nil ?_
      refine hK164 _ _ ?_
      refine w_ret ?_
      repeat first | with_reducible refine q_then ?_ | with_reducible refine q_block ?_
      exact ret1 rfl (by decide) ⟨_, _, _, _, hm, rfl, toExt hB162, hS163⟩

theorem m_impl_CuesOk_fn {w : World} {a0 : Option Addr} {n0 c0 : Nat} {y0 : List CueD} {p0 : List CueC} {Q : Bool → Prop} (hp0 : Tv w.heap.size w a0 n0 c0 y0 p0) (hm : m_impl_CuesOk p0 Q) :
    Fn Try.prog 29 #[.slice a0 n0 c0] w (fun v w' => ∃ (r0 : Bool), Q r0 ∧ v = .bool r0 ∧ Ext w w') := by
  unfold m_impl_CuesOk at hm
  have hB0 := Below.refl w.heap.size w
  have hS0 : Sep w w.heap.size [] := Sep.nil (Nat.le_refl _)
  refine fn_of_wp Try.func29 rfl (by kernel_rfl) (Nat.le_of_ble_eq_true rfl) ?_
  refine w_seq fun K1 hK1 => ?_
  refine w_region ?_
  refine wl_val (g_assign (v := .bool false) rfl) rfl ?_
  refine wl_nil ?_
  refine hK1 _ _ ?_
  refine w_seq fun K2 hK2 => ?_
  refine w_seq fun K3 hK3 => ?_
  refine w_region ?_
  refine wl_val (g_move (v := .slice a0 n0 c0) rfl) rfl ?_
  refine wl_val (q_len SL26 rfl (Tv.len (hp0.bel hB0))) rfl ?_
  refine wl_step rfl (g_call (vs := #[.int .i64 (p0.length : Int), .int .i64 1, .int .i64 12]) CF65 (args3 rfl rfl rfl) (m_impl_within_fn (p0.length : Int) 1 12 hm)) ?_
  rintro _ w4 ⟨r7, hm, rfl, hE5⟩
  have hB8 := hB0.trans (Ext.stp hE5 hS0.base)
  have hS9 := hS0.ext hE5
  refine wl_val (g_not (a := r7) rfl) rfl ?_
  refine wl_nil ?_
  refine hK3 _ _ ?_
  refine w_condI (p := ¬ (r7 = true)) (b := (!r7)) rfl (i_not Iff.rfl) (fun h10 => ?_) (fun h10 => ?_)
  · replace hm := hm.1 h10
    refine w_seq fun K11 hK11 => ?_
    refine w_region ?_
    refine wl_val (g_assign (v := .bool false) rfl) rfl ?_
    refine wl_nil ?_
    refine hK11 _ _ ?_
    refine w_ret ?_
    repeat first | with_reducible refine q_then ?_ | with_reducible refine q_block ?_
    exact ret1 rfl (by decide) ⟨_, hm, rfl, toExt hB8⟩
  · replace hm := hm.2 h10
    refine w_skip ?_
    refine hK2 _ _ ?_
    refine w_cut (σ := Unit) (fun _ => [(0, .slice a0 n0 c0)]) (fun _ w' => m_impl_CuesOk_K0 p0 Q ∧ Below w.heap.size w w' ∧ Sep w' w.heap.size []) ?_ ?_
    · refine w_seq fun K13 hK13 => ?_
      refine w_region ?_
      refine wl_val (g_move (v := .slice a0 n0 c0) rfl) rfl ?_
      refine wl_val (q_len SL26 rfl (Tv.len (hp0.bel hB8))) rfl ?_
      refine wl_val (g_move (v := .int .i64 0) rfl) rfl ?_
      refine wl_nil ?_
      refine hK13 _ _ ?_
      refine w_block ?_
      obtain ⟨I73, μ74, h075, hr76⟩ := hm
      refine w_for (σ := Int) (fun v72 => [(0, .slice a0 n0 c0), (9, .slice a0 n0 c0), (10, .int .i64 (p0.length : Int)), (11, .int .i64 v72)]) (fun v72 w' => I73 v72 ∧ Below w.heap.size w w' ∧ Sep w' w.heap.size []) (fun v72 => μ74 v72) (0) ⟨rfl, rfl, rfl, rfl, trivial⟩ ⟨h075, hB8, hS9⟩ ?_
      rintro v72 b_ w77 ⟨hi_, hB78, hS79⟩
      show Wp _ _ _ _ (upds b_ [(0, .slice a0 n0 c0), (9, .slice a0 n0 c0), (10, .int .i64 (p0.length : Int)), (11, .int .i64 v72)]) w77
      have hm := hr76 v72 hi_
      refine w_seq fun K81 hK81 => ?_
      refine w_region ?_
      refine wl_val (g_lss (a := v72) (b := (p0.length : Int)) rfl rfl) rfl ?_
      refine wl_nil ?_
      refine hK81 _ _ ?_
      refine w_seq fun K82 hK82 => ?_
      refine w_condI (p := v72 < (p0.length : Int)) (b := (decide (v72 < (p0.length : Int)))) rfl decide_eq_true_iff (fun h83 => ?_) (fun h83 => ?_)
      · replace hm := hm.1 h83
        refine w_skip ?_
        refine hK82 _ _ ?_
        refine w_seq fun K84 hK84 => ?_
        refine w_block ?_
        refine w_seq fun K85 hK85 => ?_
        refine w_region ?_
        obtain ⟨hg86, hm⟩ := hm
        refine wl_val (q_index (i := v72) SL26 rfl rfl (Tv.o (hp0.bel hB78)) (Tv.g (hp0.bel hB78) hg86)) rfl ?_
        refine wl_val (q_loadS (i := v72) (cs := [.int .i64 (p0[(Int.toNat v72)]!.1), .slice ((y0[(Int.toNat v72)]!).2.1.1) ((y0[(Int.toNat v72)]!).2.1.2.2.length) ((y0[(Int.toNat v72)]!).2.1.2.1), .slice ((y0[(Int.toNat v72)]!).2.2.1) ((y0[(Int.toNat v72)]!).2.2.2.2.length) ((y0[(Int.toNat v72)]!).2.2.2.1)]) AG39 (Tv.o (hp0.bel hB78)) (Tv.g (hp0.bel hB78) hg86) (by rw [← Tv.ticks (hp0.bel hB78) hg86]; rfl) rfl) rfl ?_
        refine wl_step rfl (q_alloc (cs := #[.int .i64 0, .slice none 0 0, .slice none 0 0]) ZR39 rfl hS79) ?_
        rintro _ w87 ⟨g88, rfl, hS90, hE89⟩
        have hB92 := hB78.trans (Ext.stp hE89 hS79.base)
        refine wl_step rfl (q_storeB (i := 0) (bs' := #[.int .i64 (p0[(Int.toNat v72)]!.1), .slice ((y0[(Int.toNat v72)]!).2.1.1) ((y0[(Int.toNat v72)]!).2.1.2.2.length) ((y0[(Int.toNat v72)]!).2.1.2.1), .slice ((y0[(Int.toNat v72)]!).2.2.1) ((y0[(Int.toNat v72)]!).2.2.2.2.length) ((y0[(Int.toNat v72)]!).2.2.2.1)]) (vs := [.int .i64 (p0[(Int.toNat v72)]!.1), .slice ((y0[(Int.toNat v72)]!).2.1.1) ((y0[(Int.toNat v72)]!).2.1.2.2.length) ((y0[(Int.toNat v72)]!).2.1.2.1), .slice ((y0[(Int.toNat v72)]!).2.2.1) ((y0[(Int.toNat v72)]!).2.2.2.2.length) ((y0[(Int.toNat v72)]!).2.2.2.1)]) hS90 AG39.sz rfl rfl rfl (by simp [Value.oneCell']) (Nat.le_of_ble_eq_true rfl) rfl) ?_
        rintro _ w93 ⟨rfl, hS94, hb95⟩
        have hB96 := hB92.trans hb95
        refine wl_nil ?_
        refine hK85 _ _ ?_
        refine w_seq fun K97 hK97 => ?_
        refine w_region ?_
        refine wl_val (g_fieldAddr (q := (⟨g88, 0, none⟩ : Addr)) FL39_0 ON3 rfl) rfl ?_
        refine wl_val (q_loadB (i := 0) (bs := #[.int .i64 (p0[(Int.toNat v72)]!.1), .slice ((y0[(Int.toNat v72)]!).2.1.1) ((y0[(Int.toNat v72)]!).2.1.2.2.length) ((y0[(Int.toNat v72)]!).2.1.2.1), .slice ((y0[(Int.toNat v72)]!).2.2.1) ((y0[(Int.toNat v72)]!).2.2.2.2.length) ((y0[(Int.toNat v72)]!).2.2.2.1)]) hS94.g0 ON3 rfl rfl) rfl ?_
        refine wl_step rfl (g_call (vs := #[.int .i64 (p0[(Int.toNat v72)]!.1), .int .i64 1, .int .i64 50]) CF65 (args3 rfl rfl rfl) (m_impl_within_fn (p0[(Int.toNat v72)]!.1) 1 50 hm)) ?_
        rintro _ w98 ⟨r101, hm, rfl, hE99⟩
        have hB102 := hB96.trans (Ext.stp hE99 hS94.base)
        have hS103 := hS94.ext hE99
        refine wl_val (g_not (a := r101) rfl) rfl ?_
        refine wl_val (g_move (v := .bool (!r101)) rfl) rfl ?_
        refine wl_guard (c := (!r101) = false) (val := .pointer (some (((⟨g88, 0, none⟩ : Addr)).add 1))) (b := ((!r101) == false)) (gv_some rfl rfl rfl) beq_iff_eq (fun hc104 => ?_) ?_
        · have hcq2 : ¬ (¬ (r101 = true)) := (i_neg (i_not Iff.rfl) hc104)
          exact g_fieldAddr (q := (⟨g88, 0, none⟩ : Addr)) FL39_1 ON24 rfl
        refine wl_guard (c := (!r101) = false) (val := .slice ((y0[(Int.toNat v72)]!).2.1.1) ((y0[(Int.toNat v72)]!).2.1.2.2.length) ((y0[(Int.toNat v72)]!).2.1.2.1)) (b := ((!r101) == false)) (gv_some rfl rfl rfl) beq_iff_eq (fun hc105 => ?_) ?_
        · have hcq2 : ¬ (¬ (r101 = true)) := (i_neg (i_not Iff.rfl) hc105)
          exact q_loadB (i := 1) (bs := #[.int .i64 (p0[(Int.toNat v72)]!.1), .slice ((y0[(Int.toNat v72)]!).2.1.1) ((y0[(Int.toNat v72)]!).2.1.2.2.length) ((y0[(Int.toNat v72)]!).2.1.2.1), .slice ((y0[(Int.toNat v72)]!).2.2.1) ((y0[(Int.toNat v72)]!).2.2.2.2.length) ((y0[(Int.toNat v72)]!).2.2.2.1)]) hS103.g0 ON24 (if_pos hc105) rfl
        refine wl_guard (c := (!r101) = false) (val := .slice a0 n0 c0) (b := ((!r101) == false)) (gv_some rfl rfl rfl) beq_iff_eq (fun hc106 => ?_) ?_
        · have hcq2 : ¬ (¬ (r101 = true)) := (i_neg (i_not Iff.rfl) hc106)
          exact g_move (v := .slice a0 n0 c0) rfl
        refine wl_guard (c := (!r101) = false) (val := .int .i64 (p0.length : Int)) (b := ((!r101) == false)) (gv_some rfl rfl rfl) beq_iff_eq (fun hc107 => ?_) ?_
        · have hcq2 : ¬ (¬ (r101 = true)) := (i_neg (i_not Iff.rfl) hc107)
          exact q_len SL26 (if_pos hc107) (Tv.len (hp0.bel hB102))
        obtain ⟨hg109, hm⟩ := hm
        refine wl_guard (c := (!r101) = false) (val := .int .i64 ((p0.length : Int) - 1)) (b := ((!r101) == false)) (gv_some rfl rfl rfl) beq_iff_eq (fun hc108 => ?_) ?_
        · have hcq2 : ¬ (¬ (r101 = true)) := (i_neg (i_not Iff.rfl) hc108)
          exact g_sub (a := (p0.length : Int)) (b := 1) (if_pos hc108) rfl (hg109 hcq2)
        obtain ⟨r111, hk112, hm⟩ := hm
        refine wl_guardE (X := Ext) (c := (!r101) = false) (val := .bool r111) (Ext.refl _) (b := ((!r101) == false)) (gv_some rfl rfl rfl) beq_iff_eq (fun hc110 => ?_) (fun w113 hE114 => ?_)
        · have hcq2 : ¬ (¬ (r101 = true)) := (i_neg (i_not Iff.rfl) hc110)
          exact (g_call (vs := #[.slice ((y0[(Int.toNat v72)]!).2.1.1) ((y0[(Int.toNat v72)]!).2.1.2.2.length) ((y0[(Int.toNat v72)]!).2.1.2.1), .int .i64 0, .int .i64 ((p0.length : Int) - 1)]) CF66 (args3 (if_pos hc110) rfl (if_pos hc110)) ((m_impl_isStrict_fn ((Tv.rowC0 (hp0.bel hB102) hg86).up hS103) 0 ((p0.length : Int) - 1) (hk112 hcq2)).mono fun _ _ ⟨_, h1, h2, h3⟩ => ⟨by rw [h2, h1], h3⟩))
        have hB115 := hB102.trans (Ext.stp hE114 hS103.base)
        have hS116 := hS103.ext hE114
        refine wl_guard (c := (!r101) = false) (val := .bool (!r111)) (b := ((!r101) == false)) (gv_some rfl rfl rfl) beq_iff_eq (fun hc117 => ?_) ?_
        · have hcq2 : ¬ (¬ (r101 = true)) := (i_neg (i_not Iff.rfl) hc117)
          exact g_not (a := r111) (if_pos hc117)
        refine wl_val (g_pick_or (b := (!r101)) (q := (!r111)) rfl rfl) rfl ?_
        refine wl_val (g_move (v := .bool ((!r101) || (!r111))) rfl) rfl ?_
        refine wl_guard (c := ((!r101) || (!r111)) = false) (val := .pointer (some (((⟨g88, 0, none⟩ : Addr)).add 2))) (b := (((!r101) || (!r111)) == false)) (gv_some rfl rfl rfl) beq_iff_eq (fun hc118 => ?_) ?_
        · have hcq3 : ¬ (((¬ (r101 = true)) ∨ (¬ (r111 = true)))) := (i_neg (i_or (i_not Iff.rfl) (i_not Iff.rfl)) hc118)
          exact g_fieldAddr (q := (⟨g88, 0, none⟩ : Addr)) FL39_2 ON24 rfl
        refine wl_guard (c := ((!r101) || (!r111)) = false) (val := .slice ((y0[(Int.toNat v72)]!).2.2.1) ((y0[(Int.toNat v72)]!).2.2.2.2.length) ((y0[(Int.toNat v72)]!).2.2.2.1)) (b := (((!r101) || (!r111)) == false)) (gv_some rfl rfl rfl) beq_iff_eq (fun hc119 => ?_) ?_
        · have hcq3 : ¬ (((¬ (r101 = true)) ∨ (¬ (r111 = true)))) := (i_neg (i_or (i_not Iff.rfl) (i_not Iff.rfl)) hc119)
          exact q_loadB (i := 2) (bs := #[.int .i64 (p0[(Int.toNat v72)]!.1), .slice ((y0[(Int.toNat v72)]!).2.1.1) ((y0[(Int.toNat v72)]!).2.1.2.2.length) ((y0[(Int.toNat v72)]!).2.1.2.1), .slice ((y0[(Int.toNat v72)]!).2.2.1) ((y0[(Int.toNat v72)]!).2.2.2.2.length) ((y0[(Int.toNat v72)]!).2.2.2.1)]) hS116.g0 ON24 (if_pos hc119) rfl
        obtain ⟨r121, hk122, hm⟩ := hm
        refine wl_guardE (X := Ext) (c := ((!r101) || (!r111)) = false) (val := .bool r121) (Ext.refl _) (b := (((!r101) || (!r111)) == false)) (gv_some rfl rfl rfl) beq_iff_eq (fun hc120 => ?_) (fun w123 hE124 => ?_)
        · have hcq3 : ¬ (((¬ (r101 = true)) ∨ (¬ (r111 = true)))) := (i_neg (i_or (i_not Iff.rfl) (i_not Iff.rfl)) hc120)
          exact (g_call (vs := #[.slice ((y0[(Int.toNat v72)]!).2.2.1) ((y0[(Int.toNat v72)]!).2.2.2.2.length) ((y0[(Int.toNat v72)]!).2.2.2.1), .int .i64 0, .int .i64 6]) CF66 (args3 (if_pos hc120) rfl rfl) ((m_impl_isStrict_fn ((Tv.rowC1 (hp0.bel hB115) hg86).up hS116) 0 6 (hk122 hcq3)).mono fun _ _ ⟨_, h1, h2, h3⟩ => ⟨by rw [h2, h1], h3⟩))
        have hB125 := hB115.trans (Ext.stp hE124 hS116.base)
        have hS126 := hS116.ext hE124
        refine wl_guard (c := ((!r101) || (!r111)) = false) (val := .bool (!r121)) (b := (((!r101) || (!r111)) == false)) (gv_some rfl rfl rfl) beq_iff_eq (fun hc127 => ?_) ?_
        · have hcq3 : ¬ (((¬ (r101 = true)) ∨ (¬ (r111 = true)))) := (i_neg (i_or (i_not Iff.rfl) (i_not Iff.rfl)) hc127)
          exact g_not (a := r121) (if_pos hc127)
        refine wl_val (g_pick_or (b := ((!r101) || (!r111))) (q := (!r121)) rfl rfl) rfl ?_
        refine wl_nil ?_
        refine hK97 _ _ ?_
        refine w_condI (p := ((((¬ (r101 = true)) ∨ (¬ (r111 = true)))) ∨ (¬ (r121 = true)))) (b := (((!r101) || (!r111)) || (!r121))) rfl (i_or (i_or (i_not Iff.rfl) (i_not Iff.rfl)) (i_not Iff.rfl)) (fun h128 => ?_) (fun h128 => ?_)
        · replace hm := hm.1 h128
          refine w_seq fun K129 hK129 => ?_
          refine w_region ?_
          refine wl_val (g_assign (v := .bool false) rfl) rfl ?_
          refine wl_nil ?_
          refine hK129 _ _ ?_
          refine w_ret ?_
          repeat first | with_reducible refine q_then ?_ | with_reducible refine q_block ?_
          exact ret1 rfl (by decide) ⟨_, hm, rfl, toExt hB125⟩
        · replace hm := hm.2 h128
          refine w_skip ?_
          refine hK84 _ _ ?_
          refine w_region ?_
          obtain ⟨hg130, hm⟩ := hm
          refine wl_val (g_add (a := v72) (b := 1) rfl rfl hg130) rfl ?_
          refine wl_val (g_move (v := .int .i64 (v72 + 1)) rfl) rfl ?_
          refine wl_nil ?_
          have hS131 := hS126.tail
          exact ⟨((v72 + 1)), hm.2, ⟨rfl, rfl, rfl, rfl, trivial⟩, ⟨hm.1, hB125, hS131⟩⟩
      · replace hm := hm.2 h83
        refine w_exit ?_
        exact ⟨(), ⟨rfl, trivial⟩, ⟨hm, hB78, hS79⟩⟩
    · rintro _ b_ w132 ⟨hm, hB133, hS134⟩
      show Wp _ _ _ _ (upds b_ [(0, .slice a0 n0 c0)]) w132
      refine w_seq fun K135 hK135 => ?_
      refine w_region ?_
      refine wl_val (g_move (v := .slice a0 n0 c0) rfl) rfl ?_
      refine wl_step rfl (g_call (vs := #[.slice a0 n0 c0]) CF20 (args1 rfl) (m_impl_CircleIn_fn ((hp0.bel hB133).up hS134) hm)) ?_
      rintro _ w136 ⟨r139, a140, n141, c142, hm, rfl, hE137, hN138⟩
      have hS144 := hS134.call1 hE137 hN138
      have hB145 := hB133.trans (Ext.stp hE137 hS134.base)
      refine wl_val (q_len SL24 rfl (Vw.len (oS.vw hS144.g0))) rfl ?_
      refine wl_val (g_eql (a := (r139.length : Int)) (b := 0) rfl rfl) rfl ?_
      refine wl_val (g_assign (v := .bool (decide ((r139.length : Int) = 0))) rfl) rfl ?_
      refine wl_nil ?_
      refine hK135 _ _ ?_
      refine w_ret ?_
      repeat first | with_reducible refine q_then ?_ | with_reducible refine q_block ?_
      exact ret1 rfl (by decide) ⟨_, hm, rfl, toExt hB145⟩

theorem m_impl_isNext_fn {w : World} {a0_1 : Option Addr} {n0_1 c0_1 : Nat} {a0_2 : Option Addr} {n0_2 c0_2 : Nat} {Q : Bool → Prop} (p0 : CueC) (hp0_1 : Vw w.heap.size w a0_1 n0_1 c0_1 p0.2.1) (hp0_2 : Vw w.heap.size w a0_2 n0_2 c0_2 p0.2.2) (p1 : Int) (p2 : Int) (hm : m_impl_isNext p0 p1 p2 Q) :
    Fn Try.prog 64 #[.agg #[.int .i64 p0.1, .slice a0_1 n0_1 c0_1, .slice a0_2 n0_2 c0_2], .int .i64 p1, .int .i64 p2] w (fun v w' => ∃ (r0 : Bool), Q r0 ∧ v = .bool r0 ∧ Ext w w') := by
  unfold m_impl_isNext at hm
  have hB0 := Below.refl w.heap.size w
  have hS0 : Sep w w.heap.size [] := Sep.nil (Nat.le_refl _)
  refine fn_of_wp Try.func64 rfl (by kernel_rfl) (Nat.le_of_ble_eq_true rfl) ?_
  refine w_seq fun K1 hK1 => ?_
  refine w_region ?_
  refine wl_step rfl (q_box (cs := #[.int .i64 p0.1, .slice a0_1 n0_1 c0_1, .slice a0_2 n0_2 c0_2]) rfl rfl hS0) ?_
  rintro _ w2 ⟨g3, rfl, hS5, hE4⟩
  have hB7 := hB0.trans (Ext.stp hE4 hS0.base)
  refine wl_val (g_assign (v := .bool false) rfl) rfl ?_
  refine wl_nil ?_
  refine hK1 _ _ ?_
  refine w_cut (σ := Unit) (fun _ => [(1, .int .i64 p1), (2, .int .i64 p2)]) (fun _ w' => m_impl_isNext_K0 p1 p2 Q ∧ Below w.heap.size w w' ∧ Sep w' w.heap.size []) ?_ ?_
  · refine w_seq fun K9 hK9 => ?_
    refine w_region ?_
    refine wl_val (g_fieldAddr (q := (⟨g3, 0, none⟩ : Addr)) FL39_1 ON24 rfl) rfl ?_
    refine wl_val (q_loadB (i := 1) (bs := #[.int .i64 p0.1, .slice a0_1 n0_1 c0_1, .slice a0_2 n0_2 c0_2]) hS5.g0 ON24 rfl rfl) rfl ?_
    refine wl_val (q_len SL24 rfl (Vw.len (hp0_1.bel hB7))) rfl ?_
    refine wl_val (g_move (v := .int .i64 0) rfl) rfl ?_
    refine wl_nil ?_
    refine hK9 _ _ ?_
    refine w_block ?_
    have hS32 := hS5.tail
    obtain ⟨I33, μ34, h035, hr36⟩ := hm
    refine w_for (σ := Int) (fun v31 => [(1, .int .i64 p1), (2, .int .i64 p2), (10, .slice a0_1 n0_1 c0_1), (11, .int .i64 (p0.2.1.length : Int)), (12, .int .i64 v31)]) (fun v31 w' => I33 v31 ∧ Below w.heap.size w w' ∧ Sep w' w.heap.size []) (fun v31 => μ34 v31) (0) ⟨rfl, rfl, rfl, rfl, rfl, trivial⟩ ⟨h035, hB7, hS32⟩ ?_
    rintro v31 b_ w37 ⟨hi_, hB38, hS39⟩
    show Wp _ _ _ _ (upds b_ [(1, .int .i64 p1), (2, .int .i64 p2), (10, .slice a0_1 n0_1 c0_1), (11, .int .i64 (p0.2.1.length : Int)), (12, .int .i64 v31)]) w37
    have hm := hr36 v31 hi_
    refine w_seq fun K41 hK41 => ?_
    refine w_region ?_
    refine wl_val (g_lss (a := v31) (b := (p0.2.1.length : Int)) rfl rfl) rfl ?_
    refine wl_nil ?_
    refine hK41 _ _ ?_
    refine w_seq fun K42 hK42 => ?_
    refine w_condI (p := v31 < (p0.2.1.length : Int)) (b := (decide (v31 < (p0.2.1.length : Int)))) rfl decide_eq_true_iff (fun h43 => ?_) (fun h43 => ?_)
    · replace hm := hm.1 h43
      refine w_skip ?_
      refine hK42 _ _ ?_
      refine w_seq fun K44 hK44 => ?_
      refine w_block ?_
      refine w_seq fun K45 hK45 => ?_
      refine w_region ?_
      obtain ⟨hg46, hm⟩ := hm
      refine wl_val (q_index (i := v31) SL24 rfl rfl (hp0_1.bel hB38) hg46) rfl ?_
      refine wl_val (q_load (i := v31) (v := .int .i64 (p0.2.1[(Int.toNat v31)]!)) ON3 (hp0_1.bel hB38) hg46 rfl rfl) rfl ?_
      refine wl_val (g_assign (v := .int .i64 (p0.2.1[(Int.toNat v31)]!)) rfl) rfl ?_
      refine wl_nil ?_
      refine hK45 _ _ ?_
      refine w_seq fun K47 hK47 => ?_
      refine w_region ?_
      refine wl_val (g_move (v := .int .i64 p2) rfl) rfl ?_
      refine wl_val (g_move (v := .int .i64 (p0.2.1[(Int.toNat v31)]!)) rfl) rfl ?_
      obtain ⟨hg48, hm⟩ := hm
      refine wl_val (g_shr (a := p2) (b := p0.2.1[(Int.toNat v31)]!) rfl rfl hg48) rfl ?_
      obtain ⟨hg49, hm⟩ := hm
      refine wl_val (g_band (a := (sar p2 (p0.2.1[(Int.toNat v31)]!))) (b := 1) rfl rfl hg49) rfl ?_
      refine wl_val (g_eql (a := (band (sar p2 (p0.2.1[(Int.toNat v31)]!)) 1)) (b := 0) rfl rfl) rfl ?_
      refine wl_nil ?_
      refine hK47 _ _ ?_
      refine w_condI (p := (band (sar p2 (p0.2.1[(Int.toNat v31)]!)) 1) = 0) (b := (decide ((band (sar p2 (p0.2.1[(Int.toNat v31)]!)) 1) = 0))) rfl decide_eq_true_iff (fun h50 => ?_) (fun h50 => ?_)
      · replace hm := hm.1 h50
        refine w_seq fun K51 hK51 => ?_
        refine w_region ?_
        refine wl_val (g_assign (v := .bool false) rfl) rfl ?_
        refine wl_nil ?_
        refine hK51 _ _ ?_
        refine w_ret ?_
        repeat first | with_reducible refine q_then ?_ | with_reducible refine q_block ?_
        exact ret1 rfl (by decide) ⟨_, hm, rfl, toExt hB38⟩
      · replace hm := hm.2 h50
        refine w_skip ?_
        refine hK44 _ _ ?_
        refine w_region ?_
        obtain ⟨hg52, hm⟩ := hm
        refine wl_val (g_add (a := v31) (b := 1) rfl rfl hg52) rfl ?_
        refine wl_val (g_move (v := .int .i64 (v31 + 1)) rfl) rfl ?_
        refine wl_nil ?_
        exact ⟨((v31 + 1)), hm.2, ⟨rfl, rfl, rfl, rfl, rfl, trivial⟩, ⟨hm.1, hB38, hS39⟩⟩
    · replace hm := hm.2 h43
      refine w_exit ?_
      exact ⟨(), ⟨rfl, rfl, trivial⟩, ⟨hm, hB38, hS39⟩⟩
  · rintro _ b_ w53 ⟨hm, hB54, hS55⟩
    show Wp _ _ _ _ (upds b_ [(1, .int .i64 p1), (2, .int .i64 p2)]) w53
    refine w_seq fun K56 hK56 => ?_
    refine w_region ?_
    refine wl_val (g_move (v := .int .i64 p2) rfl) rfl ?_
    refine wl_val (g_move (v := .int .i64 p1) rfl) rfl ?_
    obtain ⟨hg57, hm⟩ := hm
    refine wl_val (g_shr (a := p2) (b := p1) rfl rfl hg57) rfl ?_
    obtain ⟨hg58, hm⟩ := hm
    refine wl_val (g_band (a := (sar p2 p1)) (b := 1) rfl rfl hg58) rfl ?_
    refine wl_val (g_eql (a := (band (sar p2 p1) 1)) (b := 0) rfl rfl) rfl ?_
    refine wl_val (g_assign (v := .bool (decide ((band (sar p2 p1) 1) = 0))) rfl) rfl ?_
    refine wl_nil ?_
    refine hK56 _ _ ?_
    refine w_ret ?_
    repeat first | with_reducible refine q_then ?_ | with_reducible refine q_block ?_
    exact ret1 rfl (by decide) ⟨_, hm, rfl, toExt hB54⟩

theorem m_impl_CueOrder_fn {w : World} {a0 : Option Addr} {n0 c0 : Nat} {y0 : List CueD} {p0 : List CueC} {Q : (List Int) → Prop} (hp0 : Tv w.heap.size w a0 n0 c0 y0 p0) (hm : m_impl_CueOrder p0 Q) :
    Fn Try.prog 28 #[.slice a0 n0 c0] w (fun v w' => ∃ (r0 : List Int) (a0 : Option Addr) (n0 c0 : Nat), Q r0 ∧ v = .slice a0 n0 c0 ∧ Ext w w' ∧ Sep w' w.heap.size [oS 3 a0 n0 c0 r0]) := by
  unfold m_impl_CueOrder at hm
  have hB0 := Below.refl w.heap.size w
  have hS0 : Sep w w.heap.size [] := Sep.nil (Nat.le_refl _)
  refine fn_of_wp Try.func28 rfl (by kernel_rfl) (Nat.le_of_ble_eq_true rfl) ?_
  refine w_seq fun K1 hK1 => ?_
  refine w_region ?_
  refine wl_val (g_assign (v := .slice none 0 0) rfl) rfl ?_
  refine wl_nil ?_
  refine hK1 _ _ ?_
  refine w_seq fun K2 hK2 => ?_
  refine w_seq fun K3 hK3 => ?_
  refine w_region ?_
  refine wl_val (g_move (v := .slice a0 n0 c0) rfl) rfl ?_
  refine wl_step rfl (g_call (vs := #[.slice a0 n0 c0]) CF29 (args1 rfl) (m_impl_CuesOk_fn ((hp0.bel hB0).up hS0) hm)) ?_
  rintro _ w4 ⟨r7, hm, rfl, hE5⟩
  have hB8 := hB0.trans (Ext.stp hE5 hS0.base)
  have hS9 := hS0.ext hE5
  refine wl_val (g_not (a := r7) rfl) rfl ?_
  refine wl_nil ?_
  refine hK3 _ _ ?_
  refine w_condI (p := ¬ (r7 = true)) (b := (!r7)) rfl (i_not Iff.rfl) (fun h10 => ?_) (fun h10 => ?_)
  · replace hm := hm.1 h10
    refine w_seq fun K11 hK11 => ?_
    refine w_region ?_
    refine wl_val (g_assign (v := .slice none 0 0) rfl) rfl ?_
    refine wl_nil ?_
    refine hK11 _ _ ?_
    refine w_ret ?_
    have hS12 := hS9.nilS (α := Int) (E := 3)
    repeat first | with_reducible refine q_then ?_ | with_reducible refine q_block ?_
    exact ret1 rfl (by decide) ⟨_, _, _, _, hm, rfl, toExt hB8, hS12⟩
  · replace hm := hm.2 h10
    refine w_skip ?_
    refine hK2 _ _ ?_
    refine w_seq fun K14 hK14 => ?_
    refine w_region ?_
    refine wl_step rfl (q_lit0 (α := Int) rfl SL24 hS9) ?_
    rintro _ w15 ⟨a16, rfl, hS18, hE17⟩
    have hB20 := hB8.trans (Ext.stp hE17 hS9.base)
    refine wl_val (g_assign (v := .slice a16 0 0) rfl) rfl ?_
    refine wl_val (g_assign (v := .int .i64 0) rfl) rfl ?_
    refine wl_nil ?_
    refine hK14 _ _ ?_
    refine w_cut (σ := List Int × Option Addr × Nat × Nat) (fun ⟨x214, a215, n216, c217⟩ => [(3, .slice a215 n216 c217)]) (fun ⟨x214, a215, n216, c217⟩ w' => m_impl_CueOrder_K0 Q x214 ∧ Below w.heap.size w w' ∧ Sep w' w.heap.size [oS 3 a215 n216 c217 (x214 : List Int)]) ?_ ?_
    · refine w_block ?_
      obtain ⟨I224, μ225, h0226, hr227⟩ := hm
      refine w_for (σ := List Int × Option Addr × Nat × Nat × Int) (fun ⟨x219, a220, n221, c222, v223⟩ => [(0, .slice a0 n0 c0), (3, .slice a220 n221 c222), (4, .int .i64 v223)]) (fun ⟨x219, a220, n221, c222, v223⟩ w' => I224 x219 v223 ∧ Below w.heap.size w w' ∧ Sep w' w.heap.size [oS 3 a220 n221 c222 (x219 : List Int)]) (fun ⟨x219, a220, n221, c222, v223⟩ => μ225 x219 v223) ([], a16, 0, 0, 0) ⟨rfl, rfl, rfl, trivial⟩ ⟨h0226, hB20, hS18⟩ ?_
      rintro ⟨x219, a220, n221, c222, v223⟩ b_ w228 ⟨hi_, hB229, hS230⟩
      show Wp _ _ _ _ (upds b_ [(0, .slice a0 n0 c0), (3, .slice a220 n221 c222), (4, .int .i64 v223)]) w228
      have hm := hr227 x219 v223 hi_
      refine w_seq fun K232 hK232 => ?_
      refine w_seq fun K233 hK233 => ?_
      refine w_region ?_
      refine wl_val (g_move (v := .slice a220 n221 c222) rfl) rfl ?_
      refine wl_val (q_len SL24 rfl (Vw.len (oS.vw hS230.g0))) rfl ?_
      refine wl_val (g_move (v := .slice a0 n0 c0) rfl) rfl ?_
      refine wl_val (q_len SL26 rfl (Tv.len (hp0.bel hB229))) rfl ?_
      refine wl_val (g_lss (a := (x219.length : Int)) (b := (p0.length : Int)) rfl rfl) rfl ?_
      refine wl_nil ?_
      refine hK233 _ _ ?_
      refine w_condI (p := (x219.length : Int) < (p0.length : Int)) (b := (decide ((x219.length : Int) < (p0.length : Int)))) rfl decide_eq_true_iff (fun h234 => ?_) (fun h234 => ?_)
      · replace hm := hm.1 h234
        refine w_skip ?_
        refine hK232 _ _ ?_
        refine w_block ?_
        refine w_seq fun K235 hK235 => ?_
        refine w_region ?_
        refine wl_val (g_move (v := .slice a0 n0 c0) rfl) rfl ?_
        refine wl_val (q_len SL26 rfl (Tv.len (hp0.bel hB229))) rfl ?_
        refine wl_val (g_move (v := .int .i64 0) rfl) rfl ?_
        refine wl_nil ?_
        refine hK235 _ _ ?_
        refine w_block ?_
        obtain ⟨I237, μ238, h0239, hr240⟩ := hm
        refine w_for (σ := Int) (fun v236 => [(0, .slice a0 n0 c0), (3, .slice a220 n221 c222), (4, .int .i64 v223), (16, .slice a0 n0 c0), (17, .int .i64 (p0.length : Int)), (18, .int .i64 v236)]) (fun v236 w' => I237 v236 ∧ Below w.heap.size w w' ∧ Sep w' w.heap.size [oS 3 a220 n221 c222 (x219 : List Int)]) (fun v236 => μ238 v236) (0) ⟨rfl, rfl, rfl, rfl, rfl, rfl, trivial⟩ ⟨h0239, hB229, hS230⟩ ?_
        rintro v236 b_ w241 ⟨hi_, hB242, hS243⟩
        show Wp _ _ _ _ (upds b_ [(0, .slice a0 n0 c0), (3, .slice a220 n221 c222), (4, .int .i64 v223), (16, .slice a0 n0 c0), (17, .int .i64 (p0.length : Int)), (18, .int .i64 v236)]) w241
        have hm := hr240 v236 hi_
        refine w_seq fun K245 hK245 => ?_
        refine w_region ?_
        refine wl_val (g_lss (a := v236) (b := (p0.length : Int)) rfl rfl) rfl ?_
        refine wl_nil ?_
        refine hK245 _ _ ?_
        refine w_seq fun K246 hK246 => ?_
        refine w_condI (p := v236 < (p0.length : Int)) (b := (decide (v236 < (p0.length : Int)))) rfl decide_eq_true_iff (fun h247 => ?_) (fun h247 => ?_)
        · replace hm := hm.1 h247
          refine w_skip ?_
          refine hK246 _ _ ?_
          refine w_seq fun K248 hK248 => ?_
          refine w_block ?_
          refine w_seq fun K249 hK249 => ?_
          refine w_region ?_
          refine wl_val (g_move (v := .int .i64 v236) rfl) rfl ?_
          obtain ⟨hg250, hm⟩ := hm
          refine wl_val (q_index (i := v236) SL26 rfl rfl (Tv.o (hp0.bel hB242)) (Tv.g (hp0.bel hB242) hg250)) rfl ?_
          refine wl_val (q_loadS (i := v236) (cs := [.int .i64 (p0[(Int.toNat v236)]!.1), .slice ((y0[(Int.toNat v236)]!).2.1.1) ((y0[(Int.toNat v236)]!).2.1.2.2.length) ((y0[(Int.toNat v236)]!).2.1.2.1), .slice ((y0[(Int.toNat v236)]!).2.2.1) ((y0[(Int.toNat v236)]!).2.2.2.2.length) ((y0[(Int.toNat v236)]!).2.2.2.1)]) AG39 (Tv.o (hp0.bel hB242)) (Tv.g (hp0.bel hB242) hg250) (by rw [← Tv.ticks (hp0.bel hB242) hg250]; rfl) rfl) rfl ?_
          refine wl_step rfl (q_alloc (cs := #[.int .i64 0, .slice none 0 0, .slice none 0 0]) ZR39 rfl hS243) ?_
          rintro _ w251 ⟨g252, rfl, hS254, hE253⟩
          have hB256 := hB242.trans (Ext.stp hE253 hS243.base)
          refine wl_val (g_assign (v := .int .i64 v236) rfl) rfl ?_
          refine wl_step rfl (q_storeB (i := 0) (bs' := #[.int .i64 (p0[(Int.toNat v236)]!.1), .slice ((y0[(Int.toNat v236)]!).2.1.1) ((y0[(Int.toNat v236)]!).2.1.2.2.length) ((y0[(Int.toNat v236)]!).2.1.2.1), .slice ((y0[(Int.toNat v236)]!).2.2.1) ((y0[(Int.toNat v236)]!).2.2.2.2.length) ((y0[(Int.toNat v236)]!).2.2.2.1)]) (vs := [.int .i64 (p0[(Int.toNat v236)]!.1), .slice ((y0[(Int.toNat v236)]!).2.1.1) ((y0[(Int.toNat v236)]!).2.1.2.2.length) ((y0[(Int.toNat v236)]!).2.1.2.1), .slice ((y0[(Int.toNat v236)]!).2.2.1) ((y0[(Int.toNat v236)]!).2.2.2.2.length) ((y0[(Int.toNat v236)]!).2.2.2.1)]) hS254 AG39.sz rfl rfl rfl (by simp [Value.oneCell']) (Nat.le_of_ble_eq_true rfl) rfl) ?_
          rintro _ w257 ⟨rfl, hS258, hb259⟩
          have hB260 := hB256.trans hb259
          refine wl_nil ?_
          refine hK249 _ _ ?_
          refine w_seq fun K261 hK261 => ?_
          refine w_region ?_
          refine wl_val (q_loadBS (bs := #[.int .i64 (p0[(Int.toNat v236)]!.1), .slice ((y0[(Int.toNat v236)]!).2.1.1) ((y0[(Int.toNat v236)]!).2.1.2.2.length) ((y0[(Int.toNat v236)]!).2.1.2.1), .slice ((y0[(Int.toNat v236)]!).2.2.1) ((y0[(Int.toNat v236)]!).2.2.2.2.length) ((y0[(Int.toNat v236)]!).2.2.2.1)]) hS258.g0 AG39 rfl) rfl ?_
          refine wl_val (g_move (v := .int .i64 v236) rfl) rfl ?_
          refine wl_val (g_move (v := .int .i64 v223) rfl) rfl ?_
          refine wl_step rfl (g_call (vs := #[.agg #[.int .i64 (p0[(Int.toNat v236)]!.1), .slice ((y0[(Int.toNat v236)]!).2.1.1) ((y0[(Int.toNat v236)]!).2.1.2.2.length) ((y0[(Int.toNat v236)]!).2.1.2.1), .slice ((y0[(Int.toNat v236)]!).2.2.1) ((y0[(Int.toNat v236)]!).2.2.2.2.length) ((y0[(Int.toNat v236)]!).2.2.2.1)], .int .i64 v236, .int .i64 v223]) CF64 (args3 rfl rfl rfl) (m_impl_isNext_fn (p0[(Int.toNat v236)]!.1, p0[(Int.toNat v236)]!.2.1, p0[(Int.toNat v236)]!.2.2) ((Tv.rowC0 (hp0.bel hB260) hg250).up hS258) ((Tv.rowC1 (hp0.bel hB260) hg250).up hS258) v236 v223 hm)) ?_
          rintro _ w262 ⟨r265, hm, rfl, hE263⟩
          have hB266 := hB260.trans (Ext.stp hE263 hS258.base)
          have hS267 := hS258.ext hE263
          refine wl_nil ?_
          refine hK261 _ _ ?_
          refine w_condI (p := r265 = true) (b := r265) rfl Iff.rfl (fun h268 => ?_) (fun h268 => ?_)
          · replace hm := hm.1 h268
            refine w_seq fun K269 hK269 => ?_
            refine w_region ?_
            refine wl_val (g_move (v := .slice a220 n221 c222) rfl) rfl ?_
            refine wl_val (g_move (v := .int .i64 v236) rfl) rfl ?_
            refine wl_step rfl (q_lit1 (y := (v236 : Int)) SL24 rfl rfl (by decide) hS267) ?_
            rintro _ w270 ⟨a271, rfl, hS273, hE272⟩
            have hB275 := hB266.trans (Ext.stp hE272 hS267.base)
            have hS281 := hS273.f2
            obtain ⟨hg282, hm⟩ := hm
            refine wl_step rfl (q_append SL24 rfl rfl hS281 (oS.vw hS281.g1) hg282 (by decide)) ?_
            rintro _ w276 ⟨a277, c278, rfl, hS280, hb279⟩
            have hB283 := hB275.trans hb279
            refine wl_val (g_assign (v := .slice a277 (n221 + 1) c278) rfl) rfl ?_
            refine wl_nil ?_
            refine hK269 _ _ ?_
            refine w_seq fun K284 hK284 => ?_
            refine w_region ?_
            refine wl_val (g_move (v := .int .i64 v223) rfl) rfl ?_
            refine wl_val (g_move (v := .int .i64 v236) rfl) rfl ?_
            obtain ⟨hg285, hm⟩ := hm
            obtain ⟨hg286, hm⟩ := hm
            refine wl_val (g_shl (a := 1) (b := v236) rfl rfl hg285 hg286) rfl ?_
            obtain ⟨hg287, hm⟩ := hm
            refine wl_val (g_bor (a := v223) (b := (sal 1 v236)) rfl rfl hg287) rfl ?_
            refine wl_val (g_assign (v := .int .i64 (bor v223 (sal 1 v236))) rfl) rfl ?_
            refine wl_nil ?_
            refine hK284 _ _ ?_
            refine w_exit ?_
            have hS288 := hS280.f1
            have hS289 := hS288.tail
            have hS290 := hS289.f1
            have hS291 := hS290.tail
            exact ⟨((x219 ++ ([v236])), a277, (n221 + 1), c278, (bor v223 (sal 1 v236))), hm.2, ⟨rfl, rfl, rfl, trivial⟩, ⟨hm.1, hB283, hS291⟩⟩
          · replace hm := hm.2 h268
            refine w_skip ?_
            refine hK248 _ _ ?_
            refine w_region ?_
            obtain ⟨hg292, hm⟩ := hm
            refine wl_val (g_add (a := v236) (b := 1) rfl rfl hg292) rfl ?_
            refine wl_val (g_move (v := .int .i64 (v236 + 1)) rfl) rfl ?_
            refine wl_nil ?_
            have hS293 := hS267.tail
            exact ⟨((v236 + 1)), hm.2, ⟨rfl, rfl, rfl, rfl, rfl, rfl, trivial⟩, ⟨hm.1, hB266, hS293⟩⟩
        · replace hm := hm.2 h247
          refine w_exit ?_
          exact ⟨(x219, a220, n221, c222, v223), hm.2, ⟨rfl, rfl, rfl, trivial⟩, ⟨hm.1, hB242, hS243⟩⟩
      · replace hm := hm.2 h234
        refine w_exit ?_
        exact ⟨(x219, a220, n221, c222), ⟨rfl, trivial⟩, ⟨hm, hB229, hS230⟩⟩
    · rintro ⟨x214, a215, n216, c217⟩ b_ w294 ⟨hm, hB295, hS296⟩
      show Wp _ _ _ _ (upds b_ [(3, .slice a215 n216 c217)]) w294
      refine w_seq fun K297 hK297 => ?_
      refine w_region ?_
      refine wl_val (g_move (v := .slice a215 n216 c217) rfl) rfl ?_
      refine wl_val (g_assign (v := .slice a215 n216 c217) rfl) rfl ?_
      refine wl_nil ?_
      refine hK297 _ _ ?_
      refine w_ret ?_
      repeat first | with_reducible refine q_then ?_ | with_reducible refine q_block ?_
      exact ret1 rfl (by decide) ⟨_, _, _, _, hm, rfl, toExt hB295, hS296⟩

theorem m_impl_FreeCues_fn {w : World} {a0 : Option Addr} {n0 c0 : Nat} {y0 : List CueD} {p0 : List CueC} {Q : (List Int) → Prop} (hp0 : Tv w.heap.size w a0 n0 c0 y0 p0) (hm : m_impl_FreeCues p0 Q) :
    Fn Try.prog 30 #[.slice a0 n0 c0] w (fun v w' => ∃ (r0 : List Int) (a0 : Option Addr) (n0 c0 : Nat), Q r0 ∧ v = .slice a0 n0 c0 ∧ Ext w w' ∧ Sep w' w.heap.size [oS 3 a0 n0 c0 r0]) := by
  unfold m_impl_FreeCues at hm
  have hB0 := Below.refl w.heap.size w
  have hS0 : Sep w w.heap.size [] := Sep.nil (Nat.le_refl _)
  refine fn_of_wp Try.func30 rfl (by kernel_rfl) (Nat.le_of_ble_eq_true rfl) ?_
  refine w_seq fun K1 hK1 => ?_
  refine w_region ?_
  refine wl_val (g_assign (v := .slice none 0 0) rfl) rfl ?_
  refine wl_nil ?_
  refine hK1 _ _ ?_
  refine w_seq fun K2 hK2 => ?_
  refine w_seq fun K3 hK3 => ?_
  refine w_region ?_
  refine wl_val (g_move (v := .slice a0 n0 c0) rfl) rfl ?_
  refine wl_step rfl (g_call (vs := #[.slice a0 n0 c0]) CF29 (args1 rfl) (m_impl_CuesOk_fn ((hp0.bel hB0).up hS0) hm)) ?_
  rintro _ w4 ⟨r7, hm, rfl, hE5⟩
  have hB8 := hB0.trans (Ext.stp hE5 hS0.base)
  have hS9 := hS0.ext hE5
  refine wl_val (g_not (a := r7) rfl) rfl ?_
  refine wl_nil ?_
  refine hK3 _ _ ?_
  refine w_condI (p := ¬ (r7 = true)) (b := (!r7)) rfl (i_not Iff.rfl) (fun h10 => ?_) (fun h10 => ?_)
  · replace hm := hm.1 h10
    refine w_seq fun K11 hK11 => ?_
    refine w_region ?_
    refine wl_val (g_assign (v := .slice none 0 0) rfl) rfl ?_
    refine wl_nil ?_
    refine hK11 _ _ ?_
    refine w_ret ?_
    have hS12 := hS9.nilS (α := Int) (E := 3)
    repeat first | with_reducible refine q_then ?_ | with_reducible refine q_block ?_
    exact ret1 rfl (by decide) ⟨_, _, _, _, hm, rfl, toExt hB8, hS12⟩
  · replace hm := hm.2 h10
    refine w_skip ?_
    refine hK2 _ _ ?_
    refine w_seq fun K14 hK14 => ?_
    refine w_region ?_
    refine wl_step rfl (q_lit0 (α := Int) rfl SL24 hS9) ?_
    rintro _ w15 ⟨a16, rfl, hS18, hE17⟩
    have hB20 := hB8.trans (Ext.stp hE17 hS9.base)
    refine wl_val (g_assign (v := .slice a16 0 0) rfl) rfl ?_
    refine wl_nil ?_
    refine hK14 _ _ ?_
    refine w_cut (σ := List Int × Option Addr × Nat × Nat) (fun ⟨x116, a117, n118, c119⟩ => [(3, .slice a117 n118 c119)]) (fun ⟨x116, a117, n118, c119⟩ w' => m_impl_FreeCues_K0 Q x116 ∧ Below w.heap.size w w' ∧ Sep w' w.heap.size [oS 3 a117 n118 c119 (x116 : List Int)]) ?_ ?_
    · refine w_seq fun K121 hK121 => ?_
      refine w_region ?_
      refine wl_val (g_move (v := .slice a0 n0 c0) rfl) rfl ?_
      refine wl_val (q_len SL26 rfl (Tv.len (hp0.bel hB20))) rfl ?_
      refine wl_val (g_move (v := .int .i64 0) rfl) rfl ?_
      refine wl_nil ?_
      refine hK121 _ _ ?_
      refine w_block ?_
      obtain ⟨I127, μ128, h0129, hr130⟩ := hm
      refine w_for (σ := List Int × Option Addr × Nat × Nat × Int) (fun ⟨x122, a123, n124, c125, v126⟩ => [(3, .slice a123 n124 c125), (10, .slice a0 n0 c0), (11, .int .i64 (p0.length : Int)), (12, .int .i64 v126)]) (fun ⟨x122, a123, n124, c125, v126⟩ w' => I127 x122 v126 ∧ Below w.heap.size w w' ∧ Sep w' w.heap.size [oS 3 a123 n124 c125 (x122 : List Int)]) (fun ⟨x122, a123, n124, c125, v126⟩ => μ128 x122 v126) ([], a16, 0, 0, 0) ⟨rfl, rfl, rfl, rfl, trivial⟩ ⟨h0129, hB20, hS18⟩ ?_
      rintro ⟨x122, a123, n124, c125, v126⟩ b_ w131 ⟨hi_, hB132, hS133⟩
      show Wp _ _ _ _ (upds b_ [(3, .slice a123 n124 c125), (10, .slice a0 n0 c0), (11, .int .i64 (p0.length : Int)), (12, .int .i64 v126)]) w131
      have hm := hr130 x122 v126 hi_
      refine w_seq fun K135 hK135 => ?_
      refine w_region ?_
      refine wl_val (g_lss (a := v126) (b := (p0.length : Int)) rfl rfl) rfl ?_
      refine wl_nil ?_
      refine hK135 _ _ ?_
      refine w_seq fun K136 hK136 => ?_
      refine w_condI (p := v126 < (p0.length : Int)) (b := (decide (v126 < (p0.length : Int)))) rfl decide_eq_true_iff (fun h137 => ?_) (fun h137 => ?_)
      · replace hm := hm.1 h137
        refine w_skip ?_
        refine hK136 _ _ ?_
        refine w_seq fun K138 hK138 => ?_
        refine w_block ?_
        refine w_seq fun K139 hK139 => ?_
        refine w_region ?_
        refine wl_val (g_move (v := .int .i64 v126) rfl) rfl ?_
        obtain ⟨hg140, hm⟩ := hm
        refine wl_val (q_index (i := v126) SL26 rfl rfl (Tv.o (hp0.bel hB132)) (Tv.g (hp0.bel hB132) hg140)) rfl ?_
        refine wl_val (q_loadS (i := v126) (cs := [.int .i64 (p0[(Int.toNat v126)]!.1), .slice ((y0[(Int.toNat v126)]!).2.1.1) ((y0[(Int.toNat v126)]!).2.1.2.2.length) ((y0[(Int.toNat v126)]!).2.1.2.1), .slice ((y0[(Int.toNat v126)]!).2.2.1) ((y0[(Int.toNat v126)]!).2.2.2.2.length) ((y0[(Int.toNat v126)]!).2.2.2.1)]) AG39 (Tv.o (hp0.bel hB132)) (Tv.g (hp0.bel hB132) hg140) (by rw [← Tv.ticks (hp0.bel hB132) hg140]; rfl) rfl) rfl ?_
        refine wl_step rfl (q_alloc (cs := #[.int .i64 0, .slice none 0 0, .slice none 0 0]) ZR39 rfl hS133) ?_
        rintro _ w141 ⟨g142, rfl, hS144, hE143⟩
        have hB146 := hB132.trans (Ext.stp hE143 hS133.base)
        refine wl_val (g_assign (v := .int .i64 v126) rfl) rfl ?_
        refine wl_step rfl (q_storeB (i := 0) (bs' := #[.int .i64 (p0[(Int.toNat v126)]!.1), .slice ((y0[(Int.toNat v126)]!).2.1.1) ((y0[(Int.toNat v126)]!).2.1.2.2.length) ((y0[(Int.toNat v126)]!).2.1.2.1), .slice ((y0[(Int.toNat v126)]!).2.2.1) ((y0[(Int.toNat v126)]!).2.2.2.2.length) ((y0[(Int.toNat v126)]!).2.2.2.1)]) (vs := [.int .i64 (p0[(Int.toNat v126)]!.1), .slice ((y0[(Int.toNat v126)]!).2.1.1) ((y0[(Int.toNat v126)]!).2.1.2.2.length) ((y0[(Int.toNat v126)]!).2.1.2.1), .slice ((y0[(Int.toNat v126)]!).2.2.1) ((y0[(Int.toNat v126)]!).2.2.2.2.length) ((y0[(Int.toNat v126)]!).2.2.2.1)]) hS144 AG39.sz rfl rfl rfl (by simp [Value.oneCell']) (Nat.le_of_ble_eq_true rfl) rfl) ?_
        rintro _ w147 ⟨rfl, hS148, hb149⟩
        have hB150 := hB146.trans hb149
        refine wl_nil ?_
        refine hK139 _ _ ?_
        refine w_seq fun K151 hK151 => ?_
        refine w_region ?_
        refine wl_val (g_fieldAddr (q := (⟨g142, 0, none⟩ : Addr)) FL39_1 ON24 rfl) rfl ?_
        refine wl_val (q_loadB (i := 1) (bs := #[.int .i64 (p0[(Int.toNat v126)]!.1), .slice ((y0[(Int.toNat v126)]!).2.1.1) ((y0[(Int.toNat v126)]!).2.1.2.2.length) ((y0[(Int.toNat v126)]!).2.1.2.1), .slice ((y0[(Int.toNat v126)]!).2.2.1) ((y0[(Int.toNat v126)]!).2.2.2.2.length) ((y0[(Int.toNat v126)]!).2.2.2.1)]) hS148.g0 ON24 rfl rfl) rfl ?_
        refine wl_val (q_len SL24 rfl (Vw.len (Tv.rowC0 (hp0.bel hB150) hg140))) rfl ?_
        refine wl_val (g_eql (a := ((p0[(Int.toNat v126)]!.2.1).length : Int)) (b := 0) rfl rfl) rfl ?_
        refine wl_nil ?_
        refine hK151 _ _ ?_
        refine w_condI (p := ((p0[(Int.toNat v126)]!.2.1).length : Int) = 0) (b := (decide (((p0[(Int.toNat v126)]!.2.1).length : Int) = 0))) rfl decide_eq_true_iff (fun h152 => ?_) (fun h152 => ?_)
        · replace hm := hm.1 h152
          refine w_region ?_
          refine wl_val (g_move (v := .slice a123 n124 c125) rfl) rfl ?_
          refine wl_val (g_move (v := .int .i64 v126) rfl) rfl ?_
          refine wl_step rfl (q_lit1 (y := (v126 : Int)) SL24 rfl rfl (by decide) hS148) ?_
          rintro _ w153 ⟨a154, rfl, hS156, hE155⟩
          have hB158 := hB150.trans (Ext.stp hE155 hS148.base)
          have hS164 := hS156.f2
          obtain ⟨hg165, hm⟩ := hm
          refine wl_step rfl (q_append SL24 rfl rfl hS164 (oS.vw hS164.g1) hg165 (by decide)) ?_
          rintro _ w159 ⟨a160, c161, rfl, hS163, hb162⟩
          have hB166 := hB158.trans hb162
          refine wl_val (g_assign (v := .slice a160 (n124 + 1) c161) rfl) rfl ?_
          refine wl_nil ?_
          refine hK138 _ _ ?_
          refine w_region ?_
          obtain ⟨hg167, hm⟩ := hm
          refine wl_val (g_add (a := v126) (b := 1) rfl rfl hg167) rfl ?_
          refine wl_val (g_move (v := .int .i64 (v126 + 1)) rfl) rfl ?_
          refine wl_nil ?_
          have hS168 := hS163.f1
          have hS169 := hS168.tail
          have hS170 := hS169.f1
          have hS171 := hS170.tail
          exact ⟨((x122 ++ ([v126])), a160, (n124 + 1), c161, (v126 + 1)), hm.2, ⟨rfl, rfl, rfl, rfl, trivial⟩, ⟨hm.1, hB166, hS171⟩⟩
        · replace hm := hm.2 h152
          refine w_skip ?_
          refine hK138 _ _ ?_
          refine w_region ?_
          obtain ⟨hg172, hm⟩ := hm
          refine wl_val (g_add (a := v126) (b := 1) rfl rfl hg172) rfl ?_
          refine wl_val (g_move (v := .int .i64 (v126 + 1)) rfl) rfl ?_
          refine wl_nil ?_
          have hS173 := hS148.tail
          exact ⟨(x122, a123, n124, c125, (v126 + 1)), hm.2, ⟨rfl, rfl, rfl, rfl, trivial⟩, ⟨hm.1, hB150, hS173⟩⟩
      · replace hm := hm.2 h137
        refine w_exit ?_
        exact ⟨(x122, a123, n124, c125), ⟨rfl, trivial⟩, ⟨hm, hB132, hS133⟩⟩
    · rintro ⟨x116, a117, n118, c119⟩ b_ w174 ⟨hm, hB175, hS176⟩
      show Wp _ _ _ _ (upds b_ [(3, .slice a117 n118 c119)]) w174
      refine w_seq fun K177 hK177 => ?_
      refine w_region ?_
      refine wl_val (g_move (v := .slice a117 n118 c119) rfl) rfl ?_
      refine wl_val (g_assign (v := .slice a117 n118 c119) rfl) rfl ?_
      refine wl_nil ?_
      refine hK177 _ _ ?_
      refine w_ret ?_
      repeat first | with_reducible refine q_then ?_ | with_reducible refine q_block ?_
      exact ret1 rfl (by decide) ⟨_, _, _, _, hm, rfl, toExt hB175, hS176⟩

theorem m_impl_WaitsFor_fn {w : World} {a0 : Option Addr} {n0 c0 : Nat} {y0 : List CueD} {p0 : List CueC} {Q : Bool → Prop} (hp0 : Tv w.heap.size w a0 n0 c0 y0 p0) (p1 : Int) (p2 : Int) (hm : m_impl_WaitsFor p0 p1 p2 Q) :
    Fn Try.prog 31 #[.slice a0 n0 c0, .int .i64 p1, .int .i64 p2] w (fun v w' => ∃ (r0 : Bool), Q r0 ∧ v = .bool r0 ∧ Ext w w') := by
  unfold m_impl_WaitsFor at hm
  have hB0 := Below.refl w.heap.size w
  have hS0 : Sep w w.heap.size [] := Sep.nil (Nat.le_refl _)
  refine fn_of_wp Try.func31 rfl (by kernel_rfl) (Nat.le_of_ble_eq_true rfl) ?_
  refine w_seq fun K1 hK1 => ?_
  refine w_region ?_
  refine wl_val (g_assign (v := .bool false) rfl) rfl ?_
  refine wl_nil ?_
  refine hK1 _ _ ?_
  refine w_seq fun K2 hK2 => ?_
  refine w_region ?_
  refine wl_val (g_move (v := .slice a0 n0 c0) rfl) rfl ?_
  refine wl_step rfl (g_call (vs := #[.slice a0 n0 c0]) CF29 (args1 rfl) (m_impl_CuesOk_fn ((hp0.bel hB0).up hS0) hm)) ?_
  rintro _ w3 ⟨r6, hm, rfl, hE4⟩
  have hB7 := hB0.trans (Ext.stp hE4 hS0.base)
  have hS8 := hS0.ext hE4
  refine wl_val (g_move (v := .bool r6) rfl) rfl ?_
  refine wl_guard (c := r6 = true) (val := .int .i64 p1) (b := (r6 == true)) (gv_some rfl rfl rfl) beq_iff_eq (fun hc9 => ?_) ?_
  · have hcq0 : r6 = true := (Iff.rfl.mp hc9)
    exact g_move (v := .int .i64 p1) rfl
  refine wl_guard (c := r6 = true) (val := .slice a0 n0 c0) (b := (r6 == true)) (gv_some rfl rfl rfl) beq_iff_eq (fun hc10 => ?_) ?_
  · have hcq0 : r6 = true := (Iff.rfl.mp hc10)
    exact g_move (v := .slice a0 n0 c0) rfl
  refine wl_guard (c := r6 = true) (val := .int .i64 (p0.length : Int)) (b := (r6 == true)) (gv_some rfl rfl rfl) beq_iff_eq (fun hc11 => ?_) ?_
  · have hcq0 : r6 = true := (Iff.rfl.mp hc11)
    exact q_len SL26 (if_pos hc11) (Tv.len (hp0.bel hB7))
  obtain ⟨hg13, hm⟩ := hm
  refine wl_guard (c := r6 = true) (val := .int .i64 ((p0.length : Int) - 1)) (b := (r6 == true)) (gv_some rfl rfl rfl) beq_iff_eq (fun hc12 => ?_) ?_
  · have hcq0 : r6 = true := (Iff.rfl.mp hc12)
    exact g_sub (a := (p0.length : Int)) (b := 1) (if_pos hc12) rfl (hg13 hcq0)
  obtain ⟨r15, hk16, hm⟩ := hm
  refine wl_guardE (X := Ext) (c := r6 = true) (val := .bool r15) (Ext.refl _) (b := (r6 == true)) (gv_some rfl rfl rfl) beq_iff_eq (fun hc14 => ?_) (fun w17 hE18 => ?_)
  · have hcq0 : r6 = true := (Iff.rfl.mp hc14)
    exact (g_call (vs := #[.int .i64 p1, .int .i64 0, .int .i64 ((p0.length : Int) - 1)]) CF65 (args3 (if_pos hc14) rfl (if_pos hc14)) ((m_impl_within_fn p1 0 ((p0.length : Int) - 1) (hk16 hcq0)).mono fun _ _ ⟨_, h1, h2, h3⟩ => ⟨by rw [h2, h1], h3⟩))
  have hB19 := hB7.trans (Ext.stp hE18 hS8.base)
  have hS20 := hS8.ext hE18
  refine wl_val (g_pick_and (b := r6) (q := r15) rfl rfl) rfl ?_
  refine wl_val (g_move (v := .bool (r6 && r15)) rfl) rfl ?_
  refine wl_guard (c := (r6 && r15) = true) (val := .int .i64 p2) (b := ((r6 && r15) == true)) (gv_some rfl rfl rfl) beq_iff_eq (fun hc21 => ?_) ?_
  · have hcq1 : ((r6 = true) ∧ (r15 = true)) := ((i_and Iff.rfl Iff.rfl).mp hc21)
    exact g_move (v := .int .i64 p2) rfl
  refine wl_guard (c := (r6 && r15) = true) (val := .slice a0 n0 c0) (b := ((r6 && r15) == true)) (gv_some rfl rfl rfl) beq_iff_eq (fun hc22 => ?_) ?_
  · have hcq1 : ((r6 = true) ∧ (r15 = true)) := ((i_and Iff.rfl Iff.rfl).mp hc22)
    exact g_move (v := .slice a0 n0 c0) rfl
  refine wl_guard (c := (r6 && r15) = true) (val := .int .i64 (p0.length : Int)) (b := ((r6 && r15) == true)) (gv_some rfl rfl rfl) beq_iff_eq (fun hc23 => ?_) ?_
  · have hcq1 : ((r6 = true) ∧ (r15 = true)) := ((i_and Iff.rfl Iff.rfl).mp hc23)
    exact q_len SL26 (if_pos hc23) (Tv.len (hp0.bel hB19))
  obtain ⟨hg25, hm⟩ := hm
  refine wl_guard (c := (r6 && r15) = true) (val := .int .i64 ((p0.length : Int) - 1)) (b := ((r6 && r15) == true)) (gv_some rfl rfl rfl) beq_iff_eq (fun hc24 => ?_) ?_
  · have hcq1 : ((r6 = true) ∧ (r15 = true)) := ((i_and Iff.rfl Iff.rfl).mp hc24)
    exact g_sub (a := (p0.length : Int)) (b := 1) (if_pos hc24) rfl (hg25 hcq1)
  obtain ⟨r27, hk28, hm⟩ := hm
  refine wl_guardE (X := Ext) (c := (r6 && r15) = true) (val := .bool r27) (Ext.refl _) (b := ((r6 && r15) == true)) (gv_some rfl rfl rfl) beq_iff_eq (fun hc26 => ?_) (fun w29 hE30 => ?_)
  · have hcq1 : ((r6 = true) ∧ (r15 = true)) := ((i_and Iff.rfl Iff.rfl).mp hc26)
    exact (g_call (vs := #[.int .i64 p2, .int .i64 0, .int .i64 ((p0.length : Int) - 1)]) CF65 (args3 (if_pos hc26) rfl (if_pos hc26)) ((m_impl_within_fn p2 0 ((p0.length : Int) - 1) (hk28 hcq1)).mono fun _ _ ⟨_, h1, h2, h3⟩ => ⟨by rw [h2, h1], h3⟩))
  have hB31 := hB19.trans (Ext.stp hE30 hS20.base)
  have hS32 := hS20.ext hE30
  refine wl_val (g_pick_and (b := (r6 && r15)) (q := r27) rfl rfl) rfl ?_
  refine wl_val (g_move (v := .bool ((r6 && r15) && r27)) rfl) rfl ?_
  by_cases hc33 : ((r6 && r15) && r27) = true
  · replace hm := hm.1 ((i_and (i_and Iff.rfl Iff.rfl) Iff.rfl).mp hc33)
    refine wl_valT (g_move (v := .slice a0 n0 c0) rfl) (gv_T (gv_some rfl rfl rfl) hc33) ?_
    refine wl_stepT (gv_T (gv_some rfl rfl rfl) hc33) (g_call (vs := #[.slice a0 n0 c0]) CF60 (args1 rfl) (m_impl_waits_fn ((hp0.bel hB31).up hS32) hm)) ?_
    rintro _ w34 ⟨r37, a38, n39, c40, y41, hm, he42, rfl, hE35, hN36⟩
    have hS46 := hS32.call2 hE35 hN36
    have hB47 := hB31.trans (Ext.stp hE35 hS32.base)
    refine wl_valT (g_move (v := .int .i64 p1) rfl) (gv_T (gv_some rfl rfl rfl) hc33) ?_
    obtain ⟨hg48, hm⟩ := hm
    refine wl_valT (q_index (i := p1) SL54 rfl rfl (Tv.o (oT.vw hS46.g0 hS46.g1 he42)) (Tv.g (oT.vw hS46.g0 hS46.g1 he42) hg48)) (gv_T (gv_some rfl rfl rfl) hc33) ?_
    refine wl_valT (q_load (i := p1) (v := .slice ((y41[(Int.toNat p1)]!).1) ((y41[(Int.toNat p1)]!).2.2.length) ((y41[(Int.toNat p1)]!).2.1)) ON56 (Tv.o (oT.vw hS46.g0 hS46.g1 he42)) (Tv.g (oT.vw hS46.g0 hS46.g1 he42) hg48) rfl rfl) (gv_T (gv_some rfl rfl rfl) hc33) ?_
    refine wl_valT (g_move (v := .int .i64 p2) rfl) (gv_T (gv_some rfl rfl rfl) hc33) ?_
    obtain ⟨hg49, hm⟩ := hm
    refine wl_valT (q_index (i := p2) SL56 rfl rfl (Tv.row (oT.vw hS46.g0 hS46.g1 he42) hg48) hg49) (gv_T (gv_some rfl rfl rfl) hc33) ?_
    refine wl_valT (q_load (i := p2) (v := .bool ((r37[(Int.toNat p1)]!)[(Int.toNat p2)]!)) ON4 (Tv.row (oT.vw hS46.g0 hS46.g1 he42) hg48) hg49 rfl rfl) (gv_T (gv_some rfl rfl rfl) hc33) ?_
    refine wl_val (g_pickT (b := ((r6 && r15) && r27)) rfl hc33 rfl) rfl ?_
    refine wl_val (g_assign (v := .bool ((r37[(Int.toNat p1)]!)[(Int.toNat p2)]!)) rfl) rfl ?_
    refine wl_nil ?_
    refine hK2 _ _ ?_
    refine w_ret ?_
    repeat first | with_reducible refine q_then ?_ | with_reducible refine q_block ?_
    exact ret1 rfl (by decide) ⟨_, hm, rfl, toExt hB47⟩
  · have hc33n := b_F hc33
    replace hm := hm.2 (i_neg (i_and (i_and Iff.rfl Iff.rfl) Iff.rfl) hc33n)
    refine wl_skipF (gv_F (gv_some rfl rfl rfl) hc33n) ?_
    refine wl_skipF (gv_F (gv_some rfl rfl rfl) hc33n) ?_
    refine wl_skipF (gv_F (gv_some rfl rfl rfl) hc33n) ?_
    refine wl_skipF (gv_F (gv_some rfl rfl rfl) hc33n) ?_
    refine wl_skipF (gv_F (gv_some rfl rfl rfl) hc33n) ?_
    refine wl_skipF (gv_F (gv_some rfl rfl rfl) hc33n) ?_
    refine wl_skipF (gv_F (gv_some rfl rfl rfl) hc33n) ?_
    refine wl_skipF (gv_F (gv_some rfl rfl rfl) hc33n) ?_
    refine wl_val (g_pickF (b := ((r6 && r15) && r27)) rfl hc33n rfl) rfl ?_
    refine wl_val (g_assign (v := .bool false) rfl) rfl ?_
    refine wl_nil ?_
    refine hK2 _ _ ?_
    refine w_ret ?_
    repeat first | with_reducible refine q_then ?_ | with_reducible refine q_block ?_
    exact ret1 rfl (by decide) ⟨_, hm, rfl, toExt hB31⟩

theorem m_laws_has_fn {w : World} {a0 : Option Addr} {n0 c0 : Nat} {p0 : List Int} {Q : Bool → Prop} (hp0 : Vw w.heap.size w a0 n0 c0 p0) (p1 : Int) (hm : m_laws_has p0 p1 Q) :
    Fn Try.prog 32 #[.slice a0 n0 c0, .int .i64 p1] w (fun v w' => ∃ (r0 : Bool), Q r0 ∧ v = .bool r0 ∧ Ext w w') := by
  unfold m_laws_has at hm
  have hB0 := Below.refl w.heap.size w
  have hS0 : Sep w w.heap.size [] := Sep.nil (Nat.le_refl _)
  refine fn_of_wp Try.func32 rfl (by kernel_rfl) (Nat.le_of_ble_eq_true rfl) ?_
  refine w_seq fun K1 hK1 => ?_
  refine w_region ?_
  refine wl_val (g_assign (v := .bool false) rfl) rfl ?_
  refine wl_nil ?_
  refine hK1 _ _ ?_
  refine w_cut (σ := Unit) (fun _ => []) (fun _ w' => m_laws_has_K0 Q ∧ Below w.heap.size w w' ∧ Sep w' w.heap.size []) ?_ ?_
  · refine w_seq fun K3 hK3 => ?_
    refine w_region ?_
    refine wl_val (g_assign (v := .int .i64 0) rfl) rfl ?_
    refine wl_nil ?_
    refine hK3 _ _ ?_
    refine w_block ?_
    obtain ⟨I22, μ23, h024, hr25⟩ := hm
    refine w_for (σ := Int) (fun v21 => [(0, .slice a0 n0 c0), (1, .int .i64 p1), (5, .int .i64 v21)]) (fun v21 w' => I22 v21 ∧ Below w.heap.size w w' ∧ Sep w' w.heap.size []) (fun v21 => μ23 v21) (0) ⟨rfl, rfl, rfl, trivial⟩ ⟨h024, hB0, hS0⟩ ?_
    rintro v21 b_ w26 ⟨hi_, hB27, hS28⟩
    show Wp _ _ _ _ (upds b_ [(0, .slice a0 n0 c0), (1, .int .i64 p1), (5, .int .i64 v21)]) w26
    have hm := hr25 v21 hi_
    refine w_seq fun K30 hK30 => ?_
    refine w_seq fun K31 hK31 => ?_
    refine w_region ?_
    refine wl_val (g_move (v := .int .i64 v21) rfl) rfl ?_
    refine wl_val (g_move (v := .slice a0 n0 c0) rfl) rfl ?_
    refine wl_val (q_len SL24 rfl (Vw.len (hp0.bel hB27))) rfl ?_
    refine wl_val (g_lss (a := v21) (b := (p0.length : Int)) rfl rfl) rfl ?_
    refine wl_nil ?_
    refine hK31 _ _ ?_
    refine w_condI (p := v21 < (p0.length : Int)) (b := (decide (v21 < (p0.length : Int)))) rfl decide_eq_true_iff (fun h32 => ?_) (fun h32 => ?_)
    · replace hm := hm.1 h32
      refine w_skip ?_
      refine hK30 _ _ ?_
      refine w_seq fun K33 hK33 => ?_
      refine w_block ?_
      refine w_seq fun K34 hK34 => ?_
      refine w_region ?_
      refine wl_val (g_move (v := .slice a0 n0 c0) rfl) rfl ?_
      refine wl_val (g_move (v := .int .i64 v21) rfl) rfl ?_
      obtain ⟨hg35, hm⟩ := hm
      refine wl_val (q_index (i := v21) SL24 rfl rfl (hp0.bel hB27) hg35) rfl ?_
      refine wl_val (q_load (i := v21) (v := .int .i64 (p0[(Int.toNat v21)]!)) ON3 (hp0.bel hB27) hg35 rfl rfl) rfl ?_
      refine wl_val (g_move (v := .int .i64 p1) rfl) rfl ?_
      refine wl_val (g_eql (a := p0[(Int.toNat v21)]!) (b := p1) rfl rfl) rfl ?_
      refine wl_nil ?_
      refine hK34 _ _ ?_
      refine w_condI (p := p0[(Int.toNat v21)]! = p1) (b := (decide (p0[(Int.toNat v21)]! = p1))) rfl decide_eq_true_iff (fun h36 => ?_) (fun h36 => ?_)
      · replace hm := hm.1 h36
        refine w_seq fun K37 hK37 => ?_
        refine w_region ?_
        refine wl_val (g_assign (v := .bool true) rfl) rfl ?_
        refine wl_nil ?_
        refine hK37 _ _ ?_
        refine w_ret ?_
        repeat first | with_reducible refine q_then ?_ | with_reducible refine q_block ?_
        exact ret1 rfl (by decide) ⟨_, hm, rfl, toExt hB27⟩
      · replace hm := hm.2 h36
        refine w_skip ?_
        refine hK33 _ _ ?_
        refine w_region ?_
        refine wl_val (g_move (v := .int .i64 v21) rfl) rfl ?_
        obtain ⟨hg38, hm⟩ := hm
        refine wl_val (g_add (a := v21) (b := 1) rfl rfl hg38) rfl ?_
        refine wl_val (g_assign (v := .int .i64 (v21 + 1)) rfl) rfl ?_
        refine wl_nil ?_
        exact ⟨((v21 + 1)), hm.2, ⟨rfl, rfl, rfl, trivial⟩, ⟨hm.1, hB27, hS28⟩⟩
    · replace hm := hm.2 h32
      refine w_exit ?_
      exact ⟨(), trivial, ⟨hm, hB27, hS28⟩⟩
  · rintro _ b_ w39 ⟨hm, hB40, hS41⟩
    show Wp _ _ _ _ (upds b_ []) w39
    refine w_seq fun K42 hK42 => ?_
    refine w_region ?_
    refine wl_val (g_assign (v := .bool false) rfl) rfl ?_
    refine wl_nil ?_
    refine hK42 _ _ ?_
    refine w_ret ?_
    repeat first | with_reducible refine q_then ?_ | with_reducible refine q_block ?_
    exact ret1 rfl (by decide) ⟨_, hm, rfl, toExt hB40⟩

end Go.Proofs.Ythmemoealgieaaa
