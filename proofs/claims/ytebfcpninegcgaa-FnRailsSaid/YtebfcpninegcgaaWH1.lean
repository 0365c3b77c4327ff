/- The walks: the code does what its model says. Printed by a program (gen2.py). No statement of the claim stands here. -/
import Derived.Test.YtebfcpninegcgaaScop
import Derived.Test.YtebfcpninegcgaaFacts2
import Derived.Test.YtebfcpninegcgaaSop
import Derived.Test.YtebfcpninegcgaaFacts
import Derived.Test.YtebfcpninegcgaaMH
namespace Go.Proofs.Ytebfcpninegcgaa
open Go Go.RowKit
set_option maxRecDepth 100000
theorem m_laws_big_fn {w : World} {a0 : Option Addr} {n0 c0 : Nat} {p0 : List Byte} {Q : Bool → Prop} (hp0 : Vw w.heap.size w a0 n0 c0 p0) (hm : m_laws_big p0 Q) :
    Fn Try.prog 14 #[.slice a0 n0 c0] w (fun v w' => ∃ (r0 : Bool), Q r0 ∧ v = .bool r0 ∧ Ext w w') := by
  unfold m_laws_big at hm
  have hB0 := Below.refl w.heap.size w
  have hS0 : Sep w w.heap.size [] := Sep.nil (Nat.le_refl _)
  refine fn_of_wp Try.func14 rfl (by kernel_rfl) (Nat.le_of_ble_eq_true rfl) ?_
  refine w_seq fun K1 hK1 => ?_
  refine w_region ?_
  refine wl_val (g_assign (v := .bool false) rfl) rfl ?_
  refine wl_nil ?_
  refine hK1 _ _ ?_
  refine w_seq fun K2 hK2 => ?_
  refine w_region ?_
  refine wl_val (g_move (v := .slice a0 n0 c0) rfl) rfl ?_
  refine wl_val (q_len SL33 rfl (Vw.len (hp0.bel hB0))) rfl ?_
  refine wl_val (g_gtr (a := (p0.length : Int)) (b := 1048576) rfl rfl) rfl ?_
  refine wl_val (g_assign (v := .bool (decide ((p0.length : Int) > 1048576))) rfl) rfl ?_
  refine wl_nil ?_
  refine hK2 _ _ ?_
  refine w_ret ?_
  repeat first | with_reducible refine q_then ?_ | with_reducible refine q_block ?_
  exact ret1 rfl (by decide) ⟨_, hm, rfl, toExt hB0⟩

theorem m_spec_l01New_raw_fn {w : World} {a0 : Option Addr} {n0 c0 : Nat} {p0 : List Byte} {Q : Int → Int → Prop} (hp0 : Vw w.heap.size w a0 n0 c0 p0) (hm : m_spec_l01New_raw p0 Q) :
    Fn Try.prog 26 #[.slice a0 n0 c0] w (fun v w' => ∃ (g0 : Nat) (r0 r0_ : Int), Q r0 r0_ ∧ v = .pointer (some ⟨g0, 0, none⟩) ∧ Ext w w' ∧ Sep w' w.heap.size [oB g0 53 #[.slice a0 n0 c0, .int .i64 r0, .int .i64 r0_]]) := by
  unfold m_spec_l01New_raw at hm
  have hB0 := Below.refl w.heap.size w
  have hS0 : Sep w w.heap.size [] := Sep.nil (Nat.le_refl _)
  refine fn_of_wp Try.func26 rfl (by kernel_rfl) (Nat.le_of_ble_eq_true rfl) ?_
  refine w_seq fun K1 hK1 => ?_
  refine w_region ?_
  refine wl_val (g_assign (v := .pointer none) rfl) rfl ?_
  refine wl_nil ?_
  refine hK1 _ _ ?_
  refine w_seq fun K2 hK2 => ?_
  refine w_region ?_
  refine wl_val (g_move (v := .slice a0 n0 c0) rfl) rfl ?_
  refine wl_val (q_len SL33 rfl (Vw.len (hp0.bel hB0))) rfl ?_
  obtain ⟨hg3, hm⟩ := hm
  refine wl_val (g_add (a := 33061) (b := (p0.length : Int)) rfl rfl hg3) rfl ?_
  refine wl_val (g_assign (v := .int .i64 (33061 + (p0.length : Int))) rfl) rfl ?_
  refine wl_nil ?_
  refine hK2 _ _ ?_
  refine w_cut (σ := Int) (fun v40 => [(0, .slice a0 n0 c0), (3, .int .i64 v40)]) (fun v40 w' => m_spec_l01New_raw_K0 Q v40 ∧ Below w.heap.size w w' ∧ Sep w' w.heap.size []) ?_ ?_
  · refine w_seq fun K42 hK42 => ?_
    refine w_region ?_
    refine wl_val (g_assign (v := .int .i64 0) rfl) rfl ?_
    refine wl_nil ?_
    refine hK42 _ _ ?_
    refine w_block ?_
    obtain ⟨I45, μ46, h047, hr48⟩ := hm
    refine w_for (σ := Int × Int) (fun ⟨v43, v44⟩ => [(0, .slice a0 n0 c0), (3, .int .i64 v43), (4, .int .i64 v44)]) (fun ⟨v43, v44⟩ w' => I45 v43 v44 ∧ Below w.heap.size w w' ∧ Sep w' w.heap.size []) (fun ⟨v43, v44⟩ => μ46 v43 v44) ((33061 + (p0.length : Int)), 0) ⟨rfl, rfl, rfl, trivial⟩ ⟨h047, hB0, hS0⟩ ?_
    rintro ⟨v43, v44⟩ b_ w49 ⟨hi_, hB50, hS51⟩
    show Wp _ _ _ _ (upds b_ [(0, .slice a0 n0 c0), (3, .int .i64 v43), (4, .int .i64 v44)]) w49
    have hm := hr48 v43 v44 hi_
    refine w_seq fun K53 hK53 => ?_
    refine w_seq fun K54 hK54 => ?_
    refine w_region ?_
    refine wl_val (g_move (v := .int .i64 v44) rfl) rfl ?_
    refine wl_val (g_move (v := .slice a0 n0 c0) rfl) rfl ?_
    refine wl_val (q_len SL33 rfl (Vw.len (hp0.bel hB50))) rfl ?_
    refine wl_val (g_lss (a := v44) (b := (p0.length : Int)) rfl rfl) rfl ?_
    refine wl_val (g_move (v := .bool (decide (v44 < (p0.length : Int)))) rfl) rfl ?_
    refine wl_guard (c := (decide (v44 < (p0.length : Int))) = true) (val := .int .i64 v44) (b := ((decide (v44 < (p0.length : Int))) == true)) (gv_some rfl rfl rfl) beq_iff_eq (fun hc55 => ?_) ?_
    · have hcq2 : v44 < (p0.length : Int) := (decide_eq_true_iff.mp hc55)
      exact g_move (v := .int .i64 v44) rfl
    refine wl_guard (c := (decide (v44 < (p0.length : Int))) = true) (val := .bool (decide (v44 < 4000))) (b := ((decide (v44 < (p0.length : Int))) == true)) (gv_some rfl rfl rfl) beq_iff_eq (fun hc56 => ?_) ?_
    · have hcq2 : v44 < (p0.length : Int) := (decide_eq_true_iff.mp hc56)
      exact g_lss (a := v44) (b := 4000) (if_pos hc56) rfl
    refine wl_val (g_pick_and (b := (decide (v44 < (p0.length : Int)))) (q := (decide (v44 < 4000))) rfl rfl) rfl ?_
    refine wl_nil ?_
    refine hK54 _ _ ?_
    refine w_condI (p := ((v44 < (p0.length : Int)) ∧ (v44 < 4000))) (b := ((decide (v44 < (p0.length : Int))) && (decide (v44 < 4000)))) rfl (i_and decide_eq_true_iff decide_eq_true_iff) (fun h57 => ?_) (fun h57 => ?_)
    · replace hm := hm.1 h57
      refine w_skip ?_
      refine hK53 _ _ ?_
      refine w_seq fun K58 hK58 => ?_
      refine w_block ?_
      refine w_region ?_
      refine wl_val (g_move (v := .int .i64 v43) rfl) rfl ?_
      refine wl_val (q_wmul (a := v43) (b := 131) rfl rfl) rfl ?_
      refine wl_val (g_move (v := .slice a0 n0 c0) rfl) rfl ?_
      refine wl_val (g_move (v := .int .i64 v44) rfl) rfl ?_
      obtain ⟨hg59, hm⟩ := hm
      refine wl_val (q_index (i := v44) SL33 rfl rfl (hp0.bel hB50) hg59) rfl ?_
      refine wl_val (q_load (i := v44) (v := .int .u8 ((p0[(Int.toNat v44)]!).val : Int)) ON5 (hp0.bel hB50) hg59 rfl rfl) rfl ?_
      refine wl_val (g_conv8 (v := p0[(Int.toNat v44)]!) CV5_3 rfl) rfl ?_
      refine wl_val (q_wadd (a := (wmul v43 131)) (b := ((p0[(Int.toNat v44)]!).val : Int)) rfl rfl) rfl ?_
      refine wl_val (q_wadd (a := (wadd (wmul v43 131) ((p0[(Int.toNat v44)]!).val : Int))) (b := 7) rfl rfl) rfl ?_
      refine wl_val (q_wand (a := (wadd (wadd (wmul v43 131) ((p0[(Int.toNat v44)]!).val : Int)) 7)) (b := 1073741823) rfl rfl) rfl ?_
      refine wl_val (g_assign (v := .int .i64 (wand (wadd (wadd (wmul v43 131) ((p0[(Int.toNat v44)]!).val : Int)) 7) 1073741823)) rfl) rfl ?_
      refine wl_nil ?_
      refine hK58 _ _ ?_
      refine w_region ?_
      refine wl_val (g_move (v := .int .i64 v44) rfl) rfl ?_
      obtain ⟨hg60, hm⟩ := hm
      refine wl_val (g_add (a := v44) (b := 1) rfl rfl hg60) rfl ?_
      refine wl_val (g_assign (v := .int .i64 (v44 + 1)) rfl) rfl ?_
      refine wl_nil ?_
      exact ⟨((wand (wadd (wadd (wmul v43 131) ((p0[(Int.toNat v44)]!).val : Int)) 7) 1073741823), (v44 + 1)), hm.2, ⟨rfl, rfl, rfl, trivial⟩, ⟨hm.1, hB50, hS51⟩⟩
    · replace hm := hm.2 h57
      refine w_exit ?_
      exact ⟨(v43), ⟨rfl, rfl, trivial⟩, ⟨hm, hB50, hS51⟩⟩
  · rintro v40 b_ w61 ⟨hm, hB62, hS63⟩
    show Wp _ _ _ _ (upds b_ [(0, .slice a0 n0 c0), (3, .int .i64 v40)]) w61
    refine w_seq fun K64 hK64 => ?_
    refine w_region ?_
    refine wl_val (g_move (v := .slice a0 n0 c0) rfl) rfl ?_
    refine wl_val (g_move (v := .int .i64 v40) rfl) rfl ?_
    refine wl_val (g_build (v := .agg #[.slice a0 n0 c0, .int .i64 0, .int .i64 v40]) (parts2 rfl rfl) (BD53_02 a0 n0 c0 v40)) rfl ?_
    refine wl_step rfl (q_box (cs := #[.slice a0 n0 c0, .int .i64 0, .int .i64 v40]) rfl rfl hS63) ?_
    rintro _ w65 ⟨g66, rfl, hS68, hE67⟩
    have hB70 := hB62.trans (Ext.stp hE67 hS63.base)
    refine wl_val (g_assign (v := .pointer (some (⟨g66, 0, none⟩ : Addr))) rfl) rfl ?_
    refine wl_nil ?_
    refine hK64 _ _ ?_
    refine w_ret ?_
    repeat first | with_reducible refine q_then ?_ | with_reducible refine q_block ?_
    exact ret1 rfl (by decide) ⟨_, _, _, hm, rfl, toExt hB70, hS68⟩
theorem l01New_raw_ok {p0 : List Byte} {Q : Int → Int → Prop} (hl : p0.length ≤ 1099511627776) (hq : ∀ h, Q 0 h) : m_spec_l01New_raw p0 Q := by
  refine ⟨by omega, fun h i => 0 ≤ i, fun h i => (p0.length - i).toNat, Int.le_refl _, ?_⟩
  rintro h i h0
  exact ⟨fun hc => ⟨⟨h0, hc.1⟩, by omega, by omega, by dsimp only; omega⟩, fun _ => hq _⟩
theorem m_spec_l01New_fn {w : World} {a0 : Option Addr} {n0 c0 : Nat} {p0 : List Byte} {Q : Prop} (hp0 : Vw w.heap.size w a0 n0 c0 p0) (hm : m_spec_l01New p0 Q) :
    Fn Try.prog 26 #[.slice a0 n0 c0] w (fun v w' => ∃ (g0 : Nat), Q ∧ v = .pointer (some ⟨g0, 0, none⟩) ∧ Ext w w' ∧ Sep w' w.heap.size [oCur 53 g0 a0 n0 c0]) := by
  have hl := hm.1
  have hn := hp0.len
  refine (m_spec_l01New_raw_fn (Q := fun r _ => 0 ≤ r ∧ Q) hp0 (l01New_raw_ok hl fun _ => ⟨Int.le_refl _, hm.2⟩)).mono ?_
  rintro v w' ⟨g0, r, r_, ⟨h0, hQ⟩, hv, hE, hS⟩
  exact ⟨g0, hQ, hv, hE, hS.cur h0 (by omega)⟩

theorem m_spec_l01Byte_raw_fn {w : World} {B_ : Nat} {L_ : List Ob} {gp0 : Nat} {ap0 : Option Addr} {np0 cp0 : Nat} {p0 : List Byte} {i0 : Int} {h0 : Int} {Q : Int → Int → Int → Prop} (hS0 : Sep w B_ (oB gp0 53 #[.slice ap0 np0 cp0, .int .i64 i0, .int .i64 h0] :: L_)) (hp0 : Vw B_ w ap0 np0 cp0 p0) (hm : m_spec_l01Byte_raw p0 i0 h0 Q) :
    Fn Try.prog 33 #[.pointer (some (⟨gp0, 0, none⟩ : Addr))] w (fun v w' => ∃ (r0 : Int) (xi xh : Int), Q r0 xi xh ∧ v = .int .i64 r0 ∧ Below B_ w w' ∧ Sep w' B_ (oB gp0 53 #[.slice ap0 np0 cp0, .int .i64 xi, .int .i64 xh] :: L_)) := by
  unfold m_spec_l01Byte_raw at hm
  have hB0 := Below.refl B_ w
  refine fn_of_wp Try.func33 rfl (by kernel_rfl) (Nat.le_of_ble_eq_true rfl) ?_
  refine w_seq fun K2 hK2 => ?_
  refine w_region ?_
  refine wl_val (g_assign (v := .int .i64 0) rfl) rfl ?_
  refine wl_nil ?_
  refine hK2 _ _ ?_
  refine w_seq fun K3 hK3 => ?_
  refine w_region ?_
  refine wl_val (g_move (v := .pointer (some (⟨gp0, 0, none⟩ : Addr))) rfl) rfl ?_
  refine wl_val (g_move (v := .pointer (some (⟨gp0, 0, none⟩ : Addr))) rfl) rfl ?_
  refine wl_val (g_nilCheck (q := (⟨gp0, 0, none⟩ : Addr)) rfl) rfl ?_
  refine wl_val (g_fieldAddr (q := (⟨gp0, 0, none⟩ : Addr)) FL53_2 ON3 rfl) rfl ?_
  refine wl_val (q_loadB (i := 2) (bs := #[.slice ap0 np0 cp0, .int .i64 i0, .int .i64 h0]) hS0.g0 ON3 rfl rfl) rfl ?_
  refine wl_val (q_wmul (a := h0) (b := 6364136223846793005) rfl rfl) rfl ?_
  refine wl_val (q_wadd (a := (wmul h0 6364136223846793005)) (b := 1442695040888963407) rfl rfl) rfl ?_
  refine wl_val (g_nilCheck (q := (⟨gp0, 0, none⟩ : Addr)) rfl) rfl ?_
  refine wl_val (g_fieldAddr (q := (⟨gp0, 0, none⟩ : Addr)) FL53_2 ON3 rfl) rfl ?_
  refine wl_step rfl (q_storeB (i := 2) (bs' := #[.slice ap0 np0 cp0, .int .i64 i0, .int .i64 (wadd (wmul h0 6364136223846793005) 1442695040888963407)]) (vs := [.int .i64 (wadd (wmul h0 6364136223846793005) 1442695040888963407)]) hS0 ON3.sz rfl rfl rfl (by simp [Value.oneCell']) (Nat.le_of_ble_eq_true rfl) rfl) ?_
  rintro _ w4 ⟨rfl, hS5, hb6⟩
  have hB7 := hB0.trans hb6
  refine wl_nil ?_
  refine hK3 _ _ ?_
  refine w_seq fun K8 hK8 => ?_
  refine w_draw (X := Ext) (Y := Ext) [] MIX (by decide +kernel) rfl Ext.refl (fun _ _ _ => Ext.trans) (fun _ _ _ => Chg.trans) (fun _ _ h => Ext.chg h _) (fun w9 hE10 => ?_)
  have hB11 := hB7.trans (Ext.stp hE10 hS5.base)
  have hS12 := hS5.ext hE10
  refine ⟨.pointer (some (⟨gp0, 0, none⟩ : Addr)), fun w13 hX14 => od_plain rfl (by have hS15 := hS12.ext hX14; have hB16 := hB11.trans (Ext.stp hX14 hS12.base); exact is_ext (g_move (v := .pointer (some (⟨gp0, 0, none⟩ : Addr))) rfl)), ?_⟩
  refine ⟨.pointer (some (⟨gp0, 0, none⟩ : Addr)), fun w17 hX18 => od_plain rfl (by have hS19 := hS12.ext hX18; have hB20 := hB11.trans (Ext.stp hX18 hS12.base); exact is_ext (g_nilCheck (q := (⟨gp0, 0, none⟩ : Addr)) rfl)), ?_⟩
  refine ⟨.pointer (some (((⟨gp0, 0, none⟩ : Addr)).add 2)), fun w21 hX22 => od_plain rfl (by have hS23 := hS12.ext hX22; have hB24 := hB11.trans (Ext.stp hX22 hS12.base); exact is_ext (g_fieldAddr (q := (⟨gp0, 0, none⟩ : Addr)) FL53_2 ON3 rfl)), ?_⟩
  refine ⟨.int .i64 (wadd (wmul h0 6364136223846793005) 1442695040888963407), fun w25 hX26 => od_plain rfl (by have hS27 := hS12.ext hX26; have hB28 := hB11.trans (Ext.stp hX26 hS12.base); exact is_ext (q_loadB (i := 2) (bs := #[.slice ap0 np0 cp0, .int .i64 i0, .int .i64 (wadd (wmul h0 6364136223846793005) 1442695040888963407)]) hS27.g0 ON3 rfl rfl)), ?_⟩
  refine ⟨.int .i64 (sar (wadd (wmul h0 6364136223846793005) 1442695040888963407) 33), fun w29 hX30 => od_plain rfl (by have hS31 := hS12.ext hX30; have hB32 := hB11.trans (Ext.stp hX30 hS12.base); exact is_ext (g_shr (a := (wadd (wmul h0 6364136223846793005) 1442695040888963407)) (b := 33) rfl rfl ⟨by decide, by decide⟩)), ?_⟩
  refine ⟨.pointer (some (⟨gp0, 0, none⟩ : Addr)), fun w33 hX34 => od_plain rfl (by have hS35 := hS12.ext hX34; have hB36 := hB11.trans (Ext.stp hX34 hS12.base); exact is_ext (g_move (v := .pointer (some (⟨gp0, 0, none⟩ : Addr))) rfl)), ?_⟩
  refine ⟨.pointer (some (⟨gp0, 0, none⟩ : Addr)), fun w37 hX38 => od_plain rfl (by have hS39 := hS12.ext hX38; have hB40 := hB11.trans (Ext.stp hX38 hS12.base); exact is_ext (g_nilCheck (q := (⟨gp0, 0, none⟩ : Addr)) rfl)), ?_⟩
  refine ⟨.pointer (some (((⟨gp0, 0, none⟩ : Addr)).add 2)), fun w41 hX42 => od_plain rfl (by have hS43 := hS12.ext hX42; have hB44 := hB11.trans (Ext.stp hX42 hS12.base); exact is_ext (g_fieldAddr (q := (⟨gp0, 0, none⟩ : Addr)) FL53_2 ON3 rfl)), ?_⟩
  refine ⟨.int .i64 (wadd (wmul h0 6364136223846793005) 1442695040888963407), fun w45 hX46 => od_plain rfl (by have hS47 := hS12.ext hX46; have hB48 := hB11.trans (Ext.stp hX46 hS12.base); exact is_ext (q_loadB (i := 2) (bs := #[.slice ap0 np0 cp0, .int .i64 i0, .int .i64 (wadd (wmul h0 6364136223846793005) 1442695040888963407)]) hS47.g0 ON3 rfl rfl)), ?_⟩
  refine ⟨.int .i64 (sar (wadd (wmul h0 6364136223846793005) 1442695040888963407) 45), fun w49 hX50 => od_plain rfl (by have hS51 := hS12.ext hX50; have hB52 := hB11.trans (Ext.stp hX50 hS12.base); exact is_ext (g_shr (a := (wadd (wmul h0 6364136223846793005) 1442695040888963407)) (b := 45) rfl rfl ⟨by decide, by decide⟩)), ?_⟩
  refine ⟨.int .i64 (wxor (sar (wadd (wmul h0 6364136223846793005) 1442695040888963407) 33) (sar (wadd (wmul h0 6364136223846793005) 1442695040888963407) 45)), fun w53 hX54 => od_plain rfl (by have hS55 := hS12.ext hX54; have hB56 := hB11.trans (Ext.stp hX54 hS12.base); exact is_ext (q_wxor (a := (sar (wadd (wmul h0 6364136223846793005) 1442695040888963407) 33)) (b := (sar (wadd (wmul h0 6364136223846793005) 1442695040888963407) 45)) rfl rfl)), ?_⟩
  refine ⟨.int .i64 (wand (wxor (sar (wadd (wmul h0 6364136223846793005) 1442695040888963407) 33) (sar (wadd (wmul h0 6364136223846793005) 1442695040888963407) 45)) 255), fun w57 hX58 => od_plain rfl (by have hS59 := hS12.ext hX58; have hB60 := hB11.trans (Ext.stp hX58 hS12.base); exact is_ext (q_wand (a := (wxor (sar (wadd (wmul h0 6364136223846793005) 1442695040888963407) 33) (sar (wadd (wmul h0 6364136223846793005) 1442695040888963407) 45))) (b := 255) rfl rfl)), ?_⟩
  refine ⟨.int .i64 (wand (wxor (sar (wadd (wmul h0 6364136223846793005) 1442695040888963407) 33) (sar (wadd (wmul h0 6364136223846793005) 1442695040888963407) 45)) 255), fun w61 hX62 => od_plain rfl (by have hS63 := hS12.ext hX62; have hB64 := hB11.trans (Ext.stp hX62 hS12.base); exact is_ext (g_assign (v := .int .i64 (wand (wxor (sar (wadd (wmul h0 6364136223846793005) 1442695040888963407) 33) (sar (wadd (wmul h0 6364136223846793005) 1442695040888963407) 45)) 255)) rfl)), ?_⟩
  intro w65 hX66
  have hB67 := hB11.trans (Ext.stp hX66 hS12.base)
  have hS68 := hS12.ext hX66
  refine hK8 _ _ ?_
  refine w_seq fun K69 hK69 => ?_
  refine w_seq fun K70 hK70 => ?_
  refine w_draw (X := Ext) (Y := Ext) [] MIX (by decide +kernel) rfl Ext.refl (fun _ _ _ => Ext.trans) (fun _ _ _ => Chg.trans) (fun _ _ h => Ext.chg h _) (fun w71 hE72 => ?_)
  have hB73 := hB67.trans (Ext.stp hE72 hS68.base)
  have hS74 := hS68.ext hE72
  refine ⟨.pointer (some (⟨gp0, 0, none⟩ : Addr)), fun w75 hX76 => od_plain rfl (by have hS77 := hS74.ext hX76; have hB78 := hB73.trans (Ext.stp hX76 hS74.base); exact is_ext (g_move (v := .pointer (some (⟨gp0, 0, none⟩ : Addr))) rfl)), ?_⟩
  refine ⟨.pointer (some (⟨gp0, 0, none⟩ : Addr)), fun w79 hX80 => od_plain rfl (by have hS81 := hS74.ext hX80; have hB82 := hB73.trans (Ext.stp hX80 hS74.base); exact is_ext (g_nilCheck (q := (⟨gp0, 0, none⟩ : Addr)) rfl)), ?_⟩
  refine ⟨.pointer (some (((⟨gp0, 0, none⟩ : Addr)).add 1)), fun w83 hX84 => od_plain rfl (by have hS85 := hS74.ext hX84; have hB86 := hB73.trans (Ext.stp hX84 hS74.base); exact is_ext (g_fieldAddr (q := (⟨gp0, 0, none⟩ : Addr)) FL53_1 ON3 rfl)), ?_⟩
  refine ⟨.int .i64 i0, fun w87 hX88 => od_plain rfl (by have hS89 := hS74.ext hX88; have hB90 := hB73.trans (Ext.stp hX88 hS74.base); exact is_ext (q_loadB (i := 1) (bs := #[.slice ap0 np0 cp0, .int .i64 i0, .int .i64 (wadd (wmul h0 6364136223846793005) 1442695040888963407)]) hS89.g0 ON3 rfl rfl)), ?_⟩
  refine ⟨.pointer (some (⟨gp0, 0, none⟩ : Addr)), fun w91 hX92 => od_plain rfl (by have hS93 := hS74.ext hX92; have hB94 := hB73.trans (Ext.stp hX92 hS74.base); exact is_ext (g_move (v := .pointer (some (⟨gp0, 0, none⟩ : Addr))) rfl)), ?_⟩
  refine ⟨.pointer (some (⟨gp0, 0, none⟩ : Addr)), fun w95 hX96 => od_plain rfl (by have hS97 := hS74.ext hX96; have hB98 := hB73.trans (Ext.stp hX96 hS74.base); exact is_ext (g_nilCheck (q := (⟨gp0, 0, none⟩ : Addr)) rfl)), ?_⟩
  refine ⟨.pointer (some (((⟨gp0, 0, none⟩ : Addr)).add 0)), fun w99 hX100 => od_plain rfl (by have hS101 := hS74.ext hX100; have hB102 := hB73.trans (Ext.stp hX100 hS74.base); exact is_ext (g_fieldAddr (q := (⟨gp0, 0, none⟩ : Addr)) FL53_0 ON33 rfl)), ?_⟩
  refine ⟨.slice ap0 np0 cp0, fun w103 hX104 => od_plain rfl (by have hS105 := hS74.ext hX104; have hB106 := hB73.trans (Ext.stp hX104 hS74.base); exact is_ext (q_loadB (i := 0) (bs := #[.slice ap0 np0 cp0, .int .i64 i0, .int .i64 (wadd (wmul h0 6364136223846793005) 1442695040888963407)]) hS105.g0 ON33 rfl rfl)), ?_⟩
  refine ⟨.int .i64 (p0.length : Int), fun w107 hX108 => od_plain rfl (by have hS109 := hS74.ext hX108; have hB110 := hB73.trans (Ext.stp hX108 hS74.base); exact is_ext (q_len SL33 rfl (Vw.len (hp0.bel hB110)))), ?_⟩
  refine ⟨.bool (decide (i0 < (p0.length : Int))), fun w111 hX112 => od_plain rfl (by have hS113 := hS74.ext hX112; have hB114 := hB73.trans (Ext.stp hX112 hS74.base); exact is_ext (g_lss (a := i0) (b := (p0.length : Int)) rfl rfl)), ?_⟩
  intro w115 hX116
  have hB117 := hB73.trans (Ext.stp hX116 hS74.base)
  have hS118 := hS74.ext hX116
  refine hK70 _ _ ?_
  refine w_condI (p := i0 < (p0.length : Int)) (b := (decide (i0 < (p0.length : Int)))) rfl decide_eq_true_iff (fun h119 => ?_) (fun h119 => ?_)
  · replace hm := hm.1 h119
    refine w_seq fun K120 hK120 => ?_
    refine w_draw (X := Ext) (Y := Ext) [] MIX (by decide +kernel) rfl Ext.refl (fun _ _ _ => Ext.trans) (fun _ _ _ => Chg.trans) (fun _ _ h => Ext.chg h _) (fun w121 hE122 => ?_)
    have hB123 := hB117.trans (Ext.stp hE122 hS118.base)
    have hS124 := hS118.ext hE122
    refine ⟨.int .i64 (wand (wxor (sar (wadd (wmul h0 6364136223846793005) 1442695040888963407) 33) (sar (wadd (wmul h0 6364136223846793005) 1442695040888963407) 45)) 255), fun w125 hX126 => od_plain rfl (by have hS127 := hS124.ext hX126; have hB128 := hB123.trans (Ext.stp hX126 hS124.base); exact is_ext (g_move (v := .int .i64 (wand (wxor (sar (wadd (wmul h0 6364136223846793005) 1442695040888963407) 33) (sar (wadd (wmul h0 6364136223846793005) 1442695040888963407) 45)) 255)) rfl)), ?_⟩
    refine ⟨.pointer (some (⟨gp0, 0, none⟩ : Addr)), fun w129 hX130 => od_plain rfl (by have hS131 := hS124.ext hX130; have hB132 := hB123.trans (Ext.stp hX130 hS124.base); exact is_ext (g_move (v := .pointer (some (⟨gp0, 0, none⟩ : Addr))) rfl)), ?_⟩
    refine ⟨.pointer (some (⟨gp0, 0, none⟩ : Addr)), fun w133 hX134 => od_plain rfl (by have hS135 := hS124.ext hX134; have hB136 := hB123.trans (Ext.stp hX134 hS124.base); exact is_ext (g_nilCheck (q := (⟨gp0, 0, none⟩ : Addr)) rfl)), ?_⟩
    refine ⟨.pointer (some (((⟨gp0, 0, none⟩ : Addr)).add 0)), fun w137 hX138 => od_plain rfl (by have hS139 := hS124.ext hX138; have hB140 := hB123.trans (Ext.stp hX138 hS124.base); exact is_ext (g_fieldAddr (q := (⟨gp0, 0, none⟩ : Addr)) FL53_0 ON33 rfl)), ?_⟩
    refine ⟨.slice ap0 np0 cp0, fun w141 hX142 => od_plain rfl (by have hS143 := hS124.ext hX142; have hB144 := hB123.trans (Ext.stp hX142 hS124.base); exact is_ext (q_loadB (i := 0) (bs := #[.slice ap0 np0 cp0, .int .i64 i0, .int .i64 (wadd (wmul h0 6364136223846793005) 1442695040888963407)]) hS143.g0 ON33 rfl rfl)), ?_⟩
    refine ⟨.pointer (some (⟨gp0, 0, none⟩ : Addr)), fun w145 hX146 => od_plain rfl (by have hS147 := hS124.ext hX146; have hB148 := hB123.trans (Ext.stp hX146 hS124.base); exact is_ext (g_move (v := .pointer (some (⟨gp0, 0, none⟩ : Addr))) rfl)), ?_⟩
    refine ⟨.pointer (some (⟨gp0, 0, none⟩ : Addr)), fun w149 hX150 => od_plain rfl (by have hS151 := hS124.ext hX150; have hB152 := hB123.trans (Ext.stp hX150 hS124.base); exact is_ext (g_nilCheck (q := (⟨gp0, 0, none⟩ : Addr)) rfl)), ?_⟩
    refine ⟨.pointer (some (((⟨gp0, 0, none⟩ : Addr)).add 1)), fun w153 hX154 => od_plain rfl (by have hS155 := hS124.ext hX154; have hB156 := hB123.trans (Ext.stp hX154 hS124.base); exact is_ext (g_fieldAddr (q := (⟨gp0, 0, none⟩ : Addr)) FL53_1 ON3 rfl)), ?_⟩
    refine ⟨.int .i64 i0, fun w157 hX158 => od_plain rfl (by have hS159 := hS124.ext hX158; have hB160 := hB123.trans (Ext.stp hX158 hS124.base); exact is_ext (q_loadB (i := 1) (bs := #[.slice ap0 np0 cp0, .int .i64 i0, .int .i64 (wadd (wmul h0 6364136223846793005) 1442695040888963407)]) hS159.g0 ON3 rfl rfl)), ?_⟩
    obtain ⟨hg165, hm⟩ := hm
    refine ⟨.pointer (some ((adr ap0).add ((Int.toNat i0) * El.m Byte))), fun w161 hX162 => od_plain rfl (by have hS163 := hS124.ext hX162; have hB164 := hB123.trans (Ext.stp hX162 hS124.base); exact is_ext (q_index (i := i0) SL33 rfl rfl (hp0.bel hB164) hg165)), ?_⟩
    refine ⟨.int .u8 ((p0[(Int.toNat i0)]!).val : Int), fun w166 hX167 => od_plain rfl (by have hS168 := hS124.ext hX167; have hB169 := hB123.trans (Ext.stp hX167 hS124.base); exact is_ext (q_load (i := i0) (v := .int .u8 ((p0[(Int.toNat i0)]!).val : Int)) ON5 (hp0.bel hB169) hg165 rfl rfl)), ?_⟩
    refine ⟨.int .i64 ((p0[(Int.toNat i0)]!).val : Int), fun w170 hX171 => od_plain rfl (by have hS172 := hS124.ext hX171; have hB173 := hB123.trans (Ext.stp hX171 hS124.base); exact is_ext (g_conv8 (v := p0[(Int.toNat i0)]!) CV5_3 rfl)), ?_⟩
    refine ⟨.int .i64 (wadd (wand (wxor (sar (wadd (wmul h0 6364136223846793005) 1442695040888963407) 33) (sar (wadd (wmul h0 6364136223846793005) 1442695040888963407) 45)) 255) ((p0[(Int.toNat i0)]!).val : Int)), fun w174 hX175 => od_plain rfl (by have hS176 := hS124.ext hX175; have hB177 := hB123.trans (Ext.stp hX175 hS124.base); exact is_ext (q_wadd (a := (wand (wxor (sar (wadd (wmul h0 6364136223846793005) 1442695040888963407) 33) (sar (wadd (wmul h0 6364136223846793005) 1442695040888963407) 45)) 255)) (b := ((p0[(Int.toNat i0)]!).val : Int)) rfl rfl)), ?_⟩
    refine ⟨.int .i64 (wand (wadd (wand (wxor (sar (wadd (wmul h0 6364136223846793005) 1442695040888963407) 33) (sar (wadd (wmul h0 6364136223846793005) 1442695040888963407) 45)) 255) ((p0[(Int.toNat i0)]!).val : Int)) 255), fun w178 hX179 => od_plain rfl (by have hS180 := hS124.ext hX179; have hB181 := hB123.trans (Ext.stp hX179 hS124.base); exact is_ext (q_wand (a := (wadd (wand (wxor (sar (wadd (wmul h0 6364136223846793005) 1442695040888963407) 33) (sar (wadd (wmul h0 6364136223846793005) 1442695040888963407) 45)) 255) ((p0[(Int.toNat i0)]!).val : Int))) (b := 255) rfl rfl)), ?_⟩
    refine ⟨.int .i64 (wand (wadd (wand (wxor (sar (wadd (wmul h0 6364136223846793005) 1442695040888963407) 33) (sar (wadd (wmul h0 6364136223846793005) 1442695040888963407) 45)) 255) ((p0[(Int.toNat i0)]!).val : Int)) 255), fun w182 hX183 => od_plain rfl (by have hS184 := hS124.ext hX183; have hB185 := hB123.trans (Ext.stp hX183 hS124.base); exact is_ext (g_assign (v := .int .i64 (wand (wadd (wand (wxor (sar (wadd (wmul h0 6364136223846793005) 1442695040888963407) 33) (sar (wadd (wmul h0 6364136223846793005) 1442695040888963407) 45)) 255) ((p0[(Int.toNat i0)]!).val : Int)) 255)) rfl)), ?_⟩
    intro w186 hX187
    have hB188 := hB123.trans (Ext.stp hX187 hS124.base)
    have hS189 := hS124.ext hX187
    refine hK120 _ _ ?_
    refine w_region ?_
    refine wl_val (g_move (v := .pointer (some (⟨gp0, 0, none⟩ : Addr))) rfl) rfl ?_
    refine wl_val (g_move (v := .pointer (some (⟨gp0, 0, none⟩ : Addr))) rfl) rfl ?_
    refine wl_val (g_nilCheck (q := (⟨gp0, 0, none⟩ : Addr)) rfl) rfl ?_
    refine wl_val (g_fieldAddr (q := (⟨gp0, 0, none⟩ : Addr)) FL53_1 ON3 rfl) rfl ?_
    refine wl_val (q_loadB (i := 1) (bs := #[.slice ap0 np0 cp0, .int .i64 i0, .int .i64 (wadd (wmul h0 6364136223846793005) 1442695040888963407)]) hS189.g0 ON3 rfl rfl) rfl ?_
    obtain ⟨hg190, hm⟩ := hm
    refine wl_val (g_add (a := i0) (b := 1) rfl rfl hg190) rfl ?_
    refine wl_val (g_nilCheck (q := (⟨gp0, 0, none⟩ : Addr)) rfl) rfl ?_
    refine wl_val (g_fieldAddr (q := (⟨gp0, 0, none⟩ : Addr)) FL53_1 ON3 rfl) rfl ?_
    refine wl_step rfl (q_storeB (i := 1) (bs' := #[.slice ap0 np0 cp0, .int .i64 (i0 + 1), .int .i64 (wadd (wmul h0 6364136223846793005) 1442695040888963407)]) (vs := [.int .i64 (i0 + 1)]) hS189 ON3.sz rfl rfl rfl (by simp [Value.oneCell']) (Nat.le_of_ble_eq_true rfl) rfl) ?_
    rintro _ w191 ⟨rfl, hS192, hb193⟩
    have hB194 := hB188.trans hb193
    refine wl_nil ?_
    refine hK69 _ _ ?_
    refine w_seq fun K195 hK195 => ?_
    refine w_region ?_
    refine wl_val (g_move (v := .int .i64 (wand (wadd (wand (wxor (sar (wadd (wmul h0 6364136223846793005) 1442695040888963407) 33) (sar (wadd (wmul h0 6364136223846793005) 1442695040888963407) 45)) 255) ((p0[(Int.toNat i0)]!).val : Int)) 255)) rfl) rfl ?_
    refine wl_val (g_assign (v := .int .i64 (wand (wadd (wand (wxor (sar (wadd (wmul h0 6364136223846793005) 1442695040888963407) 33) (sar (wadd (wmul h0 6364136223846793005) 1442695040888963407) 45)) 255) ((p0[(Int.toNat i0)]!).val : Int)) 255)) rfl) rfl ?_
    refine wl_nil ?_
    refine hK195 _ _ ?_
    refine w_ret ?_
    repeat first | with_reducible refine q_then ?_ | with_reducible refine q_block ?_
    exact ret1 rfl (by decide) ⟨_, _, _, hm, rfl, hB194, hS192⟩
  · replace hm := hm.2 h119
    refine w_skip ?_
    refine hK69 _ _ ?_
    refine w_seq fun K196 hK196 => ?_
    refine w_region ?_
    refine wl_val (g_move (v := .int .i64 (wand (wxor (sar (wadd (wmul h0 6364136223846793005) 1442695040888963407) 33) (sar (wadd (wmul h0 6364136223846793005) 1442695040888963407) 45)) 255)) rfl) rfl ?_
    refine wl_val (g_assign (v := .int .i64 (wand (wxor (sar (wadd (wmul h0 6364136223846793005) 1442695040888963407) 33) (sar (wadd (wmul h0 6364136223846793005) 1442695040888963407) 45)) 255)) rfl) rfl ?_
    refine wl_nil ?_
    refine hK196 _ _ ?_
    refine w_ret ?_
    repeat first | with_reducible refine q_then ?_ | with_reducible refine q_block ?_
    exact ret1 rfl (by decide) ⟨_, _, _, hm, rfl, hB117, hS118⟩
theorem l01Byte_raw_ok {p0 : List Byte} {i0 h0 : Int} {Q : Int → Int → Int → Prop} (hl : p0.length ≤ 1099511627776) (hi : 0 ≤ i0) (hq : ∀ r i h, 0 ≤ r → r ≤ 255 → 0 ≤ i → Q r i h) : m_spec_l01Byte_raw p0 i0 h0 Q := by
  exact ⟨fun h => ⟨⟨hi, h⟩, by omega, hq _ _ _ (wand_rng (by decide) (by decide)).1 (wand_rng (by decide) (by decide)).2 (by omega)⟩, fun h => hq _ _ _ (wand_rng (by decide) (by decide)).1 (wand_rng (by decide) (by decide)).2 hi⟩
theorem m_spec_l01Byte_fn {B_ : Nat} {L_ : List Ob} {w : World} {gp0 : Nat} {ap0 : Option Addr} {np0 cp0 : Nat} {p0 : List Byte} {Q : Int → Prop} (hS0 : Sep w B_ (oCur 53 gp0 ap0 np0 cp0 :: L_)) (hp0 : Vw B_ w ap0 np0 cp0 p0) (hm : m_spec_l01Byte Q) :
    Fn Try.prog 33 #[.pointer (some (⟨gp0, 0, none⟩ : Addr))] w (fun v w' => ∃ (r0 : Int), Q r0 ∧ v = .int .i64 r0 ∧ Below B_ w w' ∧ Sep w' B_ (oCur 53 gp0 ap0 np0 cp0 :: L_)) := by
  obtain ⟨i, h, hi, hl, hS⟩ := hS0.uncur
  have hn := hp0.len
  refine (m_spec_l01Byte_raw_fn (Q := fun r i _ => 0 ≤ i ∧ Q r) hS hp0 (l01Byte_raw_ok (by omega) hi fun r i _ h1 h2 h3 => ⟨h3, hm r h1 h2⟩)).mono ?_
  rintro v w' ⟨r0, xi, xh, ⟨h0, hQ⟩, hv, hB, hS'⟩
  exact ⟨r0, hQ, hv, hB, hS'.cur h0 hl⟩

theorem m_spec_l01Below_fn {w : World} {B_ : Nat} {L_ : List Ob} {gp0 : Nat} {ap0 : Option Addr} {np0 cp0 : Nat} {p0 : List Byte} {Q : Int → Prop} (hS0 : Sep w B_ (oCur 53 gp0 ap0 np0 cp0 :: L_)) (hp0 : Vw B_ w ap0 np0 cp0 p0) (p1 : Int) (hm : m_spec_l01Below p1 Q) :
    Fn Try.prog 32 #[.pointer (some (⟨gp0, 0, none⟩ : Addr)), .int .i64 p1] w (fun v w' => ∃ (r0 : Int), Q r0 ∧ v = .int .i64 r0 ∧ Below B_ w w' ∧ Sep w' B_ (oCur 53 gp0 ap0 np0 cp0 :: L_)) := by
  unfold m_spec_l01Below at hm
  have hB0 := Below.refl B_ w
  refine fn_of_wp Try.func32 rfl (by kernel_rfl) (Nat.le_of_ble_eq_true rfl) ?_
  refine w_seq fun K2 hK2 => ?_
  refine w_region ?_
  refine wl_val (g_assign (v := .int .i64 0) rfl) rfl ?_
  refine wl_nil ?_
  refine hK2 _ _ ?_
  refine w_seq fun K3 hK3 => ?_
  refine w_seq fun K4 hK4 => ?_
  refine w_region ?_
  refine wl_val (g_move (v := .int .i64 p1) rfl) rfl ?_
  refine wl_val (g_leq (a := p1) (b := 0) rfl rfl) rfl ?_
  refine wl_nil ?_
  refine hK4 _ _ ?_
  refine w_condI (p := p1 ≤ 0) (b := (decide (p1 ≤ 0))) rfl decide_eq_true_iff (fun h5 => ?_) (fun h5 => ?_)
  · replace hm := hm.1 h5
    refine w_seq fun K6 hK6 => ?_
    refine w_region ?_
    refine wl_val (g_assign (v := .int .i64 0) rfl) rfl ?_
    refine wl_nil ?_
    refine hK6 _ _ ?_
    refine w_ret ?_
    repeat first | with_reducible refine q_then ?_ | with_reducible refine q_block ?_
    exact ret1 rfl (by decide) ⟨_, hm, rfl, hB0, hS0⟩
  · replace hm := hm.2 h5
    refine w_skip ?_
    refine hK3 _ _ ?_
    refine w_seq fun K7 hK7 => ?_
    refine w_seq fun K8 hK8 => ?_
    refine w_region ?_
    refine wl_val (g_move (v := .int .i64 p1) rfl) rfl ?_
    refine wl_val (g_leq (a := p1) (b := 256) rfl rfl) rfl ?_
    refine wl_nil ?_
    refine hK8 _ _ ?_
    refine w_condI (p := p1 ≤ 256) (b := (decide (p1 ≤ 256))) rfl decide_eq_true_iff (fun h9 => ?_) (fun h9 => ?_)
    · replace hm := hm.1 h9
      refine w_seq fun K10 hK10 => ?_
      refine w_region ?_
      refine wl_val (g_move (v := .pointer (some (⟨gp0, 0, none⟩ : Addr))) rfl) rfl ?_
      refine wl_step rfl (g_call (vs := #[.pointer (some (⟨gp0, 0, none⟩ : Addr))]) CF33 (args1 rfl) (m_spec_l01Byte_fn hS0 (hp0.bel hB0) hm)) ?_
      rintro _ w11 ⟨r14, hm, rfl, hb12, hS13⟩
      have hB15 := hB0.trans hb12
      refine wl_val (g_move (v := .int .i64 p1) rfl) rfl ?_
      obtain ⟨hg16, hm⟩ := hm
      refine wl_val (g_rem (a := r14) (b := p1) rfl rfl hg16) rfl ?_
      refine wl_val (g_assign (v := .int .i64 (Int.tmod r14 p1)) rfl) rfl ?_
      refine wl_nil ?_
      refine hK10 _ _ ?_
      refine w_ret ?_
      repeat first | with_reducible refine q_then ?_ | with_reducible refine q_block ?_
      exact ret1 rfl (by decide) ⟨_, hm, rfl, hB15, hS13⟩
    · replace hm := hm.2 h9
      refine w_skip ?_
      refine hK7 _ _ ?_
      refine w_seq fun K17 hK17 => ?_
      refine w_region ?_
      refine wl_val (g_move (v := .pointer (some (⟨gp0, 0, none⟩ : Addr))) rfl) rfl ?_
      refine wl_step rfl (g_call (vs := #[.pointer (some (⟨gp0, 0, none⟩ : Addr))]) CF33 (args1 rfl) (m_spec_l01Byte_fn hS0 (hp0.bel hB0) hm)) ?_
      rintro _ w18 ⟨r21, hm, rfl, hb19, hS20⟩
      have hB22 := hB0.trans hb19
      refine wl_val (g_assign (v := .int .i64 r21) rfl) rfl ?_
      refine wl_nil ?_
      refine hK17 _ _ ?_
      refine w_seq fun K23 hK23 => ?_
      refine w_region ?_
      refine wl_val (g_move (v := .pointer (some (⟨gp0, 0, none⟩ : Addr))) rfl) rfl ?_
      refine wl_step rfl (g_call (vs := #[.pointer (some (⟨gp0, 0, none⟩ : Addr))]) CF33 (args1 rfl) (m_spec_l01Byte_fn hS20 (hp0.bel hB22) hm)) ?_
      rintro _ w24 ⟨r27, hm, rfl, hb25, hS26⟩
      have hB28 := hB22.trans hb25
      refine wl_val (g_assign (v := .int .i64 r27) rfl) rfl ?_
      refine wl_nil ?_
      refine hK23 _ _ ?_
      refine w_seq fun K29 hK29 => ?_
      refine w_region ?_
      refine wl_val (g_move (v := .pointer (some (⟨gp0, 0, none⟩ : Addr))) rfl) rfl ?_
      refine wl_step rfl (g_call (vs := #[.pointer (some (⟨gp0, 0, none⟩ : Addr))]) CF33 (args1 rfl) (m_spec_l01Byte_fn hS26 (hp0.bel hB28) hm)) ?_
      rintro _ w30 ⟨r33, hm, rfl, hb31, hS32⟩
      have hB34 := hB28.trans hb31
      refine wl_val (g_assign (v := .int .i64 r33) rfl) rfl ?_
      refine wl_nil ?_
      refine hK29 _ _ ?_
      refine w_seq fun K35 hK35 => ?_
      refine w_region ?_
      refine wl_val (g_move (v := .pointer (some (⟨gp0, 0, none⟩ : Addr))) rfl) rfl ?_
      refine wl_step rfl (g_call (vs := #[.pointer (some (⟨gp0, 0, none⟩ : Addr))]) CF33 (args1 rfl) (m_spec_l01Byte_fn hS32 (hp0.bel hB34) hm)) ?_
      rintro _ w36 ⟨r39, hm, rfl, hb37, hS38⟩
      have hB40 := hB34.trans hb37
      refine wl_val (g_assign (v := .int .i64 r39) rfl) rfl ?_
      refine wl_nil ?_
      refine hK35 _ _ ?_
      refine w_seq fun K41 hK41 => ?_
      refine w_region ?_
      refine wl_val (g_move (v := .int .i64 r21) rfl) rfl ?_
      obtain ⟨hg42, hm⟩ := hm
      refine wl_val (g_mul (a := r21) (b := 16777216) rfl rfl hg42) rfl ?_
      refine wl_val (g_move (v := .int .i64 r27) rfl) rfl ?_
      obtain ⟨hg43, hm⟩ := hm
      refine wl_val (g_mul (a := r27) (b := 65536) rfl rfl hg43) rfl ?_
      obtain ⟨hg44, hm⟩ := hm
      refine wl_val (g_add (a := (r21 * 16777216)) (b := (r27 * 65536)) rfl rfl hg44) rfl ?_
      refine wl_val (g_move (v := .int .i64 r33) rfl) rfl ?_
      obtain ⟨hg45, hm⟩ := hm
      refine wl_val (g_mul (a := r33) (b := 256) rfl rfl hg45) rfl ?_
      obtain ⟨hg46, hm⟩ := hm
      refine wl_val (g_add (a := ((r21 * 16777216) + (r27 * 65536))) (b := (r33 * 256)) rfl rfl hg46) rfl ?_
      refine wl_val (g_move (v := .int .i64 r39) rfl) rfl ?_
      obtain ⟨hg47, hm⟩ := hm
      refine wl_val (g_add (a := (((r21 * 16777216) + (r27 * 65536)) + (r33 * 256))) (b := r39) rfl rfl hg47) rfl ?_
      refine wl_val (g_move (v := .int .i64 p1) rfl) rfl ?_
      obtain ⟨hg48, hm⟩ := hm
      refine wl_val (g_rem (a := ((((r21 * 16777216) + (r27 * 65536)) + (r33 * 256)) + r39)) (b := p1) rfl rfl hg48) rfl ?_
      refine wl_val (g_assign (v := .int .i64 (Int.tmod ((((r21 * 16777216) + (r27 * 65536)) + (r33 * 256)) + r39) p1)) rfl) rfl ?_
      refine wl_nil ?_
      refine hK41 _ _ ?_
      refine w_ret ?_
      repeat first | with_reducible refine q_then ?_ | with_reducible refine q_block ?_
      exact ret1 rfl (by decide) ⟨_, hm, rfl, hB40, hS38⟩

theorem m_spec_l16List_fn {w : World} {B_ : Nat} {L_ : List Ob} {gp0 : Nat} {ap0 : Option Addr} {np0 cp0 : Nat} {p0 : List Byte} {Q : (List Stay) → Prop} (hS0 : Sep w B_ (oCur 53 gp0 ap0 np0 cp0 :: L_)) (hp0 : Vw B_ w ap0 np0 cp0 p0) (hm : m_spec_l16List Q) :
    Fn Try.prog 25 #[.pointer (some (⟨gp0, 0, none⟩ : Addr))] w (fun v w' => ∃ (r0 : List Stay) (a0 : Option Addr) (n0 c0 : Nat), Q r0 ∧ v = .slice a0 n0 c0 ∧ Below B_ w w' ∧ Sep w' B_ (oS 39 a0 n0 c0 r0 :: oCur 53 gp0 ap0 np0 cp0 :: L_)) := by
  unfold m_spec_l16List at hm
  have hB0 := Below.refl B_ w
  refine fn_of_wp Try.func25 rfl (by kernel_rfl) (Nat.le_of_ble_eq_true rfl) ?_
  refine w_seq fun K2 hK2 => ?_
  refine w_region ?_
  refine wl_val (g_assign (v := .slice none 0 0) rfl) rfl ?_
  refine wl_nil ?_
  refine hK2 _ _ ?_
  refine w_seq fun K3 hK3 => ?_
  refine w_region ?_
  refine wl_step rfl (q_lit0 (α := Stay) rfl SL26 hS0) ?_
  rintro _ w4 ⟨a5, rfl, hS7, hE6⟩
  have hB9 := hB0.trans (Ext.stp hE6 hS0.base)
  refine wl_val (g_assign (v := .slice a5 0 0) rfl) rfl ?_
  refine wl_nil ?_
  refine hK3 _ _ ?_
  refine w_seq fun K10 hK10 => ?_
  refine w_region ?_
  refine wl_val (g_move (v := .pointer (some (⟨gp0, 0, none⟩ : Addr))) rfl) rfl ?_
  have hS11 := hS7.f1
  refine wl_step rfl (g_call (vs := #[.pointer (some (⟨gp0, 0, none⟩ : Addr)), .int .i64 8]) CF32 (args2 rfl rfl) (m_spec_l01Below_fn hS11 (hp0.bel hB9) 8 hm)) ?_
  rintro _ w12 ⟨r15, hm, rfl, hb13, hS14⟩
  have hB16 := hB9.trans hb13
  refine wl_val (g_assign (v := .int .i64 r15) rfl) rfl ?_
  refine wl_nil ?_
  refine hK10 _ _ ?_
  refine w_cut (σ := List Stay × Option Addr × Nat × Nat) (fun ⟨x233, a234, n235, c236⟩ => [(3, .slice a234 n235 c236)]) (fun ⟨x233, a234, n235, c236⟩ w' => m_spec_l16List_K0 Q x233 ∧ Below B_ w w' ∧ Sep w' B_ (oCur 53 gp0 ap0 np0 cp0 :: oS 39 a234 n235 c236 (x233 : List Stay) :: L_)) ?_ ?_
  · refine w_seq fun K238 hK238 => ?_
    refine w_region ?_
    refine wl_val (g_assign (v := .int .i64 0) rfl) rfl ?_
    refine wl_nil ?_
    refine hK238 _ _ ?_
    refine w_block ?_
    obtain ⟨I244, μ245, h0246, hr247⟩ := hm
    refine w_for (σ := List Stay × Option Addr × Nat × Nat × Int) (fun ⟨x239, a240, n241, c242, v243⟩ => [(0, .pointer (some (⟨gp0, 0, none⟩ : Addr))), (3, .slice a240 n241 c242), (4, .int .i64 r15), (5, .int .i64 v243)]) (fun ⟨x239, a240, n241, c242, v243⟩ w' => I244 x239 v243 ∧ Below B_ w w' ∧ Sep w' B_ (oCur 53 gp0 ap0 np0 cp0 :: oS 39 a240 n241 c242 (x239 : List Stay) :: L_)) (fun ⟨x239, a240, n241, c242, v243⟩ => μ245 x239 v243) ([], a5, 0, 0, 0) ⟨rfl, rfl, rfl, rfl, trivial⟩ ⟨h0246, hB16, hS14⟩ ?_
    rintro ⟨x239, a240, n241, c242, v243⟩ b_ w248 ⟨hi_, hB249, hS250⟩
    show Wp _ _ _ _ (upds b_ [(0, .pointer (some (⟨gp0, 0, none⟩ : Addr))), (3, .slice a240 n241 c242), (4, .int .i64 r15), (5, .int .i64 v243)]) w248
    have hm := hr247 x239 v243 hi_
    refine w_seq fun K252 hK252 => ?_
    refine w_seq fun K253 hK253 => ?_
    refine w_region ?_
    refine wl_val (g_move (v := .int .i64 v243) rfl) rfl ?_
    refine wl_val (g_move (v := .int .i64 r15) rfl) rfl ?_
    refine wl_val (g_lss (a := v243) (b := r15) rfl rfl) rfl ?_
    refine wl_nil ?_
    refine hK253 _ _ ?_
    refine w_condI (p := v243 < r15) (b := (decide (v243 < r15))) rfl decide_eq_true_iff (fun h254 => ?_) (fun h254 => ?_)
    · replace hm := hm.1 h254
      refine w_skip ?_
      refine hK252 _ _ ?_
      refine w_seq fun K255 hK255 => ?_
      refine w_block ?_
      refine w_seq fun K256 hK256 => ?_
      refine w_region ?_
      refine wl_val (g_move (v := .pointer (some (⟨gp0, 0, none⟩ : Addr))) rfl) rfl ?_
      refine wl_step rfl (g_call (vs := #[.pointer (some (⟨gp0, 0, none⟩ : Addr)), .int .i64 5]) CF32 (args2 rfl rfl) (m_spec_l01Below_fn hS250 (hp0.bel hB249) 5 hm)) ?_
      rintro _ w257 ⟨r260, hm, rfl, hb258, hS259⟩
      have hB261 := hB249.trans hb258
      refine wl_val (g_move (v := .pointer (some (⟨gp0, 0, none⟩ : Addr))) rfl) rfl ?_
      refine wl_step rfl (g_call (vs := #[.pointer (some (⟨gp0, 0, none⟩ : Addr)), .int .i64 20]) CF32 (args2 rfl rfl) (m_spec_l01Below_fn hS259 (hp0.bel hB261) 20 hm)) ?_
      rintro _ w262 ⟨r265, hm, rfl, hb263, hS264⟩
      have hB266 := hB261.trans hb263
      refine wl_val (g_build (v := .agg #[.int .i64 r260, .int .i64 r265, .int .i64 0]) (parts2 rfl rfl) (BD39_01 r260 r265)) rfl ?_
      refine wl_step rfl (q_alloc (cs := #[.int .i64 0, .int .i64 0, .int .i64 0]) ZR39 rfl hS264) ?_
      rintro _ w267 ⟨g268, rfl, hS270, hE269⟩
      have hB272 := hB266.trans (Ext.stp hE269 hS264.base)
      refine wl_step rfl (q_storeB (i := 0) (bs' := #[.int .i64 r260, .int .i64 r265, .int .i64 0]) (vs := [.int .i64 r260, .int .i64 r265, .int .i64 0]) hS270 AG39.sz rfl rfl rfl (by simp [Value.oneCell']) (Nat.le_of_ble_eq_true rfl) rfl) ?_
      rintro _ w273 ⟨rfl, hS274, hb275⟩
      have hB276 := hB272.trans hb275
      refine wl_nil ?_
      refine hK256 _ _ ?_
      refine w_seq fun K277 hK277 => ?_
      have hS278 := hS274.f1
      refine w_draw (X := Ext) (Y := fun w_ w_' => Sep w_ B_ (oCur 53 gp0 ap0 np0 cp0 :: oB g268 39 #[.int .i64 r260, .int .i64 r265, .int .i64 0] :: oS 39 a240 n241 c242 (x239 : List Stay) :: L_) → Sep w_' B_ (oCur 53 gp0 ap0 np0 cp0 :: oB g268 39 #[.int .i64 r260, .int .i64 r265, .int .i64 0] :: oS 39 a240 n241 c242 (x239 : List Stay) :: L_) ∧ Below B_ w_ w_') [3, 3, 3, 0, 4, 0, 0, 1] MIX (by decide +kernel) rfl Ext.refl (fun _ _ _ => Ext.trans) (fun _ _ _ h k hS => ⟨(k (h hS).1).1, (h hS).2.trans (k (h hS).1).2⟩) (fun _ _ h hS => ⟨hS.ext h, Ext.stp h hS.base⟩) (fun w279 hE280 => ?_)
      have hB281 := hB276.trans (Ext.stp hE280 hS278.base)
      have hS282 := hS278.ext hE280
      refine ⟨.pointer (some (((⟨g268, 0, none⟩ : Addr)).add 1)), fun w283 hX284 => od_plain rfl (by have hS285 := (hX284 hS282).1; have hB286 := hB281.trans (hX284 hS282).2; exact is_ext (g_fieldAddr (q := (⟨g268, 0, none⟩ : Addr)) FL39_1 ON3 rfl)), ?_⟩
      refine ⟨.int .i64 r265, fun w287 hX288 => od_plain rfl (by have hS289 := (hX288 hS282).1; have hB290 := hB281.trans (hX288 hS282).2; exact is_ext (q_loadB (i := 1) (bs := #[.int .i64 r260, .int .i64 r265, .int .i64 0]) hS289.g1 ON3 rfl rfl)), ?_⟩
      obtain ⟨hg295, hm⟩ := hm
      refine ⟨.int .i64 (r265 + 1), fun w291 hX292 => od_plain rfl (by have hS293 := (hX292 hS282).1; have hB294 := hB281.trans (hX292 hS282).2; exact is_ext (g_add (a := r265) (b := 1) rfl rfl hg295)), ?_⟩
      refine ⟨.pointer (some (⟨gp0, 0, none⟩ : Addr)), fun w296 hX297 => od_plain rfl (by have hS298 := hS282.ext hX297; have hB299 := hB281.trans (Ext.stp hX297 hS282.base); exact is_ext (g_move (v := .pointer (some (⟨gp0, 0, none⟩ : Addr))) rfl)), ?_⟩
      intro w300 hX301
      have hB302 := hB281.trans (Ext.stp hX301 hS282.base)
      have hS303 := hS282.ext hX301
      refine ⟨_, od_plain rfl (g_call (vs := #[.pointer (some (⟨gp0, 0, none⟩ : Addr)), .int .i64 12]) CF32 (args2 rfl rfl) (m_spec_l01Below_fn hS303 (hp0.bel hB302) 12 hm)), ?_⟩
      rintro _ w304 ⟨r307, hm, rfl, hb305, hS306⟩
      have hB308 := hB302.trans hb305
      refine ⟨fun _ => ⟨hS306, hb305⟩, ?_⟩
      obtain ⟨hg313, hm⟩ := hm
      refine ⟨.int .i64 ((r265 + 1) + r307), fun w309 hX310 => od_plain rfl (by have hS311 := hS306.ext hX310; have hB312 := hB308.trans (Ext.stp hX310 hS306.base); exact is_ext (g_add (a := (r265 + 1)) (b := r307) rfl rfl hg313)), ?_⟩
      refine ⟨.pointer (some (((⟨g268, 0, none⟩ : Addr)).add 2)), fun w314 hX315 => od_plain rfl (by have hS316 := hS306.ext hX315; have hB317 := hB308.trans (Ext.stp hX315 hS306.base); exact is_ext (g_fieldAddr (q := (⟨g268, 0, none⟩ : Addr)) FL39_2 ON3 rfl)), ?_⟩
      intro w318 hX319
      have hB320 := hB308.trans (Ext.stp hX319 hS306.base)
      have hS321 := hS306.ext hX319
      have hS325 := hS321.f1
      refine ⟨_, od_plain rfl (q_storeB (i := 2) (bs' := #[.int .i64 r260, .int .i64 r265, .int .i64 ((r265 + 1) + r307)]) (vs := [.int .i64 ((r265 + 1) + r307)]) hS325 ON3.sz rfl rfl rfl (by simp [Value.oneCell']) (Nat.le_of_ble_eq_true rfl) rfl), ?_⟩
      rintro _ w322 ⟨rfl, hS323, hb324⟩
      have hB326 := hB320.trans hb324
      intro w327 hX328
      have hB329 := hB326.trans (Ext.stp hX328 hS323.base)
      have hS330 := hS323.ext hX328
      refine hK277 _ _ ?_
      refine w_region ?_
      refine wl_val (g_move (v := .slice a240 n241 c242) rfl) rfl ?_
      refine wl_val (q_loadBS (bs := #[.int .i64 r260, .int .i64 r265, .int .i64 ((r265 + 1) + r307)]) hS330.g0 AG39 rfl) rfl ?_
      refine wl_step rfl (q_lit1 (y := ((r260, r265, ((r265 + 1) + r307)) : Stay)) SL26 rfl rfl (by decide) hS330) ?_
      rintro _ w331 ⟨a332, rfl, hS334, hE333⟩
      have hB336 := hB329.trans (Ext.stp hE333 hS330.base)
      have hS342 := hS334.f3
      obtain ⟨hg343, hm⟩ := hm
      refine wl_step rfl (q_append SL26 rfl rfl hS342 (oS.vw hS342.g1) hg343 (by decide)) ?_
      rintro _ w337 ⟨a338, c339, rfl, hS341, hb340⟩
      have hB344 := hB336.trans hb340
      refine wl_val (g_assign (v := .slice a338 (n241 + 1) c339) rfl) rfl ?_
      refine wl_nil ?_
      refine hK255 _ _ ?_
      refine w_region ?_
      refine wl_val (g_move (v := .int .i64 v243) rfl) rfl ?_
      obtain ⟨hg345, hm⟩ := hm
      refine wl_val (g_add (a := v243) (b := 1) rfl rfl hg345) rfl ?_
      refine wl_val (g_assign (v := .int .i64 (v243 + 1)) rfl) rfl ?_
      refine wl_nil ?_
      have hS346 := hS341.f1
      have hS347 := hS346.tail
      have hS348 := hS347.f1
      have hS349 := hS348.tail
      have hS350 := hS349.f1
      exact ⟨((x239 ++ ([(r260, r265, ((r265 + 1) + r307))])), a338, (n241 + 1), c339, (v243 + 1)), hm.2, ⟨rfl, rfl, rfl, rfl, trivial⟩, ⟨hm.1, hB344, hS350⟩⟩
    · replace hm := hm.2 h254
      refine w_exit ?_
      exact ⟨(x239, a240, n241, c242), ⟨rfl, trivial⟩, ⟨hm, hB249, hS250⟩⟩
  · rintro ⟨x233, a234, n235, c236⟩ b_ w351 ⟨hm, hB352, hS353⟩
    show Wp _ _ _ _ (upds b_ [(3, .slice a234 n235 c236)]) w351
    refine w_seq fun K354 hK354 => ?_
    refine w_region ?_
    refine wl_val (g_move (v := .slice a234 n235 c236) rfl) rfl ?_
    refine wl_val (g_assign (v := .slice a234 n235 c236) rfl) rfl ?_
    refine wl_nil ?_
    refine hK354 _ _ ?_
    refine w_ret ?_
    have hS355 := hS353.f1
    repeat first | with_reducible refine q_then ?_ | with_reducible refine q_block ?_
    exact ret1 rfl (by decide) ⟨_, _, _, _, hm, rfl, hB352, hS355⟩

theorem m_spec_DrawStays_fn {w : World} {a0 : Option Addr} {n0 c0 : Nat} {p0 : List Byte} {Q : (List Stay) → Prop} (hp0 : Vw w.heap.size w a0 n0 c0 p0) (hm : m_spec_DrawStays p0 Q) :
    Fn Try.prog 15 #[.slice a0 n0 c0] w (fun v w' => ∃ (r0 : List Stay) (a0 : Option Addr) (n0 c0 : Nat), Q r0 ∧ v = .slice a0 n0 c0 ∧ Ext w w' ∧ Sep w' w.heap.size [oS 39 a0 n0 c0 r0]) := by
  unfold m_spec_DrawStays at hm
  have hB0 := Below.refl w.heap.size w
  have hS0 : Sep w w.heap.size [] := Sep.nil (Nat.le_refl _)
  refine fn_of_wp Try.func15 rfl (by kernel_rfl) (Nat.le_of_ble_eq_true rfl) ?_
  refine w_seq fun K1 hK1 => ?_
  refine w_region ?_
  refine wl_val (g_assign (v := .slice none 0 0) rfl) rfl ?_
  refine wl_nil ?_
  refine hK1 _ _ ?_
  refine w_seq fun K2 hK2 => ?_
  refine w_region ?_
  refine wl_val (g_move (v := .slice a0 n0 c0) rfl) rfl ?_
  refine wl_step rfl (g_call (vs := #[.slice a0 n0 c0]) CF26 (args1 rfl) (m_spec_l01New_fn ((hp0.bel hB0).up hS0) hm)) ?_
  rintro _ w3 ⟨g6, hm, rfl, hE4, hN5⟩
  have hS8 := hS0.call1 hE4 hN5
  have hB9 := hB0.trans (Ext.stp hE4 hS0.base)
  refine wl_step rfl (g_call (vs := #[.pointer (some (⟨g6, 0, none⟩ : Addr))]) CF25 (args1 rfl) (m_spec_l16List_fn hS8 (hp0.bel hB9) hm)) ?_
  rintro _ w10 ⟨r13, a14, n15, c16, hm, rfl, hb11, hS12⟩
  have hB18 := hB9.trans hb11
  refine wl_val (g_assign (v := .slice a14 n15 c16) rfl) rfl ?_
  refine wl_nil ?_
  refine hK2 _ _ ?_
  refine w_ret ?_
  have hS19 := hS12.f1
  have hS20 := hS19.tail
  repeat first | with_reducible refine q_then ?_ | with_reducible refine q_block ?_
  exact ret1 rfl (by decide) ⟨_, _, _, _, hm, rfl, toExt hB18, hS20⟩

theorem m_impl_within_fn {w : World}  {Q : Bool → Prop} (p0 : Int) (p1 : Int) (p2 : Int) (hm : m_impl_within p0 p1 p2 Q) :
    Fn Try.prog 31 #[.int .i64 p0, .int .i64 p1, .int .i64 p2] w (fun v w' => ∃ (r0 : Bool), Q r0 ∧ v = .bool r0 ∧ Ext w w') := by
  unfold m_impl_within at hm
  have hB0 := Below.refl w.heap.size w
  have hS0 : Sep w w.heap.size [] := Sep.nil (Nat.le_refl _)
  refine fn_of_wp Try.func31 rfl (by kernel_rfl) (Nat.le_of_ble_eq_true rfl) ?_
  refine w_seq fun K1 hK1 => ?_
  refine w_region ?_
  refine wl_val (g_assign (v := .bool false) rfl) rfl ?_
  refine wl_nil ?_
  refine hK1 _ _ ?_
  refine w_seq fun K2 hK2 => ?_
  refine w_region ?_
  refine wl_val (g_move (v := .int .i64 p0) rfl) rfl ?_
  refine wl_val (g_move (v := .int .i64 p1) rfl) rfl ?_
  refine wl_val (g_geq (a := p0) (b := p1) rfl rfl) rfl ?_
  refine wl_val (g_move (v := .bool (decide (p0 ≥ p1))) rfl) rfl ?_
  refine wl_guard (c := (decide (p0 ≥ p1)) = true) (val := .int .i64 p0) (b := ((decide (p0 ≥ p1)) == true)) (gv_some rfl rfl rfl) beq_iff_eq (fun hc3 => ?_) ?_
  · have hcq0 : p0 ≥ p1 := (decide_eq_true_iff.mp hc3)
    exact g_move (v := .int .i64 p0) rfl
  refine wl_guard (c := (decide (p0 ≥ p1)) = true) (val := .int .i64 p2) (b := ((decide (p0 ≥ p1)) == true)) (gv_some rfl rfl rfl) beq_iff_eq (fun hc4 => ?_) ?_
  · have hcq0 : p0 ≥ p1 := (decide_eq_true_iff.mp hc4)
    exact g_move (v := .int .i64 p2) rfl
  refine wl_guard (c := (decide (p0 ≥ p1)) = true) (val := .bool (decide (p0 ≤ p2))) (b := ((decide (p0 ≥ p1)) == true)) (gv_some rfl rfl rfl) beq_iff_eq (fun hc5 => ?_) ?_
  · have hcq0 : p0 ≥ p1 := (decide_eq_true_iff.mp hc5)
    exact g_leq (a := p0) (b := p2) (if_pos hc5) (if_pos hc5)
  refine wl_val (g_pick_and (b := (decide (p0 ≥ p1))) (q := (decide (p0 ≤ p2))) rfl rfl) rfl ?_
  refine wl_val (g_assign (v := .bool ((decide (p0 ≥ p1)) && (decide (p0 ≤ p2)))) rfl) rfl ?_
  refine wl_nil ?_
  refine hK2 _ _ ?_
  refine w_ret ?_
  repeat first | with_reducible refine q_then ?_ | with_reducible refine q_block ?_
  exact ret1 rfl (by decide) ⟨_, hm, rfl, toExt hB0⟩

theorem m_impl_StaysOk_fn {w : World} {a0 : Option Addr} {n0 c0 : Nat} {p0 : List Stay} {Q : Bool → Prop} (hp0 : Vw w.heap.size w a0 n0 c0 p0) (hm : m_impl_StaysOk p0 Q) :
    Fn Try.prog 22 #[.slice a0 n0 c0] w (fun v w' => ∃ (r0 : Bool), Q r0 ∧ v = .bool r0 ∧ Ext w w') := by
  unfold m_impl_StaysOk at hm
  have hB0 := Below.refl w.heap.size w
  have hS0 : Sep w w.heap.size [] := Sep.nil (Nat.le_refl _)
  refine fn_of_wp Try.func22 rfl (by kernel_rfl) (Nat.le_of_ble_eq_true rfl) ?_
  refine w_seq fun K1 hK1 => ?_
  refine w_region ?_
  refine wl_val (g_assign (v := .bool false) rfl) rfl ?_
  refine wl_nil ?_
  refine hK1 _ _ ?_
  refine w_cut (σ := Unit) (fun _ => [(0, .slice a0 n0 c0)]) (fun _ w' => m_impl_StaysOk_K0 p0 Q ∧ Below w.heap.size w w' ∧ Sep w' w.heap.size []) ?_ ?_
  · refine w_seq fun K3 hK3 => ?_
    refine w_region ?_
    refine wl_val (g_move (v := .slice a0 n0 c0) rfl) rfl ?_
    refine wl_val (q_len SL26 rfl (Vw.len (hp0.bel hB0))) rfl ?_
    refine wl_val (g_move (v := .int .i64 0) rfl) rfl ?_
    refine wl_nil ?_
    refine hK3 _ _ ?_
    refine w_block ?_
    obtain ⟨I50, μ51, h052, hr53⟩ := hm
    refine w_for (σ := Int) (fun v49 => [(0, .slice a0 n0 c0), (5, .slice a0 n0 c0), (6, .int .i64 (p0.length : Int)), (7, .int .i64 v49)]) (fun v49 w' => I50 v49 ∧ Below w.heap.size w w' ∧ Sep w' w.heap.size []) (fun v49 => μ51 v49) (0) ⟨rfl, rfl, rfl, rfl, trivial⟩ ⟨h052, hB0, hS0⟩ ?_
    rintro v49 b_ w54 ⟨hi_, hB55, hS56⟩
    show Wp _ _ _ _ (upds b_ [(0, .slice a0 n0 c0), (5, .slice a0 n0 c0), (6, .int .i64 (p0.length : Int)), (7, .int .i64 v49)]) w54
    have hm := hr53 v49 hi_
    refine w_seq fun K58 hK58 => ?_
    refine w_region ?_
    refine wl_val (g_lss (a := v49) (b := (p0.length : Int)) rfl rfl) rfl ?_
    refine wl_nil ?_
    refine hK58 _ _ ?_
    refine w_seq fun K59 hK59 => ?_
    refine w_condI (p := v49 < (p0.length : Int)) (b := (decide (v49 < (p0.length : Int)))) rfl decide_eq_true_iff (fun h60 => ?_) (fun h60 => ?_)
    · replace hm := hm.1 h60
      refine w_skip ?_
      refine hK59 _ _ ?_
      refine w_seq fun K61 hK61 => ?_
      refine w_block ?_
      refine w_seq fun K62 hK62 => ?_
      refine w_region ?_
      obtain ⟨hg63, hm⟩ := hm
      refine wl_val (q_index (i := v49) SL26 rfl rfl (hp0.bel hB55) hg63) rfl ?_
      refine wl_val (q_loadS (i := v49) (cs := [.int .i64 (p0[(Int.toNat v49)]!.1), .int .i64 (p0[(Int.toNat v49)]!.2.1), .int .i64 (p0[(Int.toNat v49)]!.2.2)]) AG39 (hp0.bel hB55) hg63 rfl rfl) rfl ?_
      refine wl_step rfl (q_alloc (cs := #[.int .i64 0, .int .i64 0, .int .i64 0]) ZR39 rfl hS56) ?_
      rintro _ w64 ⟨g65, rfl, hS67, hE66⟩
      have hB69 := hB55.trans (Ext.stp hE66 hS56.base)
      refine wl_step rfl (q_storeB (i := 0) (bs' := #[.int .i64 (p0[(Int.toNat v49)]!.1), .int .i64 (p0[(Int.toNat v49)]!.2.1), .int .i64 (p0[(Int.toNat v49)]!.2.2)]) (vs := [.int .i64 (p0[(Int.toNat v49)]!.1), .int .i64 (p0[(Int.toNat v49)]!.2.1), .int .i64 (p0[(Int.toNat v49)]!.2.2)]) hS67 AG39.sz rfl rfl rfl (by simp [Value.oneCell']) (Nat.le_of_ble_eq_true rfl) rfl) ?_
      rintro _ w70 ⟨rfl, hS71, hb72⟩
      have hB73 := hB69.trans hb72
      refine wl_nil ?_
      refine hK62 _ _ ?_
      refine w_seq fun K74 hK74 => ?_
      refine w_region ?_
      refine wl_val (g_fieldAddr (q := (⟨g65, 0, none⟩ : Addr)) FL39_0 ON3 rfl) rfl ?_
      refine wl_val (q_loadB (i := 0) (bs := #[.int .i64 (p0[(Int.toNat v49)]!.1), .int .i64 (p0[(Int.toNat v49)]!.2.1), .int .i64 (p0[(Int.toNat v49)]!.2.2)]) hS71.g0 ON3 rfl rfl) rfl ?_
      refine wl_step rfl (g_call (vs := #[.int .i64 (p0[(Int.toNat v49)]!.1), .int .i64 0, .int .i64 6]) CF31 (args3 rfl rfl rfl) (m_impl_within_fn (p0[(Int.toNat v49)]!.1) 0 6 hm)) ?_
      rintro _ w75 ⟨r78, hm, rfl, hE76⟩
      have hB79 := hB73.trans (Ext.stp hE76 hS71.base)
      have hS80 := hS71.ext hE76
      refine wl_val (g_not (a := r78) rfl) rfl ?_
      refine wl_val (g_move (v := .bool (!r78)) rfl) rfl ?_
      refine wl_guard (c := (!r78) = false) (val := .pointer (some (((⟨g65, 0, none⟩ : Addr)).add 1))) (b := ((!r78) == false)) (gv_some rfl rfl rfl) beq_iff_eq (fun hc81 => ?_) ?_
      · have hcq3 : ¬ (¬ (r78 = true)) := (i_neg (i_not Iff.rfl) hc81)
        exact g_fieldAddr (q := (⟨g65, 0, none⟩ : Addr)) FL39_1 ON3 rfl
      refine wl_guard (c := (!r78) = false) (val := .int .i64 (p0[(Int.toNat v49)]!.2.1)) (b := ((!r78) == false)) (gv_some rfl rfl rfl) beq_iff_eq (fun hc82 => ?_) ?_
      · have hcq3 : ¬ (¬ (r78 = true)) := (i_neg (i_not Iff.rfl) hc82)
        exact q_loadB (i := 1) (bs := #[.int .i64 (p0[(Int.toNat v49)]!.1), .int .i64 (p0[(Int.toNat v49)]!.2.1), .int .i64 (p0[(Int.toNat v49)]!.2.2)]) hS80.g0 ON3 (if_pos hc82) rfl
      refine wl_guard (c := (!r78) = false) (val := .bool (decide (p0[(Int.toNat v49)]!.2.1 < 0))) (b := ((!r78) == false)) (gv_some rfl rfl rfl) beq_iff_eq (fun hc83 => ?_) ?_
      · have hcq3 : ¬ (¬ (r78 = true)) := (i_neg (i_not Iff.rfl) hc83)
        exact g_lss (a := p0[(Int.toNat v49)]!.2.1) (b := 0) (if_pos hc83) rfl
      refine wl_val (g_pick_or (b := (!r78)) (q := (decide (p0[(Int.toNat v49)]!.2.1 < 0))) rfl rfl) rfl ?_
      refine wl_val (g_move (v := .bool ((!r78) || (decide (p0[(Int.toNat v49)]!.2.1 < 0)))) rfl) rfl ?_
      refine wl_guard (c := ((!r78) || (decide (p0[(Int.toNat v49)]!.2.1 < 0))) = false) (val := .pointer (some (((⟨g65, 0, none⟩ : Addr)).add 1))) (b := (((!r78) || (decide (p0[(Int.toNat v49)]!.2.1 < 0))) == false)) (gv_some rfl rfl rfl) beq_iff_eq (fun hc84 => ?_) ?_
      · have hcq4 : ¬ (((¬ (r78 = true)) ∨ (p0[(Int.toNat v49)]!.2.1 < 0))) := (i_neg (i_or (i_not Iff.rfl) decide_eq_true_iff) hc84)
        exact g_fieldAddr (q := (⟨g65, 0, none⟩ : Addr)) FL39_1 ON3 rfl
      refine wl_guard (c := ((!r78) || (decide (p0[(Int.toNat v49)]!.2.1 < 0))) = false) (val := .int .i64 (p0[(Int.toNat v49)]!.2.1)) (b := (((!r78) || (decide (p0[(Int.toNat v49)]!.2.1 < 0))) == false)) (gv_some rfl rfl rfl) beq_iff_eq (fun hc85 => ?_) ?_
      · have hcq4 : ¬ (((¬ (r78 = true)) ∨ (p0[(Int.toNat v49)]!.2.1 < 0))) := (i_neg (i_or (i_not Iff.rfl) decide_eq_true_iff) hc85)
        exact q_loadB (i := 1) (bs := #[.int .i64 (p0[(Int.toNat v49)]!.1), .int .i64 (p0[(Int.toNat v49)]!.2.1), .int .i64 (p0[(Int.toNat v49)]!.2.2)]) hS80.g0 ON3 (if_pos hc85) rfl
      refine wl_guard (c := ((!r78) || (decide (p0[(Int.toNat v49)]!.2.1 < 0))) = false) (val := .pointer (some (((⟨g65, 0, none⟩ : Addr)).add 2))) (b := (((!r78) || (decide (p0[(Int.toNat v49)]!.2.1 < 0))) == false)) (gv_some rfl rfl rfl) beq_iff_eq (fun hc86 => ?_) ?_
      · have hcq4 : ¬ (((¬ (r78 = true)) ∨ (p0[(Int.toNat v49)]!.2.1 < 0))) := (i_neg (i_or (i_not Iff.rfl) decide_eq_true_iff) hc86)
        exact g_fieldAddr (q := (⟨g65, 0, none⟩ : Addr)) FL39_2 ON3 rfl
      refine wl_guard (c := ((!r78) || (decide (p0[(Int.toNat v49)]!.2.1 < 0))) = false) (val := .int .i64 (p0[(Int.toNat v49)]!.2.2)) (b := (((!r78) || (decide (p0[(Int.toNat v49)]!.2.1 < 0))) == false)) (gv_some rfl rfl rfl) beq_iff_eq (fun hc87 => ?_) ?_
      · have hcq4 : ¬ (((¬ (r78 = true)) ∨ (p0[(Int.toNat v49)]!.2.1 < 0))) := (i_neg (i_or (i_not Iff.rfl) decide_eq_true_iff) hc87)
        exact q_loadB (i := 2) (bs := #[.int .i64 (p0[(Int.toNat v49)]!.1), .int .i64 (p0[(Int.toNat v49)]!.2.1), .int .i64 (p0[(Int.toNat v49)]!.2.2)]) hS80.g0 ON3 (if_pos hc87) rfl
      refine wl_guard (c := ((!r78) || (decide (p0[(Int.toNat v49)]!.2.1 < 0))) = false) (val := .bool (decide (p0[(Int.toNat v49)]!.2.1 ≥ p0[(Int.toNat v49)]!.2.2))) (b := (((!r78) || (decide (p0[(Int.toNat v49)]!.2.1 < 0))) == false)) (gv_some rfl rfl rfl) beq_iff_eq (fun hc88 => ?_) ?_
      · have hcq4 : ¬ (((¬ (r78 = true)) ∨ (p0[(Int.toNat v49)]!.2.1 < 0))) := (i_neg (i_or (i_not Iff.rfl) decide_eq_true_iff) hc88)
        exact g_geq (a := p0[(Int.toNat v49)]!.2.1) (b := p0[(Int.toNat v49)]!.2.2) (if_pos hc88) (if_pos hc88)
      refine wl_val (g_pick_or (b := ((!r78) || (decide (p0[(Int.toNat v49)]!.2.1 < 0)))) (q := (decide (p0[(Int.toNat v49)]!.2.1 ≥ p0[(Int.toNat v49)]!.2.2))) rfl rfl) rfl ?_
      refine wl_val (g_move (v := .bool (((!r78) || (decide (p0[(Int.toNat v49)]!.2.1 < 0))) || (decide (p0[(Int.toNat v49)]!.2.1 ≥ p0[(Int.toNat v49)]!.2.2)))) rfl) rfl ?_
      refine wl_guard (c := (((!r78) || (decide (p0[(Int.toNat v49)]!.2.1 < 0))) || (decide (p0[(Int.toNat v49)]!.2.1 ≥ p0[(Int.toNat v49)]!.2.2))) = false) (val := .pointer (some (((⟨g65, 0, none⟩ : Addr)).add 2))) (b := ((((!r78) || (decide (p0[(Int.toNat v49)]!.2.1 < 0))) || (decide (p0[(Int.toNat v49)]!.2.1 ≥ p0[(Int.toNat v49)]!.2.2))) == false)) (gv_some rfl rfl rfl) beq_iff_eq (fun hc89 => ?_) ?_
      · have hcq5 : ¬ (((((¬ (r78 = true)) ∨ (p0[(Int.toNat v49)]!.2.1 < 0))) ∨ (p0[(Int.toNat v49)]!.2.1 ≥ p0[(Int.toNat v49)]!.2.2))) := (i_neg (i_or (i_or (i_not Iff.rfl) decide_eq_true_iff) decide_eq_true_iff) hc89)
        exact g_fieldAddr (q := (⟨g65, 0, none⟩ : Addr)) FL39_2 ON3 rfl
      refine wl_guard (c := (((!r78) || (decide (p0[(Int.toNat v49)]!.2.1 < 0))) || (decide (p0[(Int.toNat v49)]!.2.1 ≥ p0[(Int.toNat v49)]!.2.2))) = false) (val := .int .i64 (p0[(Int.toNat v49)]!.2.2)) (b := ((((!r78) || (decide (p0[(Int.toNat v49)]!.2.1 < 0))) || (decide (p0[(Int.toNat v49)]!.2.1 ≥ p0[(Int.toNat v49)]!.2.2))) == false)) (gv_some rfl rfl rfl) beq_iff_eq (fun hc90 => ?_) ?_
      · have hcq5 : ¬ (((((¬ (r78 = true)) ∨ (p0[(Int.toNat v49)]!.2.1 < 0))) ∨ (p0[(Int.toNat v49)]!.2.1 ≥ p0[(Int.toNat v49)]!.2.2))) := (i_neg (i_or (i_or (i_not Iff.rfl) decide_eq_true_iff) decide_eq_true_iff) hc90)
        exact q_loadB (i := 2) (bs := #[.int .i64 (p0[(Int.toNat v49)]!.1), .int .i64 (p0[(Int.toNat v49)]!.2.1), .int .i64 (p0[(Int.toNat v49)]!.2.2)]) hS80.g0 ON3 (if_pos hc90) rfl
      refine wl_guard (c := (((!r78) || (decide (p0[(Int.toNat v49)]!.2.1 < 0))) || (decide (p0[(Int.toNat v49)]!.2.1 ≥ p0[(Int.toNat v49)]!.2.2))) = false) (val := .bool (decide (p0[(Int.toNat v49)]!.2.2 > 1000))) (b := ((((!r78) || (decide (p0[(Int.toNat v49)]!.2.1 < 0))) || (decide (p0[(Int.toNat v49)]!.2.1 ≥ p0[(Int.toNat v49)]!.2.2))) == false)) (gv_some rfl rfl rfl) beq_iff_eq (fun hc91 => ?_) ?_
      · have hcq5 : ¬ (((((¬ (r78 = true)) ∨ (p0[(Int.toNat v49)]!.2.1 < 0))) ∨ (p0[(Int.toNat v49)]!.2.1 ≥ p0[(Int.toNat v49)]!.2.2))) := (i_neg (i_or (i_or (i_not Iff.rfl) decide_eq_true_iff) decide_eq_true_iff) hc91)
        exact g_gtr (a := p0[(Int.toNat v49)]!.2.2) (b := 1000) (if_pos hc91) rfl
      refine wl_val (g_pick_or (b := (((!r78) || (decide (p0[(Int.toNat v49)]!.2.1 < 0))) || (decide (p0[(Int.toNat v49)]!.2.1 ≥ p0[(Int.toNat v49)]!.2.2)))) (q := (decide (p0[(Int.toNat v49)]!.2.2 > 1000))) rfl rfl) rfl ?_
      refine wl_nil ?_
      refine hK74 _ _ ?_
      refine w_condI (p := ((((((¬ (r78 = true)) ∨ (p0[(Int.toNat v49)]!.2.1 < 0))) ∨ (p0[(Int.toNat v49)]!.2.1 ≥ p0[(Int.toNat v49)]!.2.2))) ∨ (p0[(Int.toNat v49)]!.2.2 > 1000))) (b := ((((!r78) || (decide (p0[(Int.toNat v49)]!.2.1 < 0))) || (decide (p0[(Int.toNat v49)]!.2.1 ≥ p0[(Int.toNat v49)]!.2.2))) || (decide (p0[(Int.toNat v49)]!.2.2 > 1000)))) rfl (i_or (i_or (i_or (i_not Iff.rfl) decide_eq_true_iff) decide_eq_true_iff) decide_eq_true_iff) (fun h92 => ?_) (fun h92 => ?_)
      · replace hm := hm.1 h92
        refine w_seq fun K93 hK93 => ?_
        refine w_region ?_
        refine wl_val (g_assign (v := .bool false) rfl) rfl ?_
        refine wl_nil ?_
        refine hK93 _ _ ?_
        refine w_ret ?_
        repeat first | with_reducible refine q_then ?_ | with_reducible refine q_block ?_
        exact ret1 rfl (by decide) ⟨_, hm, rfl, toExt hB79⟩
      · replace hm := hm.2 h92
        refine w_skip ?_
        refine hK61 _ _ ?_
        refine w_region ?_
        obtain ⟨hg94, hm⟩ := hm
        refine wl_val (g_add (a := v49) (b := 1) rfl rfl hg94) rfl ?_
        refine wl_val (g_move (v := .int .i64 (v49 + 1)) rfl) rfl ?_
        refine wl_nil ?_
        have hS95 := hS80.tail
        exact ⟨((v49 + 1)), hm.2, ⟨rfl, rfl, rfl, rfl, trivial⟩, ⟨hm.1, hB79, hS95⟩⟩
    · replace hm := hm.2 h60
      refine w_exit ?_
      exact ⟨(), ⟨rfl, trivial⟩, ⟨hm, hB55, hS56⟩⟩
  · rintro _ b_ w96 ⟨hm, hB97, hS98⟩
    show Wp _ _ _ _ (upds b_ [(0, .slice a0 n0 c0)]) w96
    refine w_seq fun K99 hK99 => ?_
    refine w_region ?_
    refine wl_val (g_move (v := .slice a0 n0 c0) rfl) rfl ?_
    refine wl_val (q_len SL26 rfl (Vw.len (hp0.bel hB97))) rfl ?_
    refine wl_val (g_leq (a := (p0.length : Int)) (b := 20) rfl rfl) rfl ?_
    refine wl_val (g_assign (v := .bool (decide ((p0.length : Int) ≤ 20))) rfl) rfl ?_
    refine wl_nil ?_
    refine hK99 _ _ ?_
    refine w_ret ?_
    repeat first | with_reducible refine q_then ?_ | with_reducible refine q_block ?_
    exact ret1 rfl (by decide) ⟨_, hm, rfl, toExt hB97⟩

theorem m_impl_MostAtOnce_fn {w : World} {a0 : Option Addr} {n0 c0 : Nat} {p0 : List Stay} {Q : Int → Prop} (hp0 : Vw w.heap.size w a0 n0 c0 p0) (hm : m_impl_MostAtOnce p0 Q) :
    Fn Try.prog 16 #[.slice a0 n0 c0] w (fun v w' => ∃ (r0 : Int), Q r0 ∧ v = .int .i64 r0 ∧ Ext w w') := by
  unfold m_impl_MostAtOnce at hm
  have hB0 := Below.refl w.heap.size w
  have hS0 : Sep w w.heap.size [] := Sep.nil (Nat.le_refl _)
  refine fn_of_wp Try.func16 rfl (by kernel_rfl) (Nat.le_of_ble_eq_true rfl) ?_
  refine w_seq fun K1 hK1 => ?_
  refine w_region ?_
  refine wl_val (g_assign (v := .int .i64 0) rfl) rfl ?_
  refine wl_nil ?_
  refine hK1 _ _ ?_
  refine w_seq fun K2 hK2 => ?_
  refine w_seq fun K3 hK3 => ?_
  refine w_region ?_
  refine wl_val (g_move (v := .slice a0 n0 c0) rfl) rfl ?_
  refine wl_step rfl (g_call (vs := #[.slice a0 n0 c0]) CF22 (args1 rfl) (m_impl_StaysOk_fn ((hp0.bel hB0).up hS0) hm)) ?_
  rintro _ w4 ⟨r7, hm, rfl, hE5⟩
  have hB8 := hB0.trans (Ext.stp hE5 hS0.base)
  have hS9 := hS0.ext hE5
  refine wl_val (g_not (a := r7) rfl) rfl ?_
  refine wl_nil ?_
  refine hK3 _ _ ?_
  refine w_condI (p := ¬ (r7 = true)) (b := (!r7)) rfl (i_not Iff.rfl) (fun h10 => ?_) (fun h10 => ?_)
  · replace hm := hm.1 h10
    refine w_seq fun K11 hK11 => ?_
    refine w_region ?_
    refine wl_val (g_assign (v := .int .i64 (-1)) rfl) rfl ?_
    refine wl_nil ?_
    refine hK11 _ _ ?_
    refine w_ret ?_
    repeat first | with_reducible refine q_then ?_ | with_reducible refine q_block ?_
    exact ret1 rfl (by decide) ⟨_, hm, rfl, toExt hB8⟩
  · replace hm := hm.2 h10
    refine w_skip ?_
    refine hK2 _ _ ?_
    refine w_seq fun K12 hK12 => ?_
    refine w_region ?_
    refine wl_val (g_assign (v := .int .i64 0) rfl) rfl ?_
    refine wl_nil ?_
    refine hK12 _ _ ?_
    refine w_cut (σ := Int) (fun v299 => [(3, .int .i64 v299)]) (fun v299 w' => m_impl_MostAtOnce_K2 Q v299 ∧ Below w.heap.size w w' ∧ Sep w' w.heap.size []) ?_ ?_
    · refine w_seq fun K301 hK301 => ?_
      refine w_region ?_
      refine wl_val (g_move (v := .slice a0 n0 c0) rfl) rfl ?_
      refine wl_val (q_len SL26 rfl (Vw.len (hp0.bel hB8))) rfl ?_
      refine wl_val (g_move (v := .int .i64 0) rfl) rfl ?_
      refine wl_nil ?_
      refine hK301 _ _ ?_
      refine w_block ?_
      obtain ⟨I304, μ305, h0306, hr307⟩ := hm
      refine w_for (σ := Int × Int) (fun ⟨v302, v303⟩ => [(0, .slice a0 n0 c0), (3, .int .i64 v302), (12, .slice a0 n0 c0), (13, .int .i64 (p0.length : Int)), (14, .int .i64 v303)]) (fun ⟨v302, v303⟩ w' => I304 v302 v303 ∧ Below w.heap.size w w' ∧ Sep w' w.heap.size []) (fun ⟨v302, v303⟩ => μ305 v302 v303) (0, 0) ⟨rfl, rfl, rfl, rfl, rfl, trivial⟩ ⟨h0306, hB8, hS9⟩ ?_
      rintro ⟨v302, v303⟩ b_ w308 ⟨hi_, hB309, hS310⟩
      show Wp _ _ _ _ (upds b_ [(0, .slice a0 n0 c0), (3, .int .i64 v302), (12, .slice a0 n0 c0), (13, .int .i64 (p0.length : Int)), (14, .int .i64 v303)]) w308
      have hm := hr307 v302 v303 hi_
      refine w_seq fun K312 hK312 => ?_
      refine w_region ?_
      refine wl_val (g_lss (a := v303) (b := (p0.length : Int)) rfl rfl) rfl ?_
      refine wl_nil ?_
      refine hK312 _ _ ?_
      refine w_seq fun K313 hK313 => ?_
      refine w_condI (p := v303 < (p0.length : Int)) (b := (decide (v303 < (p0.length : Int)))) rfl decide_eq_true_iff (fun h314 => ?_) (fun h314 => ?_)
      · replace hm := hm.1 h314
        refine w_skip ?_
        refine hK313 _ _ ?_
        refine w_cut (σ := Int) (fun v315 => [(0, .slice a0 n0 c0), (3, .int .i64 v315), (12, .slice a0 n0 c0), (13, .int .i64 (p0.length : Int)), (14, .int .i64 v303)]) (fun v315 w' => m_impl_MostAtOnce_K1 v303 (fun v302' v303' => I304 v302' v303' ∧ μ305 v302' v303' < μ305 v302 v303) v315 ∧ Below w.heap.size w w' ∧ Sep w' w.heap.size []) ?_ ?_
        · refine w_block ?_
          refine w_seq fun K317 hK317 => ?_
          refine w_region ?_
          obtain ⟨hg318, hm⟩ := hm
          refine wl_val (q_index (i := v303) SL26 rfl rfl (hp0.bel hB309) hg318) rfl ?_
          refine wl_val (q_loadS (i := v303) (cs := [.int .i64 (p0[(Int.toNat v303)]!.1), .int .i64 (p0[(Int.toNat v303)]!.2.1), .int .i64 (p0[(Int.toNat v303)]!.2.2)]) AG39 (hp0.bel hB309) hg318 rfl rfl) rfl ?_
          refine wl_step rfl (q_alloc (cs := #[.int .i64 0, .int .i64 0, .int .i64 0]) ZR39 rfl hS310) ?_
          rintro _ w319 ⟨g320, rfl, hS322, hE321⟩
          have hB324 := hB309.trans (Ext.stp hE321 hS310.base)
          refine wl_step rfl (q_storeB (i := 0) (bs' := #[.int .i64 (p0[(Int.toNat v303)]!.1), .int .i64 (p0[(Int.toNat v303)]!.2.1), .int .i64 (p0[(Int.toNat v303)]!.2.2)]) (vs := [.int .i64 (p0[(Int.toNat v303)]!.1), .int .i64 (p0[(Int.toNat v303)]!.2.1), .int .i64 (p0[(Int.toNat v303)]!.2.2)]) hS322 AG39.sz rfl rfl rfl (by simp [Value.oneCell']) (Nat.le_of_ble_eq_true rfl) rfl) ?_
          rintro _ w325 ⟨rfl, hS326, hb327⟩
          have hB328 := hB324.trans hb327
          refine wl_nil ?_
          refine hK317 _ _ ?_
          refine w_seq fun K329 hK329 => ?_
          refine w_region ?_
          refine wl_val (g_assign (v := .int .i64 0) rfl) rfl ?_
          refine wl_nil ?_
          refine hK329 _ _ ?_
          refine w_cut (σ := Int) (fun v330 => [(0, .slice a0 n0 c0), (3, .int .i64 v302), (6, .int .i64 v330), (12, .slice a0 n0 c0), (13, .int .i64 (p0.length : Int)), (14, .int .i64 v303)]) (fun v330 w' => m_impl_MostAtOnce_K0 v302 (m_impl_MostAtOnce_K1 v303 (fun v302' v303' => I304 v302' v303' ∧ μ305 v302' v303' < μ305 v302 v303)) v330 ∧ Below w.heap.size w w' ∧ Sep w' w.heap.size []) ?_ ?_
          · refine w_seq fun K332 hK332 => ?_
            refine w_region ?_
            refine wl_val (g_move (v := .slice a0 n0 c0) rfl) rfl ?_
            refine wl_val (q_len SL26 rfl (Vw.len (hp0.bel hB328))) rfl ?_
            refine wl_val (g_move (v := .int .i64 0) rfl) rfl ?_
            refine wl_nil ?_
            refine hK332 _ _ ?_
            refine w_block ?_
            obtain ⟨I335, μ336, h0337, hr338⟩ := hm
            refine w_for (σ := Int × Int) (fun ⟨v333, v334⟩ => [(0, .slice a0 n0 c0), (3, .int .i64 v302), (5, .pointer (some (⟨g320, 0, none⟩ : Addr))), (6, .int .i64 v333), (12, .slice a0 n0 c0), (13, .int .i64 (p0.length : Int)), (14, .int .i64 v303), (18, .slice a0 n0 c0), (19, .int .i64 (p0.length : Int)), (20, .int .i64 v334)]) (fun ⟨v333, v334⟩ w' => I335 v333 v334 ∧ Below w.heap.size w w' ∧ Sep w' w.heap.size [oB g320 39 #[.int .i64 (p0[(Int.toNat v303)]!.1), .int .i64 (p0[(Int.toNat v303)]!.2.1), .int .i64 (p0[(Int.toNat v303)]!.2.2)]]) (fun ⟨v333, v334⟩ => μ336 v333 v334) (0, 0) ⟨rfl, rfl, rfl, rfl, rfl, rfl, rfl, rfl, rfl, rfl, trivial⟩ ⟨h0337, hB328, hS326⟩ ?_
            rintro ⟨v333, v334⟩ b_ w339 ⟨hi_, hB340, hS341⟩
            show Wp _ _ _ _ (upds b_ [(0, .slice a0 n0 c0), (3, .int .i64 v302), (5, .pointer (some (⟨g320, 0, none⟩ : Addr))), (6, .int .i64 v333), (12, .slice a0 n0 c0), (13, .int .i64 (p0.length : Int)), (14, .int .i64 v303), (18, .slice a0 n0 c0), (19, .int .i64 (p0.length : Int)), (20, .int .i64 v334)]) w339
            have hm := hr338 v333 v334 hi_
            refine w_seq fun K343 hK343 => ?_
            refine w_region ?_
            refine wl_val (g_lss (a := v334) (b := (p0.length : Int)) rfl rfl) rfl ?_
            refine wl_nil ?_
            refine hK343 _ _ ?_
            refine w_seq fun K344 hK344 => ?_
            refine w_condI (p := v334 < (p0.length : Int)) (b := (decide (v334 < (p0.length : Int)))) rfl decide_eq_true_iff (fun h345 => ?_) (fun h345 => ?_)
            · replace hm := hm.1 h345
              refine w_skip ?_
              refine hK344 _ _ ?_
              refine w_seq fun K346 hK346 => ?_
              refine w_block ?_
              refine w_seq fun K347 hK347 => ?_
              refine w_region ?_
              obtain ⟨hg348, hm⟩ := hm
              refine wl_val (q_index (i := v334) SL26 rfl rfl (hp0.bel hB340) hg348) rfl ?_
              refine wl_val (q_loadS (i := v334) (cs := [.int .i64 (p0[(Int.toNat v334)]!.1), .int .i64 (p0[(Int.toNat v334)]!.2.1), .int .i64 (p0[(Int.toNat v334)]!.2.2)]) AG39 (hp0.bel hB340) hg348 rfl rfl) rfl ?_
              refine wl_step rfl (q_alloc (cs := #[.int .i64 0, .int .i64 0, .int .i64 0]) ZR39 rfl hS341) ?_
              rintro _ w349 ⟨g350, rfl, hS352, hE351⟩
              have hB354 := hB340.trans (Ext.stp hE351 hS341.base)
              refine wl_step rfl (q_storeB (i := 0) (bs' := #[.int .i64 (p0[(Int.toNat v334)]!.1), .int .i64 (p0[(Int.toNat v334)]!.2.1), .int .i64 (p0[(Int.toNat v334)]!.2.2)]) (vs := [.int .i64 (p0[(Int.toNat v334)]!.1), .int .i64 (p0[(Int.toNat v334)]!.2.1), .int .i64 (p0[(Int.toNat v334)]!.2.2)]) hS352 AG39.sz rfl rfl rfl (by simp [Value.oneCell']) (Nat.le_of_ble_eq_true rfl) rfl) ?_
              rintro _ w355 ⟨rfl, hS356, hb357⟩
              have hB358 := hB354.trans hb357
              refine wl_nil ?_
              refine hK347 _ _ ?_
              refine w_seq fun K359 hK359 => ?_
              refine w_region ?_
              refine wl_val (g_fieldAddr (q := (⟨g350, 0, none⟩ : Addr)) FL39_1 ON3 rfl) rfl ?_
              refine wl_val (q_loadB (i := 1) (bs := #[.int .i64 (p0[(Int.toNat v334)]!.1), .int .i64 (p0[(Int.toNat v334)]!.2.1), .int .i64 (p0[(Int.toNat v334)]!.2.2)]) hS356.g0 ON3 rfl rfl) rfl ?_
              refine wl_val (g_fieldAddr (q := (⟨g320, 0, none⟩ : Addr)) FL39_1 ON3 rfl) rfl ?_
              refine wl_val (q_loadB (i := 1) (bs := #[.int .i64 (p0[(Int.toNat v303)]!.1), .int .i64 (p0[(Int.toNat v303)]!.2.1), .int .i64 (p0[(Int.toNat v303)]!.2.2)]) hS356.g1 ON3 rfl rfl) rfl ?_
              refine wl_val (g_leq (a := p0[(Int.toNat v334)]!.2.1) (b := p0[(Int.toNat v303)]!.2.1) rfl rfl) rfl ?_
              refine wl_val (g_move (v := .bool (decide (p0[(Int.toNat v334)]!.2.1 ≤ p0[(Int.toNat v303)]!.2.1))) rfl) rfl ?_
              refine wl_guard (c := (decide (p0[(Int.toNat v334)]!.2.1 ≤ p0[(Int.toNat v303)]!.2.1)) = true) (val := .pointer (some (((⟨g320, 0, none⟩ : Addr)).add 1))) (b := ((decide (p0[(Int.toNat v334)]!.2.1 ≤ p0[(Int.toNat v303)]!.2.1)) == true)) (gv_some rfl rfl rfl) beq_iff_eq (fun hc360 => ?_) ?_
              · have hcq5 : p0[(Int.toNat v334)]!.2.1 ≤ p0[(Int.toNat v303)]!.2.1 := (decide_eq_true_iff.mp hc360)
                exact g_fieldAddr (q := (⟨g320, 0, none⟩ : Addr)) FL39_1 ON3 rfl
              refine wl_guard (c := (decide (p0[(Int.toNat v334)]!.2.1 ≤ p0[(Int.toNat v303)]!.2.1)) = true) (val := .int .i64 (p0[(Int.toNat v303)]!.2.1)) (b := ((decide (p0[(Int.toNat v334)]!.2.1 ≤ p0[(Int.toNat v303)]!.2.1)) == true)) (gv_some rfl rfl rfl) beq_iff_eq (fun hc361 => ?_) ?_
              · have hcq5 : p0[(Int.toNat v334)]!.2.1 ≤ p0[(Int.toNat v303)]!.2.1 := (decide_eq_true_iff.mp hc361)
                exact q_loadB (i := 1) (bs := #[.int .i64 (p0[(Int.toNat v303)]!.1), .int .i64 (p0[(Int.toNat v303)]!.2.1), .int .i64 (p0[(Int.toNat v303)]!.2.2)]) hS356.g1 ON3 (if_pos hc361) rfl
              refine wl_guard (c := (decide (p0[(Int.toNat v334)]!.2.1 ≤ p0[(Int.toNat v303)]!.2.1)) = true) (val := .pointer (some (((⟨g350, 0, none⟩ : Addr)).add 2))) (b := ((decide (p0[(Int.toNat v334)]!.2.1 ≤ p0[(Int.toNat v303)]!.2.1)) == true)) (gv_some rfl rfl rfl) beq_iff_eq (fun hc362 => ?_) ?_
              · have hcq5 : p0[(Int.toNat v334)]!.2.1 ≤ p0[(Int.toNat v303)]!.2.1 := (decide_eq_true_iff.mp hc362)
                exact g_fieldAddr (q := (⟨g350, 0, none⟩ : Addr)) FL39_2 ON3 rfl
              refine wl_guard (c := (decide (p0[(Int.toNat v334)]!.2.1 ≤ p0[(Int.toNat v303)]!.2.1)) = true) (val := .int .i64 (p0[(Int.toNat v334)]!.2.2)) (b := ((decide (p0[(Int.toNat v334)]!.2.1 ≤ p0[(Int.toNat v303)]!.2.1)) == true)) (gv_some rfl rfl rfl) beq_iff_eq (fun hc363 => ?_) ?_
              · have hcq5 : p0[(Int.toNat v334)]!.2.1 ≤ p0[(Int.toNat v303)]!.2.1 := (decide_eq_true_iff.mp hc363)
                exact q_loadB (i := 2) (bs := #[.int .i64 (p0[(Int.toNat v334)]!.1), .int .i64 (p0[(Int.toNat v334)]!.2.1), .int .i64 (p0[(Int.toNat v334)]!.2.2)]) hS356.g0 ON3 (if_pos hc363) rfl
              refine wl_guard (c := (decide (p0[(Int.toNat v334)]!.2.1 ≤ p0[(Int.toNat v303)]!.2.1)) = true) (val := .bool (decide (p0[(Int.toNat v303)]!.2.1 < p0[(Int.toNat v334)]!.2.2))) (b := ((decide (p0[(Int.toNat v334)]!.2.1 ≤ p0[(Int.toNat v303)]!.2.1)) == true)) (gv_some rfl rfl rfl) beq_iff_eq (fun hc364 => ?_) ?_
              · have hcq5 : p0[(Int.toNat v334)]!.2.1 ≤ p0[(Int.toNat v303)]!.2.1 := (decide_eq_true_iff.mp hc364)
                exact g_lss (a := p0[(Int.toNat v303)]!.2.1) (b := p0[(Int.toNat v334)]!.2.2) (if_pos hc364) (if_pos hc364)
              refine wl_val (g_pick_and (b := (decide (p0[(Int.toNat v334)]!.2.1 ≤ p0[(Int.toNat v303)]!.2.1))) (q := (decide (p0[(Int.toNat v303)]!.2.1 < p0[(Int.toNat v334)]!.2.2))) rfl rfl) rfl ?_
              refine wl_nil ?_
              refine hK359 _ _ ?_
              refine w_condI (p := ((p0[(Int.toNat v334)]!.2.1 ≤ p0[(Int.toNat v303)]!.2.1) ∧ (p0[(Int.toNat v303)]!.2.1 < p0[(Int.toNat v334)]!.2.2))) (b := ((decide (p0[(Int.toNat v334)]!.2.1 ≤ p0[(Int.toNat v303)]!.2.1)) && (decide (p0[(Int.toNat v303)]!.2.1 < p0[(Int.toNat v334)]!.2.2)))) rfl (i_and decide_eq_true_iff decide_eq_true_iff) (fun h365 => ?_) (fun h365 => ?_)
              · replace hm := hm.1 h365
                refine w_region ?_
                refine wl_val (g_move (v := .int .i64 v333) rfl) rfl ?_
                obtain ⟨hg366, hm⟩ := hm
                refine wl_val (g_add (a := v333) (b := 1) rfl rfl hg366) rfl ?_
                refine wl_val (g_assign (v := .int .i64 (v333 + 1)) rfl) rfl ?_
                refine wl_nil ?_
                refine hK346 _ _ ?_
                refine w_region ?_
                obtain ⟨hg367, hm⟩ := hm
                refine wl_val (g_add (a := v334) (b := 1) rfl rfl hg367) rfl ?_
                refine wl_val (g_move (v := .int .i64 (v334 + 1)) rfl) rfl ?_
                refine wl_nil ?_
                have hS368 := hS356.tail
                exact ⟨((v333 + 1), (v334 + 1)), hm.2, ⟨rfl, rfl, rfl, rfl, rfl, rfl, rfl, rfl, rfl, rfl, trivial⟩, ⟨hm.1, hB358, hS368⟩⟩
              · replace hm := hm.2 h365
                refine w_skip ?_
                refine hK346 _ _ ?_
                refine w_region ?_
                obtain ⟨hg369, hm⟩ := hm
                refine wl_val (g_add (a := v334) (b := 1) rfl rfl hg369) rfl ?_
                refine wl_val (g_move (v := .int .i64 (v334 + 1)) rfl) rfl ?_
                refine wl_nil ?_
                have hS370 := hS356.tail
                exact ⟨(v333, (v334 + 1)), hm.2, ⟨rfl, rfl, rfl, rfl, rfl, rfl, rfl, rfl, rfl, rfl, trivial⟩, ⟨hm.1, hB358, hS370⟩⟩
            · replace hm := hm.2 h345
              refine w_exit ?_
              have hS371 := hS341.tail
              exact ⟨(v333), ⟨rfl, rfl, rfl, rfl, rfl, rfl, trivial⟩, ⟨hm, hB340, hS371⟩⟩
          · rintro v330 b_ w372 ⟨hm, hB373, hS374⟩
            show Wp _ _ _ _ (upds b_ [(0, .slice a0 n0 c0), (3, .int .i64 v302), (6, .int .i64 v330), (12, .slice a0 n0 c0), (13, .int .i64 (p0.length : Int)), (14, .int .i64 v303)]) w372
            refine w_region ?_
            refine wl_val (g_move (v := .int .i64 v302) rfl) rfl ?_
            refine wl_val (g_move (v := .int .i64 v330) rfl) rfl ?_
            refine wl_val (g_max (a := v302) (b := v330) rfl rfl) rfl ?_
            refine wl_val (g_assign (v := .int .i64 (max v302 v330)) rfl) rfl ?_
            refine wl_nil ?_
            exact ⟨((max v302 v330)), ⟨rfl, rfl, rfl, rfl, rfl, trivial⟩, ⟨hm, hB373, hS374⟩⟩
        · rintro v315 b_ w375 ⟨hm, hB376, hS377⟩
          show Wp _ _ _ _ (upds b_ [(0, .slice a0 n0 c0), (3, .int .i64 v315), (12, .slice a0 n0 c0), (13, .int .i64 (p0.length : Int)), (14, .int .i64 v303)]) w375
          refine w_region ?_
          obtain ⟨hg378, hm⟩ := hm
          refine wl_val (g_add (a := v303) (b := 1) rfl rfl hg378) rfl ?_
          refine wl_val (g_move (v := .int .i64 (v303 + 1)) rfl) rfl ?_
          refine wl_nil ?_
          exact ⟨(v315, (v303 + 1)), hm.2, ⟨rfl, rfl, rfl, rfl, rfl, trivial⟩, ⟨hm.1, hB376, hS377⟩⟩
      · replace hm := hm.2 h314
        refine w_exit ?_
        exact ⟨(v302), ⟨rfl, trivial⟩, ⟨hm, hB309, hS310⟩⟩
    · rintro v299 b_ w379 ⟨hm, hB380, hS381⟩
      show Wp _ _ _ _ (upds b_ [(3, .int .i64 v299)]) w379
      refine w_seq fun K382 hK382 => ?_
      refine w_region ?_
      refine wl_val (g_move (v := .int .i64 v299) rfl) rfl ?_
      refine wl_val (g_assign (v := .int .i64 v299) rfl) rfl ?_
      refine wl_nil ?_
      refine hK382 _ _ ?_
      refine w_ret ?_
      repeat first | with_reducible refine q_then ?_ | with_reducible refine q_block ?_
      exact ret1 rfl (by decide) ⟨_, hm, rfl, toExt hB380⟩

theorem m_impl_indexOf_fn {w : World} {a0 : Option Addr} {n0 c0 : Nat} {p0 : List Int} {Q : Int → Prop} (hp0 : Vw w.heap.size w a0 n0 c0 p0) (p1 : Int) (hm : m_impl_indexOf p0 p1 Q) :
    Fn Try.prog 23 #[.slice a0 n0 c0, .int .i64 p1] w (fun v w' => ∃ (r0 : Int), Q r0 ∧ v = .int .i64 r0 ∧ Ext w w') := by
  unfold m_impl_indexOf at hm
  have hB0 := Below.refl w.heap.size w
  have hS0 : Sep w w.heap.size [] := Sep.nil (Nat.le_refl _)
  refine fn_of_wp Try.func23 rfl (by kernel_rfl) (Nat.le_of_ble_eq_true rfl) ?_
  refine w_seq fun K1 hK1 => ?_
  refine w_region ?_
  refine wl_val (g_assign (v := .int .i64 0) rfl) rfl ?_
  refine wl_nil ?_
  refine hK1 _ _ ?_
  refine w_cut (σ := Unit) (fun _ => []) (fun _ w' => m_impl_indexOf_K0 Q ∧ Below w.heap.size w w' ∧ Sep w' w.heap.size []) ?_ ?_
  · refine w_seq fun K3 hK3 => ?_
    refine w_region ?_
    refine wl_val (g_move (v := .slice a0 n0 c0) rfl) rfl ?_
    refine wl_val (q_len SL24 rfl (Vw.len (hp0.bel hB0))) rfl ?_
    refine wl_val (g_move (v := .int .i64 0) rfl) rfl ?_
    refine wl_nil ?_
    refine hK3 _ _ ?_
    refine w_block ?_
    obtain ⟨I23, μ24, h025, hr26⟩ := hm
    refine w_for (σ := Int) (fun v22 => [(1, .int .i64 p1), (7, .slice a0 n0 c0), (8, .int .i64 (p0.length : Int)), (9, .int .i64 v22)]) (fun v22 w' => I23 v22 ∧ Below w.heap.size w w' ∧ Sep w' w.heap.size []) (fun v22 => μ24 v22) (0) ⟨rfl, rfl, rfl, rfl, trivial⟩ ⟨h025, hB0, hS0⟩ ?_
    rintro v22 b_ w27 ⟨hi_, hB28, hS29⟩
    show Wp _ _ _ _ (upds b_ [(1, .int .i64 p1), (7, .slice a0 n0 c0), (8, .int .i64 (p0.length : Int)), (9, .int .i64 v22)]) w27
    have hm := hr26 v22 hi_
    refine w_seq fun K31 hK31 => ?_
    refine w_region ?_
    refine wl_val (g_lss (a := v22) (b := (p0.length : Int)) rfl rfl) rfl ?_
    refine wl_nil ?_
    refine hK31 _ _ ?_
    refine w_seq fun K32 hK32 => ?_
    refine w_condI (p := v22 < (p0.length : Int)) (b := (decide (v22 < (p0.length : Int)))) rfl decide_eq_true_iff (fun h33 => ?_) (fun h33 => ?_)
    · replace hm := hm.1 h33
      refine w_skip ?_
      refine hK32 _ _ ?_
      refine w_seq fun K34 hK34 => ?_
      refine w_block ?_
      refine w_seq fun K35 hK35 => ?_
      refine w_region ?_
      refine wl_val (g_move (v := .int .i64 v22) rfl) rfl ?_
      obtain ⟨hg36, hm⟩ := hm
      refine wl_val (q_index (i := v22) SL24 rfl rfl (hp0.bel hB28) hg36) rfl ?_
      refine wl_val (q_load (i := v22) (v := .int .i64 (p0[(Int.toNat v22)]!)) ON3 (hp0.bel hB28) hg36 rfl rfl) rfl ?_
      refine wl_val (g_assign (v := .int .i64 v22) rfl) rfl ?_
      refine wl_val (g_assign (v := .int .i64 (p0[(Int.toNat v22)]!)) rfl) rfl ?_
      refine wl_nil ?_
      refine hK35 _ _ ?_
      refine w_seq fun K37 hK37 => ?_
      refine w_region ?_
      refine wl_val (g_move (v := .int .i64 (p0[(Int.toNat v22)]!)) rfl) rfl ?_
      refine wl_val (g_move (v := .int .i64 p1) rfl) rfl ?_
      refine wl_val (g_eql (a := p0[(Int.toNat v22)]!) (b := p1) rfl rfl) rfl ?_
      refine wl_nil ?_
      refine hK37 _ _ ?_
      refine w_condI (p := p0[(Int.toNat v22)]! = p1) (b := (decide (p0[(Int.toNat v22)]! = p1))) rfl decide_eq_true_iff (fun h38 => ?_) (fun h38 => ?_)
      · replace hm := hm.1 h38
        refine w_seq fun K39 hK39 => ?_
        refine w_region ?_
        refine wl_val (g_move (v := .int .i64 v22) rfl) rfl ?_
        refine wl_val (g_assign (v := .int .i64 v22) rfl) rfl ?_
        refine wl_nil ?_
        refine hK39 _ _ ?_
        refine w_ret ?_
        repeat first | with_reducible refine q_then ?_ | with_reducible refine q_block ?_
        exact ret1 rfl (by decide) ⟨_, hm, rfl, toExt hB28⟩
      · replace hm := hm.2 h38
        refine w_skip ?_
        refine hK34 _ _ ?_
        refine w_region ?_
        obtain ⟨hg40, hm⟩ := hm
        refine wl_val (g_add (a := v22) (b := 1) rfl rfl hg40) rfl ?_
        refine wl_val (g_move (v := .int .i64 (v22 + 1)) rfl) rfl ?_
        refine wl_nil ?_
        exact ⟨((v22 + 1)), hm.2, ⟨rfl, rfl, rfl, rfl, trivial⟩, ⟨hm.1, hB28, hS29⟩⟩
    · replace hm := hm.2 h33
      refine w_exit ?_
      exact ⟨(), trivial, ⟨hm, hB28, hS29⟩⟩
  · rintro _ b_ w41 ⟨hm, hB42, hS43⟩
    show Wp _ _ _ _ (upds b_ []) w41
    refine w_seq fun K44 hK44 => ?_
    refine w_region ?_
    refine wl_val (g_assign (v := .int .i64 (-1)) rfl) rfl ?_
    refine wl_nil ?_
    refine hK44 _ _ ?_
    refine w_ret ?_
    repeat first | with_reducible refine q_then ?_ | with_reducible refine q_block ?_
    exact ret1 rfl (by decide) ⟨_, hm, rfl, toExt hB42⟩

theorem m_impl_RailsFor_fn {w : World} {a0 : Option Addr} {n0 c0 : Nat} {p0 : List Stay} {Q : (List Int) → Prop} (hp0 : Vw w.heap.size w a0 n0 c0 p0) (hm : m_impl_RailsFor p0 Q) :
    Fn Try.prog 8 #[.slice a0 n0 c0] w (fun v w' => ∃ (r0 : List Int) (a0 : Option Addr) (n0 c0 : Nat), Q r0 ∧ v = .slice a0 n0 c0 ∧ Ext w w' ∧ Sep w' w.heap.size [oS 3 a0 n0 c0 r0]) := by
  unfold m_impl_RailsFor at hm
  have hB0 := Below.refl w.heap.size w
  have hS0 : Sep w w.heap.size [] := Sep.nil (Nat.le_refl _)
  refine fn_of_wp Try.func8 rfl (by kernel_rfl) (Nat.le_of_ble_eq_true rfl) ?_
  refine w_seq fun K1 hK1 => ?_
  refine w_region ?_
  refine wl_val (g_assign (v := .slice none 0 0) rfl) rfl ?_
  refine wl_nil ?_
  refine hK1 _ _ ?_
  refine w_seq fun K2 hK2 => ?_
  refine w_seq fun K3 hK3 => ?_
  refine w_region ?_
  refine wl_val (g_move (v := .slice a0 n0 c0) rfl) rfl ?_
  refine wl_step rfl (g_call (vs := #[.slice a0 n0 c0]) CF22 (args1 rfl) (m_impl_StaysOk_fn ((hp0.bel hB0).up hS0) hm)) ?_
  rintro _ w4 ⟨r7, hm, rfl, hE5⟩
  have hB8 := hB0.trans (Ext.stp hE5 hS0.base)
  have hS9 := hS0.ext hE5
  refine wl_val (g_not (a := r7) rfl) rfl ?_
  refine wl_nil ?_
  refine hK3 _ _ ?_
  refine w_condI (p := ¬ (r7 = true)) (b := (!r7)) rfl (i_not Iff.rfl) (fun h10 => ?_) (fun h10 => ?_)
  · replace hm := hm.1 h10
    refine w_seq fun K11 hK11 => ?_
    refine w_region ?_
    refine wl_val (g_assign (v := .slice none 0 0) rfl) rfl ?_
    refine wl_nil ?_
    refine hK11 _ _ ?_
    refine w_ret ?_
    have hS12 := hS9.nilS (α := Int) (E := 3)
    repeat first | with_reducible refine q_then ?_ | with_reducible refine q_block ?_
    exact ret1 rfl (by decide) ⟨_, _, _, _, hm, rfl, toExt hB8, hS12⟩
  · replace hm := hm.2 h10
    refine w_skip ?_
    refine hK2 _ _ ?_
    refine w_seq fun K14 hK14 => ?_
    refine w_region ?_
    refine wl_step rfl (q_lit0 (α := Int) rfl SL24 hS9) ?_
    rintro _ w15 ⟨a16, rfl, hS18, hE17⟩
    have hB20 := hB8.trans (Ext.stp hE17 hS9.base)
    refine wl_val (g_assign (v := .slice a16 0 0) rfl) rfl ?_
    refine wl_nil ?_
    refine hK14 _ _ ?_
    refine w_cut (σ := List Int × Option Addr × Nat × Nat) (fun ⟨x842, a843, n844, c845⟩ => [(0, .slice a0 n0 c0), (3, .slice a843 n844 c845)]) (fun ⟨x842, a843, n844, c845⟩ w' => m_impl_RailsFor_K5 p0 Q x842 ∧ Below w.heap.size w w' ∧ Sep w' w.heap.size [oS 3 a843 n844 c845 (x842 : List Int)]) ?_ ?_
    · refine w_seq fun K847 hK847 => ?_
      refine w_region ?_
      refine wl_val (g_move (v := .slice a0 n0 c0) rfl) rfl ?_
      refine wl_val (q_len SL26 rfl (Vw.len (hp0.bel hB20))) rfl ?_
      refine wl_val (g_move (v := .int .i64 0) rfl) rfl ?_
      refine wl_nil ?_
      refine hK847 _ _ ?_
      refine w_block ?_
      obtain ⟨I853, μ854, h0855, hr856⟩ := hm
      refine w_for (σ := List Int × Option Addr × Nat × Nat × Int) (fun ⟨x848, a849, n850, c851, v852⟩ => [(0, .slice a0 n0 c0), (3, .slice a849 n850 c851), (17, .slice a0 n0 c0), (18, .int .i64 (p0.length : Int)), (19, .int .i64 v852)]) (fun ⟨x848, a849, n850, c851, v852⟩ w' => I853 x848 v852 ∧ Below w.heap.size w w' ∧ Sep w' w.heap.size [oS 3 a849 n850 c851 (x848 : List Int)]) (fun ⟨x848, a849, n850, c851, v852⟩ => μ854 x848 v852) ([], a16, 0, 0, 0) ⟨rfl, rfl, rfl, rfl, rfl, trivial⟩ ⟨h0855, hB20, hS18⟩ ?_
      rintro ⟨x848, a849, n850, c851, v852⟩ b_ w857 ⟨hi_, hB858, hS859⟩
      show Wp _ _ _ _ (upds b_ [(0, .slice a0 n0 c0), (3, .slice a849 n850 c851), (17, .slice a0 n0 c0), (18, .int .i64 (p0.length : Int)), (19, .int .i64 v852)]) w857
      have hm := hr856 x848 v852 hi_
      refine w_seq fun K861 hK861 => ?_
      refine w_region ?_
      refine wl_val (g_lss (a := v852) (b := (p0.length : Int)) rfl rfl) rfl ?_
      refine wl_nil ?_
      refine hK861 _ _ ?_
      refine w_seq fun K862 hK862 => ?_
      refine w_condI (p := v852 < (p0.length : Int)) (b := (decide (v852 < (p0.length : Int)))) rfl decide_eq_true_iff (fun h863 => ?_) (fun h863 => ?_)
      · replace hm := hm.1 h863
        refine w_skip ?_
        refine hK862 _ _ ?_
        refine w_cut (σ := List Int × Option Addr × Nat × Nat) (fun ⟨x864, a865, n866, c867⟩ => [(0, .slice a0 n0 c0), (3, .slice a865 n866 c867), (17, .slice a0 n0 c0), (18, .int .i64 (p0.length : Int)), (19, .int .i64 v852)]) (fun ⟨x864, a865, n866, c867⟩ w' => m_impl_RailsFor_K1 v852 (fun x848' v852' => I853 x848' v852' ∧ μ854 x848' v852' < μ854 x848 v852) x864 ∧ Below w.heap.size w w' ∧ Sep w' w.heap.size [oS 3 a865 n866 c867 (x864 : List Int)]) ?_ ?_
        · refine w_block ?_
          refine w_seq fun K869 hK869 => ?_
          refine w_region ?_
          refine wl_val (g_move (v := .int .i64 v852) rfl) rfl ?_
          obtain ⟨hg870, hm⟩ := hm
          refine wl_val (q_index (i := v852) SL26 rfl rfl (hp0.bel hB858) hg870) rfl ?_
          refine wl_val (q_loadS (i := v852) (cs := [.int .i64 (p0[(Int.toNat v852)]!.1), .int .i64 (p0[(Int.toNat v852)]!.2.1), .int .i64 (p0[(Int.toNat v852)]!.2.2)]) AG39 (hp0.bel hB858) hg870 rfl rfl) rfl ?_
          refine wl_step rfl (q_alloc (cs := #[.int .i64 0, .int .i64 0, .int .i64 0]) ZR39 rfl hS859) ?_
          rintro _ w871 ⟨g872, rfl, hS874, hE873⟩
          have hB876 := hB858.trans (Ext.stp hE873 hS859.base)
          refine wl_val (g_assign (v := .int .i64 v852) rfl) rfl ?_
          refine wl_step rfl (q_storeB (i := 0) (bs' := #[.int .i64 (p0[(Int.toNat v852)]!.1), .int .i64 (p0[(Int.toNat v852)]!.2.1), .int .i64 (p0[(Int.toNat v852)]!.2.2)]) (vs := [.int .i64 (p0[(Int.toNat v852)]!.1), .int .i64 (p0[(Int.toNat v852)]!.2.1), .int .i64 (p0[(Int.toNat v852)]!.2.2)]) hS874 AG39.sz rfl rfl rfl (by simp [Value.oneCell']) (Nat.le_of_ble_eq_true rfl) rfl) ?_
          rintro _ w877 ⟨rfl, hS878, hb879⟩
          have hB880 := hB876.trans hb879
          refine wl_nil ?_
          refine hK869 _ _ ?_
          refine w_seq fun K881 hK881 => ?_
          refine w_region ?_
          refine wl_val (g_move (v := .slice a849 n850 c851) rfl) rfl ?_
          refine wl_val (q_len SL24 rfl (Vw.len (oS.vw hS878.g1))) rfl ?_
          refine wl_val (g_assign (v := .int .i64 (x848.length : Int)) rfl) rfl ?_
          refine wl_nil ?_
          refine hK881 _ _ ?_
          refine w_cut (σ := Int) (fun v882 => [(0, .slice a0 n0 c0), (3, .slice a849 n850 c851), (4, .int .i64 v852), (6, .int .i64 v882), (17, .slice a0 n0 c0), (18, .int .i64 (p0.length : Int)), (19, .int .i64 v852)]) (fun v882 w' => m_impl_RailsFor_K0 x848 v852 (m_impl_RailsFor_K1 v852 (fun x848' v852' => I853 x848' v852' ∧ μ854 x848' v852' < μ854 x848 v852)) v882 ∧ Below w.heap.size w w' ∧ Sep w' w.heap.size [oS 3 a849 n850 c851 (x848 : List Int)]) ?_ ?_
          · refine w_block ?_
            have hS885 := hS878.f1
            obtain ⟨I886, μ887, h0888, hr889⟩ := hm
            refine w_for (σ := Int) (fun v884 => [(0, .slice a0 n0 c0), (3, .slice a849 n850 c851), (4, .int .i64 v852), (5, .pointer (some (⟨g872, 0, none⟩ : Addr))), (6, .int .i64 v884), (17, .slice a0 n0 c0), (18, .int .i64 (p0.length : Int)), (19, .int .i64 v852)]) (fun v884 w' => I886 v884 ∧ Below w.heap.size w w' ∧ Sep w' w.heap.size [oS 3 a849 n850 c851 (x848 : List Int), oB g872 39 #[.int .i64 (p0[(Int.toNat v852)]!.1), .int .i64 (p0[(Int.toNat v852)]!.2.1), .int .i64 (p0[(Int.toNat v852)]!.2.2)]]) (fun v884 => μ887 v884) ((x848.length : Int)) ⟨rfl, rfl, rfl, rfl, rfl, rfl, rfl, rfl, trivial⟩ ⟨h0888, hB880, hS885⟩ ?_
            rintro v884 b_ w890 ⟨hi_, hB891, hS892⟩
            show Wp _ _ _ _ (upds b_ [(0, .slice a0 n0 c0), (3, .slice a849 n850 c851), (4, .int .i64 v852), (5, .pointer (some (⟨g872, 0, none⟩ : Addr))), (6, .int .i64 v884), (17, .slice a0 n0 c0), (18, .int .i64 (p0.length : Int)), (19, .int .i64 v852)]) w890
            have hm := hr889 v884 hi_
            refine w_seq fun K894 hK894 => ?_
            refine w_seq fun K895 hK895 => ?_
            refine w_draw (X := Ext) (Y := Ext) [] MIX (by decide +kernel) rfl Ext.refl (fun _ _ _ => Ext.trans) (fun _ _ _ => Chg.trans) (fun _ _ h => Ext.chg h _) (fun w896 hE897 => ?_)
            have hB898 := hB891.trans (Ext.stp hE897 hS892.base)
            have hS899 := hS892.ext hE897
            refine ⟨.int .i64 v884, fun w900 hX901 => od_plain rfl (by have hS902 := hS899.ext hX901; have hB903 := hB898.trans (Ext.stp hX901 hS899.base); exact is_ext (g_move (v := .int .i64 v884) rfl)), ?_⟩
            refine ⟨.bool (decide (v884 > 0)), fun w904 hX905 => od_plain rfl (by have hS906 := hS899.ext hX905; have hB907 := hB898.trans (Ext.stp hX905 hS899.base); exact is_ext (g_gtr (a := v884) (b := 0) rfl rfl)), ?_⟩
            refine ⟨.bool (decide (v884 > 0)), fun w908 hX909 => od_plain rfl (by have hS910 := hS899.ext hX909; have hB911 := hB898.trans (Ext.stp hX909 hS899.base); exact is_ext (g_move (v := .bool (decide (v884 > 0))) rfl)), ?_⟩
            refine ⟨if (decide (v884 > 0)) = true then .slice a0 n0 c0 else undef, fun w912 hX913 => od_guard (c := (decide (v884 > 0)) = true) (val := .slice a0 n0 c0) (b := ((decide (v884 > 0)) == true)) (gv_some rfl rfl rfl) beq_iff_eq (fun hc916 => ?_), ?_⟩
            · have hS914 := hS899.ext hX913
              have hB915 := hB898.trans (Ext.stp hX913 hS899.base)
              have hcq5 : v884 > 0 := (decide_eq_true_iff.mp hc916)
              exact is_ext (g_move (v := .slice a0 n0 c0) rfl)
            refine ⟨if (decide (v884 > 0)) = true then .slice a849 n850 c851 else undef, fun w917 hX918 => od_guard (c := (decide (v884 > 0)) = true) (val := .slice a849 n850 c851) (b := ((decide (v884 > 0)) == true)) (gv_some rfl rfl rfl) beq_iff_eq (fun hc921 => ?_), ?_⟩
            · have hS919 := hS899.ext hX918
              have hB920 := hB898.trans (Ext.stp hX918 hS899.base)
              have hcq5 : v884 > 0 := (decide_eq_true_iff.mp hc921)
              exact is_ext (g_move (v := .slice a849 n850 c851) rfl)
            refine ⟨if (decide (v884 > 0)) = true then .int .i64 v884 else undef, fun w922 hX923 => od_guard (c := (decide (v884 > 0)) = true) (val := .int .i64 v884) (b := ((decide (v884 > 0)) == true)) (gv_some rfl rfl rfl) beq_iff_eq (fun hc926 => ?_), ?_⟩
            · have hS924 := hS899.ext hX923
              have hB925 := hB898.trans (Ext.stp hX923 hS899.base)
              have hcq5 : v884 > 0 := (decide_eq_true_iff.mp hc926)
              exact is_ext (g_move (v := .int .i64 v884) rfl)
            obtain ⟨hg932, hm⟩ := hm
            refine ⟨if (decide (v884 > 0)) = true then .int .i64 (v884 - 1) else undef, fun w927 hX928 => od_guard (c := (decide (v884 > 0)) = true) (val := .int .i64 (v884 - 1)) (b := ((decide (v884 > 0)) == true)) (gv_some rfl rfl rfl) beq_iff_eq (fun hc931 => ?_), ?_⟩
            · have hS929 := hS899.ext hX928
              have hB930 := hB898.trans (Ext.stp hX928 hS899.base)
              have hcq5 : v884 > 0 := (decide_eq_true_iff.mp hc931)
              exact is_ext (g_sub (a := v884) (b := 1) (if_pos hc931) rfl (hg932 hcq5))
            obtain ⟨hg938, hm⟩ := hm
            refine ⟨if (decide (v884 > 0)) = true then .pointer (some ((adr a849).add ((Int.toNat (v884 - 1)) * El.m Int))) else undef, fun w933 hX934 => od_guard (c := (decide (v884 > 0)) = true) (val := .pointer (some ((adr a849).add ((Int.toNat (v884 - 1)) * El.m Int)))) (b := ((decide (v884 > 0)) == true)) (gv_some rfl rfl rfl) beq_iff_eq (fun hc937 => ?_), ?_⟩
            · have hS935 := hS899.ext hX934
              have hB936 := hB898.trans (Ext.stp hX934 hS899.base)
              have hcq5 : v884 > 0 := (decide_eq_true_iff.mp hc937)
              exact is_ext (q_index (i := (v884 - 1)) SL24 (if_pos hc937) (if_pos hc937) (oS.vw hS935.g0) (hg938 hcq5))
            refine ⟨if (decide (v884 > 0)) = true then .int .i64 (x848[(Int.toNat (v884 - 1))]!) else undef, fun w939 hX940 => od_guard (c := (decide (v884 > 0)) = true) (val := .int .i64 (x848[(Int.toNat (v884 - 1))]!)) (b := ((decide (v884 > 0)) == true)) (gv_some rfl rfl rfl) beq_iff_eq (fun hc943 => ?_), ?_⟩
            · have hS941 := hS899.ext hX940
              have hB942 := hB898.trans (Ext.stp hX940 hS899.base)
              have hcq5 : v884 > 0 := (decide_eq_true_iff.mp hc943)
              exact is_ext (q_load (i := (v884 - 1)) (v := .int .i64 (x848[(Int.toNat (v884 - 1))]!)) ON3 (oS.vw hS941.g0) (hg938 hcq5) rfl (if_pos hc943))
            obtain ⟨hg949, hm⟩ := hm
            refine ⟨if (decide (v884 > 0)) = true then .pointer (some ((adr a0).add ((Int.toNat (x848[(Int.toNat (v884 - 1))]!)) * El.m Stay))) else undef, fun w944 hX945 => od_guard (c := (decide (v884 > 0)) = true) (val := .pointer (some ((adr a0).add ((Int.toNat (x848[(Int.toNat (v884 - 1))]!)) * El.m Stay)))) (b := ((decide (v884 > 0)) == true)) (gv_some rfl rfl rfl) beq_iff_eq (fun hc948 => ?_), ?_⟩
            · have hS946 := hS899.ext hX945
              have hB947 := hB898.trans (Ext.stp hX945 hS899.base)
              have hcq5 : v884 > 0 := (decide_eq_true_iff.mp hc948)
              exact is_ext (q_index (i := x848[(Int.toNat (v884 - 1))]!) SL26 (if_pos hc948) (if_pos hc948) (hp0.bel hB947) (hg949 hcq5))
            refine ⟨if (decide (v884 > 0)) = true then .pointer (some (((adr a0).add ((Int.toNat (x848[(Int.toNat (v884 - 1))]!)) * El.m Stay)).add 1)) else undef, fun w950 hX951 => od_guard (c := (decide (v884 > 0)) = true) (val := .pointer (some (((adr a0).add ((Int.toNat (x848[(Int.toNat (v884 - 1))]!)) * El.m Stay)).add 1))) (b := ((decide (v884 > 0)) == true)) (gv_some rfl rfl rfl) beq_iff_eq (fun hc954 => ?_), ?_⟩
            · have hS952 := hS899.ext hX951
              have hB953 := hB898.trans (Ext.stp hX951 hS899.base)
              have hcq5 : v884 > 0 := (decide_eq_true_iff.mp hc954)
              exact is_ext (g_fieldAddr (q := (adr a0).add ((Int.toNat (x848[(Int.toNat (v884 - 1))]!)) * El.m Stay)) FL39_1 ON3 (if_pos hc954))
            refine ⟨if (decide (v884 > 0)) = true then .int .i64 (p0[(Int.toNat (x848[(Int.toNat (v884 - 1))]!))]!.2.1) else undef, fun w955 hX956 => od_guard (c := (decide (v884 > 0)) = true) (val := .int .i64 (p0[(Int.toNat (x848[(Int.toNat (v884 - 1))]!))]!.2.1)) (b := ((decide (v884 > 0)) == true)) (gv_some rfl rfl rfl) beq_iff_eq (fun hc959 => ?_), ?_⟩
            · have hS957 := hS899.ext hX956
              have hB958 := hB898.trans (Ext.stp hX956 hS899.base)
              have hcq5 : v884 > 0 := (decide_eq_true_iff.mp hc959)
              exact is_ext (q_loadF (i := x848[(Int.toNat (v884 - 1))]!) (j := 1) (v := .int .i64 (p0[(Int.toNat (x848[(Int.toNat (v884 - 1))]!))]!.2.1)) ON3 (hp0.bel hB958) (hg949 hcq5) rfl (if_pos hc959))
            refine ⟨if (decide (v884 > 0)) = true then .pointer (some (((⟨g872, 0, none⟩ : Addr)).add 1)) else undef, fun w960 hX961 => od_guard (c := (decide (v884 > 0)) = true) (val := .pointer (some (((⟨g872, 0, none⟩ : Addr)).add 1))) (b := ((decide (v884 > 0)) == true)) (gv_some rfl rfl rfl) beq_iff_eq (fun hc964 => ?_), ?_⟩
            · have hS962 := hS899.ext hX961
              have hB963 := hB898.trans (Ext.stp hX961 hS899.base)
              have hcq5 : v884 > 0 := (decide_eq_true_iff.mp hc964)
              exact is_ext (g_fieldAddr (q := (⟨g872, 0, none⟩ : Addr)) FL39_1 ON3 rfl)
            refine ⟨if (decide (v884 > 0)) = true then .int .i64 (p0[(Int.toNat v852)]!.2.1) else undef, fun w965 hX966 => od_guard (c := (decide (v884 > 0)) = true) (val := .int .i64 (p0[(Int.toNat v852)]!.2.1)) (b := ((decide (v884 > 0)) == true)) (gv_some rfl rfl rfl) beq_iff_eq (fun hc969 => ?_), ?_⟩
            · have hS967 := hS899.ext hX966
              have hB968 := hB898.trans (Ext.stp hX966 hS899.base)
              have hcq5 : v884 > 0 := (decide_eq_true_iff.mp hc969)
              exact is_ext (q_loadB (i := 1) (bs := #[.int .i64 (p0[(Int.toNat v852)]!.1), .int .i64 (p0[(Int.toNat v852)]!.2.1), .int .i64 (p0[(Int.toNat v852)]!.2.2)]) hS967.g1 ON3 (if_pos hc969) rfl)
            refine ⟨if (decide (v884 > 0)) = true then .bool (decide (p0[(Int.toNat (x848[(Int.toNat (v884 - 1))]!))]!.2.1 > p0[(Int.toNat v852)]!.2.1)) else undef, fun w970 hX971 => od_guard (c := (decide (v884 > 0)) = true) (val := .bool (decide (p0[(Int.toNat (x848[(Int.toNat (v884 - 1))]!))]!.2.1 > p0[(Int.toNat v852)]!.2.1))) (b := ((decide (v884 > 0)) == true)) (gv_some rfl rfl rfl) beq_iff_eq (fun hc974 => ?_), ?_⟩
            · have hS972 := hS899.ext hX971
              have hB973 := hB898.trans (Ext.stp hX971 hS899.base)
              have hcq5 : v884 > 0 := (decide_eq_true_iff.mp hc974)
              exact is_ext (g_gtr (a := p0[(Int.toNat (x848[(Int.toNat (v884 - 1))]!))]!.2.1) (b := p0[(Int.toNat v852)]!.2.1) (if_pos hc974) (if_pos hc974))
            refine ⟨.bool ((decide (v884 > 0)) && (decide (p0[(Int.toNat (x848[(Int.toNat (v884 - 1))]!))]!.2.1 > p0[(Int.toNat v852)]!.2.1))), fun w975 hX976 => od_plain rfl (by have hS977 := hS899.ext hX976; have hB978 := hB898.trans (Ext.stp hX976 hS899.base); exact is_ext (g_pick_and (b := (decide (v884 > 0))) (q := (decide (p0[(Int.toNat (x848[(Int.toNat (v884 - 1))]!))]!.2.1 > p0[(Int.toNat v852)]!.2.1))) rfl rfl)), ?_⟩
            intro w979 hX980
            have hB981 := hB898.trans (Ext.stp hX980 hS899.base)
            have hS982 := hS899.ext hX980
            refine hK895 _ _ ?_
            refine w_condI (p := ((v884 > 0) ∧ (p0[(Int.toNat (x848[(Int.toNat (v884 - 1))]!))]!.2.1 > p0[(Int.toNat v852)]!.2.1))) (b := ((decide (v884 > 0)) && (decide (p0[(Int.toNat (x848[(Int.toNat (v884 - 1))]!))]!.2.1 > p0[(Int.toNat v852)]!.2.1)))) rfl (i_and decide_eq_true_iff decide_eq_true_iff) (fun h983 => ?_) (fun h983 => ?_)
            · replace hm := hm.1 h983
              refine w_skip ?_
              refine hK894 _ _ ?_
              refine w_block ?_
              refine w_region ?_
              refine wl_val (g_move (v := .int .i64 v884) rfl) rfl ?_
              obtain ⟨hg984, hm⟩ := hm
              refine wl_val (g_sub (a := v884) (b := 1) rfl rfl hg984) rfl ?_
              refine wl_val (g_assign (v := .int .i64 (v884 - 1)) rfl) rfl ?_
              refine wl_nil ?_
              exact ⟨((v884 - 1)), hm.2, ⟨rfl, rfl, rfl, rfl, rfl, rfl, rfl, rfl, trivial⟩, ⟨hm.1, hB981, hS982⟩⟩
            · replace hm := hm.2 h983
              refine w_exit ?_
              have hS985 := hS982.f1
              have hS986 := hS985.tail
              exact ⟨(v884), ⟨rfl, rfl, rfl, rfl, rfl, rfl, rfl, trivial⟩, ⟨hm, hB981, hS986⟩⟩
          · rintro v882 b_ w987 ⟨hm, hB988, hS989⟩
            show Wp _ _ _ _ (upds b_ [(0, .slice a0 n0 c0), (3, .slice a849 n850 c851), (4, .int .i64 v852), (6, .int .i64 v882), (17, .slice a0 n0 c0), (18, .int .i64 (p0.length : Int)), (19, .int .i64 v852)]) w987
            refine w_seq fun K990 hK990 => ?_
            refine w_region ?_
            refine wl_val (g_move (v := .slice a849 n850 c851) rfl) rfl ?_
            refine wl_step rfl (q_lit1 (y := (0 : Int)) SL24 rfl rfl (by decide) hS989) ?_
            rintro _ w991 ⟨a992, rfl, hS994, hE993⟩
            have hB996 := hB988.trans (Ext.stp hE993 hS989.base)
            have hS1002 := hS994.f1
            obtain ⟨hg1003, hm⟩ := hm
            refine wl_step rfl (q_append SL24 rfl rfl hS1002 (oS.vw hS1002.g1) hg1003 (by decide)) ?_
            rintro _ w997 ⟨a998, c999, rfl, hS1001, hb1000⟩
            have hB1004 := hB996.trans hb1000
            refine wl_val (g_assign (v := .slice a998 (n850 + 1) c999) rfl) rfl ?_
            refine wl_nil ?_
            refine hK990 _ _ ?_
            refine w_seq fun K1005 hK1005 => ?_
            refine w_draw (X := Ext) (Y := Ext) [0, 0, 0, 0, 0, 0, 0, 1] MIX (by decide +kernel) rfl Ext.refl (fun _ _ _ => Ext.trans) (fun _ _ _ => Chg.trans) (fun _ _ h => Ext.chg h _) (fun w1006 hE1007 => ?_)
            have hB1008 := hB1004.trans (Ext.stp hE1007 hS1001.base)
            have hS1009 := hS1001.ext hE1007
            refine ⟨.slice a998 (n850 + 1) c999, fun w1010 hX1011 => od_plain rfl (by have hS1012 := hS1009.ext hX1011; have hB1013 := hB1008.trans (Ext.stp hX1011 hS1009.base); exact is_ext (g_move (v := .slice a998 (n850 + 1) c999) rfl)), ?_⟩
            refine ⟨.int .i64 v882, fun w1014 hX1015 => od_plain rfl (by have hS1016 := hS1009.ext hX1015; have hB1017 := hB1008.trans (Ext.stp hX1015 hS1009.base); exact is_ext (g_move (v := .int .i64 v882) rfl)), ?_⟩
            obtain ⟨hg1022, hm⟩ := hm
            refine ⟨.int .i64 (v882 + 1), fun w1018 hX1019 => od_plain rfl (by have hS1020 := hS1009.ext hX1019; have hB1021 := hB1008.trans (Ext.stp hX1019 hS1009.base); exact is_ext (g_add (a := v882) (b := 1) rfl rfl hg1022)), ?_⟩
            obtain ⟨hg1027, hm⟩ := hm
            refine ⟨.slice (if c999 = (Int.toNat (v882 + 1)) then a998 else a998.map (·.add ((Int.toNat (v882 + 1)) * El.m Int))) ((n850 + 1) - (Int.toNat (v882 + 1))) (c999 - (Int.toNat (v882 + 1))), fun w1023 hX1024 => od_plain rfl (by have hS1025 := hS1009.ext hX1024; have hB1026 := hB1008.trans (Ext.stp hX1024 hS1009.base); exact is_ext (q_sliceL (l := (v882 + 1)) SL24 rfl rfl (oS.vw hS1025.g0) hg1027)), ?_⟩
            refine ⟨.slice a998 (n850 + 1) c999, fun w1028 hX1029 => od_plain rfl (by have hS1030 := hS1009.ext hX1029; have hB1031 := hB1008.trans (Ext.stp hX1029 hS1009.base); exact is_ext (g_move (v := .slice a998 (n850 + 1) c999) rfl)), ?_⟩
            refine ⟨.int .i64 v882, fun w1032 hX1033 => od_plain rfl (by have hS1034 := hS1009.ext hX1033; have hB1035 := hB1008.trans (Ext.stp hX1033 hS1009.base); exact is_ext (g_move (v := .int .i64 v882) rfl)), ?_⟩
            obtain ⟨hg1040, hm⟩ := hm
            refine ⟨.slice (if c999 = (Int.toNat v882) then a998 else a998.map (·.add ((Int.toNat v882) * El.m Int))) ((n850 + 1) - (Int.toNat v882)) (c999 - (Int.toNat v882)), fun w1036 hX1037 => od_plain rfl (by have hS1038 := hS1009.ext hX1037; have hB1039 := hB1008.trans (Ext.stp hX1037 hS1009.base); exact is_ext (q_sliceL (l := v882) SL24 rfl rfl (oS.vw hS1038.g0) hg1040)), ?_⟩
            intro w1041 hX1042
            have hB1043 := hB1008.trans (Ext.stp hX1042 hS1009.base)
            have hS1044 := hS1009.ext hX1042
            refine ⟨_, od_plain rfl (q_copy (l := (Int.toNat (v882 + 1))) SL24 hS1044 (tn_le hg1027) rfl rfl (Vw.drop (oS.vw hS1044.g0) (Int.toNat v882) (tn_le hg1040))), ?_⟩
            rintro _ w1045 ⟨rfl, hS1047, hb1046⟩
            have hB1048 := hB1043.trans hb1046
            intro w1049 hX1050
            have hB1051 := hB1048.trans (Ext.stp hX1050 hS1047.base)
            have hS1052 := hS1047.ext hX1050
            refine hK1005 _ _ ?_
            refine w_region ?_
            refine wl_val (g_move (v := .slice a998 (n850 + 1) c999) rfl) rfl ?_
            refine wl_val (g_move (v := .int .i64 v882) rfl) rfl ?_
            refine wl_val (g_move (v := .int .i64 v852) rfl) rfl ?_
            obtain ⟨hg1053, hm⟩ := hm
            refine wl_val (q_index (i := v882) SL24 rfl rfl (oS.vw hS1052.g0) hg1053) rfl ?_
            refine wl_step rfl (q_store (i := v882) (v := (v852 : Int)) hS1052 ON3.sz hg1053 rfl rfl rfl) ?_
            rintro _ w1054 ⟨rfl, hS1055, hb1056⟩
            have hB1057 := hB1051.trans hb1056
            refine wl_nil ?_
            have hS1058 := hS1055.f1
            have hS1059 := hS1058.tail
            exact ⟨(((cpL (x848 ++ ([0])) (Int.toNat (v882 + 1)) ((x848 ++ ([0])).drop (Int.toNat v882))).set (Int.toNat v882) v852), a998, (n850 + 1), c999), ⟨rfl, rfl, rfl, rfl, rfl, trivial⟩, ⟨hm, hB1057, hS1059⟩⟩
        · rintro ⟨x864, a865, n866, c867⟩ b_ w1060 ⟨hm, hB1061, hS1062⟩
          show Wp _ _ _ _ (upds b_ [(0, .slice a0 n0 c0), (3, .slice a865 n866 c867), (17, .slice a0 n0 c0), (18, .int .i64 (p0.length : Int)), (19, .int .i64 v852)]) w1060
          refine w_region ?_
          obtain ⟨hg1063, hm⟩ := hm
          refine wl_val (g_add (a := v852) (b := 1) rfl rfl hg1063) rfl ?_
          refine wl_val (g_move (v := .int .i64 (v852 + 1)) rfl) rfl ?_
          refine wl_nil ?_
          exact ⟨(x864, a865, n866, c867, (v852 + 1)), hm.2, ⟨rfl, rfl, rfl, rfl, rfl, trivial⟩, ⟨hm.1, hB1061, hS1062⟩⟩
      · replace hm := hm.2 h863
        refine w_exit ?_
        exact ⟨(x848, a849, n850, c851), ⟨rfl, rfl, trivial⟩, ⟨hm, hB858, hS859⟩⟩
    · rintro ⟨x842, a843, n844, c845⟩ b_ w1064 ⟨hm, hB1065, hS1066⟩
      show Wp _ _ _ _ (upds b_ [(0, .slice a0 n0 c0), (3, .slice a843 n844 c845)]) w1064
      refine w_seq fun K1067 hK1067 => ?_
      refine w_region ?_
      refine wl_val (g_move (v := .slice a0 n0 c0) rfl) rfl ?_
      refine wl_val (q_len SL26 rfl (Vw.len (hp0.bel hB1065))) rfl ?_
      obtain ⟨hg1068, hm⟩ := hm
      refine wl_step rfl (q_make (y := (0 : Int)) SL24 rfl rfl hg1068.1 hg1068.2 (by decide) hS1066) ?_
      rintro _ w1069 ⟨a1070, rfl, hS1072, hE1071⟩
      have hB1074 := hB1065.trans (Ext.stp hE1071 hS1066.base)
      refine wl_val (g_assign (v := .slice a1070 (Int.toNat (p0.length : Int)) (Int.toNat (p0.length : Int))) rfl) rfl ?_
      refine wl_nil ?_
      refine hK1067 _ _ ?_
      refine w_cut (σ := List Int) (fun x2101 => [(7, .slice a1070 (Int.toNat (p0.length : Int)) (Int.toNat (p0.length : Int)))]) (fun x2101 w' => m_impl_RailsFor_K4 Q x2101 ∧ Below w.heap.size w w' ∧ Sep w' w.heap.size [oS 3 a1070 (Int.toNat (p0.length : Int)) (Int.toNat (p0.length : Int)) (x2101 : List Int)]) ?_ ?_
      · refine w_seq fun K2103 hK2103 => ?_
        refine w_region ?_
        refine wl_val (g_move (v := .slice a843 n844 c845) rfl) rfl ?_
        refine wl_val (q_len SL24 rfl (Vw.len (oS.vw hS1072.g1))) rfl ?_
        refine wl_val (g_move (v := .int .i64 0) rfl) rfl ?_
        refine wl_nil ?_
        refine hK2103 _ _ ?_
        refine w_block ?_
        have hS2106 := hS1072.f1
        obtain ⟨I2107, μ2108, h02109, hr2110⟩ := hm
        refine w_for (σ := List Int × Int) (fun ⟨x2104, v2105⟩ => [(0, .slice a0 n0 c0), (3, .slice a843 n844 c845), (7, .slice a1070 (Int.toNat (p0.length : Int)) (Int.toNat (p0.length : Int))), (63, .slice a843 n844 c845), (64, .int .i64 (x842.length : Int)), (65, .int .i64 v2105)]) (fun ⟨x2104, v2105⟩ w' => I2107 x2104 v2105 ∧ Below w.heap.size w w' ∧ Sep w' w.heap.size [oS 3 a843 n844 c845 (x842 : List Int), oS 3 a1070 (Int.toNat (p0.length : Int)) (Int.toNat (p0.length : Int)) (x2104 : List Int)]) (fun ⟨x2104, v2105⟩ => μ2108 x2104 v2105) (List.replicate (Int.toNat (p0.length : Int)) (0 : Int), 0) ⟨rfl, rfl, rfl, rfl, rfl, rfl, trivial⟩ ⟨h02109, hB1074, hS2106⟩ ?_
        rintro ⟨x2104, v2105⟩ b_ w2111 ⟨hi_, hB2112, hS2113⟩
        show Wp _ _ _ _ (upds b_ [(0, .slice a0 n0 c0), (3, .slice a843 n844 c845), (7, .slice a1070 (Int.toNat (p0.length : Int)) (Int.toNat (p0.length : Int))), (63, .slice a843 n844 c845), (64, .int .i64 (x842.length : Int)), (65, .int .i64 v2105)]) w2111
        have hm := hr2110 x2104 v2105 hi_
        refine w_seq fun K2115 hK2115 => ?_
        refine w_region ?_
        refine wl_val (g_lss (a := v2105) (b := (x842.length : Int)) rfl rfl) rfl ?_
        refine wl_nil ?_
        refine hK2115 _ _ ?_
        refine w_seq fun K2116 hK2116 => ?_
        refine w_condI (p := v2105 < (x842.length : Int)) (b := (decide (v2105 < (x842.length : Int)))) rfl decide_eq_true_iff (fun h2117 => ?_) (fun h2117 => ?_)
        · replace hm := hm.1 h2117
          refine w_skip ?_
          refine hK2116 _ _ ?_
          refine w_cut (σ := List Int) (fun x2118 => [(0, .slice a0 n0 c0), (3, .slice a843 n844 c845), (7, .slice a1070 (Int.toNat (p0.length : Int)) (Int.toNat (p0.length : Int))), (63, .slice a843 n844 c845), (64, .int .i64 (x842.length : Int)), (65, .int .i64 v2105)]) (fun x2118 w' => m_impl_RailsFor_K3 v2105 (fun x2104' v2105' => I2107 x2104' v2105' ∧ μ2108 x2104' v2105' < μ2108 x2104 v2105) x2118 ∧ Below w.heap.size w w' ∧ Sep w' w.heap.size [oS 3 a843 n844 c845 (x842 : List Int), oS 3 a1070 (Int.toNat (p0.length : Int)) (Int.toNat (p0.length : Int)) (x2118 : List Int)]) ?_ ?_
          · refine w_block ?_
            refine w_seq fun K2120 hK2120 => ?_
            refine w_region ?_
            refine wl_val (g_move (v := .int .i64 v2105) rfl) rfl ?_
            obtain ⟨hg2121, hm⟩ := hm
            refine wl_val (q_index (i := v2105) SL24 rfl rfl (oS.vw hS2113.g0) hg2121) rfl ?_
            refine wl_val (q_load (i := v2105) (v := .int .i64 (x842[(Int.toNat v2105)]!)) ON3 (oS.vw hS2113.g0) hg2121 rfl rfl) rfl ?_
            refine wl_val (g_assign (v := .int .i64 v2105) rfl) rfl ?_
            refine wl_val (g_assign (v := .int .i64 (x842[(Int.toNat v2105)]!)) rfl) rfl ?_
            refine wl_nil ?_
            refine hK2120 _ _ ?_
            refine w_seq fun K2122 hK2122 => ?_
            refine w_region ?_
            refine wl_step rfl (q_lit0 (α := Int) rfl SL24 hS2113) ?_
            rintro _ w2123 ⟨a2124, rfl, hS2126, hE2125⟩
            have hB2128 := hB2112.trans (Ext.stp hE2125 hS2113.base)
            refine wl_val (g_assign (v := .slice a2124 0 0) rfl) rfl ?_
            refine wl_nil ?_
            refine hK2122 _ _ ?_
            refine w_cut (σ := List Int × Option Addr × Nat × Nat) (fun ⟨x2129, a2130, n2131, c2132⟩ => [(0, .slice a0 n0 c0), (3, .slice a843 n844 c845), (7, .slice a1070 (Int.toNat (p0.length : Int)) (Int.toNat (p0.length : Int))), (9, .int .i64 (x842[(Int.toNat v2105)]!)), (10, .slice a2130 n2131 c2132), (63, .slice a843 n844 c845), (64, .int .i64 (x842.length : Int)), (65, .int .i64 v2105)]) (fun ⟨x2129, a2130, n2131, c2132⟩ w' => m_impl_RailsFor_K2 x842 x2104 v2105 (m_impl_RailsFor_K3 v2105 (fun x2104' v2105' => I2107 x2104' v2105' ∧ μ2108 x2104' v2105' < μ2108 x2104 v2105)) x2129 ∧ Below w.heap.size w w' ∧ Sep w' w.heap.size [oS 3 a843 n844 c845 (x842 : List Int), oS 3 a1070 (Int.toNat (p0.length : Int)) (Int.toNat (p0.length : Int)) (x2104 : List Int), oS 3 a2130 n2131 c2132 (x2129 : List Int)]) ?_ ?_
            · refine w_seq fun K2134 hK2134 => ?_
              refine w_region ?_
              refine wl_val (g_move (v := .slice a843 n844 c845) rfl) rfl ?_
              refine wl_val (g_move (v := .int .i64 v2105) rfl) rfl ?_
              obtain ⟨hg2135, hm⟩ := hm
              refine wl_val (q_sliceH (h := v2105) SL24 rfl rfl (oS.vw hS2126.g1) hg2135) rfl ?_
              refine wl_val (q_len SL24 rfl (Vw.len (Vw.take (oS.vw hS2126.g1) (Int.toNat v2105) (tn_le hg2135)))) rfl ?_
              refine wl_val (g_move (v := .int .i64 0) rfl) rfl ?_
              refine wl_nil ?_
              refine hK2134 _ _ ?_
              refine w_block ?_
              have hS2141 := hS2126.f2
              have hS2142 := hS2141.f2
              obtain ⟨I2143, μ2144, h02145, hr2146⟩ := hm
              refine w_for (σ := List Int × Option Addr × Nat × Nat × Int) (fun ⟨x2136, a2137, n2138, c2139, v2140⟩ => [(0, .slice a0 n0 c0), (3, .slice a843 n844 c845), (7, .slice a1070 (Int.toNat (p0.length : Int)) (Int.toNat (p0.length : Int))), (9, .int .i64 (x842[(Int.toNat v2105)]!)), (10, .slice a2137 n2138 c2139), (63, .slice a843 n844 c845), (64, .int .i64 (x842.length : Int)), (65, .int .i64 v2105), (73, .slice a843 (Int.toNat v2105) c845), (74, .int .i64 ((x842.take (Int.toNat v2105)).length : Int)), (75, .int .i64 v2140)]) (fun ⟨x2136, a2137, n2138, c2139, v2140⟩ w' => I2143 x2136 v2140 ∧ Below w.heap.size w w' ∧ Sep w' w.heap.size [oS 3 a843 n844 c845 (x842 : List Int), oS 3 a1070 (Int.toNat (p0.length : Int)) (Int.toNat (p0.length : Int)) (x2104 : List Int), oS 3 a2137 n2138 c2139 (x2136 : List Int)]) (fun ⟨x2136, a2137, n2138, c2139, v2140⟩ => μ2144 x2136 v2140) ([], a2124, 0, 0, 0) ⟨rfl, rfl, rfl, rfl, rfl, rfl, rfl, rfl, rfl, rfl, rfl, trivial⟩ ⟨h02145, hB2128, hS2142⟩ ?_
              rintro ⟨x2136, a2137, n2138, c2139, v2140⟩ b_ w2147 ⟨hi_, hB2148, hS2149⟩
              show Wp _ _ _ _ (upds b_ [(0, .slice a0 n0 c0), (3, .slice a843 n844 c845), (7, .slice a1070 (Int.toNat (p0.length : Int)) (Int.toNat (p0.length : Int))), (9, .int .i64 (x842[(Int.toNat v2105)]!)), (10, .slice a2137 n2138 c2139), (63, .slice a843 n844 c845), (64, .int .i64 (x842.length : Int)), (65, .int .i64 v2105), (73, .slice a843 (Int.toNat v2105) c845), (74, .int .i64 ((x842.take (Int.toNat v2105)).length : Int)), (75, .int .i64 v2140)]) w2147
              have hm := hr2146 x2136 v2140 hi_
              refine w_seq fun K2151 hK2151 => ?_
              refine w_region ?_
              refine wl_val (g_lss (a := v2140) (b := ((x842.take (Int.toNat v2105)).length : Int)) rfl rfl) rfl ?_
              refine wl_nil ?_
              refine hK2151 _ _ ?_
              refine w_seq fun K2152 hK2152 => ?_
              refine w_condI (p := v2140 < ((x842.take (Int.toNat v2105)).length : Int)) (b := (decide (v2140 < ((x842.take (Int.toNat v2105)).length : Int)))) rfl decide_eq_true_iff (fun h2153 => ?_) (fun h2153 => ?_)
              · replace hm := hm.1 h2153
                refine w_skip ?_
                refine hK2152 _ _ ?_
                refine w_seq fun K2154 hK2154 => ?_
                refine w_block ?_
                refine w_seq fun K2155 hK2155 => ?_
                refine w_region ?_
                obtain ⟨hg2156, hm⟩ := hm
                refine wl_val (q_index (i := v2140) SL24 rfl rfl (Vw.take (oS.vw hS2149.g0) (Int.toNat v2105) (tn_le hg2135)) hg2156) rfl ?_
                refine wl_val (q_load (i := v2140) (v := .int .i64 ((x842.take (Int.toNat v2105))[(Int.toNat v2140)]!)) ON3 (Vw.take (oS.vw hS2149.g0) (Int.toNat v2105) (tn_le hg2135)) hg2156 rfl rfl) rfl ?_
                refine wl_val (g_assign (v := .int .i64 ((x842.take (Int.toNat v2105))[(Int.toNat v2140)]!)) rfl) rfl ?_
                refine wl_nil ?_
                refine hK2155 _ _ ?_
                refine w_seq fun K2157 hK2157 => ?_
                refine w_draw (X := Ext) (Y := Ext) [] MIX (by decide +kernel) rfl Ext.refl (fun _ _ _ => Ext.trans) (fun _ _ _ => Chg.trans) (fun _ _ h => Ext.chg h _) (fun w2158 hE2159 => ?_)
                have hB2160 := hB2148.trans (Ext.stp hE2159 hS2149.base)
                have hS2161 := hS2149.ext hE2159
                refine ⟨.slice a0 n0 c0, fun w2162 hX2163 => od_plain rfl (by have hS2164 := hS2161.ext hX2163; have hB2165 := hB2160.trans (Ext.stp hX2163 hS2161.base); exact is_ext (g_move (v := .slice a0 n0 c0) rfl)), ?_⟩
                refine ⟨.int .i64 ((x842.take (Int.toNat v2105))[(Int.toNat v2140)]!), fun w2166 hX2167 => od_plain rfl (by have hS2168 := hS2161.ext hX2167; have hB2169 := hB2160.trans (Ext.stp hX2167 hS2161.base); exact is_ext (g_move (v := .int .i64 ((x842.take (Int.toNat v2105))[(Int.toNat v2140)]!)) rfl)), ?_⟩
                obtain ⟨hg2174, hm⟩ := hm
                refine ⟨.pointer (some ((adr a0).add ((Int.toNat ((x842.take (Int.toNat v2105))[(Int.toNat v2140)]!)) * El.m Stay))), fun w2170 hX2171 => od_plain rfl (by have hS2172 := hS2161.ext hX2171; have hB2173 := hB2160.trans (Ext.stp hX2171 hS2161.base); exact is_ext (q_index (i := (x842.take (Int.toNat v2105))[(Int.toNat v2140)]!) SL26 rfl rfl (hp0.bel hB2173) hg2174)), ?_⟩
                refine ⟨.pointer (some (((adr a0).add ((Int.toNat ((x842.take (Int.toNat v2105))[(Int.toNat v2140)]!)) * El.m Stay)).add 1)), fun w2175 hX2176 => od_plain rfl (by have hS2177 := hS2161.ext hX2176; have hB2178 := hB2160.trans (Ext.stp hX2176 hS2161.base); exact is_ext (g_fieldAddr (q := (adr a0).add ((Int.toNat ((x842.take (Int.toNat v2105))[(Int.toNat v2140)]!)) * El.m Stay)) FL39_1 ON3 rfl)), ?_⟩
                refine ⟨.int .i64 (p0[(Int.toNat ((x842.take (Int.toNat v2105))[(Int.toNat v2140)]!))]!.2.1), fun w2179 hX2180 => od_plain rfl (by have hS2181 := hS2161.ext hX2180; have hB2182 := hB2160.trans (Ext.stp hX2180 hS2161.base); exact is_ext (q_loadF (i := (x842.take (Int.toNat v2105))[(Int.toNat v2140)]!) (j := 1) (v := .int .i64 (p0[(Int.toNat ((x842.take (Int.toNat v2105))[(Int.toNat v2140)]!))]!.2.1)) ON3 (hp0.bel hB2182) hg2174 rfl rfl)), ?_⟩
                refine ⟨.slice a0 n0 c0, fun w2183 hX2184 => od_plain rfl (by have hS2185 := hS2161.ext hX2184; have hB2186 := hB2160.trans (Ext.stp hX2184 hS2161.base); exact is_ext (g_move (v := .slice a0 n0 c0) rfl)), ?_⟩
                refine ⟨.int .i64 (x842[(Int.toNat v2105)]!), fun w2187 hX2188 => od_plain rfl (by have hS2189 := hS2161.ext hX2188; have hB2190 := hB2160.trans (Ext.stp hX2188 hS2161.base); exact is_ext (g_move (v := .int .i64 (x842[(Int.toNat v2105)]!)) rfl)), ?_⟩
                obtain ⟨hg2195, hm⟩ := hm
                refine ⟨.pointer (some ((adr a0).add ((Int.toNat (x842[(Int.toNat v2105)]!)) * El.m Stay))), fun w2191 hX2192 => od_plain rfl (by have hS2193 := hS2161.ext hX2192; have hB2194 := hB2160.trans (Ext.stp hX2192 hS2161.base); exact is_ext (q_index (i := x842[(Int.toNat v2105)]!) SL26 rfl rfl (hp0.bel hB2194) hg2195)), ?_⟩
                refine ⟨.pointer (some (((adr a0).add ((Int.toNat (x842[(Int.toNat v2105)]!)) * El.m Stay)).add 2)), fun w2196 hX2197 => od_plain rfl (by have hS2198 := hS2161.ext hX2197; have hB2199 := hB2160.trans (Ext.stp hX2197 hS2161.base); exact is_ext (g_fieldAddr (q := (adr a0).add ((Int.toNat (x842[(Int.toNat v2105)]!)) * El.m Stay)) FL39_2 ON3 rfl)), ?_⟩
                refine ⟨.int .i64 (p0[(Int.toNat (x842[(Int.toNat v2105)]!))]!.2.2), fun w2200 hX2201 => od_plain rfl (by have hS2202 := hS2161.ext hX2201; have hB2203 := hB2160.trans (Ext.stp hX2201 hS2161.base); exact is_ext (q_loadF (i := x842[(Int.toNat v2105)]!) (j := 2) (v := .int .i64 (p0[(Int.toNat (x842[(Int.toNat v2105)]!))]!.2.2)) ON3 (hp0.bel hB2203) hg2195 rfl rfl)), ?_⟩
                refine ⟨.bool (decide (p0[(Int.toNat ((x842.take (Int.toNat v2105))[(Int.toNat v2140)]!))]!.2.1 < p0[(Int.toNat (x842[(Int.toNat v2105)]!))]!.2.2)), fun w2204 hX2205 => od_plain rfl (by have hS2206 := hS2161.ext hX2205; have hB2207 := hB2160.trans (Ext.stp hX2205 hS2161.base); exact is_ext (g_lss (a := p0[(Int.toNat ((x842.take (Int.toNat v2105))[(Int.toNat v2140)]!))]!.2.1) (b := p0[(Int.toNat (x842[(Int.toNat v2105)]!))]!.2.2) rfl rfl)), ?_⟩
                refine ⟨.bool (decide (p0[(Int.toNat ((x842.take (Int.toNat v2105))[(Int.toNat v2140)]!))]!.2.1 < p0[(Int.toNat (x842[(Int.toNat v2105)]!))]!.2.2)), fun w2208 hX2209 => od_plain rfl (by have hS2210 := hS2161.ext hX2209; have hB2211 := hB2160.trans (Ext.stp hX2209 hS2161.base); exact is_ext (g_move (v := .bool (decide (p0[(Int.toNat ((x842.take (Int.toNat v2105))[(Int.toNat v2140)]!))]!.2.1 < p0[(Int.toNat (x842[(Int.toNat v2105)]!))]!.2.2))) rfl)), ?_⟩
                refine ⟨if (decide (p0[(Int.toNat ((x842.take (Int.toNat v2105))[(Int.toNat v2140)]!))]!.2.1 < p0[(Int.toNat (x842[(Int.toNat v2105)]!))]!.2.2)) = true then .slice a0 n0 c0 else undef, fun w2212 hX2213 => od_guard (c := (decide (p0[(Int.toNat ((x842.take (Int.toNat v2105))[(Int.toNat v2140)]!))]!.2.1 < p0[(Int.toNat (x842[(Int.toNat v2105)]!))]!.2.2)) = true) (val := .slice a0 n0 c0) (b := ((decide (p0[(Int.toNat ((x842.take (Int.toNat v2105))[(Int.toNat v2140)]!))]!.2.1 < p0[(Int.toNat (x842[(Int.toNat v2105)]!))]!.2.2)) == true)) (gv_some rfl rfl rfl) beq_iff_eq (fun hc2216 => ?_), ?_⟩
                · have hS2214 := hS2161.ext hX2213
                  have hB2215 := hB2160.trans (Ext.stp hX2213 hS2161.base)
                  have hcq11 : p0[(Int.toNat ((x842.take (Int.toNat v2105))[(Int.toNat v2140)]!))]!.2.1 < p0[(Int.toNat (x842[(Int.toNat v2105)]!))]!.2.2 := (decide_eq_true_iff.mp hc2216)
                  exact is_ext (g_move (v := .slice a0 n0 c0) rfl)
                refine ⟨if (decide (p0[(Int.toNat ((x842.take (Int.toNat v2105))[(Int.toNat v2140)]!))]!.2.1 < p0[(Int.toNat (x842[(Int.toNat v2105)]!))]!.2.2)) = true then .int .i64 (x842[(Int.toNat v2105)]!) else undef, fun w2217 hX2218 => od_guard (c := (decide (p0[(Int.toNat ((x842.take (Int.toNat v2105))[(Int.toNat v2140)]!))]!.2.1 < p0[(Int.toNat (x842[(Int.toNat v2105)]!))]!.2.2)) = true) (val := .int .i64 (x842[(Int.toNat v2105)]!)) (b := ((decide (p0[(Int.toNat ((x842.take (Int.toNat v2105))[(Int.toNat v2140)]!))]!.2.1 < p0[(Int.toNat (x842[(Int.toNat v2105)]!))]!.2.2)) == true)) (gv_some rfl rfl rfl) beq_iff_eq (fun hc2221 => ?_), ?_⟩
                · have hS2219 := hS2161.ext hX2218
                  have hB2220 := hB2160.trans (Ext.stp hX2218 hS2161.base)
                  have hcq11 : p0[(Int.toNat ((x842.take (Int.toNat v2105))[(Int.toNat v2140)]!))]!.2.1 < p0[(Int.toNat (x842[(Int.toNat v2105)]!))]!.2.2 := (decide_eq_true_iff.mp hc2221)
                  exact is_ext (g_move (v := .int .i64 (x842[(Int.toNat v2105)]!)) rfl)
                obtain ⟨hg2227, hm⟩ := hm
                refine ⟨if (decide (p0[(Int.toNat ((x842.take (Int.toNat v2105))[(Int.toNat v2140)]!))]!.2.1 < p0[(Int.toNat (x842[(Int.toNat v2105)]!))]!.2.2)) = true then .pointer (some ((adr a0).add ((Int.toNat (x842[(Int.toNat v2105)]!)) * El.m Stay))) else undef, fun w2222 hX2223 => od_guard (c := (decide (p0[(Int.toNat ((x842.take (Int.toNat v2105))[(Int.toNat v2140)]!))]!.2.1 < p0[(Int.toNat (x842[(Int.toNat v2105)]!))]!.2.2)) = true) (val := .pointer (some ((adr a0).add ((Int.toNat (x842[(Int.toNat v2105)]!)) * El.m Stay)))) (b := ((decide (p0[(Int.toNat ((x842.take (Int.toNat v2105))[(Int.toNat v2140)]!))]!.2.1 < p0[(Int.toNat (x842[(Int.toNat v2105)]!))]!.2.2)) == true)) (gv_some rfl rfl rfl) beq_iff_eq (fun hc2226 => ?_), ?_⟩
                · have hS2224 := hS2161.ext hX2223
                  have hB2225 := hB2160.trans (Ext.stp hX2223 hS2161.base)
                  have hcq11 : p0[(Int.toNat ((x842.take (Int.toNat v2105))[(Int.toNat v2140)]!))]!.2.1 < p0[(Int.toNat (x842[(Int.toNat v2105)]!))]!.2.2 := (decide_eq_true_iff.mp hc2226)
                  exact is_ext (q_index (i := x842[(Int.toNat v2105)]!) SL26 (if_pos hc2226) (if_pos hc2226) (hp0.bel hB2225) (hg2227 hcq11))
                refine ⟨if (decide (p0[(Int.toNat ((x842.take (Int.toNat v2105))[(Int.toNat v2140)]!))]!.2.1 < p0[(Int.toNat (x842[(Int.toNat v2105)]!))]!.2.2)) = true then .pointer (some (((adr a0).add ((Int.toNat (x842[(Int.toNat v2105)]!)) * El.m Stay)).add 1)) else undef, fun w2228 hX2229 => od_guard (c := (decide (p0[(Int.toNat ((x842.take (Int.toNat v2105))[(Int.toNat v2140)]!))]!.2.1 < p0[(Int.toNat (x842[(Int.toNat v2105)]!))]!.2.2)) = true) (val := .pointer (some (((adr a0).add ((Int.toNat (x842[(Int.toNat v2105)]!)) * El.m Stay)).add 1))) (b := ((decide (p0[(Int.toNat ((x842.take (Int.toNat v2105))[(Int.toNat v2140)]!))]!.2.1 < p0[(Int.toNat (x842[(Int.toNat v2105)]!))]!.2.2)) == true)) (gv_some rfl rfl rfl) beq_iff_eq (fun hc2232 => ?_), ?_⟩
                · have hS2230 := hS2161.ext hX2229
                  have hB2231 := hB2160.trans (Ext.stp hX2229 hS2161.base)
                  have hcq11 : p0[(Int.toNat ((x842.take (Int.toNat v2105))[(Int.toNat v2140)]!))]!.2.1 < p0[(Int.toNat (x842[(Int.toNat v2105)]!))]!.2.2 := (decide_eq_true_iff.mp hc2232)
                  exact is_ext (g_fieldAddr (q := (adr a0).add ((Int.toNat (x842[(Int.toNat v2105)]!)) * El.m Stay)) FL39_1 ON3 (if_pos hc2232))
                refine ⟨if (decide (p0[(Int.toNat ((x842.take (Int.toNat v2105))[(Int.toNat v2140)]!))]!.2.1 < p0[(Int.toNat (x842[(Int.toNat v2105)]!))]!.2.2)) = true then .int .i64 (p0[(Int.toNat (x842[(Int.toNat v2105)]!))]!.2.1) else undef, fun w2233 hX2234 => od_guard (c := (decide (p0[(Int.toNat ((x842.take (Int.toNat v2105))[(Int.toNat v2140)]!))]!.2.1 < p0[(Int.toNat (x842[(Int.toNat v2105)]!))]!.2.2)) = true) (val := .int .i64 (p0[(Int.toNat (x842[(Int.toNat v2105)]!))]!.2.1)) (b := ((decide (p0[(Int.toNat ((x842.take (Int.toNat v2105))[(Int.toNat v2140)]!))]!.2.1 < p0[(Int.toNat (x842[(Int.toNat v2105)]!))]!.2.2)) == true)) (gv_some rfl rfl rfl) beq_iff_eq (fun hc2237 => ?_), ?_⟩
                · have hS2235 := hS2161.ext hX2234
                  have hB2236 := hB2160.trans (Ext.stp hX2234 hS2161.base)
                  have hcq11 : p0[(Int.toNat ((x842.take (Int.toNat v2105))[(Int.toNat v2140)]!))]!.2.1 < p0[(Int.toNat (x842[(Int.toNat v2105)]!))]!.2.2 := (decide_eq_true_iff.mp hc2237)
                  exact is_ext (q_loadF (i := x842[(Int.toNat v2105)]!) (j := 1) (v := .int .i64 (p0[(Int.toNat (x842[(Int.toNat v2105)]!))]!.2.1)) ON3 (hp0.bel hB2236) (hg2227 hcq11) rfl (if_pos hc2237))
                refine ⟨if (decide (p0[(Int.toNat ((x842.take (Int.toNat v2105))[(Int.toNat v2140)]!))]!.2.1 < p0[(Int.toNat (x842[(Int.toNat v2105)]!))]!.2.2)) = true then .slice a0 n0 c0 else undef, fun w2238 hX2239 => od_guard (c := (decide (p0[(Int.toNat ((x842.take (Int.toNat v2105))[(Int.toNat v2140)]!))]!.2.1 < p0[(Int.toNat (x842[(Int.toNat v2105)]!))]!.2.2)) = true) (val := .slice a0 n0 c0) (b := ((decide (p0[(Int.toNat ((x842.take (Int.toNat v2105))[(Int.toNat v2140)]!))]!.2.1 < p0[(Int.toNat (x842[(Int.toNat v2105)]!))]!.2.2)) == true)) (gv_some rfl rfl rfl) beq_iff_eq (fun hc2242 => ?_), ?_⟩
                · have hS2240 := hS2161.ext hX2239
                  have hB2241 := hB2160.trans (Ext.stp hX2239 hS2161.base)
                  have hcq11 : p0[(Int.toNat ((x842.take (Int.toNat v2105))[(Int.toNat v2140)]!))]!.2.1 < p0[(Int.toNat (x842[(Int.toNat v2105)]!))]!.2.2 := (decide_eq_true_iff.mp hc2242)
                  exact is_ext (g_move (v := .slice a0 n0 c0) rfl)
                refine ⟨if (decide (p0[(Int.toNat ((x842.take (Int.toNat v2105))[(Int.toNat v2140)]!))]!.2.1 < p0[(Int.toNat (x842[(Int.toNat v2105)]!))]!.2.2)) = true then .int .i64 ((x842.take (Int.toNat v2105))[(Int.toNat v2140)]!) else undef, fun w2243 hX2244 => od_guard (c := (decide (p0[(Int.toNat ((x842.take (Int.toNat v2105))[(Int.toNat v2140)]!))]!.2.1 < p0[(Int.toNat (x842[(Int.toNat v2105)]!))]!.2.2)) = true) (val := .int .i64 ((x842.take (Int.toNat v2105))[(Int.toNat v2140)]!)) (b := ((decide (p0[(Int.toNat ((x842.take (Int.toNat v2105))[(Int.toNat v2140)]!))]!.2.1 < p0[(Int.toNat (x842[(Int.toNat v2105)]!))]!.2.2)) == true)) (gv_some rfl rfl rfl) beq_iff_eq (fun hc2247 => ?_), ?_⟩
                · have hS2245 := hS2161.ext hX2244
                  have hB2246 := hB2160.trans (Ext.stp hX2244 hS2161.base)
                  have hcq11 : p0[(Int.toNat ((x842.take (Int.toNat v2105))[(Int.toNat v2140)]!))]!.2.1 < p0[(Int.toNat (x842[(Int.toNat v2105)]!))]!.2.2 := (decide_eq_true_iff.mp hc2247)
                  exact is_ext (g_move (v := .int .i64 ((x842.take (Int.toNat v2105))[(Int.toNat v2140)]!)) rfl)
                obtain ⟨hg2253, hm⟩ := hm
                refine ⟨if (decide (p0[(Int.toNat ((x842.take (Int.toNat v2105))[(Int.toNat v2140)]!))]!.2.1 < p0[(Int.toNat (x842[(Int.toNat v2105)]!))]!.2.2)) = true then .pointer (some ((adr a0).add ((Int.toNat ((x842.take (Int.toNat v2105))[(Int.toNat v2140)]!)) * El.m Stay))) else undef, fun w2248 hX2249 => od_guard (c := (decide (p0[(Int.toNat ((x842.take (Int.toNat v2105))[(Int.toNat v2140)]!))]!.2.1 < p0[(Int.toNat (x842[(Int.toNat v2105)]!))]!.2.2)) = true) (val := .pointer (some ((adr a0).add ((Int.toNat ((x842.take (Int.toNat v2105))[(Int.toNat v2140)]!)) * El.m Stay)))) (b := ((decide (p0[(Int.toNat ((x842.take (Int.toNat v2105))[(Int.toNat v2140)]!))]!.2.1 < p0[(Int.toNat (x842[(Int.toNat v2105)]!))]!.2.2)) == true)) (gv_some rfl rfl rfl) beq_iff_eq (fun hc2252 => ?_), ?_⟩
                · have hS2250 := hS2161.ext hX2249
                  have hB2251 := hB2160.trans (Ext.stp hX2249 hS2161.base)
                  have hcq11 : p0[(Int.toNat ((x842.take (Int.toNat v2105))[(Int.toNat v2140)]!))]!.2.1 < p0[(Int.toNat (x842[(Int.toNat v2105)]!))]!.2.2 := (decide_eq_true_iff.mp hc2252)
                  exact is_ext (q_index (i := (x842.take (Int.toNat v2105))[(Int.toNat v2140)]!) SL26 (if_pos hc2252) (if_pos hc2252) (hp0.bel hB2251) (hg2253 hcq11))
                refine ⟨if (decide (p0[(Int.toNat ((x842.take (Int.toNat v2105))[(Int.toNat v2140)]!))]!.2.1 < p0[(Int.toNat (x842[(Int.toNat v2105)]!))]!.2.2)) = true then .pointer (some (((adr a0).add ((Int.toNat ((x842.take (Int.toNat v2105))[(Int.toNat v2140)]!)) * El.m Stay)).add 2)) else undef, fun w2254 hX2255 => od_guard (c := (decide (p0[(Int.toNat ((x842.take (Int.toNat v2105))[(Int.toNat v2140)]!))]!.2.1 < p0[(Int.toNat (x842[(Int.toNat v2105)]!))]!.2.2)) = true) (val := .pointer (some (((adr a0).add ((Int.toNat ((x842.take (Int.toNat v2105))[(Int.toNat v2140)]!)) * El.m Stay)).add 2))) (b := ((decide (p0[(Int.toNat ((x842.take (Int.toNat v2105))[(Int.toNat v2140)]!))]!.2.1 < p0[(Int.toNat (x842[(Int.toNat v2105)]!))]!.2.2)) == true)) (gv_some rfl rfl rfl) beq_iff_eq (fun hc2258 => ?_), ?_⟩
                · have hS2256 := hS2161.ext hX2255
                  have hB2257 := hB2160.trans (Ext.stp hX2255 hS2161.base)
                  have hcq11 : p0[(Int.toNat ((x842.take (Int.toNat v2105))[(Int.toNat v2140)]!))]!.2.1 < p0[(Int.toNat (x842[(Int.toNat v2105)]!))]!.2.2 := (decide_eq_true_iff.mp hc2258)
                  exact is_ext (g_fieldAddr (q := (adr a0).add ((Int.toNat ((x842.take (Int.toNat v2105))[(Int.toNat v2140)]!)) * El.m Stay)) FL39_2 ON3 (if_pos hc2258))
                refine ⟨if (decide (p0[(Int.toNat ((x842.take (Int.toNat v2105))[(Int.toNat v2140)]!))]!.2.1 < p0[(Int.toNat (x842[(Int.toNat v2105)]!))]!.2.2)) = true then .int .i64 (p0[(Int.toNat ((x842.take (Int.toNat v2105))[(Int.toNat v2140)]!))]!.2.2) else undef, fun w2259 hX2260 => od_guard (c := (decide (p0[(Int.toNat ((x842.take (Int.toNat v2105))[(Int.toNat v2140)]!))]!.2.1 < p0[(Int.toNat (x842[(Int.toNat v2105)]!))]!.2.2)) = true) (val := .int .i64 (p0[(Int.toNat ((x842.take (Int.toNat v2105))[(Int.toNat v2140)]!))]!.2.2)) (b := ((decide (p0[(Int.toNat ((x842.take (Int.toNat v2105))[(Int.toNat v2140)]!))]!.2.1 < p0[(Int.toNat (x842[(Int.toNat v2105)]!))]!.2.2)) == true)) (gv_some rfl rfl rfl) beq_iff_eq (fun hc2263 => ?_), ?_⟩
                · have hS2261 := hS2161.ext hX2260
                  have hB2262 := hB2160.trans (Ext.stp hX2260 hS2161.base)
                  have hcq11 : p0[(Int.toNat ((x842.take (Int.toNat v2105))[(Int.toNat v2140)]!))]!.2.1 < p0[(Int.toNat (x842[(Int.toNat v2105)]!))]!.2.2 := (decide_eq_true_iff.mp hc2263)
                  exact is_ext (q_loadF (i := (x842.take (Int.toNat v2105))[(Int.toNat v2140)]!) (j := 2) (v := .int .i64 (p0[(Int.toNat ((x842.take (Int.toNat v2105))[(Int.toNat v2140)]!))]!.2.2)) ON3 (hp0.bel hB2262) (hg2253 hcq11) rfl (if_pos hc2263))
                refine ⟨if (decide (p0[(Int.toNat ((x842.take (Int.toNat v2105))[(Int.toNat v2140)]!))]!.2.1 < p0[(Int.toNat (x842[(Int.toNat v2105)]!))]!.2.2)) = true then .bool (decide (p0[(Int.toNat (x842[(Int.toNat v2105)]!))]!.2.1 < p0[(Int.toNat ((x842.take (Int.toNat v2105))[(Int.toNat v2140)]!))]!.2.2)) else undef, fun w2264 hX2265 => od_guard (c := (decide (p0[(Int.toNat ((x842.take (Int.toNat v2105))[(Int.toNat v2140)]!))]!.2.1 < p0[(Int.toNat (x842[(Int.toNat v2105)]!))]!.2.2)) = true) (val := .bool (decide (p0[(Int.toNat (x842[(Int.toNat v2105)]!))]!.2.1 < p0[(Int.toNat ((x842.take (Int.toNat v2105))[(Int.toNat v2140)]!))]!.2.2))) (b := ((decide (p0[(Int.toNat ((x842.take (Int.toNat v2105))[(Int.toNat v2140)]!))]!.2.1 < p0[(Int.toNat (x842[(Int.toNat v2105)]!))]!.2.2)) == true)) (gv_some rfl rfl rfl) beq_iff_eq (fun hc2268 => ?_), ?_⟩
                · have hS2266 := hS2161.ext hX2265
                  have hB2267 := hB2160.trans (Ext.stp hX2265 hS2161.base)
                  have hcq11 : p0[(Int.toNat ((x842.take (Int.toNat v2105))[(Int.toNat v2140)]!))]!.2.1 < p0[(Int.toNat (x842[(Int.toNat v2105)]!))]!.2.2 := (decide_eq_true_iff.mp hc2268)
                  exact is_ext (g_lss (a := p0[(Int.toNat (x842[(Int.toNat v2105)]!))]!.2.1) (b := p0[(Int.toNat ((x842.take (Int.toNat v2105))[(Int.toNat v2140)]!))]!.2.2) (if_pos hc2268) (if_pos hc2268))
                refine ⟨.bool ((decide (p0[(Int.toNat ((x842.take (Int.toNat v2105))[(Int.toNat v2140)]!))]!.2.1 < p0[(Int.toNat (x842[(Int.toNat v2105)]!))]!.2.2)) && (decide (p0[(Int.toNat (x842[(Int.toNat v2105)]!))]!.2.1 < p0[(Int.toNat ((x842.take (Int.toNat v2105))[(Int.toNat v2140)]!))]!.2.2))), fun w2269 hX2270 => od_plain rfl (by have hS2271 := hS2161.ext hX2270; have hB2272 := hB2160.trans (Ext.stp hX2270 hS2161.base); exact is_ext (g_pick_and (b := (decide (p0[(Int.toNat ((x842.take (Int.toNat v2105))[(Int.toNat v2140)]!))]!.2.1 < p0[(Int.toNat (x842[(Int.toNat v2105)]!))]!.2.2))) (q := (decide (p0[(Int.toNat (x842[(Int.toNat v2105)]!))]!.2.1 < p0[(Int.toNat ((x842.take (Int.toNat v2105))[(Int.toNat v2140)]!))]!.2.2))) rfl rfl)), ?_⟩
                intro w2273 hX2274
                have hB2275 := hB2160.trans (Ext.stp hX2274 hS2161.base)
                have hS2276 := hS2161.ext hX2274
                refine hK2157 _ _ ?_
                refine w_condI (p := ((p0[(Int.toNat ((x842.take (Int.toNat v2105))[(Int.toNat v2140)]!))]!.2.1 < p0[(Int.toNat (x842[(Int.toNat v2105)]!))]!.2.2) ∧ (p0[(Int.toNat (x842[(Int.toNat v2105)]!))]!.2.1 < p0[(Int.toNat ((x842.take (Int.toNat v2105))[(Int.toNat v2140)]!))]!.2.2))) (b := ((decide (p0[(Int.toNat ((x842.take (Int.toNat v2105))[(Int.toNat v2140)]!))]!.2.1 < p0[(Int.toNat (x842[(Int.toNat v2105)]!))]!.2.2)) && (decide (p0[(Int.toNat (x842[(Int.toNat v2105)]!))]!.2.1 < p0[(Int.toNat ((x842.take (Int.toNat v2105))[(Int.toNat v2140)]!))]!.2.2)))) rfl (i_and decide_eq_true_iff decide_eq_true_iff) (fun h2277 => ?_) (fun h2277 => ?_)
                · replace hm := hm.1 h2277
                  refine w_region ?_
                  refine wl_val (g_move (v := .slice a2137 n2138 c2139) rfl) rfl ?_
                  refine wl_val (g_move (v := .slice a1070 (Int.toNat (p0.length : Int)) (Int.toNat (p0.length : Int))) rfl) rfl ?_
                  refine wl_val (g_move (v := .int .i64 ((x842.take (Int.toNat v2105))[(Int.toNat v2140)]!)) rfl) rfl ?_
                  obtain ⟨hg2278, hm⟩ := hm
                  refine wl_val (q_index (i := (x842.take (Int.toNat v2105))[(Int.toNat v2140)]!) SL24 rfl rfl (oS.vw hS2276.g1) hg2278) rfl ?_
                  refine wl_val (q_load (i := (x842.take (Int.toNat v2105))[(Int.toNat v2140)]!) (v := .int .i64 (x2104[(Int.toNat ((x842.take (Int.toNat v2105))[(Int.toNat v2140)]!))]!)) ON3 (oS.vw hS2276.g1) hg2278 rfl rfl) rfl ?_
                  refine wl_step rfl (q_lit1 (y := (x2104[(Int.toNat ((x842.take (Int.toNat v2105))[(Int.toNat v2140)]!))]! : Int)) SL24 rfl rfl (by decide) hS2276) ?_
                  rintro _ w2279 ⟨a2280, rfl, hS2282, hE2281⟩
                  have hB2284 := hB2275.trans (Ext.stp hE2281 hS2276.base)
                  have hS2290 := hS2282.f3
                  obtain ⟨hg2291, hm⟩ := hm
                  refine wl_step rfl (q_append SL24 rfl rfl hS2290 (oS.vw hS2290.g1) hg2291 (by decide)) ?_
                  rintro _ w2285 ⟨a2286, c2287, rfl, hS2289, hb2288⟩
                  have hB2292 := hB2284.trans hb2288
                  refine wl_val (g_assign (v := .slice a2286 (n2138 + 1) c2287) rfl) rfl ?_
                  refine wl_nil ?_
                  refine hK2154 _ _ ?_
                  refine w_region ?_
                  obtain ⟨hg2293, hm⟩ := hm
                  refine wl_val (g_add (a := v2140) (b := 1) rfl rfl hg2293) rfl ?_
                  refine wl_val (g_move (v := .int .i64 (v2140 + 1)) rfl) rfl ?_
                  refine wl_nil ?_
                  have hS2294 := hS2289.f1
                  have hS2295 := hS2294.tail
                  have hS2296 := hS2295.f2
                  have hS2297 := hS2296.f2
                  exact ⟨((x2136 ++ ([x2104[(Int.toNat ((x842.take (Int.toNat v2105))[(Int.toNat v2140)]!))]!])), a2286, (n2138 + 1), c2287, (v2140 + 1)), hm.2, ⟨rfl, rfl, rfl, rfl, rfl, rfl, rfl, rfl, rfl, rfl, rfl, trivial⟩, ⟨hm.1, hB2292, hS2297⟩⟩
                · replace hm := hm.2 h2277
                  refine w_skip ?_
                  refine hK2154 _ _ ?_
                  refine w_region ?_
                  obtain ⟨hg2298, hm⟩ := hm
                  refine wl_val (g_add (a := v2140) (b := 1) rfl rfl hg2298) rfl ?_
                  refine wl_val (g_move (v := .int .i64 (v2140 + 1)) rfl) rfl ?_
                  refine wl_nil ?_
                  exact ⟨(x2136, a2137, n2138, c2139, (v2140 + 1)), hm.2, ⟨rfl, rfl, rfl, rfl, rfl, rfl, rfl, rfl, rfl, rfl, rfl, trivial⟩, ⟨hm.1, hB2275, hS2276⟩⟩
              · replace hm := hm.2 h2153
                refine w_exit ?_
                exact ⟨(x2136, a2137, n2138, c2139), ⟨rfl, rfl, rfl, rfl, rfl, rfl, rfl, rfl, trivial⟩, ⟨hm, hB2148, hS2149⟩⟩
            · rintro ⟨x2129, a2130, n2131, c2132⟩ b_ w2299 ⟨hm, hB2300, hS2301⟩
              show Wp _ _ _ _ (upds b_ [(0, .slice a0 n0 c0), (3, .slice a843 n844 c845), (7, .slice a1070 (Int.toNat (p0.length : Int)) (Int.toNat (p0.length : Int))), (9, .int .i64 (x842[(Int.toNat v2105)]!)), (10, .slice a2130 n2131 c2132), (63, .slice a843 n844 c845), (64, .int .i64 (x842.length : Int)), (65, .int .i64 v2105)]) w2299
              refine w_block ?_
              obtain ⟨I2303, μ2304, h02305, hr2306⟩ := hm
              refine w_for (σ := List Int) (fun x2302 => [(0, .slice a0 n0 c0), (3, .slice a843 n844 c845), (7, .slice a1070 (Int.toNat (p0.length : Int)) (Int.toNat (p0.length : Int))), (9, .int .i64 (x842[(Int.toNat v2105)]!)), (10, .slice a2130 n2131 c2132), (63, .slice a843 n844 c845), (64, .int .i64 (x842.length : Int)), (65, .int .i64 v2105)]) (fun x2302 w' => I2303 x2302 ∧ Below w.heap.size w w' ∧ Sep w' w.heap.size [oS 3 a843 n844 c845 (x842 : List Int), oS 3 a1070 (Int.toNat (p0.length : Int)) (Int.toNat (p0.length : Int)) (x2302 : List Int), oS 3 a2130 n2131 c2132 (x2129 : List Int)]) (fun x2302 => μ2304 x2302) (x2104) ⟨rfl, rfl, rfl, rfl, rfl, rfl, rfl, rfl, trivial⟩ ⟨h02305, hB2300, hS2301⟩ ?_
              rintro x2302 b_ w2307 ⟨hi_, hB2308, hS2309⟩
              show Wp _ _ _ _ (upds b_ [(0, .slice a0 n0 c0), (3, .slice a843 n844 c845), (7, .slice a1070 (Int.toNat (p0.length : Int)) (Int.toNat (p0.length : Int))), (9, .int .i64 (x842[(Int.toNat v2105)]!)), (10, .slice a2130 n2131 c2132), (63, .slice a843 n844 c845), (64, .int .i64 (x842.length : Int)), (65, .int .i64 v2105)]) w2307
              have hm := hr2306 x2302 hi_
              refine w_seq fun K2311 hK2311 => ?_
              refine w_seq fun K2312 hK2312 => ?_
              refine w_region ?_
              refine wl_val (g_move (v := .slice a2130 n2131 c2132) rfl) rfl ?_
              refine wl_val (g_move (v := .slice a1070 (Int.toNat (p0.length : Int)) (Int.toNat (p0.length : Int))) rfl) rfl ?_
              refine wl_val (g_move (v := .int .i64 (x842[(Int.toNat v2105)]!)) rfl) rfl ?_
              obtain ⟨hg2313, hm⟩ := hm
              refine wl_val (q_index (i := x842[(Int.toNat v2105)]!) SL24 rfl rfl (oS.vw hS2309.g1) hg2313) rfl ?_
              refine wl_val (q_load (i := x842[(Int.toNat v2105)]!) (v := .int .i64 (x2302[(Int.toNat (x842[(Int.toNat v2105)]!))]!)) ON3 (oS.vw hS2309.g1) hg2313 rfl rfl) rfl ?_
              refine wl_step rfl (g_call (vs := #[.slice a2130 n2131 c2132, .int .i64 (x2302[(Int.toNat (x842[(Int.toNat v2105)]!))]!)]) CF23 (args2 rfl rfl) (m_impl_indexOf_fn (oS.vw hS2309.g2) (x2302[(Int.toNat (x842[(Int.toNat v2105)]!))]!) hm)) ?_
              rintro _ w2314 ⟨r2317, hm, rfl, hE2315⟩
              have hB2318 := hB2308.trans (Ext.stp hE2315 hS2309.base)
              have hS2319 := hS2309.ext hE2315
              refine wl_val (g_geq (a := r2317) (b := 0) rfl rfl) rfl ?_
              refine wl_nil ?_
              refine hK2312 _ _ ?_
              refine w_condI (p := r2317 ≥ 0) (b := (decide (r2317 ≥ 0))) rfl decide_eq_true_iff (fun h2320 => ?_) (fun h2320 => ?_)
              · replace hm := hm.1 h2320
                refine w_skip ?_
                refine hK2311 _ _ ?_
                refine w_block ?_
                refine w_region ?_
                refine wl_val (g_move (v := .slice a1070 (Int.toNat (p0.length : Int)) (Int.toNat (p0.length : Int))) rfl) rfl ?_
                refine wl_val (g_move (v := .int .i64 (x842[(Int.toNat v2105)]!)) rfl) rfl ?_
                obtain ⟨hg2321, hm⟩ := hm
                refine wl_val (q_index (i := x842[(Int.toNat v2105)]!) SL24 rfl rfl (oS.vw hS2319.g1) hg2321) rfl ?_
                refine wl_val (q_load (i := x842[(Int.toNat v2105)]!) (v := .int .i64 (x2302[(Int.toNat (x842[(Int.toNat v2105)]!))]!)) ON3 (oS.vw hS2319.g1) hg2321 rfl rfl) rfl ?_
                obtain ⟨hg2322, hm⟩ := hm
                refine wl_val (g_add (a := x2302[(Int.toNat (x842[(Int.toNat v2105)]!))]!) (b := 1) rfl rfl hg2322) rfl ?_
                obtain ⟨hg2323, hm⟩ := hm
                refine wl_val (q_index (i := x842[(Int.toNat v2105)]!) SL24 rfl rfl (oS.vw hS2319.g1) hg2323) rfl ?_
                have hS2327 := hS2319.f1
                refine wl_step rfl (q_store (i := x842[(Int.toNat v2105)]!) (v := ((x2302[(Int.toNat (x842[(Int.toNat v2105)]!))]! + 1) : Int)) hS2327 ON3.sz hg2323 rfl rfl rfl) ?_
                rintro _ w2324 ⟨rfl, hS2325, hb2326⟩
                have hB2328 := hB2318.trans hb2326
                refine wl_nil ?_
                have hS2329 := hS2325.f2
                have hS2330 := hS2329.f1
                have hS2331 := hS2330.f2
                exact ⟨((x2302.set (Int.toNat (x842[(Int.toNat v2105)]!)) (x2302[(Int.toNat (x842[(Int.toNat v2105)]!))]! + 1))), hm.2, ⟨rfl, rfl, rfl, rfl, rfl, rfl, rfl, rfl, trivial⟩, ⟨hm.1, hB2328, hS2331⟩⟩
              · replace hm := hm.2 h2320
                refine w_exit ?_
                have hS2332 := hS2319.f2
                have hS2333 := hS2332.tail
                exact ⟨(x2302), ⟨rfl, rfl, rfl, rfl, rfl, rfl, trivial⟩, ⟨hm, hB2318, hS2333⟩⟩
          · rintro x2118 b_ w2334 ⟨hm, hB2335, hS2336⟩
            show Wp _ _ _ _ (upds b_ [(0, .slice a0 n0 c0), (3, .slice a843 n844 c845), (7, .slice a1070 (Int.toNat (p0.length : Int)) (Int.toNat (p0.length : Int))), (63, .slice a843 n844 c845), (64, .int .i64 (x842.length : Int)), (65, .int .i64 v2105)]) w2334
            refine w_region ?_
            obtain ⟨hg2337, hm⟩ := hm
            refine wl_val (g_add (a := v2105) (b := 1) rfl rfl hg2337) rfl ?_
            refine wl_val (g_move (v := .int .i64 (v2105 + 1)) rfl) rfl ?_
            refine wl_nil ?_
            exact ⟨(x2118, (v2105 + 1)), hm.2, ⟨rfl, rfl, rfl, rfl, rfl, rfl, trivial⟩, ⟨hm.1, hB2335, hS2336⟩⟩
        · replace hm := hm.2 h2117
          refine w_exit ?_
          have hS2338 := hS2113.tail
          exact ⟨(x2104), ⟨rfl, trivial⟩, ⟨hm, hB2112, hS2338⟩⟩
      · rintro x2101 b_ w2339 ⟨hm, hB2340, hS2341⟩
        show Wp _ _ _ _ (upds b_ [(7, .slice a1070 (Int.toNat (p0.length : Int)) (Int.toNat (p0.length : Int)))]) w2339
        refine w_seq fun K2342 hK2342 => ?_
        refine w_region ?_
        refine wl_val (g_move (v := .slice a1070 (Int.toNat (p0.length : Int)) (Int.toNat (p0.length : Int))) rfl) rfl ?_
        refine wl_val (g_assign (v := .slice a1070 (Int.toNat (p0.length : Int)) (Int.toNat (p0.length : Int))) rfl) rfl ?_
        refine wl_nil ?_
        refine hK2342 _ _ ?_
        refine w_ret ?_
        repeat first | with_reducible refine q_then ?_ | with_reducible refine q_block ?_
        exact ret1 rfl (by decide) ⟨_, _, _, _, hm, rfl, toExt hB2340, hS2341⟩

theorem m_impl_CountRails_fn {w : World} {a0 : Option Addr} {n0 c0 : Nat} {p0 : List Int} {Q : Int → Prop} (hp0 : Vw w.heap.size w a0 n0 c0 p0) (hm : m_impl_CountRails p0 Q) :
    Fn Try.prog 17 #[.slice a0 n0 c0] w (fun v w' => ∃ (r0 : Int), Q r0 ∧ v = .int .i64 r0 ∧ Ext w w') := by
  unfold m_impl_CountRails at hm
  have hB0 := Below.refl w.heap.size w
  have hS0 : Sep w w.heap.size [] := Sep.nil (Nat.le_refl _)
  refine fn_of_wp Try.func17 rfl (by kernel_rfl) (Nat.le_of_ble_eq_true rfl) ?_
  refine w_seq fun K1 hK1 => ?_
  refine w_region ?_
  refine wl_val (g_assign (v := .int .i64 0) rfl) rfl ?_
  refine wl_nil ?_
  refine hK1 _ _ ?_
  refine w_seq fun K2 hK2 => ?_
  refine w_region ?_
  refine wl_val (g_assign (v := .int .i64 0) rfl) rfl ?_
  refine wl_nil ?_
  refine hK2 _ _ ?_
  refine w_cut (σ := Int) (fun v56 => [(3, .int .i64 v56)]) (fun v56 w' => m_impl_CountRails_K0 Q v56 ∧ Below w.heap.size w w' ∧ Sep w' w.heap.size []) ?_ ?_
  · refine w_seq fun K58 hK58 => ?_
    refine w_region ?_
    refine wl_val (g_move (v := .slice a0 n0 c0) rfl) rfl ?_
    refine wl_val (q_len SL24 rfl (Vw.len (hp0.bel hB0))) rfl ?_
    refine wl_val (g_move (v := .int .i64 0) rfl) rfl ?_
    refine wl_nil ?_
    refine hK58 _ _ ?_
    refine w_block ?_
    obtain ⟨I61, μ62, h063, hr64⟩ := hm
    refine w_for (σ := Int × Int) (fun ⟨v59, v60⟩ => [(0, .slice a0 n0 c0), (3, .int .i64 v59), (6, .slice a0 n0 c0), (7, .int .i64 (p0.length : Int)), (8, .int .i64 v60)]) (fun ⟨v59, v60⟩ w' => I61 v59 v60 ∧ Below w.heap.size w w' ∧ Sep w' w.heap.size []) (fun ⟨v59, v60⟩ => μ62 v59 v60) (0, 0) ⟨rfl, rfl, rfl, rfl, rfl, trivial⟩ ⟨h063, hB0, hS0⟩ ?_
    rintro ⟨v59, v60⟩ b_ w65 ⟨hi_, hB66, hS67⟩
    show Wp _ _ _ _ (upds b_ [(0, .slice a0 n0 c0), (3, .int .i64 v59), (6, .slice a0 n0 c0), (7, .int .i64 (p0.length : Int)), (8, .int .i64 v60)]) w65
    have hm := hr64 v59 v60 hi_
    refine w_seq fun K69 hK69 => ?_
    refine w_region ?_
    refine wl_val (g_lss (a := v60) (b := (p0.length : Int)) rfl rfl) rfl ?_
    refine wl_nil ?_
    refine hK69 _ _ ?_
    refine w_seq fun K70 hK70 => ?_
    refine w_condI (p := v60 < (p0.length : Int)) (b := (decide (v60 < (p0.length : Int)))) rfl decide_eq_true_iff (fun h71 => ?_) (fun h71 => ?_)
    · replace hm := hm.1 h71
      refine w_skip ?_
      refine hK70 _ _ ?_
      refine w_seq fun K72 hK72 => ?_
      refine w_block ?_
      refine w_seq fun K73 hK73 => ?_
      refine w_region ?_
      refine wl_val (g_move (v := .int .i64 v60) rfl) rfl ?_
      obtain ⟨hg74, hm⟩ := hm
      refine wl_val (q_index (i := v60) SL24 rfl rfl (hp0.bel hB66) hg74) rfl ?_
      refine wl_val (q_load (i := v60) (v := .int .i64 (p0[(Int.toNat v60)]!)) ON3 (hp0.bel hB66) hg74 rfl rfl) rfl ?_
      refine wl_val (g_assign (v := .int .i64 v60) rfl) rfl ?_
      refine wl_val (g_assign (v := .int .i64 (p0[(Int.toNat v60)]!)) rfl) rfl ?_
      refine wl_nil ?_
      refine hK73 _ _ ?_
      refine w_seq fun K75 hK75 => ?_
      refine w_region ?_
      refine wl_val (g_move (v := .slice a0 n0 c0) rfl) rfl ?_
      refine wl_val (g_move (v := .int .i64 (p0[(Int.toNat v60)]!)) rfl) rfl ?_
      refine wl_step rfl (g_call (vs := #[.slice a0 n0 c0, .int .i64 (p0[(Int.toNat v60)]!)]) CF23 (args2 rfl rfl) (m_impl_indexOf_fn ((hp0.bel hB66).up hS67) (p0[(Int.toNat v60)]!) hm)) ?_
      rintro _ w76 ⟨r79, hm, rfl, hE77⟩
      have hB80 := hB66.trans (Ext.stp hE77 hS67.base)
      have hS81 := hS67.ext hE77
      refine wl_val (g_move (v := .int .i64 v60) rfl) rfl ?_
      refine wl_val (g_eql (a := r79) (b := v60) rfl rfl) rfl ?_
      refine wl_nil ?_
      refine hK75 _ _ ?_
      refine w_condI (p := r79 = v60) (b := (decide (r79 = v60))) rfl decide_eq_true_iff (fun h82 => ?_) (fun h82 => ?_)
      · replace hm := hm.1 h82
        refine w_region ?_
        refine wl_val (g_move (v := .int .i64 v59) rfl) rfl ?_
        obtain ⟨hg83, hm⟩ := hm
        refine wl_val (g_add (a := v59) (b := 1) rfl rfl hg83) rfl ?_
        refine wl_val (g_assign (v := .int .i64 (v59 + 1)) rfl) rfl ?_
        refine wl_nil ?_
        refine hK72 _ _ ?_
        refine w_region ?_
        obtain ⟨hg84, hm⟩ := hm
        refine wl_val (g_add (a := v60) (b := 1) rfl rfl hg84) rfl ?_
        refine wl_val (g_move (v := .int .i64 (v60 + 1)) rfl) rfl ?_
        refine wl_nil ?_
        exact ⟨((v59 + 1), (v60 + 1)), hm.2, ⟨rfl, rfl, rfl, rfl, rfl, trivial⟩, ⟨hm.1, hB80, hS81⟩⟩
      · replace hm := hm.2 h82
        refine w_skip ?_
        refine hK72 _ _ ?_
        refine w_region ?_
        obtain ⟨hg85, hm⟩ := hm
        refine wl_val (g_add (a := v60) (b := 1) rfl rfl hg85) rfl ?_
        refine wl_val (g_move (v := .int .i64 (v60 + 1)) rfl) rfl ?_
        refine wl_nil ?_
        exact ⟨(v59, (v60 + 1)), hm.2, ⟨rfl, rfl, rfl, rfl, rfl, trivial⟩, ⟨hm.1, hB80, hS81⟩⟩
    · replace hm := hm.2 h71
      refine w_exit ?_
      exact ⟨(v59), ⟨rfl, trivial⟩, ⟨hm, hB66, hS67⟩⟩
  · rintro v56 b_ w86 ⟨hm, hB87, hS88⟩
    show Wp _ _ _ _ (upds b_ [(3, .int .i64 v56)]) w86
    refine w_seq fun K89 hK89 => ?_
    refine w_region ?_
    refine wl_val (g_move (v := .int .i64 v56) rfl) rfl ?_
    refine wl_val (g_assign (v := .int .i64 v56) rfl) rfl ?_
    refine wl_nil ?_
    refine hK89 _ _ ?_
    refine w_ret ?_
    repeat first | with_reducible refine q_then ?_ | with_reducible refine q_block ?_
    exact ret1 rfl (by decide) ⟨_, hm, rfl, toExt hB87⟩

theorem m_impl_QuietTick_1_fn {w : World}  {Q : Bool → Prop} (p0 : Int) (hm : m_impl_QuietTick_1 p0 Q) :
    Fn Try.prog 28 #[.int .i64 p0] w (fun v w' => ∃ (r0 : Bool), Q r0 ∧ v = .bool r0 ∧ Ext w w') := by
  unfold m_impl_QuietTick_1 at hm
  have hB0 := Below.refl w.heap.size w
  have hS0 : Sep w w.heap.size [] := Sep.nil (Nat.le_refl _)
  refine fn_of_wp Try.func28 rfl (by kernel_rfl) (Nat.le_of_ble_eq_true rfl) ?_
  refine w_seq fun K1 hK1 => ?_
  refine w_region ?_
  refine wl_val (g_assign (v := .bool false) rfl) rfl ?_
  refine wl_nil ?_
  refine hK1 _ _ ?_
  refine w_seq fun K2 hK2 => ?_
  refine w_region ?_
  refine wl_val (g_assign (v := .bool true) rfl) rfl ?_
  refine wl_nil ?_
  refine hK2 _ _ ?_
  refine w_ret ?_
  repeat first | with_reducible refine q_then ?_ | with_reducible refine q_block ?_
  exact ret1 rfl (by decide) ⟨_, hm, rfl, toExt hB0⟩

theorem m_impl_isBusy_QuietTick_1_fn {w : World} {a0 : Option Addr} {n0 c0 : Nat} {p0 : List Stay} {Q : Bool → Prop} (hp0 : Vw w.heap.size w a0 n0 c0 p0) (p1 : Int) (hm : m_impl_isBusy_QuietTick_1 p0 p1 Q) :
    Fn Try.prog 27 #[.slice a0 n0 c0, .int .i64 p1, .func (.func 28) #[] #[]] w (fun v w' => ∃ (r0 : Bool), Q r0 ∧ v = .bool r0 ∧ Ext w w') := by
  unfold m_impl_isBusy_QuietTick_1 at hm
  have hB0 := Below.refl w.heap.size w
  have hS0 : Sep w w.heap.size [] := Sep.nil (Nat.le_refl _)
  refine fn_of_wp Try.func27 rfl (by kernel_rfl) (Nat.le_of_ble_eq_true rfl) ?_
  refine w_seq fun K1 hK1 => ?_
  refine w_region ?_
  refine wl_val (g_assign (v := .bool false) rfl) rfl ?_
  refine wl_nil ?_
  refine hK1 _ _ ?_
  refine w_cut (σ := Unit) (fun _ => []) (fun _ w' => m_impl_isBusy_QuietTick_1_K0 Q ∧ Below w.heap.size w w' ∧ Sep w' w.heap.size []) ?_ ?_
  · refine w_seq fun K3 hK3 => ?_
    refine w_region ?_
    refine wl_val (g_move (v := .slice a0 n0 c0) rfl) rfl ?_
    refine wl_val (q_len SL26 rfl (Vw.len (hp0.bel hB0))) rfl ?_
    refine wl_val (g_move (v := .int .i64 0) rfl) rfl ?_
    refine wl_nil ?_
    refine hK3 _ _ ?_
    refine w_block ?_
    obtain ⟨I47, μ48, h049, hr50⟩ := hm
    refine w_for (σ := Int) (fun v46 => [(1, .int .i64 p1), (2, .func (.func 28) #[] #[]), (9, .slice a0 n0 c0), (10, .int .i64 (p0.length : Int)), (11, .int .i64 v46)]) (fun v46 w' => I47 v46 ∧ Below w.heap.size w w' ∧ Sep w' w.heap.size []) (fun v46 => μ48 v46) (0) ⟨rfl, rfl, rfl, rfl, rfl, trivial⟩ ⟨h049, hB0, hS0⟩ ?_
    rintro v46 b_ w51 ⟨hi_, hB52, hS53⟩
    show Wp _ _ _ _ (upds b_ [(1, .int .i64 p1), (2, .func (.func 28) #[] #[]), (9, .slice a0 n0 c0), (10, .int .i64 (p0.length : Int)), (11, .int .i64 v46)]) w51
    have hm := hr50 v46 hi_
    refine w_seq fun K55 hK55 => ?_
    refine w_region ?_
    refine wl_val (g_lss (a := v46) (b := (p0.length : Int)) rfl rfl) rfl ?_
    refine wl_nil ?_
    refine hK55 _ _ ?_
    refine w_seq fun K56 hK56 => ?_
    refine w_condI (p := v46 < (p0.length : Int)) (b := (decide (v46 < (p0.length : Int)))) rfl decide_eq_true_iff (fun h57 => ?_) (fun h57 => ?_)
    · replace hm := hm.1 h57
      refine w_skip ?_
      refine hK56 _ _ ?_
      refine w_seq fun K58 hK58 => ?_
      refine w_block ?_
      refine w_seq fun K59 hK59 => ?_
      refine w_region ?_
      obtain ⟨hg60, hm⟩ := hm
      refine wl_val (q_index (i := v46) SL26 rfl rfl (hp0.bel hB52) hg60) rfl ?_
      refine wl_val (q_loadS (i := v46) (cs := [.int .i64 (p0[(Int.toNat v46)]!.1), .int .i64 (p0[(Int.toNat v46)]!.2.1), .int .i64 (p0[(Int.toNat v46)]!.2.2)]) AG39 (hp0.bel hB52) hg60 rfl rfl) rfl ?_
      refine wl_step rfl (q_alloc (cs := #[.int .i64 0, .int .i64 0, .int .i64 0]) ZR39 rfl hS53) ?_
      rintro _ w61 ⟨g62, rfl, hS64, hE63⟩
      have hB66 := hB52.trans (Ext.stp hE63 hS53.base)
      refine wl_step rfl (q_storeB (i := 0) (bs' := #[.int .i64 (p0[(Int.toNat v46)]!.1), .int .i64 (p0[(Int.toNat v46)]!.2.1), .int .i64 (p0[(Int.toNat v46)]!.2.2)]) (vs := [.int .i64 (p0[(Int.toNat v46)]!.1), .int .i64 (p0[(Int.toNat v46)]!.2.1), .int .i64 (p0[(Int.toNat v46)]!.2.2)]) hS64 AG39.sz rfl rfl rfl (by simp [Value.oneCell']) (Nat.le_of_ble_eq_true rfl) rfl) ?_
      rintro _ w67 ⟨rfl, hS68, hb69⟩
      have hB70 := hB66.trans hb69
      refine wl_nil ?_
      refine hK59 _ _ ?_
      refine w_seq fun K71 hK71 => ?_
      refine w_region ?_
      refine wl_val (g_move (v := .func (.func 28) #[] #[]) rfl) rfl ?_
      refine wl_val (g_fieldAddr (q := (⟨g62, 0, none⟩ : Addr)) FL39_0 ON3 rfl) rfl ?_
      refine wl_val (q_loadB (i := 0) (bs := #[.int .i64 (p0[(Int.toNat v46)]!.1), .int .i64 (p0[(Int.toNat v46)]!.2.1), .int .i64 (p0[(Int.toNat v46)]!.2.2)]) hS68.g0 ON3 rfl rfl) rfl ?_
      refine wl_step rfl (g_callvc (f := 28) (va := #[.int .i64 (p0[(Int.toNat v46)]!.1)]) (cap := #[]) (vs := #[.int .i64 (p0[(Int.toNat v46)]!.1)]) CF28 rfl (args1 rfl) rfl (m_impl_QuietTick_1_fn (p0[(Int.toNat v46)]!.1) hm)) ?_
      rintro _ w72 ⟨r75, hm, rfl, hE73⟩
      have hB76 := hB70.trans (Ext.stp hE73 hS68.base)
      have hS77 := hS68.ext hE73
      refine wl_val (g_move (v := .bool r75) rfl) rfl ?_
      refine wl_guard (c := r75 = true) (val := .pointer (some (((⟨g62, 0, none⟩ : Addr)).add 1))) (b := (r75 == true)) (gv_some rfl rfl rfl) beq_iff_eq (fun hc78 => ?_) ?_
      · have hcq2 : r75 = true := (Iff.rfl.mp hc78)
        exact g_fieldAddr (q := (⟨g62, 0, none⟩ : Addr)) FL39_1 ON3 rfl
      refine wl_guard (c := r75 = true) (val := .int .i64 (p0[(Int.toNat v46)]!.2.1)) (b := (r75 == true)) (gv_some rfl rfl rfl) beq_iff_eq (fun hc79 => ?_) ?_
      · have hcq2 : r75 = true := (Iff.rfl.mp hc79)
        exact q_loadB (i := 1) (bs := #[.int .i64 (p0[(Int.toNat v46)]!.1), .int .i64 (p0[(Int.toNat v46)]!.2.1), .int .i64 (p0[(Int.toNat v46)]!.2.2)]) hS77.g0 ON3 (if_pos hc79) rfl
      refine wl_guard (c := r75 = true) (val := .int .i64 p1) (b := (r75 == true)) (gv_some rfl rfl rfl) beq_iff_eq (fun hc80 => ?_) ?_
      · have hcq2 : r75 = true := (Iff.rfl.mp hc80)
        exact g_move (v := .int .i64 p1) rfl
      refine wl_guard (c := r75 = true) (val := .bool (decide (p0[(Int.toNat v46)]!.2.1 ≤ p1))) (b := (r75 == true)) (gv_some rfl rfl rfl) beq_iff_eq (fun hc81 => ?_) ?_
      · have hcq2 : r75 = true := (Iff.rfl.mp hc81)
        exact g_leq (a := p0[(Int.toNat v46)]!.2.1) (b := p1) (if_pos hc81) (if_pos hc81)
      refine wl_val (g_pick_and (b := r75) (q := (decide (p0[(Int.toNat v46)]!.2.1 ≤ p1))) rfl rfl) rfl ?_
      refine wl_val (g_move (v := .bool (r75 && (decide (p0[(Int.toNat v46)]!.2.1 ≤ p1)))) rfl) rfl ?_
      refine wl_guard (c := (r75 && (decide (p0[(Int.toNat v46)]!.2.1 ≤ p1))) = true) (val := .int .i64 p1) (b := ((r75 && (decide (p0[(Int.toNat v46)]!.2.1 ≤ p1))) == true)) (gv_some rfl rfl rfl) beq_iff_eq (fun hc82 => ?_) ?_
      · have hcq3 : ((r75 = true) ∧ (p0[(Int.toNat v46)]!.2.1 ≤ p1)) := ((i_and Iff.rfl decide_eq_true_iff).mp hc82)
        exact g_move (v := .int .i64 p1) rfl
      refine wl_guard (c := (r75 && (decide (p0[(Int.toNat v46)]!.2.1 ≤ p1))) = true) (val := .pointer (some (((⟨g62, 0, none⟩ : Addr)).add 2))) (b := ((r75 && (decide (p0[(Int.toNat v46)]!.2.1 ≤ p1))) == true)) (gv_some rfl rfl rfl) beq_iff_eq (fun hc83 => ?_) ?_
      · have hcq3 : ((r75 = true) ∧ (p0[(Int.toNat v46)]!.2.1 ≤ p1)) := ((i_and Iff.rfl decide_eq_true_iff).mp hc83)
        exact g_fieldAddr (q := (⟨g62, 0, none⟩ : Addr)) FL39_2 ON3 rfl
      refine wl_guard (c := (r75 && (decide (p0[(Int.toNat v46)]!.2.1 ≤ p1))) = true) (val := .int .i64 (p0[(Int.toNat v46)]!.2.2)) (b := ((r75 && (decide (p0[(Int.toNat v46)]!.2.1 ≤ p1))) == true)) (gv_some rfl rfl rfl) beq_iff_eq (fun hc84 => ?_) ?_
      · have hcq3 : ((r75 = true) ∧ (p0[(Int.toNat v46)]!.2.1 ≤ p1)) := ((i_and Iff.rfl decide_eq_true_iff).mp hc84)
        exact q_loadB (i := 2) (bs := #[.int .i64 (p0[(Int.toNat v46)]!.1), .int .i64 (p0[(Int.toNat v46)]!.2.1), .int .i64 (p0[(Int.toNat v46)]!.2.2)]) hS77.g0 ON3 (if_pos hc84) rfl
      refine wl_guard (c := (r75 && (decide (p0[(Int.toNat v46)]!.2.1 ≤ p1))) = true) (val := .bool (decide (p1 < p0[(Int.toNat v46)]!.2.2))) (b := ((r75 && (decide (p0[(Int.toNat v46)]!.2.1 ≤ p1))) == true)) (gv_some rfl rfl rfl) beq_iff_eq (fun hc85 => ?_) ?_
      · have hcq3 : ((r75 = true) ∧ (p0[(Int.toNat v46)]!.2.1 ≤ p1)) := ((i_and Iff.rfl decide_eq_true_iff).mp hc85)
        exact g_lss (a := p1) (b := p0[(Int.toNat v46)]!.2.2) (if_pos hc85) (if_pos hc85)
      refine wl_val (g_pick_and (b := (r75 && (decide (p0[(Int.toNat v46)]!.2.1 ≤ p1)))) (q := (decide (p1 < p0[(Int.toNat v46)]!.2.2))) rfl rfl) rfl ?_
      refine wl_nil ?_
      refine hK71 _ _ ?_
      refine w_condI (p := ((((r75 = true) ∧ (p0[(Int.toNat v46)]!.2.1 ≤ p1))) ∧ (p1 < p0[(Int.toNat v46)]!.2.2))) (b := ((r75 && (decide (p0[(Int.toNat v46)]!.2.1 ≤ p1))) && (decide (p1 < p0[(Int.toNat v46)]!.2.2)))) rfl (i_and (i_and Iff.rfl decide_eq_true_iff) decide_eq_true_iff) (fun h86 => ?_) (fun h86 => ?_)
      · replace hm := hm.1 h86
        refine w_seq fun K87 hK87 => ?_
        refine w_region ?_
        refine wl_val (g_assign (v := .bool true) rfl) rfl ?_
        refine wl_nil ?_
        refine hK87 _ _ ?_
        refine w_ret ?_
        repeat first | with_reducible refine q_then ?_ | with_reducible refine q_block ?_
        exact ret1 rfl (by decide) ⟨_, hm, rfl, toExt hB76⟩
      · replace hm := hm.2 h86
        refine w_skip ?_
        refine hK58 _ _ ?_
        refine w_region ?_
        obtain ⟨hg88, hm⟩ := hm
        refine wl_val (g_add (a := v46) (b := 1) rfl rfl hg88) rfl ?_
        refine wl_val (g_move (v := .int .i64 (v46 + 1)) rfl) rfl ?_
        refine wl_nil ?_
        have hS89 := hS77.tail
        exact ⟨((v46 + 1)), hm.2, ⟨rfl, rfl, rfl, rfl, rfl, trivial⟩, ⟨hm.1, hB76, hS89⟩⟩
    · replace hm := hm.2 h57
      refine w_exit ?_
      exact ⟨(), trivial, ⟨hm, hB52, hS53⟩⟩
  · rintro _ b_ w90 ⟨hm, hB91, hS92⟩
    show Wp _ _ _ _ (upds b_ []) w90
    refine w_seq fun K93 hK93 => ?_
    refine w_region ?_
    refine wl_val (g_assign (v := .bool false) rfl) rfl ?_
    refine wl_nil ?_
    refine hK93 _ _ ?_
    refine w_ret ?_
    repeat first | with_reducible refine q_then ?_ | with_reducible refine q_block ?_
    exact ret1 rfl (by decide) ⟨_, hm, rfl, toExt hB91⟩

theorem m_impl_QuietTick_fn {w : World} {a0 : Option Addr} {n0 c0 : Nat} {p0 : List Stay} {Q : Int → Prop} (hp0 : Vw w.heap.size w a0 n0 c0 p0) (hm : m_impl_QuietTick p0 Q) :
    Fn Try.prog 18 #[.slice a0 n0 c0] w (fun v w' => ∃ (r0 : Int), Q r0 ∧ v = .int .i64 r0 ∧ Ext w w') := by
  unfold m_impl_QuietTick at hm
  have hB0 := Below.refl w.heap.size w
  have hS0 : Sep w w.heap.size [] := Sep.nil (Nat.le_refl _)
  refine fn_of_wp Try.func18 rfl (by kernel_rfl) (Nat.le_of_ble_eq_true rfl) ?_
  refine w_seq fun K1 hK1 => ?_
  refine w_region ?_
  refine wl_val (g_assign (v := .int .i64 0) rfl) rfl ?_
  refine wl_nil ?_
  refine hK1 _ _ ?_
  refine w_seq fun K2 hK2 => ?_
  refine w_seq fun K3 hK3 => ?_
  refine w_region ?_
  refine wl_val (g_move (v := .slice a0 n0 c0) rfl) rfl ?_
  refine wl_step rfl (g_call (vs := #[.slice a0 n0 c0]) CF22 (args1 rfl) (m_impl_StaysOk_fn ((hp0.bel hB0).up hS0) hm)) ?_
  rintro _ w4 ⟨r7, hm, rfl, hE5⟩
  have hB8 := hB0.trans (Ext.stp hE5 hS0.base)
  have hS9 := hS0.ext hE5
  refine wl_val (g_not (a := r7) rfl) rfl ?_
  refine wl_nil ?_
  refine hK3 _ _ ?_
  refine w_condI (p := ¬ (r7 = true)) (b := (!r7)) rfl (i_not Iff.rfl) (fun h10 => ?_) (fun h10 => ?_)
  · replace hm := hm.1 h10
    refine w_seq fun K11 hK11 => ?_
    refine w_region ?_
    refine wl_val (g_assign (v := .int .i64 (-1)) rfl) rfl ?_
    refine wl_nil ?_
    refine hK11 _ _ ?_
    refine w_ret ?_
    repeat first | with_reducible refine q_then ?_ | with_reducible refine q_block ?_
    exact ret1 rfl (by decide) ⟨_, hm, rfl, toExt hB8⟩
  · replace hm := hm.2 h10
    refine w_skip ?_
    refine hK2 _ _ ?_
    refine w_seq fun K12 hK12 => ?_
    refine w_region ?_
    refine wl_val (g_assign (v := .int .i64 0) rfl) rfl ?_
    refine wl_nil ?_
    refine hK12 _ _ ?_
    refine w_cut (σ := Int) (fun v51 => [(3, .int .i64 v51)]) (fun v51 w' => m_impl_QuietTick_K0 Q v51 ∧ Below w.heap.size w w' ∧ Sep w' w.heap.size []) ?_ ?_
    · refine w_block ?_
      obtain ⟨I54, μ55, h056, hr57⟩ := hm
      refine w_for (σ := Int) (fun v53 => [(0, .slice a0 n0 c0), (3, .int .i64 v53)]) (fun v53 w' => I54 v53 ∧ Below w.heap.size w w' ∧ Sep w' w.heap.size []) (fun v53 => μ55 v53) (0) ⟨rfl, rfl, trivial⟩ ⟨h056, hB8, hS9⟩ ?_
      rintro v53 b_ w58 ⟨hi_, hB59, hS60⟩
      show Wp _ _ _ _ (upds b_ [(0, .slice a0 n0 c0), (3, .int .i64 v53)]) w58
      have hm := hr57 v53 hi_
      refine w_seq fun K62 hK62 => ?_
      refine w_seq fun K63 hK63 => ?_
      refine w_region ?_
      refine wl_val (g_move (v := .slice a0 n0 c0) rfl) rfl ?_
      refine wl_val (g_move (v := .int .i64 v53) rfl) rfl ?_
      refine wl_step rfl (g_call (vs := #[.slice a0 n0 c0, .int .i64 v53, .func (.func 28) #[] #[]]) CF27 (args3 rfl rfl rfl) (m_impl_isBusy_QuietTick_1_fn ((hp0.bel hB59).up hS60) v53 hm)) ?_
      rintro _ w64 ⟨r67, hm, rfl, hE65⟩
      have hB68 := hB59.trans (Ext.stp hE65 hS60.base)
      have hS69 := hS60.ext hE65
      refine wl_nil ?_
      refine hK63 _ _ ?_
      refine w_condI (p := r67 = true) (b := r67) rfl Iff.rfl (fun h70 => ?_) (fun h70 => ?_)
      · replace hm := hm.1 h70
        refine w_skip ?_
        refine hK62 _ _ ?_
        refine w_block ?_
        refine w_region ?_
        refine wl_val (g_move (v := .int .i64 v53) rfl) rfl ?_
        obtain ⟨hg71, hm⟩ := hm
        refine wl_val (g_add (a := v53) (b := 1) rfl rfl hg71) rfl ?_
        refine wl_val (g_assign (v := .int .i64 (v53 + 1)) rfl) rfl ?_
        refine wl_nil ?_
        exact ⟨((v53 + 1)), hm.2, ⟨rfl, rfl, trivial⟩, ⟨hm.1, hB68, hS69⟩⟩
      · replace hm := hm.2 h70
        refine w_exit ?_
        exact ⟨(v53), ⟨rfl, trivial⟩, ⟨hm, hB68, hS69⟩⟩
    · rintro v51 b_ w72 ⟨hm, hB73, hS74⟩
      show Wp _ _ _ _ (upds b_ [(3, .int .i64 v51)]) w72
      refine w_seq fun K75 hK75 => ?_
      refine w_region ?_
      refine wl_val (g_move (v := .int .i64 v51) rfl) rfl ?_
      refine wl_val (g_assign (v := .int .i64 v51) rfl) rfl ?_
      refine wl_nil ?_
      refine hK75 _ _ ?_
      refine w_ret ?_
      repeat first | with_reducible refine q_then ?_ | with_reducible refine q_block ?_
      exact ret1 rfl (by decide) ⟨_, hm, rfl, toExt hB73⟩

theorem m_impl_BusyTicks_1_fn {w : World} {B_ : Nat} {L_ : List Ob} {gq0 : Nat} {q0 : Int} {Q : Bool → Int → Prop} (hS0 : Sep w B_ (oB gq0 3 #[.int .i64 q0] :: L_)) (p0 : Int) (hm : m_impl_BusyTicks_1 p0 q0 Q) :
    Fn Try.prog 29 #[.int .i64 p0, .pointer (some (⟨gq0, 0, none⟩ : Addr))] w (fun v w' => ∃ (r0 : Bool) (x0 : Int), Q r0 x0 ∧ v = .bool r0 ∧ Below B_ w w' ∧ Sep w' B_ (oB gq0 3 #[.int .i64 x0] :: L_)) := by
  unfold m_impl_BusyTicks_1 at hm
  have hB0 := Below.refl B_ w
  refine fn_of_wp Try.func29 rfl (by kernel_rfl) (Nat.le_of_ble_eq_true rfl) ?_
  refine w_seq fun K2 hK2 => ?_
  refine w_region ?_
  refine wl_val (g_assign (v := .bool false) rfl) rfl ?_
  refine wl_nil ?_
  refine hK2 _ _ ?_
  refine w_seq fun K3 hK3 => ?_
  refine w_region ?_
  refine wl_val (g_move (v := .int .i64 p0) rfl) rfl ?_
  refine wl_val (q_loadB (i := 0) (bs := #[.int .i64 q0]) hS0.g0 ON3 rfl rfl) rfl ?_
  refine wl_val (g_eql (a := p0) (b := q0) rfl rfl) rfl ?_
  refine wl_val (g_assign (v := .bool (decide (p0 = q0))) rfl) rfl ?_
  refine wl_nil ?_
  refine hK3 _ _ ?_
  refine w_ret ?_
  repeat first | with_reducible refine q_then ?_ | with_reducible refine q_block ?_
  exact ret1 rfl (by decide) ⟨_, _, hm, rfl, hB0, hS0⟩

theorem m_impl_isBusy_BusyTicks_1_fn {w : World} {B_ : Nat} {L_ : List Ob} {a0 : Option Addr} {n0 c0 : Nat} {p0 : List Stay} {gp2_0 : Nat} {p2_0 : Int} {Q : Bool → Int → Prop} (hS0 : Sep w B_ (oB gp2_0 3 #[.int .i64 p2_0] :: L_)) (hp0 : Vw B_ w a0 n0 c0 p0) (p1 : Int) (hm : m_impl_isBusy_BusyTicks_1 p0 p1 p2_0 Q) :
    Fn Try.prog 27 #[.slice a0 n0 c0, .int .i64 p1, .func (.func 29) #[] #[.pointer (some (⟨gp2_0, 0, none⟩ : Addr))]] w (fun v w' => ∃ (r0 : Bool) (x0 : Int), Q r0 x0 ∧ v = .bool r0 ∧ Below B_ w w' ∧ Sep w' B_ (oB gp2_0 3 #[.int .i64 x0] :: L_)) := by
  unfold m_impl_isBusy_BusyTicks_1 at hm
  have hB0 := Below.refl B_ w
  refine fn_of_wp Try.func27 rfl (by kernel_rfl) (Nat.le_of_ble_eq_true rfl) ?_
  refine w_seq fun K2 hK2 => ?_
  refine w_region ?_
  refine wl_val (g_assign (v := .bool false) rfl) rfl ?_
  refine wl_nil ?_
  refine hK2 _ _ ?_
  refine w_cut (σ := Int) (fun v99 => []) (fun v99 w' => m_impl_isBusy_BusyTicks_1_K0 Q v99 ∧ Below B_ w w' ∧ Sep w' B_ (oB gp2_0 3 #[.int .i64 v99] :: L_)) ?_ ?_
  · refine w_seq fun K101 hK101 => ?_
    refine w_region ?_
    refine wl_val (g_move (v := .slice a0 n0 c0) rfl) rfl ?_
    refine wl_val (q_len SL26 rfl (Vw.len (hp0.bel hB0))) rfl ?_
    refine wl_val (g_move (v := .int .i64 0) rfl) rfl ?_
    refine wl_nil ?_
    refine hK101 _ _ ?_
    refine w_block ?_
    obtain ⟨I104, μ105, h0106, hr107⟩ := hm
    refine w_for (σ := Int × Int) (fun ⟨v102, v103⟩ => [(1, .int .i64 p1), (2, .func (.func 29) #[] #[.pointer (some (⟨gp2_0, 0, none⟩ : Addr))]), (9, .slice a0 n0 c0), (10, .int .i64 (p0.length : Int)), (11, .int .i64 v102)]) (fun ⟨v102, v103⟩ w' => I104 v102 v103 ∧ Below B_ w w' ∧ Sep w' B_ (oB gp2_0 3 #[.int .i64 v103] :: L_)) (fun ⟨v102, v103⟩ => μ105 v102 v103) (0, p2_0) ⟨rfl, rfl, rfl, rfl, rfl, trivial⟩ ⟨h0106, hB0, hS0⟩ ?_
    rintro ⟨v102, v103⟩ b_ w108 ⟨hi_, hB109, hS110⟩
    show Wp _ _ _ _ (upds b_ [(1, .int .i64 p1), (2, .func (.func 29) #[] #[.pointer (some (⟨gp2_0, 0, none⟩ : Addr))]), (9, .slice a0 n0 c0), (10, .int .i64 (p0.length : Int)), (11, .int .i64 v102)]) w108
    have hm := hr107 v102 v103 hi_
    refine w_seq fun K112 hK112 => ?_
    refine w_region ?_
    refine wl_val (g_lss (a := v102) (b := (p0.length : Int)) rfl rfl) rfl ?_
    refine wl_nil ?_
    refine hK112 _ _ ?_
    refine w_seq fun K113 hK113 => ?_
    refine w_condI (p := v102 < (p0.length : Int)) (b := (decide (v102 < (p0.length : Int)))) rfl decide_eq_true_iff (fun h114 => ?_) (fun h114 => ?_)
    · replace hm := hm.1 h114
      refine w_skip ?_
      refine hK113 _ _ ?_
      refine w_seq fun K115 hK115 => ?_
      refine w_block ?_
      refine w_seq fun K116 hK116 => ?_
      refine w_region ?_
      obtain ⟨hg117, hm⟩ := hm
      refine wl_val (q_index (i := v102) SL26 rfl rfl (hp0.bel hB109) hg117) rfl ?_
      refine wl_val (q_loadS (i := v102) (cs := [.int .i64 (p0[(Int.toNat v102)]!.1), .int .i64 (p0[(Int.toNat v102)]!.2.1), .int .i64 (p0[(Int.toNat v102)]!.2.2)]) AG39 (hp0.bel hB109) hg117 rfl rfl) rfl ?_
      refine wl_step rfl (q_alloc (cs := #[.int .i64 0, .int .i64 0, .int .i64 0]) ZR39 rfl hS110) ?_
      rintro _ w118 ⟨g119, rfl, hS121, hE120⟩
      have hB123 := hB109.trans (Ext.stp hE120 hS110.base)
      refine wl_step rfl (q_storeB (i := 0) (bs' := #[.int .i64 (p0[(Int.toNat v102)]!.1), .int .i64 (p0[(Int.toNat v102)]!.2.1), .int .i64 (p0[(Int.toNat v102)]!.2.2)]) (vs := [.int .i64 (p0[(Int.toNat v102)]!.1), .int .i64 (p0[(Int.toNat v102)]!.2.1), .int .i64 (p0[(Int.toNat v102)]!.2.2)]) hS121 AG39.sz rfl rfl rfl (by simp [Value.oneCell']) (Nat.le_of_ble_eq_true rfl) rfl) ?_
      rintro _ w124 ⟨rfl, hS125, hb126⟩
      have hB127 := hB123.trans hb126
      refine wl_nil ?_
      refine hK116 _ _ ?_
      refine w_seq fun K128 hK128 => ?_
      refine w_region ?_
      refine wl_val (g_move (v := .func (.func 29) #[] #[.pointer (some (⟨gp2_0, 0, none⟩ : Addr))]) rfl) rfl ?_
      refine wl_val (g_fieldAddr (q := (⟨g119, 0, none⟩ : Addr)) FL39_0 ON3 rfl) rfl ?_
      refine wl_val (q_loadB (i := 0) (bs := #[.int .i64 (p0[(Int.toNat v102)]!.1), .int .i64 (p0[(Int.toNat v102)]!.2.1), .int .i64 (p0[(Int.toNat v102)]!.2.2)]) hS125.g0 ON3 rfl rfl) rfl ?_
      have hS129 := hS125.f1
      refine wl_step rfl (g_callvc (f := 29) (va := #[.int .i64 (p0[(Int.toNat v102)]!.1)]) (cap := #[.pointer (some (⟨gp2_0, 0, none⟩ : Addr))]) (vs := #[.int .i64 (p0[(Int.toNat v102)]!.1), .pointer (some (⟨gp2_0, 0, none⟩ : Addr))]) CF29 rfl (args1 rfl) rfl (m_impl_BusyTicks_1_fn hS129 (p0[(Int.toNat v102)]!.1) hm)) ?_
      rintro _ w130 ⟨r133, x134, hm, rfl, hb131, hS132⟩
      have hB135 := hB127.trans hb131
      refine wl_val (g_move (v := .bool r133) rfl) rfl ?_
      refine wl_guard (c := r133 = true) (val := .pointer (some (((⟨g119, 0, none⟩ : Addr)).add 1))) (b := (r133 == true)) (gv_some rfl rfl rfl) beq_iff_eq (fun hc136 => ?_) ?_
      · have hcq4 : r133 = true := (Iff.rfl.mp hc136)
        exact g_fieldAddr (q := (⟨g119, 0, none⟩ : Addr)) FL39_1 ON3 rfl
      refine wl_guard (c := r133 = true) (val := .int .i64 (p0[(Int.toNat v102)]!.2.1)) (b := (r133 == true)) (gv_some rfl rfl rfl) beq_iff_eq (fun hc137 => ?_) ?_
      · have hcq4 : r133 = true := (Iff.rfl.mp hc137)
        exact q_loadB (i := 1) (bs := #[.int .i64 (p0[(Int.toNat v102)]!.1), .int .i64 (p0[(Int.toNat v102)]!.2.1), .int .i64 (p0[(Int.toNat v102)]!.2.2)]) hS132.g1 ON3 (if_pos hc137) rfl
      refine wl_guard (c := r133 = true) (val := .int .i64 p1) (b := (r133 == true)) (gv_some rfl rfl rfl) beq_iff_eq (fun hc138 => ?_) ?_
      · have hcq4 : r133 = true := (Iff.rfl.mp hc138)
        exact g_move (v := .int .i64 p1) rfl
      refine wl_guard (c := r133 = true) (val := .bool (decide (p0[(Int.toNat v102)]!.2.1 ≤ p1))) (b := (r133 == true)) (gv_some rfl rfl rfl) beq_iff_eq (fun hc139 => ?_) ?_
      · have hcq4 : r133 = true := (Iff.rfl.mp hc139)
        exact g_leq (a := p0[(Int.toNat v102)]!.2.1) (b := p1) (if_pos hc139) (if_pos hc139)
      refine wl_val (g_pick_and (b := r133) (q := (decide (p0[(Int.toNat v102)]!.2.1 ≤ p1))) rfl rfl) rfl ?_
      refine wl_val (g_move (v := .bool (r133 && (decide (p0[(Int.toNat v102)]!.2.1 ≤ p1)))) rfl) rfl ?_
      refine wl_guard (c := (r133 && (decide (p0[(Int.toNat v102)]!.2.1 ≤ p1))) = true) (val := .int .i64 p1) (b := ((r133 && (decide (p0[(Int.toNat v102)]!.2.1 ≤ p1))) == true)) (gv_some rfl rfl rfl) beq_iff_eq (fun hc140 => ?_) ?_
      · have hcq5 : ((r133 = true) ∧ (p0[(Int.toNat v102)]!.2.1 ≤ p1)) := ((i_and Iff.rfl decide_eq_true_iff).mp hc140)
        exact g_move (v := .int .i64 p1) rfl
      refine wl_guard (c := (r133 && (decide (p0[(Int.toNat v102)]!.2.1 ≤ p1))) = true) (val := .pointer (some (((⟨g119, 0, none⟩ : Addr)).add 2))) (b := ((r133 && (decide (p0[(Int.toNat v102)]!.2.1 ≤ p1))) == true)) (gv_some rfl rfl rfl) beq_iff_eq (fun hc141 => ?_) ?_
      · have hcq5 : ((r133 = true) ∧ (p0[(Int.toNat v102)]!.2.1 ≤ p1)) := ((i_and Iff.rfl decide_eq_true_iff).mp hc141)
        exact g_fieldAddr (q := (⟨g119, 0, none⟩ : Addr)) FL39_2 ON3 rfl
      refine wl_guard (c := (r133 && (decide (p0[(Int.toNat v102)]!.2.1 ≤ p1))) = true) (val := .int .i64 (p0[(Int.toNat v102)]!.2.2)) (b := ((r133 && (decide (p0[(Int.toNat v102)]!.2.1 ≤ p1))) == true)) (gv_some rfl rfl rfl) beq_iff_eq (fun hc142 => ?_) ?_
      · have hcq5 : ((r133 = true) ∧ (p0[(Int.toNat v102)]!.2.1 ≤ p1)) := ((i_and Iff.rfl decide_eq_true_iff).mp hc142)
        exact q_loadB (i := 2) (bs := #[.int .i64 (p0[(Int.toNat v102)]!.1), .int .i64 (p0[(Int.toNat v102)]!.2.1), .int .i64 (p0[(Int.toNat v102)]!.2.2)]) hS132.g1 ON3 (if_pos hc142) rfl
      refine wl_guard (c := (r133 && (decide (p0[(Int.toNat v102)]!.2.1 ≤ p1))) = true) (val := .bool (decide (p1 < p0[(Int.toNat v102)]!.2.2))) (b := ((r133 && (decide (p0[(Int.toNat v102)]!.2.1 ≤ p1))) == true)) (gv_some rfl rfl rfl) beq_iff_eq (fun hc143 => ?_) ?_
      · have hcq5 : ((r133 = true) ∧ (p0[(Int.toNat v102)]!.2.1 ≤ p1)) := ((i_and Iff.rfl decide_eq_true_iff).mp hc143)
        exact g_lss (a := p1) (b := p0[(Int.toNat v102)]!.2.2) (if_pos hc143) (if_pos hc143)
      refine wl_val (g_pick_and (b := (r133 && (decide (p0[(Int.toNat v102)]!.2.1 ≤ p1)))) (q := (decide (p1 < p0[(Int.toNat v102)]!.2.2))) rfl rfl) rfl ?_
      refine wl_nil ?_
      refine hK128 _ _ ?_
      refine w_condI (p := ((((r133 = true) ∧ (p0[(Int.toNat v102)]!.2.1 ≤ p1))) ∧ (p1 < p0[(Int.toNat v102)]!.2.2))) (b := ((r133 && (decide (p0[(Int.toNat v102)]!.2.1 ≤ p1))) && (decide (p1 < p0[(Int.toNat v102)]!.2.2)))) rfl (i_and (i_and Iff.rfl decide_eq_true_iff) decide_eq_true_iff) (fun h144 => ?_) (fun h144 => ?_)
      · replace hm := hm.1 h144
        refine w_seq fun K145 hK145 => ?_
        refine w_region ?_
        refine wl_val (g_assign (v := .bool true) rfl) rfl ?_
        refine wl_nil ?_
        refine hK145 _ _ ?_
        refine w_ret ?_
        have hS146 := hS132.f1
        have hS147 := hS146.tail
        repeat first | with_reducible refine q_then ?_ | with_reducible refine q_block ?_
        exact ret1 rfl (by decide) ⟨_, _, hm, rfl, hB135, hS147⟩
      · replace hm := hm.2 h144
        refine w_skip ?_
        refine hK115 _ _ ?_
        refine w_region ?_
        obtain ⟨hg148, hm⟩ := hm
        refine wl_val (g_add (a := v102) (b := 1) rfl rfl hg148) rfl ?_
        refine wl_val (g_move (v := .int .i64 (v102 + 1)) rfl) rfl ?_
        refine wl_nil ?_
        have hS149 := hS132.f1
        have hS150 := hS149.tail
        exact ⟨((v102 + 1), x134), hm.2, ⟨rfl, rfl, rfl, rfl, rfl, trivial⟩, ⟨hm.1, hB135, hS150⟩⟩
    · replace hm := hm.2 h114
      refine w_exit ?_
      exact ⟨(v103), trivial, ⟨hm, hB109, hS110⟩⟩
  · rintro v99 b_ w151 ⟨hm, hB152, hS153⟩
    show Wp _ _ _ _ (upds b_ []) w151
    refine w_seq fun K154 hK154 => ?_
    refine w_region ?_
    refine wl_val (g_assign (v := .bool false) rfl) rfl ?_
    refine wl_nil ?_
    refine hK154 _ _ ?_
    refine w_ret ?_
    repeat first | with_reducible refine q_then ?_ | with_reducible refine q_block ?_
    exact ret1 rfl (by decide) ⟨_, _, hm, rfl, hB152, hS153⟩

theorem m_impl_BusyTicks_fn {w : World} {a0 : Option Addr} {n0 c0 : Nat} {p0 : List Stay} {Q : Int → Prop} (hp0 : Vw w.heap.size w a0 n0 c0 p0) (p1 : Int) (hm : m_impl_BusyTicks p0 p1 Q) :
    Fn Try.prog 19 #[.slice a0 n0 c0, .int .i64 p1] w (fun v w' => ∃ (r0 : Int), Q r0 ∧ v = .int .i64 r0 ∧ Ext w w') := by
  unfold m_impl_BusyTicks at hm
  have hB0 := Below.refl w.heap.size w
  have hS0 : Sep w w.heap.size [] := Sep.nil (Nat.le_refl _)
  refine fn_of_wp Try.func19 rfl (by kernel_rfl) (Nat.le_of_ble_eq_true rfl) ?_
  refine w_seq fun K1 hK1 => ?_
  refine w_region ?_
  refine wl_step rfl (q_box (cs := #[.int .i64 p1]) rfl rfl hS0) ?_
  rintro _ w2 ⟨g3, rfl, hS5, hE4⟩
  have hB7 := hB0.trans (Ext.stp hE4 hS0.base)
  refine wl_val (g_assign (v := .int .i64 0) rfl) rfl ?_
  refine wl_nil ?_
  refine hK1 _ _ ?_
  refine w_seq fun K8 hK8 => ?_
  refine w_seq fun K9 hK9 => ?_
  refine w_region ?_
  refine wl_val (g_move (v := .slice a0 n0 c0) rfl) rfl ?_
  refine wl_step rfl (g_call (vs := #[.slice a0 n0 c0]) CF22 (args1 rfl) (m_impl_StaysOk_fn ((hp0.bel hB7).up hS5) hm)) ?_
  rintro _ w10 ⟨r13, hm, rfl, hE11⟩
  have hB14 := hB7.trans (Ext.stp hE11 hS5.base)
  have hS15 := hS5.ext hE11
  refine wl_val (g_not (a := r13) rfl) rfl ?_
  refine wl_nil ?_
  refine hK9 _ _ ?_
  refine w_condI (p := ¬ (r13 = true)) (b := (!r13)) rfl (i_not Iff.rfl) (fun h16 => ?_) (fun h16 => ?_)
  · replace hm := hm.1 h16
    refine w_seq fun K17 hK17 => ?_
    refine w_region ?_
    refine wl_val (g_assign (v := .int .i64 (-1)) rfl) rfl ?_
    refine wl_nil ?_
    refine hK17 _ _ ?_
    refine w_ret ?_
    repeat first | with_reducible refine q_then ?_ | with_reducible refine q_block ?_
    exact ret1 rfl (by decide) ⟨_, hm, rfl, toExt hB14⟩
  · replace hm := hm.2 h16
    refine w_skip ?_
    refine hK8 _ _ ?_
    refine w_seq fun K18 hK18 => ?_
    refine w_region ?_
    refine wl_val (g_assign (v := .int .i64 0) rfl) rfl ?_
    refine wl_nil ?_
    refine hK18 _ _ ?_
    refine w_cut (σ := Int) (fun v71 => [(5, .int .i64 v71)]) (fun v71 w' => m_impl_BusyTicks_K0 Q v71 ∧ Below w.heap.size w w' ∧ Sep w' w.heap.size []) ?_ ?_
    · refine w_seq fun K73 hK73 => ?_
      refine w_region ?_
      refine wl_val (g_move (v := .int .i64 0) rfl) rfl ?_
      refine wl_nil ?_
      refine hK73 _ _ ?_
      refine w_block ?_
      obtain ⟨I77, μ78, h079, hr80⟩ := hm
      refine w_for (σ := Int × Int × Int) (fun ⟨v74, v75, v76⟩ => [(0, .slice a0 n0 c0), (3, .pointer (some (⟨g3, 0, none⟩ : Addr))), (5, .int .i64 v74), (10, .int .i64 v75)]) (fun ⟨v74, v75, v76⟩ w' => I77 v74 v75 v76 ∧ Below w.heap.size w w' ∧ Sep w' w.heap.size [oB g3 3 #[.int .i64 v76]]) (fun ⟨v74, v75, v76⟩ => μ78 v74 v75 v76) (0, 0, p1) ⟨rfl, rfl, rfl, rfl, trivial⟩ ⟨h079, hB14, hS15⟩ ?_
      rintro ⟨v74, v75, v76⟩ b_ w81 ⟨hi_, hB82, hS83⟩
      show Wp _ _ _ _ (upds b_ [(0, .slice a0 n0 c0), (3, .pointer (some (⟨g3, 0, none⟩ : Addr))), (5, .int .i64 v74), (10, .int .i64 v75)]) w81
      have hm := hr80 v74 v75 v76 hi_
      refine w_seq fun K85 hK85 => ?_
      refine w_region ?_
      refine wl_val (g_lss (a := v75) (b := 1000) rfl rfl) rfl ?_
      refine wl_nil ?_
      refine hK85 _ _ ?_
      refine w_seq fun K86 hK86 => ?_
      refine w_condI (p := v75 < 1000) (b := (decide (v75 < 1000))) rfl decide_eq_true_iff (fun h87 => ?_) (fun h87 => ?_)
      · replace hm := hm.1 h87
        refine w_skip ?_
        refine hK86 _ _ ?_
        refine w_seq fun K88 hK88 => ?_
        refine w_block ?_
        refine w_seq fun K89 hK89 => ?_
        refine w_region ?_
        refine wl_val (g_move (v := .int .i64 v75) rfl) rfl ?_
        refine wl_val (g_assign (v := .int .i64 v75) rfl) rfl ?_
        refine wl_nil ?_
        refine hK89 _ _ ?_
        refine w_seq fun K90 hK90 => ?_
        refine w_region ?_
        refine wl_val (g_move (v := .slice a0 n0 c0) rfl) rfl ?_
        refine wl_val (g_move (v := .int .i64 v75) rfl) rfl ?_
        refine wl_val (g_makeFunc (vs := #[.pointer (some (⟨g3, 0, none⟩ : Addr))]) (args1 rfl)) rfl ?_
        refine wl_step rfl (g_call (vs := #[.slice a0 n0 c0, .int .i64 v75, .func (.func 29) #[] #[.pointer (some (⟨g3, 0, none⟩ : Addr))]]) CF27 (args3 rfl rfl rfl) (m_impl_isBusy_BusyTicks_1_fn hS83 (hp0.bel hB82) v75 hm)) ?_
        rintro _ w91 ⟨r94, x95, hm, rfl, hb92, hS93⟩
        have hB96 := hB82.trans hb92
        refine wl_nil ?_
        refine hK90 _ _ ?_
        refine w_condI (p := r94 = true) (b := r94) rfl Iff.rfl (fun h97 => ?_) (fun h97 => ?_)
        · replace hm := hm.1 h97
          refine w_region ?_
          refine wl_val (g_move (v := .int .i64 v74) rfl) rfl ?_
          obtain ⟨hg98, hm⟩ := hm
          refine wl_val (g_add (a := v74) (b := 1) rfl rfl hg98) rfl ?_
          refine wl_val (g_assign (v := .int .i64 (v74 + 1)) rfl) rfl ?_
          refine wl_nil ?_
          refine hK88 _ _ ?_
          refine w_region ?_
          obtain ⟨hg99, hm⟩ := hm
          refine wl_val (g_add (a := v75) (b := 1) rfl rfl hg99) rfl ?_
          refine wl_val (g_move (v := .int .i64 (v75 + 1)) rfl) rfl ?_
          refine wl_nil ?_
          exact ⟨((v74 + 1), (v75 + 1), x95), hm.2, ⟨rfl, rfl, rfl, rfl, trivial⟩, ⟨hm.1, hB96, hS93⟩⟩
        · replace hm := hm.2 h97
          refine w_skip ?_
          refine hK88 _ _ ?_
          refine w_region ?_
          obtain ⟨hg100, hm⟩ := hm
          refine wl_val (g_add (a := v75) (b := 1) rfl rfl hg100) rfl ?_
          refine wl_val (g_move (v := .int .i64 (v75 + 1)) rfl) rfl ?_
          refine wl_nil ?_
          exact ⟨(v74, (v75 + 1), x95), hm.2, ⟨rfl, rfl, rfl, rfl, trivial⟩, ⟨hm.1, hB96, hS93⟩⟩
      · replace hm := hm.2 h87
        refine w_exit ?_
        have hS101 := hS83.tail
        exact ⟨(v74), ⟨rfl, trivial⟩, ⟨hm, hB82, hS101⟩⟩
    · rintro v71 b_ w102 ⟨hm, hB103, hS104⟩
      show Wp _ _ _ _ (upds b_ [(5, .int .i64 v71)]) w102
      refine w_seq fun K105 hK105 => ?_
      refine w_region ?_
      refine wl_val (g_move (v := .int .i64 v71) rfl) rfl ?_
      refine wl_val (g_assign (v := .int .i64 v71) rfl) rfl ?_
      refine wl_nil ?_
      refine hK105 _ _ ?_
      refine w_ret ?_
      repeat first | with_reducible refine q_then ?_ | with_reducible refine q_block ?_
      exact ret1 rfl (by decide) ⟨_, hm, rfl, toExt hB103⟩

end Go.Proofs.Ytebfcpninegcgaa
