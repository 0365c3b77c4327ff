/- The walks: the code does what its model says. Printed by a program (gen2.py). No statement of the claim stands here. -/
import Derived.Test.YtddjkiefadiijaaLit
import Derived.Test.YtddjkiefadiijaaFacts2
import Derived.Test.YtddjkiefadiijaaSop
import Derived.Test.YtddjkiefadiijaaFacts
import Derived.Test.YtddjkiefadiijaaMG
namespace Go.Proofs.Ytddjkiefadiijaa
open Go Go.RowKit
set_option maxRecDepth 100000
theorem m_laws_big_fn {w : World} {a0 : Option Addr} {n0 c0 : Nat} {p0 : List Byte} {Q : Bool → Prop} (hp0 : Vw w.heap.size w a0 n0 c0 p0) (hm : m_laws_big p0 Q) :
    Fn Try.prog 37 #[.slice a0 n0 c0] w (fun v w' => ∃ (r0 : Bool), Q r0 ∧ v = .bool r0 ∧ Ext w w') := by
  unfold m_laws_big at hm
  have hB0 := Below.refl w.heap.size w
  have hS0 : Sep w w.heap.size [] := Sep.nil (Nat.le_refl _)
  refine fn_of_wp Try.func37 rfl (by kernel_rfl) (Nat.le_of_ble_eq_true rfl) ?_
  refine w_seq fun K1 hK1 => ?_
  refine w_region ?_
  refine wl_val (g_assign (v := .bool false) rfl) rfl ?_
  refine wl_nil ?_
  refine hK1 _ _ ?_
  refine w_seq fun K2 hK2 => ?_
  refine w_region ?_
  refine wl_val (g_move (v := .slice a0 n0 c0) rfl) rfl ?_
  refine wl_val (q_len SL46 rfl (Vw.len (hp0.bel hB0))) rfl ?_
  refine wl_val (g_gtr (a := (p0.length : Int)) (b := 1048576) rfl rfl) rfl ?_
  refine wl_val (g_assign (v := .bool (decide ((p0.length : Int) > 1048576))) rfl) rfl ?_
  refine wl_nil ?_
  refine hK2 _ _ ?_
  refine w_ret ?_
  repeat first | with_reducible refine q_then ?_ | with_reducible refine q_block ?_
  exact ret1 rfl (by decide) ⟨_, hm, rfl, toExt hB0⟩

theorem m_spec_l01New_raw_fn {w : World} {a0 : Option Addr} {n0 c0 : Nat} {p0 : List Byte} {Q : Int → Int → Prop} (hp0 : Vw w.heap.size w a0 n0 c0 p0) (hm : m_spec_l01New_raw p0 Q) :
    Fn Try.prog 80 #[.slice a0 n0 c0] w (fun v w' => ∃ (g0 : Nat) (r0 r0_ : Int), Q r0 r0_ ∧ v = .pointer (some ⟨g0, 0, none⟩) ∧ Ext w w' ∧ Sep w' w.heap.size [oB g0 89 #[.slice a0 n0 c0, .int .i64 r0, .int .i64 r0_]]) := by
  unfold m_spec_l01New_raw at hm
  have hB0 := Below.refl w.heap.size w
  have hS0 : Sep w w.heap.size [] := Sep.nil (Nat.le_refl _)
  refine fn_of_wp Try.func80 rfl (by kernel_rfl) (Nat.le_of_ble_eq_true rfl) ?_
  refine w_seq fun K1 hK1 => ?_
  refine w_region ?_
  refine wl_val (g_assign (v := .pointer none) rfl) rfl ?_
  refine wl_nil ?_
  refine hK1 _ _ ?_
  refine w_seq fun K2 hK2 => ?_
  refine w_region ?_
  refine wl_val (g_move (v := .slice a0 n0 c0) rfl) rfl ?_
  refine wl_val (q_len SL46 rfl (Vw.len (hp0.bel hB0))) rfl ?_
  obtain ⟨hg3, hm⟩ := hm
  refine wl_val (g_add (a := 33061) (b := (p0.length : Int)) rfl rfl hg3) rfl ?_
  refine wl_val (g_assign (v := .int .i64 (33061 + (p0.length : Int))) rfl) rfl ?_
  refine wl_nil ?_
  refine hK2 _ _ ?_
  refine w_cut (σ := Int) (fun v40 => [(0, .slice a0 n0 c0), (3, .int .i64 v40)]) (fun v40 w' => m_spec_l01New_raw_K0 Q v40 ∧ Below w.heap.size w w' ∧ Sep w' w.heap.size []) ?_ ?_
  · refine w_seq fun K42 hK42 => ?_
    refine w_region ?_
    refine wl_val (g_assign (v := .int .i64 0) rfl) rfl ?_
    refine wl_nil ?_
    refine hK42 _ _ ?_
    refine w_block ?_
    obtain ⟨I45, μ46, h047, hr48⟩ := hm
    refine w_for (σ := Int × Int) (fun ⟨v43, v44⟩ => [(0, .slice a0 n0 c0), (3, .int .i64 v43), (4, .int .i64 v44)]) (fun ⟨v43, v44⟩ w' => I45 v43 v44 ∧ Below w.heap.size w w' ∧ Sep w' w.heap.size []) (fun ⟨v43, v44⟩ => μ46 v43 v44) ((33061 + (p0.length : Int)), 0) ⟨rfl, rfl, rfl, trivial⟩ ⟨h047, hB0, hS0⟩ ?_
    rintro ⟨v43, v44⟩ b_ w49 ⟨hi_, hB50, hS51⟩
    show Wp _ _ _ _ (upds b_ [(0, .slice a0 n0 c0), (3, .int .i64 v43), (4, .int .i64 v44)]) w49
    have hm := hr48 v43 v44 hi_
    refine w_seq fun K53 hK53 => ?_
    refine w_seq fun K54 hK54 => ?_
    refine w_region ?_
    refine wl_val (g_move (v := .int .i64 v44) rfl) rfl ?_
    refine wl_val (g_move (v := .slice a0 n0 c0) rfl) rfl ?_
    refine wl_val (q_len SL46 rfl (Vw.len (hp0.bel hB50))) rfl ?_
    refine wl_val (g_lss (a := v44) (b := (p0.length : Int)) rfl rfl) rfl ?_
    refine wl_val (g_move (v := .bool (decide (v44 < (p0.length : Int)))) rfl) rfl ?_
    refine wl_guard (c := (decide (v44 < (p0.length : Int))) = true) (val := .int .i64 v44) (b := ((decide (v44 < (p0.length : Int))) == true)) (gv_some rfl rfl rfl) beq_iff_eq (fun hc55 => ?_) ?_
    · have hcq2 : v44 < (p0.length : Int) := (decide_eq_true_iff.mp hc55)
      exact g_move (v := .int .i64 v44) rfl
    refine wl_guard (c := (decide (v44 < (p0.length : Int))) = true) (val := .bool (decide (v44 < 4000))) (b := ((decide (v44 < (p0.length : Int))) == true)) (gv_some rfl rfl rfl) beq_iff_eq (fun hc56 => ?_) ?_
    · have hcq2 : v44 < (p0.length : Int) := (decide_eq_true_iff.mp hc56)
      exact g_lss (a := v44) (b := 4000) (if_pos hc56) rfl
    refine wl_val (g_pick_and (b := (decide (v44 < (p0.length : Int)))) (q := (decide (v44 < 4000))) rfl rfl) rfl ?_
    refine wl_nil ?_
    refine hK54 _ _ ?_
    refine w_condI (p := ((v44 < (p0.length : Int)) ∧ (v44 < 4000))) (b := ((decide (v44 < (p0.length : Int))) && (decide (v44 < 4000)))) rfl (i_and decide_eq_true_iff decide_eq_true_iff) (fun h57 => ?_) (fun h57 => ?_)
    · replace hm := hm.1 h57
      refine w_skip ?_
      refine hK53 _ _ ?_
      refine w_seq fun K58 hK58 => ?_
      refine w_block ?_
      refine w_region ?_
      refine wl_val (g_move (v := .int .i64 v43) rfl) rfl ?_
      refine wl_val (q_wmul (a := v43) (b := 131) rfl rfl) rfl ?_
      refine wl_val (g_move (v := .slice a0 n0 c0) rfl) rfl ?_
      refine wl_val (g_move (v := .int .i64 v44) rfl) rfl ?_
      obtain ⟨hg59, hm⟩ := hm
      refine wl_val (q_index (i := v44) SL46 rfl rfl (hp0.bel hB50) hg59) rfl ?_
      refine wl_val (q_load (i := v44) (v := .int .u8 ((p0[(Int.toNat v44)]!).val : Int)) ON5 (hp0.bel hB50) hg59 rfl rfl) rfl ?_
      refine wl_val (g_conv8 (v := p0[(Int.toNat v44)]!) CV5_3 rfl) rfl ?_
      refine wl_val (q_wadd (a := (wmul v43 131)) (b := ((p0[(Int.toNat v44)]!).val : Int)) rfl rfl) rfl ?_
      refine wl_val (q_wadd (a := (wadd (wmul v43 131) ((p0[(Int.toNat v44)]!).val : Int))) (b := 7) rfl rfl) rfl ?_
      refine wl_val (q_wand (a := (wadd (wadd (wmul v43 131) ((p0[(Int.toNat v44)]!).val : Int)) 7)) (b := 1073741823) rfl rfl) rfl ?_
      refine wl_val (g_assign (v := .int .i64 (wand (wadd (wadd (wmul v43 131) ((p0[(Int.toNat v44)]!).val : Int)) 7) 1073741823)) rfl) rfl ?_
      refine wl_nil ?_
      refine hK58 _ _ ?_
      refine w_region ?_
      refine wl_val (g_move (v := .int .i64 v44) rfl) rfl ?_
      obtain ⟨hg60, hm⟩ := hm
      refine wl_val (g_add (a := v44) (b := 1) rfl rfl hg60) rfl ?_
      refine wl_val (g_assign (v := .int .i64 (v44 + 1)) rfl) rfl ?_
      refine wl_nil ?_
      exact ⟨((wand (wadd (wadd (wmul v43 131) ((p0[(Int.toNat v44)]!).val : Int)) 7) 1073741823), (v44 + 1)), hm.2, ⟨rfl, rfl, rfl, trivial⟩, ⟨hm.1, hB50, hS51⟩⟩
    · replace hm := hm.2 h57
      refine w_exit ?_
      exact ⟨(v43), ⟨rfl, rfl, trivial⟩, ⟨hm, hB50, hS51⟩⟩
  · rintro v40 b_ w61 ⟨hm, hB62, hS63⟩
    show Wp _ _ _ _ (upds b_ [(0, .slice a0 n0 c0), (3, .int .i64 v40)]) w61
    refine w_seq fun K64 hK64 => ?_
    refine w_region ?_
    refine wl_val (g_move (v := .slice a0 n0 c0) rfl) rfl ?_
    refine wl_val (g_move (v := .int .i64 v40) rfl) rfl ?_
    refine wl_val (g_build (v := .agg #[.slice a0 n0 c0, .int .i64 0, .int .i64 v40]) (parts2 rfl rfl) (BD89_02 a0 n0 c0 v40)) rfl ?_
    refine wl_step rfl (q_box (cs := #[.slice a0 n0 c0, .int .i64 0, .int .i64 v40]) rfl rfl hS63) ?_
    rintro _ w65 ⟨g66, rfl, hS68, hE67⟩
    have hB70 := hB62.trans (Ext.stp hE67 hS63.base)
    refine wl_val (g_assign (v := .pointer (some (⟨g66, 0, none⟩ : Addr))) rfl) rfl ?_
    refine wl_nil ?_
    refine hK64 _ _ ?_
    refine w_ret ?_
    repeat first | with_reducible refine q_then ?_ | with_reducible refine q_block ?_
    exact ret1 rfl (by decide) ⟨_, _, _, hm, rfl, toExt hB70, hS68⟩
theorem l01New_raw_ok {p0 : List Byte} {Q : Int → Int → Prop} (hl : p0.length ≤ 1099511627776) (hq : ∀ h, Q 0 h) : m_spec_l01New_raw p0 Q := by
  refine ⟨by omega, fun h i => 0 ≤ i, fun h i => (p0.length - i).toNat, Int.le_refl _, ?_⟩
  rintro h i h0
  exact ⟨fun hc => ⟨⟨h0, hc.1⟩, by omega, by omega, by dsimp only; omega⟩, fun _ => hq _⟩
theorem m_spec_l01New_fn {w : World} {a0 : Option Addr} {n0 c0 : Nat} {p0 : List Byte} {Q : Prop} (hp0 : Vw w.heap.size w a0 n0 c0 p0) (hm : m_spec_l01New p0 Q) :
    Fn Try.prog 80 #[.slice a0 n0 c0] w (fun v w' => ∃ (g0 : Nat), Q ∧ v = .pointer (some ⟨g0, 0, none⟩) ∧ Ext w w' ∧ Sep w' w.heap.size [oCur 89 g0 a0 n0 c0]) := by
  have hl := hm.1
  have hn := hp0.len
  refine (m_spec_l01New_raw_fn (Q := fun r _ => 0 ≤ r ∧ Q) hp0 (l01New_raw_ok hl fun _ => ⟨Int.le_refl _, hm.2⟩)).mono ?_
  rintro v w' ⟨g0, r, r_, ⟨h0, hQ⟩, hv, hE, hS⟩
  exact ⟨g0, hQ, hv, hE, hS.cur h0 (by omega)⟩

theorem m_spec_l01Byte_raw_fn {w : World} {B_ : Nat} {L_ : List Ob} {gp0 : Nat} {ap0 : Option Addr} {np0 cp0 : Nat} {p0 : List Byte} {i0 : Int} {h0 : Int} {Q : Int → Int → Int → Prop} (hS0 : Sep w B_ (oB gp0 89 #[.slice ap0 np0 cp0, .int .i64 i0, .int .i64 h0] :: L_)) (hp0 : Vw B_ w ap0 np0 cp0 p0) (hm : m_spec_l01Byte_raw p0 i0 h0 Q) :
    Fn Try.prog 98 #[.pointer (some (⟨gp0, 0, none⟩ : Addr))] w (fun v w' => ∃ (r0 : Int) (xi xh : Int), Q r0 xi xh ∧ v = .int .i64 r0 ∧ Below B_ w w' ∧ Sep w' B_ (oB gp0 89 #[.slice ap0 np0 cp0, .int .i64 xi, .int .i64 xh] :: L_)) := by
  unfold m_spec_l01Byte_raw at hm
  have hB0 := Below.refl B_ w
  refine fn_of_wp Try.func98 rfl (by kernel_rfl) (Nat.le_of_ble_eq_true rfl) ?_
  refine w_seq fun K2 hK2 => ?_
  refine w_region ?_
  refine wl_val (g_assign (v := .int .i64 0) rfl) rfl ?_
  refine wl_nil ?_
  refine hK2 _ _ ?_
  refine w_seq fun K3 hK3 => ?_
  refine w_region ?_
  refine wl_val (g_move (v := .pointer (some (⟨gp0, 0, none⟩ : Addr))) rfl) rfl ?_
  refine wl_val (g_move (v := .pointer (some (⟨gp0, 0, none⟩ : Addr))) rfl) rfl ?_
  refine wl_val (g_nilCheck (q := (⟨gp0, 0, none⟩ : Addr)) rfl) rfl ?_
  refine wl_val (g_fieldAddr (q := (⟨gp0, 0, none⟩ : Addr)) FL89_2 ON3 rfl) rfl ?_
  refine wl_val (q_loadB (i := 2) (bs := #[.slice ap0 np0 cp0, .int .i64 i0, .int .i64 h0]) hS0.g0 ON3 rfl rfl) rfl ?_
  refine wl_val (q_wmul (a := h0) (b := 6364136223846793005) rfl rfl) rfl ?_
  refine wl_val (q_wadd (a := (wmul h0 6364136223846793005)) (b := 1442695040888963407) rfl rfl) rfl ?_
  refine wl_val (g_nilCheck (q := (⟨gp0, 0, none⟩ : Addr)) rfl) rfl ?_
  refine wl_val (g_fieldAddr (q := (⟨gp0, 0, none⟩ : Addr)) FL89_2 ON3 rfl) rfl ?_
  refine wl_step rfl (q_storeB (i := 2) (bs' := #[.slice ap0 np0 cp0, .int .i64 i0, .int .i64 (wadd (wmul h0 6364136223846793005) 1442695040888963407)]) (vs := [.int .i64 (wadd (wmul h0 6364136223846793005) 1442695040888963407)]) hS0 ON3.sz rfl rfl rfl (by simp [Value.oneCell']) (Nat.le_of_ble_eq_true rfl) rfl) ?_
  rintro _ w4 ⟨rfl, hS5, hb6⟩
  have hB7 := hB0.trans hb6
  refine wl_nil ?_
  refine hK3 _ _ ?_
  refine w_seq fun K8 hK8 => ?_
  refine w_draw (X := Ext) (Y := Ext) [] MIX (by decide +kernel) rfl Ext.refl (fun _ _ _ => Ext.trans) (fun _ _ _ => Chg.trans) (fun _ _ h => Ext.chg h _) (fun w9 hE10 => ?_)
  have hB11 := hB7.trans (Ext.stp hE10 hS5.base)
  have hS12 := hS5.ext hE10
  refine ⟨.pointer (some (⟨gp0, 0, none⟩ : Addr)), fun w13 hX14 => od_plain rfl (by have hS15 := hS12.ext hX14; have hB16 := hB11.trans (Ext.stp hX14 hS12.base); exact is_ext (g_move (v := .pointer (some (⟨gp0, 0, none⟩ : Addr))) rfl)), ?_⟩
  refine ⟨.pointer (some (⟨gp0, 0, none⟩ : Addr)), fun w17 hX18 => od_plain rfl (by have hS19 := hS12.ext hX18; have hB20 := hB11.trans (Ext.stp hX18 hS12.base); exact is_ext (g_nilCheck (q := (⟨gp0, 0, none⟩ : Addr)) rfl)), ?_⟩
  refine ⟨.pointer (some (((⟨gp0, 0, none⟩ : Addr)).add 2)), fun w21 hX22 => od_plain rfl (by have hS23 := hS12.ext hX22; have hB24 := hB11.trans (Ext.stp hX22 hS12.base); exact is_ext (g_fieldAddr (q := (⟨gp0, 0, none⟩ : Addr)) FL89_2 ON3 rfl)), ?_⟩
  refine ⟨.int .i64 (wadd (wmul h0 6364136223846793005) 1442695040888963407), fun w25 hX26 => od_plain rfl (by have hS27 := hS12.ext hX26; have hB28 := hB11.trans (Ext.stp hX26 hS12.base); exact is_ext (q_loadB (i := 2) (bs := #[.slice ap0 np0 cp0, .int .i64 i0, .int .i64 (wadd (wmul h0 6364136223846793005) 1442695040888963407)]) hS27.g0 ON3 rfl rfl)), ?_⟩
  refine ⟨.int .i64 (sar (wadd (wmul h0 6364136223846793005) 1442695040888963407) 33), fun w29 hX30 => od_plain rfl (by have hS31 := hS12.ext hX30; have hB32 := hB11.trans (Ext.stp hX30 hS12.base); exact is_ext (g_shr (a := (wadd (wmul h0 6364136223846793005) 1442695040888963407)) (b := 33) rfl rfl ⟨by decide, by decide⟩)), ?_⟩
  refine ⟨.pointer (some (⟨gp0, 0, none⟩ : Addr)), fun w33 hX34 => od_plain rfl (by have hS35 := hS12.ext hX34; have hB36 := hB11.trans (Ext.stp hX34 hS12.base); exact is_ext (g_move (v := .pointer (some (⟨gp0, 0, none⟩ : Addr))) rfl)), ?_⟩
  refine ⟨.pointer (some (⟨gp0, 0, none⟩ : Addr)), fun w37 hX38 => od_plain rfl (by have hS39 := hS12.ext hX38; have hB40 := hB11.trans (Ext.stp hX38 hS12.base); exact is_ext (g_nilCheck (q := (⟨gp0, 0, none⟩ : Addr)) rfl)), ?_⟩
  refine ⟨.pointer (some (((⟨gp0, 0, none⟩ : Addr)).add 2)), fun w41 hX42 => od_plain rfl (by have hS43 := hS12.ext hX42; have hB44 := hB11.trans (Ext.stp hX42 hS12.base); exact is_ext (g_fieldAddr (q := (⟨gp0, 0, none⟩ : Addr)) FL89_2 ON3 rfl)), ?_⟩
  refine ⟨.int .i64 (wadd (wmul h0 6364136223846793005) 1442695040888963407), fun w45 hX46 => od_plain rfl (by have hS47 := hS12.ext hX46; have hB48 := hB11.trans (Ext.stp hX46 hS12.base); exact is_ext (q_loadB (i := 2) (bs := #[.slice ap0 np0 cp0, .int .i64 i0, .int .i64 (wadd (wmul h0 6364136223846793005) 1442695040888963407)]) hS47.g0 ON3 rfl rfl)), ?_⟩
  refine ⟨.int .i64 (sar (wadd (wmul h0 6364136223846793005) 1442695040888963407) 45), fun w49 hX50 => od_plain rfl (by have hS51 := hS12.ext hX50; have hB52 := hB11.trans (Ext.stp hX50 hS12.base); exact is_ext (g_shr (a := (wadd (wmul h0 6364136223846793005) 1442695040888963407)) (b := 45) rfl rfl ⟨by decide, by decide⟩)), ?_⟩
  refine ⟨.int .i64 (wxor (sar (wadd (wmul h0 6364136223846793005) 1442695040888963407) 33) (sar (wadd (wmul h0 6364136223846793005) 1442695040888963407) 45)), fun w53 hX54 => od_plain rfl (by have hS55 := hS12.ext hX54; have hB56 := hB11.trans (Ext.stp hX54 hS12.base); exact is_ext (q_wxor (a := (sar (wadd (wmul h0 6364136223846793005) 1442695040888963407) 33)) (b := (sar (wadd (wmul h0 6364136223846793005) 1442695040888963407) 45)) rfl rfl)), ?_⟩
  refine ⟨.int .i64 (wand (wxor (sar (wadd (wmul h0 6364136223846793005) 1442695040888963407) 33) (sar (wadd (wmul h0 6364136223846793005) 1442695040888963407) 45)) 255), fun w57 hX58 => od_plain rfl (by have hS59 := hS12.ext hX58; have hB60 := hB11.trans (Ext.stp hX58 hS12.base); exact is_ext (q_wand (a := (wxor (sar (wadd (wmul h0 6364136223846793005) 1442695040888963407) 33) (sar (wadd (wmul h0 6364136223846793005) 1442695040888963407) 45))) (b := 255) rfl rfl)), ?_⟩
  refine ⟨.int .i64 (wand (wxor (sar (wadd (wmul h0 6364136223846793005) 1442695040888963407) 33) (sar (wadd (wmul h0 6364136223846793005) 1442695040888963407) 45)) 255), fun w61 hX62 => od_plain rfl (by have hS63 := hS12.ext hX62; have hB64 := hB11.trans (Ext.stp hX62 hS12.base); exact is_ext (g_assign (v := .int .i64 (wand (wxor (sar (wadd (wmul h0 6364136223846793005) 1442695040888963407) 33) (sar (wadd (wmul h0 6364136223846793005) 1442695040888963407) 45)) 255)) rfl)), ?_⟩
  intro w65 hX66
  have hB67 := hB11.trans (Ext.stp hX66 hS12.base)
  have hS68 := hS12.ext hX66
  refine hK8 _ _ ?_
  refine w_seq fun K69 hK69 => ?_
  refine w_seq fun K70 hK70 => ?_
  refine w_draw (X := Ext) (Y := Ext) [] MIX (by decide +kernel) rfl Ext.refl (fun _ _ _ => Ext.trans) (fun _ _ _ => Chg.trans) (fun _ _ h => Ext.chg h _) (fun w71 hE72 => ?_)
  have hB73 := hB67.trans (Ext.stp hE72 hS68.base)
  have hS74 := hS68.ext hE72
  refine ⟨.pointer (some (⟨gp0, 0, none⟩ : Addr)), fun w75 hX76 => od_plain rfl (by have hS77 := hS74.ext hX76; have hB78 := hB73.trans (Ext.stp hX76 hS74.base); exact is_ext (g_move (v := .pointer (some (⟨gp0, 0, none⟩ : Addr))) rfl)), ?_⟩
  refine ⟨.pointer (some (⟨gp0, 0, none⟩ : Addr)), fun w79 hX80 => od_plain rfl (by have hS81 := hS74.ext hX80; have hB82 := hB73.trans (Ext.stp hX80 hS74.base); exact is_ext (g_nilCheck (q := (⟨gp0, 0, none⟩ : Addr)) rfl)), ?_⟩
  refine ⟨.pointer (some (((⟨gp0, 0, none⟩ : Addr)).add 1)), fun w83 hX84 => od_plain rfl (by have hS85 := hS74.ext hX84; have hB86 := hB73.trans (Ext.stp hX84 hS74.base); exact is_ext (g_fieldAddr (q := (⟨gp0, 0, none⟩ : Addr)) FL89_1 ON3 rfl)), ?_⟩
  refine ⟨.int .i64 i0, fun w87 hX88 => od_plain rfl (by have hS89 := hS74.ext hX88; have hB90 := hB73.trans (Ext.stp hX88 hS74.base); exact is_ext (q_loadB (i := 1) (bs := #[.slice ap0 np0 cp0, .int .i64 i0, .int .i64 (wadd (wmul h0 6364136223846793005) 1442695040888963407)]) hS89.g0 ON3 rfl rfl)), ?_⟩
  refine ⟨.pointer (some (⟨gp0, 0, none⟩ : Addr)), fun w91 hX92 => od_plain rfl (by have hS93 := hS74.ext hX92; have hB94 := hB73.trans (Ext.stp hX92 hS74.base); exact is_ext (g_move (v := .pointer (some (⟨gp0, 0, none⟩ : Addr))) rfl)), ?_⟩
  refine ⟨.pointer (some (⟨gp0, 0, none⟩ : Addr)), fun w95 hX96 => od_plain rfl (by have hS97 := hS74.ext hX96; have hB98 := hB73.trans (Ext.stp hX96 hS74.base); exact is_ext (g_nilCheck (q := (⟨gp0, 0, none⟩ : Addr)) rfl)), ?_⟩
  refine ⟨.pointer (some (((⟨gp0, 0, none⟩ : Addr)).add 0)), fun w99 hX100 => od_plain rfl (by have hS101 := hS74.ext hX100; have hB102 := hB73.trans (Ext.stp hX100 hS74.base); exact is_ext (g_fieldAddr (q := (⟨gp0, 0, none⟩ : Addr)) FL89_0 ON46 rfl)), ?_⟩
  refine ⟨.slice ap0 np0 cp0, fun w103 hX104 => od_plain rfl (by have hS105 := hS74.ext hX104; have hB106 := hB73.trans (Ext.stp hX104 hS74.base); exact is_ext (q_loadB (i := 0) (bs := #[.slice ap0 np0 cp0, .int .i64 i0, .int .i64 (wadd (wmul h0 6364136223846793005) 1442695040888963407)]) hS105.g0 ON46 rfl rfl)), ?_⟩
  refine ⟨.int .i64 (p0.length : Int), fun w107 hX108 => od_plain rfl (by have hS109 := hS74.ext hX108; have hB110 := hB73.trans (Ext.stp hX108 hS74.base); exact is_ext (q_len SL46 rfl (Vw.len (hp0.bel hB110)))), ?_⟩
  refine ⟨.bool (decide (i0 < (p0.length : Int))), fun w111 hX112 => od_plain rfl (by have hS113 := hS74.ext hX112; have hB114 := hB73.trans (Ext.stp hX112 hS74.base); exact is_ext (g_lss (a := i0) (b := (p0.length : Int)) rfl rfl)), ?_⟩
  intro w115 hX116
  have hB117 := hB73.trans (Ext.stp hX116 hS74.base)
  have hS118 := hS74.ext hX116
  refine hK70 _ _ ?_
  refine w_condI (p := i0 < (p0.length : Int)) (b := (decide (i0 < (p0.length : Int)))) rfl decide_eq_true_iff (fun h119 => ?_) (fun h119 => ?_)
  · replace hm := hm.1 h119
    refine w_seq fun K120 hK120 => ?_
    refine w_draw (X := Ext) (Y := Ext) [] MIX (by decide +kernel) rfl Ext.refl (fun _ _ _ => Ext.trans) (fun _ _ _ => Chg.trans) (fun _ _ h => Ext.chg h _) (fun w121 hE122 => ?_)
    have hB123 := hB117.trans (Ext.stp hE122 hS118.base)
    have hS124 := hS118.ext hE122
    refine ⟨.int .i64 (wand (wxor (sar (wadd (wmul h0 6364136223846793005) 1442695040888963407) 33) (sar (wadd (wmul h0 6364136223846793005) 1442695040888963407) 45)) 255), fun w125 hX126 => od_plain rfl (by have hS127 := hS124.ext hX126; have hB128 := hB123.trans (Ext.stp hX126 hS124.base); exact is_ext (g_move (v := .int .i64 (wand (wxor (sar (wadd (wmul h0 6364136223846793005) 1442695040888963407) 33) (sar (wadd (wmul h0 6364136223846793005) 1442695040888963407) 45)) 255)) rfl)), ?_⟩
    refine ⟨.pointer (some (⟨gp0, 0, none⟩ : Addr)), fun w129 hX130 => od_plain rfl (by have hS131 := hS124.ext hX130; have hB132 := hB123.trans (Ext.stp hX130 hS124.base); exact is_ext (g_move (v := .pointer (some (⟨gp0, 0, none⟩ : Addr))) rfl)), ?_⟩
    refine ⟨.pointer (some (⟨gp0, 0, none⟩ : Addr)), fun w133 hX134 => od_plain rfl (by have hS135 := hS124.ext hX134; have hB136 := hB123.trans (Ext.stp hX134 hS124.base); exact is_ext (g_nilCheck (q := (⟨gp0, 0, none⟩ : Addr)) rfl)), ?_⟩
    refine ⟨.pointer (some (((⟨gp0, 0, none⟩ : Addr)).add 0)), fun w137 hX138 => od_plain rfl (by have hS139 := hS124.ext hX138; have hB140 := hB123.trans (Ext.stp hX138 hS124.base); exact is_ext (g_fieldAddr (q := (⟨gp0, 0, none⟩ : Addr)) FL89_0 ON46 rfl)), ?_⟩
    refine ⟨.slice ap0 np0 cp0, fun w141 hX142 => od_plain rfl (by have hS143 := hS124.ext hX142; have hB144 := hB123.trans (Ext.stp hX142 hS124.base); exact is_ext (q_loadB (i := 0) (bs := #[.slice ap0 np0 cp0, .int .i64 i0, .int .i64 (wadd (wmul h0 6364136223846793005) 1442695040888963407)]) hS143.g0 ON46 rfl rfl)), ?_⟩
    refine ⟨.pointer (some (⟨gp0, 0, none⟩ : Addr)), fun w145 hX146 => od_plain rfl (by have hS147 := hS124.ext hX146; have hB148 := hB123.trans (Ext.stp hX146 hS124.base); exact is_ext (g_move (v := .pointer (some (⟨gp0, 0, none⟩ : Addr))) rfl)), ?_⟩
    refine ⟨.pointer (some (⟨gp0, 0, none⟩ : Addr)), fun w149 hX150 => od_plain rfl (by have hS151 := hS124.ext hX150; have hB152 := hB123.trans (Ext.stp hX150 hS124.base); exact is_ext (g_nilCheck (q := (⟨gp0, 0, none⟩ : Addr)) rfl)), ?_⟩
    refine ⟨.pointer (some (((⟨gp0, 0, none⟩ : Addr)).add 1)), fun w153 hX154 => od_plain rfl (by have hS155 := hS124.ext hX154; have hB156 := hB123.trans (Ext.stp hX154 hS124.base); exact is_ext (g_fieldAddr (q := (⟨gp0, 0, none⟩ : Addr)) FL89_1 ON3 rfl)), ?_⟩
    refine ⟨.int .i64 i0, fun w157 hX158 => od_plain rfl (by have hS159 := hS124.ext hX158; have hB160 := hB123.trans (Ext.stp hX158 hS124.base); exact is_ext (q_loadB (i := 1) (bs := #[.slice ap0 np0 cp0, .int .i64 i0, .int .i64 (wadd (wmul h0 6364136223846793005) 1442695040888963407)]) hS159.g0 ON3 rfl rfl)), ?_⟩
    obtain ⟨hg165, hm⟩ := hm
    refine ⟨.pointer (some ((adr ap0).add ((Int.toNat i0) * El.m Byte))), fun w161 hX162 => od_plain rfl (by have hS163 := hS124.ext hX162; have hB164 := hB123.trans (Ext.stp hX162 hS124.base); exact is_ext (q_index (i := i0) SL46 rfl rfl (hp0.bel hB164) hg165)), ?_⟩
    refine ⟨.int .u8 ((p0[(Int.toNat i0)]!).val : Int), fun w166 hX167 => od_plain rfl (by have hS168 := hS124.ext hX167; have hB169 := hB123.trans (Ext.stp hX167 hS124.base); exact is_ext (q_load (i := i0) (v := .int .u8 ((p0[(Int.toNat i0)]!).val : Int)) ON5 (hp0.bel hB169) hg165 rfl rfl)), ?_⟩
    refine ⟨.int .i64 ((p0[(Int.toNat i0)]!).val : Int), fun w170 hX171 => od_plain rfl (by have hS172 := hS124.ext hX171; have hB173 := hB123.trans (Ext.stp hX171 hS124.base); exact is_ext (g_conv8 (v := p0[(Int.toNat i0)]!) CV5_3 rfl)), ?_⟩
    refine ⟨.int .i64 (wadd (wand (wxor (sar (wadd (wmul h0 6364136223846793005) 1442695040888963407) 33) (sar (wadd (wmul h0 6364136223846793005) 1442695040888963407) 45)) 255) ((p0[(Int.toNat i0)]!).val : Int)), fun w174 hX175 => od_plain rfl (by have hS176 := hS124.ext hX175; have hB177 := hB123.trans (Ext.stp hX175 hS124.base); exact is_ext (q_wadd (a := (wand (wxor (sar (wadd (wmul h0 6364136223846793005) 1442695040888963407) 33) (sar (wadd (wmul h0 6364136223846793005) 1442695040888963407) 45)) 255)) (b := ((p0[(Int.toNat i0)]!).val : Int)) rfl rfl)), ?_⟩
    refine ⟨.int .i64 (wand (wadd (wand (wxor (sar (wadd (wmul h0 6364136223846793005) 1442695040888963407) 33) (sar (wadd (wmul h0 6364136223846793005) 1442695040888963407) 45)) 255) ((p0[(Int.toNat i0)]!).val : Int)) 255), fun w178 hX179 => od_plain rfl (by have hS180 := hS124.ext hX179; have hB181 := hB123.trans (Ext.stp hX179 hS124.base); exact is_ext (q_wand (a := (wadd (wand (wxor (sar (wadd (wmul h0 6364136223846793005) 1442695040888963407) 33) (sar (wadd (wmul h0 6364136223846793005) 1442695040888963407) 45)) 255) ((p0[(Int.toNat i0)]!).val : Int))) (b := 255) rfl rfl)), ?_⟩
    refine ⟨.int .i64 (wand (wadd (wand (wxor (sar (wadd (wmul h0 6364136223846793005) 1442695040888963407) 33) (sar (wadd (wmul h0 6364136223846793005) 1442695040888963407) 45)) 255) ((p0[(Int.toNat i0)]!).val : Int)) 255), fun w182 hX183 => od_plain rfl (by have hS184 := hS124.ext hX183; have hB185 := hB123.trans (Ext.stp hX183 hS124.base); exact is_ext (g_assign (v := .int .i64 (wand (wadd (wand (wxor (sar (wadd (wmul h0 6364136223846793005) 1442695040888963407) 33) (sar (wadd (wmul h0 6364136223846793005) 1442695040888963407) 45)) 255) ((p0[(Int.toNat i0)]!).val : Int)) 255)) rfl)), ?_⟩
    intro w186 hX187
    have hB188 := hB123.trans (Ext.stp hX187 hS124.base)
    have hS189 := hS124.ext hX187
    refine hK120 _ _ ?_
    refine w_region ?_
    refine wl_val (g_move (v := .pointer (some (⟨gp0, 0, none⟩ : Addr))) rfl) rfl ?_
    refine wl_val (g_move (v := .pointer (some (⟨gp0, 0, none⟩ : Addr))) rfl) rfl ?_
    refine wl_val (g_nilCheck (q := (⟨gp0, 0, none⟩ : Addr)) rfl) rfl ?_
    refine wl_val (g_fieldAddr (q := (⟨gp0, 0, none⟩ : Addr)) FL89_1 ON3 rfl) rfl ?_
    refine wl_val (q_loadB (i := 1) (bs := #[.slice ap0 np0 cp0, .int .i64 i0, .int .i64 (wadd (wmul h0 6364136223846793005) 1442695040888963407)]) hS189.g0 ON3 rfl rfl) rfl ?_
    obtain ⟨hg190, hm⟩ := hm
    refine wl_val (g_add (a := i0) (b := 1) rfl rfl hg190) rfl ?_
    refine wl_val (g_nilCheck (q := (⟨gp0, 0, none⟩ : Addr)) rfl) rfl ?_
    refine wl_val (g_fieldAddr (q := (⟨gp0, 0, none⟩ : Addr)) FL89_1 ON3 rfl) rfl ?_
    refine wl_step rfl (q_storeB (i := 1) (bs' := #[.slice ap0 np0 cp0, .int .i64 (i0 + 1), .int .i64 (wadd (wmul h0 6364136223846793005) 1442695040888963407)]) (vs := [.int .i64 (i0 + 1)]) hS189 ON3.sz rfl rfl rfl (by simp [Value.oneCell']) (Nat.le_of_ble_eq_true rfl) rfl) ?_
    rintro _ w191 ⟨rfl, hS192, hb193⟩
    have hB194 := hB188.trans hb193
    refine wl_nil ?_
    refine hK69 _ _ ?_
    refine w_seq fun K195 hK195 => ?_
    refine w_region ?_
    refine wl_val (g_move (v := .int .i64 (wand (wadd (wand (wxor (sar (wadd (wmul h0 6364136223846793005) 1442695040888963407) 33) (sar (wadd (wmul h0 6364136223846793005) 1442695040888963407) 45)) 255) ((p0[(Int.toNat i0)]!).val : Int)) 255)) rfl) rfl ?_
    refine wl_val (g_assign (v := .int .i64 (wand (wadd (wand (wxor (sar (wadd (wmul h0 6364136223846793005) 1442695040888963407) 33) (sar (wadd (wmul h0 6364136223846793005) 1442695040888963407) 45)) 255) ((p0[(Int.toNat i0)]!).val : Int)) 255)) rfl) rfl ?_
    refine wl_nil ?_
    refine hK195 _ _ ?_
    refine w_ret ?_
    repeat first | with_reducible refine q_then ?_ | with_reducible refine q_block ?_
    exact ret1 rfl (by decide) ⟨_, _, _, hm, rfl, hB194, hS192⟩
  · replace hm := hm.2 h119
    refine w_skip ?_
    refine hK69 _ _ ?_
    refine w_seq fun K196 hK196 => ?_
    refine w_region ?_
    refine wl_val (g_move (v := .int .i64 (wand (wxor (sar (wadd (wmul h0 6364136223846793005) 1442695040888963407) 33) (sar (wadd (wmul h0 6364136223846793005) 1442695040888963407) 45)) 255)) rfl) rfl ?_
    refine wl_val (g_assign (v := .int .i64 (wand (wxor (sar (wadd (wmul h0 6364136223846793005) 1442695040888963407) 33) (sar (wadd (wmul h0 6364136223846793005) 1442695040888963407) 45)) 255)) rfl) rfl ?_
    refine wl_nil ?_
    refine hK196 _ _ ?_
    refine w_ret ?_
    repeat first | with_reducible refine q_then ?_ | with_reducible refine q_block ?_
    exact ret1 rfl (by decide) ⟨_, _, _, hm, rfl, hB117, hS118⟩
theorem l01Byte_raw_ok {p0 : List Byte} {i0 h0 : Int} {Q : Int → Int → Int → Prop} (hl : p0.length ≤ 1099511627776) (hi : 0 ≤ i0) (hq : ∀ r i h, 0 ≤ r → r ≤ 255 → 0 ≤ i → Q r i h) : m_spec_l01Byte_raw p0 i0 h0 Q := by
  exact ⟨fun h => ⟨⟨hi, h⟩, by omega, hq _ _ _ (wand_rng (by decide) (by decide)).1 (wand_rng (by decide) (by decide)).2 (by omega)⟩, fun h => hq _ _ _ (wand_rng (by decide) (by decide)).1 (wand_rng (by decide) (by decide)).2 hi⟩
theorem m_spec_l01Byte_fn {B_ : Nat} {L_ : List Ob} {w : World} {gp0 : Nat} {ap0 : Option Addr} {np0 cp0 : Nat} {p0 : List Byte} {Q : Int → Prop} (hS0 : Sep w B_ (oCur 89 gp0 ap0 np0 cp0 :: L_)) (hp0 : Vw B_ w ap0 np0 cp0 p0) (hm : m_spec_l01Byte Q) :
    Fn Try.prog 98 #[.pointer (some (⟨gp0, 0, none⟩ : Addr))] w (fun v w' => ∃ (r0 : Int), Q r0 ∧ v = .int .i64 r0 ∧ Below B_ w w' ∧ Sep w' B_ (oCur 89 gp0 ap0 np0 cp0 :: L_)) := by
  obtain ⟨i, h, hi, hl, hS⟩ := hS0.uncur
  have hn := hp0.len
  refine (m_spec_l01Byte_raw_fn (Q := fun r i _ => 0 ≤ i ∧ Q r) hS hp0 (l01Byte_raw_ok (by omega) hi fun r i _ h1 h2 h3 => ⟨h3, hm r h1 h2⟩)).mono ?_
  rintro v w' ⟨r0, xi, xh, ⟨h0, hQ⟩, hv, hB, hS'⟩
  exact ⟨r0, hQ, hv, hB, hS'.cur h0 hl⟩

theorem m_spec_l01Below_fn {w : World} {B_ : Nat} {L_ : List Ob} {gp0 : Nat} {ap0 : Option Addr} {np0 cp0 : Nat} {p0 : List Byte} {Q : Int → Prop} (hS0 : Sep w B_ (oCur 89 gp0 ap0 np0 cp0 :: L_)) (hp0 : Vw B_ w ap0 np0 cp0 p0) (p1 : Int) (hm : m_spec_l01Below p1 Q) :
    Fn Try.prog 94 #[.pointer (some (⟨gp0, 0, none⟩ : Addr)), .int .i64 p1] w (fun v w' => ∃ (r0 : Int), Q r0 ∧ v = .int .i64 r0 ∧ Below B_ w w' ∧ Sep w' B_ (oCur 89 gp0 ap0 np0 cp0 :: L_)) := by
  unfold m_spec_l01Below at hm
  have hB0 := Below.refl B_ w
  refine fn_of_wp Try.func94 rfl (by kernel_rfl) (Nat.le_of_ble_eq_true rfl) ?_
  refine w_seq fun K2 hK2 => ?_
  refine w_region ?_
  refine wl_val (g_assign (v := .int .i64 0) rfl) rfl ?_
  refine wl_nil ?_
  refine hK2 _ _ ?_
  refine w_seq fun K3 hK3 => ?_
  refine w_seq fun K4 hK4 => ?_
  refine w_region ?_
  refine wl_val (g_move (v := .int .i64 p1) rfl) rfl ?_
  refine wl_val (g_leq (a := p1) (b := 0) rfl rfl) rfl ?_
  refine wl_nil ?_
  refine hK4 _ _ ?_
  refine w_condI (p := p1 ≤ 0) (b := (decide (p1 ≤ 0))) rfl decide_eq_true_iff (fun h5 => ?_) (fun h5 => ?_)
  · replace hm := hm.1 h5
    refine w_seq fun K6 hK6 => ?_
    refine w_region ?_
    refine wl_val (g_assign (v := .int .i64 0) rfl) rfl ?_
    refine wl_nil ?_
    refine hK6 _ _ ?_
    refine w_ret ?_
    repeat first | with_reducible refine q_then ?_ | with_reducible refine q_block ?_
    exact ret1 rfl (by decide) ⟨_, hm, rfl, hB0, hS0⟩
  · replace hm := hm.2 h5
    refine w_skip ?_
    refine hK3 _ _ ?_
    refine w_seq fun K7 hK7 => ?_
    refine w_seq fun K8 hK8 => ?_
    refine w_region ?_
    refine wl_val (g_move (v := .int .i64 p1) rfl) rfl ?_
    refine wl_val (g_leq (a := p1) (b := 256) rfl rfl) rfl ?_
    refine wl_nil ?_
    refine hK8 _ _ ?_
    refine w_condI (p := p1 ≤ 256) (b := (decide (p1 ≤ 256))) rfl decide_eq_true_iff (fun h9 => ?_) (fun h9 => ?_)
    · replace hm := hm.1 h9
      refine w_seq fun K10 hK10 => ?_
      refine w_region ?_
      refine wl_val (g_move (v := .pointer (some (⟨gp0, 0, none⟩ : Addr))) rfl) rfl ?_
      refine wl_step rfl (g_call (vs := #[.pointer (some (⟨gp0, 0, none⟩ : Addr))]) CF98 (args1 rfl) (m_spec_l01Byte_fn hS0 (hp0.bel hB0) hm)) ?_
      rintro _ w11 ⟨r14, hm, rfl, hb12, hS13⟩
      have hB15 := hB0.trans hb12
      refine wl_val (g_move (v := .int .i64 p1) rfl) rfl ?_
      obtain ⟨hg16, hm⟩ := hm
      refine wl_val (g_rem (a := r14) (b := p1) rfl rfl hg16) rfl ?_
      refine wl_val (g_assign (v := .int .i64 (Int.tmod r14 p1)) rfl) rfl ?_
      refine wl_nil ?_
      refine hK10 _ _ ?_
      refine w_ret ?_
      repeat first | with_reducible refine q_then ?_ | with_reducible refine q_block ?_
      exact ret1 rfl (by decide) ⟨_, hm, rfl, hB15, hS13⟩
    · replace hm := hm.2 h9
      refine w_skip ?_
      refine hK7 _ _ ?_
      refine w_seq fun K17 hK17 => ?_
      refine w_region ?_
      refine wl_val (g_move (v := .pointer (some (⟨gp0, 0, none⟩ : Addr))) rfl) rfl ?_
      refine wl_step rfl (g_call (vs := #[.pointer (some (⟨gp0, 0, none⟩ : Addr))]) CF98 (args1 rfl) (m_spec_l01Byte_fn hS0 (hp0.bel hB0) hm)) ?_
      rintro _ w18 ⟨r21, hm, rfl, hb19, hS20⟩
      have hB22 := hB0.trans hb19
      refine wl_val (g_assign (v := .int .i64 r21) rfl) rfl ?_
      refine wl_nil ?_
      refine hK17 _ _ ?_
      refine w_seq fun K23 hK23 => ?_
      refine w_region ?_
      refine wl_val (g_move (v := .pointer (some (⟨gp0, 0, none⟩ : Addr))) rfl) rfl ?_
      refine wl_step rfl (g_call (vs := #[.pointer (some (⟨gp0, 0, none⟩ : Addr))]) CF98 (args1 rfl) (m_spec_l01Byte_fn hS20 (hp0.bel hB22) hm)) ?_
      rintro _ w24 ⟨r27, hm, rfl, hb25, hS26⟩
      have hB28 := hB22.trans hb25
      refine wl_val (g_assign (v := .int .i64 r27) rfl) rfl ?_
      refine wl_nil ?_
      refine hK23 _ _ ?_
      refine w_seq fun K29 hK29 => ?_
      refine w_region ?_
      refine wl_val (g_move (v := .pointer (some (⟨gp0, 0, none⟩ : Addr))) rfl) rfl ?_
      refine wl_step rfl (g_call (vs := #[.pointer (some (⟨gp0, 0, none⟩ : Addr))]) CF98 (args1 rfl) (m_spec_l01Byte_fn hS26 (hp0.bel hB28) hm)) ?_
      rintro _ w30 ⟨r33, hm, rfl, hb31, hS32⟩
      have hB34 := hB28.trans hb31
      refine wl_val (g_assign (v := .int .i64 r33) rfl) rfl ?_
      refine wl_nil ?_
      refine hK29 _ _ ?_
      refine w_seq fun K35 hK35 => ?_
      refine w_region ?_
      refine wl_val (g_move (v := .pointer (some (⟨gp0, 0, none⟩ : Addr))) rfl) rfl ?_
      refine wl_step rfl (g_call (vs := #[.pointer (some (⟨gp0, 0, none⟩ : Addr))]) CF98 (args1 rfl) (m_spec_l01Byte_fn hS32 (hp0.bel hB34) hm)) ?_
      rintro _ w36 ⟨r39, hm, rfl, hb37, hS38⟩
      have hB40 := hB34.trans hb37
      refine wl_val (g_assign (v := .int .i64 r39) rfl) rfl ?_
      refine wl_nil ?_
      refine hK35 _ _ ?_
      refine w_seq fun K41 hK41 => ?_
      refine w_region ?_
      refine wl_val (g_move (v := .int .i64 r21) rfl) rfl ?_
      obtain ⟨hg42, hm⟩ := hm
      refine wl_val (g_mul (a := r21) (b := 16777216) rfl rfl hg42) rfl ?_
      refine wl_val (g_move (v := .int .i64 r27) rfl) rfl ?_
      obtain ⟨hg43, hm⟩ := hm
      refine wl_val (g_mul (a := r27) (b := 65536) rfl rfl hg43) rfl ?_
      obtain ⟨hg44, hm⟩ := hm
      refine wl_val (g_add (a := (r21 * 16777216)) (b := (r27 * 65536)) rfl rfl hg44) rfl ?_
      refine wl_val (g_move (v := .int .i64 r33) rfl) rfl ?_
      obtain ⟨hg45, hm⟩ := hm
      refine wl_val (g_mul (a := r33) (b := 256) rfl rfl hg45) rfl ?_
      obtain ⟨hg46, hm⟩ := hm
      refine wl_val (g_add (a := ((r21 * 16777216) + (r27 * 65536))) (b := (r33 * 256)) rfl rfl hg46) rfl ?_
      refine wl_val (g_move (v := .int .i64 r39) rfl) rfl ?_
      obtain ⟨hg47, hm⟩ := hm
      refine wl_val (g_add (a := (((r21 * 16777216) + (r27 * 65536)) + (r33 * 256))) (b := r39) rfl rfl hg47) rfl ?_
      refine wl_val (g_move (v := .int .i64 p1) rfl) rfl ?_
      obtain ⟨hg48, hm⟩ := hm
      refine wl_val (g_rem (a := ((((r21 * 16777216) + (r27 * 65536)) + (r33 * 256)) + r39)) (b := p1) rfl rfl hg48) rfl ?_
      refine wl_val (g_assign (v := .int .i64 (Int.tmod ((((r21 * 16777216) + (r27 * 65536)) + (r33 * 256)) + r39) p1)) rfl) rfl ?_
      refine wl_nil ?_
      refine hK41 _ _ ?_
      refine w_ret ?_
      repeat first | with_reducible refine q_then ?_ | with_reducible refine q_block ?_
      exact ret1 rfl (by decide) ⟨_, hm, rfl, hB40, hS38⟩

theorem m_spec_l01PickInt_fn {w : World} {B_ : Nat} {L_ : List Ob} {gp0 : Nat} {ap0 : Option Addr} {np0 cp0 : Nat} {p0 : List Byte} {a1 : Option Addr} {n1 c1 : Nat} {p1 : List Int} {Q : Int → (List Int) → Prop} (hS0 : Sep w B_ (oCur 89 gp0 ap0 np0 cp0 :: oS 3 a1 n1 c1 (p1 : List Int) :: L_)) (hp0 : Vw B_ w ap0 np0 cp0 p0) (hm : m_spec_l01PickInt p1 Q) :
    Fn Try.prog 95 #[.pointer (some (⟨gp0, 0, none⟩ : Addr)), .slice a1 n1 c1] w (fun v w' => ∃ (r0 : Int) (x0 : List Int), Q r0 x0 ∧ v = .int .i64 r0 ∧ Below B_ w w' ∧ Sep w' B_ (oCur 89 gp0 ap0 np0 cp0 :: oS 3 a1 n1 c1 x0 :: L_)) := by
  unfold m_spec_l01PickInt at hm
  have hB0 := Below.refl B_ w
  refine fn_of_wp Try.func95 rfl (by kernel_rfl) (Nat.le_of_ble_eq_true rfl) ?_
  refine w_seq fun K3 hK3 => ?_
  refine w_region ?_
  refine wl_val (g_assign (v := .int .i64 0) rfl) rfl ?_
  refine wl_nil ?_
  refine hK3 _ _ ?_
  refine w_seq fun K4 hK4 => ?_
  refine w_region ?_
  refine wl_val (g_move (v := .slice a1 n1 c1) rfl) rfl ?_
  refine wl_val (g_move (v := .pointer (some (⟨gp0, 0, none⟩ : Addr))) rfl) rfl ?_
  refine wl_val (g_move (v := .slice a1 n1 c1) rfl) rfl ?_
  refine wl_val (q_len SL23 rfl (Vw.len (oS.vw hS0.g1))) rfl ?_
  refine wl_step rfl (g_call (vs := #[.pointer (some (⟨gp0, 0, none⟩ : Addr)), .int .i64 (p1.length : Int)]) CF94 (args2 rfl rfl) (m_spec_l01Below_fn hS0 (hp0.bel hB0) (p1.length : Int) hm)) ?_
  rintro _ w5 ⟨r8, hm, rfl, hb6, hS7⟩
  have hB9 := hB0.trans hb6
  obtain ⟨hg10, hm⟩ := hm
  refine wl_val (q_index (i := r8) SL23 rfl rfl (oS.vw hS7.g1) hg10) rfl ?_
  refine wl_val (q_load (i := r8) (v := .int .i64 (p1[(Int.toNat r8)]!)) ON3 (oS.vw hS7.g1) hg10 rfl rfl) rfl ?_
  refine wl_val (g_assign (v := .int .i64 (p1[(Int.toNat r8)]!)) rfl) rfl ?_
  refine wl_nil ?_
  refine hK4 _ _ ?_
  refine w_ret ?_
  repeat first | with_reducible refine q_then ?_ | with_reducible refine q_block ?_
  exact ret1 rfl (by decide) ⟨_, _, hm, rfl, hB9, hS7⟩

theorem m_spec_l01Once_fn {w : World} {B_ : Nat} {L_ : List Ob} {gp0 : Nat} {ap0 : Option Addr} {np0 cp0 : Nat} {p0 : List Byte} {Q : Bool → Prop} (hS0 : Sep w B_ (oCur 89 gp0 ap0 np0 cp0 :: L_)) (hp0 : Vw B_ w ap0 np0 cp0 p0) (p1 : Int) (hm : m_spec_l01Once p1 Q) :
    Fn Try.prog 82 #[.pointer (some (⟨gp0, 0, none⟩ : Addr)), .int .i64 p1] w (fun v w' => ∃ (r0 : Bool), Q r0 ∧ v = .bool r0 ∧ Below B_ w w' ∧ Sep w' B_ (oCur 89 gp0 ap0 np0 cp0 :: L_)) := by
  unfold m_spec_l01Once at hm
  have hB0 := Below.refl B_ w
  refine fn_of_wp Try.func82 rfl (by kernel_rfl) (Nat.le_of_ble_eq_true rfl) ?_
  refine w_seq fun K2 hK2 => ?_
  refine w_region ?_
  refine wl_val (g_assign (v := .bool false) rfl) rfl ?_
  refine wl_nil ?_
  refine hK2 _ _ ?_
  refine w_seq fun K3 hK3 => ?_
  refine w_region ?_
  refine wl_val (g_move (v := .pointer (some (⟨gp0, 0, none⟩ : Addr))) rfl) rfl ?_
  refine wl_val (g_move (v := .int .i64 p1) rfl) rfl ?_
  refine wl_step rfl (g_call (vs := #[.pointer (some (⟨gp0, 0, none⟩ : Addr)), .int .i64 p1]) CF94 (args2 rfl rfl) (m_spec_l01Below_fn hS0 (hp0.bel hB0) p1 hm)) ?_
  rintro _ w4 ⟨r7, hm, rfl, hb5, hS6⟩
  have hB8 := hB0.trans hb5
  refine wl_val (g_eql (a := r7) (b := 0) rfl rfl) rfl ?_
  refine wl_val (g_assign (v := .bool (decide (r7 = 0))) rfl) rfl ?_
  refine wl_nil ?_
  refine hK3 _ _ ?_
  refine w_ret ?_
  repeat first | with_reducible refine q_then ?_ | with_reducible refine q_block ?_
  exact ret1 rfl (by decide) ⟨_, hm, rfl, hB8, hS6⟩

theorem m_spec_l13List_fn {w : World} {B_ : Nat} {L_ : List Ob} {gp0 : Nat} {ap0 : Option Addr} {np0 cp0 : Nat} {p0 : List Byte} {Q : (List PlayerC) → Prop} (hS0 : Sep w B_ (oCur 89 gp0 ap0 np0 cp0 :: L_)) (hp0 : Vw B_ w ap0 np0 cp0 p0) (hm : m_spec_l13List Q) :
    Fn Try.prog 81 #[.pointer (some (⟨gp0, 0, none⟩ : Addr))] w (fun v w' => ∃ (r0 : List PlayerC) (a0 : Option Addr) (n0 c0 : Nat) (y0 : List PlayerD), Q r0 ∧ ers y0 = r0 ∧ v = .slice a0 n0 c0 ∧ Below B_ w w' ∧ Sep w' B_ (oS 54 a0 n0 c0 y0 :: oT 3 y0 :: oCur 89 gp0 ap0 np0 cp0 :: L_)) := by
  unfold m_spec_l13List at hm
  have hB0 := Below.refl B_ w
  refine fn_of_wp Try.func81 rfl (by kernel_rfl) (Nat.le_of_ble_eq_true rfl) ?_
  refine w_seq fun K2 hK2 => ?_
  refine w_region ?_
  refine wl_val (g_assign (v := .slice none 0 0) rfl) rfl ?_
  refine wl_nil ?_
  refine hK2 _ _ ?_
  refine w_seq fun K3 hK3 => ?_
  refine w_region ?_
  refine wl_step rfl (q_lit0 (α := PlayerD) rfl SL27 hS0) ?_
  rintro _ w4 ⟨a5, rfl, hS7, hE6⟩
  have hB9 := hB0.trans (Ext.stp hE6 hS0.base)
  have hS10 := hS7.noRows (δ := PlayerD) (E := 3)
  have he12 : ers ([] : List PlayerD) = ([] : List PlayerC) := rfl
  refine wl_val (g_assign (v := .slice a5 0 0) rfl) rfl ?_
  refine wl_nil ?_
  refine hK3 _ _ ?_
  refine w_seq fun K14 hK14 => ?_
  refine w_region ?_
  refine wl_val (g_move (v := .pointer (some (⟨gp0, 0, none⟩ : Addr))) rfl) rfl ?_
  have hS15 := hS10.f2
  refine wl_step rfl (g_call (vs := #[.pointer (some (⟨gp0, 0, none⟩ : Addr)), .int .i64 5]) CF94 (args2 rfl rfl) (m_spec_l01Below_fn hS15 (hp0.bel hB9) 5 hm)) ?_
  rintro _ w16 ⟨r19, hm, rfl, hb17, hS18⟩
  have hB20 := hB9.trans hb17
  obtain ⟨hg21, hm⟩ := hm
  refine wl_val (g_add (a := 1) (b := r19) rfl rfl hg21) rfl ?_
  refine wl_val (g_assign (v := .int .i64 (1 + r19)) rfl) rfl ?_
  refine wl_nil ?_
  refine hK14 _ _ ?_
  refine w_cut (σ := List PlayerC × Option Addr × Nat × Nat × List PlayerD) (fun ⟨x782, a783, n784, c785, y786⟩ => [(3, .slice a783 n784 c785)]) (fun ⟨x782, a783, n784, c785, y786⟩ w' => m_spec_l13List_K2 Q x782 ∧ ers y786 = x782 ∧ Below B_ w w' ∧ Sep w' B_ (oCur 89 gp0 ap0 np0 cp0 :: oS 54 a783 n784 c785 (y786 : List PlayerD) :: oT 3 (y786 : List PlayerD) :: L_)) ?_ ?_
  · refine w_seq fun K789 hK789 => ?_
    refine w_region ?_
    refine wl_val (g_assign (v := .int .i64 0) rfl) rfl ?_
    refine wl_nil ?_
    refine hK789 _ _ ?_
    refine w_block ?_
    have hS797 := hS18.f1
    have hS798 := hS797.f2
    have hS799 := hS798.f2
    obtain ⟨I800, μ801, h0802, hr803⟩ := hm
    refine w_for (σ := List PlayerC × Option Addr × Nat × Nat × List PlayerD × Int) (fun ⟨x790, a791, n792, c793, y794, v796⟩ => [(0, .pointer (some (⟨gp0, 0, none⟩ : Addr))), (3, .slice a791 n792 c793), (4, .int .i64 (1 + r19)), (5, .int .i64 v796)]) (fun ⟨x790, a791, n792, c793, y794, v796⟩ w' => I800 x790 v796 ∧ ers y794 = x790 ∧ Below B_ w w' ∧ Sep w' B_ (oCur 89 gp0 ap0 np0 cp0 :: oS 54 a791 n792 c793 (y794 : List PlayerD) :: oT 3 (y794 : List PlayerD) :: L_)) (fun ⟨x790, a791, n792, c793, y794, v796⟩ => μ801 x790 v796) ([], a5, 0, 0, [], 0) ⟨rfl, rfl, rfl, rfl, trivial⟩ ⟨h0802, he12, hB20, hS799⟩ ?_
    rintro ⟨x790, a791, n792, c793, y794, v796⟩ b_ w804 ⟨hi_, he795, hB805, hS806⟩
    show Wp _ _ _ _ (upds b_ [(0, .pointer (some (⟨gp0, 0, none⟩ : Addr))), (3, .slice a791 n792 c793), (4, .int .i64 (1 + r19)), (5, .int .i64 v796)]) w804
    have hm := hr803 x790 v796 hi_
    refine w_seq fun K808 hK808 => ?_
    refine w_seq fun K809 hK809 => ?_
    refine w_region ?_
    refine wl_val (g_move (v := .int .i64 v796) rfl) rfl ?_
    refine wl_val (g_move (v := .int .i64 (1 + r19)) rfl) rfl ?_
    refine wl_val (g_lss (a := v796) (b := (1 + r19)) rfl rfl) rfl ?_
    refine wl_nil ?_
    refine hK809 _ _ ?_
    refine w_condI (p := v796 < (1 + r19)) (b := (decide (v796 < (1 + r19)))) rfl decide_eq_true_iff (fun h810 => ?_) (fun h810 => ?_)
    · replace hm := hm.1 h810
      refine w_skip ?_
      refine hK808 _ _ ?_
      refine w_cut (σ := List PlayerC × Option Addr × Nat × Nat × List PlayerD) (fun ⟨x811, a812, n813, c814, y815⟩ => [(0, .pointer (some (⟨gp0, 0, none⟩ : Addr))), (3, .slice a812 n813 c814), (4, .int .i64 (1 + r19)), (5, .int .i64 v796)]) (fun ⟨x811, a812, n813, c814, y815⟩ w' => m_spec_l13List_K1 v796 (fun x790' v796' => I800 x790' v796' ∧ μ801 x790' v796' < μ801 x790 v796) x811 ∧ ers y815 = x811 ∧ Below B_ w w' ∧ Sep w' B_ (oCur 89 gp0 ap0 np0 cp0 :: oS 54 a812 n813 c814 (y815 : List PlayerD) :: oT 3 (y815 : List PlayerD) :: L_)) ?_ ?_
      · refine w_block ?_
        refine w_seq fun K818 hK818 => ?_
        refine w_region ?_
        refine wl_val (g_move (v := .pointer (some (⟨gp0, 0, none⟩ : Addr))) rfl) rfl ?_
        refine wl_step rfl (q_lit5 (y0 := 0) (y1 := 1) (y2 := 1) (y3 := 2) (y4 := 2) SL23 rfl rfl rfl rfl rfl hS806) ?_
        rintro _ w819 ⟨a820, rfl, hS822, hE821⟩
        have hB824 := hB805.trans (Ext.stp hE821 hS806.base)
        have hS825 := hS822.f1
        refine wl_step rfl (g_call (vs := #[.pointer (some (⟨gp0, 0, none⟩ : Addr)), .slice a820 5 5]) CF95 (args2 rfl rfl) (m_spec_l01PickInt_fn hS825 (hp0.bel hB824) hm)) ?_
        rintro _ w826 ⟨r829, x830, hm, rfl, hb827, hS828⟩
        have hB831 := hB824.trans hb827
        refine wl_val (g_build (v := .agg #[.slice none 0 0, .int .i64 r829]) (parts1 rfl) (BD54_1 r829)) rfl ?_
        refine wl_step rfl (q_alloc (cs := #[.slice none 0 0, .int .i64 0]) ZR54 rfl hS828) ?_
        rintro _ w832 ⟨g833, rfl, hS835, hE834⟩
        have hB837 := hB831.trans (Ext.stp hE834 hS828.base)
        refine wl_step rfl (q_storeB (i := 0) (bs' := #[.slice none 0 0, .int .i64 r829]) (vs := [.slice none 0 0, .int .i64 r829]) hS835 AG54.sz rfl rfl rfl (by simp [Value.oneCell']) (Nat.le_of_ble_eq_true rfl) rfl) ?_
        rintro _ w838 ⟨rfl, hS839, hb840⟩
        have hB841 := hB837.trans hb840
        refine wl_nil ?_
        refine hK818 _ _ ?_
        refine w_cut (σ := List Int × Option Addr × Nat × Nat) (fun ⟨x951, a952, n953, c954⟩ => [(0, .pointer (some (⟨gp0, 0, none⟩ : Addr))), (3, .slice a791 n792 c793), (4, .int .i64 (1 + r19)), (5, .int .i64 v796), (6, .pointer (some (⟨g833, 0, none⟩ : Addr)))]) (fun ⟨x951, a952, n953, c954⟩ w' => m_spec_l13List_K0 x790 r829 (m_spec_l13List_K1 v796 (fun x790' v796' => I800 x790' v796' ∧ μ801 x790' v796' < μ801 x790 v796)) x951 ∧ Below B_ w w' ∧ Sep w' B_ (oCur 89 gp0 ap0 np0 cp0 :: oS 54 a791 n792 c793 (y794 : List PlayerD) :: oT 3 (y794 : List PlayerD) :: oB g833 54 #[.slice a952 n953 c954, .int .i64 r829] :: oS 3 a952 n953 c954 (x951 : List Int) :: L_)) ?_ ?_
        · refine w_seq fun K957 hK957 => ?_
          refine w_region ?_
          refine wl_val (g_assign (v := .int .i64 0) rfl) rfl ?_
          refine wl_nil ?_
          refine hK957 _ _ ?_
          refine w_block ?_
          have hS964 := hS839.nilS (α := Int) (E := 3)
          have hS966 := hS964.f3
          have hS967 := hS966.tail
          have hS968 := hS967.f1
          have hS969 := hS968.f4
          have hS970 := hS969.f4
          have hS971 := hS970.f4
          obtain ⟨I972, μ973, h0974, hr975⟩ := hm
          refine w_for (σ := Int × List Int × Option Addr × Nat × Nat) (fun ⟨v958, x959, a960, n961, c962⟩ => [(0, .pointer (some (⟨gp0, 0, none⟩ : Addr))), (3, .slice a791 n792 c793), (4, .int .i64 (1 + r19)), (5, .int .i64 v796), (6, .pointer (some (⟨g833, 0, none⟩ : Addr))), (7, .int .i64 v958)]) (fun ⟨v958, x959, a960, n961, c962⟩ w' => I972 v958 x959 ∧ Below B_ w w' ∧ Sep w' B_ (oCur 89 gp0 ap0 np0 cp0 :: oS 54 a791 n792 c793 (y794 : List PlayerD) :: oT 3 (y794 : List PlayerD) :: oB g833 54 #[.slice a960 n961 c962, .int .i64 r829] :: oS 3 a960 n961 c962 (x959 : List Int) :: L_)) (fun ⟨v958, x959, a960, n961, c962⟩ => μ973 v958 x959) (0, [], none, 0, 0) ⟨rfl, rfl, rfl, rfl, rfl, rfl, trivial⟩ ⟨h0974, hB841, hS971⟩ ?_
          rintro ⟨v958, x959, a960, n961, c962⟩ b_ w976 ⟨hi_, hB977, hS978⟩
          show Wp _ _ _ _ (upds b_ [(0, .pointer (some (⟨gp0, 0, none⟩ : Addr))), (3, .slice a791 n792 c793), (4, .int .i64 (1 + r19)), (5, .int .i64 v796), (6, .pointer (some (⟨g833, 0, none⟩ : Addr))), (7, .int .i64 v958)]) w976
          have hm := hr975 v958 x959 hi_
          refine w_seq fun K980 hK980 => ?_
          refine w_seq fun K981 hK981 => ?_
          refine w_region ?_
          refine wl_val (g_move (v := .int .i64 v958) rfl) rfl ?_
          refine wl_val (g_lss (a := v958) (b := 6) rfl rfl) rfl ?_
          refine wl_nil ?_
          refine hK981 _ _ ?_
          refine w_condI (p := v958 < 6) (b := (decide (v958 < 6))) rfl decide_eq_true_iff (fun h982 => ?_) (fun h982 => ?_)
          · replace hm := hm.1 h982
            refine w_skip ?_
            refine hK980 _ _ ?_
            refine w_seq fun K983 hK983 => ?_
            refine w_block ?_
            refine w_seq fun K984 hK984 => ?_
            refine w_region ?_
            refine wl_val (g_move (v := .pointer (some (⟨gp0, 0, none⟩ : Addr))) rfl) rfl ?_
            refine wl_step rfl (g_call (vs := #[.pointer (some (⟨gp0, 0, none⟩ : Addr)), .int .i64 2]) CF82 (args2 rfl rfl) (m_spec_l01Once_fn hS978 (hp0.bel hB977) 2 hm)) ?_
            rintro _ w985 ⟨r988, hm, rfl, hb986, hS987⟩
            have hB989 := hB977.trans hb986
            refine wl_nil ?_
            refine hK984 _ _ ?_
            refine w_condI (p := r988 = true) (b := r988) rfl Iff.rfl (fun h990 => ?_) (fun h990 => ?_)
            · replace hm := hm.1 h990
              refine w_region ?_
              refine wl_val (g_fieldAddr (q := (⟨g833, 0, none⟩ : Addr)) FL54_0 ON23 rfl) rfl ?_
              refine wl_val (q_loadB (i := 0) (bs := #[.slice a960 n961 c962, .int .i64 r829]) hS987.g3 ON23 rfl rfl) rfl ?_
              refine wl_val (g_move (v := .int .i64 v958) rfl) rfl ?_
              refine wl_step rfl (q_lit1 (y := (v958 : Int)) SL23 rfl rfl (by decide) hS987) ?_
              rintro _ w991 ⟨a992, rfl, hS994, hE993⟩
              have hB996 := hB989.trans (Ext.stp hE993 hS987.base)
              have hS1002 := hS994.f5
              obtain ⟨hg1003, hm⟩ := hm
              refine wl_step rfl (q_append SL23 rfl rfl hS1002 (oS.vw hS1002.g1) hg1003 (by decide)) ?_
              rintro _ w997 ⟨a998, c999, rfl, hS1001, hb1000⟩
              have hB1004 := hB996.trans hb1000
              refine wl_val (g_fieldAddr (q := (⟨g833, 0, none⟩ : Addr)) FL54_0 ON23 rfl) rfl ?_
              have hS1008 := hS1001.f5
              refine wl_step rfl (q_storeB (i := 0) (bs' := #[.slice a998 (n961 + 1) c999, .int .i64 r829]) (vs := [.slice a998 (n961 + 1) c999]) hS1008 ON23.sz rfl rfl rfl (by simp [Value.oneCell']) (Nat.le_of_ble_eq_true rfl) rfl) ?_
              rintro _ w1005 ⟨rfl, hS1006, hb1007⟩
              have hB1009 := hB1004.trans hb1007
              refine wl_nil ?_
              refine hK983 _ _ ?_
              refine w_region ?_
              refine wl_val (g_move (v := .int .i64 v958) rfl) rfl ?_
              obtain ⟨hg1010, hm⟩ := hm
              refine wl_val (g_add (a := v958) (b := 1) rfl rfl hg1010) rfl ?_
              refine wl_val (g_assign (v := .int .i64 (v958 + 1)) rfl) rfl ?_
              refine wl_nil ?_
              have hS1011 := hS1006.f2
              have hS1012 := hS1011.tail
              have hS1013 := hS1012.f1
              have hS1014 := hS1013.f1
              have hS1015 := hS1014.f4
              have hS1016 := hS1015.f4
              have hS1017 := hS1016.f4
              exact ⟨((v958 + 1), (x959 ++ ([v958])), a998, (n961 + 1), c999), hm.2, ⟨rfl, rfl, rfl, rfl, rfl, rfl, trivial⟩, ⟨hm.1, hB1009, hS1017⟩⟩
            · replace hm := hm.2 h990
              refine w_skip ?_
              refine hK983 _ _ ?_
              refine w_region ?_
              refine wl_val (g_move (v := .int .i64 v958) rfl) rfl ?_
              obtain ⟨hg1018, hm⟩ := hm
              refine wl_val (g_add (a := v958) (b := 1) rfl rfl hg1018) rfl ?_
              refine wl_val (g_assign (v := .int .i64 (v958 + 1)) rfl) rfl ?_
              refine wl_nil ?_
              exact ⟨((v958 + 1), x959, a960, n961, c962), hm.2, ⟨rfl, rfl, rfl, rfl, rfl, rfl, trivial⟩, ⟨hm.1, hB989, hS987⟩⟩
          · replace hm := hm.2 h982
            refine w_exit ?_
            exact ⟨(x959, a960, n961, c962), ⟨rfl, rfl, rfl, rfl, rfl, trivial⟩, ⟨hm, hB977, hS978⟩⟩
        · rintro ⟨x951, a952, n953, c954⟩ b_ w1019 ⟨hm, hB1020, hS1021⟩
          show Wp _ _ _ _ (upds b_ [(0, .pointer (some (⟨gp0, 0, none⟩ : Addr))), (3, .slice a791 n792 c793), (4, .int .i64 (1 + r19)), (5, .int .i64 v796), (6, .pointer (some (⟨g833, 0, none⟩ : Addr)))]) w1019
          refine w_region ?_
          refine wl_val (g_move (v := .slice a791 n792 c793) rfl) rfl ?_
          refine wl_val (q_loadBS (bs := #[.slice a952 n953 c954, .int .i64 r829]) hS1021.g3 AG54 rfl) rfl ?_
          have hS1027 := hS1021.f4
          have hn1028 := oS.len hS1027.g0
          have hS1029 := hS1027.rowsPlayer r829
          have he1026 : ers [(((a952, c954, x951), r829) : PlayerD)] = [(x951, r829)] := rfl
          refine wl_step rfl (q_lit1 (y := ((((a952, c954, x951), r829) : PlayerD) : PlayerD)) SL27 rfl (by rw [hn1028]; rfl) (by decide) hS1029) ?_
          rintro _ w1022 ⟨a1023, rfl, hS1025, hE1024⟩
          have hB1032 := hB1020.trans (Ext.stp hE1024 hS1029.base)
          have hS1039 := hS1025.f3
          obtain ⟨hg1040, hm⟩ := hm
          have hl1041 : (y794).length + ([(((a952, c954, x951), r829) : PlayerD)]).length ≤ 1099511627776 := by have h1 := congrArg List.length he795; have h2 := congrArg List.length he1026; have h3 := hg1040; simp only [ers, List.length_map, List.length_append, List.length_cons, List.length_nil, List.length_replicate, List.length_set] at h1 h2 h3 ⊢; omega
          refine wl_step rfl (q_append SL27 rfl rfl hS1039 (oS.vw hS1039.g1) hl1041 (by decide)) ?_
          rintro _ w1034 ⟨a1035, c1036, rfl, hS1038, hb1037⟩
          have hB1042 := hB1032.trans hb1037
          have hS1043 := hS1038.f1
          have hS1044 := hS1043.tail
          have hS1045 := hS1044.f3
          have hS1046 := hS1045.f2
          have hS1047 := hS1046.catRows
          have he1048 : ers (y794 ++ ([(((a952, c954, x951), r829) : PlayerD)])) = (x790 ++ ([(x951, r829)])) := by rw [← he795, ← he1026]; exact List.map_append
          refine wl_val (g_assign (v := .slice a1035 (n792 + 1) c1036) rfl) rfl ?_
          refine wl_nil ?_
          have hS1049 := hS1047.f3
          have hS1050 := hS1049.tail
          have hS1051 := hS1050.f1
          have hS1052 := hS1051.f2
          exact ⟨((x790 ++ ([(x951, r829)])), a1035, (n792 + 1), c1036, (y794 ++ ([(((a952, c954, x951), r829) : PlayerD)]))), ⟨rfl, rfl, rfl, rfl, trivial⟩, ⟨hm, he1048, hB1042, hS1052⟩⟩
      · rintro ⟨x811, a812, n813, c814, y815⟩ b_ w1053 ⟨hm, he816, hB1054, hS1055⟩
        show Wp _ _ _ _ (upds b_ [(0, .pointer (some (⟨gp0, 0, none⟩ : Addr))), (3, .slice a812 n813 c814), (4, .int .i64 (1 + r19)), (5, .int .i64 v796)]) w1053
        refine w_region ?_
        refine wl_val (g_move (v := .int .i64 v796) rfl) rfl ?_
        obtain ⟨hg1056, hm⟩ := hm
        refine wl_val (g_add (a := v796) (b := 1) rfl rfl hg1056) rfl ?_
        refine wl_val (g_assign (v := .int .i64 (v796 + 1)) rfl) rfl ?_
        refine wl_nil ?_
        exact ⟨(x811, a812, n813, c814, y815, (v796 + 1)), hm.2, ⟨rfl, rfl, rfl, rfl, trivial⟩, ⟨hm.1, he816, hB1054, hS1055⟩⟩
    · replace hm := hm.2 h810
      refine w_exit ?_
      exact ⟨(x790, a791, n792, c793, y794), ⟨rfl, trivial⟩, ⟨hm, he795, hB805, hS806⟩⟩
  · rintro ⟨x782, a783, n784, c785, y786⟩ b_ w1057 ⟨hm, he787, hB1058, hS1059⟩
    show Wp _ _ _ _ (upds b_ [(3, .slice a783 n784 c785)]) w1057
    refine w_seq fun K1060 hK1060 => ?_
    refine w_region ?_
    refine wl_val (g_move (v := .slice a783 n784 c785) rfl) rfl ?_
    refine wl_val (g_assign (v := .slice a783 n784 c785) rfl) rfl ?_
    refine wl_nil ?_
    refine hK1060 _ _ ?_
    refine w_ret ?_
    have hS1061 := hS1059.f2
    have hS1062 := hS1061.f2
    repeat first | with_reducible refine q_then ?_ | with_reducible refine q_block ?_
    exact ret1 rfl (by decide) ⟨_, _, _, _, _, hm, he787, rfl, hB1058, hS1062⟩

theorem m_spec_DrawPlayers_fn {w : World} {a0 : Option Addr} {n0 c0 : Nat} {p0 : List Byte} {Q : (List PlayerC) → (List Int) → Prop} (hp0 : Vw w.heap.size w a0 n0 c0 p0) (hm : m_spec_DrawPlayers p0 Q) :
    Fn Try.prog 38 #[.slice a0 n0 c0] w (fun v w' => ∃ (r0 : List PlayerC) (a0 : Option Addr) (n0 c0 : Nat) (y0 : List PlayerD) (r1 : List Int) (a1 : Option Addr) (n1 c1 : Nat), Q r0 r1 ∧ ers y0 = r0 ∧ v = .tuple #[.slice a0 n0 c0, .slice a1 n1 c1] ∧ Ext w w' ∧ Sep w' w.heap.size [oS 54 a0 n0 c0 y0, oT 3 y0, oS 3 a1 n1 c1 r1]) := by
  unfold m_spec_DrawPlayers at hm
  have hB0 := Below.refl w.heap.size w
  have hS0 : Sep w w.heap.size [] := Sep.nil (Nat.le_refl _)
  refine fn_of_wp Try.func38 rfl (by kernel_rfl) (Nat.le_of_ble_eq_true rfl) ?_
  refine w_seq fun K1 hK1 => ?_
  refine w_region ?_
  refine wl_val (g_assign (v := .slice none 0 0) rfl) rfl ?_
  refine wl_val (g_assign (v := .slice none 0 0) rfl) rfl ?_
  refine wl_nil ?_
  refine hK1 _ _ ?_
  refine w_seq fun K2 hK2 => ?_
  refine w_region ?_
  refine wl_val (g_move (v := .slice a0 n0 c0) rfl) rfl ?_
  refine wl_step rfl (g_call (vs := #[.slice a0 n0 c0]) CF80 (args1 rfl) (m_spec_l01New_fn ((hp0.bel hB0).up hS0) hm)) ?_
  rintro _ w3 ⟨g6, hm, rfl, hE4, hN5⟩
  have hS8 := hS0.call1 hE4 hN5
  have hB9 := hB0.trans (Ext.stp hE4 hS0.base)
  refine wl_val (g_assign (v := .pointer (some (⟨g6, 0, none⟩ : Addr))) rfl) rfl ?_
  refine wl_nil ?_
  refine hK2 _ _ ?_
  refine w_seq fun K10 hK10 => ?_
  refine w_region ?_
  refine wl_val (g_move (v := .pointer (some (⟨g6, 0, none⟩ : Addr))) rfl) rfl ?_
  refine wl_step rfl (g_call (vs := #[.pointer (some (⟨g6, 0, none⟩ : Addr))]) CF81 (args1 rfl) (m_spec_l13List_fn hS8 (hp0.bel hB9) hm)) ?_
  rintro _ w11 ⟨r14, a15, n16, c17, y18, hm, he19, rfl, hb12, hS13⟩
  have hB23 := hB9.trans hb12
  refine wl_val (g_assign (v := .slice a15 n16 c17) rfl) rfl ?_
  refine wl_nil ?_
  refine hK10 _ _ ?_
  refine w_seq fun K24 hK24 => ?_
  refine w_region ?_
  refine wl_step rfl (q_lit0 (α := Int) rfl SL23 hS13) ?_
  rintro _ w25 ⟨a26, rfl, hS28, hE27⟩
  have hB30 := hB23.trans (Ext.stp hE27 hS13.base)
  refine wl_val (g_assign (v := .slice a26 0 0) rfl) rfl ?_
  refine wl_nil ?_
  refine hK24 _ _ ?_
  refine w_cut (σ := List Int × Option Addr × Nat × Nat) (fun ⟨x118, a119, n120, c121⟩ => [(5, .slice a15 n16 c17), (6, .slice a119 n120 c121)]) (fun ⟨x118, a119, n120, c121⟩ w' => m_spec_DrawPlayers_K0 r14 Q x118 ∧ Below w.heap.size w w' ∧ Sep w' w.heap.size [oS 54 a15 n16 c17 (y18 : List PlayerD), oT 3 (y18 : List PlayerD), oS 3 a119 n120 c121 (x118 : List Int)]) ?_ ?_
  · refine w_seq fun K123 hK123 => ?_
    refine w_region ?_
    refine wl_val (g_assign (v := .int .i64 0) rfl) rfl ?_
    refine wl_nil ?_
    refine hK123 _ _ ?_
    refine w_block ?_
    have hS129 := hS28.f2
    have hS130 := hS129.f2
    have hS131 := hS130.f3
    obtain ⟨I132, μ133, h0134, hr135⟩ := hm
    refine w_for (σ := List Int × Option Addr × Nat × Nat × Int) (fun ⟨x124, a125, n126, c127, v128⟩ => [(4, .pointer (some (⟨g6, 0, none⟩ : Addr))), (5, .slice a15 n16 c17), (6, .slice a125 n126 c127), (7, .int .i64 v128)]) (fun ⟨x124, a125, n126, c127, v128⟩ w' => I132 x124 v128 ∧ Below w.heap.size w w' ∧ Sep w' w.heap.size [oCur 89 g6 a0 n0 c0, oS 54 a15 n16 c17 (y18 : List PlayerD), oT 3 (y18 : List PlayerD), oS 3 a125 n126 c127 (x124 : List Int)]) (fun ⟨x124, a125, n126, c127, v128⟩ => μ133 x124 v128) ([], a26, 0, 0, 0) ⟨rfl, rfl, rfl, rfl, trivial⟩ ⟨h0134, hB30, hS131⟩ ?_
    rintro ⟨x124, a125, n126, c127, v128⟩ b_ w136 ⟨hi_, hB137, hS138⟩
    show Wp _ _ _ _ (upds b_ [(4, .pointer (some (⟨g6, 0, none⟩ : Addr))), (5, .slice a15 n16 c17), (6, .slice a125 n126 c127), (7, .int .i64 v128)]) w136
    have hm := hr135 x124 v128 hi_
    refine w_seq fun K140 hK140 => ?_
    refine w_seq fun K141 hK141 => ?_
    refine w_region ?_
    refine wl_val (g_move (v := .int .i64 v128) rfl) rfl ?_
    refine wl_val (g_lss (a := v128) (b := 6) rfl rfl) rfl ?_
    refine wl_nil ?_
    refine hK141 _ _ ?_
    refine w_condI (p := v128 < 6) (b := (decide (v128 < 6))) rfl decide_eq_true_iff (fun h142 => ?_) (fun h142 => ?_)
    · replace hm := hm.1 h142
      refine w_skip ?_
      refine hK140 _ _ ?_
      refine w_seq fun K143 hK143 => ?_
      refine w_block ?_
      refine w_seq fun K144 hK144 => ?_
      refine w_region ?_
      refine wl_val (g_move (v := .pointer (some (⟨g6, 0, none⟩ : Addr))) rfl) rfl ?_
      refine wl_step rfl (g_call (vs := #[.pointer (some (⟨g6, 0, none⟩ : Addr)), .int .i64 3]) CF82 (args2 rfl rfl) (m_spec_l01Once_fn hS138 (hp0.bel hB137) 3 hm)) ?_
      rintro _ w145 ⟨r148, hm, rfl, hb146, hS147⟩
      have hB149 := hB137.trans hb146
      refine wl_nil ?_
      refine hK144 _ _ ?_
      refine w_condI (p := r148 = true) (b := r148) rfl Iff.rfl (fun h150 => ?_) (fun h150 => ?_)
      · replace hm := hm.1 h150
        refine w_region ?_
        refine wl_val (g_move (v := .slice a125 n126 c127) rfl) rfl ?_
        refine wl_val (g_move (v := .int .i64 v128) rfl) rfl ?_
        refine wl_step rfl (q_lit1 (y := (v128 : Int)) SL23 rfl rfl (by decide) hS147) ?_
        rintro _ w151 ⟨a152, rfl, hS154, hE153⟩
        have hB156 := hB149.trans (Ext.stp hE153 hS147.base)
        have hS162 := hS154.f4
        obtain ⟨hg163, hm⟩ := hm
        refine wl_step rfl (q_append SL23 rfl rfl hS162 (oS.vw hS162.g1) hg163 (by decide)) ?_
        rintro _ w157 ⟨a158, c159, rfl, hS161, hb160⟩
        have hB164 := hB156.trans hb160
        refine wl_val (g_assign (v := .slice a158 (n126 + 1) c159) rfl) rfl ?_
        refine wl_nil ?_
        refine hK143 _ _ ?_
        refine w_region ?_
        refine wl_val (g_move (v := .int .i64 v128) rfl) rfl ?_
        obtain ⟨hg165, hm⟩ := hm
        refine wl_val (g_add (a := v128) (b := 1) rfl rfl hg165) rfl ?_
        refine wl_val (g_assign (v := .int .i64 (v128 + 1)) rfl) rfl ?_
        refine wl_nil ?_
        have hS166 := hS161.f1
        have hS167 := hS166.tail
        have hS168 := hS167.f3
        have hS169 := hS168.f3
        have hS170 := hS169.f3
        exact ⟨((x124 ++ ([v128])), a158, (n126 + 1), c159, (v128 + 1)), hm.2, ⟨rfl, rfl, rfl, rfl, trivial⟩, ⟨hm.1, hB164, hS170⟩⟩
      · replace hm := hm.2 h150
        refine w_skip ?_
        refine hK143 _ _ ?_
        refine w_region ?_
        refine wl_val (g_move (v := .int .i64 v128) rfl) rfl ?_
        obtain ⟨hg171, hm⟩ := hm
        refine wl_val (g_add (a := v128) (b := 1) rfl rfl hg171) rfl ?_
        refine wl_val (g_assign (v := .int .i64 (v128 + 1)) rfl) rfl ?_
        refine wl_nil ?_
        exact ⟨(x124, a125, n126, c127, (v128 + 1)), hm.2, ⟨rfl, rfl, rfl, rfl, trivial⟩, ⟨hm.1, hB149, hS147⟩⟩
    · replace hm := hm.2 h142
      refine w_exit ?_
      have hS172 := hS138.tail
      exact ⟨(x124, a125, n126, c127), ⟨rfl, rfl, trivial⟩, ⟨hm, hB137, hS172⟩⟩
  · rintro ⟨x118, a119, n120, c121⟩ b_ w173 ⟨hm, hB174, hS175⟩
    show Wp _ _ _ _ (upds b_ [(5, .slice a15 n16 c17), (6, .slice a119 n120 c121)]) w173
    refine w_seq fun K176 hK176 => ?_
    refine w_region ?_
    refine wl_val (g_move (v := .slice a15 n16 c17) rfl) rfl ?_
    refine wl_val (g_move (v := .slice a119 n120 c121) rfl) rfl ?_
    refine wl_val (g_assign (v := .slice a15 n16 c17) rfl) rfl ?_
    refine wl_val (g_assign (v := .slice a119 n120 c121) rfl) rfl ?_
    refine wl_nil ?_
    refine hK176 _ _ ?_
    refine w_ret ?_
    repeat first | with_reducible refine q_then ?_ | with_reducible refine q_block ?_
    exact ret2 rfl (by decide) (by decide) ⟨_, _, _, _, _, _, _, _, _, hm, he19, rfl, toExt hB174, hS175⟩

theorem m_impl_within_fn {w : World}  {Q : Bool → Prop} (p0 : Int) (p1 : Int) (p2 : Int) (hm : m_impl_within p0 p1 p2 Q) :
    Fn Try.prog 83 #[.int .i64 p0, .int .i64 p1, .int .i64 p2] w (fun v w' => ∃ (r0 : Bool), Q r0 ∧ v = .bool r0 ∧ Ext w w') := by
  unfold m_impl_within at hm
  have hB0 := Below.refl w.heap.size w
  have hS0 : Sep w w.heap.size [] := Sep.nil (Nat.le_refl _)
  refine fn_of_wp Try.func83 rfl (by kernel_rfl) (Nat.le_of_ble_eq_true rfl) ?_
  refine w_seq fun K1 hK1 => ?_
  refine w_region ?_
  refine wl_val (g_assign (v := .bool false) rfl) rfl ?_
  refine wl_nil ?_
  refine hK1 _ _ ?_
  refine w_seq fun K2 hK2 => ?_
  refine w_region ?_
  refine wl_val (g_move (v := .int .i64 p0) rfl) rfl ?_
  refine wl_val (g_move (v := .int .i64 p1) rfl) rfl ?_
  refine wl_val (g_geq (a := p0) (b := p1) rfl rfl) rfl ?_
  refine wl_val (g_move (v := .bool (decide (p0 ≥ p1))) rfl) rfl ?_
  refine wl_guard (c := (decide (p0 ≥ p1)) = true) (val := .int .i64 p0) (b := ((decide (p0 ≥ p1)) == true)) (gv_some rfl rfl rfl) beq_iff_eq (fun hc3 => ?_) ?_
  · have hcq0 : p0 ≥ p1 := (decide_eq_true_iff.mp hc3)
    exact g_move (v := .int .i64 p0) rfl
  refine wl_guard (c := (decide (p0 ≥ p1)) = true) (val := .int .i64 p2) (b := ((decide (p0 ≥ p1)) == true)) (gv_some rfl rfl rfl) beq_iff_eq (fun hc4 => ?_) ?_
  · have hcq0 : p0 ≥ p1 := (decide_eq_true_iff.mp hc4)
    exact g_move (v := .int .i64 p2) rfl
  refine wl_guard (c := (decide (p0 ≥ p1)) = true) (val := .bool (decide (p0 ≤ p2))) (b := ((decide (p0 ≥ p1)) == true)) (gv_some rfl rfl rfl) beq_iff_eq (fun hc5 => ?_) ?_
  · have hcq0 : p0 ≥ p1 := (decide_eq_true_iff.mp hc5)
    exact g_leq (a := p0) (b := p2) (if_pos hc5) (if_pos hc5)
  refine wl_val (g_pick_and (b := (decide (p0 ≥ p1))) (q := (decide (p0 ≤ p2))) rfl rfl) rfl ?_
  refine wl_val (g_assign (v := .bool ((decide (p0 ≥ p1)) && (decide (p0 ≤ p2)))) rfl) rfl ?_
  refine wl_nil ?_
  refine hK2 _ _ ?_
  refine w_ret ?_
  repeat first | with_reducible refine q_then ?_ | with_reducible refine q_block ?_
  exact ret1 rfl (by decide) ⟨_, hm, rfl, toExt hB0⟩

theorem m_impl_allWithin_fn {w : World} {a0 : Option Addr} {n0 c0 : Nat} {p0 : List Int} {Q : Bool → Prop} (hp0 : Vw w.heap.size w a0 n0 c0 p0) (p1 : Int) (p2 : Int) (hm : m_impl_allWithin p0 p1 p2 Q) :
    Fn Try.prog 96 #[.slice a0 n0 c0, .int .i64 p1, .int .i64 p2] w (fun v w' => ∃ (r0 : Bool), Q r0 ∧ v = .bool r0 ∧ Ext w w') := by
  unfold m_impl_allWithin at hm
  have hB0 := Below.refl w.heap.size w
  have hS0 : Sep w w.heap.size [] := Sep.nil (Nat.le_refl _)
  refine fn_of_wp Try.func96 rfl (by kernel_rfl) (Nat.le_of_ble_eq_true rfl) ?_
  refine w_seq fun K1 hK1 => ?_
  refine w_region ?_
  refine wl_val (g_assign (v := .bool false) rfl) rfl ?_
  refine wl_nil ?_
  refine hK1 _ _ ?_
  refine w_cut (σ := Unit) (fun _ => []) (fun _ w' => m_impl_allWithin_K0 Q ∧ Below w.heap.size w w' ∧ Sep w' w.heap.size []) ?_ ?_
  · refine w_seq fun K3 hK3 => ?_
    refine w_region ?_
    refine wl_val (g_move (v := .slice a0 n0 c0) rfl) rfl ?_
    refine wl_val (q_len SL23 rfl (Vw.len (hp0.bel hB0))) rfl ?_
    refine wl_val (g_move (v := .int .i64 0) rfl) rfl ?_
    refine wl_nil ?_
    refine hK3 _ _ ?_
    refine w_block ?_
    obtain ⟨I29, μ30, h031, hr32⟩ := hm
    refine w_for (σ := Int) (fun v28 => [(1, .int .i64 p1), (2, .int .i64 p2), (9, .slice a0 n0 c0), (10, .int .i64 (p0.length : Int)), (11, .int .i64 v28)]) (fun v28 w' => I29 v28 ∧ Below w.heap.size w w' ∧ Sep w' w.heap.size []) (fun v28 => μ30 v28) (0) ⟨rfl, rfl, rfl, rfl, rfl, trivial⟩ ⟨h031, hB0, hS0⟩ ?_
    rintro v28 b_ w33 ⟨hi_, hB34, hS35⟩
    show Wp _ _ _ _ (upds b_ [(1, .int .i64 p1), (2, .int .i64 p2), (9, .slice a0 n0 c0), (10, .int .i64 (p0.length : Int)), (11, .int .i64 v28)]) w33
    have hm := hr32 v28 hi_
    refine w_seq fun K37 hK37 => ?_
    refine w_region ?_
    refine wl_val (g_lss (a := v28) (b := (p0.length : Int)) rfl rfl) rfl ?_
    refine wl_nil ?_
    refine hK37 _ _ ?_
    refine w_seq fun K38 hK38 => ?_
    refine w_condI (p := v28 < (p0.length : Int)) (b := (decide (v28 < (p0.length : Int)))) rfl decide_eq_true_iff (fun h39 => ?_) (fun h39 => ?_)
    · replace hm := hm.1 h39
      refine w_skip ?_
      refine hK38 _ _ ?_
      refine w_seq fun K40 hK40 => ?_
      refine w_block ?_
      refine w_seq fun K41 hK41 => ?_
      refine w_region ?_
      obtain ⟨hg42, hm⟩ := hm
      refine wl_val (q_index (i := v28) SL23 rfl rfl (hp0.bel hB34) hg42) rfl ?_
      refine wl_val (q_load (i := v28) (v := .int .i64 (p0[(Int.toNat v28)]!)) ON3 (hp0.bel hB34) hg42 rfl rfl) rfl ?_
      refine wl_val (g_assign (v := .int .i64 (p0[(Int.toNat v28)]!)) rfl) rfl ?_
      refine wl_nil ?_
      refine hK41 _ _ ?_
      refine w_seq fun K43 hK43 => ?_
      refine w_region ?_
      refine wl_val (g_move (v := .int .i64 (p0[(Int.toNat v28)]!)) rfl) rfl ?_
      refine wl_val (g_move (v := .int .i64 p1) rfl) rfl ?_
      refine wl_val (g_move (v := .int .i64 p2) rfl) rfl ?_
      refine wl_step rfl (g_call (vs := #[.int .i64 (p0[(Int.toNat v28)]!), .int .i64 p1, .int .i64 p2]) CF83 (args3 rfl rfl rfl) (m_impl_within_fn (p0[(Int.toNat v28)]!) p1 p2 hm)) ?_
      rintro _ w44 ⟨r47, hm, rfl, hE45⟩
      have hB48 := hB34.trans (Ext.stp hE45 hS35.base)
      have hS49 := hS35.ext hE45
      refine wl_val (g_not (a := r47) rfl) rfl ?_
      refine wl_nil ?_
      refine hK43 _ _ ?_
      refine w_condI (p := ¬ (r47 = true)) (b := (!r47)) rfl (i_not Iff.rfl) (fun h50 => ?_) (fun h50 => ?_)
      · replace hm := hm.1 h50
        refine w_seq fun K51 hK51 => ?_
        refine w_region ?_
        refine wl_val (g_assign (v := .bool false) rfl) rfl ?_
        refine wl_nil ?_
        refine hK51 _ _ ?_
        refine w_ret ?_
        repeat first | with_reducible refine q_then ?_ | with_reducible refine q_block ?_
        exact ret1 rfl (by decide) ⟨_, hm, rfl, toExt hB48⟩
      · replace hm := hm.2 h50
        refine w_skip ?_
        refine hK40 _ _ ?_
        refine w_region ?_
        obtain ⟨hg52, hm⟩ := hm
        refine wl_val (g_add (a := v28) (b := 1) rfl rfl hg52) rfl ?_
        refine wl_val (g_move (v := .int .i64 (v28 + 1)) rfl) rfl ?_
        refine wl_nil ?_
        exact ⟨((v28 + 1)), hm.2, ⟨rfl, rfl, rfl, rfl, rfl, trivial⟩, ⟨hm.1, hB48, hS49⟩⟩
    · replace hm := hm.2 h39
      refine w_exit ?_
      exact ⟨(), trivial, ⟨hm, hB34, hS35⟩⟩
  · rintro _ b_ w53 ⟨hm, hB54, hS55⟩
    show Wp _ _ _ _ (upds b_ []) w53
    refine w_seq fun K56 hK56 => ?_
    refine w_region ?_
    refine wl_val (g_assign (v := .bool true) rfl) rfl ?_
    refine wl_nil ?_
    refine hK56 _ _ ?_
    refine w_ret ?_
    repeat first | with_reducible refine q_then ?_ | with_reducible refine q_block ?_
    exact ret1 rfl (by decide) ⟨_, hm, rfl, toExt hB54⟩

theorem m_impl_isStrict_fn {w : World} {a0 : Option Addr} {n0 c0 : Nat} {p0 : List Int} {Q : Bool → Prop} (hp0 : Vw w.heap.size w a0 n0 c0 p0) (p1 : Int) (p2 : Int) (hm : m_impl_isStrict p0 p1 p2 Q) :
    Fn Try.prog 85 #[.slice a0 n0 c0, .int .i64 p1, .int .i64 p2] w (fun v w' => ∃ (r0 : Bool), Q r0 ∧ v = .bool r0 ∧ Ext w w') := by
  unfold m_impl_isStrict at hm
  have hB0 := Below.refl w.heap.size w
  have hS0 : Sep w w.heap.size [] := Sep.nil (Nat.le_refl _)
  refine fn_of_wp Try.func85 rfl (by kernel_rfl) (Nat.le_of_ble_eq_true rfl) ?_
  refine w_seq fun K1 hK1 => ?_
  refine w_region ?_
  refine wl_val (g_assign (v := .bool false) rfl) rfl ?_
  refine wl_nil ?_
  refine hK1 _ _ ?_
  refine w_cut (σ := Unit) (fun _ => [(0, .slice a0 n0 c0), (1, .int .i64 p1), (2, .int .i64 p2)]) (fun _ w' => m_impl_isStrict_K0 p0 p1 p2 Q ∧ Below w.heap.size w w' ∧ Sep w' w.heap.size []) ?_ ?_
  · refine w_seq fun K3 hK3 => ?_
    refine w_region ?_
    refine wl_val (g_move (v := .slice a0 n0 c0) rfl) rfl ?_
    refine wl_val (q_len SL23 rfl (Vw.len (hp0.bel hB0))) rfl ?_
    refine wl_val (g_move (v := .int .i64 0) rfl) rfl ?_
    refine wl_nil ?_
    refine hK3 _ _ ?_
    refine w_block ?_
    obtain ⟨I99, μ100, h0101, hr102⟩ := hm
    refine w_for (σ := Int) (fun v98 => [(0, .slice a0 n0 c0), (1, .int .i64 p1), (2, .int .i64 p2), (9, .int .i64 (p0.length : Int)), (10, .int .i64 v98)]) (fun v98 w' => I99 v98 ∧ Below w.heap.size w w' ∧ Sep w' w.heap.size []) (fun v98 => μ100 v98) (0) ⟨rfl, rfl, rfl, rfl, rfl, trivial⟩ ⟨h0101, hB0, hS0⟩ ?_
    rintro v98 b_ w103 ⟨hi_, hB104, hS105⟩
    show Wp _ _ _ _ (upds b_ [(0, .slice a0 n0 c0), (1, .int .i64 p1), (2, .int .i64 p2), (9, .int .i64 (p0.length : Int)), (10, .int .i64 v98)]) w103
    have hm := hr102 v98 hi_
    refine w_seq fun K107 hK107 => ?_
    refine w_region ?_
    refine wl_val (g_lss (a := v98) (b := (p0.length : Int)) rfl rfl) rfl ?_
    refine wl_nil ?_
    refine hK107 _ _ ?_
    refine w_seq fun K108 hK108 => ?_
    refine w_condI (p := v98 < (p0.length : Int)) (b := (decide (v98 < (p0.length : Int)))) rfl decide_eq_true_iff (fun h109 => ?_) (fun h109 => ?_)
    · replace hm := hm.1 h109
      refine w_skip ?_
      refine hK108 _ _ ?_
      refine w_seq fun K110 hK110 => ?_
      refine w_block ?_
      refine w_seq fun K111 hK111 => ?_
      refine w_region ?_
      refine wl_val (g_move (v := .int .i64 v98) rfl) rfl ?_
      refine wl_val (g_assign (v := .int .i64 v98) rfl) rfl ?_
      refine wl_nil ?_
      refine hK111 _ _ ?_
      refine w_seq fun K112 hK112 => ?_
      refine w_draw (X := Ext) (Y := Ext) [] MIX (by decide +kernel) rfl Ext.refl (fun _ _ _ => Ext.trans) (fun _ _ _ => Chg.trans) (fun _ _ h => Ext.chg h _) (fun w113 hE114 => ?_)
      have hB115 := hB104.trans (Ext.stp hE114 hS105.base)
      have hS116 := hS105.ext hE114
      refine ⟨.int .i64 v98, fun w117 hX118 => od_plain rfl (by have hS119 := hS116.ext hX118; have hB120 := hB115.trans (Ext.stp hX118 hS116.base); exact is_ext (g_move (v := .int .i64 v98) rfl)), ?_⟩
      refine ⟨.bool (decide (v98 > 0)), fun w121 hX122 => od_plain rfl (by have hS123 := hS116.ext hX122; have hB124 := hB115.trans (Ext.stp hX122 hS116.base); exact is_ext (g_gtr (a := v98) (b := 0) rfl rfl)), ?_⟩
      refine ⟨.bool (decide (v98 > 0)), fun w125 hX126 => od_plain rfl (by have hS127 := hS116.ext hX126; have hB128 := hB115.trans (Ext.stp hX126 hS116.base); exact is_ext (g_move (v := .bool (decide (v98 > 0))) rfl)), ?_⟩
      refine ⟨if (decide (v98 > 0)) = true then .slice a0 n0 c0 else undef, fun w129 hX130 => od_guard (c := (decide (v98 > 0)) = true) (val := .slice a0 n0 c0) (b := ((decide (v98 > 0)) == true)) (gv_some rfl rfl rfl) beq_iff_eq (fun hc133 => ?_), ?_⟩
      · have hS131 := hS116.ext hX130
        have hB132 := hB115.trans (Ext.stp hX130 hS116.base)
        have hcq1 : v98 > 0 := (decide_eq_true_iff.mp hc133)
        exact is_ext (g_move (v := .slice a0 n0 c0) rfl)
      refine ⟨if (decide (v98 > 0)) = true then .int .i64 v98 else undef, fun w134 hX135 => od_guard (c := (decide (v98 > 0)) = true) (val := .int .i64 v98) (b := ((decide (v98 > 0)) == true)) (gv_some rfl rfl rfl) beq_iff_eq (fun hc138 => ?_), ?_⟩
      · have hS136 := hS116.ext hX135
        have hB137 := hB115.trans (Ext.stp hX135 hS116.base)
        have hcq1 : v98 > 0 := (decide_eq_true_iff.mp hc138)
        exact is_ext (g_move (v := .int .i64 v98) rfl)
      obtain ⟨hg144, hm⟩ := hm
      refine ⟨if (decide (v98 > 0)) = true then .pointer (some ((adr a0).add ((Int.toNat v98) * El.m Int))) else undef, fun w139 hX140 => od_guard (c := (decide (v98 > 0)) = true) (val := .pointer (some ((adr a0).add ((Int.toNat v98) * El.m Int)))) (b := ((decide (v98 > 0)) == true)) (gv_some rfl rfl rfl) beq_iff_eq (fun hc143 => ?_), ?_⟩
      · have hS141 := hS116.ext hX140
        have hB142 := hB115.trans (Ext.stp hX140 hS116.base)
        have hcq1 : v98 > 0 := (decide_eq_true_iff.mp hc143)
        exact is_ext (q_index (i := v98) SL23 (if_pos hc143) (if_pos hc143) (hp0.bel hB142) (hg144 hcq1))
      refine ⟨if (decide (v98 > 0)) = true then .int .i64 (p0[(Int.toNat v98)]!) else undef, fun w145 hX146 => od_guard (c := (decide (v98 > 0)) = true) (val := .int .i64 (p0[(Int.toNat v98)]!)) (b := ((decide (v98 > 0)) == true)) (gv_some rfl rfl rfl) beq_iff_eq (fun hc149 => ?_), ?_⟩
      · have hS147 := hS116.ext hX146
        have hB148 := hB115.trans (Ext.stp hX146 hS116.base)
        have hcq1 : v98 > 0 := (decide_eq_true_iff.mp hc149)
        exact is_ext (q_load (i := v98) (v := .int .i64 (p0[(Int.toNat v98)]!)) ON3 (hp0.bel hB148) (hg144 hcq1) rfl (if_pos hc149))
      refine ⟨if (decide (v98 > 0)) = true then .slice a0 n0 c0 else undef, fun w150 hX151 => od_guard (c := (decide (v98 > 0)) = true) (val := .slice a0 n0 c0) (b := ((decide (v98 > 0)) == true)) (gv_some rfl rfl rfl) beq_iff_eq (fun hc154 => ?_), ?_⟩
      · have hS152 := hS116.ext hX151
        have hB153 := hB115.trans (Ext.stp hX151 hS116.base)
        have hcq1 : v98 > 0 := (decide_eq_true_iff.mp hc154)
        exact is_ext (g_move (v := .slice a0 n0 c0) rfl)
      refine ⟨if (decide (v98 > 0)) = true then .int .i64 v98 else undef, fun w155 hX156 => od_guard (c := (decide (v98 > 0)) = true) (val := .int .i64 v98) (b := ((decide (v98 > 0)) == true)) (gv_some rfl rfl rfl) beq_iff_eq (fun hc159 => ?_), ?_⟩
      · have hS157 := hS116.ext hX156
        have hB158 := hB115.trans (Ext.stp hX156 hS116.base)
        have hcq1 : v98 > 0 := (decide_eq_true_iff.mp hc159)
        exact is_ext (g_move (v := .int .i64 v98) rfl)
      obtain ⟨hg165, hm⟩ := hm
      refine ⟨if (decide (v98 > 0)) = true then .int .i64 (v98 - 1) else undef, fun w160 hX161 => od_guard (c := (decide (v98 > 0)) = true) (val := .int .i64 (v98 - 1)) (b := ((decide (v98 > 0)) == true)) (gv_some rfl rfl rfl) beq_iff_eq (fun hc164 => ?_), ?_⟩
      · have hS162 := hS116.ext hX161
        have hB163 := hB115.trans (Ext.stp hX161 hS116.base)
        have hcq1 : v98 > 0 := (decide_eq_true_iff.mp hc164)
        exact is_ext (g_sub (a := v98) (b := 1) (if_pos hc164) rfl (hg165 hcq1))
      obtain ⟨hg171, hm⟩ := hm
      refine ⟨if (decide (v98 > 0)) = true then .pointer (some ((adr a0).add ((Int.toNat (v98 - 1)) * El.m Int))) else undef, fun w166 hX167 => od_guard (c := (decide (v98 > 0)) = true) (val := .pointer (some ((adr a0).add ((Int.toNat (v98 - 1)) * El.m Int)))) (b := ((decide (v98 > 0)) == true)) (gv_some rfl rfl rfl) beq_iff_eq (fun hc170 => ?_), ?_⟩
      · have hS168 := hS116.ext hX167
        have hB169 := hB115.trans (Ext.stp hX167 hS116.base)
        have hcq1 : v98 > 0 := (decide_eq_true_iff.mp hc170)
        exact is_ext (q_index (i := (v98 - 1)) SL23 (if_pos hc170) (if_pos hc170) (hp0.bel hB169) (hg171 hcq1))
      refine ⟨if (decide (v98 > 0)) = true then .int .i64 (p0[(Int.toNat (v98 - 1))]!) else undef, fun w172 hX173 => od_guard (c := (decide (v98 > 0)) = true) (val := .int .i64 (p0[(Int.toNat (v98 - 1))]!)) (b := ((decide (v98 > 0)) == true)) (gv_some rfl rfl rfl) beq_iff_eq (fun hc176 => ?_), ?_⟩
      · have hS174 := hS116.ext hX173
        have hB175 := hB115.trans (Ext.stp hX173 hS116.base)
        have hcq1 : v98 > 0 := (decide_eq_true_iff.mp hc176)
        exact is_ext (q_load (i := (v98 - 1)) (v := .int .i64 (p0[(Int.toNat (v98 - 1))]!)) ON3 (hp0.bel hB175) (hg171 hcq1) rfl (if_pos hc176))
      refine ⟨if (decide (v98 > 0)) = true then .bool (decide (p0[(Int.toNat v98)]! ≤ p0[(Int.toNat (v98 - 1))]!)) else undef, fun w177 hX178 => od_guard (c := (decide (v98 > 0)) = true) (val := .bool (decide (p0[(Int.toNat v98)]! ≤ p0[(Int.toNat (v98 - 1))]!))) (b := ((decide (v98 > 0)) == true)) (gv_some rfl rfl rfl) beq_iff_eq (fun hc181 => ?_), ?_⟩
      · have hS179 := hS116.ext hX178
        have hB180 := hB115.trans (Ext.stp hX178 hS116.base)
        have hcq1 : v98 > 0 := (decide_eq_true_iff.mp hc181)
        exact is_ext (g_leq (a := p0[(Int.toNat v98)]!) (b := p0[(Int.toNat (v98 - 1))]!) (if_pos hc181) (if_pos hc181))
      refine ⟨.bool ((decide (v98 > 0)) && (decide (p0[(Int.toNat v98)]! ≤ p0[(Int.toNat (v98 - 1))]!))), fun w182 hX183 => od_plain rfl (by have hS184 := hS116.ext hX183; have hB185 := hB115.trans (Ext.stp hX183 hS116.base); exact is_ext (g_pick_and (b := (decide (v98 > 0))) (q := (decide (p0[(Int.toNat v98)]! ≤ p0[(Int.toNat (v98 - 1))]!))) rfl rfl)), ?_⟩
      intro w186 hX187
      have hB188 := hB115.trans (Ext.stp hX187 hS116.base)
      have hS189 := hS116.ext hX187
      refine hK112 _ _ ?_
      refine w_condI (p := ((v98 > 0) ∧ (p0[(Int.toNat v98)]! ≤ p0[(Int.toNat (v98 - 1))]!))) (b := ((decide (v98 > 0)) && (decide (p0[(Int.toNat v98)]! ≤ p0[(Int.toNat (v98 - 1))]!)))) rfl (i_and decide_eq_true_iff decide_eq_true_iff) (fun h190 => ?_) (fun h190 => ?_)
      · replace hm := hm.1 h190
        refine w_seq fun K191 hK191 => ?_
        refine w_region ?_
        refine wl_val (g_assign (v := .bool false) rfl) rfl ?_
        refine wl_nil ?_
        refine hK191 _ _ ?_
        refine w_ret ?_
        repeat first | with_reducible refine q_then ?_ | with_reducible refine q_block ?_
        exact ret1 rfl (by decide) ⟨_, hm, rfl, toExt hB188⟩
      · replace hm := hm.2 h190
        refine w_skip ?_
        refine hK110 _ _ ?_
        refine w_region ?_
        obtain ⟨hg192, hm⟩ := hm
        refine wl_val (g_add (a := v98) (b := 1) rfl rfl hg192) rfl ?_
        refine wl_val (g_move (v := .int .i64 (v98 + 1)) rfl) rfl ?_
        refine wl_nil ?_
        exact ⟨((v98 + 1)), hm.2, ⟨rfl, rfl, rfl, rfl, rfl, trivial⟩, ⟨hm.1, hB188, hS189⟩⟩
    · replace hm := hm.2 h109
      refine w_exit ?_
      exact ⟨(), ⟨rfl, rfl, rfl, trivial⟩, ⟨hm, hB104, hS105⟩⟩
  · rintro _ b_ w193 ⟨hm, hB194, hS195⟩
    show Wp _ _ _ _ (upds b_ [(0, .slice a0 n0 c0), (1, .int .i64 p1), (2, .int .i64 p2)]) w193
    refine w_seq fun K196 hK196 => ?_
    refine w_region ?_
    refine wl_val (g_move (v := .slice a0 n0 c0) rfl) rfl ?_
    refine wl_val (g_move (v := .int .i64 p1) rfl) rfl ?_
    refine wl_val (g_move (v := .int .i64 p2) rfl) rfl ?_
    refine wl_step rfl (g_call (vs := #[.slice a0 n0 c0, .int .i64 p1, .int .i64 p2]) CF96 (args3 rfl rfl rfl) (m_impl_allWithin_fn ((hp0.bel hB194).up hS195) p1 p2 hm)) ?_
    rintro _ w197 ⟨r200, hm, rfl, hE198⟩
    have hB201 := hB194.trans (Ext.stp hE198 hS195.base)
    have hS202 := hS195.ext hE198
    refine wl_val (g_assign (v := .bool r200) rfl) rfl ?_
    refine wl_nil ?_
    refine hK196 _ _ ?_
    refine w_ret ?_
    repeat first | with_reducible refine q_then ?_ | with_reducible refine q_block ?_
    exact ret1 rfl (by decide) ⟨_, hm, rfl, toExt hB201⟩

theorem m_impl_PlayersOk_fn {w : World} {a0 : Option Addr} {n0 c0 : Nat} {y0 : List PlayerD} {p0 : List PlayerC} {Q : Bool → Prop} (hp0 : Tv w.heap.size w a0 n0 c0 y0 p0) (hm : m_impl_PlayersOk p0 Q) :
    Fn Try.prog 44 #[.slice a0 n0 c0] w (fun v w' => ∃ (r0 : Bool), Q r0 ∧ v = .bool r0 ∧ Ext w w') := by
  unfold m_impl_PlayersOk at hm
  have hB0 := Below.refl w.heap.size w
  have hS0 : Sep w w.heap.size [] := Sep.nil (Nat.le_refl _)
  refine fn_of_wp Try.func44 rfl (by kernel_rfl) (Nat.le_of_ble_eq_true rfl) ?_
  refine w_seq fun K1 hK1 => ?_
  refine w_region ?_
  refine wl_val (g_assign (v := .bool false) rfl) rfl ?_
  refine wl_nil ?_
  refine hK1 _ _ ?_
  refine w_cut (σ := Unit) (fun _ => [(0, .slice a0 n0 c0)]) (fun _ w' => m_impl_PlayersOk_K0 p0 Q ∧ Below w.heap.size w w' ∧ Sep w' w.heap.size []) ?_ ?_
  · refine w_seq fun K3 hK3 => ?_
    refine w_region ?_
    refine wl_val (g_move (v := .slice a0 n0 c0) rfl) rfl ?_
    refine wl_val (q_len SL27 rfl (Tv.len (hp0.bel hB0))) rfl ?_
    refine wl_val (g_move (v := .int .i64 0) rfl) rfl ?_
    refine wl_nil ?_
    refine hK3 _ _ ?_
    refine w_block ?_
    obtain ⟨I49, μ50, h051, hr52⟩ := hm
    refine w_for (σ := Int) (fun v48 => [(0, .slice a0 n0 c0), (5, .slice a0 n0 c0), (6, .int .i64 (p0.length : Int)), (7, .int .i64 v48)]) (fun v48 w' => I49 v48 ∧ Below w.heap.size w w' ∧ Sep w' w.heap.size []) (fun v48 => μ50 v48) (0) ⟨rfl, rfl, rfl, rfl, trivial⟩ ⟨h051, hB0, hS0⟩ ?_
    rintro v48 b_ w53 ⟨hi_, hB54, hS55⟩
    show Wp _ _ _ _ (upds b_ [(0, .slice a0 n0 c0), (5, .slice a0 n0 c0), (6, .int .i64 (p0.length : Int)), (7, .int .i64 v48)]) w53
    have hm := hr52 v48 hi_
    refine w_seq fun K57 hK57 => ?_
    refine w_region ?_
    refine wl_val (g_lss (a := v48) (b := (p0.length : Int)) rfl rfl) rfl ?_
    refine wl_nil ?_
    refine hK57 _ _ ?_
    refine w_seq fun K58 hK58 => ?_
    refine w_condI (p := v48 < (p0.length : Int)) (b := (decide (v48 < (p0.length : Int)))) rfl decide_eq_true_iff (fun h59 => ?_) (fun h59 => ?_)
    · replace hm := hm.1 h59
      refine w_skip ?_
      refine hK58 _ _ ?_
      refine w_seq fun K60 hK60 => ?_
      refine w_block ?_
      refine w_seq fun K61 hK61 => ?_
      refine w_region ?_
      obtain ⟨hg62, hm⟩ := hm
      refine wl_val (q_index (i := v48) SL27 rfl rfl (Tv.o (hp0.bel hB54)) (Tv.g (hp0.bel hB54) hg62)) rfl ?_
      refine wl_val (q_loadS (i := v48) (cs := [.slice ((y0[(Int.toNat v48)]!).1.1) ((y0[(Int.toNat v48)]!).1.2.2.length) ((y0[(Int.toNat v48)]!).1.2.1), .int .i64 (p0[(Int.toNat v48)]!.2)]) AG54 (Tv.o (hp0.bel hB54)) (Tv.g (hp0.bel hB54) hg62) (by rw [← Tv.free (hp0.bel hB54) hg62]; rfl) rfl) rfl ?_
      refine wl_step rfl (q_alloc (cs := #[.slice none 0 0, .int .i64 0]) ZR54 rfl hS55) ?_
      rintro _ w63 ⟨g64, rfl, hS66, hE65⟩
      have hB68 := hB54.trans (Ext.stp hE65 hS55.base)
      refine wl_step rfl (q_storeB (i := 0) (bs' := #[.slice ((y0[(Int.toNat v48)]!).1.1) ((y0[(Int.toNat v48)]!).1.2.2.length) ((y0[(Int.toNat v48)]!).1.2.1), .int .i64 (p0[(Int.toNat v48)]!.2)]) (vs := [.slice ((y0[(Int.toNat v48)]!).1.1) ((y0[(Int.toNat v48)]!).1.2.2.length) ((y0[(Int.toNat v48)]!).1.2.1), .int .i64 (p0[(Int.toNat v48)]!.2)]) hS66 AG54.sz rfl rfl rfl (by simp [Value.oneCell']) (Nat.le_of_ble_eq_true rfl) rfl) ?_
      rintro _ w69 ⟨rfl, hS70, hb71⟩
      have hB72 := hB68.trans hb71
      refine wl_nil ?_
      refine hK61 _ _ ?_
      refine w_seq fun K73 hK73 => ?_
      refine w_region ?_
      refine wl_val (g_fieldAddr (q := (⟨g64, 0, none⟩ : Addr)) FL54_0 ON23 rfl) rfl ?_
      refine wl_val (q_loadB (i := 0) (bs := #[.slice ((y0[(Int.toNat v48)]!).1.1) ((y0[(Int.toNat v48)]!).1.2.2.length) ((y0[(Int.toNat v48)]!).1.2.1), .int .i64 (p0[(Int.toNat v48)]!.2)]) hS70.g0 ON23 rfl rfl) rfl ?_
      refine wl_step rfl (g_call (vs := #[.slice ((y0[(Int.toNat v48)]!).1.1) ((y0[(Int.toNat v48)]!).1.2.2.length) ((y0[(Int.toNat v48)]!).1.2.1), .int .i64 0, .int .i64 6]) CF85 (args3 rfl rfl rfl) (m_impl_isStrict_fn ((Tv.rowP (hp0.bel hB72) hg62).up hS70) 0 6 hm)) ?_
      rintro _ w74 ⟨r77, hm, rfl, hE75⟩
      have hB78 := hB72.trans (Ext.stp hE75 hS70.base)
      have hS79 := hS70.ext hE75
      refine wl_val (g_not (a := r77) rfl) rfl ?_
      refine wl_val (g_move (v := .bool (!r77)) rfl) rfl ?_
      refine wl_guard (c := (!r77) = false) (val := .pointer (some (((⟨g64, 0, none⟩ : Addr)).add 1))) (b := ((!r77) == false)) (gv_some rfl rfl rfl) beq_iff_eq (fun hc80 => ?_) ?_
      · have hcq1 : ¬ (¬ (r77 = true)) := (i_neg (i_not Iff.rfl) hc80)
        exact g_fieldAddr (q := (⟨g64, 0, none⟩ : Addr)) FL54_1 ON3 rfl
      refine wl_guard (c := (!r77) = false) (val := .int .i64 (p0[(Int.toNat v48)]!.2)) (b := ((!r77) == false)) (gv_some rfl rfl rfl) beq_iff_eq (fun hc81 => ?_) ?_
      · have hcq1 : ¬ (¬ (r77 = true)) := (i_neg (i_not Iff.rfl) hc81)
        exact q_loadB (i := 1) (bs := #[.slice ((y0[(Int.toNat v48)]!).1.1) ((y0[(Int.toNat v48)]!).1.2.2.length) ((y0[(Int.toNat v48)]!).1.2.1), .int .i64 (p0[(Int.toNat v48)]!.2)]) hS79.g0 ON3 (if_pos hc81) rfl
      obtain ⟨r83, hk84, hm⟩ := hm
      refine wl_guardE (X := Ext) (c := (!r77) = false) (val := .bool r83) (Ext.refl _) (b := ((!r77) == false)) (gv_some rfl rfl rfl) beq_iff_eq (fun hc82 => ?_) (fun w85 hE86 => ?_)
      · have hcq1 : ¬ (¬ (r77 = true)) := (i_neg (i_not Iff.rfl) hc82)
        exact (g_call (vs := #[.int .i64 (p0[(Int.toNat v48)]!.2), .int .i64 0, .int .i64 2]) CF83 (args3 (if_pos hc82) rfl rfl) ((m_impl_within_fn (p0[(Int.toNat v48)]!.2) 0 2 (hk84 hcq1)).mono fun _ _ ⟨_, h1, h2, h3⟩ => ⟨by rw [h2, h1], h3⟩))
      have hB87 := hB78.trans (Ext.stp hE86 hS79.base)
      have hS88 := hS79.ext hE86
      refine wl_guard (c := (!r77) = false) (val := .bool (!r83)) (b := ((!r77) == false)) (gv_some rfl rfl rfl) beq_iff_eq (fun hc89 => ?_) ?_
      · have hcq1 : ¬ (¬ (r77 = true)) := (i_neg (i_not Iff.rfl) hc89)
        exact g_not (a := r83) (if_pos hc89)
      refine wl_val (g_pick_or (b := (!r77)) (q := (!r83)) rfl rfl) rfl ?_
      refine wl_nil ?_
      refine hK73 _ _ ?_
      refine w_condI (p := ((¬ (r77 = true)) ∨ (¬ (r83 = true)))) (b := ((!r77) || (!r83))) rfl (i_or (i_not Iff.rfl) (i_not Iff.rfl)) (fun h90 => ?_) (fun h90 => ?_)
      · replace hm := hm.1 h90
        refine w_seq fun K91 hK91 => ?_
        refine w_region ?_
        refine wl_val (g_assign (v := .bool false) rfl) rfl ?_
        refine wl_nil ?_
        refine hK91 _ _ ?_
        refine w_ret ?_
        repeat first | with_reducible refine q_then ?_ | with_reducible refine q_block ?_
        exact ret1 rfl (by decide) ⟨_, hm, rfl, toExt hB87⟩
      · replace hm := hm.2 h90
        refine w_skip ?_
        refine hK60 _ _ ?_
        refine w_region ?_
        obtain ⟨hg92, hm⟩ := hm
        refine wl_val (g_add (a := v48) (b := 1) rfl rfl hg92) rfl ?_
        refine wl_val (g_move (v := .int .i64 (v48 + 1)) rfl) rfl ?_
        refine wl_nil ?_
        have hS93 := hS88.tail
        exact ⟨((v48 + 1)), hm.2, ⟨rfl, rfl, rfl, rfl, trivial⟩, ⟨hm.1, hB87, hS93⟩⟩
    · replace hm := hm.2 h59
      refine w_exit ?_
      exact ⟨(), ⟨rfl, trivial⟩, ⟨hm, hB54, hS55⟩⟩
  · rintro _ b_ w94 ⟨hm, hB95, hS96⟩
    show Wp _ _ _ _ (upds b_ [(0, .slice a0 n0 c0)]) w94
    refine w_seq fun K97 hK97 => ?_
    refine w_region ?_
    refine wl_val (g_move (v := .slice a0 n0 c0) rfl) rfl ?_
    refine wl_val (q_len SL27 rfl (Tv.len (hp0.bel hB95))) rfl ?_
    refine wl_step rfl (g_call (vs := #[.int .i64 (p0.length : Int), .int .i64 1, .int .i64 6]) CF83 (args3 rfl rfl rfl) (m_impl_within_fn (p0.length : Int) 1 6 hm)) ?_
    rintro _ w98 ⟨r101, hm, rfl, hE99⟩
    have hB102 := hB95.trans (Ext.stp hE99 hS96.base)
    have hS103 := hS96.ext hE99
    refine wl_val (g_assign (v := .bool r101) rfl) rfl ?_
    refine wl_nil ?_
    refine hK97 _ _ ?_
    refine w_ret ?_
    repeat first | with_reducible refine q_then ?_ | with_reducible refine q_block ?_
    exact ret1 rfl (by decide) ⟨_, hm, rfl, toExt hB102⟩

theorem m_impl_arePuppets_fn {w : World} {a0 : Option Addr} {n0 c0 : Nat} {p0 : List Int} {Q : Bool → Prop} (hp0 : Vw w.heap.size w a0 n0 c0 p0) (hm : m_impl_arePuppets p0 Q) :
    Fn Try.prog 61 #[.slice a0 n0 c0] w (fun v w' => ∃ (r0 : Bool), Q r0 ∧ v = .bool r0 ∧ Ext w w') := by
  unfold m_impl_arePuppets at hm
  have hB0 := Below.refl w.heap.size w
  have hS0 : Sep w w.heap.size [] := Sep.nil (Nat.le_refl _)
  refine fn_of_wp Try.func61 rfl (by kernel_rfl) (Nat.le_of_ble_eq_true rfl) ?_
  refine w_seq fun K1 hK1 => ?_
  refine w_region ?_
  refine wl_val (g_assign (v := .bool false) rfl) rfl ?_
  refine wl_nil ?_
  refine hK1 _ _ ?_
  refine w_seq fun K2 hK2 => ?_
  refine w_region ?_
  refine wl_val (g_move (v := .slice a0 n0 c0) rfl) rfl ?_
  refine wl_step rfl (g_call (vs := #[.slice a0 n0 c0, .int .i64 0, .int .i64 6]) CF85 (args3 rfl rfl rfl) (m_impl_isStrict_fn ((hp0.bel hB0).up hS0) 0 6 hm)) ?_
  rintro _ w3 ⟨r6, hm, rfl, hE4⟩
  have hB7 := hB0.trans (Ext.stp hE4 hS0.base)
  have hS8 := hS0.ext hE4
  refine wl_val (g_assign (v := .bool r6) rfl) rfl ?_
  refine wl_nil ?_
  refine hK2 _ _ ?_
  refine w_ret ?_
  repeat first | with_reducible refine q_then ?_ | with_reducible refine q_block ?_
  exact ret1 rfl (by decide) ⟨_, hm, rfl, toExt hB7⟩

theorem m_impl_FirstCasting_1_fn {w : World} {B_ : Nat} {L_ : List Ob} {a0 : Option Addr} {n0 c0 : Nat} {p0 : List Int} {gq0 : Nat} {aq0 : Option Addr} {nq0 cq0 : Nat} {q0 : List Int} {gq1 : Nat} {q1 : Bool} {Q : Bool → (List Int) → Bool → Prop} (hS0 : Sep w B_ (oS 3 a0 n0 c0 (p0 : List Int) :: oB gq0 23 #[.slice aq0 nq0 cq0] :: oS 3 aq0 nq0 cq0 (q0 : List Int) :: oB gq1 4 #[.bool q1] :: L_)) (hm : m_impl_FirstCasting_1 p0 q0 q1 Q) :
    Fn Try.prog 63 #[.slice a0 n0 c0, .pointer (some (⟨gq0, 0, none⟩ : Addr)), .pointer (some (⟨gq1, 0, none⟩ : Addr))] w (fun v w' => ∃ (r0 : Bool) (x0 : List Int) (aa0 : Option Addr) (nn0 cc0 : Nat) (x1 : Bool), Q r0 x0 x1 ∧ v = .bool r0 ∧ Below B_ w w' ∧ Sep w' B_ (oB gq0 23 #[.slice aa0 nn0 cc0] :: oS 3 aa0 nn0 cc0 x0 :: oB gq1 4 #[.bool x1] :: L_)) := by
  unfold m_impl_FirstCasting_1 at hm
  have hB0 := Below.refl B_ w
  refine fn_of_wp Try.func63 rfl (by kernel_rfl) (Nat.le_of_ble_eq_true rfl) ?_
  refine w_seq fun K5 hK5 => ?_
  refine w_region ?_
  refine wl_val (g_assign (v := .bool false) rfl) rfl ?_
  refine wl_nil ?_
  refine hK5 _ _ ?_
  refine w_seq fun K6 hK6 => ?_
  refine w_region ?_
  refine wl_val (g_move (v := .slice a0 n0 c0) rfl) rfl ?_
  have hS10 := hS0.f1
  refine wl_step rfl (q_storeB (i := 0) (bs' := #[.slice a0 n0 c0]) (vs := [.slice a0 n0 c0]) hS10 ON23.sz rfl rfl rfl (by simp [Value.oneCell']) (Nat.le_of_ble_eq_true rfl) rfl) ?_
  rintro _ w7 ⟨rfl, hS8, hb9⟩
  have hB11 := hB0.trans hb9
  have hS15 := hS8.f3
  refine wl_step rfl (q_storeB (i := 0) (bs' := #[.bool true]) (vs := [.bool true]) hS15 ON4.sz rfl rfl rfl (by simp [Value.oneCell']) (Nat.le_of_ble_eq_true rfl) rfl) ?_
  rintro _ w12 ⟨rfl, hS13, hb14⟩
  have hB16 := hB11.trans hb14
  refine wl_nil ?_
  refine hK6 _ _ ?_
  refine w_seq fun K17 hK17 => ?_
  refine w_region ?_
  refine wl_val (g_assign (v := .bool false) rfl) rfl ?_
  refine wl_nil ?_
  refine hK17 _ _ ?_
  refine w_ret ?_
  have hS18 := hS13.f3
  have hS19 := hS18.tail
  have hS20 := hS19.f2
  have hS21 := hS20.f2
  repeat first | with_reducible refine q_then ?_ | with_reducible refine q_block ?_
  exact ret1 rfl (by decide) ⟨_, _, _, _, _, _, hm, rfl, hB16, hS21⟩

theorem m_impl_copyOf_fn {w : World} {a0 : Option Addr} {n0 c0 : Nat} {p0 : List Int} {Q : (List Int) → Prop} (hp0 : Vw w.heap.size w a0 n0 c0 p0) (hm : m_impl_copyOf p0 Q) :
    Fn Try.prog 79 #[.slice a0 n0 c0] w (fun v w' => ∃ (r0 : List Int) (a0 : Option Addr) (n0 c0 : Nat), Q r0 ∧ v = .slice a0 n0 c0 ∧ Ext w w' ∧ Sep w' w.heap.size [oS 3 a0 n0 c0 r0]) := by
  unfold m_impl_copyOf at hm
  have hB0 := Below.refl w.heap.size w
  have hS0 : Sep w w.heap.size [] := Sep.nil (Nat.le_refl _)
  refine fn_of_wp Try.func79 rfl (by kernel_rfl) (Nat.le_of_ble_eq_true rfl) ?_
  refine w_seq fun K1 hK1 => ?_
  refine w_region ?_
  refine wl_val (g_assign (v := .slice none 0 0) rfl) rfl ?_
  refine wl_nil ?_
  refine hK1 _ _ ?_
  refine w_seq fun K2 hK2 => ?_
  refine w_region ?_
  refine wl_step rfl (q_lit0 (α := Int) rfl SL23 hS0) ?_
  rintro _ w3 ⟨a4, rfl, hS6, hE5⟩
  have hB8 := hB0.trans (Ext.stp hE5 hS0.base)
  refine wl_val (g_move (v := .slice a0 n0 c0) rfl) rfl ?_
  obtain ⟨hg14, hm⟩ := hm
  refine wl_step rfl (q_append SL23 rfl rfl hS6 (hp0.bel hB8) hg14 (by decide)) ?_
  rintro _ w9 ⟨a10, c11, rfl, hS13, hb12⟩
  have hB15 := hB8.trans hb12
  refine wl_val (g_assign (v := .slice a10 (0 + n0) c11) rfl) rfl ?_
  refine wl_nil ?_
  refine hK2 _ _ ?_
  refine w_ret ?_
  repeat first | with_reducible refine q_then ?_ | with_reducible refine q_block ?_
  exact ret1 rfl (by decide) ⟨_, _, _, _, hm, rfl, toExt hB15, hS13⟩

theorem m_impl_indexOf_fn {w : World} {a0 : Option Addr} {n0 c0 : Nat} {p0 : List Int} {Q : Int → Prop} (hp0 : Vw w.heap.size w a0 n0 c0 p0) (p1 : Int) (hm : m_impl_indexOf p0 p1 Q) :
    Fn Try.prog 84 #[.slice a0 n0 c0, .int .i64 p1] w (fun v w' => ∃ (r0 : Int), Q r0 ∧ v = .int .i64 r0 ∧ Ext w w') := by
  unfold m_impl_indexOf at hm
  have hB0 := Below.refl w.heap.size w
  have hS0 : Sep w w.heap.size [] := Sep.nil (Nat.le_refl _)
  refine fn_of_wp Try.func84 rfl (by kernel_rfl) (Nat.le_of_ble_eq_true rfl) ?_
  refine w_seq fun K1 hK1 => ?_
  refine w_region ?_
  refine wl_val (g_assign (v := .int .i64 0) rfl) rfl ?_
  refine wl_nil ?_
  refine hK1 _ _ ?_
  refine w_cut (σ := Unit) (fun _ => []) (fun _ w' => m_impl_indexOf_K0 Q ∧ Below w.heap.size w w' ∧ Sep w' w.heap.size []) ?_ ?_
  · refine w_seq fun K3 hK3 => ?_
    refine w_region ?_
    refine wl_val (g_move (v := .slice a0 n0 c0) rfl) rfl ?_
    refine wl_val (q_len SL23 rfl (Vw.len (hp0.bel hB0))) rfl ?_
    refine wl_val (g_move (v := .int .i64 0) rfl) rfl ?_
    refine wl_nil ?_
    refine hK3 _ _ ?_
    refine w_block ?_
    obtain ⟨I23, μ24, h025, hr26⟩ := hm
    refine w_for (σ := Int) (fun v22 => [(1, .int .i64 p1), (7, .slice a0 n0 c0), (8, .int .i64 (p0.length : Int)), (9, .int .i64 v22)]) (fun v22 w' => I23 v22 ∧ Below w.heap.size w w' ∧ Sep w' w.heap.size []) (fun v22 => μ24 v22) (0) ⟨rfl, rfl, rfl, rfl, trivial⟩ ⟨h025, hB0, hS0⟩ ?_
    rintro v22 b_ w27 ⟨hi_, hB28, hS29⟩
    show Wp _ _ _ _ (upds b_ [(1, .int .i64 p1), (7, .slice a0 n0 c0), (8, .int .i64 (p0.length : Int)), (9, .int .i64 v22)]) w27
    have hm := hr26 v22 hi_
    refine w_seq fun K31 hK31 => ?_
    refine w_region ?_
    refine wl_val (g_lss (a := v22) (b := (p0.length : Int)) rfl rfl) rfl ?_
    refine wl_nil ?_
    refine hK31 _ _ ?_
    refine w_seq fun K32 hK32 => ?_
    refine w_condI (p := v22 < (p0.length : Int)) (b := (decide (v22 < (p0.length : Int)))) rfl decide_eq_true_iff (fun h33 => ?_) (fun h33 => ?_)
    · replace hm := hm.1 h33
      refine w_skip ?_
      refine hK32 _ _ ?_
      refine w_seq fun K34 hK34 => ?_
      refine w_block ?_
      refine w_seq fun K35 hK35 => ?_
      refine w_region ?_
      refine wl_val (g_move (v := .int .i64 v22) rfl) rfl ?_
      obtain ⟨hg36, hm⟩ := hm
      refine wl_val (q_index (i := v22) SL23 rfl rfl (hp0.bel hB28) hg36) rfl ?_
      refine wl_val (q_load (i := v22) (v := .int .i64 (p0[(Int.toNat v22)]!)) ON3 (hp0.bel hB28) hg36 rfl rfl) rfl ?_
      refine wl_val (g_assign (v := .int .i64 v22) rfl) rfl ?_
      refine wl_val (g_assign (v := .int .i64 (p0[(Int.toNat v22)]!)) rfl) rfl ?_
      refine wl_nil ?_
      refine hK35 _ _ ?_
      refine w_seq fun K37 hK37 => ?_
      refine w_region ?_
      refine wl_val (g_move (v := .int .i64 (p0[(Int.toNat v22)]!)) rfl) rfl ?_
      refine wl_val (g_move (v := .int .i64 p1) rfl) rfl ?_
      refine wl_val (g_eql (a := p0[(Int.toNat v22)]!) (b := p1) rfl rfl) rfl ?_
      refine wl_nil ?_
      refine hK37 _ _ ?_
      refine w_condI (p := p0[(Int.toNat v22)]! = p1) (b := (decide (p0[(Int.toNat v22)]! = p1))) rfl decide_eq_true_iff (fun h38 => ?_) (fun h38 => ?_)
      · replace hm := hm.1 h38
        refine w_seq fun K39 hK39 => ?_
        refine w_region ?_
        refine wl_val (g_move (v := .int .i64 v22) rfl) rfl ?_
        refine wl_val (g_assign (v := .int .i64 v22) rfl) rfl ?_
        refine wl_nil ?_
        refine hK39 _ _ ?_
        refine w_ret ?_
        repeat first | with_reducible refine q_then ?_ | with_reducible refine q_block ?_
        exact ret1 rfl (by decide) ⟨_, hm, rfl, toExt hB28⟩
      · replace hm := hm.2 h38
        refine w_skip ?_
        refine hK34 _ _ ?_
        refine w_region ?_
        obtain ⟨hg40, hm⟩ := hm
        refine wl_val (g_add (a := v22) (b := 1) rfl rfl hg40) rfl ?_
        refine wl_val (g_move (v := .int .i64 (v22 + 1)) rfl) rfl ?_
        refine wl_nil ?_
        exact ⟨((v22 + 1)), hm.2, ⟨rfl, rfl, rfl, rfl, trivial⟩, ⟨hm.1, hB28, hS29⟩⟩
    · replace hm := hm.2 h33
      refine w_exit ?_
      exact ⟨(), trivial, ⟨hm, hB28, hS29⟩⟩
  · rintro _ b_ w41 ⟨hm, hB42, hS43⟩
    show Wp _ _ _ _ (upds b_ []) w41
    refine w_seq fun K44 hK44 => ?_
    refine w_region ?_
    refine wl_val (g_assign (v := .int .i64 (-1)) rfl) rfl ?_
    refine wl_nil ?_
    refine hK44 _ _ ?_
    refine w_ret ?_
    repeat first | with_reducible refine q_then ?_ | with_reducible refine q_block ?_
    exact ret1 rfl (by decide) ⟨_, hm, rfl, toExt hB42⟩

theorem m_impl_castings_1_FirstCasting_1_step_fn {rec_ : (List Int) → (List Int) → (List PlayerC) → (List Int) → (List Int) → Bool → (Bool → (List Int) → (List Int) → (List Int) → Bool → Prop) → Prop} (ih : ∀ {w : World} {B_ : Nat} {L_ : List Ob} {gq0 : Nat} {aq0 : Option Addr} {nq0 cq0 : Nat} {q0 : List Int} {gq1 : Nat} {aq1 : Option Addr} {nq1 cq1 : Nat} {q1 : List Int} {gq2 : Nat} {gq3 : Nat} {aq3 : Option Addr} {nq3 cq3 : Nat} {yq3 : List PlayerD} {q3 : List PlayerC} {gq4 : Nat} {aq4 : Option Addr} {nq4 cq4 : Nat} {q4 : List Int} {gq5 : Nat} {gq2_0 : Nat} {aq2_0 : Option Addr} {nq2_0 cq2_0 : Nat} {q2_0 : List Int} {gq2_1 : Nat} {q2_1 : Bool} {Q : Bool → (List Int) → (List Int) → (List Int) → Bool → Prop} (hS0 : Sep w B_ (oB gq0 23 #[.slice aq0 nq0 cq0] :: oS 3 aq0 nq0 cq0 (q0 : List Int) :: oB gq1 23 #[.slice aq1 nq1 cq1] :: oB gq2 67 #[.func (.func 63) #[] #[.pointer (some (⟨gq2_0, 0, none⟩ : Addr)), .pointer (some (⟨gq2_1, 0, none⟩ : Addr))]] :: oB gq3 27 #[.slice aq3 nq3 cq3] :: oB gq4 23 #[.slice aq4 nq4 cq4] :: oS 3 aq4 nq4 cq4 (q4 : List Int) :: oB gq5 86 #[.func (.func 91) #[] #[.pointer (some (⟨gq0, 0, none⟩ : Addr)), .pointer (some (⟨gq1, 0, none⟩ : Addr)), .pointer (some (⟨gq2, 0, none⟩ : Addr)), .pointer (some (⟨gq3, 0, none⟩ : Addr)), .pointer (some (⟨gq4, 0, none⟩ : Addr)), .pointer (some (⟨gq5, 0, none⟩ : Addr))]] :: oB gq2_0 23 #[.slice aq2_0 nq2_0 cq2_0] :: oS 3 aq2_0 nq2_0 cq2_0 (q2_0 : List Int) :: oB gq2_1 4 #[.bool q2_1] :: L_)) (hq1 : Vw B_ w aq1 nq1 cq1 q1) (hq3 : Tv B_ w aq3 nq3 cq3 yq3 q3) (hm : rec_ q0 q1 q3 q4 q2_0 q2_1 Q), Fn Try.prog 91 #[.pointer (some (⟨gq0, 0, none⟩ : Addr)), .pointer (some (⟨gq1, 0, none⟩ : Addr)), .pointer (some (⟨gq2, 0, none⟩ : Addr)), .pointer (some (⟨gq3, 0, none⟩ : Addr)), .pointer (some (⟨gq4, 0, none⟩ : Addr)), .pointer (some (⟨gq5, 0, none⟩ : Addr))] w (fun v w' => ∃ (r0 : Bool) (x0 : List Int) (aa0 : Option Addr) (nn0 cc0 : Nat) (x1 : List Int) (aa1 : Option Addr) (nn1 cc1 : Nat) (x2 : List Int) (aa2 : Option Addr) (nn2 cc2 : Nat) (x3 : Bool), Q r0 x0 x1 x2 x3 ∧ v = .bool r0 ∧ Below B_ w w' ∧ Sep w' B_ (oB gq0 23 #[.slice aa0 nn0 cc0] :: oS 3 aa0 nn0 cc0 x0 :: oB gq1 23 #[.slice aq1 nq1 cq1] :: oB gq2 67 #[.func (.func 63) #[] #[.pointer (some (⟨gq2_0, 0, none⟩ : Addr)), .pointer (some (⟨gq2_1, 0, none⟩ : Addr))]] :: oB gq3 27 #[.slice aq3 nq3 cq3] :: oB gq4 23 #[.slice aa1 nn1 cc1] :: oS 3 aa1 nn1 cc1 x1 :: oB gq5 86 #[.func (.func 91) #[] #[.pointer (some (⟨gq0, 0, none⟩ : Addr)), .pointer (some (⟨gq1, 0, none⟩ : Addr)), .pointer (some (⟨gq2, 0, none⟩ : Addr)), .pointer (some (⟨gq3, 0, none⟩ : Addr)), .pointer (some (⟨gq4, 0, none⟩ : Addr)), .pointer (some (⟨gq5, 0, none⟩ : Addr))]] :: oB gq2_0 23 #[.slice aa2 nn2 cc2] :: oS 3 aa2 nn2 cc2 x2 :: oB gq2_1 4 #[.bool x3] :: L_))) {w : World} {B_ : Nat} {L_ : List Ob} {gq0 : Nat} {aq0 : Option Addr} {nq0 cq0 : Nat} {q0 : List Int} {gq1 : Nat} {aq1 : Option Addr} {nq1 cq1 : Nat} {q1 : List Int} {gq2 : Nat} {gq3 : Nat} {aq3 : Option Addr} {nq3 cq3 : Nat} {yq3 : List PlayerD} {q3 : List PlayerC} {gq4 : Nat} {aq4 : Option Addr} {nq4 cq4 : Nat} {q4 : List Int} {gq5 : Nat} {gq2_0 : Nat} {aq2_0 : Option Addr} {nq2_0 cq2_0 : Nat} {q2_0 : List Int} {gq2_1 : Nat} {q2_1 : Bool} {Q : Bool → (List Int) → (List Int) → (List Int) → Bool → Prop} (hS0 : Sep w B_ (oB gq0 23 #[.slice aq0 nq0 cq0] :: oS 3 aq0 nq0 cq0 (q0 : List Int) :: oB gq1 23 #[.slice aq1 nq1 cq1] :: oB gq2 67 #[.func (.func 63) #[] #[.pointer (some (⟨gq2_0, 0, none⟩ : Addr)), .pointer (some (⟨gq2_1, 0, none⟩ : Addr))]] :: oB gq3 27 #[.slice aq3 nq3 cq3] :: oB gq4 23 #[.slice aq4 nq4 cq4] :: oS 3 aq4 nq4 cq4 (q4 : List Int) :: oB gq5 86 #[.func (.func 91) #[] #[.pointer (some (⟨gq0, 0, none⟩ : Addr)), .pointer (some (⟨gq1, 0, none⟩ : Addr)), .pointer (some (⟨gq2, 0, none⟩ : Addr)), .pointer (some (⟨gq3, 0, none⟩ : Addr)), .pointer (some (⟨gq4, 0, none⟩ : Addr)), .pointer (some (⟨gq5, 0, none⟩ : Addr))]] :: oB gq2_0 23 #[.slice aq2_0 nq2_0 cq2_0] :: oS 3 aq2_0 nq2_0 cq2_0 (q2_0 : List Int) :: oB gq2_1 4 #[.bool q2_1] :: L_)) (hq1 : Vw B_ w aq1 nq1 cq1 q1) (hq3 : Tv B_ w aq3 nq3 cq3 yq3 q3) (hm : m_impl_castings_1_FirstCasting_1_step rec_ q0 q1 q3 q4 q2_0 q2_1 Q) :
    Fn Try.prog 91 #[.pointer (some (⟨gq0, 0, none⟩ : Addr)), .pointer (some (⟨gq1, 0, none⟩ : Addr)), .pointer (some (⟨gq2, 0, none⟩ : Addr)), .pointer (some (⟨gq3, 0, none⟩ : Addr)), .pointer (some (⟨gq4, 0, none⟩ : Addr)), .pointer (some (⟨gq5, 0, none⟩ : Addr))] w (fun v w' => ∃ (r0 : Bool) (x0 : List Int) (aa0 : Option Addr) (nn0 cc0 : Nat) (x1 : List Int) (aa1 : Option Addr) (nn1 cc1 : Nat) (x2 : List Int) (aa2 : Option Addr) (nn2 cc2 : Nat) (x3 : Bool), Q r0 x0 x1 x2 x3 ∧ v = .bool r0 ∧ Below B_ w w' ∧ Sep w' B_ (oB gq0 23 #[.slice aa0 nn0 cc0] :: oS 3 aa0 nn0 cc0 x0 :: oB gq1 23 #[.slice aq1 nq1 cq1] :: oB gq2 67 #[.func (.func 63) #[] #[.pointer (some (⟨gq2_0, 0, none⟩ : Addr)), .pointer (some (⟨gq2_1, 0, none⟩ : Addr))]] :: oB gq3 27 #[.slice aq3 nq3 cq3] :: oB gq4 23 #[.slice aa1 nn1 cc1] :: oS 3 aa1 nn1 cc1 x1 :: oB gq5 86 #[.func (.func 91) #[] #[.pointer (some (⟨gq0, 0, none⟩ : Addr)), .pointer (some (⟨gq1, 0, none⟩ : Addr)), .pointer (some (⟨gq2, 0, none⟩ : Addr)), .pointer (some (⟨gq3, 0, none⟩ : Addr)), .pointer (some (⟨gq4, 0, none⟩ : Addr)), .pointer (some (⟨gq5, 0, none⟩ : Addr))]] :: oB gq2_0 23 #[.slice aa2 nn2 cc2] :: oS 3 aa2 nn2 cc2 x2 :: oB gq2_1 4 #[.bool x3] :: L_)) := by
  unfold m_impl_castings_1_FirstCasting_1_step at hm
  have hB0 := Below.refl B_ w
  refine fn_of_wp Try.func91 rfl (by kernel_rfl) (Nat.le_of_ble_eq_true rfl) ?_
  refine w_seq fun K12 hK12 => ?_
  refine w_region ?_
  refine wl_val (g_assign (v := .bool false) rfl) rfl ?_
  refine wl_nil ?_
  refine hK12 _ _ ?_
  refine w_seq fun K13 hK13 => ?_
  refine w_seq fun K14 hK14 => ?_
  refine w_region ?_
  refine wl_val (q_loadB (i := 0) (bs := #[.slice aq0 nq0 cq0]) hS0.g0 ON23 rfl rfl) rfl ?_
  refine wl_val (q_len SL23 rfl (Vw.len (oS.vw hS0.g1))) rfl ?_
  refine wl_val (q_loadB (i := 0) (bs := #[.slice aq1 nq1 cq1]) hS0.g2 ON23 rfl rfl) rfl ?_
  refine wl_val (q_len SL23 rfl (Vw.len (hq1.bel hB0))) rfl ?_
  refine wl_val (g_eql (a := (q0.length : Int)) (b := (q1.length : Int)) rfl rfl) rfl ?_
  refine wl_nil ?_
  refine hK14 _ _ ?_
  refine w_condI (p := (q0.length : Int) = (q1.length : Int)) (b := (decide ((q0.length : Int) = (q1.length : Int)))) rfl decide_eq_true_iff (fun h15 => ?_) (fun h15 => ?_)
  · replace hm := hm.1 h15
    refine w_seq fun K16 hK16 => ?_
    refine w_draw (X := Ext) (Y := Ext) [0, 0, 2, 1, 0] MIX (by decide +kernel) rfl Ext.refl (fun _ _ _ => Ext.trans) (fun _ _ _ => Chg.trans) (fun _ _ h => Ext.chg h _) (fun w17 hE18 => ?_)
    have hB19 := hB0.trans (Ext.stp hE18 hS0.base)
    have hS20 := hS0.ext hE18
    refine ⟨.func (.func 63) #[] #[.pointer (some (⟨gq2_0, 0, none⟩ : Addr)), .pointer (some (⟨gq2_1, 0, none⟩ : Addr))], fun w21 hX22 => od_plain rfl (by have hS23 := hS20.ext hX22; have hB24 := hB19.trans (Ext.stp hX22 hS20.base); exact is_ext (q_loadB (i := 0) (bs := #[.func (.func 63) #[] #[.pointer (some (⟨gq2_0, 0, none⟩ : Addr)), .pointer (some (⟨gq2_1, 0, none⟩ : Addr))]]) hS23.g3 ON67 rfl rfl)), ?_⟩
    refine ⟨.slice aq0 nq0 cq0, fun w25 hX26 => od_plain rfl (by have hS27 := hS20.ext hX26; have hB28 := hB19.trans (Ext.stp hX26 hS20.base); exact is_ext (q_loadB (i := 0) (bs := #[.slice aq0 nq0 cq0]) hS27.g0 ON23 rfl rfl)), ?_⟩
    intro w29 hX30
    have hB31 := hB19.trans (Ext.stp hX30 hS20.base)
    have hS32 := hS20.ext hX30
    refine ⟨_, od_plain rfl (g_call (vs := #[.slice aq0 nq0 cq0]) CF79 (args1 rfl) (m_impl_copyOf_fn (oS.vw hS32.g1) hm)), ?_⟩
    rintro _ w33 ⟨r36, a37, n38, c39, hm, rfl, hE34, hN35⟩
    have hS41 := hS32.call1 hE34 hN35
    refine ⟨hE34, ?_⟩
    have hB42 := hB31.trans (Ext.stp hE34 hS32.base)
    intro w43 hX44
    have hB45 := hB42.trans (Ext.stp hX44 hS41.base)
    have hS46 := hS41.ext hX44
    have hS47 := hS46.f11
    have hS48 := hS47.f11
    have hS49 := hS48.f11
    have hS50 := hS49.f3
    refine ⟨_, od_plain rfl (g_callvc (f := 63) (va := #[.slice a37 n38 c39]) (cap := #[.pointer (some (⟨gq2_0, 0, none⟩ : Addr)), .pointer (some (⟨gq2_1, 0, none⟩ : Addr))]) (vs := #[.slice a37 n38 c39, .pointer (some (⟨gq2_0, 0, none⟩ : Addr)), .pointer (some (⟨gq2_1, 0, none⟩ : Addr))]) CF63 rfl (args1 rfl) rfl (m_impl_FirstCasting_1_fn hS50 hm)), ?_⟩
    rintro _ w51 ⟨r54, x55, a56, n57, c58, x59, hm, rfl, hb52, hS53⟩
    have hB60 := hB45.trans hb52
    refine ⟨.bool r54, fun w61 hX62 => od_plain rfl (by have hS63 := hS53.ext hX62; have hB64 := hB60.trans (Ext.stp hX62 hS53.base); exact is_ext (g_assign (v := .bool r54) rfl)), ?_⟩
    intro w65 hX66
    have hB67 := hB60.trans (Ext.stp hX66 hS53.base)
    have hS68 := hS53.ext hX66
    refine hK16 _ _ ?_
    refine w_ret ?_
    have hS69 := hS68.f2
    have hS70 := hS69.f2
    have hS71 := hS70.f2
    have hS72 := hS71.f10
    have hS73 := hS72.f10
    have hS74 := hS73.f10
    have hS75 := hS74.f10
    have hS76 := hS75.f10
    have hS77 := hS76.f10
    have hS78 := hS77.f10
    have hS79 := hS78.f10
    repeat first | with_reducible refine q_then ?_ | with_reducible refine q_block ?_
    exact ret1 rfl (by decide) ⟨_, _, _, _, _, _, _, _, _, _, _, _, _, _, hm, rfl, hB67, hS79⟩
  · replace hm := hm.2 h15
    refine w_skip ?_
    refine hK13 _ _ ?_
    refine w_cut (σ := Bool × List Int × Option Addr × Nat × Nat × List Int × Option Addr × Nat × Nat × List Int × Option Addr × Nat × Nat) (fun ⟨v680, x681, a682, n683, c684, x685, a686, n687, c688, x689, a690, n691, c692⟩ => []) (fun ⟨v680, x681, a682, n683, c684, x685, a686, n687, c688, x689, a690, n691, c692⟩ w' => m_impl_castings_1_FirstCasting_1_K0 Q v680 x681 x685 x689 ∧ Below B_ w w' ∧ Sep w' B_ (oB gq2_1 4 #[.bool v680] :: oB gq2_0 23 #[.slice a682 n683 c684] :: oB gq5 86 #[.func (.func 91) #[] #[.pointer (some (⟨gq0, 0, none⟩ : Addr)), .pointer (some (⟨gq1, 0, none⟩ : Addr)), .pointer (some (⟨gq2, 0, none⟩ : Addr)), .pointer (some (⟨gq3, 0, none⟩ : Addr)), .pointer (some (⟨gq4, 0, none⟩ : Addr)), .pointer (some (⟨gq5, 0, none⟩ : Addr))]] :: oB gq4 23 #[.slice a686 n687 c688] :: oB gq3 27 #[.slice aq3 nq3 cq3] :: oB gq2 67 #[.func (.func 63) #[] #[.pointer (some (⟨gq2_0, 0, none⟩ : Addr)), .pointer (some (⟨gq2_1, 0, none⟩ : Addr))]] :: oB gq1 23 #[.slice aq1 nq1 cq1] :: oB gq0 23 #[.slice a690 n691 c692] :: oS 3 a682 n683 c684 (x681 : List Int) :: oS 3 a686 n687 c688 (x685 : List Int) :: oS 3 a690 n691 c692 (x689 : List Int) :: L_)) ?_ ?_
    · refine w_seq fun K694 hK694 => ?_
      refine w_region ?_
      refine wl_val (q_loadB (i := 0) (bs := #[.slice aq3 nq3 cq3]) hS0.g4 ON27 rfl rfl) rfl ?_
      refine wl_val (q_len SL27 rfl (Tv.len (hq3.bel hB0))) rfl ?_
      refine wl_val (g_move (v := .int .i64 0) rfl) rfl ?_
      refine wl_nil ?_
      refine hK694 _ _ ?_
      refine w_block ?_
      have hS709 := hS0.f1
      have hS710 := hS709.f6
      have hS711 := hS710.f9
      have hS712 := hS711.f3
      have hS713 := hS712.f4
      have hS714 := hS713.f5
      have hS715 := hS714.f6
      have hS716 := hS715.f7
      have hS717 := hS716.f8
      have hS718 := hS717.f9
      have hS719 := hS718.f10
      obtain ⟨I720, μ721, h0722, hr723⟩ := hm
      refine w_for (σ := Int × Bool × List Int × Option Addr × Nat × Nat × List Int × Option Addr × Nat × Nat × List Int × Option Addr × Nat × Nat) (fun ⟨v695, v696, x697, a698, n699, c700, x701, a702, n703, c704, x705, a706, n707, c708⟩ => [(0, .pointer (some (⟨gq0, 0, none⟩ : Addr))), (1, .pointer (some (⟨gq1, 0, none⟩ : Addr))), (4, .pointer (some (⟨gq4, 0, none⟩ : Addr))), (5, .pointer (some (⟨gq5, 0, none⟩ : Addr))), (19, .slice aq3 nq3 cq3), (20, .int .i64 (q3.length : Int)), (21, .int .i64 v695)]) (fun ⟨v695, v696, x697, a698, n699, c700, x701, a702, n703, c704, x705, a706, n707, c708⟩ w' => I720 v695 v696 x697 x701 x705 ∧ Below B_ w w' ∧ Sep w' B_ (oB gq2_1 4 #[.bool v696] :: oB gq2_0 23 #[.slice a698 n699 c700] :: oB gq5 86 #[.func (.func 91) #[] #[.pointer (some (⟨gq0, 0, none⟩ : Addr)), .pointer (some (⟨gq1, 0, none⟩ : Addr)), .pointer (some (⟨gq2, 0, none⟩ : Addr)), .pointer (some (⟨gq3, 0, none⟩ : Addr)), .pointer (some (⟨gq4, 0, none⟩ : Addr)), .pointer (some (⟨gq5, 0, none⟩ : Addr))]] :: oB gq4 23 #[.slice a702 n703 c704] :: oB gq3 27 #[.slice aq3 nq3 cq3] :: oB gq2 67 #[.func (.func 63) #[] #[.pointer (some (⟨gq2_0, 0, none⟩ : Addr)), .pointer (some (⟨gq2_1, 0, none⟩ : Addr))]] :: oB gq1 23 #[.slice aq1 nq1 cq1] :: oB gq0 23 #[.slice a706 n707 c708] :: oS 3 a698 n699 c700 (x697 : List Int) :: oS 3 a702 n703 c704 (x701 : List Int) :: oS 3 a706 n707 c708 (x705 : List Int) :: L_)) (fun ⟨v695, v696, x697, a698, n699, c700, x701, a702, n703, c704, x705, a706, n707, c708⟩ => μ721 v695 v696 x697 x701 x705) (0, q2_1, q2_0, aq2_0, nq2_0, cq2_0, q4, aq4, nq4, cq4, q0, aq0, nq0, cq0) ⟨rfl, rfl, rfl, rfl, rfl, rfl, rfl, trivial⟩ ⟨h0722, hB0, hS719⟩ ?_
      rintro ⟨v695, v696, x697, a698, n699, c700, x701, a702, n703, c704, x705, a706, n707, c708⟩ b_ w724 ⟨hi_, hB725, hS726⟩
      show Wp _ _ _ _ (upds b_ [(0, .pointer (some (⟨gq0, 0, none⟩ : Addr))), (1, .pointer (some (⟨gq1, 0, none⟩ : Addr))), (4, .pointer (some (⟨gq4, 0, none⟩ : Addr))), (5, .pointer (some (⟨gq5, 0, none⟩ : Addr))), (19, .slice aq3 nq3 cq3), (20, .int .i64 (q3.length : Int)), (21, .int .i64 v695)]) w724
      have hm := hr723 v695 v696 x697 x701 x705 hi_
      refine w_seq fun K728 hK728 => ?_
      refine w_region ?_
      refine wl_val (g_lss (a := v695) (b := (q3.length : Int)) rfl rfl) rfl ?_
      refine wl_nil ?_
      refine hK728 _ _ ?_
      refine w_seq fun K729 hK729 => ?_
      refine w_condI (p := v695 < (q3.length : Int)) (b := (decide (v695 < (q3.length : Int)))) rfl decide_eq_true_iff (fun h730 => ?_) (fun h730 => ?_)
      · replace hm := hm.1 h730
        refine w_skip ?_
        refine hK729 _ _ ?_
        refine w_seq fun K731 hK731 => ?_
        refine w_block ?_
        refine w_seq fun K732 hK732 => ?_
        refine w_region ?_
        refine wl_val (g_move (v := .int .i64 v695) rfl) rfl ?_
        obtain ⟨hg733, hm⟩ := hm
        refine wl_val (q_index (i := v695) SL27 rfl rfl (Tv.o (hq3.bel hB725)) (Tv.g (hq3.bel hB725) hg733)) rfl ?_
        refine wl_val (q_loadS (i := v695) (cs := [.slice ((yq3[(Int.toNat v695)]!).1.1) ((yq3[(Int.toNat v695)]!).1.2.2.length) ((yq3[(Int.toNat v695)]!).1.2.1), .int .i64 (q3[(Int.toNat v695)]!.2)]) AG54 (Tv.o (hq3.bel hB725)) (Tv.g (hq3.bel hB725) hg733) (by rw [← Tv.free (hq3.bel hB725) hg733]; rfl) rfl) rfl ?_
        refine wl_step rfl (q_alloc (cs := #[.slice none 0 0, .int .i64 0]) ZR54 rfl hS726) ?_
        rintro _ w734 ⟨g735, rfl, hS737, hE736⟩
        have hB739 := hB725.trans (Ext.stp hE736 hS726.base)
        refine wl_val (g_assign (v := .int .i64 v695) rfl) rfl ?_
        refine wl_step rfl (q_storeB (i := 0) (bs' := #[.slice ((yq3[(Int.toNat v695)]!).1.1) ((yq3[(Int.toNat v695)]!).1.2.2.length) ((yq3[(Int.toNat v695)]!).1.2.1), .int .i64 (q3[(Int.toNat v695)]!.2)]) (vs := [.slice ((yq3[(Int.toNat v695)]!).1.1) ((yq3[(Int.toNat v695)]!).1.2.2.length) ((yq3[(Int.toNat v695)]!).1.2.1), .int .i64 (q3[(Int.toNat v695)]!.2)]) hS737 AG54.sz rfl rfl rfl (by simp [Value.oneCell']) (Nat.le_of_ble_eq_true rfl) rfl) ?_
        rintro _ w740 ⟨rfl, hS741, hb742⟩
        have hB743 := hB739.trans hb742
        refine wl_nil ?_
        refine hK732 _ _ ?_
        refine w_seq fun K744 hK744 => ?_
        refine w_seq fun K745 hK745 => ?_
        refine w_draw (X := Ext) (Y := Ext) [] MIX (by decide +kernel) rfl Ext.refl (fun _ _ _ => Ext.trans) (fun _ _ _ => Chg.trans) (fun _ _ h => Ext.chg h _) (fun w746 hE747 => ?_)
        have hB748 := hB743.trans (Ext.stp hE747 hS741.base)
        have hS749 := hS741.ext hE747
        refine ⟨.slice a702 n703 c704, fun w750 hX751 => od_plain rfl (by have hS752 := hS749.ext hX751; have hB753 := hB748.trans (Ext.stp hX751 hS749.base); exact is_ext (q_loadB (i := 0) (bs := #[.slice a702 n703 c704]) hS752.g4 ON23 rfl rfl)), ?_⟩
        refine ⟨.int .i64 v695, fun w754 hX755 => od_plain rfl (by have hS756 := hS749.ext hX755; have hB757 := hB748.trans (Ext.stp hX755 hS749.base); exact is_ext (g_move (v := .int .i64 v695) rfl)), ?_⟩
        obtain ⟨hg762, hm⟩ := hm
        refine ⟨.pointer (some ((adr a702).add ((Int.toNat v695) * El.m Int))), fun w758 hX759 => od_plain rfl (by have hS760 := hS749.ext hX759; have hB761 := hB748.trans (Ext.stp hX759 hS749.base); exact is_ext (q_index (i := v695) SL23 rfl rfl (oS.vw hS760.g10) hg762)), ?_⟩
        refine ⟨.int .i64 (x701[(Int.toNat v695)]!), fun w763 hX764 => od_plain rfl (by have hS765 := hS749.ext hX764; have hB766 := hB748.trans (Ext.stp hX764 hS749.base); exact is_ext (q_load (i := v695) (v := .int .i64 (x701[(Int.toNat v695)]!)) ON3 (oS.vw hS765.g10) hg762 rfl rfl)), ?_⟩
        refine ⟨.bool (decide (x701[(Int.toNat v695)]! = 0)), fun w767 hX768 => od_plain rfl (by have hS769 := hS749.ext hX768; have hB770 := hB748.trans (Ext.stp hX768 hS749.base); exact is_ext (g_eql (a := x701[(Int.toNat v695)]!) (b := 0) rfl rfl)), ?_⟩
        refine ⟨.bool (decide (x701[(Int.toNat v695)]! = 0)), fun w771 hX772 => od_plain rfl (by have hS773 := hS749.ext hX772; have hB774 := hB748.trans (Ext.stp hX772 hS749.base); exact is_ext (g_move (v := .bool (decide (x701[(Int.toNat v695)]! = 0))) rfl)), ?_⟩
        refine ⟨if (decide (x701[(Int.toNat v695)]! = 0)) = false then .pointer (some (((⟨g735, 0, none⟩ : Addr)).add 0)) else undef, fun w775 hX776 => od_guard (c := (decide (x701[(Int.toNat v695)]! = 0)) = false) (val := .pointer (some (((⟨g735, 0, none⟩ : Addr)).add 0))) (b := ((decide (x701[(Int.toNat v695)]! = 0)) == false)) (gv_some rfl rfl rfl) beq_iff_eq (fun hc779 => ?_), ?_⟩
        · have hS777 := hS749.ext hX776
          have hB778 := hB748.trans (Ext.stp hX776 hS749.base)
          have hcq3 : ¬ (x701[(Int.toNat v695)]! = 0) := (i_neg decide_eq_true_iff hc779)
          exact is_ext (g_fieldAddr (q := (⟨g735, 0, none⟩ : Addr)) FL54_0 ON23 rfl)
        refine ⟨if (decide (x701[(Int.toNat v695)]! = 0)) = false then .slice ((yq3[(Int.toNat v695)]!).1.1) ((yq3[(Int.toNat v695)]!).1.2.2.length) ((yq3[(Int.toNat v695)]!).1.2.1) else undef, fun w780 hX781 => od_guard (c := (decide (x701[(Int.toNat v695)]! = 0)) = false) (val := .slice ((yq3[(Int.toNat v695)]!).1.1) ((yq3[(Int.toNat v695)]!).1.2.2.length) ((yq3[(Int.toNat v695)]!).1.2.1)) (b := ((decide (x701[(Int.toNat v695)]! = 0)) == false)) (gv_some rfl rfl rfl) beq_iff_eq (fun hc784 => ?_), ?_⟩
        · have hS782 := hS749.ext hX781
          have hB783 := hB748.trans (Ext.stp hX781 hS749.base)
          have hcq3 : ¬ (x701[(Int.toNat v695)]! = 0) := (i_neg decide_eq_true_iff hc784)
          exact is_ext (q_loadB (i := 0) (bs := #[.slice ((yq3[(Int.toNat v695)]!).1.1) ((yq3[(Int.toNat v695)]!).1.2.2.length) ((yq3[(Int.toNat v695)]!).1.2.1), .int .i64 (q3[(Int.toNat v695)]!.2)]) hS782.g0 ON23 (if_pos hc784) rfl)
        refine ⟨if (decide (x701[(Int.toNat v695)]! = 0)) = false then .slice aq1 nq1 cq1 else undef, fun w785 hX786 => od_guard (c := (decide (x701[(Int.toNat v695)]! = 0)) = false) (val := .slice aq1 nq1 cq1) (b := ((decide (x701[(Int.toNat v695)]! = 0)) == false)) (gv_some rfl rfl rfl) beq_iff_eq (fun hc789 => ?_), ?_⟩
        · have hS787 := hS749.ext hX786
          have hB788 := hB748.trans (Ext.stp hX786 hS749.base)
          have hcq3 : ¬ (x701[(Int.toNat v695)]! = 0) := (i_neg decide_eq_true_iff hc789)
          exact is_ext (q_loadB (i := 0) (bs := #[.slice aq1 nq1 cq1]) hS787.g7 ON23 rfl rfl)
        refine ⟨if (decide (x701[(Int.toNat v695)]! = 0)) = false then .slice a706 n707 c708 else undef, fun w790 hX791 => od_guard (c := (decide (x701[(Int.toNat v695)]! = 0)) = false) (val := .slice a706 n707 c708) (b := ((decide (x701[(Int.toNat v695)]! = 0)) == false)) (gv_some rfl rfl rfl) beq_iff_eq (fun hc794 => ?_), ?_⟩
        · have hS792 := hS749.ext hX791
          have hB793 := hB748.trans (Ext.stp hX791 hS749.base)
          have hcq3 : ¬ (x701[(Int.toNat v695)]! = 0) := (i_neg decide_eq_true_iff hc794)
          exact is_ext (q_loadB (i := 0) (bs := #[.slice a706 n707 c708]) hS792.g8 ON23 rfl rfl)
        refine ⟨if (decide (x701[(Int.toNat v695)]! = 0)) = false then .int .i64 (x705.length : Int) else undef, fun w795 hX796 => od_guard (c := (decide (x701[(Int.toNat v695)]! = 0)) = false) (val := .int .i64 (x705.length : Int)) (b := ((decide (x701[(Int.toNat v695)]! = 0)) == false)) (gv_some rfl rfl rfl) beq_iff_eq (fun hc799 => ?_), ?_⟩
        · have hS797 := hS749.ext hX796
          have hB798 := hB748.trans (Ext.stp hX796 hS749.base)
          have hcq3 : ¬ (x701[(Int.toNat v695)]! = 0) := (i_neg decide_eq_true_iff hc799)
          exact is_ext (q_len SL23 (if_pos hc799) (Vw.len (oS.vw hS797.g11)))
        obtain ⟨hg805, hm⟩ := hm
        refine ⟨if (decide (x701[(Int.toNat v695)]! = 0)) = false then .pointer (some ((adr aq1).add ((Int.toNat (x705.length : Int)) * El.m Int))) else undef, fun w800 hX801 => od_guard (c := (decide (x701[(Int.toNat v695)]! = 0)) = false) (val := .pointer (some ((adr aq1).add ((Int.toNat (x705.length : Int)) * El.m Int)))) (b := ((decide (x701[(Int.toNat v695)]! = 0)) == false)) (gv_some rfl rfl rfl) beq_iff_eq (fun hc804 => ?_), ?_⟩
        · have hS802 := hS749.ext hX801
          have hB803 := hB748.trans (Ext.stp hX801 hS749.base)
          have hcq3 : ¬ (x701[(Int.toNat v695)]! = 0) := (i_neg decide_eq_true_iff hc804)
          exact is_ext (q_index (i := (x705.length : Int)) SL23 (if_pos hc804) (if_pos hc804) (hq1.bel hB803) (hg805 hcq3))
        refine ⟨if (decide (x701[(Int.toNat v695)]! = 0)) = false then .int .i64 (q1[(Int.toNat (x705.length : Int))]!) else undef, fun w806 hX807 => od_guard (c := (decide (x701[(Int.toNat v695)]! = 0)) = false) (val := .int .i64 (q1[(Int.toNat (x705.length : Int))]!)) (b := ((decide (x701[(Int.toNat v695)]! = 0)) == false)) (gv_some rfl rfl rfl) beq_iff_eq (fun hc810 => ?_), ?_⟩
        · have hS808 := hS749.ext hX807
          have hB809 := hB748.trans (Ext.stp hX807 hS749.base)
          have hcq3 : ¬ (x701[(Int.toNat v695)]! = 0) := (i_neg decide_eq_true_iff hc810)
          exact is_ext (q_load (i := (x705.length : Int)) (v := .int .i64 (q1[(Int.toNat (x705.length : Int))]!)) ON3 (hq1.bel hB809) (hg805 hcq3) rfl (if_pos hc810))
        obtain ⟨r816, hk817, hm⟩ := hm
        refine ⟨if (decide (x701[(Int.toNat v695)]! = 0)) = false then .int .i64 r816 else undef, fun w811 hX812 => od_guard (c := (decide (x701[(Int.toNat v695)]! = 0)) = false) (val := .int .i64 r816) (b := ((decide (x701[(Int.toNat v695)]! = 0)) == false)) (gv_some rfl rfl rfl) beq_iff_eq (fun hc815 => ?_), ?_⟩
        · have hS813 := hS749.ext hX812
          have hB814 := hB748.trans (Ext.stp hX812 hS749.base)
          have hcq3 : ¬ (x701[(Int.toNat v695)]! = 0) := (i_neg decide_eq_true_iff hc815)
          exact (g_call (vs := #[.slice ((yq3[(Int.toNat v695)]!).1.1) ((yq3[(Int.toNat v695)]!).1.2.2.length) ((yq3[(Int.toNat v695)]!).1.2.1), .int .i64 (q1[(Int.toNat (x705.length : Int))]!)]) CF84 (args2 (if_pos hc815) (if_pos hc815)) ((m_impl_indexOf_fn ((Tv.rowP (hq3.bel hB814) hg733).up hS813) (q1[(Int.toNat (x705.length : Int))]!) (hk817 hcq3)).mono fun _ _ ⟨_, h1, h2, h3⟩ => ⟨by rw [h2, h1], h3⟩))
        refine ⟨if (decide (x701[(Int.toNat v695)]! = 0)) = false then .bool (decide (r816 < 0)) else undef, fun w818 hX819 => od_guard (c := (decide (x701[(Int.toNat v695)]! = 0)) = false) (val := .bool (decide (r816 < 0))) (b := ((decide (x701[(Int.toNat v695)]! = 0)) == false)) (gv_some rfl rfl rfl) beq_iff_eq (fun hc822 => ?_), ?_⟩
        · have hS820 := hS749.ext hX819
          have hB821 := hB748.trans (Ext.stp hX819 hS749.base)
          have hcq3 : ¬ (x701[(Int.toNat v695)]! = 0) := (i_neg decide_eq_true_iff hc822)
          exact is_ext (g_lss (a := r816) (b := 0) (if_pos hc822) rfl)
        refine ⟨.bool ((decide (x701[(Int.toNat v695)]! = 0)) || (decide (r816 < 0))), fun w823 hX824 => od_plain rfl (by have hS825 := hS749.ext hX824; have hB826 := hB748.trans (Ext.stp hX824 hS749.base); exact is_ext (g_pick_or (b := (decide (x701[(Int.toNat v695)]! = 0))) (q := (decide (r816 < 0))) rfl rfl)), ?_⟩
        intro w827 hX828
        have hB829 := hB748.trans (Ext.stp hX828 hS749.base)
        have hS830 := hS749.ext hX828
        refine hK745 _ _ ?_
        refine w_condI (p := ((x701[(Int.toNat v695)]! = 0) ∨ (r816 < 0))) (b := ((decide (x701[(Int.toNat v695)]! = 0)) || (decide (r816 < 0)))) rfl (i_or decide_eq_true_iff decide_eq_true_iff) (fun h831 => ?_) (fun h831 => ?_)
        · replace hm := hm.1 h831
          refine w_exit ?_
          refine hK731 _ _ ?_
          refine w_region ?_
          obtain ⟨hg832, hm⟩ := hm
          refine wl_val (g_add (a := v695) (b := 1) rfl rfl hg832) rfl ?_
          refine wl_val (g_move (v := .int .i64 (v695 + 1)) rfl) rfl ?_
          refine wl_nil ?_
          have hS833 := hS830.tail
          exact ⟨((v695 + 1), v696, x697, a698, n699, c700, x701, a702, n703, c704, x705, a706, n707, c708), hm.2, ⟨rfl, rfl, rfl, rfl, rfl, rfl, rfl, trivial⟩, ⟨hm.1, hB829, hS833⟩⟩
        · replace hm := hm.2 h831
          refine w_skip ?_
          refine hK744 _ _ ?_
          refine w_seq fun K834 hK834 => ?_
          refine w_region ?_
          refine wl_val (q_loadB (i := 0) (bs := #[.slice a702 n703 c704]) hS830.g4 ON23 rfl rfl) rfl ?_
          refine wl_val (g_move (v := .int .i64 v695) rfl) rfl ?_
          obtain ⟨hg835, hm⟩ := hm
          refine wl_val (q_index (i := v695) SL23 rfl rfl (oS.vw hS830.g10) hg835) rfl ?_
          refine wl_val (q_load (i := v695) (v := .int .i64 (x701[(Int.toNat v695)]!)) ON3 (oS.vw hS830.g10) hg835 rfl rfl) rfl ?_
          obtain ⟨hg836, hm⟩ := hm
          refine wl_val (g_sub (a := x701[(Int.toNat v695)]!) (b := 1) rfl rfl hg836) rfl ?_
          obtain ⟨hg837, hm⟩ := hm
          refine wl_val (q_index (i := v695) SL23 rfl rfl (oS.vw hS830.g10) hg837) rfl ?_
          have hS841 := hS830.f10
          refine wl_step rfl (q_store (i := v695) (v := ((x701[(Int.toNat v695)]! - 1) : Int)) hS841 ON3.sz hg837 rfl rfl rfl) ?_
          rintro _ w838 ⟨rfl, hS839, hb840⟩
          have hB842 := hB829.trans hb840
          refine wl_nil ?_
          refine hK834 _ _ ?_
          refine w_seq fun K843 hK843 => ?_
          refine w_region ?_
          refine wl_val (q_loadB (i := 0) (bs := #[.slice a706 n707 c708]) hS839.g9 ON23 rfl rfl) rfl ?_
          refine wl_val (g_move (v := .int .i64 v695) rfl) rfl ?_
          refine wl_step rfl (q_lit1 (y := (v695 : Int)) SL23 rfl rfl (by decide) hS839) ?_
          rintro _ w844 ⟨a845, rfl, hS847, hE846⟩
          have hB849 := hB842.trans (Ext.stp hE846 hS839.base)
          have hS855 := hS847.f12
          obtain ⟨hg856, hm⟩ := hm
          refine wl_step rfl (q_append SL23 rfl rfl hS855 (oS.vw hS855.g1) hg856 (by decide)) ?_
          rintro _ w850 ⟨a851, c852, rfl, hS854, hb853⟩
          have hB857 := hB849.trans hb853
          have hS861 := hS854.f11
          refine wl_step rfl (q_storeB (i := 0) (bs' := #[.slice a851 (n707 + 1) c852]) (vs := [.slice a851 (n707 + 1) c852]) hS861 ON23.sz rfl rfl rfl (by simp [Value.oneCell']) (Nat.le_of_ble_eq_true rfl) rfl) ?_
          rintro _ w858 ⟨rfl, hS859, hb860⟩
          have hB862 := hB857.trans hb860
          refine wl_nil ?_
          refine hK843 _ _ ?_
          refine w_seq fun K863 hK863 => ?_
          refine w_region ?_
          refine wl_val (q_loadB (i := 0) (bs := #[.func (.func 91) #[] #[.pointer (some (⟨gq0, 0, none⟩ : Addr)), .pointer (some (⟨gq1, 0, none⟩ : Addr)), .pointer (some (⟨gq2, 0, none⟩ : Addr)), .pointer (some (⟨gq3, 0, none⟩ : Addr)), .pointer (some (⟨gq4, 0, none⟩ : Addr)), .pointer (some (⟨gq5, 0, none⟩ : Addr))]]) hS859.g7 ON86 rfl rfl) rfl ?_
          have hS864 := hS859.f5
          have hS865 := hS864.f12
          have hS866 := hS865.f7
          have hS867 := hS866.f8
          have hS868 := hS867.f7
          have hS869 := hS868.f9
          have hS870 := hS869.f10
          have hS871 := hS870.f11
          have hS872 := hS871.f12
          have hS873 := hS872.f10
          have hS874 := hS873.f10
          refine wl_step rfl (g_callvc (f := 91) (va := #[]) (cap := #[.pointer (some (⟨gq0, 0, none⟩ : Addr)), .pointer (some (⟨gq1, 0, none⟩ : Addr)), .pointer (some (⟨gq2, 0, none⟩ : Addr)), .pointer (some (⟨gq3, 0, none⟩ : Addr)), .pointer (some (⟨gq4, 0, none⟩ : Addr)), .pointer (some (⟨gq5, 0, none⟩ : Addr))]) (vs := #[.pointer (some (⟨gq0, 0, none⟩ : Addr)), .pointer (some (⟨gq1, 0, none⟩ : Addr)), .pointer (some (⟨gq2, 0, none⟩ : Addr)), .pointer (some (⟨gq3, 0, none⟩ : Addr)), .pointer (some (⟨gq4, 0, none⟩ : Addr)), .pointer (some (⟨gq5, 0, none⟩ : Addr))]) CF91 rfl args0 rfl (ih hS874 (hq1.bel hB862) (hq3.bel hB862) hm)) ?_
          rintro _ w875 ⟨r878, x879, a880, n881, c882, x883, a884, n885, c886, x887, a888, n889, c890, x891, hm, rfl, hb876, hS877⟩
          have hB892 := hB862.trans hb876
          refine wl_val (g_assign (v := .bool r878) rfl) rfl ?_
          refine wl_nil ?_
          refine hK863 _ _ ?_
          refine w_seq fun K893 hK893 => ?_
          refine w_region ?_
          refine wl_val (q_loadB (i := 0) (bs := #[.slice a880 n881 c882]) hS877.g0 ON23 rfl rfl) rfl ?_
          refine wl_val (q_loadB (i := 0) (bs := #[.slice a880 n881 c882]) hS877.g0 ON23 rfl rfl) rfl ?_
          refine wl_val (q_len SL23 rfl (Vw.len (oS.vw hS877.g1))) rfl ?_
          obtain ⟨hg894, hm⟩ := hm
          refine wl_val (g_sub (a := (x879.length : Int)) (b := 1) rfl rfl hg894) rfl ?_
          obtain ⟨hg895, hm⟩ := hm
          refine wl_val (q_sliceH (h := ((x879.length : Int) - 1)) SL23 rfl rfl (oS.vw hS877.g1) hg895) rfl ?_
          have hS899 := hS877.f1
          have hS900 := hS899.cut (Int.toNat ((x879.length : Int) - 1)) (tn_le hg895)
          have hS901 := hS900.f1
          refine wl_step rfl (q_storeB (i := 0) (bs' := #[.slice a880 (Int.toNat ((x879.length : Int) - 1)) c882]) (vs := [.slice a880 (Int.toNat ((x879.length : Int) - 1)) c882]) hS901 ON23.sz rfl rfl rfl (by simp [Value.oneCell']) (Nat.le_of_ble_eq_true rfl) rfl) ?_
          rintro _ w896 ⟨rfl, hS897, hb898⟩
          have hB902 := hB892.trans hb898
          refine wl_nil ?_
          refine hK893 _ _ ?_
          refine w_seq fun K903 hK903 => ?_
          refine w_region ?_
          refine wl_val (q_loadB (i := 0) (bs := #[.slice a884 n885 c886]) hS897.g5 ON23 rfl rfl) rfl ?_
          refine wl_val (g_move (v := .int .i64 v695) rfl) rfl ?_
          obtain ⟨hg904, hm⟩ := hm
          refine wl_val (q_index (i := v695) SL23 rfl rfl (oS.vw hS897.g6) hg904) rfl ?_
          refine wl_val (q_load (i := v695) (v := .int .i64 (x883[(Int.toNat v695)]!)) ON3 (oS.vw hS897.g6) hg904 rfl rfl) rfl ?_
          obtain ⟨hg905, hm⟩ := hm
          refine wl_val (g_add (a := x883[(Int.toNat v695)]!) (b := 1) rfl rfl hg905) rfl ?_
          obtain ⟨hg906, hm⟩ := hm
          refine wl_val (q_index (i := v695) SL23 rfl rfl (oS.vw hS897.g6) hg906) rfl ?_
          have hS910 := hS897.f6
          refine wl_step rfl (q_store (i := v695) (v := ((x883[(Int.toNat v695)]! + 1) : Int)) hS910 ON3.sz hg906 rfl rfl rfl) ?_
          rintro _ w907 ⟨rfl, hS908, hb909⟩
          have hB911 := hB902.trans hb909
          refine wl_nil ?_
          refine hK903 _ _ ?_
          refine w_seq fun K912 hK912 => ?_
          refine w_region ?_
          refine wl_val (g_move (v := .bool r878) rfl) rfl ?_
          refine wl_val (g_not (a := r878) rfl) rfl ?_
          refine wl_nil ?_
          refine hK912 _ _ ?_
          refine w_condI (p := ¬ (r878 = true)) (b := (!r878)) rfl (i_not Iff.rfl) (fun h913 => ?_) (fun h913 => ?_)
          · replace hm := hm.1 h913
            refine w_seq fun K914 hK914 => ?_
            refine w_region ?_
            refine wl_val (g_assign (v := .bool false) rfl) rfl ?_
            refine wl_nil ?_
            refine hK914 _ _ ?_
            refine w_ret ?_
            have hS915 := hS908.f11
            have hS916 := hS915.tail
            have hS917 := hS916.f11
            have hS918 := hS917.tail
            have hS919 := hS918.f10
            have hS920 := hS919.f10
            have hS921 := hS920.f10
            have hS922 := hS921.f10
            have hS923 := hS922.f4
            have hS924 := hS923.f10
            have hS925 := hS924.f10
            have hS926 := hS925.f10
            have hS927 := hS926.f10
            have hS928 := hS927.f10
            have hS929 := hS928.f10
            repeat first | with_reducible refine q_then ?_ | with_reducible refine q_block ?_
            exact ret1 rfl (by decide) ⟨_, _, _, _, _, _, _, _, _, _, _, _, _, _, hm, rfl, hB911, hS929⟩
          · replace hm := hm.2 h913
            refine w_skip ?_
            refine hK731 _ _ ?_
            refine w_region ?_
            obtain ⟨hg930, hm⟩ := hm
            refine wl_val (g_add (a := v695) (b := 1) rfl rfl hg930) rfl ?_
            refine wl_val (g_move (v := .int .i64 (v695 + 1)) rfl) rfl ?_
            refine wl_nil ?_
            have hS931 := hS908.f11
            have hS932 := hS931.tail
            have hS933 := hS932.f11
            have hS934 := hS933.tail
            have hS935 := hS934.f2
            have hS936 := hS935.f1
            have hS937 := hS936.f9
            have hS938 := hS937.f3
            have hS939 := hS938.f4
            have hS940 := hS939.f5
            have hS941 := hS940.f6
            have hS942 := hS941.f7
            have hS943 := hS942.f8
            have hS944 := hS943.f9
            have hS945 := hS944.f10
            exact ⟨((v695 + 1), x891, x887, a888, n889, c890, (x883.set (Int.toNat v695) (x883[(Int.toNat v695)]! + 1)), a884, n885, c886, (x879.take (Int.toNat ((x879.length : Int) - 1))), a880, (Int.toNat ((x879.length : Int) - 1)), c882), hm.2, ⟨rfl, rfl, rfl, rfl, rfl, rfl, rfl, trivial⟩, ⟨hm.1, hB911, hS945⟩⟩
      · replace hm := hm.2 h730
        refine w_exit ?_
        exact ⟨(v696, x697, a698, n699, c700, x701, a702, n703, c704, x705, a706, n707, c708), trivial, ⟨hm, hB725, hS726⟩⟩
    · rintro ⟨v680, x681, a682, n683, c684, x685, a686, n687, c688, x689, a690, n691, c692⟩ b_ w946 ⟨hm, hB947, hS948⟩
      show Wp _ _ _ _ (upds b_ []) w946
      refine w_seq fun K949 hK949 => ?_
      refine w_region ?_
      refine wl_val (g_assign (v := .bool true) rfl) rfl ?_
      refine wl_nil ?_
      refine hK949 _ _ ?_
      refine w_ret ?_
      have hS950 := hS948.f8
      have hS951 := hS950.f2
      have hS952 := hS951.f3
      have hS953 := hS952.f9
      have hS954 := hS953.f5
      have hS955 := hS954.f6
      have hS956 := hS955.f7
      have hS957 := hS956.f8
      have hS958 := hS957.f10
      have hS959 := hS958.f10
      repeat first | with_reducible refine q_then ?_ | with_reducible refine q_block ?_
      exact ret1 rfl (by decide) ⟨_, _, _, _, _, _, _, _, _, _, _, _, _, _, hm, rfl, hB947, hS959⟩
theorem m_impl_castings_1_FirstCasting_1_fn : ∀ (f_ : Nat) {w : World} {B_ : Nat} {L_ : List Ob} {gq0 : Nat} {aq0 : Option Addr} {nq0 cq0 : Nat} {q0 : List Int} {gq1 : Nat} {aq1 : Option Addr} {nq1 cq1 : Nat} {q1 : List Int} {gq2 : Nat} {gq3 : Nat} {aq3 : Option Addr} {nq3 cq3 : Nat} {yq3 : List PlayerD} {q3 : List PlayerC} {gq4 : Nat} {aq4 : Option Addr} {nq4 cq4 : Nat} {q4 : List Int} {gq5 : Nat} {gq2_0 : Nat} {aq2_0 : Option Addr} {nq2_0 cq2_0 : Nat} {q2_0 : List Int} {gq2_1 : Nat} {q2_1 : Bool} {Q : Bool → (List Int) → (List Int) → (List Int) → Bool → Prop} (hS0 : Sep w B_ (oB gq0 23 #[.slice aq0 nq0 cq0] :: oS 3 aq0 nq0 cq0 (q0 : List Int) :: oB gq1 23 #[.slice aq1 nq1 cq1] :: oB gq2 67 #[.func (.func 63) #[] #[.pointer (some (⟨gq2_0, 0, none⟩ : Addr)), .pointer (some (⟨gq2_1, 0, none⟩ : Addr))]] :: oB gq3 27 #[.slice aq3 nq3 cq3] :: oB gq4 23 #[.slice aq4 nq4 cq4] :: oS 3 aq4 nq4 cq4 (q4 : List Int) :: oB gq5 86 #[.func (.func 91) #[] #[.pointer (some (⟨gq0, 0, none⟩ : Addr)), .pointer (some (⟨gq1, 0, none⟩ : Addr)), .pointer (some (⟨gq2, 0, none⟩ : Addr)), .pointer (some (⟨gq3, 0, none⟩ : Addr)), .pointer (some (⟨gq4, 0, none⟩ : Addr)), .pointer (some (⟨gq5, 0, none⟩ : Addr))]] :: oB gq2_0 23 #[.slice aq2_0 nq2_0 cq2_0] :: oS 3 aq2_0 nq2_0 cq2_0 (q2_0 : List Int) :: oB gq2_1 4 #[.bool q2_1] :: L_)) (hq1 : Vw B_ w aq1 nq1 cq1 q1) (hq3 : Tv B_ w aq3 nq3 cq3 yq3 q3) (hm : m_impl_castings_1_FirstCasting_1 f_ q0 q1 q3 q4 q2_0 q2_1 Q), Fn Try.prog 91 #[.pointer (some (⟨gq0, 0, none⟩ : Addr)), .pointer (some (⟨gq1, 0, none⟩ : Addr)), .pointer (some (⟨gq2, 0, none⟩ : Addr)), .pointer (some (⟨gq3, 0, none⟩ : Addr)), .pointer (some (⟨gq4, 0, none⟩ : Addr)), .pointer (some (⟨gq5, 0, none⟩ : Addr))] w (fun v w' => ∃ (r0 : Bool) (x0 : List Int) (aa0 : Option Addr) (nn0 cc0 : Nat) (x1 : List Int) (aa1 : Option Addr) (nn1 cc1 : Nat) (x2 : List Int) (aa2 : Option Addr) (nn2 cc2 : Nat) (x3 : Bool), Q r0 x0 x1 x2 x3 ∧ v = .bool r0 ∧ Below B_ w w' ∧ Sep w' B_ (oB gq0 23 #[.slice aa0 nn0 cc0] :: oS 3 aa0 nn0 cc0 x0 :: oB gq1 23 #[.slice aq1 nq1 cq1] :: oB gq2 67 #[.func (.func 63) #[] #[.pointer (some (⟨gq2_0, 0, none⟩ : Addr)), .pointer (some (⟨gq2_1, 0, none⟩ : Addr))]] :: oB gq3 27 #[.slice aq3 nq3 cq3] :: oB gq4 23 #[.slice aa1 nn1 cc1] :: oS 3 aa1 nn1 cc1 x1 :: oB gq5 86 #[.func (.func 91) #[] #[.pointer (some (⟨gq0, 0, none⟩ : Addr)), .pointer (some (⟨gq1, 0, none⟩ : Addr)), .pointer (some (⟨gq2, 0, none⟩ : Addr)), .pointer (some (⟨gq3, 0, none⟩ : Addr)), .pointer (some (⟨gq4, 0, none⟩ : Addr)), .pointer (some (⟨gq5, 0, none⟩ : Addr))]] :: oB gq2_0 23 #[.slice aa2 nn2 cc2] :: oS 3 aa2 nn2 cc2 x2 :: oB gq2_1 4 #[.bool x3] :: L_)) := by
  intro f_
  induction f_ with
  | zero =>
    intro w B_ L_ gq0 aq0 nq0 cq0 q0 gq1 aq1 nq1 cq1 q1 gq2 gq3 aq3 nq3 cq3 yq3 q3 gq4 aq4 nq4 cq4 q4 gq5 gq2_0 aq2_0 nq2_0 cq2_0 q2_0 gq2_1 q2_1 Q hS0 hq1 hq3 hm
    exact False.elim hm
  | succ f_ ih =>
    intro w B_ L_ gq0 aq0 nq0 cq0 q0 gq1 aq1 nq1 cq1 q1 gq2 gq3 aq3 nq3 cq3 yq3 q3 gq4 aq4 nq4 cq4 q4 gq5 gq2_0 aq2_0 nq2_0 cq2_0 q2_0 gq2_1 q2_1 Q hS0 hq1 hq3 hm
    exact m_impl_castings_1_FirstCasting_1_step_fn @ih hS0 hq1 hq3 hm

theorem m_impl_castings_FirstCasting_1_fn {w : World} {B_ : Nat} {L_ : List Ob} {a0 : Option Addr} {n0 c0 : Nat} {y0 : List PlayerD} {p0 : List PlayerC} {a1 : Option Addr} {n1 c1 : Nat} {p1 : List Int} {gp2_0 : Nat} {ap2_0 : Option Addr} {np2_0 cp2_0 : Nat} {p2_0 : List Int} {gp2_1 : Nat} {p2_1 : Bool} {Q : (List Int) → Bool → Prop} (hS0 : Sep w B_ (oB gp2_0 23 #[.slice ap2_0 np2_0 cp2_0] :: oS 3 ap2_0 np2_0 cp2_0 (p2_0 : List Int) :: oB gp2_1 4 #[.bool p2_1] :: L_)) (hp0 : Tv B_ w a0 n0 c0 y0 p0) (hp1 : Vw B_ w a1 n1 c1 p1) (hm : m_impl_castings_FirstCasting_1 p0 p1 p2_0 p2_1 Q) :
    Fn Try.prog 62 #[.slice a0 n0 c0, .slice a1 n1 c1, .func (.func 63) #[] #[.pointer (some (⟨gp2_0, 0, none⟩ : Addr)), .pointer (some (⟨gp2_1, 0, none⟩ : Addr))]] w (fun v w' => ∃ (x0 : List Int) (aa0 : Option Addr) (nn0 cc0 : Nat) (x1 : Bool), Q x0 x1 ∧ v = .tuple #[] ∧ Below B_ w w' ∧ Sep w' B_ (oB gp2_0 23 #[.slice aa0 nn0 cc0] :: oS 3 aa0 nn0 cc0 x0 :: oB gp2_1 4 #[.bool x1] :: L_)) := by
  unfold m_impl_castings_FirstCasting_1 at hm
  have hB0 := Below.refl B_ w
  refine fn_of_wp Try.func62 rfl (by kernel_rfl) (Nat.le_of_ble_eq_true rfl) ?_
  refine w_seq fun K4 hK4 => ?_
  refine w_region ?_
  refine wl_step rfl (q_box (cs := #[.slice a0 n0 c0]) rfl rfl hS0) ?_
  rintro _ w5 ⟨g6, rfl, hS8, hE7⟩
  have hB10 := hB0.trans (Ext.stp hE7 hS0.base)
  refine wl_step rfl (q_box (cs := #[.slice a1 n1 c1]) rfl rfl hS8) ?_
  rintro _ w11 ⟨g12, rfl, hS14, hE13⟩
  have hB16 := hB10.trans (Ext.stp hE13 hS8.base)
  refine wl_step rfl (q_box (cs := #[.func (.func 63) #[] #[.pointer (some (⟨gp2_0, 0, none⟩ : Addr)), .pointer (some (⟨gp2_1, 0, none⟩ : Addr))]]) rfl rfl hS14) ?_
  rintro _ w17 ⟨g18, rfl, hS20, hE19⟩
  have hB22 := hB16.trans (Ext.stp hE19 hS14.base)
  refine wl_nil ?_
  refine hK4 _ _ ?_
  refine w_seq fun K23 hK23 => ?_
  refine w_region ?_
  refine wl_step rfl (q_lit0 (α := Int) rfl SL23 hS20) ?_
  rintro _ w24 ⟨a25, rfl, hS27, hE26⟩
  have hB29 := hB22.trans (Ext.stp hE26 hS20.base)
  refine wl_step rfl (q_lit0 (α := Int) rfl SL23 hS27) ?_
  rintro _ w30 ⟨a31, rfl, hS33, hE32⟩
  have hB35 := hB29.trans (Ext.stp hE32 hS27.base)
  refine wl_step rfl (q_alloc (cs := #[.slice none 0 0]) ZR23 rfl hS33) ?_
  rintro _ w36 ⟨g37, rfl, hS39, hE38⟩
  have hB41 := hB35.trans (Ext.stp hE38 hS33.base)
  refine wl_step rfl (q_alloc (cs := #[.slice none 0 0]) ZR23 rfl hS39) ?_
  rintro _ w42 ⟨g43, rfl, hS45, hE44⟩
  have hB47 := hB41.trans (Ext.stp hE44 hS39.base)
  have hS51 := hS45.f1
  refine wl_step rfl (q_storeB (i := 0) (bs' := #[.slice a25 0 0]) (vs := [.slice a25 0 0]) hS51 ON23.sz rfl rfl rfl (by simp [Value.oneCell']) (Nat.le_of_ble_eq_true rfl) rfl) ?_
  rintro _ w48 ⟨rfl, hS49, hb50⟩
  have hB52 := hB47.trans hb50
  have hS56 := hS49.f1
  refine wl_step rfl (q_storeB (i := 0) (bs' := #[.slice a31 0 0]) (vs := [.slice a31 0 0]) hS56 ON23.sz rfl rfl rfl (by simp [Value.oneCell']) (Nat.le_of_ble_eq_true rfl) rfl) ?_
  rintro _ w53 ⟨rfl, hS54, hb55⟩
  have hB57 := hB52.trans hb55
  refine wl_nil ?_
  refine hK23 _ _ ?_
  refine w_cut (σ := List Int × Option Addr × Nat × Nat) (fun ⟨x187, a188, n189, c190⟩ => [(3, .pointer (some (⟨g6, 0, none⟩ : Addr))), (4, .pointer (some (⟨g12, 0, none⟩ : Addr))), (5, .pointer (some (⟨g18, 0, none⟩ : Addr))), (6, .pointer (some (⟨g37, 0, none⟩ : Addr))), (7, .pointer (some (⟨g43, 0, none⟩ : Addr)))]) (fun ⟨x187, a188, n189, c190⟩ w' => m_impl_castings_FirstCasting_1_K0 p0 p1 p2_0 p2_1 Q x187 ∧ Below B_ w w' ∧ Sep w' B_ (oB gp2_1 4 #[.bool p2_1] :: oB gp2_0 23 #[.slice ap2_0 np2_0 cp2_0] :: oB g6 27 #[.slice a0 n0 c0] :: oB g12 23 #[.slice a1 n1 c1] :: oB g18 67 #[.func (.func 63) #[] #[.pointer (some (⟨gp2_0, 0, none⟩ : Addr)), .pointer (some (⟨gp2_1, 0, none⟩ : Addr))]] :: oB g37 23 #[.slice a188 n189 c190] :: oB g43 23 #[.slice a31 0 0] :: oS 3 ap2_0 np2_0 cp2_0 (p2_0 : List Int) :: oS 3 a188 n189 c190 (x187 : List Int) :: oS 3 a31 0 0 ([] : List Int) :: L_)) ?_ ?_
  · refine w_seq fun K192 hK192 => ?_
    refine w_region ?_
    refine wl_val (q_loadB (i := 0) (bs := #[.slice a0 n0 c0]) hS54.g6 ON27 rfl rfl) rfl ?_
    refine wl_val (q_len SL27 rfl (Tv.len (hp0.bel hB57))) rfl ?_
    refine wl_val (g_move (v := .int .i64 0) rfl) rfl ?_
    refine wl_nil ?_
    refine hK192 _ _ ?_
    refine w_block ?_
    have hS198 := hS54.f2
    have hS199 := hS198.f3
    have hS200 := hS199.f8
    have hS201 := hS200.f3
    have hS202 := hS201.f4
    have hS203 := hS202.f5
    have hS204 := hS203.f6
    have hS205 := hS204.f7
    have hS206 := hS205.f8
    have hS207 := hS206.f9
    obtain ⟨I208, μ209, h0210, hr211⟩ := hm
    refine w_for (σ := Int × List Int × Option Addr × Nat × Nat) (fun ⟨v193, x194, a195, n196, c197⟩ => [(3, .pointer (some (⟨g6, 0, none⟩ : Addr))), (4, .pointer (some (⟨g12, 0, none⟩ : Addr))), (5, .pointer (some (⟨g18, 0, none⟩ : Addr))), (6, .pointer (some (⟨g37, 0, none⟩ : Addr))), (7, .pointer (some (⟨g43, 0, none⟩ : Addr))), (13, .slice a0 n0 c0), (14, .int .i64 (p0.length : Int)), (15, .int .i64 v193)]) (fun ⟨v193, x194, a195, n196, c197⟩ w' => I208 v193 x194 ∧ Below B_ w w' ∧ Sep w' B_ (oB gp2_1 4 #[.bool p2_1] :: oB gp2_0 23 #[.slice ap2_0 np2_0 cp2_0] :: oB g6 27 #[.slice a0 n0 c0] :: oB g12 23 #[.slice a1 n1 c1] :: oB g18 67 #[.func (.func 63) #[] #[.pointer (some (⟨gp2_0, 0, none⟩ : Addr)), .pointer (some (⟨gp2_1, 0, none⟩ : Addr))]] :: oB g37 23 #[.slice a195 n196 c197] :: oB g43 23 #[.slice a31 0 0] :: oS 3 ap2_0 np2_0 cp2_0 (p2_0 : List Int) :: oS 3 a195 n196 c197 (x194 : List Int) :: oS 3 a31 0 0 ([] : List Int) :: L_)) (fun ⟨v193, x194, a195, n196, c197⟩ => μ209 v193 x194) (0, [], a25, 0, 0) ⟨rfl, rfl, rfl, rfl, rfl, rfl, rfl, rfl, trivial⟩ ⟨h0210, hB57, hS207⟩ ?_
    rintro ⟨v193, x194, a195, n196, c197⟩ b_ w212 ⟨hi_, hB213, hS214⟩
    show Wp _ _ _ _ (upds b_ [(3, .pointer (some (⟨g6, 0, none⟩ : Addr))), (4, .pointer (some (⟨g12, 0, none⟩ : Addr))), (5, .pointer (some (⟨g18, 0, none⟩ : Addr))), (6, .pointer (some (⟨g37, 0, none⟩ : Addr))), (7, .pointer (some (⟨g43, 0, none⟩ : Addr))), (13, .slice a0 n0 c0), (14, .int .i64 (p0.length : Int)), (15, .int .i64 v193)]) w212
    have hm := hr211 v193 x194 hi_
    refine w_seq fun K216 hK216 => ?_
    refine w_region ?_
    refine wl_val (g_lss (a := v193) (b := (p0.length : Int)) rfl rfl) rfl ?_
    refine wl_nil ?_
    refine hK216 _ _ ?_
    refine w_seq fun K217 hK217 => ?_
    refine w_condI (p := v193 < (p0.length : Int)) (b := (decide (v193 < (p0.length : Int)))) rfl decide_eq_true_iff (fun h218 => ?_) (fun h218 => ?_)
    · replace hm := hm.1 h218
      refine w_skip ?_
      refine hK217 _ _ ?_
      refine w_seq fun K219 hK219 => ?_
      refine w_block ?_
      refine w_seq fun K220 hK220 => ?_
      refine w_region ?_
      obtain ⟨hg221, hm⟩ := hm
      refine wl_val (q_index (i := v193) SL27 rfl rfl (Tv.o (hp0.bel hB213)) (Tv.g (hp0.bel hB213) hg221)) rfl ?_
      refine wl_val (q_loadS (i := v193) (cs := [.slice ((y0[(Int.toNat v193)]!).1.1) ((y0[(Int.toNat v193)]!).1.2.2.length) ((y0[(Int.toNat v193)]!).1.2.1), .int .i64 (p0[(Int.toNat v193)]!.2)]) AG54 (Tv.o (hp0.bel hB213)) (Tv.g (hp0.bel hB213) hg221) (by rw [← Tv.free (hp0.bel hB213) hg221]; rfl) rfl) rfl ?_
      refine wl_step rfl (q_alloc (cs := #[.slice none 0 0, .int .i64 0]) ZR54 rfl hS214) ?_
      rintro _ w222 ⟨g223, rfl, hS225, hE224⟩
      have hB227 := hB213.trans (Ext.stp hE224 hS214.base)
      refine wl_step rfl (q_storeB (i := 0) (bs' := #[.slice ((y0[(Int.toNat v193)]!).1.1) ((y0[(Int.toNat v193)]!).1.2.2.length) ((y0[(Int.toNat v193)]!).1.2.1), .int .i64 (p0[(Int.toNat v193)]!.2)]) (vs := [.slice ((y0[(Int.toNat v193)]!).1.1) ((y0[(Int.toNat v193)]!).1.2.2.length) ((y0[(Int.toNat v193)]!).1.2.1), .int .i64 (p0[(Int.toNat v193)]!.2)]) hS225 AG54.sz rfl rfl rfl (by simp [Value.oneCell']) (Nat.le_of_ble_eq_true rfl) rfl) ?_
      rintro _ w228 ⟨rfl, hS229, hb230⟩
      have hB231 := hB227.trans hb230
      refine wl_nil ?_
      refine hK220 _ _ ?_
      refine w_region ?_
      refine wl_val (q_loadB (i := 0) (bs := #[.slice a195 n196 c197]) hS229.g6 ON23 rfl rfl) rfl ?_
      refine wl_val (g_fieldAddr (q := (⟨g223, 0, none⟩ : Addr)) FL54_1 ON3 rfl) rfl ?_
      refine wl_val (q_loadB (i := 1) (bs := #[.slice ((y0[(Int.toNat v193)]!).1.1) ((y0[(Int.toNat v193)]!).1.2.2.length) ((y0[(Int.toNat v193)]!).1.2.1), .int .i64 (p0[(Int.toNat v193)]!.2)]) hS229.g0 ON3 rfl rfl) rfl ?_
      refine wl_step rfl (q_lit1 (y := (p0[(Int.toNat v193)]!.2 : Int)) SL23 rfl rfl (by decide) hS229) ?_
      rintro _ w232 ⟨a233, rfl, hS235, hE234⟩
      have hB237 := hB231.trans (Ext.stp hE234 hS229.base)
      have hS243 := hS235.f10
      obtain ⟨hg244, hm⟩ := hm
      refine wl_step rfl (q_append SL23 rfl rfl hS243 (oS.vw hS243.g1) hg244 (by decide)) ?_
      rintro _ w238 ⟨a239, c240, rfl, hS242, hb241⟩
      have hB245 := hB237.trans hb241
      have hS249 := hS242.f8
      refine wl_step rfl (q_storeB (i := 0) (bs' := #[.slice a239 (n196 + 1) c240]) (vs := [.slice a239 (n196 + 1) c240]) hS249 ON23.sz rfl rfl rfl (by simp [Value.oneCell']) (Nat.le_of_ble_eq_true rfl) rfl) ?_
      rintro _ w246 ⟨rfl, hS247, hb248⟩
      have hB250 := hB245.trans hb248
      refine wl_nil ?_
      refine hK219 _ _ ?_
      refine w_region ?_
      obtain ⟨hg251, hm⟩ := hm
      refine wl_val (g_add (a := v193) (b := 1) rfl rfl hg251) rfl ?_
      refine wl_val (g_move (v := .int .i64 (v193 + 1)) rfl) rfl ?_
      refine wl_nil ?_
      have hS252 := hS247.f2
      have hS253 := hS252.tail
      have hS254 := hS253.f2
      have hS255 := hS254.tail
      have hS256 := hS255.f9
      have hS257 := hS256.f2
      have hS258 := hS257.f9
      have hS259 := hS258.f9
      have hS260 := hS259.f4
      have hS261 := hS260.f9
      have hS262 := hS261.f9
      have hS263 := hS262.f9
      have hS264 := hS263.f9
      have hS265 := hS264.f9
      exact ⟨((v193 + 1), (x194 ++ ([p0[(Int.toNat v193)]!.2])), a239, (n196 + 1), c240), hm.2, ⟨rfl, rfl, rfl, rfl, rfl, rfl, rfl, rfl, trivial⟩, ⟨hm.1, hB250, hS265⟩⟩
    · replace hm := hm.2 h218
      refine w_exit ?_
      exact ⟨(x194, a195, n196, c197), ⟨rfl, rfl, rfl, rfl, rfl, trivial⟩, ⟨hm, hB213, hS214⟩⟩
  · rintro ⟨x187, a188, n189, c190⟩ b_ w266 ⟨hm, hB267, hS268⟩
    show Wp _ _ _ _ (upds b_ [(3, .pointer (some (⟨g6, 0, none⟩ : Addr))), (4, .pointer (some (⟨g12, 0, none⟩ : Addr))), (5, .pointer (some (⟨g18, 0, none⟩ : Addr))), (6, .pointer (some (⟨g37, 0, none⟩ : Addr))), (7, .pointer (some (⟨g43, 0, none⟩ : Addr)))]) w266
    refine w_seq fun K269 hK269 => ?_
    refine w_region ?_
    refine wl_step rfl (q_alloc (cs := #[.nilFunc]) ZR86 rfl hS268) ?_
    rintro _ w270 ⟨g271, rfl, hS273, hE272⟩
    have hB275 := hB267.trans (Ext.stp hE272 hS268.base)
    refine wl_nil ?_
    refine hK269 _ _ ?_
    refine w_seq fun K276 hK276 => ?_
    refine w_region ?_
    refine wl_val (g_makeFunc (vs := #[.pointer (some (⟨g43, 0, none⟩ : Addr)), .pointer (some (⟨g12, 0, none⟩ : Addr)), .pointer (some (⟨g18, 0, none⟩ : Addr)), .pointer (some (⟨g6, 0, none⟩ : Addr)), .pointer (some (⟨g37, 0, none⟩ : Addr)), .pointer (some (⟨g271, 0, none⟩ : Addr))]) (args6 rfl rfl rfl rfl rfl rfl)) rfl ?_
    refine wl_step rfl (q_storeB (i := 0) (bs' := #[.func (.func 91) #[] #[.pointer (some (⟨g43, 0, none⟩ : Addr)), .pointer (some (⟨g12, 0, none⟩ : Addr)), .pointer (some (⟨g18, 0, none⟩ : Addr)), .pointer (some (⟨g6, 0, none⟩ : Addr)), .pointer (some (⟨g37, 0, none⟩ : Addr)), .pointer (some (⟨g271, 0, none⟩ : Addr))]]) (vs := [.func (.func 91) #[] #[.pointer (some (⟨g43, 0, none⟩ : Addr)), .pointer (some (⟨g12, 0, none⟩ : Addr)), .pointer (some (⟨g18, 0, none⟩ : Addr)), .pointer (some (⟨g6, 0, none⟩ : Addr)), .pointer (some (⟨g37, 0, none⟩ : Addr)), .pointer (some (⟨g271, 0, none⟩ : Addr))]]) hS273 ON86.sz rfl rfl rfl (by simp [Value.oneCell']) (Nat.le_of_ble_eq_true rfl) rfl) ?_
    rintro _ w277 ⟨rfl, hS278, hb279⟩
    have hB280 := hB275.trans hb279
    refine wl_nil ?_
    refine hK276 _ _ ?_
    refine w_region ?_
    refine wl_val (q_loadB (i := 0) (bs := #[.func (.func 91) #[] #[.pointer (some (⟨g43, 0, none⟩ : Addr)), .pointer (some (⟨g12, 0, none⟩ : Addr)), .pointer (some (⟨g18, 0, none⟩ : Addr)), .pointer (some (⟨g6, 0, none⟩ : Addr)), .pointer (some (⟨g37, 0, none⟩ : Addr)), .pointer (some (⟨g271, 0, none⟩ : Addr))]]) hS278.g0 ON86 rfl rfl) rfl ?_
    have hS281 := hS278.f1
    have hS282 := hS281.f8
    have hS283 := hS282.f3
    have hS284 := hS283.f3
    have hS285 := hS284.f9
    have hS286 := hS285.f8
    have hS287 := hS286.f6
    have hS288 := hS287.f8
    have hS289 := hS288.f8
    have hS290 := hS289.f10
    have hS291 := hS290.f10
    obtain ⟨f292, hm⟩ := hm
    refine wl_step rfl (g_callvc (f := 91) (va := #[]) (cap := #[.pointer (some (⟨g43, 0, none⟩ : Addr)), .pointer (some (⟨g12, 0, none⟩ : Addr)), .pointer (some (⟨g18, 0, none⟩ : Addr)), .pointer (some (⟨g6, 0, none⟩ : Addr)), .pointer (some (⟨g37, 0, none⟩ : Addr)), .pointer (some (⟨g271, 0, none⟩ : Addr))]) (vs := #[.pointer (some (⟨g43, 0, none⟩ : Addr)), .pointer (some (⟨g12, 0, none⟩ : Addr)), .pointer (some (⟨g18, 0, none⟩ : Addr)), .pointer (some (⟨g6, 0, none⟩ : Addr)), .pointer (some (⟨g37, 0, none⟩ : Addr)), .pointer (some (⟨g271, 0, none⟩ : Addr))]) CF91 rfl args0 rfl (m_impl_castings_1_FirstCasting_1_fn f292 hS291 (hp1.bel hB280) (hp0.bel hB280) hm)) ?_
    rintro _ w293 ⟨r296, x297, a298, n299, c300, x301, a302, n303, c304, x305, a306, n307, c308, x309, hm, rfl, hb294, hS295⟩
    have hB310 := hB280.trans hb294
    refine wl_nil ?_
    have hS311 := hS295.tail
    have hS312 := hS311.tail
    have hS313 := hS312.tail
    have hS314 := hS313.tail
    have hS315 := hS314.tail
    have hS316 := hS315.tail
    have hS317 := hS316.tail
    have hS318 := hS317.tail
    repeat first | with_reducible refine q_then ?_ | with_reducible refine q_block ?_
    exact ret0n rfl ⟨_, _, _, _, _, hm, rfl, hB310, hS318⟩

theorem m_impl_FirstCasting_fn {w : World} {a0 : Option Addr} {n0 c0 : Nat} {y0 : List PlayerD} {p0 : List PlayerC} {a1 : Option Addr} {n1 c1 : Nat} {p1 : List Int} {Q : (List Int) → Bool → Prop} (hp0 : Tv w.heap.size w a0 n0 c0 y0 p0) (hp1 : Vw w.heap.size w a1 n1 c1 p1) (hm : m_impl_FirstCasting p0 p1 Q) :
    Fn Try.prog 16 #[.slice a0 n0 c0, .slice a1 n1 c1] w (fun v w' => ∃ (r0 : List Int) (a0 : Option Addr) (n0 c0 : Nat) (r1 : Bool), Q r0 r1 ∧ v = .tuple #[.slice a0 n0 c0, .bool r1] ∧ Ext w w' ∧ Sep w' w.heap.size [oS 3 a0 n0 c0 r0]) := by
  unfold m_impl_FirstCasting at hm
  have hB0 := Below.refl w.heap.size w
  have hS0 : Sep w w.heap.size [] := Sep.nil (Nat.le_refl _)
  refine fn_of_wp Try.func16 rfl (by kernel_rfl) (Nat.le_of_ble_eq_true rfl) ?_
  refine w_seq fun K1 hK1 => ?_
  refine w_region ?_
  refine wl_val (g_assign (v := .slice none 0 0) rfl) rfl ?_
  refine wl_val (g_assign (v := .bool false) rfl) rfl ?_
  refine wl_nil ?_
  refine hK1 _ _ ?_
  refine w_seq fun K2 hK2 => ?_
  refine w_seq fun K3 hK3 => ?_
  refine w_region ?_
  refine wl_val (g_move (v := .slice a0 n0 c0) rfl) rfl ?_
  refine wl_step rfl (g_call (vs := #[.slice a0 n0 c0]) CF44 (args1 rfl) (m_impl_PlayersOk_fn ((hp0.bel hB0).up hS0) hm)) ?_
  rintro _ w4 ⟨r7, hm, rfl, hE5⟩
  have hB8 := hB0.trans (Ext.stp hE5 hS0.base)
  have hS9 := hS0.ext hE5
  refine wl_val (g_not (a := r7) rfl) rfl ?_
  refine wl_val (g_move (v := .bool (!r7)) rfl) rfl ?_
  refine wl_guard (c := (!r7) = false) (val := .slice a1 n1 c1) (b := ((!r7) == false)) (gv_some rfl rfl rfl) beq_iff_eq (fun hc10 => ?_) ?_
  · have hcq0 : ¬ (¬ (r7 = true)) := (i_neg (i_not Iff.rfl) hc10)
    exact g_move (v := .slice a1 n1 c1) rfl
  obtain ⟨r12, hk13, hm⟩ := hm
  refine wl_guardE (X := Ext) (c := (!r7) = false) (val := .bool r12) (Ext.refl _) (b := ((!r7) == false)) (gv_some rfl rfl rfl) beq_iff_eq (fun hc11 => ?_) (fun w14 hE15 => ?_)
  · have hcq0 : ¬ (¬ (r7 = true)) := (i_neg (i_not Iff.rfl) hc11)
    exact (g_call (vs := #[.slice a1 n1 c1]) CF61 (args1 (if_pos hc11)) ((m_impl_arePuppets_fn ((hp1.bel hB8).up hS9) (hk13 hcq0)).mono fun _ _ ⟨_, h1, h2, h3⟩ => ⟨by rw [h2, h1], h3⟩))
  have hB16 := hB8.trans (Ext.stp hE15 hS9.base)
  have hS17 := hS9.ext hE15
  refine wl_guard (c := (!r7) = false) (val := .bool (!r12)) (b := ((!r7) == false)) (gv_some rfl rfl rfl) beq_iff_eq (fun hc18 => ?_) ?_
  · have hcq0 : ¬ (¬ (r7 = true)) := (i_neg (i_not Iff.rfl) hc18)
    exact g_not (a := r12) (if_pos hc18)
  refine wl_val (g_pick_or (b := (!r7)) (q := (!r12)) rfl rfl) rfl ?_
  refine wl_nil ?_
  refine hK3 _ _ ?_
  refine w_condI (p := ((¬ (r7 = true)) ∨ (¬ (r12 = true)))) (b := ((!r7) || (!r12))) rfl (i_or (i_not Iff.rfl) (i_not Iff.rfl)) (fun h19 => ?_) (fun h19 => ?_)
  · replace hm := hm.1 h19
    refine w_seq fun K20 hK20 => ?_
    refine w_region ?_
    refine wl_val (g_assign (v := .slice none 0 0) rfl) rfl ?_
    refine wl_val (g_assign (v := .bool false) rfl) rfl ?_
    refine wl_nil ?_
    refine hK20 _ _ ?_
    refine w_ret ?_
    have hS21 := hS17.nilS (α := Int) (E := 3)
    repeat first | with_reducible refine q_then ?_ | with_reducible refine q_block ?_
    exact ret2 rfl (by decide) (by decide) ⟨_, _, _, _, _, hm, rfl, toExt hB16, hS21⟩
  · replace hm := hm.2 h19
    refine w_skip ?_
    refine hK2 _ _ ?_
    refine w_seq fun K23 hK23 => ?_
    refine w_region ?_
    refine wl_step rfl (q_alloc (cs := #[.slice none 0 0]) ZR23 rfl hS17) ?_
    rintro _ w24 ⟨g25, rfl, hS27, hE26⟩
    have hB29 := hB16.trans (Ext.stp hE26 hS17.base)
    refine wl_nil ?_
    refine hK23 _ _ ?_
    refine w_seq fun K30 hK30 => ?_
    refine w_region ?_
    refine wl_step rfl (q_alloc (cs := #[.bool false]) ZR4 rfl hS27) ?_
    rintro _ w31 ⟨g32, rfl, hS34, hE33⟩
    have hB36 := hB29.trans (Ext.stp hE33 hS27.base)
    refine wl_step rfl (q_storeB (i := 0) (bs' := #[.bool false]) (vs := [.bool false]) hS34 ON4.sz rfl rfl rfl (by simp [Value.oneCell']) (Nat.le_of_ble_eq_true rfl) rfl) ?_
    rintro _ w37 ⟨rfl, hS38, hb39⟩
    have hB40 := hB36.trans hb39
    refine wl_nil ?_
    refine hK30 _ _ ?_
    refine w_seq fun K41 hK41 => ?_
    refine w_region ?_
    refine wl_val (g_move (v := .slice a0 n0 c0) rfl) rfl ?_
    refine wl_val (g_move (v := .slice a1 n1 c1) rfl) rfl ?_
    refine wl_val (g_makeFunc (vs := #[.pointer (some (⟨g25, 0, none⟩ : Addr)), .pointer (some (⟨g32, 0, none⟩ : Addr))]) (args2 rfl rfl)) rfl ?_
    have hS42 := hS38.nilS (α := Int) (E := 3)
    have hS44 := hS42.f1
    have hS45 := hS44.f1
    have hS46 := hS45.f2
    refine wl_step rfl (g_call (vs := #[.slice a0 n0 c0, .slice a1 n1 c1, .func (.func 63) #[] #[.pointer (some (⟨g25, 0, none⟩ : Addr)), .pointer (some (⟨g32, 0, none⟩ : Addr))]]) CF62 (args3 rfl rfl rfl) (m_impl_castings_FirstCasting_1_fn hS46 (hp0.bel hB40) (hp1.bel hB40) hm)) ?_
    rintro _ w47 ⟨x50, a51, n52, c53, x54, hm, rfl, hb48, hS49⟩
    have hB55 := hB40.trans hb48
    refine wl_nil ?_
    refine hK41 _ _ ?_
    refine w_seq fun K56 hK56 => ?_
    refine w_draw (X := Ext) (Y := Ext) [] MIX (by decide +kernel) rfl Ext.refl (fun _ _ _ => Ext.trans) (fun _ _ _ => Chg.trans) (fun _ _ h => Ext.chg h _) (fun w57 hE58 => ?_)
    have hB59 := hB55.trans (Ext.stp hE58 hS49.base)
    have hS60 := hS49.ext hE58
    refine ⟨.slice a51 n52 c53, fun w61 hX62 => od_plain rfl (by have hS63 := hS60.ext hX62; have hB64 := hB59.trans (Ext.stp hX62 hS60.base); exact is_ext (q_loadB (i := 0) (bs := #[.slice a51 n52 c53]) hS63.g0 ON23 rfl rfl)), ?_⟩
    refine ⟨.bool x54, fun w65 hX66 => od_plain rfl (by have hS67 := hS60.ext hX66; have hB68 := hB59.trans (Ext.stp hX66 hS60.base); exact is_ext (q_loadB (i := 0) (bs := #[.bool x54]) hS67.g2 ON4 rfl rfl)), ?_⟩
    refine ⟨.slice a51 n52 c53, fun w69 hX70 => od_plain rfl (by have hS71 := hS60.ext hX70; have hB72 := hB59.trans (Ext.stp hX70 hS60.base); exact is_ext (g_assign (v := .slice a51 n52 c53) rfl)), ?_⟩
    refine ⟨.bool x54, fun w73 hX74 => od_plain rfl (by have hS75 := hS60.ext hX74; have hB76 := hB59.trans (Ext.stp hX74 hS60.base); exact is_ext (g_assign (v := .bool x54) rfl)), ?_⟩
    intro w77 hX78
    have hB79 := hB59.trans (Ext.stp hX78 hS60.base)
    have hS80 := hS60.ext hX78
    refine hK56 _ _ ?_
    refine w_ret ?_
    have hS81 := hS80.tail
    have hS82 := hS81.f1
    have hS83 := hS82.tail
    repeat first | with_reducible refine q_then ?_ | with_reducible refine q_block ?_
    exact ret2 rfl (by decide) (by decide) ⟨_, _, _, _, _, hm, rfl, toExt hB79, hS83⟩

theorem m_impl_subset_fn {w : World} {a0 : Option Addr} {n0 c0 : Nat} {p0 : List Int} {Q : (List Int) → Prop} (hp0 : Vw w.heap.size w a0 n0 c0 p0) (p1 : Int) (hm : m_impl_subset p0 p1 Q) :
    Fn Try.prog 67 #[.slice a0 n0 c0, .int .i64 p1] w (fun v w' => ∃ (r0 : List Int) (a0 : Option Addr) (n0 c0 : Nat), Q r0 ∧ v = .slice a0 n0 c0 ∧ Ext w w' ∧ Sep w' w.heap.size [oS 3 a0 n0 c0 r0]) := by
  unfold m_impl_subset at hm
  have hB0 := Below.refl w.heap.size w
  have hS0 : Sep w w.heap.size [] := Sep.nil (Nat.le_refl _)
  refine fn_of_wp Try.func67 rfl (by kernel_rfl) (Nat.le_of_ble_eq_true rfl) ?_
  refine w_seq fun K1 hK1 => ?_
  refine w_region ?_
  refine wl_val (g_assign (v := .slice none 0 0) rfl) rfl ?_
  refine wl_nil ?_
  refine hK1 _ _ ?_
  refine w_seq fun K2 hK2 => ?_
  refine w_region ?_
  refine wl_step rfl (q_lit0 (α := Int) rfl SL23 hS0) ?_
  rintro _ w3 ⟨a4, rfl, hS6, hE5⟩
  have hB8 := hB0.trans (Ext.stp hE5 hS0.base)
  refine wl_val (g_assign (v := .slice a4 0 0) rfl) rfl ?_
  refine wl_nil ?_
  refine hK2 _ _ ?_
  refine w_cut (σ := List Int × Option Addr × Nat × Nat) (fun ⟨x84, a85, n86, c87⟩ => [(5, .slice a85 n86 c87)]) (fun ⟨x84, a85, n86, c87⟩ w' => m_impl_subset_K0 Q x84 ∧ Below w.heap.size w w' ∧ Sep w' w.heap.size [oS 3 a85 n86 c87 (x84 : List Int)]) ?_ ?_
  · refine w_seq fun K89 hK89 => ?_
    refine w_region ?_
    refine wl_val (g_move (v := .slice a0 n0 c0) rfl) rfl ?_
    refine wl_val (q_len SL23 rfl (Vw.len (hp0.bel hB8))) rfl ?_
    refine wl_val (g_move (v := .int .i64 0) rfl) rfl ?_
    refine wl_nil ?_
    refine hK89 _ _ ?_
    refine w_block ?_
    obtain ⟨I95, μ96, h097, hr98⟩ := hm
    refine w_for (σ := List Int × Option Addr × Nat × Nat × Int) (fun ⟨x90, a91, n92, c93, v94⟩ => [(1, .int .i64 p1), (5, .slice a91 n92 c93), (9, .slice a0 n0 c0), (10, .int .i64 (p0.length : Int)), (11, .int .i64 v94)]) (fun ⟨x90, a91, n92, c93, v94⟩ w' => I95 x90 v94 ∧ Below w.heap.size w w' ∧ Sep w' w.heap.size [oS 3 a91 n92 c93 (x90 : List Int)]) (fun ⟨x90, a91, n92, c93, v94⟩ => μ96 x90 v94) ([], a4, 0, 0, 0) ⟨rfl, rfl, rfl, rfl, rfl, trivial⟩ ⟨h097, hB8, hS6⟩ ?_
    rintro ⟨x90, a91, n92, c93, v94⟩ b_ w99 ⟨hi_, hB100, hS101⟩
    show Wp _ _ _ _ (upds b_ [(1, .int .i64 p1), (5, .slice a91 n92 c93), (9, .slice a0 n0 c0), (10, .int .i64 (p0.length : Int)), (11, .int .i64 v94)]) w99
    have hm := hr98 x90 v94 hi_
    refine w_seq fun K103 hK103 => ?_
    refine w_region ?_
    refine wl_val (g_lss (a := v94) (b := (p0.length : Int)) rfl rfl) rfl ?_
    refine wl_nil ?_
    refine hK103 _ _ ?_
    refine w_seq fun K104 hK104 => ?_
    refine w_condI (p := v94 < (p0.length : Int)) (b := (decide (v94 < (p0.length : Int)))) rfl decide_eq_true_iff (fun h105 => ?_) (fun h105 => ?_)
    · replace hm := hm.1 h105
      refine w_skip ?_
      refine hK104 _ _ ?_
      refine w_seq fun K106 hK106 => ?_
      refine w_block ?_
      refine w_seq fun K107 hK107 => ?_
      refine w_region ?_
      refine wl_val (g_move (v := .int .i64 v94) rfl) rfl ?_
      obtain ⟨hg108, hm⟩ := hm
      refine wl_val (q_index (i := v94) SL23 rfl rfl (hp0.bel hB100) hg108) rfl ?_
      refine wl_val (q_load (i := v94) (v := .int .i64 (p0[(Int.toNat v94)]!)) ON3 (hp0.bel hB100) hg108 rfl rfl) rfl ?_
      refine wl_val (g_assign (v := .int .i64 v94) rfl) rfl ?_
      refine wl_val (g_assign (v := .int .i64 (p0[(Int.toNat v94)]!)) rfl) rfl ?_
      refine wl_nil ?_
      refine hK107 _ _ ?_
      refine w_seq fun K109 hK109 => ?_
      refine w_region ?_
      refine wl_val (g_move (v := .int .i64 p1) rfl) rfl ?_
      refine wl_val (g_move (v := .int .i64 v94) rfl) rfl ?_
      obtain ⟨hg110, hm⟩ := hm
      refine wl_val (g_shr (a := p1) (b := v94) rfl rfl hg110) rfl ?_
      obtain ⟨hg111, hm⟩ := hm
      refine wl_val (g_band (a := (sar p1 v94)) (b := 1) rfl rfl hg111) rfl ?_
      refine wl_val (g_eql (a := (band (sar p1 v94) 1)) (b := 1) rfl rfl) rfl ?_
      refine wl_nil ?_
      refine hK109 _ _ ?_
      refine w_condI (p := (band (sar p1 v94) 1) = 1) (b := (decide ((band (sar p1 v94) 1) = 1))) rfl decide_eq_true_iff (fun h112 => ?_) (fun h112 => ?_)
      · replace hm := hm.1 h112
        refine w_region ?_
        refine wl_val (g_move (v := .slice a91 n92 c93) rfl) rfl ?_
        refine wl_val (g_move (v := .int .i64 (p0[(Int.toNat v94)]!)) rfl) rfl ?_
        refine wl_step rfl (q_lit1 (y := (p0[(Int.toNat v94)]! : Int)) SL23 rfl rfl (by decide) hS101) ?_
        rintro _ w113 ⟨a114, rfl, hS116, hE115⟩
        have hB118 := hB100.trans (Ext.stp hE115 hS101.base)
        have hS124 := hS116.f1
        obtain ⟨hg125, hm⟩ := hm
        refine wl_step rfl (q_append SL23 rfl rfl hS124 (oS.vw hS124.g1) hg125 (by decide)) ?_
        rintro _ w119 ⟨a120, c121, rfl, hS123, hb122⟩
        have hB126 := hB118.trans hb122
        refine wl_val (g_assign (v := .slice a120 (n92 + 1) c121) rfl) rfl ?_
        refine wl_nil ?_
        refine hK106 _ _ ?_
        refine w_region ?_
        obtain ⟨hg127, hm⟩ := hm
        refine wl_val (g_add (a := v94) (b := 1) rfl rfl hg127) rfl ?_
        refine wl_val (g_move (v := .int .i64 (v94 + 1)) rfl) rfl ?_
        refine wl_nil ?_
        have hS128 := hS123.f1
        have hS129 := hS128.tail
        exact ⟨((x90 ++ ([p0[(Int.toNat v94)]!])), a120, (n92 + 1), c121, (v94 + 1)), hm.2, ⟨rfl, rfl, rfl, rfl, rfl, trivial⟩, ⟨hm.1, hB126, hS129⟩⟩
      · replace hm := hm.2 h112
        refine w_skip ?_
        refine hK106 _ _ ?_
        refine w_region ?_
        obtain ⟨hg130, hm⟩ := hm
        refine wl_val (g_add (a := v94) (b := 1) rfl rfl hg130) rfl ?_
        refine wl_val (g_move (v := .int .i64 (v94 + 1)) rfl) rfl ?_
        refine wl_nil ?_
        exact ⟨(x90, a91, n92, c93, (v94 + 1)), hm.2, ⟨rfl, rfl, rfl, rfl, rfl, trivial⟩, ⟨hm.1, hB100, hS101⟩⟩
    · replace hm := hm.2 h105
      refine w_exit ?_
      exact ⟨(x90, a91, n92, c93), ⟨rfl, trivial⟩, ⟨hm, hB100, hS101⟩⟩
  · rintro ⟨x84, a85, n86, c87⟩ b_ w131 ⟨hm, hB132, hS133⟩
    show Wp _ _ _ _ (upds b_ [(5, .slice a85 n86 c87)]) w131
    refine w_seq fun K134 hK134 => ?_
    refine w_region ?_
    refine wl_val (g_move (v := .slice a85 n86 c87) rfl) rfl ?_
    refine wl_val (g_assign (v := .slice a85 n86 c87) rfl) rfl ?_
    refine wl_nil ?_
    refine hK134 _ _ ?_
    refine w_ret ?_
    repeat first | with_reducible refine q_then ?_ | with_reducible refine q_block ?_
    exact ret1 rfl (by decide) ⟨_, _, _, _, hm, rfl, toExt hB132, hS133⟩

theorem m_impl_HandsFor_fn {w : World} {a0 : Option Addr} {n0 c0 : Nat} {y0 : List PlayerD} {p0 : List PlayerC} {a1 : Option Addr} {n1 c1 : Nat} {p1 : List Int} {Q : Int → Prop} (hp0 : Tv w.heap.size w a0 n0 c0 y0 p0) (hp1 : Vw w.heap.size w a1 n1 c1 p1) (hm : m_impl_HandsFor p0 p1 Q) :
    Fn Try.prog 48 #[.slice a0 n0 c0, .slice a1 n1 c1] w (fun v w' => ∃ (r0 : Int), Q r0 ∧ v = .int .i64 r0 ∧ Ext w w') := by
  unfold m_impl_HandsFor at hm
  have hB0 := Below.refl w.heap.size w
  have hS0 : Sep w w.heap.size [] := Sep.nil (Nat.le_refl _)
  refine fn_of_wp Try.func48 rfl (by kernel_rfl) (Nat.le_of_ble_eq_true rfl) ?_
  refine w_seq fun K1 hK1 => ?_
  refine w_region ?_
  refine wl_val (g_assign (v := .int .i64 0) rfl) rfl ?_
  refine wl_nil ?_
  refine hK1 _ _ ?_
  refine w_seq fun K2 hK2 => ?_
  refine w_seq fun K3 hK3 => ?_
  refine w_region ?_
  refine wl_val (g_move (v := .slice a0 n0 c0) rfl) rfl ?_
  refine wl_step rfl (g_call (vs := #[.slice a0 n0 c0]) CF44 (args1 rfl) (m_impl_PlayersOk_fn ((hp0.bel hB0).up hS0) hm)) ?_
  rintro _ w4 ⟨r7, hm, rfl, hE5⟩
  have hB8 := hB0.trans (Ext.stp hE5 hS0.base)
  have hS9 := hS0.ext hE5
  refine wl_val (g_not (a := r7) rfl) rfl ?_
  refine wl_val (g_move (v := .bool (!r7)) rfl) rfl ?_
  refine wl_guard (c := (!r7) = false) (val := .slice a1 n1 c1) (b := ((!r7) == false)) (gv_some rfl rfl rfl) beq_iff_eq (fun hc10 => ?_) ?_
  · have hcq0 : ¬ (¬ (r7 = true)) := (i_neg (i_not Iff.rfl) hc10)
    exact g_move (v := .slice a1 n1 c1) rfl
  obtain ⟨r12, hk13, hm⟩ := hm
  refine wl_guardE (X := Ext) (c := (!r7) = false) (val := .bool r12) (Ext.refl _) (b := ((!r7) == false)) (gv_some rfl rfl rfl) beq_iff_eq (fun hc11 => ?_) (fun w14 hE15 => ?_)
  · have hcq0 : ¬ (¬ (r7 = true)) := (i_neg (i_not Iff.rfl) hc11)
    exact (g_call (vs := #[.slice a1 n1 c1]) CF61 (args1 (if_pos hc11)) ((m_impl_arePuppets_fn ((hp1.bel hB8).up hS9) (hk13 hcq0)).mono fun _ _ ⟨_, h1, h2, h3⟩ => ⟨by rw [h2, h1], h3⟩))
  have hB16 := hB8.trans (Ext.stp hE15 hS9.base)
  have hS17 := hS9.ext hE15
  refine wl_guard (c := (!r7) = false) (val := .bool (!r12)) (b := ((!r7) == false)) (gv_some rfl rfl rfl) beq_iff_eq (fun hc18 => ?_) ?_
  · have hcq0 : ¬ (¬ (r7 = true)) := (i_neg (i_not Iff.rfl) hc18)
    exact g_not (a := r12) (if_pos hc18)
  refine wl_val (g_pick_or (b := (!r7)) (q := (!r12)) rfl rfl) rfl ?_
  refine wl_nil ?_
  refine hK3 _ _ ?_
  refine w_condI (p := ((¬ (r7 = true)) ∨ (¬ (r12 = true)))) (b := ((!r7) || (!r12))) rfl (i_or (i_not Iff.rfl) (i_not Iff.rfl)) (fun h19 => ?_) (fun h19 => ?_)
  · replace hm := hm.1 h19
    refine w_seq fun K20 hK20 => ?_
    refine w_region ?_
    refine wl_val (g_assign (v := .int .i64 (-1)) rfl) rfl ?_
    refine wl_nil ?_
    refine hK20 _ _ ?_
    refine w_ret ?_
    repeat first | with_reducible refine q_then ?_ | with_reducible refine q_block ?_
    exact ret1 rfl (by decide) ⟨_, hm, rfl, toExt hB16⟩
  · replace hm := hm.2 h19
    refine w_skip ?_
    refine hK2 _ _ ?_
    refine w_seq fun K21 hK21 => ?_
    refine w_region ?_
    refine wl_val (g_assign (v := .int .i64 0) rfl) rfl ?_
    refine wl_nil ?_
    refine hK21 _ _ ?_
    refine w_cut (σ := Int) (fun v206 => [(5, .int .i64 v206)]) (fun v206 w' => m_impl_HandsFor_K1 Q v206 ∧ Below w.heap.size w w' ∧ Sep w' w.heap.size []) ?_ ?_
    · refine w_seq fun K208 hK208 => ?_
      refine w_region ?_
      refine wl_val (g_move (v := .slice a0 n0 c0) rfl) rfl ?_
      refine wl_val (q_len SL27 rfl (Tv.len (hp0.bel hB16))) rfl ?_
      refine wl_val (g_move (v := .int .i64 0) rfl) rfl ?_
      refine wl_nil ?_
      refine hK208 _ _ ?_
      refine w_block ?_
      obtain ⟨I211, μ212, h0213, hr214⟩ := hm
      refine w_for (σ := Int × Int) (fun ⟨v209, v210⟩ => [(1, .slice a1 n1 c1), (5, .int .i64 v209), (18, .slice a0 n0 c0), (19, .int .i64 (p0.length : Int)), (20, .int .i64 v210)]) (fun ⟨v209, v210⟩ w' => I211 v209 v210 ∧ Below w.heap.size w w' ∧ Sep w' w.heap.size []) (fun ⟨v209, v210⟩ => μ212 v209 v210) (0, 0) ⟨rfl, rfl, rfl, rfl, rfl, trivial⟩ ⟨h0213, hB16, hS17⟩ ?_
      rintro ⟨v209, v210⟩ b_ w215 ⟨hi_, hB216, hS217⟩
      show Wp _ _ _ _ (upds b_ [(1, .slice a1 n1 c1), (5, .int .i64 v209), (18, .slice a0 n0 c0), (19, .int .i64 (p0.length : Int)), (20, .int .i64 v210)]) w215
      have hm := hr214 v209 v210 hi_
      refine w_seq fun K219 hK219 => ?_
      refine w_region ?_
      refine wl_val (g_lss (a := v210) (b := (p0.length : Int)) rfl rfl) rfl ?_
      refine wl_nil ?_
      refine hK219 _ _ ?_
      refine w_seq fun K220 hK220 => ?_
      refine w_condI (p := v210 < (p0.length : Int)) (b := (decide (v210 < (p0.length : Int)))) rfl decide_eq_true_iff (fun h221 => ?_) (fun h221 => ?_)
      · replace hm := hm.1 h221
        refine w_skip ?_
        refine hK220 _ _ ?_
        refine w_cut (σ := Int) (fun v222 => [(1, .slice a1 n1 c1), (5, .int .i64 v222), (18, .slice a0 n0 c0), (19, .int .i64 (p0.length : Int)), (20, .int .i64 v210)]) (fun v222 w' => m_impl_HandsFor_K0 v210 (fun v209' v210' => I211 v209' v210' ∧ μ212 v209' v210' < μ212 v209 v210) v222 ∧ Below w.heap.size w w' ∧ Sep w' w.heap.size []) ?_ ?_
        · refine w_block ?_
          refine w_seq fun K224 hK224 => ?_
          refine w_region ?_
          obtain ⟨hg225, hm⟩ := hm
          refine wl_val (q_index (i := v210) SL27 rfl rfl (Tv.o (hp0.bel hB216)) (Tv.g (hp0.bel hB216) hg225)) rfl ?_
          refine wl_val (q_loadS (i := v210) (cs := [.slice ((y0[(Int.toNat v210)]!).1.1) ((y0[(Int.toNat v210)]!).1.2.2.length) ((y0[(Int.toNat v210)]!).1.2.1), .int .i64 (p0[(Int.toNat v210)]!.2)]) AG54 (Tv.o (hp0.bel hB216)) (Tv.g (hp0.bel hB216) hg225) (by rw [← Tv.free (hp0.bel hB216) hg225]; rfl) rfl) rfl ?_
          refine wl_step rfl (q_alloc (cs := #[.slice none 0 0, .int .i64 0]) ZR54 rfl hS217) ?_
          rintro _ w226 ⟨g227, rfl, hS229, hE228⟩
          have hB231 := hB216.trans (Ext.stp hE228 hS217.base)
          refine wl_step rfl (q_storeB (i := 0) (bs' := #[.slice ((y0[(Int.toNat v210)]!).1.1) ((y0[(Int.toNat v210)]!).1.2.2.length) ((y0[(Int.toNat v210)]!).1.2.1), .int .i64 (p0[(Int.toNat v210)]!.2)]) (vs := [.slice ((y0[(Int.toNat v210)]!).1.1) ((y0[(Int.toNat v210)]!).1.2.2.length) ((y0[(Int.toNat v210)]!).1.2.1), .int .i64 (p0[(Int.toNat v210)]!.2)]) hS229 AG54.sz rfl rfl rfl (by simp [Value.oneCell']) (Nat.le_of_ble_eq_true rfl) rfl) ?_
          rintro _ w232 ⟨rfl, hS233, hb234⟩
          have hB235 := hB231.trans hb234
          refine wl_nil ?_
          refine hK224 _ _ ?_
          refine w_seq fun K236 hK236 => ?_
          refine w_region ?_
          refine wl_val (g_move (v := .slice a1 n1 c1) rfl) rfl ?_
          refine wl_val (q_len SL23 rfl (Vw.len (hp1.bel hB235))) rfl ?_
          refine wl_val (g_move (v := .int .i64 0) rfl) rfl ?_
          refine wl_nil ?_
          refine hK236 _ _ ?_
          refine w_block ?_
          obtain ⟨I238, μ239, h0240, hr241⟩ := hm
          refine w_for (σ := Int) (fun v237 => [(1, .slice a1 n1 c1), (5, .int .i64 v209), (7, .pointer (some (⟨g227, 0, none⟩ : Addr))), (18, .slice a0 n0 c0), (19, .int .i64 (p0.length : Int)), (20, .int .i64 v210), (24, .slice a1 n1 c1), (25, .int .i64 (p1.length : Int)), (26, .int .i64 v237)]) (fun v237 w' => I238 v237 ∧ Below w.heap.size w w' ∧ Sep w' w.heap.size [oB g227 54 #[.slice ((y0[(Int.toNat v210)]!).1.1) ((y0[(Int.toNat v210)]!).1.2.2.length) ((y0[(Int.toNat v210)]!).1.2.1), .int .i64 (p0[(Int.toNat v210)]!.2)]]) (fun v237 => μ239 v237) (0) ⟨rfl, rfl, rfl, rfl, rfl, rfl, rfl, rfl, rfl, trivial⟩ ⟨h0240, hB235, hS233⟩ ?_
          rintro v237 b_ w242 ⟨hi_, hB243, hS244⟩
          show Wp _ _ _ _ (upds b_ [(1, .slice a1 n1 c1), (5, .int .i64 v209), (7, .pointer (some (⟨g227, 0, none⟩ : Addr))), (18, .slice a0 n0 c0), (19, .int .i64 (p0.length : Int)), (20, .int .i64 v210), (24, .slice a1 n1 c1), (25, .int .i64 (p1.length : Int)), (26, .int .i64 v237)]) w242
          have hm := hr241 v237 hi_
          refine w_seq fun K246 hK246 => ?_
          refine w_region ?_
          refine wl_val (g_lss (a := v237) (b := (p1.length : Int)) rfl rfl) rfl ?_
          refine wl_nil ?_
          refine hK246 _ _ ?_
          refine w_seq fun K247 hK247 => ?_
          refine w_condI (p := v237 < (p1.length : Int)) (b := (decide (v237 < (p1.length : Int)))) rfl decide_eq_true_iff (fun h248 => ?_) (fun h248 => ?_)
          · replace hm := hm.1 h248
            refine w_skip ?_
            refine hK247 _ _ ?_
            refine w_seq fun K249 hK249 => ?_
            refine w_block ?_
            refine w_seq fun K250 hK250 => ?_
            refine w_region ?_
            obtain ⟨hg251, hm⟩ := hm
            refine wl_val (q_index (i := v237) SL23 rfl rfl (hp1.bel hB243) hg251) rfl ?_
            refine wl_val (q_load (i := v237) (v := .int .i64 (p1[(Int.toNat v237)]!)) ON3 (hp1.bel hB243) hg251 rfl rfl) rfl ?_
            refine wl_val (g_assign (v := .int .i64 (p1[(Int.toNat v237)]!)) rfl) rfl ?_
            refine wl_nil ?_
            refine hK250 _ _ ?_
            refine w_seq fun K252 hK252 => ?_
            refine w_region ?_
            refine wl_val (g_fieldAddr (q := (⟨g227, 0, none⟩ : Addr)) FL54_0 ON23 rfl) rfl ?_
            refine wl_val (q_loadB (i := 0) (bs := #[.slice ((y0[(Int.toNat v210)]!).1.1) ((y0[(Int.toNat v210)]!).1.2.2.length) ((y0[(Int.toNat v210)]!).1.2.1), .int .i64 (p0[(Int.toNat v210)]!.2)]) hS244.g0 ON23 rfl rfl) rfl ?_
            refine wl_val (g_move (v := .int .i64 (p1[(Int.toNat v237)]!)) rfl) rfl ?_
            refine wl_step rfl (g_call (vs := #[.slice ((y0[(Int.toNat v210)]!).1.1) ((y0[(Int.toNat v210)]!).1.2.2.length) ((y0[(Int.toNat v210)]!).1.2.1), .int .i64 (p1[(Int.toNat v237)]!)]) CF84 (args2 rfl rfl) (m_impl_indexOf_fn ((Tv.rowP (hp0.bel hB243) hg225).up hS244) (p1[(Int.toNat v237)]!) hm)) ?_
            rintro _ w253 ⟨r256, hm, rfl, hE254⟩
            have hB257 := hB243.trans (Ext.stp hE254 hS244.base)
            have hS258 := hS244.ext hE254
            refine wl_val (g_geq (a := r256) (b := 0) rfl rfl) rfl ?_
            refine wl_nil ?_
            refine hK252 _ _ ?_
            refine w_condI (p := r256 ≥ 0) (b := (decide (r256 ≥ 0))) rfl decide_eq_true_iff (fun h259 => ?_) (fun h259 => ?_)
            · replace hm := hm.1 h259
              refine w_seq fun K260 hK260 => ?_
              refine w_region ?_
              refine wl_val (g_move (v := .int .i64 v209) rfl) rfl ?_
              refine wl_val (g_fieldAddr (q := (⟨g227, 0, none⟩ : Addr)) FL54_1 ON3 rfl) rfl ?_
              refine wl_val (q_loadB (i := 1) (bs := #[.slice ((y0[(Int.toNat v210)]!).1.1) ((y0[(Int.toNat v210)]!).1.2.2.length) ((y0[(Int.toNat v210)]!).1.2.1), .int .i64 (p0[(Int.toNat v210)]!.2)]) hS258.g0 ON3 rfl rfl) rfl ?_
              obtain ⟨hg261, hm⟩ := hm
              refine wl_val (g_add (a := v209) (b := p0[(Int.toNat v210)]!.2) rfl rfl hg261) rfl ?_
              refine wl_val (g_assign (v := .int .i64 (v209 + p0[(Int.toNat v210)]!.2)) rfl) rfl ?_
              refine wl_nil ?_
              refine hK260 _ _ ?_
              refine w_exit ?_
              have hS262 := hS258.tail
              exact ⟨((v209 + p0[(Int.toNat v210)]!.2)), ⟨rfl, rfl, rfl, rfl, rfl, trivial⟩, ⟨hm, hB257, hS262⟩⟩
            · replace hm := hm.2 h259
              refine w_skip ?_
              refine hK249 _ _ ?_
              refine w_region ?_
              obtain ⟨hg263, hm⟩ := hm
              refine wl_val (g_add (a := v237) (b := 1) rfl rfl hg263) rfl ?_
              refine wl_val (g_move (v := .int .i64 (v237 + 1)) rfl) rfl ?_
              refine wl_nil ?_
              exact ⟨((v237 + 1)), hm.2, ⟨rfl, rfl, rfl, rfl, rfl, rfl, rfl, rfl, rfl, trivial⟩, ⟨hm.1, hB257, hS258⟩⟩
          · replace hm := hm.2 h248
            refine w_exit ?_
            have hS264 := hS244.tail
            exact ⟨(v209), ⟨rfl, rfl, rfl, rfl, rfl, trivial⟩, ⟨hm, hB243, hS264⟩⟩
        · rintro v222 b_ w265 ⟨hm, hB266, hS267⟩
          show Wp _ _ _ _ (upds b_ [(1, .slice a1 n1 c1), (5, .int .i64 v222), (18, .slice a0 n0 c0), (19, .int .i64 (p0.length : Int)), (20, .int .i64 v210)]) w265
          refine w_region ?_
          obtain ⟨hg268, hm⟩ := hm
          refine wl_val (g_add (a := v210) (b := 1) rfl rfl hg268) rfl ?_
          refine wl_val (g_move (v := .int .i64 (v210 + 1)) rfl) rfl ?_
          refine wl_nil ?_
          exact ⟨(v222, (v210 + 1)), hm.2, ⟨rfl, rfl, rfl, rfl, rfl, trivial⟩, ⟨hm.1, hB266, hS267⟩⟩
      · replace hm := hm.2 h221
        refine w_exit ?_
        exact ⟨(v209), ⟨rfl, trivial⟩, ⟨hm, hB216, hS217⟩⟩
    · rintro v206 b_ w269 ⟨hm, hB270, hS271⟩
      show Wp _ _ _ _ (upds b_ [(5, .int .i64 v206)]) w269
      refine w_seq fun K272 hK272 => ?_
      refine w_region ?_
      refine wl_val (g_move (v := .int .i64 v206) rfl) rfl ?_
      refine wl_val (g_assign (v := .int .i64 v206) rfl) rfl ?_
      refine wl_nil ?_
      refine hK272 _ _ ?_
      refine w_ret ?_
      repeat first | with_reducible refine q_then ?_ | with_reducible refine q_block ?_
      exact ret1 rfl (by decide) ⟨_, hm, rfl, toExt hB270⟩

theorem m_impl_IsShort_fn {w : World} {a0 : Option Addr} {n0 c0 : Nat} {y0 : List PlayerD} {p0 : List PlayerC} {a1 : Option Addr} {n1 c1 : Nat} {p1 : List Int} {Q : Bool → Prop} (hp0 : Tv w.heap.size w a0 n0 c0 y0 p0) (hp1 : Vw w.heap.size w a1 n1 c1 p1) (hm : m_impl_IsShort p0 p1 Q) :
    Fn Try.prog 47 #[.slice a0 n0 c0, .slice a1 n1 c1] w (fun v w' => ∃ (r0 : Bool), Q r0 ∧ v = .bool r0 ∧ Ext w w') := by
  unfold m_impl_IsShort at hm
  have hB0 := Below.refl w.heap.size w
  have hS0 : Sep w w.heap.size [] := Sep.nil (Nat.le_refl _)
  refine fn_of_wp Try.func47 rfl (by kernel_rfl) (Nat.le_of_ble_eq_true rfl) ?_
  refine w_seq fun K1 hK1 => ?_
  refine w_region ?_
  refine wl_val (g_assign (v := .bool false) rfl) rfl ?_
  refine wl_nil ?_
  refine hK1 _ _ ?_
  refine w_seq fun K2 hK2 => ?_
  refine w_region ?_
  refine wl_val (g_move (v := .slice a0 n0 c0) rfl) rfl ?_
  refine wl_val (g_move (v := .slice a1 n1 c1) rfl) rfl ?_
  refine wl_step rfl (g_call (vs := #[.slice a0 n0 c0, .slice a1 n1 c1]) CF48 (args2 rfl rfl) (m_impl_HandsFor_fn ((hp0.bel hB0).up hS0) ((hp1.bel hB0).up hS0) hm)) ?_
  rintro _ w3 ⟨r6, hm, rfl, hE4⟩
  have hB7 := hB0.trans (Ext.stp hE4 hS0.base)
  have hS8 := hS0.ext hE4
  refine wl_val (g_assign (v := .int .i64 r6) rfl) rfl ?_
  refine wl_nil ?_
  refine hK2 _ _ ?_
  refine w_seq fun K9 hK9 => ?_
  refine w_region ?_
  refine wl_val (g_move (v := .int .i64 r6) rfl) rfl ?_
  refine wl_val (g_neq (a := r6) (b := (-1)) rfl rfl) rfl ?_
  refine wl_val (g_move (v := .bool (decide (r6 ≠ (-1)))) rfl) rfl ?_
  refine wl_guard (c := (decide (r6 ≠ (-1))) = true) (val := .int .i64 r6) (b := ((decide (r6 ≠ (-1))) == true)) (gv_some rfl rfl rfl) beq_iff_eq (fun hc10 => ?_) ?_
  · have hcq0 : r6 ≠ (-1) := (decide_eq_true_iff.mp hc10)
    exact g_move (v := .int .i64 r6) rfl
  refine wl_guard (c := (decide (r6 ≠ (-1))) = true) (val := .slice a1 n1 c1) (b := ((decide (r6 ≠ (-1))) == true)) (gv_some rfl rfl rfl) beq_iff_eq (fun hc11 => ?_) ?_
  · have hcq0 : r6 ≠ (-1) := (decide_eq_true_iff.mp hc11)
    exact g_move (v := .slice a1 n1 c1) rfl
  refine wl_guard (c := (decide (r6 ≠ (-1))) = true) (val := .int .i64 (p1.length : Int)) (b := ((decide (r6 ≠ (-1))) == true)) (gv_some rfl rfl rfl) beq_iff_eq (fun hc12 => ?_) ?_
  · have hcq0 : r6 ≠ (-1) := (decide_eq_true_iff.mp hc12)
    exact q_len SL23 (if_pos hc12) (Vw.len (hp1.bel hB7))
  refine wl_guard (c := (decide (r6 ≠ (-1))) = true) (val := .bool (decide (r6 < (p1.length : Int)))) (b := ((decide (r6 ≠ (-1))) == true)) (gv_some rfl rfl rfl) beq_iff_eq (fun hc13 => ?_) ?_
  · have hcq0 : r6 ≠ (-1) := (decide_eq_true_iff.mp hc13)
    exact g_lss (a := r6) (b := (p1.length : Int)) (if_pos hc13) (if_pos hc13)
  refine wl_val (g_pick_and (b := (decide (r6 ≠ (-1)))) (q := (decide (r6 < (p1.length : Int)))) rfl rfl) rfl ?_
  refine wl_val (g_assign (v := .bool ((decide (r6 ≠ (-1))) && (decide (r6 < (p1.length : Int))))) rfl) rfl ?_
  refine wl_nil ?_
  refine hK9 _ _ ?_
  refine w_ret ?_
  repeat first | with_reducible refine q_then ?_ | with_reducible refine q_block ?_
  exact ret1 rfl (by decide) ⟨_, hm, rfl, toExt hB7⟩

theorem m_impl_ShortSet_fn {w : World} {a0 : Option Addr} {n0 c0 : Nat} {y0 : List PlayerD} {p0 : List PlayerC} {a1 : Option Addr} {n1 c1 : Nat} {p1 : List Int} {Q : (List Int) → Bool → Prop} (hp0 : Tv w.heap.size w a0 n0 c0 y0 p0) (hp1 : Vw w.heap.size w a1 n1 c1 p1) (hm : m_impl_ShortSet p0 p1 Q) :
    Fn Try.prog 45 #[.slice a0 n0 c0, .slice a1 n1 c1] w (fun v w' => ∃ (r0 : List Int) (a0 : Option Addr) (n0 c0 : Nat) (r1 : Bool), Q r0 r1 ∧ v = .tuple #[.slice a0 n0 c0, .bool r1] ∧ Ext w w' ∧ Sep w' w.heap.size [oS 3 a0 n0 c0 r0]) := by
  unfold m_impl_ShortSet at hm
  have hB0 := Below.refl w.heap.size w
  have hS0 : Sep w w.heap.size [] := Sep.nil (Nat.le_refl _)
  refine fn_of_wp Try.func45 rfl (by kernel_rfl) (Nat.le_of_ble_eq_true rfl) ?_
  refine w_seq fun K1 hK1 => ?_
  refine w_region ?_
  refine wl_val (g_assign (v := .slice none 0 0) rfl) rfl ?_
  refine wl_val (g_assign (v := .bool false) rfl) rfl ?_
  refine wl_nil ?_
  refine hK1 _ _ ?_
  refine w_seq fun K2 hK2 => ?_
  refine w_seq fun K3 hK3 => ?_
  refine w_region ?_
  refine wl_val (g_move (v := .slice a0 n0 c0) rfl) rfl ?_
  refine wl_step rfl (g_call (vs := #[.slice a0 n0 c0]) CF44 (args1 rfl) (m_impl_PlayersOk_fn ((hp0.bel hB0).up hS0) hm)) ?_
  rintro _ w4 ⟨r7, hm, rfl, hE5⟩
  have hB8 := hB0.trans (Ext.stp hE5 hS0.base)
  have hS9 := hS0.ext hE5
  refine wl_val (g_not (a := r7) rfl) rfl ?_
  refine wl_val (g_move (v := .bool (!r7)) rfl) rfl ?_
  refine wl_guard (c := (!r7) = false) (val := .slice a1 n1 c1) (b := ((!r7) == false)) (gv_some rfl rfl rfl) beq_iff_eq (fun hc10 => ?_) ?_
  · have hcq0 : ¬ (¬ (r7 = true)) := (i_neg (i_not Iff.rfl) hc10)
    exact g_move (v := .slice a1 n1 c1) rfl
  obtain ⟨r12, hk13, hm⟩ := hm
  refine wl_guardE (X := Ext) (c := (!r7) = false) (val := .bool r12) (Ext.refl _) (b := ((!r7) == false)) (gv_some rfl rfl rfl) beq_iff_eq (fun hc11 => ?_) (fun w14 hE15 => ?_)
  · have hcq0 : ¬ (¬ (r7 = true)) := (i_neg (i_not Iff.rfl) hc11)
    exact (g_call (vs := #[.slice a1 n1 c1]) CF61 (args1 (if_pos hc11)) ((m_impl_arePuppets_fn ((hp1.bel hB8).up hS9) (hk13 hcq0)).mono fun _ _ ⟨_, h1, h2, h3⟩ => ⟨by rw [h2, h1], h3⟩))
  have hB16 := hB8.trans (Ext.stp hE15 hS9.base)
  have hS17 := hS9.ext hE15
  refine wl_guard (c := (!r7) = false) (val := .bool (!r12)) (b := ((!r7) == false)) (gv_some rfl rfl rfl) beq_iff_eq (fun hc18 => ?_) ?_
  · have hcq0 : ¬ (¬ (r7 = true)) := (i_neg (i_not Iff.rfl) hc18)
    exact g_not (a := r12) (if_pos hc18)
  refine wl_val (g_pick_or (b := (!r7)) (q := (!r12)) rfl rfl) rfl ?_
  refine wl_nil ?_
  refine hK3 _ _ ?_
  refine w_condI (p := ((¬ (r7 = true)) ∨ (¬ (r12 = true)))) (b := ((!r7) || (!r12))) rfl (i_or (i_not Iff.rfl) (i_not Iff.rfl)) (fun h19 => ?_) (fun h19 => ?_)
  · replace hm := hm.1 h19
    refine w_seq fun K20 hK20 => ?_
    refine w_region ?_
    refine wl_val (g_assign (v := .slice none 0 0) rfl) rfl ?_
    refine wl_val (g_assign (v := .bool false) rfl) rfl ?_
    refine wl_nil ?_
    refine hK20 _ _ ?_
    refine w_ret ?_
    have hS21 := hS17.nilS (α := Int) (E := 3)
    repeat first | with_reducible refine q_then ?_ | with_reducible refine q_block ?_
    exact ret2 rfl (by decide) (by decide) ⟨_, _, _, _, _, hm, rfl, toExt hB16, hS21⟩
  · replace hm := hm.2 h19
    refine w_skip ?_
    refine hK2 _ _ ?_
    refine w_cut (σ := Unit) (fun _ => []) (fun _ w' => m_impl_ShortSet_K0 Q ∧ Below w.heap.size w w' ∧ Sep w' w.heap.size []) ?_ ?_
    · refine w_seq fun K24 hK24 => ?_
      refine w_region ?_
      refine wl_val (g_move (v := .slice a1 n1 c1) rfl) rfl ?_
      refine wl_val (q_len SL23 rfl (Vw.len (hp1.bel hB16))) rfl ?_
      obtain ⟨hg25, hm⟩ := hm
      obtain ⟨hg26, hm⟩ := hm
      refine wl_val (g_shl (a := 1) (b := (p1.length : Int)) rfl rfl hg25 hg26) rfl ?_
      refine wl_val (g_move (v := .int .i64 0) rfl) rfl ?_
      refine wl_nil ?_
      refine hK24 _ _ ?_
      refine w_block ?_
      obtain ⟨I62, μ63, h064, hr65⟩ := hm
      refine w_for (σ := Int) (fun v61 => [(0, .slice a0 n0 c0), (1, .slice a1 n1 c1), (18, .int .i64 (sal 1 (p1.length : Int))), (19, .int .i64 v61)]) (fun v61 w' => I62 v61 ∧ Below w.heap.size w w' ∧ Sep w' w.heap.size []) (fun v61 => μ63 v61) (0) ⟨rfl, rfl, rfl, rfl, trivial⟩ ⟨h064, hB16, hS17⟩ ?_
      rintro v61 b_ w66 ⟨hi_, hB67, hS68⟩
      show Wp _ _ _ _ (upds b_ [(0, .slice a0 n0 c0), (1, .slice a1 n1 c1), (18, .int .i64 (sal 1 (p1.length : Int))), (19, .int .i64 v61)]) w66
      have hm := hr65 v61 hi_
      refine w_seq fun K70 hK70 => ?_
      refine w_region ?_
      refine wl_val (g_lss (a := v61) (b := (sal 1 (p1.length : Int))) rfl rfl) rfl ?_
      refine wl_nil ?_
      refine hK70 _ _ ?_
      refine w_seq fun K71 hK71 => ?_
      refine w_condI (p := v61 < (sal 1 (p1.length : Int))) (b := (decide (v61 < (sal 1 (p1.length : Int))))) rfl decide_eq_true_iff (fun h72 => ?_) (fun h72 => ?_)
      · replace hm := hm.1 h72
        refine w_skip ?_
        refine hK71 _ _ ?_
        refine w_seq fun K73 hK73 => ?_
        refine w_block ?_
        refine w_seq fun K74 hK74 => ?_
        refine w_region ?_
        refine wl_val (g_move (v := .int .i64 v61) rfl) rfl ?_
        refine wl_val (g_assign (v := .int .i64 v61) rfl) rfl ?_
        refine wl_nil ?_
        refine hK74 _ _ ?_
        refine w_seq fun K75 hK75 => ?_
        refine w_region ?_
        refine wl_val (g_move (v := .slice a1 n1 c1) rfl) rfl ?_
        refine wl_val (g_move (v := .int .i64 v61) rfl) rfl ?_
        refine wl_step rfl (g_call (vs := #[.slice a1 n1 c1, .int .i64 v61]) CF67 (args2 rfl rfl) (m_impl_subset_fn ((hp1.bel hB67).up hS68) v61 hm)) ?_
        rintro _ w76 ⟨r79, a80, n81, c82, hm, rfl, hE77, hN78⟩
        have hS84 := hS68.call1 hE77 hN78
        have hB85 := hB67.trans (Ext.stp hE77 hS68.base)
        refine wl_val (g_assign (v := .slice a80 n81 c82) rfl) rfl ?_
        refine wl_nil ?_
        refine hK75 _ _ ?_
        refine w_seq fun K86 hK86 => ?_
        refine w_region ?_
        refine wl_val (g_move (v := .slice a0 n0 c0) rfl) rfl ?_
        refine wl_val (g_move (v := .slice a80 n81 c82) rfl) rfl ?_
        refine wl_step rfl (g_call (vs := #[.slice a0 n0 c0, .slice a80 n81 c82]) CF47 (args2 rfl rfl) (m_impl_IsShort_fn ((hp0.bel hB85).up hS84) (oS.vw hS84.g0) hm)) ?_
        rintro _ w87 ⟨r90, hm, rfl, hE88⟩
        have hB91 := hB85.trans (Ext.stp hE88 hS84.base)
        have hS92 := hS84.ext hE88
        refine wl_nil ?_
        refine hK86 _ _ ?_
        refine w_condI (p := r90 = true) (b := r90) rfl Iff.rfl (fun h93 => ?_) (fun h93 => ?_)
        · replace hm := hm.1 h93
          refine w_seq fun K94 hK94 => ?_
          refine w_region ?_
          refine wl_val (g_move (v := .slice a80 n81 c82) rfl) rfl ?_
          refine wl_val (g_assign (v := .slice a80 n81 c82) rfl) rfl ?_
          refine wl_val (g_assign (v := .bool true) rfl) rfl ?_
          refine wl_nil ?_
          refine hK94 _ _ ?_
          refine w_ret ?_
          repeat first | with_reducible refine q_then ?_ | with_reducible refine q_block ?_
          exact ret2 rfl (by decide) (by decide) ⟨_, _, _, _, _, hm, rfl, toExt hB91, hS92⟩
        · replace hm := hm.2 h93
          refine w_skip ?_
          refine hK73 _ _ ?_
          refine w_region ?_
          obtain ⟨hg95, hm⟩ := hm
          refine wl_val (g_add (a := v61) (b := 1) rfl rfl hg95) rfl ?_
          refine wl_val (g_move (v := .int .i64 (v61 + 1)) rfl) rfl ?_
          refine wl_nil ?_
          have hS96 := hS92.tail
          exact ⟨((v61 + 1)), hm.2, ⟨rfl, rfl, rfl, rfl, trivial⟩, ⟨hm.1, hB91, hS96⟩⟩
      · replace hm := hm.2 h72
        refine w_exit ?_
        exact ⟨(), trivial, ⟨hm, hB67, hS68⟩⟩
    · rintro _ b_ w97 ⟨hm, hB98, hS99⟩
      show Wp _ _ _ _ (upds b_ []) w97
      refine w_seq fun K100 hK100 => ?_
      refine w_region ?_
      refine wl_val (g_assign (v := .slice none 0 0) rfl) rfl ?_
      refine wl_val (g_assign (v := .bool false) rfl) rfl ?_
      refine wl_nil ?_
      refine hK100 _ _ ?_
      refine w_ret ?_
      have hS101 := hS99.nilS (α := Int) (E := 3)
      repeat first | with_reducible refine q_then ?_ | with_reducible refine q_block ?_
      exact ret2 rfl (by decide) (by decide) ⟨_, _, _, _, _, hm, rfl, toExt hB98, hS101⟩

end Go.Proofs.Ytddjkiefadiijaa
