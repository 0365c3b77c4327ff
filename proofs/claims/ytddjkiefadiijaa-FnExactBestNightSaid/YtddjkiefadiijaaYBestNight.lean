/- The walks: the code does what its model says. Printed by a program (gen2.py). No statement of the claim stands here. -/
import Derived.Test.YtddjkiefadiijaaSop
import Derived.Test.YtddjkiefadiijaaFacts
import Derived.Test.YtddjkiefadiijaaMG
import Derived.Test.YtddjkiefadiijaaWG1
import Derived.Test.YtddjkiefadiijaaWG2
import Derived.Test.YtddjkiefadiijaaWG3
import Derived.Test.YtddjkiefadiijaaWG4
namespace Go.Proofs.Ytddjkiefadiijaa
open Go Go.RowKit
set_option maxRecDepth 100000
theorem m_laws_FnExactBestNight_fn {w : World} {a0 : Option Addr} {n0 c0 : Nat} {y0 : List PlayerD} {p0 : List PlayerC} {a1 : Option Addr} {n1 c1 : Nat} {y1 : List (Hd Int)} {p1 : List (List Int)} {Q : Bool → Prop} (hp0 : Tv w.heap.size w a0 n0 c0 y0 p0) (hp1 : Tv w.heap.size w a1 n1 c1 y1 p1) (hm : m_laws_FnExactBestNight p0 p1 Q) :
    Fn Try.prog 8 #[.slice a0 n0 c0, .slice a1 n1 c1] w (fun v w' => ∃ (r0 : Bool), Q r0 ∧ v = .bool r0 ∧ Ext w w') := by
  unfold m_laws_FnExactBestNight at hm
  have hB0 := Below.refl w.heap.size w
  have hS0 : Sep w w.heap.size [] := Sep.nil (Nat.le_refl _)
  refine fn_of_wp Try.func8 rfl (by kernel_rfl) (Nat.le_of_ble_eq_true rfl) ?_
  refine w_seq fun K1 hK1 => ?_
  refine w_region ?_
  refine wl_val (g_assign (v := .bool false) rfl) rfl ?_
  refine wl_nil ?_
  refine hK1 _ _ ?_
  refine w_seq fun K2 hK2 => ?_
  refine w_region ?_
  refine wl_val (g_assign (v := .int .i64 1048576) rfl) rfl ?_
  refine wl_nil ?_
  refine hK2 _ _ ?_
  refine w_seq fun K3 hK3 => ?_
  refine w_region ?_
  refine wl_val (g_move (v := .slice a0 n0 c0) rfl) rfl ?_
  refine wl_val (g_move (v := .int .i64 1048576) rfl) rfl ?_
  refine wl_step rfl (g_call (vs := #[.slice a0 n0 c0, .int .i64 1048576]) CF12 (args2 rfl rfl) (m_laws_szPlayerS_fn ((hp0.bel hB0).up hS0) 1048576 hm)) ?_
  rintro _ w4 ⟨r7, hm, rfl, hE5⟩
  have hB8 := hB0.trans (Ext.stp hE5 hS0.base)
  have hS9 := hS0.ext hE5
  refine wl_val (g_assign (v := .int .i64 r7) rfl) rfl ?_
  refine wl_nil ?_
  refine hK3 _ _ ?_
  refine w_seq fun K10 hK10 => ?_
  refine w_seq fun K11 hK11 => ?_
  refine w_region ?_
  refine wl_val (g_move (v := .int .i64 r7) rfl) rfl ?_
  refine wl_val (g_lss (a := r7) (b := 0) rfl rfl) rfl ?_
  refine wl_nil ?_
  refine hK11 _ _ ?_
  refine w_condI (p := r7 < 0) (b := (decide (r7 < 0))) rfl decide_eq_true_iff (fun h12 => ?_) (fun h12 => ?_)
  · replace hm := hm.1 h12
    refine w_seq fun K13 hK13 => ?_
    refine w_region ?_
    refine wl_val (g_assign (v := .bool true) rfl) rfl ?_
    refine wl_nil ?_
    refine hK13 _ _ ?_
    refine w_ret ?_
    repeat first | with_reducible refine q_then ?_ | with_reducible refine q_block ?_
    exact ret1 rfl (by decide) ⟨_, hm, rfl, toExt hB8⟩
  · replace hm := hm.2 h12
    refine w_skip ?_
    refine hK10 _ _ ?_
    refine w_seq fun K14 hK14 => ?_
    refine w_region ?_
    refine wl_val (g_move (v := .slice a1 n1 c1) rfl) rfl ?_
    refine wl_val (g_move (v := .int .i64 r7) rfl) rfl ?_
    refine wl_step rfl (g_call (vs := #[.slice a1 n1 c1, .int .i64 r7]) CF31 (args2 rfl rfl) (m_laws_szIntSS_fn ((hp1.bel hB8).up hS9) r7 hm)) ?_
    rintro _ w15 ⟨r18, hm, rfl, hE16⟩
    have hB19 := hB8.trans (Ext.stp hE16 hS9.base)
    have hS20 := hS9.ext hE16
    refine wl_val (g_assign (v := .int .i64 r18) rfl) rfl ?_
    refine wl_nil ?_
    refine hK14 _ _ ?_
    refine w_seq fun K21 hK21 => ?_
    refine w_seq fun K22 hK22 => ?_
    refine w_region ?_
    refine wl_val (g_move (v := .int .i64 r18) rfl) rfl ?_
    refine wl_val (g_lss (a := r18) (b := 0) rfl rfl) rfl ?_
    refine wl_nil ?_
    refine hK22 _ _ ?_
    refine w_condI (p := r18 < 0) (b := (decide (r18 < 0))) rfl decide_eq_true_iff (fun h23 => ?_) (fun h23 => ?_)
    · replace hm := hm.1 h23
      refine w_seq fun K24 hK24 => ?_
      refine w_region ?_
      refine wl_val (g_assign (v := .bool true) rfl) rfl ?_
      refine wl_nil ?_
      refine hK24 _ _ ?_
      refine w_ret ?_
      repeat first | with_reducible refine q_then ?_ | with_reducible refine q_block ?_
      exact ret1 rfl (by decide) ⟨_, hm, rfl, toExt hB19⟩
    · replace hm := hm.2 h23
      refine w_skip ?_
      refine hK21 _ _ ?_
      refine w_seq fun K25 hK25 => ?_
      refine w_region ?_
      refine wl_val (g_move (v := .slice a0 n0 c0) rfl) rfl ?_
      refine wl_step rfl (g_call (vs := #[.slice a0 n0 c0]) CF14 (args1 rfl) (m_laws_toPlayerS_fn ((hp0.bel hB19).up hS20) hm)) ?_
      rintro _ w26 ⟨r29, a30, n31, c32, y33, hm, he34, rfl, hE27, hN28⟩
      have hS38 := hS20.call2 hE27 hN28
      have hB39 := hB19.trans (Ext.stp hE27 hS20.base)
      refine wl_val (g_move (v := .slice a1 n1 c1) rfl) rfl ?_
      refine wl_step rfl (g_call (vs := #[.slice a1 n1 c1]) CF33 (args1 rfl) (m_laws_toIntSS_fn ((hp1.bel hB39).up hS38) hm)) ?_
      rintro _ w40 ⟨r43, a44, n45, c46, y47, hm, he48, rfl, hE41, hN42⟩
      have hS52 := hS38.call2 hE41 hN42
      have hB53 := hB39.trans (Ext.stp hE41 hS38.base)
      refine wl_step rfl (g_call (vs := #[.slice a30 n31 c32, .slice a44 n45 c46]) CF35 (args2 rfl rfl) (m_spec_BestNight_fn (oT.vw hS52.g2 hS52.g3 he34) (oT.vw hS52.g0 hS52.g1 he48) hm)) ?_
      rintro _ w54 ⟨r57, a58, n59, c60, y61, r66, hm, he62, rfl, hE55, hN56⟩
      have hS67 := hS52.call2 hE55 hN56
      have hB68 := hB53.trans (Ext.stp hE55 hS52.base)
      refine wl_val (g_move (v := .tuple #[.slice a58 n59 c60, .bool r66]) rfl) rfl ?_
      refine wl_val (g_extract (vs := #[.slice a58 n59 c60, .bool r66]) rfl rfl) rfl ?_
      refine wl_val (g_extract (vs := #[.slice a58 n59 c60, .bool r66]) rfl rfl) rfl ?_
      refine wl_val (g_assign (v := .slice a58 n59 c60) rfl) rfl ?_
      refine wl_val (g_assign (v := .bool r66) rfl) rfl ?_
      refine wl_nil ?_
      refine hK25 _ _ ?_
      refine w_seq fun K69 hK69 => ?_
      refine w_region ?_
      refine wl_val (g_move (v := .slice a0 n0 c0) rfl) rfl ?_
      refine wl_step rfl (g_call (vs := #[.slice a0 n0 c0]) CF14 (args1 rfl) (m_laws_toPlayerS_fn ((hp0.bel hB68).up hS67) hm)) ?_
      rintro _ w70 ⟨r73, a74, n75, c76, y77, hm, he78, rfl, hE71, hN72⟩
      have hS82 := hS67.call2 hE71 hN72
      have hB83 := hB68.trans (Ext.stp hE71 hS67.base)
      refine wl_val (g_assign (v := .slice a74 n75 c76) rfl) rfl ?_
      refine wl_nil ?_
      refine hK69 _ _ ?_
      refine w_seq fun K84 hK84 => ?_
      refine w_region ?_
      refine wl_val (g_move (v := .slice a1 n1 c1) rfl) rfl ?_
      refine wl_step rfl (g_call (vs := #[.slice a1 n1 c1]) CF33 (args1 rfl) (m_laws_toIntSS_fn ((hp1.bel hB83).up hS82) hm)) ?_
      rintro _ w85 ⟨r88, a89, n90, c91, y92, hm, he93, rfl, hE86, hN87⟩
      have hS97 := hS82.call2 hE86 hN87
      have hB98 := hB83.trans (Ext.stp hE86 hS82.base)
      refine wl_val (g_assign (v := .slice a89 n90 c91) rfl) rfl ?_
      refine wl_nil ?_
      refine hK84 _ _ ?_
      refine w_seq fun K99 hK99 => ?_
      refine w_region ?_
      refine wl_val (g_move (v := .slice a74 n75 c76) rfl) rfl ?_
      refine wl_val (g_move (v := .slice a89 n90 c91) rfl) rfl ?_
      refine wl_step rfl (g_call (vs := #[.slice a74 n75 c76, .slice a89 n90 c91]) CF36 (args2 rfl rfl) (m_impl_BestNight_fn (oT.vw hS97.g2 hS97.g3 he78) (oT.vw hS97.g0 hS97.g1 he93) hm)) ?_
      rintro _ w100 ⟨r103, a104, n105, c106, y107, r112, hm, he108, rfl, hE101, hN102⟩
      have hS113 := hS97.call2 hE101 hN102
      have hB114 := hB98.trans (Ext.stp hE101 hS97.base)
      refine wl_val (g_move (v := .tuple #[.slice a104 n105 c106, .bool r112]) rfl) rfl ?_
      refine wl_val (g_extract (vs := #[.slice a104 n105 c106, .bool r112]) rfl rfl) rfl ?_
      refine wl_val (g_extract (vs := #[.slice a104 n105 c106, .bool r112]) rfl rfl) rfl ?_
      refine wl_val (g_assign (v := .slice a104 n105 c106) rfl) rfl ?_
      refine wl_val (g_assign (v := .bool r112) rfl) rfl ?_
      refine wl_nil ?_
      refine hK99 _ _ ?_
      refine w_seq fun K115 hK115 => ?_
      refine w_seq fun K116 hK116 => ?_
      refine w_region ?_
      refine wl_val (g_move (v := .slice a104 n105 c106) rfl) rfl ?_
      refine wl_val (g_move (v := .slice a58 n59 c60) rfl) rfl ?_
      refine wl_step rfl (g_call (vs := #[.slice a104 n105 c106, .slice a58 n59 c60]) CF28 (args2 rfl rfl) (m_laws_eqIntSS_fn (oT.vw hS113.g0 hS113.g1 he108) (oT.vw hS113.g6 hS113.g7 he62) hm)) ?_
      rintro _ w117 ⟨r120, hm, rfl, hE118⟩
      have hB121 := hB114.trans (Ext.stp hE118 hS113.base)
      have hS122 := hS113.ext hE118
      refine wl_val (g_not (a := r120) rfl) rfl ?_
      refine wl_val (g_move (v := .bool (!r120)) rfl) rfl ?_
      refine wl_guard (c := (!r120) = false) (val := .bool r112) (b := ((!r120) == false)) (gv_some rfl rfl rfl) beq_iff_eq (fun hc123 => ?_) ?_
      · have hcq0 : ¬ (¬ (r120 = true)) := (i_neg (i_not Iff.rfl) hc123)
        exact g_move (v := .bool r112) rfl
      refine wl_guard (c := (!r120) = false) (val := .bool r66) (b := ((!r120) == false)) (gv_some rfl rfl rfl) beq_iff_eq (fun hc124 => ?_) ?_
      · have hcq0 : ¬ (¬ (r120 = true)) := (i_neg (i_not Iff.rfl) hc124)
        exact g_move (v := .bool r66) rfl
      refine wl_guard (c := (!r120) = false) (val := .bool (decide ((r112) ≠ (r66)))) (b := ((!r120) == false)) (gv_some rfl rfl rfl) beq_iff_eq (fun hc125 => ?_) ?_
      · have hcq0 : ¬ (¬ (r120 = true)) := (i_neg (i_not Iff.rfl) hc125)
        exact g_neq_b (a := r112) (b := r66) UB (if_pos hc125) (if_pos hc125)
      refine wl_val (g_pick_or (b := (!r120)) (q := (decide ((r112) ≠ (r66)))) rfl rfl) rfl ?_
      refine wl_nil ?_
      refine hK116 _ _ ?_
      refine w_condI (p := ((¬ (r120 = true)) ∨ ((r112) ≠ (r66)))) (b := ((!r120) || (decide ((r112) ≠ (r66))))) rfl (i_or (i_not Iff.rfl) decide_eq_true_iff) (fun h126 => ?_) (fun h126 => ?_)
      · replace hm := hm.1 h126
        refine w_seq fun K127 hK127 => ?_
        refine w_region ?_
        refine wl_val (g_assign (v := .bool false) rfl) rfl ?_
        refine wl_nil ?_
        refine hK127 _ _ ?_
        refine w_ret ?_
        repeat first | with_reducible refine q_then ?_ | with_reducible refine q_block ?_
        exact ret1 rfl (by decide) ⟨_, hm, rfl, toExt hB121⟩
      · replace hm := hm.2 h126
        refine w_skip ?_
        refine hK115 _ _ ?_
        refine w_seq fun K128 hK128 => ?_
        refine w_seq fun K129 hK129 => ?_
        refine w_region ?_
        refine wl_val (g_move (v := .slice a74 n75 c76) rfl) rfl ?_
        refine wl_val (g_move (v := .slice a0 n0 c0) rfl) rfl ?_
        refine wl_step rfl (g_call (vs := #[.slice a0 n0 c0]) CF14 (args1 rfl) (m_laws_toPlayerS_fn ((hp0.bel hB121).up hS122) hm)) ?_
        rintro _ w130 ⟨r133, a134, n135, c136, y137, hm, he138, rfl, hE131, hN132⟩
        have hS142 := hS122.call2 hE131 hN132
        have hB143 := hB121.trans (Ext.stp hE131 hS122.base)
        refine wl_step rfl (g_call (vs := #[.slice a74 n75 c76, .slice a134 n135 c136]) CF18 (args2 rfl rfl) (m_laws_eqPlayerS_fn (oT.vw hS142.g6 hS142.g7 he78) (oT.vw hS142.g0 hS142.g1 he138) hm)) ?_
        rintro _ w144 ⟨r147, hm, rfl, hE145⟩
        have hB148 := hB143.trans (Ext.stp hE145 hS142.base)
        have hS149 := hS142.ext hE145
        refine wl_val (g_not (a := r147) rfl) rfl ?_
        refine wl_nil ?_
        refine hK129 _ _ ?_
        refine w_condI (p := ¬ (r147 = true)) (b := (!r147)) rfl (i_not Iff.rfl) (fun h150 => ?_) (fun h150 => ?_)
        · replace hm := hm.1 h150
          refine w_seq fun K151 hK151 => ?_
          refine w_region ?_
          refine wl_val (g_assign (v := .bool false) rfl) rfl ?_
          refine wl_nil ?_
          refine hK151 _ _ ?_
          refine w_ret ?_
          repeat first | with_reducible refine q_then ?_ | with_reducible refine q_block ?_
          exact ret1 rfl (by decide) ⟨_, hm, rfl, toExt hB148⟩
        · replace hm := hm.2 h150
          refine w_skip ?_
          refine hK128 _ _ ?_
          refine w_seq fun K152 hK152 => ?_
          refine w_seq fun K153 hK153 => ?_
          refine w_region ?_
          refine wl_val (g_move (v := .slice a89 n90 c91) rfl) rfl ?_
          refine wl_val (g_move (v := .slice a1 n1 c1) rfl) rfl ?_
          refine wl_step rfl (g_call (vs := #[.slice a1 n1 c1]) CF33 (args1 rfl) (m_laws_toIntSS_fn ((hp1.bel hB148).up hS149) hm)) ?_
          rintro _ w154 ⟨r157, a158, n159, c160, y161, hm, he162, rfl, hE155, hN156⟩
          have hS166 := hS149.call2 hE155 hN156
          have hB167 := hB148.trans (Ext.stp hE155 hS149.base)
          refine wl_step rfl (g_call (vs := #[.slice a89 n90 c91, .slice a158 n159 c160]) CF28 (args2 rfl rfl) (m_laws_eqIntSS_fn (oT.vw hS166.g6 hS166.g7 he93) (oT.vw hS166.g0 hS166.g1 he162) hm)) ?_
          rintro _ w168 ⟨r171, hm, rfl, hE169⟩
          have hB172 := hB167.trans (Ext.stp hE169 hS166.base)
          have hS173 := hS166.ext hE169
          refine wl_val (g_not (a := r171) rfl) rfl ?_
          refine wl_nil ?_
          refine hK153 _ _ ?_
          refine w_condI (p := ¬ (r171 = true)) (b := (!r171)) rfl (i_not Iff.rfl) (fun h174 => ?_) (fun h174 => ?_)
          · replace hm := hm.1 h174
            refine w_seq fun K175 hK175 => ?_
            refine w_region ?_
            refine wl_val (g_assign (v := .bool false) rfl) rfl ?_
            refine wl_nil ?_
            refine hK175 _ _ ?_
            refine w_ret ?_
            repeat first | with_reducible refine q_then ?_ | with_reducible refine q_block ?_
            exact ret1 rfl (by decide) ⟨_, hm, rfl, toExt hB172⟩
          · replace hm := hm.2 h174
            refine w_skip ?_
            refine hK152 _ _ ?_
            refine w_seq fun K176 hK176 => ?_
            refine w_region ?_
            refine wl_val (g_assign (v := .int .i64 1) rfl) rfl ?_
            refine wl_nil ?_
            refine hK176 _ _ ?_
            refine w_seq fun K177 hK177 => ?_
            refine w_region ?_
            refine wl_val (g_move (v := .slice a74 n75 c76) rfl) rfl ?_
            refine wl_val (g_move (v := .int .i64 1) rfl) rfl ?_
            have hS178 := hS173.f9
            have hS179 := hS178.f9
            refine wl_step rfl (g_call (vs := #[.slice a74 n75 c76, .int .i64 1]) CF19 (args2 rfl rfl) (m_laws_markPlayerS_fn hS179 he78 1 hm)) ?_
            rintro _ w180 ⟨r183, x184, y185, hm, he186, rfl, hb181, hS182⟩
            have hB187 := hB172.trans hb181
            refine wl_val (g_assign (v := .int .i64 r183) rfl) rfl ?_
            refine wl_nil ?_
            refine hK177 _ _ ?_
            refine w_seq fun K188 hK188 => ?_
            refine w_region ?_
            refine wl_val (g_move (v := .slice a89 n90 c91) rfl) rfl ?_
            refine wl_val (g_move (v := .int .i64 r183) rfl) rfl ?_
            have hS189 := hS182.f9
            have hS190 := hS189.f9
            refine wl_step rfl (g_call (vs := #[.slice a89 n90 c91, .int .i64 r183]) CF29 (args2 rfl rfl) (m_laws_markIntSS_fn hS190 he93 r183 hm)) ?_
            rintro _ w191 ⟨r194, x195, y196, hm, he197, rfl, hb192, hS193⟩
            have hB198 := hB187.trans hb192
            refine wl_val (g_assign (v := .int .i64 r194) rfl) rfl ?_
            refine wl_nil ?_
            refine hK188 _ _ ?_
            refine w_seq fun K199 hK199 => ?_
            refine w_seq fun K200 hK200 => ?_
            refine w_region ?_
            refine wl_val (g_move (v := .int .i64 r194) rfl) rfl ?_
            refine wl_val (g_lss (a := r194) (b := 0) rfl rfl) rfl ?_
            refine wl_val (g_move (v := .bool (decide (r194 < 0))) rfl) rfl ?_
            refine wl_guard (c := (decide (r194 < 0)) = false) (val := .slice a104 n105 c106) (b := ((decide (r194 < 0)) == false)) (gv_some rfl rfl rfl) beq_iff_eq (fun hc201 => ?_) ?_
            · have hcq1 : ¬ (r194 < 0) := (i_neg decide_eq_true_iff hc201)
              exact g_move (v := .slice a104 n105 c106) rfl
            refine wl_guard (c := (decide (r194 < 0)) = false) (val := .slice a58 n59 c60) (b := ((decide (r194 < 0)) == false)) (gv_some rfl rfl rfl) beq_iff_eq (fun hc202 => ?_) ?_
            · have hcq1 : ¬ (r194 < 0) := (i_neg decide_eq_true_iff hc202)
              exact g_move (v := .slice a58 n59 c60) rfl
            obtain ⟨r204, hk205, hm⟩ := hm
            refine wl_guardE (X := Ext) (c := (decide (r194 < 0)) = false) (val := .bool r204) (Ext.refl _) (b := ((decide (r194 < 0)) == false)) (gv_some rfl rfl rfl) beq_iff_eq (fun hc203 => ?_) (fun w206 hE207 => ?_)
            · have hcq1 : ¬ (r194 < 0) := (i_neg decide_eq_true_iff hc203)
              exact (g_call (vs := #[.slice a104 n105 c106, .slice a58 n59 c60]) CF28 (args2 (if_pos hc203) (if_pos hc203)) ((m_laws_eqIntSS_fn (oT.vw hS193.g8 hS193.g9 he108) (oT.vw hS193.g10 hS193.g11 he62) (hk205 hcq1)).mono fun _ _ ⟨_, h1, h2, h3⟩ => ⟨by rw [h2, h1], h3⟩))
            have hB208 := hB198.trans (Ext.stp hE207 hS193.base)
            have hS209 := hS193.ext hE207
            refine wl_guard (c := (decide (r194 < 0)) = false) (val := .bool (!r204)) (b := ((decide (r194 < 0)) == false)) (gv_some rfl rfl rfl) beq_iff_eq (fun hc210 => ?_) ?_
            · have hcq1 : ¬ (r194 < 0) := (i_neg decide_eq_true_iff hc210)
              exact g_not (a := r204) (if_pos hc210)
            refine wl_val (g_pick_or (b := (decide (r194 < 0))) (q := (!r204)) rfl rfl) rfl ?_
            refine wl_val (g_move (v := .bool ((decide (r194 < 0)) || (!r204))) rfl) rfl ?_
            refine wl_guard (c := ((decide (r194 < 0)) || (!r204)) = false) (val := .bool r112) (b := (((decide (r194 < 0)) || (!r204)) == false)) (gv_some rfl rfl rfl) beq_iff_eq (fun hc211 => ?_) ?_
            · have hcq2 : ¬ (((r194 < 0) ∨ (¬ (r204 = true)))) := (i_neg (i_or decide_eq_true_iff (i_not Iff.rfl)) hc211)
              exact g_move (v := .bool r112) rfl
            refine wl_guard (c := ((decide (r194 < 0)) || (!r204)) = false) (val := .bool r66) (b := (((decide (r194 < 0)) || (!r204)) == false)) (gv_some rfl rfl rfl) beq_iff_eq (fun hc212 => ?_) ?_
            · have hcq2 : ¬ (((r194 < 0) ∨ (¬ (r204 = true)))) := (i_neg (i_or decide_eq_true_iff (i_not Iff.rfl)) hc212)
              exact g_move (v := .bool r66) rfl
            refine wl_guard (c := ((decide (r194 < 0)) || (!r204)) = false) (val := .bool (decide ((r112) ≠ (r66)))) (b := (((decide (r194 < 0)) || (!r204)) == false)) (gv_some rfl rfl rfl) beq_iff_eq (fun hc213 => ?_) ?_
            · have hcq2 : ¬ (((r194 < 0) ∨ (¬ (r204 = true)))) := (i_neg (i_or decide_eq_true_iff (i_not Iff.rfl)) hc213)
              exact g_neq_b (a := r112) (b := r66) UB (if_pos hc213) (if_pos hc213)
            refine wl_val (g_pick_or (b := ((decide (r194 < 0)) || (!r204))) (q := (decide ((r112) ≠ (r66)))) rfl rfl) rfl ?_
            refine wl_nil ?_
            refine hK200 _ _ ?_
            refine w_condI (p := ((((r194 < 0) ∨ (¬ (r204 = true)))) ∨ ((r112) ≠ (r66)))) (b := (((decide (r194 < 0)) || (!r204)) || (decide ((r112) ≠ (r66))))) rfl (i_or (i_or decide_eq_true_iff (i_not Iff.rfl)) decide_eq_true_iff) (fun h214 => ?_) (fun h214 => ?_)
            · replace hm := hm.1 h214
              refine w_seq fun K215 hK215 => ?_
              refine w_region ?_
              refine wl_val (g_assign (v := .bool false) rfl) rfl ?_
              refine wl_nil ?_
              refine hK215 _ _ ?_
              refine w_ret ?_
              repeat first | with_reducible refine q_then ?_ | with_reducible refine q_block ?_
              exact ret1 rfl (by decide) ⟨_, hm, rfl, toExt hB208⟩
            · replace hm := hm.2 h214
              refine w_skip ?_
              refine hK199 _ _ ?_
              refine w_seq fun K216 hK216 => ?_
              refine w_region ?_
              refine wl_val (g_assign (v := .int .i64 1) rfl) rfl ?_
              refine wl_nil ?_
              refine hK216 _ _ ?_
              refine w_seq fun K217 hK217 => ?_
              refine w_region ?_
              refine wl_val (g_move (v := .slice a104 n105 c106) rfl) rfl ?_
              refine wl_val (g_move (v := .int .i64 1) rfl) rfl ?_
              have hS218 := hS209.f9
              have hS219 := hS218.f9
              refine wl_step rfl (g_call (vs := #[.slice a104 n105 c106, .int .i64 1]) CF29 (args2 rfl rfl) (m_laws_markIntSS_fn hS219 he108 1 hm)) ?_
              rintro _ w220 ⟨r223, x224, y225, hm, he226, rfl, hb221, hS222⟩
              have hB227 := hB208.trans hb221
              refine wl_val (g_assign (v := .int .i64 r223) rfl) rfl ?_
              refine wl_nil ?_
              refine hK217 _ _ ?_
              refine w_seq fun K228 hK228 => ?_
              refine w_region ?_
              refine wl_val (g_assign (v := .int .i64 1) rfl) rfl ?_
              refine wl_nil ?_
              refine hK228 _ _ ?_
              refine w_seq fun K229 hK229 => ?_
              refine w_region ?_
              refine wl_val (g_move (v := .slice a104 n105 c106) rfl) rfl ?_
              refine wl_val (g_move (v := .int .i64 1) rfl) rfl ?_
              refine wl_step rfl (g_call (vs := #[.slice a104 n105 c106, .int .i64 1]) CF30 (args2 rfl rfl) (m_laws_heldIntSS_fn (oT.vw hS222.g0 hS222.g1 he226) 1 hm)) ?_
              rintro _ w230 ⟨r233, hm, rfl, hE231⟩
              have hB234 := hB227.trans (Ext.stp hE231 hS222.base)
              have hS235 := hS222.ext hE231
              refine wl_val (g_assign (v := .int .i64 r233) rfl) rfl ?_
              refine wl_nil ?_
              refine hK229 _ _ ?_
              refine w_seq fun K236 hK236 => ?_
              refine w_seq fun K237 hK237 => ?_
              refine w_region ?_
              refine wl_val (g_move (v := .int .i64 r233) rfl) rfl ?_
              refine wl_val (g_lss (a := r233) (b := 0) rfl rfl) rfl ?_
              refine wl_nil ?_
              refine hK237 _ _ ?_
              refine w_condI (p := r233 < 0) (b := (decide (r233 < 0))) rfl decide_eq_true_iff (fun h238 => ?_) (fun h238 => ?_)
              · replace hm := hm.1 h238
                refine w_seq fun K239 hK239 => ?_
                refine w_region ?_
                refine wl_val (g_assign (v := .bool false) rfl) rfl ?_
                refine wl_nil ?_
                refine hK239 _ _ ?_
                refine w_ret ?_
                repeat first | with_reducible refine q_then ?_ | with_reducible refine q_block ?_
                exact ret1 rfl (by decide) ⟨_, hm, rfl, toExt hB234⟩
              · replace hm := hm.2 h238
                refine w_skip ?_
                refine hK236 _ _ ?_
                refine w_seq fun K240 hK240 => ?_
                refine w_seq fun K241 hK241 => ?_
                refine w_region ?_
                refine wl_val (g_move (v := .int .i64 r233) rfl) rfl ?_
                refine wl_val (g_move (v := .int .i64 r223) rfl) rfl ?_
                refine wl_val (g_neq (a := r233) (b := r223) rfl rfl) rfl ?_
                refine wl_nil ?_
                refine hK241 _ _ ?_
                refine w_condI (p := r233 ≠ r223) (b := (decide (r233 ≠ r223))) rfl decide_eq_true_iff (fun h242 => ?_) (fun h242 => ?_)
                · replace hm := hm.1 h242
                  refine w_seq fun K243 hK243 => ?_
                  refine w_region ?_
                  refine wl_val (g_assign (v := .bool false) rfl) rfl ?_
                  refine wl_nil ?_
                  refine hK243 _ _ ?_
                  refine w_ret ?_
                  repeat first | with_reducible refine q_then ?_ | with_reducible refine q_block ?_
                  exact ret1 rfl (by decide) ⟨_, hm, rfl, toExt hB234⟩
                · replace hm := hm.2 h242
                  refine w_skip ?_
                  refine hK240 _ _ ?_
                  refine w_seq fun K244 hK244 => ?_
                  refine w_region ?_
                  refine wl_val (g_move (v := .slice a0 n0 c0) rfl) rfl ?_
                  refine wl_step rfl (g_call (vs := #[.slice a0 n0 c0]) CF14 (args1 rfl) (m_laws_toPlayerS_fn ((hp0.bel hB234).up hS235) hm)) ?_
                  rintro _ w245 ⟨r248, a249, n250, c251, y252, hm, he253, rfl, hE246, hN247⟩
                  have hS257 := hS235.call2 hE246 hN247
                  have hB258 := hB234.trans (Ext.stp hE246 hS235.base)
                  refine wl_val (g_move (v := .slice a1 n1 c1) rfl) rfl ?_
                  refine wl_step rfl (g_call (vs := #[.slice a1 n1 c1]) CF33 (args1 rfl) (m_laws_toIntSS_fn ((hp1.bel hB258).up hS257) hm)) ?_
                  rintro _ w259 ⟨r262, a263, n264, c265, y266, hm, he267, rfl, hE260, hN261⟩
                  have hS271 := hS257.call2 hE260 hN261
                  have hB272 := hB258.trans (Ext.stp hE260 hS257.base)
                  refine wl_step rfl (g_call (vs := #[.slice a249 n250 c251, .slice a263 n264 c265]) CF36 (args2 rfl rfl) (m_impl_BestNight_fn (oT.vw hS271.g2 hS271.g3 he253) (oT.vw hS271.g0 hS271.g1 he267) hm)) ?_
                  rintro _ w273 ⟨r276, a277, n278, c279, y280, r285, hm, he281, rfl, hE274, hN275⟩
                  have hS286 := hS271.call2 hE274 hN275
                  have hB287 := hB272.trans (Ext.stp hE274 hS271.base)
                  refine wl_val (g_move (v := .tuple #[.slice a277 n278 c279, .bool r285]) rfl) rfl ?_
                  refine wl_val (g_extract (vs := #[.slice a277 n278 c279, .bool r285]) rfl rfl) rfl ?_
                  refine wl_val (g_extract (vs := #[.slice a277 n278 c279, .bool r285]) rfl rfl) rfl ?_
                  refine wl_val (g_assign (v := .slice a277 n278 c279) rfl) rfl ?_
                  refine wl_val (g_assign (v := .bool r285) rfl) rfl ?_
                  refine wl_nil ?_
                  refine hK244 _ _ ?_
                  refine w_seq fun K288 hK288 => ?_
                  refine w_seq fun K289 hK289 => ?_
                  refine w_region ?_
                  refine wl_val (g_move (v := .slice a277 n278 c279) rfl) rfl ?_
                  refine wl_val (g_move (v := .slice a58 n59 c60) rfl) rfl ?_
                  refine wl_step rfl (g_call (vs := #[.slice a277 n278 c279, .slice a58 n59 c60]) CF28 (args2 rfl rfl) (m_laws_eqIntSS_fn (oT.vw hS286.g0 hS286.g1 he281) (oT.vw hS286.g16 hS286.g17 he62) hm)) ?_
                  rintro _ w290 ⟨r293, hm, rfl, hE291⟩
                  have hB294 := hB287.trans (Ext.stp hE291 hS286.base)
                  have hS295 := hS286.ext hE291
                  refine wl_val (g_not (a := r293) rfl) rfl ?_
                  refine wl_val (g_move (v := .bool (!r293)) rfl) rfl ?_
                  refine wl_guard (c := (!r293) = false) (val := .bool r285) (b := ((!r293) == false)) (gv_some rfl rfl rfl) beq_iff_eq (fun hc296 => ?_) ?_
                  · have hcq3 : ¬ (¬ (r293 = true)) := (i_neg (i_not Iff.rfl) hc296)
                    exact g_move (v := .bool r285) rfl
                  refine wl_guard (c := (!r293) = false) (val := .bool r66) (b := ((!r293) == false)) (gv_some rfl rfl rfl) beq_iff_eq (fun hc297 => ?_) ?_
                  · have hcq3 : ¬ (¬ (r293 = true)) := (i_neg (i_not Iff.rfl) hc297)
                    exact g_move (v := .bool r66) rfl
                  refine wl_guard (c := (!r293) = false) (val := .bool (decide ((r285) ≠ (r66)))) (b := ((!r293) == false)) (gv_some rfl rfl rfl) beq_iff_eq (fun hc298 => ?_) ?_
                  · have hcq3 : ¬ (¬ (r293 = true)) := (i_neg (i_not Iff.rfl) hc298)
                    exact g_neq_b (a := r285) (b := r66) UB (if_pos hc298) (if_pos hc298)
                  refine wl_val (g_pick_or (b := (!r293)) (q := (decide ((r285) ≠ (r66)))) rfl rfl) rfl ?_
                  refine wl_nil ?_
                  refine hK289 _ _ ?_
                  refine w_condI (p := ((¬ (r293 = true)) ∨ ((r285) ≠ (r66)))) (b := ((!r293) || (decide ((r285) ≠ (r66))))) rfl (i_or (i_not Iff.rfl) decide_eq_true_iff) (fun h299 => ?_) (fun h299 => ?_)
                  · replace hm := hm.1 h299
                    refine w_seq fun K300 hK300 => ?_
                    refine w_region ?_
                    refine wl_val (g_assign (v := .bool false) rfl) rfl ?_
                    refine wl_nil ?_
                    refine hK300 _ _ ?_
                    refine w_ret ?_
                    repeat first | with_reducible refine q_then ?_ | with_reducible refine q_block ?_
                    exact ret1 rfl (by decide) ⟨_, hm, rfl, toExt hB294⟩
                  · replace hm := hm.2 h299
                    refine w_skip ?_
                    refine hK288 _ _ ?_
                    refine w_seq fun K301 hK301 => ?_
                    refine w_region ?_
                    refine wl_val (g_assign (v := .int .i64 1) rfl) rfl ?_
                    refine wl_nil ?_
                    refine hK301 _ _ ?_
                    refine w_seq fun K302 hK302 => ?_
                    refine w_region ?_
                    refine wl_val (g_move (v := .slice a104 n105 c106) rfl) rfl ?_
                    refine wl_val (g_move (v := .int .i64 1) rfl) rfl ?_
                    refine wl_step rfl (g_call (vs := #[.slice a104 n105 c106, .int .i64 1]) CF30 (args2 rfl rfl) (m_laws_heldIntSS_fn (oT.vw hS295.g6 hS295.g7 he226) 1 hm)) ?_
                    rintro _ w303 ⟨r306, hm, rfl, hE304⟩
                    have hB307 := hB294.trans (Ext.stp hE304 hS295.base)
                    have hS308 := hS295.ext hE304
                    refine wl_val (g_assign (v := .int .i64 r306) rfl) rfl ?_
                    refine wl_nil ?_
                    refine hK302 _ _ ?_
                    refine w_seq fun K309 hK309 => ?_
                    refine w_seq fun K310 hK310 => ?_
                    refine w_region ?_
                    refine wl_val (g_move (v := .int .i64 r306) rfl) rfl ?_
                    refine wl_val (g_lss (a := r306) (b := 0) rfl rfl) rfl ?_
                    refine wl_nil ?_
                    refine hK310 _ _ ?_
                    refine w_condI (p := r306 < 0) (b := (decide (r306 < 0))) rfl decide_eq_true_iff (fun h311 => ?_) (fun h311 => ?_)
                    · replace hm := hm.1 h311
                      refine w_seq fun K312 hK312 => ?_
                      refine w_region ?_
                      refine wl_val (g_assign (v := .bool false) rfl) rfl ?_
                      refine wl_nil ?_
                      refine hK312 _ _ ?_
                      refine w_ret ?_
                      repeat first | with_reducible refine q_then ?_ | with_reducible refine q_block ?_
                      exact ret1 rfl (by decide) ⟨_, hm, rfl, toExt hB307⟩
                    · replace hm := hm.2 h311
                      refine w_skip ?_
                      refine hK309 _ _ ?_
                      refine w_seq fun K313 hK313 => ?_
                      refine w_seq fun K314 hK314 => ?_
                      refine w_region ?_
                      refine wl_val (g_move (v := .int .i64 r306) rfl) rfl ?_
                      refine wl_val (g_move (v := .int .i64 r223) rfl) rfl ?_
                      refine wl_val (g_neq (a := r306) (b := r223) rfl rfl) rfl ?_
                      refine wl_nil ?_
                      refine hK314 _ _ ?_
                      refine w_condI (p := r306 ≠ r223) (b := (decide (r306 ≠ r223))) rfl decide_eq_true_iff (fun h315 => ?_) (fun h315 => ?_)
                      · replace hm := hm.1 h315
                        refine w_seq fun K316 hK316 => ?_
                        refine w_region ?_
                        refine wl_val (g_assign (v := .bool false) rfl) rfl ?_
                        refine wl_nil ?_
                        refine hK316 _ _ ?_
                        refine w_ret ?_
                        repeat first | with_reducible refine q_then ?_ | with_reducible refine q_block ?_
                        exact ret1 rfl (by decide) ⟨_, hm, rfl, toExt hB307⟩
                      · replace hm := hm.2 h315
                        refine w_skip ?_
                        refine hK313 _ _ ?_
                        refine w_seq fun K317 hK317 => ?_
                        refine w_region ?_
                        refine wl_val (g_assign (v := .bool true) rfl) rfl ?_
                        refine wl_nil ?_
                        refine hK317 _ _ ?_
                        refine w_ret ?_
                        repeat first | with_reducible refine q_then ?_ | with_reducible refine q_block ?_
                        exact ret1 rfl (by decide) ⟨_, hm, rfl, toExt hB307⟩

end Go.Proofs.Ytddjkiefadiijaa
