/- The walks: the code does what its model says. Printed by a program (gen2.py). No statement of the claim stands here. -/
import Derived.Test.YtddjkiefadiijaaSop
import Derived.Test.YtddjkiefadiijaaFacts
import Derived.Test.YtddjkiefadiijaaMG
import Derived.Test.YtddjkiefadiijaaWG1
namespace Go.Proofs.Ytddjkiefadiijaa
open Go Go.RowKit
set_option maxRecDepth 100000
theorem m_impl_MostCast_fn {w : World} {a0 : Option Addr} {n0 c0 : Nat} {y0 : List PlayerD} {p0 : List PlayerC} {a1 : Option Addr} {n1 c1 : Nat} {p1 : List Int} {Q : Int → Prop} (hp0 : Tv w.heap.size w a0 n0 c0 y0 p0) (hp1 : Vw w.heap.size w a1 n1 c1 p1) (hm : m_impl_MostCast p0 p1 Q) :
    Fn Try.prog 23 #[.slice a0 n0 c0, .slice a1 n1 c1] w (fun v w' => ∃ (r0 : Int), Q r0 ∧ v = .int .i64 r0 ∧ Ext w w') := by
  unfold m_impl_MostCast at hm
  have hB0 := Below.refl w.heap.size w
  have hS0 : Sep w w.heap.size [] := Sep.nil (Nat.le_refl _)
  refine fn_of_wp Try.func23 rfl (by kernel_rfl) (Nat.le_of_ble_eq_true rfl) ?_
  refine w_seq fun K1 hK1 => ?_
  refine w_region ?_
  refine wl_val (g_assign (v := .int .i64 0) rfl) rfl ?_
  refine wl_nil ?_
  refine hK1 _ _ ?_
  refine w_seq fun K2 hK2 => ?_
  refine w_seq fun K3 hK3 => ?_
  refine w_region ?_
  refine wl_val (g_move (v := .slice a0 n0 c0) rfl) rfl ?_
  refine wl_step rfl (g_call (vs := #[.slice a0 n0 c0]) CF44 (args1 rfl) (m_impl_PlayersOk_fn ((hp0.bel hB0).up hS0) hm)) ?_
  rintro _ w4 ⟨r7, hm, rfl, hE5⟩
  have hB8 := hB0.trans (Ext.stp hE5 hS0.base)
  have hS9 := hS0.ext hE5
  refine wl_val (g_not (a := r7) rfl) rfl ?_
  refine wl_val (g_move (v := .bool (!r7)) rfl) rfl ?_
  refine wl_guard (c := (!r7) = false) (val := .slice a1 n1 c1) (b := ((!r7) == false)) (gv_some rfl rfl rfl) beq_iff_eq (fun hc10 => ?_) ?_
  · have hcq0 : ¬ (¬ (r7 = true)) := (i_neg (i_not Iff.rfl) hc10)
    exact g_move (v := .slice a1 n1 c1) rfl
  obtain ⟨r12, hk13, hm⟩ := hm
  refine wl_guardE (X := Ext) (c := (!r7) = false) (val := .bool r12) (Ext.refl _) (b := ((!r7) == false)) (gv_some rfl rfl rfl) beq_iff_eq (fun hc11 => ?_) (fun w14 hE15 => ?_)
  · have hcq0 : ¬ (¬ (r7 = true)) := (i_neg (i_not Iff.rfl) hc11)
    exact (g_call (vs := #[.slice a1 n1 c1]) CF61 (args1 (if_pos hc11)) ((m_impl_arePuppets_fn ((hp1.bel hB8).up hS9) (hk13 hcq0)).mono fun _ _ ⟨_, h1, h2, h3⟩ => ⟨by rw [h2, h1], h3⟩))
  have hB16 := hB8.trans (Ext.stp hE15 hS9.base)
  have hS17 := hS9.ext hE15
  refine wl_guard (c := (!r7) = false) (val := .bool (!r12)) (b := ((!r7) == false)) (gv_some rfl rfl rfl) beq_iff_eq (fun hc18 => ?_) ?_
  · have hcq0 : ¬ (¬ (r7 = true)) := (i_neg (i_not Iff.rfl) hc18)
    exact g_not (a := r12) (if_pos hc18)
  refine wl_val (g_pick_or (b := (!r7)) (q := (!r12)) rfl rfl) rfl ?_
  refine wl_nil ?_
  refine hK3 _ _ ?_
  refine w_condI (p := ((¬ (r7 = true)) ∨ (¬ (r12 = true)))) (b := ((!r7) || (!r12))) rfl (i_or (i_not Iff.rfl) (i_not Iff.rfl)) (fun h19 => ?_) (fun h19 => ?_)
  · replace hm := hm.1 h19
    refine w_seq fun K20 hK20 => ?_
    refine w_region ?_
    refine wl_val (g_assign (v := .int .i64 (-1)) rfl) rfl ?_
    refine wl_nil ?_
    refine hK20 _ _ ?_
    refine w_ret ?_
    repeat first | with_reducible refine q_then ?_ | with_reducible refine q_block ?_
    exact ret1 rfl (by decide) ⟨_, hm, rfl, toExt hB16⟩
  · replace hm := hm.2 h19
    refine w_skip ?_
    refine hK2 _ _ ?_
    refine w_seq fun K21 hK21 => ?_
    refine w_region ?_
    refine wl_val (g_assign (v := .int .i64 0) rfl) rfl ?_
    refine wl_nil ?_
    refine hK21 _ _ ?_
    refine w_cut (σ := Int) (fun v150 => [(5, .int .i64 v150)]) (fun v150 w' => m_impl_MostCast_K0 Q v150 ∧ Below w.heap.size w w' ∧ Sep w' w.heap.size []) ?_ ?_
    · refine w_seq fun K152 hK152 => ?_
      refine w_region ?_
      refine wl_val (g_move (v := .slice a1 n1 c1) rfl) rfl ?_
      refine wl_val (q_len SL23 rfl (Vw.len (hp1.bel hB16))) rfl ?_
      obtain ⟨hg153, hm⟩ := hm
      obtain ⟨hg154, hm⟩ := hm
      refine wl_val (g_shl (a := 1) (b := (p1.length : Int)) rfl rfl hg153 hg154) rfl ?_
      refine wl_val (g_move (v := .int .i64 0) rfl) rfl ?_
      refine wl_nil ?_
      refine hK152 _ _ ?_
      refine w_block ?_
      obtain ⟨I157, μ158, h0159, hr160⟩ := hm
      refine w_for (σ := Int × Int) (fun ⟨v155, v156⟩ => [(0, .slice a0 n0 c0), (1, .slice a1 n1 c1), (5, .int .i64 v155), (20, .int .i64 (sal 1 (p1.length : Int))), (21, .int .i64 v156)]) (fun ⟨v155, v156⟩ w' => I157 v155 v156 ∧ Below w.heap.size w w' ∧ Sep w' w.heap.size []) (fun ⟨v155, v156⟩ => μ158 v155 v156) (0, 0) ⟨rfl, rfl, rfl, rfl, rfl, trivial⟩ ⟨h0159, hB16, hS17⟩ ?_
      rintro ⟨v155, v156⟩ b_ w161 ⟨hi_, hB162, hS163⟩
      show Wp _ _ _ _ (upds b_ [(0, .slice a0 n0 c0), (1, .slice a1 n1 c1), (5, .int .i64 v155), (20, .int .i64 (sal 1 (p1.length : Int))), (21, .int .i64 v156)]) w161
      have hm := hr160 v155 v156 hi_
      refine w_seq fun K165 hK165 => ?_
      refine w_region ?_
      refine wl_val (g_lss (a := v156) (b := (sal 1 (p1.length : Int))) rfl rfl) rfl ?_
      refine wl_nil ?_
      refine hK165 _ _ ?_
      refine w_seq fun K166 hK166 => ?_
      refine w_condI (p := v156 < (sal 1 (p1.length : Int))) (b := (decide (v156 < (sal 1 (p1.length : Int))))) rfl decide_eq_true_iff (fun h167 => ?_) (fun h167 => ?_)
      · replace hm := hm.1 h167
        refine w_skip ?_
        refine hK166 _ _ ?_
        refine w_seq fun K168 hK168 => ?_
        refine w_block ?_
        refine w_seq fun K169 hK169 => ?_
        refine w_region ?_
        refine wl_val (g_move (v := .int .i64 v156) rfl) rfl ?_
        refine wl_val (g_assign (v := .int .i64 v156) rfl) rfl ?_
        refine wl_nil ?_
        refine hK169 _ _ ?_
        refine w_seq fun K170 hK170 => ?_
        refine w_region ?_
        refine wl_val (g_move (v := .slice a1 n1 c1) rfl) rfl ?_
        refine wl_val (g_move (v := .int .i64 v156) rfl) rfl ?_
        refine wl_step rfl (g_call (vs := #[.slice a1 n1 c1, .int .i64 v156]) CF67 (args2 rfl rfl) (m_impl_subset_fn ((hp1.bel hB162).up hS163) v156 hm)) ?_
        rintro _ w171 ⟨r174, a175, n176, c177, hm, rfl, hE172, hN173⟩
        have hS179 := hS163.call1 hE172 hN173
        have hB180 := hB162.trans (Ext.stp hE172 hS163.base)
        refine wl_val (g_assign (v := .slice a175 n176 c177) rfl) rfl ?_
        refine wl_nil ?_
        refine hK170 _ _ ?_
        refine w_seq fun K181 hK181 => ?_
        refine w_seq fun K182 hK182 => ?_
        refine w_region ?_
        refine wl_val (g_move (v := .slice a175 n176 c177) rfl) rfl ?_
        refine wl_val (q_len SL23 rfl (Vw.len (oS.vw hS179.g0))) rfl ?_
        refine wl_val (g_move (v := .int .i64 v155) rfl) rfl ?_
        refine wl_val (g_leq (a := (r174.length : Int)) (b := v155) rfl rfl) rfl ?_
        refine wl_nil ?_
        refine hK182 _ _ ?_
        refine w_condI (p := (r174.length : Int) ≤ v155) (b := (decide ((r174.length : Int) ≤ v155))) rfl decide_eq_true_iff (fun h183 => ?_) (fun h183 => ?_)
        · replace hm := hm.1 h183
          refine w_exit ?_
          refine hK168 _ _ ?_
          refine w_region ?_
          obtain ⟨hg184, hm⟩ := hm
          refine wl_val (g_add (a := v156) (b := 1) rfl rfl hg184) rfl ?_
          refine wl_val (g_move (v := .int .i64 (v156 + 1)) rfl) rfl ?_
          refine wl_nil ?_
          have hS185 := hS179.tail
          exact ⟨(v155, (v156 + 1)), hm.2, ⟨rfl, rfl, rfl, rfl, rfl, trivial⟩, ⟨hm.1, hB180, hS185⟩⟩
        · replace hm := hm.2 h183
          refine w_skip ?_
          refine hK181 _ _ ?_
          refine w_seq fun K186 hK186 => ?_
          refine w_region ?_
          refine wl_val (g_move (v := .slice a0 n0 c0) rfl) rfl ?_
          refine wl_val (g_move (v := .slice a175 n176 c177) rfl) rfl ?_
          refine wl_step rfl (g_call (vs := #[.slice a0 n0 c0, .slice a175 n176 c177]) CF16 (args2 rfl rfl) (m_impl_FirstCasting_fn ((hp0.bel hB180).up hS179) (oS.vw hS179.g0) hm)) ?_
          rintro _ w187 ⟨r190, a191, n192, c193, r195, hm, rfl, hE188, hN189⟩
          have hS196 := hS179.call1 hE188 hN189
          have hB197 := hB180.trans (Ext.stp hE188 hS179.base)
          refine wl_val (g_move (v := .tuple #[.slice a191 n192 c193, .bool r195]) rfl) rfl ?_
          refine wl_val (g_extract (vs := #[.slice a191 n192 c193, .bool r195]) rfl rfl) rfl ?_
          refine wl_val (g_extract (vs := #[.slice a191 n192 c193, .bool r195]) rfl rfl) rfl ?_
          refine wl_val (g_assign (v := .slice a191 n192 c193) rfl) rfl ?_
          refine wl_val (g_assign (v := .bool r195) rfl) rfl ?_
          refine wl_nil ?_
          refine hK186 _ _ ?_
          refine w_seq fun K198 hK198 => ?_
          refine w_region ?_
          refine wl_val (g_move (v := .bool r195) rfl) rfl ?_
          refine wl_nil ?_
          refine hK198 _ _ ?_
          refine w_condI (p := r195 = true) (b := r195) rfl Iff.rfl (fun h199 => ?_) (fun h199 => ?_)
          · replace hm := hm.1 h199
            refine w_region ?_
            refine wl_val (g_move (v := .slice a175 n176 c177) rfl) rfl ?_
            refine wl_val (q_len SL23 rfl (Vw.len (oS.vw hS196.g1))) rfl ?_
            refine wl_val (g_assign (v := .int .i64 (r174.length : Int)) rfl) rfl ?_
            refine wl_nil ?_
            refine hK168 _ _ ?_
            refine w_region ?_
            obtain ⟨hg200, hm⟩ := hm
            refine wl_val (g_add (a := v156) (b := 1) rfl rfl hg200) rfl ?_
            refine wl_val (g_move (v := .int .i64 (v156 + 1)) rfl) rfl ?_
            refine wl_nil ?_
            have hS201 := hS196.tail
            have hS202 := hS201.tail
            exact ⟨((r174.length : Int), (v156 + 1)), hm.2, ⟨rfl, rfl, rfl, rfl, rfl, trivial⟩, ⟨hm.1, hB197, hS202⟩⟩
          · replace hm := hm.2 h199
            refine w_skip ?_
            refine hK168 _ _ ?_
            refine w_region ?_
            obtain ⟨hg203, hm⟩ := hm
            refine wl_val (g_add (a := v156) (b := 1) rfl rfl hg203) rfl ?_
            refine wl_val (g_move (v := .int .i64 (v156 + 1)) rfl) rfl ?_
            refine wl_nil ?_
            have hS204 := hS196.tail
            have hS205 := hS204.tail
            exact ⟨(v155, (v156 + 1)), hm.2, ⟨rfl, rfl, rfl, rfl, rfl, trivial⟩, ⟨hm.1, hB197, hS205⟩⟩
      · replace hm := hm.2 h167
        refine w_exit ?_
        exact ⟨(v155), ⟨rfl, trivial⟩, ⟨hm, hB162, hS163⟩⟩
    · rintro v150 b_ w206 ⟨hm, hB207, hS208⟩
      show Wp _ _ _ _ (upds b_ [(5, .int .i64 v150)]) w206
      refine w_seq fun K209 hK209 => ?_
      refine w_region ?_
      refine wl_val (g_move (v := .int .i64 v150) rfl) rfl ?_
      refine wl_val (g_assign (v := .int .i64 v150) rfl) rfl ?_
      refine wl_nil ?_
      refine hK209 _ _ ?_
      refine w_ret ?_
      repeat first | with_reducible refine q_then ?_ | with_reducible refine q_block ?_
      exact ret1 rfl (by decide) ⟨_, hm, rfl, toExt hB207⟩

theorem m_impl_LackOf_fn {w : World} {a0 : Option Addr} {n0 c0 : Nat} {y0 : List PlayerD} {p0 : List PlayerC} {a1 : Option Addr} {n1 c1 : Nat} {p1 : List Int} {Q : Int → Prop} (hp0 : Tv w.heap.size w a0 n0 c0 y0 p0) (hp1 : Vw w.heap.size w a1 n1 c1 p1) (hm : m_impl_LackOf p0 p1 Q) :
    Fn Try.prog 46 #[.slice a0 n0 c0, .slice a1 n1 c1] w (fun v w' => ∃ (r0 : Int), Q r0 ∧ v = .int .i64 r0 ∧ Ext w w') := by
  unfold m_impl_LackOf at hm
  have hB0 := Below.refl w.heap.size w
  have hS0 : Sep w w.heap.size [] := Sep.nil (Nat.le_refl _)
  refine fn_of_wp Try.func46 rfl (by kernel_rfl) (Nat.le_of_ble_eq_true rfl) ?_
  refine w_seq fun K1 hK1 => ?_
  refine w_region ?_
  refine wl_val (g_assign (v := .int .i64 0) rfl) rfl ?_
  refine wl_nil ?_
  refine hK1 _ _ ?_
  refine w_seq fun K2 hK2 => ?_
  refine w_seq fun K3 hK3 => ?_
  refine w_region ?_
  refine wl_val (g_move (v := .slice a0 n0 c0) rfl) rfl ?_
  refine wl_step rfl (g_call (vs := #[.slice a0 n0 c0]) CF44 (args1 rfl) (m_impl_PlayersOk_fn ((hp0.bel hB0).up hS0) hm)) ?_
  rintro _ w4 ⟨r7, hm, rfl, hE5⟩
  have hB8 := hB0.trans (Ext.stp hE5 hS0.base)
  have hS9 := hS0.ext hE5
  refine wl_val (g_not (a := r7) rfl) rfl ?_
  refine wl_val (g_move (v := .bool (!r7)) rfl) rfl ?_
  refine wl_guard (c := (!r7) = false) (val := .slice a1 n1 c1) (b := ((!r7) == false)) (gv_some rfl rfl rfl) beq_iff_eq (fun hc10 => ?_) ?_
  · have hcq0 : ¬ (¬ (r7 = true)) := (i_neg (i_not Iff.rfl) hc10)
    exact g_move (v := .slice a1 n1 c1) rfl
  obtain ⟨r12, hk13, hm⟩ := hm
  refine wl_guardE (X := Ext) (c := (!r7) = false) (val := .bool r12) (Ext.refl _) (b := ((!r7) == false)) (gv_some rfl rfl rfl) beq_iff_eq (fun hc11 => ?_) (fun w14 hE15 => ?_)
  · have hcq0 : ¬ (¬ (r7 = true)) := (i_neg (i_not Iff.rfl) hc11)
    exact (g_call (vs := #[.slice a1 n1 c1]) CF61 (args1 (if_pos hc11)) ((m_impl_arePuppets_fn ((hp1.bel hB8).up hS9) (hk13 hcq0)).mono fun _ _ ⟨_, h1, h2, h3⟩ => ⟨by rw [h2, h1], h3⟩))
  have hB16 := hB8.trans (Ext.stp hE15 hS9.base)
  have hS17 := hS9.ext hE15
  refine wl_guard (c := (!r7) = false) (val := .bool (!r12)) (b := ((!r7) == false)) (gv_some rfl rfl rfl) beq_iff_eq (fun hc18 => ?_) ?_
  · have hcq0 : ¬ (¬ (r7 = true)) := (i_neg (i_not Iff.rfl) hc18)
    exact g_not (a := r12) (if_pos hc18)
  refine wl_val (g_pick_or (b := (!r7)) (q := (!r12)) rfl rfl) rfl ?_
  refine wl_nil ?_
  refine hK3 _ _ ?_
  refine w_condI (p := ((¬ (r7 = true)) ∨ (¬ (r12 = true)))) (b := ((!r7) || (!r12))) rfl (i_or (i_not Iff.rfl) (i_not Iff.rfl)) (fun h19 => ?_) (fun h19 => ?_)
  · replace hm := hm.1 h19
    refine w_seq fun K20 hK20 => ?_
    refine w_region ?_
    refine wl_val (g_assign (v := .int .i64 (-1)) rfl) rfl ?_
    refine wl_nil ?_
    refine hK20 _ _ ?_
    refine w_ret ?_
    repeat first | with_reducible refine q_then ?_ | with_reducible refine q_block ?_
    exact ret1 rfl (by decide) ⟨_, hm, rfl, toExt hB16⟩
  · replace hm := hm.2 h19
    refine w_skip ?_
    refine hK2 _ _ ?_
    refine w_seq fun K21 hK21 => ?_
    refine w_region ?_
    refine wl_val (g_assign (v := .int .i64 0) rfl) rfl ?_
    refine wl_nil ?_
    refine hK21 _ _ ?_
    refine w_cut (σ := Int) (fun v93 => [(5, .int .i64 v93)]) (fun v93 w' => m_impl_LackOf_K0 Q v93 ∧ Below w.heap.size w w' ∧ Sep w' w.heap.size []) ?_ ?_
    · refine w_seq fun K95 hK95 => ?_
      refine w_region ?_
      refine wl_val (g_move (v := .slice a1 n1 c1) rfl) rfl ?_
      refine wl_val (q_len SL23 rfl (Vw.len (hp1.bel hB16))) rfl ?_
      obtain ⟨hg96, hm⟩ := hm
      obtain ⟨hg97, hm⟩ := hm
      refine wl_val (g_shl (a := 1) (b := (p1.length : Int)) rfl rfl hg96 hg97) rfl ?_
      refine wl_val (g_move (v := .int .i64 0) rfl) rfl ?_
      refine wl_nil ?_
      refine hK95 _ _ ?_
      refine w_block ?_
      obtain ⟨I100, μ101, h0102, hr103⟩ := hm
      refine w_for (σ := Int × Int) (fun ⟨v98, v99⟩ => [(0, .slice a0 n0 c0), (1, .slice a1 n1 c1), (5, .int .i64 v98), (18, .int .i64 (sal 1 (p1.length : Int))), (19, .int .i64 v99)]) (fun ⟨v98, v99⟩ w' => I100 v98 v99 ∧ Below w.heap.size w w' ∧ Sep w' w.heap.size []) (fun ⟨v98, v99⟩ => μ101 v98 v99) (0, 0) ⟨rfl, rfl, rfl, rfl, rfl, trivial⟩ ⟨h0102, hB16, hS17⟩ ?_
      rintro ⟨v98, v99⟩ b_ w104 ⟨hi_, hB105, hS106⟩
      show Wp _ _ _ _ (upds b_ [(0, .slice a0 n0 c0), (1, .slice a1 n1 c1), (5, .int .i64 v98), (18, .int .i64 (sal 1 (p1.length : Int))), (19, .int .i64 v99)]) w104
      have hm := hr103 v98 v99 hi_
      refine w_seq fun K108 hK108 => ?_
      refine w_region ?_
      refine wl_val (g_lss (a := v99) (b := (sal 1 (p1.length : Int))) rfl rfl) rfl ?_
      refine wl_nil ?_
      refine hK108 _ _ ?_
      refine w_seq fun K109 hK109 => ?_
      refine w_condI (p := v99 < (sal 1 (p1.length : Int))) (b := (decide (v99 < (sal 1 (p1.length : Int))))) rfl decide_eq_true_iff (fun h110 => ?_) (fun h110 => ?_)
      · replace hm := hm.1 h110
        refine w_skip ?_
        refine hK109 _ _ ?_
        refine w_seq fun K111 hK111 => ?_
        refine w_block ?_
        refine w_seq fun K112 hK112 => ?_
        refine w_region ?_
        refine wl_val (g_move (v := .int .i64 v99) rfl) rfl ?_
        refine wl_val (g_assign (v := .int .i64 v99) rfl) rfl ?_
        refine wl_nil ?_
        refine hK112 _ _ ?_
        refine w_seq fun K113 hK113 => ?_
        refine w_region ?_
        refine wl_val (g_move (v := .slice a1 n1 c1) rfl) rfl ?_
        refine wl_val (g_move (v := .int .i64 v99) rfl) rfl ?_
        refine wl_step rfl (g_call (vs := #[.slice a1 n1 c1, .int .i64 v99]) CF67 (args2 rfl rfl) (m_impl_subset_fn ((hp1.bel hB105).up hS106) v99 hm)) ?_
        rintro _ w114 ⟨r117, a118, n119, c120, hm, rfl, hE115, hN116⟩
        have hS122 := hS106.call1 hE115 hN116
        have hB123 := hB105.trans (Ext.stp hE115 hS106.base)
        refine wl_val (g_assign (v := .slice a118 n119 c120) rfl) rfl ?_
        refine wl_nil ?_
        refine hK113 _ _ ?_
        refine w_region ?_
        refine wl_val (g_move (v := .int .i64 v98) rfl) rfl ?_
        refine wl_val (g_move (v := .slice a118 n119 c120) rfl) rfl ?_
        refine wl_val (q_len SL23 rfl (Vw.len (oS.vw hS122.g0))) rfl ?_
        refine wl_val (g_move (v := .slice a0 n0 c0) rfl) rfl ?_
        refine wl_val (g_move (v := .slice a118 n119 c120) rfl) rfl ?_
        refine wl_step rfl (g_call (vs := #[.slice a0 n0 c0, .slice a118 n119 c120]) CF48 (args2 rfl rfl) (m_impl_HandsFor_fn ((hp0.bel hB123).up hS122) (oS.vw hS122.g0) hm)) ?_
        rintro _ w124 ⟨r127, hm, rfl, hE125⟩
        have hB128 := hB123.trans (Ext.stp hE125 hS122.base)
        have hS129 := hS122.ext hE125
        obtain ⟨hg130, hm⟩ := hm
        refine wl_val (g_sub (a := (r117.length : Int)) (b := r127) rfl rfl hg130) rfl ?_
        refine wl_val (g_max (a := v98) (b := ((r117.length : Int) - r127)) rfl rfl) rfl ?_
        refine wl_val (g_assign (v := .int .i64 (max v98 ((r117.length : Int) - r127))) rfl) rfl ?_
        refine wl_nil ?_
        refine hK111 _ _ ?_
        refine w_region ?_
        obtain ⟨hg131, hm⟩ := hm
        refine wl_val (g_add (a := v99) (b := 1) rfl rfl hg131) rfl ?_
        refine wl_val (g_move (v := .int .i64 (v99 + 1)) rfl) rfl ?_
        refine wl_nil ?_
        have hS132 := hS129.tail
        exact ⟨((max v98 ((r117.length : Int) - r127)), (v99 + 1)), hm.2, ⟨rfl, rfl, rfl, rfl, rfl, trivial⟩, ⟨hm.1, hB128, hS132⟩⟩
      · replace hm := hm.2 h110
        refine w_exit ?_
        exact ⟨(v98), ⟨rfl, trivial⟩, ⟨hm, hB105, hS106⟩⟩
    · rintro v93 b_ w133 ⟨hm, hB134, hS135⟩
      show Wp _ _ _ _ (upds b_ [(5, .int .i64 v93)]) w133
      refine w_seq fun K136 hK136 => ?_
      refine w_region ?_
      refine wl_val (g_move (v := .int .i64 v93) rfl) rfl ?_
      refine wl_val (g_assign (v := .int .i64 v93) rfl) rfl ?_
      refine wl_nil ?_
      refine hK136 _ _ ?_
      refine w_ret ?_
      repeat first | with_reducible refine q_then ?_ | with_reducible refine q_block ?_
      exact ret1 rfl (by decide) ⟨_, hm, rfl, toExt hB134⟩

theorem m_laws_has_fn {w : World} {a0 : Option Addr} {n0 c0 : Nat} {p0 : List Int} {Q : Bool → Prop} (hp0 : Vw w.heap.size w a0 n0 c0 p0) (p1 : Int) (hm : m_laws_has p0 p1 Q) :
    Fn Try.prog 43 #[.slice a0 n0 c0, .int .i64 p1] w (fun v w' => ∃ (r0 : Bool), Q r0 ∧ v = .bool r0 ∧ Ext w w') := by
  unfold m_laws_has at hm
  have hB0 := Below.refl w.heap.size w
  have hS0 : Sep w w.heap.size [] := Sep.nil (Nat.le_refl _)
  refine fn_of_wp Try.func43 rfl (by kernel_rfl) (Nat.le_of_ble_eq_true rfl) ?_
  refine w_seq fun K1 hK1 => ?_
  refine w_region ?_
  refine wl_val (g_assign (v := .bool false) rfl) rfl ?_
  refine wl_nil ?_
  refine hK1 _ _ ?_
  refine w_cut (σ := Unit) (fun _ => []) (fun _ w' => m_laws_has_K0 Q ∧ Below w.heap.size w w' ∧ Sep w' w.heap.size []) ?_ ?_
  · refine w_seq fun K3 hK3 => ?_
    refine w_region ?_
    refine wl_val (g_assign (v := .int .i64 0) rfl) rfl ?_
    refine wl_nil ?_
    refine hK3 _ _ ?_
    refine w_block ?_
    obtain ⟨I22, μ23, h024, hr25⟩ := hm
    refine w_for (σ := Int) (fun v21 => [(0, .slice a0 n0 c0), (1, .int .i64 p1), (5, .int .i64 v21)]) (fun v21 w' => I22 v21 ∧ Below w.heap.size w w' ∧ Sep w' w.heap.size []) (fun v21 => μ23 v21) (0) ⟨rfl, rfl, rfl, trivial⟩ ⟨h024, hB0, hS0⟩ ?_
    rintro v21 b_ w26 ⟨hi_, hB27, hS28⟩
    show Wp _ _ _ _ (upds b_ [(0, .slice a0 n0 c0), (1, .int .i64 p1), (5, .int .i64 v21)]) w26
    have hm := hr25 v21 hi_
    refine w_seq fun K30 hK30 => ?_
    refine w_seq fun K31 hK31 => ?_
    refine w_region ?_
    refine wl_val (g_move (v := .int .i64 v21) rfl) rfl ?_
    refine wl_val (g_move (v := .slice a0 n0 c0) rfl) rfl ?_
    refine wl_val (q_len SL23 rfl (Vw.len (hp0.bel hB27))) rfl ?_
    refine wl_val (g_lss (a := v21) (b := (p0.length : Int)) rfl rfl) rfl ?_
    refine wl_nil ?_
    refine hK31 _ _ ?_
    refine w_condI (p := v21 < (p0.length : Int)) (b := (decide (v21 < (p0.length : Int)))) rfl decide_eq_true_iff (fun h32 => ?_) (fun h32 => ?_)
    · replace hm := hm.1 h32
      refine w_skip ?_
      refine hK30 _ _ ?_
      refine w_seq fun K33 hK33 => ?_
      refine w_block ?_
      refine w_seq fun K34 hK34 => ?_
      refine w_region ?_
      refine wl_val (g_move (v := .slice a0 n0 c0) rfl) rfl ?_
      refine wl_val (g_move (v := .int .i64 v21) rfl) rfl ?_
      obtain ⟨hg35, hm⟩ := hm
      refine wl_val (q_index (i := v21) SL23 rfl rfl (hp0.bel hB27) hg35) rfl ?_
      refine wl_val (q_load (i := v21) (v := .int .i64 (p0[(Int.toNat v21)]!)) ON3 (hp0.bel hB27) hg35 rfl rfl) rfl ?_
      refine wl_val (g_move (v := .int .i64 p1) rfl) rfl ?_
      refine wl_val (g_eql (a := p0[(Int.toNat v21)]!) (b := p1) rfl rfl) rfl ?_
      refine wl_nil ?_
      refine hK34 _ _ ?_
      refine w_condI (p := p0[(Int.toNat v21)]! = p1) (b := (decide (p0[(Int.toNat v21)]! = p1))) rfl decide_eq_true_iff (fun h36 => ?_) (fun h36 => ?_)
      · replace hm := hm.1 h36
        refine w_seq fun K37 hK37 => ?_
        refine w_region ?_
        refine wl_val (g_assign (v := .bool true) rfl) rfl ?_
        refine wl_nil ?_
        refine hK37 _ _ ?_
        refine w_ret ?_
        repeat first | with_reducible refine q_then ?_ | with_reducible refine q_block ?_
        exact ret1 rfl (by decide) ⟨_, hm, rfl, toExt hB27⟩
      · replace hm := hm.2 h36
        refine w_skip ?_
        refine hK33 _ _ ?_
        refine w_region ?_
        refine wl_val (g_move (v := .int .i64 v21) rfl) rfl ?_
        obtain ⟨hg38, hm⟩ := hm
        refine wl_val (g_add (a := v21) (b := 1) rfl rfl hg38) rfl ?_
        refine wl_val (g_assign (v := .int .i64 (v21 + 1)) rfl) rfl ?_
        refine wl_nil ?_
        exact ⟨((v21 + 1)), hm.2, ⟨rfl, rfl, rfl, trivial⟩, ⟨hm.1, hB27, hS28⟩⟩
    · replace hm := hm.2 h32
      refine w_exit ?_
      exact ⟨(), trivial, ⟨hm, hB27, hS28⟩⟩
  · rintro _ b_ w39 ⟨hm, hB40, hS41⟩
    show Wp _ _ _ _ (upds b_ []) w39
    refine w_seq fun K42 hK42 => ?_
    refine w_region ?_
    refine wl_val (g_assign (v := .bool false) rfl) rfl ?_
    refine wl_nil ?_
    refine hK42 _ _ ?_
    refine w_ret ?_
    repeat first | with_reducible refine q_then ?_ | with_reducible refine q_block ?_
    exact ret1 rfl (by decide) ⟨_, hm, rfl, toExt hB40⟩

theorem m_spec_l01In_fn {w : World}  {Q : Bool → Prop} (p0 : Int) (p1 : Int) (p2 : Int) (hm : m_spec_l01In p0 p1 p2 Q) :
    Fn Try.prog 88 #[.int .i64 p0, .int .i64 p1, .int .i64 p2] w (fun v w' => ∃ (r0 : Bool), Q r0 ∧ v = .bool r0 ∧ Ext w w') := by
  unfold m_spec_l01In at hm
  have hB0 := Below.refl w.heap.size w
  have hS0 : Sep w w.heap.size [] := Sep.nil (Nat.le_refl _)
  refine fn_of_wp Try.func88 rfl (by kernel_rfl) (Nat.le_of_ble_eq_true rfl) ?_
  refine w_seq fun K1 hK1 => ?_
  refine w_region ?_
  refine wl_val (g_assign (v := .bool false) rfl) rfl ?_
  refine wl_nil ?_
  refine hK1 _ _ ?_
  refine w_seq fun K2 hK2 => ?_
  refine w_region ?_
  refine wl_val (g_move (v := .int .i64 p0) rfl) rfl ?_
  refine wl_val (g_move (v := .int .i64 p1) rfl) rfl ?_
  refine wl_val (g_geq (a := p0) (b := p1) rfl rfl) rfl ?_
  refine wl_val (g_move (v := .bool (decide (p0 ≥ p1))) rfl) rfl ?_
  refine wl_guard (c := (decide (p0 ≥ p1)) = true) (val := .int .i64 p0) (b := ((decide (p0 ≥ p1)) == true)) (gv_some rfl rfl rfl) beq_iff_eq (fun hc3 => ?_) ?_
  · have hcq0 : p0 ≥ p1 := (decide_eq_true_iff.mp hc3)
    exact g_move (v := .int .i64 p0) rfl
  refine wl_guard (c := (decide (p0 ≥ p1)) = true) (val := .int .i64 p2) (b := ((decide (p0 ≥ p1)) == true)) (gv_some rfl rfl rfl) beq_iff_eq (fun hc4 => ?_) ?_
  · have hcq0 : p0 ≥ p1 := (decide_eq_true_iff.mp hc4)
    exact g_move (v := .int .i64 p2) rfl
  refine wl_guard (c := (decide (p0 ≥ p1)) = true) (val := .bool (decide (p0 ≤ p2))) (b := ((decide (p0 ≥ p1)) == true)) (gv_some rfl rfl rfl) beq_iff_eq (fun hc5 => ?_) ?_
  · have hcq0 : p0 ≥ p1 := (decide_eq_true_iff.mp hc5)
    exact g_leq (a := p0) (b := p2) (if_pos hc5) (if_pos hc5)
  refine wl_val (g_pick_and (b := (decide (p0 ≥ p1))) (q := (decide (p0 ≤ p2))) rfl rfl) rfl ?_
  refine wl_val (g_assign (v := .bool ((decide (p0 ≥ p1)) && (decide (p0 ≤ p2)))) rfl) rfl ?_
  refine wl_nil ?_
  refine hK2 _ _ ?_
  refine w_ret ?_
  repeat first | with_reducible refine q_then ?_ | with_reducible refine q_block ?_
  exact ret1 rfl (by decide) ⟨_, hm, rfl, toExt hB0⟩

theorem m_spec_l11Rising_fn {w : World} {a0 : Option Addr} {n0 c0 : Nat} {p0 : List Int} {Q : Bool → Prop} (hp0 : Vw w.heap.size w a0 n0 c0 p0) (p1 : Int) (hm : m_spec_l11Rising p0 p1 Q) :
    Fn Try.prog 58 #[.slice a0 n0 c0, .int .i64 p1] w (fun v w' => ∃ (r0 : Bool), Q r0 ∧ v = .bool r0 ∧ Ext w w') := by
  unfold m_spec_l11Rising at hm
  have hB0 := Below.refl w.heap.size w
  have hS0 : Sep w w.heap.size [] := Sep.nil (Nat.le_refl _)
  refine fn_of_wp Try.func58 rfl (by kernel_rfl) (Nat.le_of_ble_eq_true rfl) ?_
  refine w_seq fun K1 hK1 => ?_
  refine w_region ?_
  refine wl_val (g_assign (v := .bool false) rfl) rfl ?_
  refine wl_nil ?_
  refine hK1 _ _ ?_
  refine w_cut (σ := Unit) (fun _ => []) (fun _ w' => m_spec_l11Rising_K0 Q ∧ Below w.heap.size w w' ∧ Sep w' w.heap.size []) ?_ ?_
  · refine w_seq fun K3 hK3 => ?_
    refine w_region ?_
    refine wl_val (g_assign (v := .int .i64 0) rfl) rfl ?_
    refine wl_nil ?_
    refine hK3 _ _ ?_
    refine w_block ?_
    obtain ⟨I141, μ142, h0143, hr144⟩ := hm
    refine w_for (σ := Int) (fun v140 => [(0, .slice a0 n0 c0), (1, .int .i64 p1), (5, .int .i64 v140)]) (fun v140 w' => I141 v140 ∧ Below w.heap.size w w' ∧ Sep w' w.heap.size []) (fun v140 => μ142 v140) (0) ⟨rfl, rfl, rfl, trivial⟩ ⟨h0143, hB0, hS0⟩ ?_
    rintro v140 b_ w145 ⟨hi_, hB146, hS147⟩
    show Wp _ _ _ _ (upds b_ [(0, .slice a0 n0 c0), (1, .int .i64 p1), (5, .int .i64 v140)]) w145
    have hm := hr144 v140 hi_
    refine w_seq fun K149 hK149 => ?_
    refine w_seq fun K150 hK150 => ?_
    refine w_region ?_
    refine wl_val (g_move (v := .int .i64 v140) rfl) rfl ?_
    refine wl_val (g_move (v := .slice a0 n0 c0) rfl) rfl ?_
    refine wl_val (q_len SL23 rfl (Vw.len (hp0.bel hB146))) rfl ?_
    refine wl_val (g_lss (a := v140) (b := (p0.length : Int)) rfl rfl) rfl ?_
    refine wl_nil ?_
    refine hK150 _ _ ?_
    refine w_condI (p := v140 < (p0.length : Int)) (b := (decide (v140 < (p0.length : Int)))) rfl decide_eq_true_iff (fun h151 => ?_) (fun h151 => ?_)
    · replace hm := hm.1 h151
      refine w_skip ?_
      refine hK149 _ _ ?_
      refine w_seq fun K152 hK152 => ?_
      refine w_block ?_
      refine w_seq fun K153 hK153 => ?_
      refine w_draw (X := Ext) (Y := Ext) [] MIX (by decide +kernel) rfl Ext.refl (fun _ _ _ => Ext.trans) (fun _ _ _ => Chg.trans) (fun _ _ h => Ext.chg h _) (fun w154 hE155 => ?_)
      have hB156 := hB146.trans (Ext.stp hE155 hS147.base)
      have hS157 := hS147.ext hE155
      refine ⟨.slice a0 n0 c0, fun w158 hX159 => od_plain rfl (by have hS160 := hS157.ext hX159; have hB161 := hB156.trans (Ext.stp hX159 hS157.base); exact is_ext (g_move (v := .slice a0 n0 c0) rfl)), ?_⟩
      refine ⟨.int .i64 v140, fun w162 hX163 => od_plain rfl (by have hS164 := hS157.ext hX163; have hB165 := hB156.trans (Ext.stp hX163 hS157.base); exact is_ext (g_move (v := .int .i64 v140) rfl)), ?_⟩
      obtain ⟨hg170, hm⟩ := hm
      refine ⟨.pointer (some ((adr a0).add ((Int.toNat v140) * El.m Int))), fun w166 hX167 => od_plain rfl (by have hS168 := hS157.ext hX167; have hB169 := hB156.trans (Ext.stp hX167 hS157.base); exact is_ext (q_index (i := v140) SL23 rfl rfl (hp0.bel hB169) hg170)), ?_⟩
      refine ⟨.int .i64 (p0[(Int.toNat v140)]!), fun w171 hX172 => od_plain rfl (by have hS173 := hS157.ext hX172; have hB174 := hB156.trans (Ext.stp hX172 hS157.base); exact is_ext (q_load (i := v140) (v := .int .i64 (p0[(Int.toNat v140)]!)) ON3 (hp0.bel hB174) hg170 rfl rfl)), ?_⟩
      refine ⟨.int .i64 p1, fun w175 hX176 => od_plain rfl (by have hS177 := hS157.ext hX176; have hB178 := hB156.trans (Ext.stp hX176 hS157.base); exact is_ext (g_move (v := .int .i64 p1) rfl)), ?_⟩
      obtain ⟨r183, hk184, hm⟩ := hm
      refine ⟨.bool r183, fun w179 hX180 => od_plain rfl (by have hS181 := hS157.ext hX180; have hB182 := hB156.trans (Ext.stp hX180 hS157.base); exact (g_call (vs := #[.int .i64 (p0[(Int.toNat v140)]!), .int .i64 0, .int .i64 p1]) CF88 (args3 rfl rfl rfl) ((m_spec_l01In_fn (p0[(Int.toNat v140)]!) 0 p1 hk184).mono fun _ _ ⟨_, h1, h2, h3⟩ => ⟨by rw [h2, h1], h3⟩))), ?_⟩
      refine ⟨.bool (!r183), fun w185 hX186 => od_plain rfl (by have hS187 := hS157.ext hX186; have hB188 := hB156.trans (Ext.stp hX186 hS157.base); exact is_ext (g_not (a := r183) rfl)), ?_⟩
      refine ⟨.bool (!r183), fun w189 hX190 => od_plain rfl (by have hS191 := hS157.ext hX190; have hB192 := hB156.trans (Ext.stp hX190 hS157.base); exact is_ext (g_move (v := .bool (!r183)) rfl)), ?_⟩
      refine ⟨if (!r183) = false then .int .i64 v140 else undef, fun w193 hX194 => od_guard (c := (!r183) = false) (val := .int .i64 v140) (b := ((!r183) == false)) (gv_some rfl rfl rfl) beq_iff_eq (fun hc197 => ?_), ?_⟩
      · have hS195 := hS157.ext hX194
        have hB196 := hB156.trans (Ext.stp hX194 hS157.base)
        have hcq2 : ¬ (¬ (r183 = true)) := (i_neg (i_not Iff.rfl) hc197)
        exact is_ext (g_move (v := .int .i64 v140) rfl)
      refine ⟨if (!r183) = false then .bool (decide (v140 > 0)) else undef, fun w198 hX199 => od_guard (c := (!r183) = false) (val := .bool (decide (v140 > 0))) (b := ((!r183) == false)) (gv_some rfl rfl rfl) beq_iff_eq (fun hc202 => ?_), ?_⟩
      · have hS200 := hS157.ext hX199
        have hB201 := hB156.trans (Ext.stp hX199 hS157.base)
        have hcq2 : ¬ (¬ (r183 = true)) := (i_neg (i_not Iff.rfl) hc202)
        exact is_ext (g_gtr (a := v140) (b := 0) (if_pos hc202) rfl)
      refine ⟨if (!r183) = false then .bool (decide (v140 > 0)) else undef, fun w203 hX204 => od_guard (c := (!r183) = false) (val := .bool (decide (v140 > 0))) (b := ((!r183) == false)) (gv_some rfl rfl rfl) beq_iff_eq (fun hc207 => ?_), ?_⟩
      · have hS205 := hS157.ext hX204
        have hB206 := hB156.trans (Ext.stp hX204 hS157.base)
        have hcq2 : ¬ (¬ (r183 = true)) := (i_neg (i_not Iff.rfl) hc207)
        exact is_ext (g_move (v := .bool (decide (v140 > 0))) (if_pos hc207))
      refine ⟨if ((!r183) = false) ∧ (decide (v140 > 0)) = true then .slice a0 n0 c0 else undef, fun w208 hX209 => od_guard (c := ((!r183) = false) ∧ (decide (v140 > 0)) = true) (val := .slice a0 n0 c0) (b := decide (((!r183) = false) ∧ (decide (v140 > 0)) = true)) (gv_gd rfl rfl rfl) decide_eq_true_iff (fun hc212 => ?_), ?_⟩
      · have hS210 := hS157.ext hX209
        have hB211 := hB156.trans (Ext.stp hX209 hS157.base)
        have hcq3 : (¬ (¬ (r183 = true))) ∧ (v140 > 0) := ⟨(i_neg (i_not Iff.rfl) (hc212).1), decide_eq_true_iff.mp (hc212).2⟩
        have hcq2 := (hcq3).1
        exact is_ext (g_move (v := .slice a0 n0 c0) rfl)
      refine ⟨if ((!r183) = false) ∧ (decide (v140 > 0)) = true then .int .i64 v140 else undef, fun w213 hX214 => od_guard (c := ((!r183) = false) ∧ (decide (v140 > 0)) = true) (val := .int .i64 v140) (b := decide (((!r183) = false) ∧ (decide (v140 > 0)) = true)) (gv_gd rfl rfl rfl) decide_eq_true_iff (fun hc217 => ?_), ?_⟩
      · have hS215 := hS157.ext hX214
        have hB216 := hB156.trans (Ext.stp hX214 hS157.base)
        have hcq3 : (¬ (¬ (r183 = true))) ∧ (v140 > 0) := ⟨(i_neg (i_not Iff.rfl) (hc217).1), decide_eq_true_iff.mp (hc217).2⟩
        have hcq2 := (hcq3).1
        exact is_ext (g_move (v := .int .i64 v140) rfl)
      obtain ⟨hg223, hm⟩ := hm
      refine ⟨if ((!r183) = false) ∧ (decide (v140 > 0)) = true then .pointer (some ((adr a0).add ((Int.toNat v140) * El.m Int))) else undef, fun w218 hX219 => od_guard (c := ((!r183) = false) ∧ (decide (v140 > 0)) = true) (val := .pointer (some ((adr a0).add ((Int.toNat v140) * El.m Int)))) (b := decide (((!r183) = false) ∧ (decide (v140 > 0)) = true)) (gv_gd rfl rfl rfl) decide_eq_true_iff (fun hc222 => ?_), ?_⟩
      · have hS220 := hS157.ext hX219
        have hB221 := hB156.trans (Ext.stp hX219 hS157.base)
        have hcq3 : (¬ (¬ (r183 = true))) ∧ (v140 > 0) := ⟨(i_neg (i_not Iff.rfl) (hc222).1), decide_eq_true_iff.mp (hc222).2⟩
        have hcq2 := (hcq3).1
        exact is_ext (q_index (i := v140) SL23 (if_pos hc222) (if_pos hc222) (hp0.bel hB221) (hg223 hcq3))
      refine ⟨if ((!r183) = false) ∧ (decide (v140 > 0)) = true then .int .i64 (p0[(Int.toNat v140)]!) else undef, fun w224 hX225 => od_guard (c := ((!r183) = false) ∧ (decide (v140 > 0)) = true) (val := .int .i64 (p0[(Int.toNat v140)]!)) (b := decide (((!r183) = false) ∧ (decide (v140 > 0)) = true)) (gv_gd rfl rfl rfl) decide_eq_true_iff (fun hc228 => ?_), ?_⟩
      · have hS226 := hS157.ext hX225
        have hB227 := hB156.trans (Ext.stp hX225 hS157.base)
        have hcq3 : (¬ (¬ (r183 = true))) ∧ (v140 > 0) := ⟨(i_neg (i_not Iff.rfl) (hc228).1), decide_eq_true_iff.mp (hc228).2⟩
        have hcq2 := (hcq3).1
        exact is_ext (q_load (i := v140) (v := .int .i64 (p0[(Int.toNat v140)]!)) ON3 (hp0.bel hB227) (hg223 hcq3) rfl (if_pos hc228))
      refine ⟨if ((!r183) = false) ∧ (decide (v140 > 0)) = true then .slice a0 n0 c0 else undef, fun w229 hX230 => od_guard (c := ((!r183) = false) ∧ (decide (v140 > 0)) = true) (val := .slice a0 n0 c0) (b := decide (((!r183) = false) ∧ (decide (v140 > 0)) = true)) (gv_gd rfl rfl rfl) decide_eq_true_iff (fun hc233 => ?_), ?_⟩
      · have hS231 := hS157.ext hX230
        have hB232 := hB156.trans (Ext.stp hX230 hS157.base)
        have hcq3 : (¬ (¬ (r183 = true))) ∧ (v140 > 0) := ⟨(i_neg (i_not Iff.rfl) (hc233).1), decide_eq_true_iff.mp (hc233).2⟩
        have hcq2 := (hcq3).1
        exact is_ext (g_move (v := .slice a0 n0 c0) rfl)
      refine ⟨if ((!r183) = false) ∧ (decide (v140 > 0)) = true then .int .i64 v140 else undef, fun w234 hX235 => od_guard (c := ((!r183) = false) ∧ (decide (v140 > 0)) = true) (val := .int .i64 v140) (b := decide (((!r183) = false) ∧ (decide (v140 > 0)) = true)) (gv_gd rfl rfl rfl) decide_eq_true_iff (fun hc238 => ?_), ?_⟩
      · have hS236 := hS157.ext hX235
        have hB237 := hB156.trans (Ext.stp hX235 hS157.base)
        have hcq3 : (¬ (¬ (r183 = true))) ∧ (v140 > 0) := ⟨(i_neg (i_not Iff.rfl) (hc238).1), decide_eq_true_iff.mp (hc238).2⟩
        have hcq2 := (hcq3).1
        exact is_ext (g_move (v := .int .i64 v140) rfl)
      obtain ⟨hg244, hm⟩ := hm
      refine ⟨if ((!r183) = false) ∧ (decide (v140 > 0)) = true then .int .i64 (v140 - 1) else undef, fun w239 hX240 => od_guard (c := ((!r183) = false) ∧ (decide (v140 > 0)) = true) (val := .int .i64 (v140 - 1)) (b := decide (((!r183) = false) ∧ (decide (v140 > 0)) = true)) (gv_gd rfl rfl rfl) decide_eq_true_iff (fun hc243 => ?_), ?_⟩
      · have hS241 := hS157.ext hX240
        have hB242 := hB156.trans (Ext.stp hX240 hS157.base)
        have hcq3 : (¬ (¬ (r183 = true))) ∧ (v140 > 0) := ⟨(i_neg (i_not Iff.rfl) (hc243).1), decide_eq_true_iff.mp (hc243).2⟩
        have hcq2 := (hcq3).1
        exact is_ext (g_sub (a := v140) (b := 1) (if_pos hc243) rfl (hg244 hcq3))
      obtain ⟨hg250, hm⟩ := hm
      refine ⟨if ((!r183) = false) ∧ (decide (v140 > 0)) = true then .pointer (some ((adr a0).add ((Int.toNat (v140 - 1)) * El.m Int))) else undef, fun w245 hX246 => od_guard (c := ((!r183) = false) ∧ (decide (v140 > 0)) = true) (val := .pointer (some ((adr a0).add ((Int.toNat (v140 - 1)) * El.m Int)))) (b := decide (((!r183) = false) ∧ (decide (v140 > 0)) = true)) (gv_gd rfl rfl rfl) decide_eq_true_iff (fun hc249 => ?_), ?_⟩
      · have hS247 := hS157.ext hX246
        have hB248 := hB156.trans (Ext.stp hX246 hS157.base)
        have hcq3 : (¬ (¬ (r183 = true))) ∧ (v140 > 0) := ⟨(i_neg (i_not Iff.rfl) (hc249).1), decide_eq_true_iff.mp (hc249).2⟩
        have hcq2 := (hcq3).1
        exact is_ext (q_index (i := (v140 - 1)) SL23 (if_pos hc249) (if_pos hc249) (hp0.bel hB248) (hg250 hcq3))
      refine ⟨if ((!r183) = false) ∧ (decide (v140 > 0)) = true then .int .i64 (p0[(Int.toNat (v140 - 1))]!) else undef, fun w251 hX252 => od_guard (c := ((!r183) = false) ∧ (decide (v140 > 0)) = true) (val := .int .i64 (p0[(Int.toNat (v140 - 1))]!)) (b := decide (((!r183) = false) ∧ (decide (v140 > 0)) = true)) (gv_gd rfl rfl rfl) decide_eq_true_iff (fun hc255 => ?_), ?_⟩
      · have hS253 := hS157.ext hX252
        have hB254 := hB156.trans (Ext.stp hX252 hS157.base)
        have hcq3 : (¬ (¬ (r183 = true))) ∧ (v140 > 0) := ⟨(i_neg (i_not Iff.rfl) (hc255).1), decide_eq_true_iff.mp (hc255).2⟩
        have hcq2 := (hcq3).1
        exact is_ext (q_load (i := (v140 - 1)) (v := .int .i64 (p0[(Int.toNat (v140 - 1))]!)) ON3 (hp0.bel hB254) (hg250 hcq3) rfl (if_pos hc255))
      refine ⟨if ((!r183) = false) ∧ (decide (v140 > 0)) = true then .bool (decide (p0[(Int.toNat v140)]! ≤ p0[(Int.toNat (v140 - 1))]!)) else undef, fun w256 hX257 => od_guard (c := ((!r183) = false) ∧ (decide (v140 > 0)) = true) (val := .bool (decide (p0[(Int.toNat v140)]! ≤ p0[(Int.toNat (v140 - 1))]!))) (b := decide (((!r183) = false) ∧ (decide (v140 > 0)) = true)) (gv_gd rfl rfl rfl) decide_eq_true_iff (fun hc260 => ?_), ?_⟩
      · have hS258 := hS157.ext hX257
        have hB259 := hB156.trans (Ext.stp hX257 hS157.base)
        have hcq3 : (¬ (¬ (r183 = true))) ∧ (v140 > 0) := ⟨(i_neg (i_not Iff.rfl) (hc260).1), decide_eq_true_iff.mp (hc260).2⟩
        have hcq2 := (hcq3).1
        exact is_ext (g_leq (a := p0[(Int.toNat v140)]!) (b := p0[(Int.toNat (v140 - 1))]!) (if_pos hc260) (if_pos hc260))
      refine ⟨if (!r183) = false then .bool ((decide (v140 > 0)) && (decide (p0[(Int.toNat v140)]! ≤ p0[(Int.toNat (v140 - 1))]!))) else undef, fun w261 hX262 => od_guard (c := (!r183) = false) (val := .bool ((decide (v140 > 0)) && (decide (p0[(Int.toNat v140)]! ≤ p0[(Int.toNat (v140 - 1))]!)))) (b := ((!r183) == false)) (gv_some rfl rfl rfl) beq_iff_eq (fun hc265 => ?_), ?_⟩
      · have hS263 := hS157.ext hX262
        have hB264 := hB156.trans (Ext.stp hX262 hS157.base)
        have hcq2 : ¬ (¬ (r183 = true)) := (i_neg (i_not Iff.rfl) hc265)
        exact is_ext (g_pick_and (b := (decide (v140 > 0))) (q := (decide (p0[(Int.toNat v140)]! ≤ p0[(Int.toNat (v140 - 1))]!))) (if_pos hc265) (gd_in hc265))
      refine ⟨.bool ((!r183) || ((decide (v140 > 0)) && (decide (p0[(Int.toNat v140)]! ≤ p0[(Int.toNat (v140 - 1))]!)))), fun w266 hX267 => od_plain rfl (by have hS268 := hS157.ext hX267; have hB269 := hB156.trans (Ext.stp hX267 hS157.base); exact is_ext (g_pick_or (b := (!r183)) (q := ((decide (v140 > 0)) && (decide (p0[(Int.toNat v140)]! ≤ p0[(Int.toNat (v140 - 1))]!)))) rfl rfl)), ?_⟩
      intro w270 hX271
      have hB272 := hB156.trans (Ext.stp hX271 hS157.base)
      have hS273 := hS157.ext hX271
      refine hK153 _ _ ?_
      refine w_condI (p := ((¬ (r183 = true)) ∨ (((v140 > 0) ∧ (p0[(Int.toNat v140)]! ≤ p0[(Int.toNat (v140 - 1))]!))))) (b := ((!r183) || ((decide (v140 > 0)) && (decide (p0[(Int.toNat v140)]! ≤ p0[(Int.toNat (v140 - 1))]!))))) rfl (i_or (i_not Iff.rfl) (i_and decide_eq_true_iff decide_eq_true_iff)) (fun h274 => ?_) (fun h274 => ?_)
      · replace hm := hm.1 h274
        refine w_seq fun K275 hK275 => ?_
        refine w_region ?_
        refine wl_val (g_assign (v := .bool false) rfl) rfl ?_
        refine wl_nil ?_
        refine hK275 _ _ ?_
        refine w_ret ?_
        repeat first | with_reducible refine q_then ?_ | with_reducible refine q_block ?_
        exact ret1 rfl (by decide) ⟨_, hm, rfl, toExt hB272⟩
      · replace hm := hm.2 h274
        refine w_skip ?_
        refine hK152 _ _ ?_
        refine w_region ?_
        refine wl_val (g_move (v := .int .i64 v140) rfl) rfl ?_
        obtain ⟨hg276, hm⟩ := hm
        refine wl_val (g_add (a := v140) (b := 1) rfl rfl hg276) rfl ?_
        refine wl_val (g_assign (v := .int .i64 (v140 + 1)) rfl) rfl ?_
        refine wl_nil ?_
        exact ⟨((v140 + 1)), hm.2, ⟨rfl, rfl, rfl, trivial⟩, ⟨hm.1, hB272, hS273⟩⟩
    · replace hm := hm.2 h151
      refine w_exit ?_
      exact ⟨(), trivial, ⟨hm, hB146, hS147⟩⟩
  · rintro _ b_ w277 ⟨hm, hB278, hS279⟩
    show Wp _ _ _ _ (upds b_ []) w277
    refine w_seq fun K280 hK280 => ?_
    refine w_region ?_
    refine wl_val (g_assign (v := .bool true) rfl) rfl ?_
    refine wl_nil ?_
    refine hK280 _ _ ?_
    refine w_ret ?_
    repeat first | with_reducible refine q_then ?_ | with_reducible refine q_block ?_
    exact ret1 rfl (by decide) ⟨_, hm, rfl, toExt hB278⟩

theorem m_spec_PlayersOk_fn {w : World} {a0 : Option Addr} {n0 c0 : Nat} {y0 : List PlayerD} {p0 : List PlayerC} {Q : Bool → Prop} (hp0 : Tv w.heap.size w a0 n0 c0 y0 p0) (hm : m_spec_PlayersOk p0 Q) :
    Fn Try.prog 57 #[.slice a0 n0 c0] w (fun v w' => ∃ (r0 : Bool), Q r0 ∧ v = .bool r0 ∧ Ext w w') := by
  unfold m_spec_PlayersOk at hm
  have hB0 := Below.refl w.heap.size w
  have hS0 : Sep w w.heap.size [] := Sep.nil (Nat.le_refl _)
  refine fn_of_wp Try.func57 rfl (by kernel_rfl) (Nat.le_of_ble_eq_true rfl) ?_
  refine w_seq fun K1 hK1 => ?_
  refine w_region ?_
  refine wl_val (g_assign (v := .bool false) rfl) rfl ?_
  refine wl_nil ?_
  refine hK1 _ _ ?_
  refine w_cut (σ := Unit) (fun _ => [(0, .slice a0 n0 c0)]) (fun _ w' => m_spec_PlayersOk_K0 p0 Q ∧ Below w.heap.size w w' ∧ Sep w' w.heap.size []) ?_ ?_
  · refine w_seq fun K3 hK3 => ?_
    refine w_region ?_
    refine wl_val (g_assign (v := .int .i64 0) rfl) rfl ?_
    refine wl_nil ?_
    refine hK3 _ _ ?_
    refine w_block ?_
    obtain ⟨I42, μ43, h044, hr45⟩ := hm
    refine w_for (σ := Int) (fun v41 => [(0, .slice a0 n0 c0), (3, .int .i64 v41)]) (fun v41 w' => I42 v41 ∧ Below w.heap.size w w' ∧ Sep w' w.heap.size []) (fun v41 => μ43 v41) (0) ⟨rfl, rfl, trivial⟩ ⟨h044, hB0, hS0⟩ ?_
    rintro v41 b_ w46 ⟨hi_, hB47, hS48⟩
    show Wp _ _ _ _ (upds b_ [(0, .slice a0 n0 c0), (3, .int .i64 v41)]) w46
    have hm := hr45 v41 hi_
    refine w_seq fun K50 hK50 => ?_
    refine w_seq fun K51 hK51 => ?_
    refine w_region ?_
    refine wl_val (g_move (v := .int .i64 v41) rfl) rfl ?_
    refine wl_val (g_move (v := .slice a0 n0 c0) rfl) rfl ?_
    refine wl_val (q_len SL27 rfl (Tv.len (hp0.bel hB47))) rfl ?_
    refine wl_val (g_lss (a := v41) (b := (p0.length : Int)) rfl rfl) rfl ?_
    refine wl_nil ?_
    refine hK51 _ _ ?_
    refine w_condI (p := v41 < (p0.length : Int)) (b := (decide (v41 < (p0.length : Int)))) rfl decide_eq_true_iff (fun h52 => ?_) (fun h52 => ?_)
    · replace hm := hm.1 h52
      refine w_skip ?_
      refine hK50 _ _ ?_
      refine w_seq fun K53 hK53 => ?_
      refine w_block ?_
      refine w_seq fun K54 hK54 => ?_
      refine w_region ?_
      refine wl_val (g_move (v := .slice a0 n0 c0) rfl) rfl ?_
      refine wl_val (g_move (v := .int .i64 v41) rfl) rfl ?_
      obtain ⟨hg55, hm⟩ := hm
      refine wl_val (q_index (i := v41) SL27 rfl rfl (Tv.o (hp0.bel hB47)) (Tv.g (hp0.bel hB47) hg55)) rfl ?_
      refine wl_val (g_fieldAddr (q := (adr a0).add ((Int.toNat v41) * El.m PlayerD)) FL54_0 ON23 rfl) rfl ?_
      refine wl_val (q_loadF (i := v41) (j := 0) (v := .slice ((y0[(Int.toNat v41)]!).1.1) ((y0[(Int.toNat v41)]!).1.2.2.length) ((y0[(Int.toNat v41)]!).1.2.1)) ON23 (Tv.o (hp0.bel hB47)) (Tv.g (hp0.bel hB47) hg55) rfl rfl) rfl ?_
      refine wl_step rfl (g_call (vs := #[.slice ((y0[(Int.toNat v41)]!).1.1) ((y0[(Int.toNat v41)]!).1.2.2.length) ((y0[(Int.toNat v41)]!).1.2.1), .int .i64 6]) CF58 (args2 rfl rfl) (m_spec_l11Rising_fn ((Tv.rowP (hp0.bel hB47) hg55).up hS48) 6 hm)) ?_
      rintro _ w56 ⟨r59, hm, rfl, hE57⟩
      have hB60 := hB47.trans (Ext.stp hE57 hS48.base)
      have hS61 := hS48.ext hE57
      refine wl_val (g_not (a := r59) rfl) rfl ?_
      refine wl_val (g_move (v := .bool (!r59)) rfl) rfl ?_
      refine wl_guard (c := (!r59) = false) (val := .slice a0 n0 c0) (b := ((!r59) == false)) (gv_some rfl rfl rfl) beq_iff_eq (fun hc62 => ?_) ?_
      · have hcq1 : ¬ (¬ (r59 = true)) := (i_neg (i_not Iff.rfl) hc62)
        exact g_move (v := .slice a0 n0 c0) rfl
      refine wl_guard (c := (!r59) = false) (val := .int .i64 v41) (b := ((!r59) == false)) (gv_some rfl rfl rfl) beq_iff_eq (fun hc63 => ?_) ?_
      · have hcq1 : ¬ (¬ (r59 = true)) := (i_neg (i_not Iff.rfl) hc63)
        exact g_move (v := .int .i64 v41) rfl
      obtain ⟨hg65, hm⟩ := hm
      refine wl_guard (c := (!r59) = false) (val := .pointer (some ((adr a0).add ((Int.toNat v41) * El.m PlayerD)))) (b := ((!r59) == false)) (gv_some rfl rfl rfl) beq_iff_eq (fun hc64 => ?_) ?_
      · have hcq1 : ¬ (¬ (r59 = true)) := (i_neg (i_not Iff.rfl) hc64)
        exact q_index (i := v41) SL27 (if_pos hc64) (if_pos hc64) (Tv.o (hp0.bel hB60)) (Tv.g (hp0.bel hB60) (hg65 hcq1))
      refine wl_guard (c := (!r59) = false) (val := .pointer (some (((adr a0).add ((Int.toNat v41) * El.m PlayerD)).add 1))) (b := ((!r59) == false)) (gv_some rfl rfl rfl) beq_iff_eq (fun hc66 => ?_) ?_
      · have hcq1 : ¬ (¬ (r59 = true)) := (i_neg (i_not Iff.rfl) hc66)
        exact g_fieldAddr (q := (adr a0).add ((Int.toNat v41) * El.m PlayerD)) FL54_1 ON3 (if_pos hc66)
      refine wl_guard (c := (!r59) = false) (val := .int .i64 (p0[(Int.toNat v41)]!.2)) (b := ((!r59) == false)) (gv_some rfl rfl rfl) beq_iff_eq (fun hc67 => ?_) ?_
      · have hcq1 : ¬ (¬ (r59 = true)) := (i_neg (i_not Iff.rfl) hc67)
        exact q_loadF (i := v41) (j := 1) (v := .int .i64 (p0[(Int.toNat v41)]!.2)) ON3 (Tv.o (hp0.bel hB60)) (Tv.g (hp0.bel hB60) (hg65 hcq1)) (by rw [← Tv.free (hp0.bel hB60) (hg65 hcq1)]; rfl) (if_pos hc67)
      obtain ⟨r69, hk70, hm⟩ := hm
      refine wl_guardE (X := Ext) (c := (!r59) = false) (val := .bool r69) (Ext.refl _) (b := ((!r59) == false)) (gv_some rfl rfl rfl) beq_iff_eq (fun hc68 => ?_) (fun w71 hE72 => ?_)
      · have hcq1 : ¬ (¬ (r59 = true)) := (i_neg (i_not Iff.rfl) hc68)
        exact (g_call (vs := #[.int .i64 (p0[(Int.toNat v41)]!.2), .int .i64 0, .int .i64 2]) CF88 (args3 (if_pos hc68) rfl rfl) ((m_spec_l01In_fn (p0[(Int.toNat v41)]!.2) 0 2 (hk70 hcq1)).mono fun _ _ ⟨_, h1, h2, h3⟩ => ⟨by rw [h2, h1], h3⟩))
      have hB73 := hB60.trans (Ext.stp hE72 hS61.base)
      have hS74 := hS61.ext hE72
      refine wl_guard (c := (!r59) = false) (val := .bool (!r69)) (b := ((!r59) == false)) (gv_some rfl rfl rfl) beq_iff_eq (fun hc75 => ?_) ?_
      · have hcq1 : ¬ (¬ (r59 = true)) := (i_neg (i_not Iff.rfl) hc75)
        exact g_not (a := r69) (if_pos hc75)
      refine wl_val (g_pick_or (b := (!r59)) (q := (!r69)) rfl rfl) rfl ?_
      refine wl_nil ?_
      refine hK54 _ _ ?_
      refine w_condI (p := ((¬ (r59 = true)) ∨ (¬ (r69 = true)))) (b := ((!r59) || (!r69))) rfl (i_or (i_not Iff.rfl) (i_not Iff.rfl)) (fun h76 => ?_) (fun h76 => ?_)
      · replace hm := hm.1 h76
        refine w_seq fun K77 hK77 => ?_
        refine w_region ?_
        refine wl_val (g_assign (v := .bool false) rfl) rfl ?_
        refine wl_nil ?_
        refine hK77 _ _ ?_
        refine w_ret ?_
        repeat first | with_reducible refine q_then ?_ | with_reducible refine q_block ?_
        exact ret1 rfl (by decide) ⟨_, hm, rfl, toExt hB73⟩
      · replace hm := hm.2 h76
        refine w_skip ?_
        refine hK53 _ _ ?_
        refine w_region ?_
        refine wl_val (g_move (v := .int .i64 v41) rfl) rfl ?_
        obtain ⟨hg78, hm⟩ := hm
        refine wl_val (g_add (a := v41) (b := 1) rfl rfl hg78) rfl ?_
        refine wl_val (g_assign (v := .int .i64 (v41 + 1)) rfl) rfl ?_
        refine wl_nil ?_
        exact ⟨((v41 + 1)), hm.2, ⟨rfl, rfl, trivial⟩, ⟨hm.1, hB73, hS74⟩⟩
    · replace hm := hm.2 h52
      refine w_exit ?_
      exact ⟨(), ⟨rfl, trivial⟩, ⟨hm, hB47, hS48⟩⟩
  · rintro _ b_ w79 ⟨hm, hB80, hS81⟩
    show Wp _ _ _ _ (upds b_ [(0, .slice a0 n0 c0)]) w79
    refine w_seq fun K82 hK82 => ?_
    refine w_region ?_
    refine wl_val (g_move (v := .slice a0 n0 c0) rfl) rfl ?_
    refine wl_val (q_len SL27 rfl (Tv.len (hp0.bel hB80))) rfl ?_
    refine wl_step rfl (g_call (vs := #[.int .i64 (p0.length : Int), .int .i64 1, .int .i64 6]) CF88 (args3 rfl rfl rfl) (m_spec_l01In_fn (p0.length : Int) 1 6 hm)) ?_
    rintro _ w83 ⟨r86, hm, rfl, hE84⟩
    have hB87 := hB80.trans (Ext.stp hE84 hS81.base)
    have hS88 := hS81.ext hE84
    refine wl_val (g_assign (v := .bool r86) rfl) rfl ?_
    refine wl_nil ?_
    refine hK82 _ _ ?_
    refine w_ret ?_
    repeat first | with_reducible refine q_then ?_ | with_reducible refine q_block ?_
    exact ret1 rfl (by decide) ⟨_, hm, rfl, toExt hB87⟩

theorem m_spec_HandsFree_fn {w : World} {a0 : Option Addr} {n0 c0 : Nat} {y0 : List PlayerD} {p0 : List PlayerC} {Q : Int → Prop} (hp0 : Tv w.heap.size w a0 n0 c0 y0 p0) (hm : m_spec_HandsFree p0 Q) :
    Fn Try.prog 49 #[.slice a0 n0 c0] w (fun v w' => ∃ (r0 : Int), Q r0 ∧ v = .int .i64 r0 ∧ Ext w w') := by
  unfold m_spec_HandsFree at hm
  have hB0 := Below.refl w.heap.size w
  have hS0 : Sep w w.heap.size [] := Sep.nil (Nat.le_refl _)
  refine fn_of_wp Try.func49 rfl (by kernel_rfl) (Nat.le_of_ble_eq_true rfl) ?_
  refine w_seq fun K1 hK1 => ?_
  refine w_region ?_
  refine wl_val (g_assign (v := .int .i64 0) rfl) rfl ?_
  refine wl_nil ?_
  refine hK1 _ _ ?_
  refine w_seq fun K2 hK2 => ?_
  refine w_seq fun K3 hK3 => ?_
  refine w_region ?_
  refine wl_val (g_move (v := .slice a0 n0 c0) rfl) rfl ?_
  refine wl_step rfl (g_call (vs := #[.slice a0 n0 c0]) CF57 (args1 rfl) (m_spec_PlayersOk_fn ((hp0.bel hB0).up hS0) hm)) ?_
  rintro _ w4 ⟨r7, hm, rfl, hE5⟩
  have hB8 := hB0.trans (Ext.stp hE5 hS0.base)
  have hS9 := hS0.ext hE5
  refine wl_val (g_not (a := r7) rfl) rfl ?_
  refine wl_nil ?_
  refine hK3 _ _ ?_
  refine w_condI (p := ¬ (r7 = true)) (b := (!r7)) rfl (i_not Iff.rfl) (fun h10 => ?_) (fun h10 => ?_)
  · replace hm := hm.1 h10
    refine w_seq fun K11 hK11 => ?_
    refine w_region ?_
    refine wl_val (g_assign (v := .int .i64 (-1)) rfl) rfl ?_
    refine wl_nil ?_
    refine hK11 _ _ ?_
    refine w_ret ?_
    repeat first | with_reducible refine q_then ?_ | with_reducible refine q_block ?_
    exact ret1 rfl (by decide) ⟨_, hm, rfl, toExt hB8⟩
  · replace hm := hm.2 h10
    refine w_skip ?_
    refine hK2 _ _ ?_
    refine w_seq fun K12 hK12 => ?_
    refine w_region ?_
    refine wl_val (g_assign (v := .int .i64 0) rfl) rfl ?_
    refine wl_nil ?_
    refine hK12 _ _ ?_
    refine w_cut (σ := Int) (fun v47 => [(3, .int .i64 v47)]) (fun v47 w' => m_spec_HandsFree_K0 Q v47 ∧ Below w.heap.size w w' ∧ Sep w' w.heap.size []) ?_ ?_
    · refine w_seq fun K49 hK49 => ?_
      refine w_region ?_
      refine wl_val (g_assign (v := .int .i64 0) rfl) rfl ?_
      refine wl_nil ?_
      refine hK49 _ _ ?_
      refine w_block ?_
      obtain ⟨I52, μ53, h054, hr55⟩ := hm
      refine w_for (σ := Int × Int) (fun ⟨v50, v51⟩ => [(0, .slice a0 n0 c0), (3, .int .i64 v50), (4, .int .i64 v51)]) (fun ⟨v50, v51⟩ w' => I52 v50 v51 ∧ Below w.heap.size w w' ∧ Sep w' w.heap.size []) (fun ⟨v50, v51⟩ => μ53 v50 v51) (0, 0) ⟨rfl, rfl, rfl, trivial⟩ ⟨h054, hB8, hS9⟩ ?_
      rintro ⟨v50, v51⟩ b_ w56 ⟨hi_, hB57, hS58⟩
      show Wp _ _ _ _ (upds b_ [(0, .slice a0 n0 c0), (3, .int .i64 v50), (4, .int .i64 v51)]) w56
      have hm := hr55 v50 v51 hi_
      refine w_seq fun K60 hK60 => ?_
      refine w_seq fun K61 hK61 => ?_
      refine w_region ?_
      refine wl_val (g_move (v := .int .i64 v51) rfl) rfl ?_
      refine wl_val (g_move (v := .slice a0 n0 c0) rfl) rfl ?_
      refine wl_val (q_len SL27 rfl (Tv.len (hp0.bel hB57))) rfl ?_
      refine wl_val (g_lss (a := v51) (b := (p0.length : Int)) rfl rfl) rfl ?_
      refine wl_nil ?_
      refine hK61 _ _ ?_
      refine w_condI (p := v51 < (p0.length : Int)) (b := (decide (v51 < (p0.length : Int)))) rfl decide_eq_true_iff (fun h62 => ?_) (fun h62 => ?_)
      · replace hm := hm.1 h62
        refine w_skip ?_
        refine hK60 _ _ ?_
        refine w_seq fun K63 hK63 => ?_
        refine w_block ?_
        refine w_region ?_
        refine wl_val (g_move (v := .int .i64 v50) rfl) rfl ?_
        refine wl_val (g_move (v := .slice a0 n0 c0) rfl) rfl ?_
        refine wl_val (g_move (v := .int .i64 v51) rfl) rfl ?_
        obtain ⟨hg64, hm⟩ := hm
        refine wl_val (q_index (i := v51) SL27 rfl rfl (Tv.o (hp0.bel hB57)) (Tv.g (hp0.bel hB57) hg64)) rfl ?_
        refine wl_val (g_fieldAddr (q := (adr a0).add ((Int.toNat v51) * El.m PlayerD)) FL54_1 ON3 rfl) rfl ?_
        refine wl_val (q_loadF (i := v51) (j := 1) (v := .int .i64 (p0[(Int.toNat v51)]!.2)) ON3 (Tv.o (hp0.bel hB57)) (Tv.g (hp0.bel hB57) hg64) (by rw [← Tv.free (hp0.bel hB57) hg64]; rfl) rfl) rfl ?_
        obtain ⟨hg65, hm⟩ := hm
        refine wl_val (g_add (a := v50) (b := p0[(Int.toNat v51)]!.2) rfl rfl hg65) rfl ?_
        refine wl_val (g_assign (v := .int .i64 (v50 + p0[(Int.toNat v51)]!.2)) rfl) rfl ?_
        refine wl_nil ?_
        refine hK63 _ _ ?_
        refine w_region ?_
        refine wl_val (g_move (v := .int .i64 v51) rfl) rfl ?_
        obtain ⟨hg66, hm⟩ := hm
        refine wl_val (g_add (a := v51) (b := 1) rfl rfl hg66) rfl ?_
        refine wl_val (g_assign (v := .int .i64 (v51 + 1)) rfl) rfl ?_
        refine wl_nil ?_
        exact ⟨((v50 + p0[(Int.toNat v51)]!.2), (v51 + 1)), hm.2, ⟨rfl, rfl, rfl, trivial⟩, ⟨hm.1, hB57, hS58⟩⟩
      · replace hm := hm.2 h62
        refine w_exit ?_
        exact ⟨(v50), ⟨rfl, trivial⟩, ⟨hm, hB57, hS58⟩⟩
    · rintro v47 b_ w67 ⟨hm, hB68, hS69⟩
      show Wp _ _ _ _ (upds b_ [(3, .int .i64 v47)]) w67
      refine w_seq fun K70 hK70 => ?_
      refine w_region ?_
      refine wl_val (g_move (v := .int .i64 v47) rfl) rfl ?_
      refine wl_val (g_assign (v := .int .i64 v47) rfl) rfl ?_
      refine wl_nil ?_
      refine hK70 _ _ ?_
      refine w_ret ?_
      repeat first | with_reducible refine q_then ?_ | with_reducible refine q_block ?_
      exact ret1 rfl (by decide) ⟨_, hm, rfl, toExt hB68⟩

end Go.Proofs.Ytddjkiefadiijaa
