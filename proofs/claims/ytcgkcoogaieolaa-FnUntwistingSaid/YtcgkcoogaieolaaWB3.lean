/- The walks: the code does what its model says. Printed by a program (gen2.py). No statement of the claim stands here. -/
import Derived.Test.YtcgkcoogaieolaaFacts2
import Derived.Test.YtcgkcoogaieolaaSop
import Derived.Test.YtcgkcoogaieolaaFacts
import Derived.Test.YtcgkcoogaieolaaMB
import Derived.Test.YtcgkcoogaieolaaWB1
import Derived.Test.YtcgkcoogaieolaaWB2
namespace Go.Proofs.Ytcgkcoogaieolaa
open Go Go.RowKit
set_option maxRecDepth 100000
theorem m_impl_isStrict_fn {w : World} {a0 : Option Addr} {n0 c0 : Nat} {p0 : List Int} {Q : Bool → Prop} (hp0 : Vw w.heap.size w a0 n0 c0 p0) (p1 : Int) (p2 : Int) (hm : m_impl_isStrict p0 p1 p2 Q) :
    Fn Try.prog 82 #[.slice a0 n0 c0, .int .i64 p1, .int .i64 p2] w (fun v w' => ∃ (r0 : Bool), Q r0 ∧ v = .bool r0 ∧ Ext w w') := by
  unfold m_impl_isStrict at hm
  have hB0 := Below.refl w.heap.size w
  have hS0 : Sep w w.heap.size [] := Sep.nil (Nat.le_refl _)
  refine fn_of_wp Try.func82 rfl (by kernel_rfl) (Nat.le_of_ble_eq_true rfl) ?_
  refine w_seq fun K1 hK1 => ?_
  refine w_region ?_
  refine wl_val (g_assign (v := .bool false) rfl) rfl ?_
  refine wl_nil ?_
  refine hK1 _ _ ?_
  refine w_cut (σ := Unit) (fun _ => [(0, .slice a0 n0 c0), (1, .int .i64 p1), (2, .int .i64 p2)]) (fun _ w' => m_impl_isStrict_K0 p0 p1 p2 Q ∧ Below w.heap.size w w' ∧ Sep w' w.heap.size []) ?_ ?_
  · refine w_seq fun K3 hK3 => ?_
    refine w_region ?_
    refine wl_val (g_move (v := .slice a0 n0 c0) rfl) rfl ?_
    refine wl_val (q_len SL39 rfl (Vw.len (hp0.bel hB0))) rfl ?_
    refine wl_val (g_move (v := .int .i64 0) rfl) rfl ?_
    refine wl_nil ?_
    refine hK3 _ _ ?_
    refine w_block ?_
    obtain ⟨I99, μ100, h0101, hr102⟩ := hm
    refine w_for (σ := Int) (fun v98 => [(0, .slice a0 n0 c0), (1, .int .i64 p1), (2, .int .i64 p2), (9, .int .i64 (p0.length : Int)), (10, .int .i64 v98)]) (fun v98 w' => I99 v98 ∧ Below w.heap.size w w' ∧ Sep w' w.heap.size []) (fun v98 => μ100 v98) (0) ⟨rfl, rfl, rfl, rfl, rfl, trivial⟩ ⟨h0101, hB0, hS0⟩ ?_
    rintro v98 b_ w103 ⟨hi_, hB104, hS105⟩
    show Wp _ _ _ _ (upds b_ [(0, .slice a0 n0 c0), (1, .int .i64 p1), (2, .int .i64 p2), (9, .int .i64 (p0.length : Int)), (10, .int .i64 v98)]) w103
    have hm := hr102 v98 hi_
    refine w_seq fun K107 hK107 => ?_
    refine w_region ?_
    refine wl_val (g_lss (a := v98) (b := (p0.length : Int)) rfl rfl) rfl ?_
    refine wl_nil ?_
    refine hK107 _ _ ?_
    refine w_seq fun K108 hK108 => ?_
    refine w_condI (p := v98 < (p0.length : Int)) (b := (decide (v98 < (p0.length : Int)))) rfl decide_eq_true_iff (fun h109 => ?_) (fun h109 => ?_)
    · replace hm := hm.1 h109
      refine w_skip ?_
      refine hK108 _ _ ?_
      refine w_seq fun K110 hK110 => ?_
      refine w_block ?_
      refine w_seq fun K111 hK111 => ?_
      refine w_region ?_
      refine wl_val (g_move (v := .int .i64 v98) rfl) rfl ?_
      refine wl_val (g_assign (v := .int .i64 v98) rfl) rfl ?_
      refine wl_nil ?_
      refine hK111 _ _ ?_
      refine w_seq fun K112 hK112 => ?_
      refine w_draw (X := Ext) (Y := Ext) [] MIX (by decide +kernel) rfl Ext.refl (fun _ _ _ => Ext.trans) (fun _ _ _ => Chg.trans) (fun _ _ h => Ext.chg h _) (fun w113 hE114 => ?_)
      have hB115 := hB104.trans (Ext.stp hE114 hS105.base)
      have hS116 := hS105.ext hE114
      refine ⟨.int .i64 v98, fun w117 hX118 => od_plain rfl (by have hS119 := hS116.ext hX118; have hB120 := hB115.trans (Ext.stp hX118 hS116.base); exact is_ext (g_move (v := .int .i64 v98) rfl)), ?_⟩
      refine ⟨.bool (decide (v98 > 0)), fun w121 hX122 => od_plain rfl (by have hS123 := hS116.ext hX122; have hB124 := hB115.trans (Ext.stp hX122 hS116.base); exact is_ext (g_gtr (a := v98) (b := 0) rfl rfl)), ?_⟩
      refine ⟨.bool (decide (v98 > 0)), fun w125 hX126 => od_plain rfl (by have hS127 := hS116.ext hX126; have hB128 := hB115.trans (Ext.stp hX126 hS116.base); exact is_ext (g_move (v := .bool (decide (v98 > 0))) rfl)), ?_⟩
      refine ⟨if (decide (v98 > 0)) = true then .slice a0 n0 c0 else undef, fun w129 hX130 => od_guard (c := (decide (v98 > 0)) = true) (val := .slice a0 n0 c0) (b := ((decide (v98 > 0)) == true)) (gv_some rfl rfl rfl) beq_iff_eq (fun hc133 => ?_), ?_⟩
      · have hS131 := hS116.ext hX130
        have hB132 := hB115.trans (Ext.stp hX130 hS116.base)
        have hcq1 : v98 > 0 := (decide_eq_true_iff.mp hc133)
        exact is_ext (g_move (v := .slice a0 n0 c0) rfl)
      refine ⟨if (decide (v98 > 0)) = true then .int .i64 v98 else undef, fun w134 hX135 => od_guard (c := (decide (v98 > 0)) = true) (val := .int .i64 v98) (b := ((decide (v98 > 0)) == true)) (gv_some rfl rfl rfl) beq_iff_eq (fun hc138 => ?_), ?_⟩
      · have hS136 := hS116.ext hX135
        have hB137 := hB115.trans (Ext.stp hX135 hS116.base)
        have hcq1 : v98 > 0 := (decide_eq_true_iff.mp hc138)
        exact is_ext (g_move (v := .int .i64 v98) rfl)
      obtain ⟨hg144, hm⟩ := hm
      refine ⟨if (decide (v98 > 0)) = true then .pointer (some ((adr a0).add ((Int.toNat v98) * El.m Int))) else undef, fun w139 hX140 => od_guard (c := (decide (v98 > 0)) = true) (val := .pointer (some ((adr a0).add ((Int.toNat v98) * El.m Int)))) (b := ((decide (v98 > 0)) == true)) (gv_some rfl rfl rfl) beq_iff_eq (fun hc143 => ?_), ?_⟩
      · have hS141 := hS116.ext hX140
        have hB142 := hB115.trans (Ext.stp hX140 hS116.base)
        have hcq1 : v98 > 0 := (decide_eq_true_iff.mp hc143)
        exact is_ext (q_index (i := v98) SL39 (if_pos hc143) (if_pos hc143) (hp0.bel hB142) (hg144 hcq1))
      refine ⟨if (decide (v98 > 0)) = true then .int .i64 (p0[(Int.toNat v98)]!) else undef, fun w145 hX146 => od_guard (c := (decide (v98 > 0)) = true) (val := .int .i64 (p0[(Int.toNat v98)]!)) (b := ((decide (v98 > 0)) == true)) (gv_some rfl rfl rfl) beq_iff_eq (fun hc149 => ?_), ?_⟩
      · have hS147 := hS116.ext hX146
        have hB148 := hB115.trans (Ext.stp hX146 hS116.base)
        have hcq1 : v98 > 0 := (decide_eq_true_iff.mp hc149)
        exact is_ext (q_load (i := v98) (v := .int .i64 (p0[(Int.toNat v98)]!)) ON3 (hp0.bel hB148) (hg144 hcq1) rfl (if_pos hc149))
      refine ⟨if (decide (v98 > 0)) = true then .slice a0 n0 c0 else undef, fun w150 hX151 => od_guard (c := (decide (v98 > 0)) = true) (val := .slice a0 n0 c0) (b := ((decide (v98 > 0)) == true)) (gv_some rfl rfl rfl) beq_iff_eq (fun hc154 => ?_), ?_⟩
      · have hS152 := hS116.ext hX151
        have hB153 := hB115.trans (Ext.stp hX151 hS116.base)
        have hcq1 : v98 > 0 := (decide_eq_true_iff.mp hc154)
        exact is_ext (g_move (v := .slice a0 n0 c0) rfl)
      refine ⟨if (decide (v98 > 0)) = true then .int .i64 v98 else undef, fun w155 hX156 => od_guard (c := (decide (v98 > 0)) = true) (val := .int .i64 v98) (b := ((decide (v98 > 0)) == true)) (gv_some rfl rfl rfl) beq_iff_eq (fun hc159 => ?_), ?_⟩
      · have hS157 := hS116.ext hX156
        have hB158 := hB115.trans (Ext.stp hX156 hS116.base)
        have hcq1 : v98 > 0 := (decide_eq_true_iff.mp hc159)
        exact is_ext (g_move (v := .int .i64 v98) rfl)
      obtain ⟨hg165, hm⟩ := hm
      refine ⟨if (decide (v98 > 0)) = true then .int .i64 (v98 - 1) else undef, fun w160 hX161 => od_guard (c := (decide (v98 > 0)) = true) (val := .int .i64 (v98 - 1)) (b := ((decide (v98 > 0)) == true)) (gv_some rfl rfl rfl) beq_iff_eq (fun hc164 => ?_), ?_⟩
      · have hS162 := hS116.ext hX161
        have hB163 := hB115.trans (Ext.stp hX161 hS116.base)
        have hcq1 : v98 > 0 := (decide_eq_true_iff.mp hc164)
        exact is_ext (g_sub (a := v98) (b := 1) (if_pos hc164) rfl (hg165 hcq1))
      obtain ⟨hg171, hm⟩ := hm
      refine ⟨if (decide (v98 > 0)) = true then .pointer (some ((adr a0).add ((Int.toNat (v98 - 1)) * El.m Int))) else undef, fun w166 hX167 => od_guard (c := (decide (v98 > 0)) = true) (val := .pointer (some ((adr a0).add ((Int.toNat (v98 - 1)) * El.m Int)))) (b := ((decide (v98 > 0)) == true)) (gv_some rfl rfl rfl) beq_iff_eq (fun hc170 => ?_), ?_⟩
      · have hS168 := hS116.ext hX167
        have hB169 := hB115.trans (Ext.stp hX167 hS116.base)
        have hcq1 : v98 > 0 := (decide_eq_true_iff.mp hc170)
        exact is_ext (q_index (i := (v98 - 1)) SL39 (if_pos hc170) (if_pos hc170) (hp0.bel hB169) (hg171 hcq1))
      refine ⟨if (decide (v98 > 0)) = true then .int .i64 (p0[(Int.toNat (v98 - 1))]!) else undef, fun w172 hX173 => od_guard (c := (decide (v98 > 0)) = true) (val := .int .i64 (p0[(Int.toNat (v98 - 1))]!)) (b := ((decide (v98 > 0)) == true)) (gv_some rfl rfl rfl) beq_iff_eq (fun hc176 => ?_), ?_⟩
      · have hS174 := hS116.ext hX173
        have hB175 := hB115.trans (Ext.stp hX173 hS116.base)
        have hcq1 : v98 > 0 := (decide_eq_true_iff.mp hc176)
        exact is_ext (q_load (i := (v98 - 1)) (v := .int .i64 (p0[(Int.toNat (v98 - 1))]!)) ON3 (hp0.bel hB175) (hg171 hcq1) rfl (if_pos hc176))
      refine ⟨if (decide (v98 > 0)) = true then .bool (decide (p0[(Int.toNat v98)]! ≤ p0[(Int.toNat (v98 - 1))]!)) else undef, fun w177 hX178 => od_guard (c := (decide (v98 > 0)) = true) (val := .bool (decide (p0[(Int.toNat v98)]! ≤ p0[(Int.toNat (v98 - 1))]!))) (b := ((decide (v98 > 0)) == true)) (gv_some rfl rfl rfl) beq_iff_eq (fun hc181 => ?_), ?_⟩
      · have hS179 := hS116.ext hX178
        have hB180 := hB115.trans (Ext.stp hX178 hS116.base)
        have hcq1 : v98 > 0 := (decide_eq_true_iff.mp hc181)
        exact is_ext (g_leq (a := p0[(Int.toNat v98)]!) (b := p0[(Int.toNat (v98 - 1))]!) (if_pos hc181) (if_pos hc181))
      refine ⟨.bool ((decide (v98 > 0)) && (decide (p0[(Int.toNat v98)]! ≤ p0[(Int.toNat (v98 - 1))]!))), fun w182 hX183 => od_plain rfl (by have hS184 := hS116.ext hX183; have hB185 := hB115.trans (Ext.stp hX183 hS116.base); exact is_ext (g_pick_and (b := (decide (v98 > 0))) (q := (decide (p0[(Int.toNat v98)]! ≤ p0[(Int.toNat (v98 - 1))]!))) rfl rfl)), ?_⟩
      intro w186 hX187
      have hB188 := hB115.trans (Ext.stp hX187 hS116.base)
      have hS189 := hS116.ext hX187
      refine hK112 _ _ ?_
      refine w_condI (p := ((v98 > 0) ∧ (p0[(Int.toNat v98)]! ≤ p0[(Int.toNat (v98 - 1))]!))) (b := ((decide (v98 > 0)) && (decide (p0[(Int.toNat v98)]! ≤ p0[(Int.toNat (v98 - 1))]!)))) rfl (i_and decide_eq_true_iff decide_eq_true_iff) (fun h190 => ?_) (fun h190 => ?_)
      · replace hm := hm.1 h190
        refine w_seq fun K191 hK191 => ?_
        refine w_region ?_
        refine wl_val (g_assign (v := .bool false) rfl) rfl ?_
        refine wl_nil ?_
        refine hK191 _ _ ?_
        refine w_ret ?_
        repeat first | with_reducible refine q_then ?_ | with_reducible refine q_block ?_
        exact ret1 rfl (by decide) ⟨_, hm, rfl, toExt hB188⟩
      · replace hm := hm.2 h190
        refine w_skip ?_
        refine hK110 _ _ ?_
        refine w_region ?_
        obtain ⟨hg192, hm⟩ := hm
        refine wl_val (g_add (a := v98) (b := 1) rfl rfl hg192) rfl ?_
        refine wl_val (g_move (v := .int .i64 (v98 + 1)) rfl) rfl ?_
        refine wl_nil ?_
        exact ⟨((v98 + 1)), hm.2, ⟨rfl, rfl, rfl, rfl, rfl, trivial⟩, ⟨hm.1, hB188, hS189⟩⟩
    · replace hm := hm.2 h109
      refine w_exit ?_
      exact ⟨(), ⟨rfl, rfl, rfl, trivial⟩, ⟨hm, hB104, hS105⟩⟩
  · rintro _ b_ w193 ⟨hm, hB194, hS195⟩
    show Wp _ _ _ _ (upds b_ [(0, .slice a0 n0 c0), (1, .int .i64 p1), (2, .int .i64 p2)]) w193
    refine w_seq fun K196 hK196 => ?_
    refine w_region ?_
    refine wl_val (g_move (v := .slice a0 n0 c0) rfl) rfl ?_
    refine wl_val (g_move (v := .int .i64 p1) rfl) rfl ?_
    refine wl_val (g_move (v := .int .i64 p2) rfl) rfl ?_
    refine wl_step rfl (g_call (vs := #[.slice a0 n0 c0, .int .i64 p1, .int .i64 p2]) CF84 (args3 rfl rfl rfl) (m_impl_allWithin_fn ((hp0.bel hB194).up hS195) p1 p2 hm)) ?_
    rintro _ w197 ⟨r200, hm, rfl, hE198⟩
    have hB201 := hB194.trans (Ext.stp hE198 hS195.base)
    have hS202 := hS195.ext hE198
    refine wl_val (g_assign (v := .bool r200) rfl) rfl ?_
    refine wl_nil ?_
    refine hK196 _ _ ?_
    refine w_ret ?_
    repeat first | with_reducible refine q_then ?_ | with_reducible refine q_block ?_
    exact ret1 rfl (by decide) ⟨_, hm, rfl, toExt hB201⟩

theorem m_impl_OrderOk_fn {w : World} {a0 : Option Addr} {n0 c0 : Nat} {p0 : List Int} {Q : Bool → Prop} (hp0 : Vw w.heap.size w a0 n0 c0 p0) (hm : m_impl_OrderOk p0 Q) :
    Fn Try.prog 78 #[.slice a0 n0 c0] w (fun v w' => ∃ (r0 : Bool), Q r0 ∧ v = .bool r0 ∧ Ext w w') := by
  unfold m_impl_OrderOk at hm
  have hB0 := Below.refl w.heap.size w
  have hS0 : Sep w w.heap.size [] := Sep.nil (Nat.le_refl _)
  refine fn_of_wp Try.func78 rfl (by kernel_rfl) (Nat.le_of_ble_eq_true rfl) ?_
  refine w_seq fun K1 hK1 => ?_
  refine w_region ?_
  refine wl_val (g_assign (v := .bool false) rfl) rfl ?_
  refine wl_nil ?_
  refine hK1 _ _ ?_
  refine w_seq fun K2 hK2 => ?_
  refine w_region ?_
  refine wl_val (g_move (v := .slice a0 n0 c0) rfl) rfl ?_
  refine wl_val (q_len SL39 rfl (Vw.len (hp0.bel hB0))) rfl ?_
  refine wl_step rfl (g_call (vs := #[.int .i64 (p0.length : Int), .int .i64 1, .int .i64 7]) CF54 (args3 rfl rfl rfl) (m_impl_within_fn (p0.length : Int) 1 7 hm)) ?_
  rintro _ w3 ⟨r6, hm, rfl, hE4⟩
  have hB7 := hB0.trans (Ext.stp hE4 hS0.base)
  have hS8 := hS0.ext hE4
  refine wl_val (g_move (v := .bool r6) rfl) rfl ?_
  by_cases hc9 : r6 = true
  · replace hm := hm.1 (Iff.rfl.mp hc9)
    refine wl_valT (g_move (v := .slice a0 n0 c0) rfl) (gv_T (gv_some rfl rfl rfl) hc9) ?_
    refine wl_stepT (gv_T (gv_some rfl rfl rfl) hc9) (g_call (vs := #[.slice a0 n0 c0]) CF83 (args1 rfl) (m_impl_sorted_fn ((hp0.bel hB7).up hS8) hm)) ?_
    rintro _ w10 ⟨r13, a14, n15, c16, hm, rfl, hE11, hN12⟩
    have hS18 := hS8.call1 hE11 hN12
    have hB19 := hB7.trans (Ext.stp hE11 hS8.base)
    refine wl_valT (g_move (v := .slice a0 n0 c0) rfl) (gv_T (gv_some rfl rfl rfl) hc9) ?_
    refine wl_valT (q_len SL39 rfl (Vw.len (hp0.bel hB19))) (gv_T (gv_some rfl rfl rfl) hc9) ?_
    obtain ⟨hg20, hm⟩ := hm
    refine wl_valT (g_sub (a := (p0.length : Int)) (b := 1) rfl rfl hg20) (gv_T (gv_some rfl rfl rfl) hc9) ?_
    refine wl_stepT (gv_T (gv_some rfl rfl rfl) hc9) (g_call (vs := #[.slice a14 n15 c16, .int .i64 0, .int .i64 ((p0.length : Int) - 1)]) CF82 (args3 rfl rfl rfl) (m_impl_isStrict_fn (oS.vw hS18.g0) 0 ((p0.length : Int) - 1) hm)) ?_
    rintro _ w21 ⟨r24, hm, rfl, hE22⟩
    have hB25 := hB19.trans (Ext.stp hE22 hS18.base)
    have hS26 := hS18.ext hE22
    refine wl_val (g_pickT (b := r6) rfl hc9 rfl) rfl ?_
    refine wl_val (g_assign (v := .bool r24) rfl) rfl ?_
    refine wl_nil ?_
    refine hK2 _ _ ?_
    refine w_ret ?_
    repeat first | with_reducible refine q_then ?_ | with_reducible refine q_block ?_
    exact ret1 rfl (by decide) ⟨_, hm, rfl, toExt hB25⟩
  · have hc9n := b_F hc9
    replace hm := hm.2 (i_neg Iff.rfl hc9n)
    refine wl_skipF (gv_F (gv_some rfl rfl rfl) hc9n) ?_
    refine wl_skipF (gv_F (gv_some rfl rfl rfl) hc9n) ?_
    refine wl_skipF (gv_F (gv_some rfl rfl rfl) hc9n) ?_
    refine wl_skipF (gv_F (gv_some rfl rfl rfl) hc9n) ?_
    refine wl_skipF (gv_F (gv_some rfl rfl rfl) hc9n) ?_
    refine wl_skipF (gv_F (gv_some rfl rfl rfl) hc9n) ?_
    refine wl_val (g_pickF (b := r6) rfl hc9n rfl) rfl ?_
    refine wl_val (g_assign (v := .bool false) rfl) rfl ?_
    refine wl_nil ?_
    refine hK2 _ _ ?_
    refine w_ret ?_
    repeat first | with_reducible refine q_then ?_ | with_reducible refine q_block ?_
    exact ret1 rfl (by decide) ⟨_, hm, rfl, toExt hB7⟩

theorem m_impl_copyOf_fn {w : World} {a0 : Option Addr} {n0 c0 : Nat} {p0 : List Int} {Q : (List Int) → Prop} (hp0 : Vw w.heap.size w a0 n0 c0 p0) (hm : m_impl_copyOf p0 Q) :
    Fn Try.prog 79 #[.slice a0 n0 c0] w (fun v w' => ∃ (r0 : List Int) (a0 : Option Addr) (n0 c0 : Nat), Q r0 ∧ v = .slice a0 n0 c0 ∧ Ext w w' ∧ Sep w' w.heap.size [oS 3 a0 n0 c0 r0]) := by
  unfold m_impl_copyOf at hm
  have hB0 := Below.refl w.heap.size w
  have hS0 : Sep w w.heap.size [] := Sep.nil (Nat.le_refl _)
  refine fn_of_wp Try.func79 rfl (by kernel_rfl) (Nat.le_of_ble_eq_true rfl) ?_
  refine w_seq fun K1 hK1 => ?_
  refine w_region ?_
  refine wl_val (g_assign (v := .slice none 0 0) rfl) rfl ?_
  refine wl_nil ?_
  refine hK1 _ _ ?_
  refine w_seq fun K2 hK2 => ?_
  refine w_region ?_
  refine wl_step rfl (q_lit0 (α := Int) rfl SL39 hS0) ?_
  rintro _ w3 ⟨a4, rfl, hS6, hE5⟩
  have hB8 := hB0.trans (Ext.stp hE5 hS0.base)
  refine wl_val (g_move (v := .slice a0 n0 c0) rfl) rfl ?_
  obtain ⟨hg14, hm⟩ := hm
  refine wl_step rfl (q_append SL39 rfl rfl hS6 (hp0.bel hB8) hg14 (by decide)) ?_
  rintro _ w9 ⟨a10, c11, rfl, hS13, hb12⟩
  have hB15 := hB8.trans hb12
  refine wl_val (g_assign (v := .slice a10 (0 + n0) c11) rfl) rfl ?_
  refine wl_nil ?_
  refine hK2 _ _ ?_
  refine w_ret ?_
  repeat first | with_reducible refine q_then ?_ | with_reducible refine q_block ?_
  exact ret1 rfl (by decide) ⟨_, _, _, _, hm, rfl, toExt hB15, hS13⟩

theorem m_impl_SortingSwaps_fn {w : World} {a0 : Option Addr} {n0 c0 : Nat} {p0 : List Int} {Q : (List Int) → Prop} (hp0 : Vw w.heap.size w a0 n0 c0 p0) (hm : m_impl_SortingSwaps p0 Q) :
    Fn Try.prog 70 #[.slice a0 n0 c0] w (fun v w' => ∃ (r0 : List Int) (a0 : Option Addr) (n0 c0 : Nat), Q r0 ∧ v = .slice a0 n0 c0 ∧ Ext w w' ∧ Sep w' w.heap.size [oS 3 a0 n0 c0 r0]) := by
  unfold m_impl_SortingSwaps at hm
  have hB0 := Below.refl w.heap.size w
  have hS0 : Sep w w.heap.size [] := Sep.nil (Nat.le_refl _)
  refine fn_of_wp Try.func70 rfl (by kernel_rfl) (Nat.le_of_ble_eq_true rfl) ?_
  refine w_seq fun K1 hK1 => ?_
  refine w_region ?_
  refine wl_val (g_assign (v := .slice none 0 0) rfl) rfl ?_
  refine wl_nil ?_
  refine hK1 _ _ ?_
  refine w_seq fun K2 hK2 => ?_
  refine w_seq fun K3 hK3 => ?_
  refine w_region ?_
  refine wl_val (g_move (v := .slice a0 n0 c0) rfl) rfl ?_
  refine wl_step rfl (g_call (vs := #[.slice a0 n0 c0]) CF78 (args1 rfl) (m_impl_OrderOk_fn ((hp0.bel hB0).up hS0) hm)) ?_
  rintro _ w4 ⟨r7, hm, rfl, hE5⟩
  have hB8 := hB0.trans (Ext.stp hE5 hS0.base)
  have hS9 := hS0.ext hE5
  refine wl_val (g_not (a := r7) rfl) rfl ?_
  refine wl_nil ?_
  refine hK3 _ _ ?_
  refine w_condI (p := ¬ (r7 = true)) (b := (!r7)) rfl (i_not Iff.rfl) (fun h10 => ?_) (fun h10 => ?_)
  · replace hm := hm.1 h10
    refine w_seq fun K11 hK11 => ?_
    refine w_region ?_
    refine wl_val (g_assign (v := .slice none 0 0) rfl) rfl ?_
    refine wl_nil ?_
    refine hK11 _ _ ?_
    refine w_ret ?_
    have hS12 := hS9.nilS (α := Int) (E := 3)
    repeat first | with_reducible refine q_then ?_ | with_reducible refine q_block ?_
    exact ret1 rfl (by decide) ⟨_, _, _, _, hm, rfl, toExt hB8, hS12⟩
  · replace hm := hm.2 h10
    refine w_skip ?_
    refine hK2 _ _ ?_
    refine w_seq fun K14 hK14 => ?_
    refine w_region ?_
    refine wl_val (g_move (v := .slice a0 n0 c0) rfl) rfl ?_
    refine wl_step rfl (g_call (vs := #[.slice a0 n0 c0]) CF79 (args1 rfl) (m_impl_copyOf_fn ((hp0.bel hB8).up hS9) hm)) ?_
    rintro _ w15 ⟨r18, a19, n20, c21, hm, rfl, hE16, hN17⟩
    have hS23 := hS9.call1 hE16 hN17
    have hB24 := hB8.trans (Ext.stp hE16 hS9.base)
    refine wl_step rfl (q_lit0 (α := Int) rfl SL39 hS23) ?_
    rintro _ w25 ⟨a26, rfl, hS28, hE27⟩
    have hB30 := hB24.trans (Ext.stp hE27 hS23.base)
    refine wl_val (g_assign (v := .slice a19 n20 c21) rfl) rfl ?_
    refine wl_val (g_assign (v := .slice a26 0 0) rfl) rfl ?_
    refine wl_nil ?_
    refine hK14 _ _ ?_
    refine w_cut (σ := List Int × Option Addr × Nat × Nat) (fun ⟨x644, a645, n646, c647⟩ => [(4, .slice a645 n646 c647)]) (fun ⟨x644, a645, n646, c647⟩ w' => m_impl_SortingSwaps_K0 Q x644 ∧ Below w.heap.size w w' ∧ Sep w' w.heap.size [oS 3 a645 n646 c647 (x644 : List Int)]) ?_ ?_
    · refine w_seq fun K649 hK649 => ?_
      refine w_region ?_
      refine wl_val (g_assign (v := .bool true) rfl) rfl ?_
      refine wl_nil ?_
      refine hK649 _ _ ?_
      refine w_block ?_
      have hS656 := hS28.f1
      obtain ⟨I657, μ658, h0659, hr660⟩ := hm
      refine w_for (σ := List Int × List Int × Option Addr × Nat × Nat × Bool) (fun ⟨x650, x651, a652, n653, c654, v655⟩ => [(3, .slice a19 n20 c21), (4, .slice a652 n653 c654), (5, .bool v655)]) (fun ⟨x650, x651, a652, n653, c654, v655⟩ w' => I657 x650 x651 v655 ∧ Below w.heap.size w w' ∧ Sep w' w.heap.size [oS 3 a19 n20 c21 (x650 : List Int), oS 3 a652 n653 c654 (x651 : List Int)]) (fun ⟨x650, x651, a652, n653, c654, v655⟩ => μ658 x650 x651 v655) (r18, [], a26, 0, 0, true) ⟨rfl, rfl, rfl, trivial⟩ ⟨h0659, hB30, hS656⟩ ?_
      rintro ⟨x650, x651, a652, n653, c654, v655⟩ b_ w661 ⟨hi_, hB662, hS663⟩
      show Wp _ _ _ _ (upds b_ [(3, .slice a19 n20 c21), (4, .slice a652 n653 c654), (5, .bool v655)]) w661
      have hm := hr660 x650 x651 v655 hi_
      refine w_seq fun K665 hK665 => ?_
      refine w_seq fun K666 hK666 => ?_
      refine w_region ?_
      refine wl_val (g_move (v := .bool v655) rfl) rfl ?_
      refine wl_nil ?_
      refine hK666 _ _ ?_
      refine w_condI (p := v655 = true) (b := v655) rfl Iff.rfl (fun h667 => ?_) (fun h667 => ?_)
      · replace hm := hm.1 h667
        refine w_skip ?_
        refine hK665 _ _ ?_
        refine w_block ?_
        refine w_seq fun K668 hK668 => ?_
        refine w_region ?_
        refine wl_val (g_assign (v := .bool false) rfl) rfl ?_
        refine wl_nil ?_
        refine hK668 _ _ ?_
        refine w_seq fun K669 hK669 => ?_
        refine w_region ?_
        refine wl_val (g_assign (v := .int .i64 0) rfl) rfl ?_
        refine wl_nil ?_
        refine hK669 _ _ ?_
        refine w_block ?_
        obtain ⟨I677, μ678, h0679, hr680⟩ := hm
        refine w_for (σ := List Int × List Int × Option Addr × Nat × Nat × Bool × Int) (fun ⟨x670, x671, a672, n673, c674, v675, v676⟩ => [(3, .slice a19 n20 c21), (4, .slice a672 n673 c674), (5, .bool v675), (6, .int .i64 v676)]) (fun ⟨x670, x671, a672, n673, c674, v675, v676⟩ w' => I677 x670 x671 v675 v676 ∧ Below w.heap.size w w' ∧ Sep w' w.heap.size [oS 3 a19 n20 c21 (x670 : List Int), oS 3 a672 n673 c674 (x671 : List Int)]) (fun ⟨x670, x671, a672, n673, c674, v675, v676⟩ => μ678 x670 x671 v675 v676) (x650, x651, a652, n653, c654, false, 0) ⟨rfl, rfl, rfl, rfl, trivial⟩ ⟨h0679, hB662, hS663⟩ ?_
        rintro ⟨x670, x671, a672, n673, c674, v675, v676⟩ b_ w681 ⟨hi_, hB682, hS683⟩
        show Wp _ _ _ _ (upds b_ [(3, .slice a19 n20 c21), (4, .slice a672 n673 c674), (5, .bool v675), (6, .int .i64 v676)]) w681
        have hm := hr680 x670 x671 v675 v676 hi_
        refine w_seq fun K685 hK685 => ?_
        refine w_seq fun K686 hK686 => ?_
        refine w_region ?_
        refine wl_val (g_move (v := .int .i64 v676) rfl) rfl ?_
        obtain ⟨hg687, hm⟩ := hm
        refine wl_val (g_add (a := v676) (b := 1) rfl rfl hg687) rfl ?_
        refine wl_val (g_move (v := .slice a19 n20 c21) rfl) rfl ?_
        refine wl_val (q_len SL39 rfl (Vw.len (oS.vw hS683.g0))) rfl ?_
        refine wl_val (g_lss (a := (v676 + 1)) (b := (x670.length : Int)) rfl rfl) rfl ?_
        refine wl_val (g_move (v := .bool (decide ((v676 + 1) < (x670.length : Int)))) rfl) rfl ?_
        refine wl_guard (c := (decide ((v676 + 1) < (x670.length : Int))) = true) (val := .bool v675) (b := ((decide ((v676 + 1) < (x670.length : Int))) == true)) (gv_some rfl rfl rfl) beq_iff_eq (fun hc688 => ?_) ?_
        · have hcq3 : (v676 + 1) < (x670.length : Int) := (decide_eq_true_iff.mp hc688)
          exact g_move (v := .bool v675) rfl
        refine wl_guard (c := (decide ((v676 + 1) < (x670.length : Int))) = true) (val := .bool (!v675)) (b := ((decide ((v676 + 1) < (x670.length : Int))) == true)) (gv_some rfl rfl rfl) beq_iff_eq (fun hc689 => ?_) ?_
        · have hcq3 : (v676 + 1) < (x670.length : Int) := (decide_eq_true_iff.mp hc689)
          exact g_not (a := v675) (if_pos hc689)
        refine wl_val (g_pick_and (b := (decide ((v676 + 1) < (x670.length : Int)))) (q := (!v675)) rfl rfl) rfl ?_
        refine wl_nil ?_
        refine hK686 _ _ ?_
        refine w_condI (p := (((v676 + 1) < (x670.length : Int)) ∧ (¬ (v675 = true)))) (b := ((decide ((v676 + 1) < (x670.length : Int))) && (!v675))) rfl (i_and decide_eq_true_iff (i_not Iff.rfl)) (fun h690 => ?_) (fun h690 => ?_)
        · replace hm := hm.1 h690
          refine w_skip ?_
          refine hK685 _ _ ?_
          refine w_seq fun K691 hK691 => ?_
          refine w_block ?_
          refine w_seq fun K692 hK692 => ?_
          refine w_draw (X := Ext) (Y := Ext) [] MIX (by decide +kernel) rfl Ext.refl (fun _ _ _ => Ext.trans) (fun _ _ _ => Chg.trans) (fun _ _ h => Ext.chg h _) (fun w693 hE694 => ?_)
          have hB695 := hB682.trans (Ext.stp hE694 hS683.base)
          have hS696 := hS683.ext hE694
          refine ⟨.slice a19 n20 c21, fun w697 hX698 => od_plain rfl (by have hS699 := hS696.ext hX698; have hB700 := hB695.trans (Ext.stp hX698 hS696.base); exact is_ext (g_move (v := .slice a19 n20 c21) rfl)), ?_⟩
          refine ⟨.int .i64 v676, fun w701 hX702 => od_plain rfl (by have hS703 := hS696.ext hX702; have hB704 := hB695.trans (Ext.stp hX702 hS696.base); exact is_ext (g_move (v := .int .i64 v676) rfl)), ?_⟩
          obtain ⟨hg709, hm⟩ := hm
          refine ⟨.pointer (some ((adr a19).add ((Int.toNat v676) * El.m Int))), fun w705 hX706 => od_plain rfl (by have hS707 := hS696.ext hX706; have hB708 := hB695.trans (Ext.stp hX706 hS696.base); exact is_ext (q_index (i := v676) SL39 rfl rfl (oS.vw hS707.g0) hg709)), ?_⟩
          refine ⟨.int .i64 (x670[(Int.toNat v676)]!), fun w710 hX711 => od_plain rfl (by have hS712 := hS696.ext hX711; have hB713 := hB695.trans (Ext.stp hX711 hS696.base); exact is_ext (q_load (i := v676) (v := .int .i64 (x670[(Int.toNat v676)]!)) ON3 (oS.vw hS712.g0) hg709 rfl rfl)), ?_⟩
          refine ⟨.slice a19 n20 c21, fun w714 hX715 => od_plain rfl (by have hS716 := hS696.ext hX715; have hB717 := hB695.trans (Ext.stp hX715 hS696.base); exact is_ext (g_move (v := .slice a19 n20 c21) rfl)), ?_⟩
          refine ⟨.int .i64 v676, fun w718 hX719 => od_plain rfl (by have hS720 := hS696.ext hX719; have hB721 := hB695.trans (Ext.stp hX719 hS696.base); exact is_ext (g_move (v := .int .i64 v676) rfl)), ?_⟩
          obtain ⟨hg726, hm⟩ := hm
          refine ⟨.int .i64 (v676 + 1), fun w722 hX723 => od_plain rfl (by have hS724 := hS696.ext hX723; have hB725 := hB695.trans (Ext.stp hX723 hS696.base); exact is_ext (g_add (a := v676) (b := 1) rfl rfl hg726)), ?_⟩
          obtain ⟨hg731, hm⟩ := hm
          refine ⟨.pointer (some ((adr a19).add ((Int.toNat (v676 + 1)) * El.m Int))), fun w727 hX728 => od_plain rfl (by have hS729 := hS696.ext hX728; have hB730 := hB695.trans (Ext.stp hX728 hS696.base); exact is_ext (q_index (i := (v676 + 1)) SL39 rfl rfl (oS.vw hS729.g0) hg731)), ?_⟩
          refine ⟨.int .i64 (x670[(Int.toNat (v676 + 1))]!), fun w732 hX733 => od_plain rfl (by have hS734 := hS696.ext hX733; have hB735 := hB695.trans (Ext.stp hX733 hS696.base); exact is_ext (q_load (i := (v676 + 1)) (v := .int .i64 (x670[(Int.toNat (v676 + 1))]!)) ON3 (oS.vw hS734.g0) hg731 rfl rfl)), ?_⟩
          refine ⟨.bool (decide (x670[(Int.toNat v676)]! > x670[(Int.toNat (v676 + 1))]!)), fun w736 hX737 => od_plain rfl (by have hS738 := hS696.ext hX737; have hB739 := hB695.trans (Ext.stp hX737 hS696.base); exact is_ext (g_gtr (a := x670[(Int.toNat v676)]!) (b := x670[(Int.toNat (v676 + 1))]!) rfl rfl)), ?_⟩
          intro w740 hX741
          have hB742 := hB695.trans (Ext.stp hX741 hS696.base)
          have hS743 := hS696.ext hX741
          refine hK692 _ _ ?_
          refine w_condI (p := x670[(Int.toNat v676)]! > x670[(Int.toNat (v676 + 1))]!) (b := (decide (x670[(Int.toNat v676)]! > x670[(Int.toNat (v676 + 1))]!))) rfl decide_eq_true_iff (fun h744 => ?_) (fun h744 => ?_)
          · replace hm := hm.1 h744
            refine w_seq fun K745 hK745 => ?_
            refine w_draw (X := Ext) (Y := (fun w_ w_' => Chg w_ w_' (blk a19))) [0, 0, 3, 3, 3, 0, 0, 0, 0, 0, 0, 0, 0, 0, 0, 4, 0, 1] MIX (by decide +kernel) rfl Ext.refl (fun _ _ _ => Ext.trans) (fun _ _ _ => Chg.trans) (fun _ _ h => Ext.chg h _) (fun w751 hE752 => ?_)
            have hB753 := hB742.trans (Ext.stp hE752 hS743.base)
            have hS754 := hS743.ext hE752
            refine ⟨.slice a19 n20 c21, fun w755 hX756 => od_plain rfl (by have hS757 := hS754.ext hX756; have hB758 := hB753.trans (Ext.stp hX756 hS754.base); exact is_ext (g_move (v := .slice a19 n20 c21) rfl)), ?_⟩
            refine ⟨.int .i64 v676, fun w759 hX760 => od_plain rfl (by have hS761 := hS754.ext hX760; have hB762 := hB753.trans (Ext.stp hX760 hS754.base); exact is_ext (g_move (v := .int .i64 v676) rfl)), ?_⟩
            refine ⟨.slice a19 n20 c21, fun w763 hX764 => od_plain rfl (by have hS765 := Sep.chgT hS754 hX764 (fun k hk => hk); have hB766 := hB753.trans (Sep.stp hS754 hX764 (fun k hk => hk)); exact is_ext (g_move (v := .slice a19 n20 c21) rfl)), ?_⟩
            refine ⟨.int .i64 v676, fun w767 hX768 => od_plain rfl (by have hS769 := Sep.chgT hS754 hX768 (fun k hk => hk); have hB770 := hB753.trans (Sep.stp hS754 hX768 (fun k hk => hk)); exact is_ext (g_move (v := .int .i64 v676) rfl)), ?_⟩
            obtain ⟨hg775, hm⟩ := hm
            refine ⟨.int .i64 (v676 + 1), fun w771 hX772 => od_plain rfl (by have hS773 := Sep.chgT hS754 hX772 (fun k hk => hk); have hB774 := hB753.trans (Sep.stp hS754 hX772 (fun k hk => hk)); exact is_ext (g_add (a := v676) (b := 1) rfl rfl hg775)), ?_⟩
            refine ⟨.slice a19 n20 c21, fun w776 hX777 => od_plain rfl (by have hS778 := hS754.ext hX777; have hB779 := hB753.trans (Ext.stp hX777 hS754.base); exact is_ext (g_move (v := .slice a19 n20 c21) rfl)), ?_⟩
            refine ⟨.int .i64 v676, fun w780 hX781 => od_plain rfl (by have hS782 := hS754.ext hX781; have hB783 := hB753.trans (Ext.stp hX781 hS754.base); exact is_ext (g_move (v := .int .i64 v676) rfl)), ?_⟩
            obtain ⟨hg788, hm⟩ := hm
            refine ⟨.int .i64 (v676 + 1), fun w784 hX785 => od_plain rfl (by have hS786 := hS754.ext hX785; have hB787 := hB753.trans (Ext.stp hX785 hS754.base); exact is_ext (g_add (a := v676) (b := 1) rfl rfl hg788)), ?_⟩
            obtain ⟨hg793, hm⟩ := hm
            refine ⟨.pointer (some ((adr a19).add ((Int.toNat (v676 + 1)) * El.m Int))), fun w789 hX790 => od_plain rfl (by have hS791 := hS754.ext hX790; have hB792 := hB753.trans (Ext.stp hX790 hS754.base); exact is_ext (q_index (i := (v676 + 1)) SL39 rfl rfl (oS.vw hS791.g0) hg793)), ?_⟩
            refine ⟨.int .i64 (x670[(Int.toNat (v676 + 1))]!), fun w794 hX795 => od_plain rfl (by have hS796 := hS754.ext hX795; have hB797 := hB753.trans (Ext.stp hX795 hS754.base); exact is_ext (q_load (i := (v676 + 1)) (v := .int .i64 (x670[(Int.toNat (v676 + 1))]!)) ON3 (oS.vw hS796.g0) hg793 rfl rfl)), ?_⟩
            refine ⟨.slice a19 n20 c21, fun w798 hX799 => od_plain rfl (by have hS800 := hS754.ext hX799; have hB801 := hB753.trans (Ext.stp hX799 hS754.base); exact is_ext (g_move (v := .slice a19 n20 c21) rfl)), ?_⟩
            refine ⟨.int .i64 v676, fun w802 hX803 => od_plain rfl (by have hS804 := hS754.ext hX803; have hB805 := hB753.trans (Ext.stp hX803 hS754.base); exact is_ext (g_move (v := .int .i64 v676) rfl)), ?_⟩
            obtain ⟨hg810, hm⟩ := hm
            refine ⟨.pointer (some ((adr a19).add ((Int.toNat v676) * El.m Int))), fun w806 hX807 => od_plain rfl (by have hS808 := hS754.ext hX807; have hB809 := hB753.trans (Ext.stp hX807 hS754.base); exact is_ext (q_index (i := v676) SL39 rfl rfl (oS.vw hS808.g0) hg810)), ?_⟩
            refine ⟨.int .i64 (x670[(Int.toNat v676)]!), fun w811 hX812 => od_plain rfl (by have hS813 := hS754.ext hX812; have hB814 := hB753.trans (Ext.stp hX812 hS754.base); exact is_ext (q_load (i := v676) (v := .int .i64 (x670[(Int.toNat v676)]!)) ON3 (oS.vw hS813.g0) hg810 rfl rfl)), ?_⟩
            obtain ⟨hg819, hm⟩ := hm
            refine ⟨.pointer (some ((adr a19).add ((Int.toNat v676) * El.m Int))), fun w815 hX816 => od_plain rfl (by have hS817 := hS754.ext hX816; have hB818 := hB753.trans (Ext.stp hX816 hS754.base); exact is_ext (q_index (i := v676) SL39 rfl rfl (oS.vw hS817.g0) hg819)), ?_⟩
            intro w820 hX821
            have hB822 := hB753.trans (Ext.stp hX821 hS754.base)
            have hS823 := hS754.ext hX821
            refine ⟨_, od_plain rfl (q_storeC (i := v676) (v := (x670[(Int.toNat (v676 + 1))]! : Int)) hS823 ON3.sz hg819 rfl rfl rfl), ?_⟩
            rintro _ w824 ⟨rfl, hS825, hb826, hC827⟩
            refine ⟨hC827, ?_⟩
            have hB828 := hB822.trans hb826
            obtain ⟨hg833, hm⟩ := hm
            refine ⟨.pointer (some ((adr a19).add ((Int.toNat (v676 + 1)) * El.m Int))), fun w829 hX830 => od_plain rfl (by have hS831 := hS825.ext hX830; have hB832 := hB828.trans (Ext.stp hX830 hS825.base); exact is_ext (q_index (i := (v676 + 1)) SL39 rfl rfl (oS.vw hS831.g0) hg833)), ?_⟩
            intro w834 hX835
            have hB836 := hB828.trans (Ext.stp hX835 hS825.base)
            have hS837 := hS825.ext hX835
            refine ⟨_, od_plain rfl (q_store (i := (v676 + 1)) (v := (x670[(Int.toNat v676)]! : Int)) hS837 ON3.sz hg833 rfl rfl rfl), ?_⟩
            rintro _ w838 ⟨rfl, hS839, hb840⟩
            have hB841 := hB836.trans hb840
            intro w842 hX843
            have hB844 := hB841.trans (Ext.stp hX843 hS839.base)
            have hS845 := hS839.ext hX843
            refine hK745 _ _ ?_
            refine w_seq fun K846 hK846 => ?_
            refine w_region ?_
            refine wl_val (g_move (v := .slice a672 n673 c674) rfl) rfl ?_
            refine wl_val (g_move (v := .int .i64 v676) rfl) rfl ?_
            refine wl_step rfl (q_lit1 (y := (v676 : Int)) SL39 rfl rfl (by decide) hS845) ?_
            rintro _ w847 ⟨a848, rfl, hS850, hE849⟩
            have hB852 := hB844.trans (Ext.stp hE849 hS845.base)
            have hS858 := hS850.f2
            obtain ⟨hg859, hm⟩ := hm
            refine wl_step rfl (q_append SL39 rfl rfl hS858 (oS.vw hS858.g1) hg859 (by decide)) ?_
            rintro _ w853 ⟨a854, c855, rfl, hS857, hb856⟩
            have hB860 := hB852.trans hb856
            refine wl_val (g_assign (v := .slice a854 (n673 + 1) c855) rfl) rfl ?_
            refine wl_nil ?_
            refine hK846 _ _ ?_
            refine w_region ?_
            refine wl_val (g_assign (v := .bool true) rfl) rfl ?_
            refine wl_nil ?_
            refine hK691 _ _ ?_
            refine w_region ?_
            refine wl_val (g_move (v := .int .i64 v676) rfl) rfl ?_
            obtain ⟨hg861, hm⟩ := hm
            refine wl_val (g_add (a := v676) (b := 1) rfl rfl hg861) rfl ?_
            refine wl_val (g_assign (v := .int .i64 (v676 + 1)) rfl) rfl ?_
            refine wl_nil ?_
            have hS862 := hS857.f1
            have hS863 := hS862.tail
            have hS864 := hS863.f1
            exact ⟨(((x670.set (Int.toNat v676) (x670[(Int.toNat (v676 + 1))]!)).set (Int.toNat (v676 + 1)) (x670[(Int.toNat v676)]!)), (x671 ++ ([v676])), a854, (n673 + 1), c855, true, (v676 + 1)), hm.2, ⟨rfl, rfl, rfl, rfl, trivial⟩, ⟨hm.1, hB860, hS864⟩⟩
          · replace hm := hm.2 h744
            refine w_skip ?_
            refine hK691 _ _ ?_
            refine w_region ?_
            refine wl_val (g_move (v := .int .i64 v676) rfl) rfl ?_
            obtain ⟨hg865, hm⟩ := hm
            refine wl_val (g_add (a := v676) (b := 1) rfl rfl hg865) rfl ?_
            refine wl_val (g_assign (v := .int .i64 (v676 + 1)) rfl) rfl ?_
            refine wl_nil ?_
            exact ⟨(x670, x671, a672, n673, c674, v675, (v676 + 1)), hm.2, ⟨rfl, rfl, rfl, rfl, trivial⟩, ⟨hm.1, hB742, hS743⟩⟩
        · replace hm := hm.2 h690
          refine w_exit ?_
          exact ⟨(x670, x671, a672, n673, c674, v675), hm.2, ⟨rfl, rfl, rfl, trivial⟩, ⟨hm.1, hB682, hS683⟩⟩
      · replace hm := hm.2 h667
        refine w_exit ?_
        have hS866 := hS663.tail
        exact ⟨(x651, a652, n653, c654), ⟨rfl, trivial⟩, ⟨hm, hB662, hS866⟩⟩
    · rintro ⟨x644, a645, n646, c647⟩ b_ w867 ⟨hm, hB868, hS869⟩
      show Wp _ _ _ _ (upds b_ [(4, .slice a645 n646 c647)]) w867
      refine w_seq fun K870 hK870 => ?_
      refine w_region ?_
      refine wl_val (g_move (v := .slice a645 n646 c647) rfl) rfl ?_
      refine wl_val (g_assign (v := .slice a645 n646 c647) rfl) rfl ?_
      refine wl_nil ?_
      refine hK870 _ _ ?_
      refine w_ret ?_
      repeat first | with_reducible refine q_then ?_ | with_reducible refine q_block ?_
      exact ret1 rfl (by decide) ⟨_, _, _, _, hm, rfl, toExt hB868, hS869⟩

theorem m_impl_BringHome_fn {w : World} {a1 : Option Addr} {n1 c1 : Nat} {p1 : List Cross} {Q : (List Cross) → Bool → Prop} (p0 : Int) (hp1 : Vw w.heap.size w a1 n1 c1 p1) (hm : m_impl_BringHome p0 p1 Q) :
    Fn Try.prog 46 #[.int .i64 p0, .slice a1 n1 c1] w (fun v w' => ∃ (r0 : List Cross) (a0 : Option Addr) (n0 c0 : Nat) (r1 : Bool), Q r0 r1 ∧ v = .tuple #[.slice a0 n0 c0, .bool r1] ∧ Ext w w' ∧ Sep w' w.heap.size [oS 56 a0 n0 c0 r0]) := by
  unfold m_impl_BringHome at hm
  have hB0 := Below.refl w.heap.size w
  have hS0 : Sep w w.heap.size [] := Sep.nil (Nat.le_refl _)
  refine fn_of_wp Try.func46 rfl (by kernel_rfl) (Nat.le_of_ble_eq_true rfl) ?_
  refine w_seq fun K1 hK1 => ?_
  refine w_region ?_
  refine wl_val (g_assign (v := .slice none 0 0) rfl) rfl ?_
  refine wl_val (g_assign (v := .bool false) rfl) rfl ?_
  refine wl_nil ?_
  refine hK1 _ _ ?_
  refine w_seq fun K2 hK2 => ?_
  refine w_seq fun K3 hK3 => ?_
  refine w_region ?_
  refine wl_val (g_move (v := .int .i64 p0) rfl) rfl ?_
  refine wl_val (g_move (v := .slice a1 n1 c1) rfl) rfl ?_
  refine wl_step rfl (g_call (vs := #[.int .i64 p0, .slice a1 n1 c1]) CF57 (args2 rfl rfl) (m_impl_CrossesOk_fn p0 ((hp1.bel hB0).up hS0) hm)) ?_
  rintro _ w4 ⟨r7, hm, rfl, hE5⟩
  have hB8 := hB0.trans (Ext.stp hE5 hS0.base)
  have hS9 := hS0.ext hE5
  refine wl_val (g_not (a := r7) rfl) rfl ?_
  refine wl_nil ?_
  refine hK3 _ _ ?_
  refine w_condI (p := ¬ (r7 = true)) (b := (!r7)) rfl (i_not Iff.rfl) (fun h10 => ?_) (fun h10 => ?_)
  · replace hm := hm.1 h10
    refine w_seq fun K11 hK11 => ?_
    refine w_region ?_
    refine wl_val (g_assign (v := .slice none 0 0) rfl) rfl ?_
    refine wl_val (g_assign (v := .bool false) rfl) rfl ?_
    refine wl_nil ?_
    refine hK11 _ _ ?_
    refine w_ret ?_
    have hS12 := hS9.nilS (α := Cross) (E := 56)
    repeat first | with_reducible refine q_then ?_ | with_reducible refine q_block ?_
    exact ret2 rfl (by decide) (by decide) ⟨_, _, _, _, _, hm, rfl, toExt hB8, hS12⟩
  · replace hm := hm.2 h10
    refine w_skip ?_
    refine hK2 _ _ ?_
    refine w_seq fun K14 hK14 => ?_
    refine w_region ?_
    refine wl_step rfl (q_lit0 (α := Cross) rfl SL24 hS9) ?_
    rintro _ w15 ⟨a16, rfl, hS18, hE17⟩
    have hB20 := hB8.trans (Ext.stp hE17 hS9.base)
    refine wl_val (g_assign (v := .slice a16 0 0) rfl) rfl ?_
    refine wl_nil ?_
    refine hK14 _ _ ?_
    refine w_cut (σ := List Cross × Option Addr × Nat × Nat) (fun ⟨x114, a115, n116, c117⟩ => [(6, .slice a115 n116 c117)]) (fun ⟨x114, a115, n116, c117⟩ w' => m_impl_BringHome_K0 Q x114 ∧ Below w.heap.size w w' ∧ Sep w' w.heap.size [oS 56 a115 n116 c117 (x114 : List Cross)]) ?_ ?_
    · refine w_seq fun K119 hK119 => ?_
      refine w_region ?_
      refine wl_val (g_move (v := .int .i64 p0) rfl) rfl ?_
      refine wl_val (g_move (v := .slice a1 n1 c1) rfl) rfl ?_
      refine wl_step rfl (g_call (vs := #[.int .i64 p0, .slice a1 n1 c1]) CF71 (args2 rfl rfl) (m_impl_OrderAfter_fn p0 ((hp1.bel hB20).up hS18) hm)) ?_
      rintro _ w120 ⟨r123, a124, n125, c126, hm, rfl, hE121, hN122⟩
      have hS128 := hS18.call1 hE121 hN122
      have hB129 := hB20.trans (Ext.stp hE121 hS18.base)
      refine wl_step rfl (g_call (vs := #[.slice a124 n125 c126]) CF70 (args1 rfl) (m_impl_SortingSwaps_fn (oS.vw hS128.g0) hm)) ?_
      rintro _ w130 ⟨r133, a134, n135, c136, hm, rfl, hE131, hN132⟩
      have hS138 := hS128.call1 hE131 hN132
      have hB139 := hB129.trans (Ext.stp hE131 hS128.base)
      refine wl_val (q_len SL39 rfl (Vw.len (oS.vw hS138.g0))) rfl ?_
      refine wl_val (g_move (v := .int .i64 0) rfl) rfl ?_
      refine wl_nil ?_
      refine hK119 _ _ ?_
      refine w_block ?_
      have hS145 := hS138.f1
      have hS146 := hS145.tail
      have hS147 := hS146.f1
      obtain ⟨I148, μ149, h0150, hr151⟩ := hm
      refine w_for (σ := List Cross × Option Addr × Nat × Nat × Int) (fun ⟨x140, a141, n142, c143, v144⟩ => [(6, .slice a141 n142 c143), (17, .slice a134 n135 c136), (18, .int .i64 (r133.length : Int)), (19, .int .i64 v144)]) (fun ⟨x140, a141, n142, c143, v144⟩ w' => I148 x140 v144 ∧ Below w.heap.size w w' ∧ Sep w' w.heap.size [oS 56 a141 n142 c143 (x140 : List Cross), oS 3 a134 n135 c136 (r133 : List Int)]) (fun ⟨x140, a141, n142, c143, v144⟩ => μ149 x140 v144) ([], a16, 0, 0, 0) ⟨rfl, rfl, rfl, rfl, trivial⟩ ⟨h0150, hB139, hS147⟩ ?_
      rintro ⟨x140, a141, n142, c143, v144⟩ b_ w152 ⟨hi_, hB153, hS154⟩
      show Wp _ _ _ _ (upds b_ [(6, .slice a141 n142 c143), (17, .slice a134 n135 c136), (18, .int .i64 (r133.length : Int)), (19, .int .i64 v144)]) w152
      have hm := hr151 x140 v144 hi_
      refine w_seq fun K156 hK156 => ?_
      refine w_region ?_
      refine wl_val (g_lss (a := v144) (b := (r133.length : Int)) rfl rfl) rfl ?_
      refine wl_nil ?_
      refine hK156 _ _ ?_
      refine w_seq fun K157 hK157 => ?_
      refine w_condI (p := v144 < (r133.length : Int)) (b := (decide (v144 < (r133.length : Int)))) rfl decide_eq_true_iff (fun h158 => ?_) (fun h158 => ?_)
      · replace hm := hm.1 h158
        refine w_skip ?_
        refine hK157 _ _ ?_
        refine w_seq fun K159 hK159 => ?_
        refine w_block ?_
        refine w_seq fun K160 hK160 => ?_
        refine w_region ?_
        obtain ⟨hg161, hm⟩ := hm
        refine wl_val (q_index (i := v144) SL39 rfl rfl (oS.vw hS154.g1) hg161) rfl ?_
        refine wl_val (q_load (i := v144) (v := .int .i64 (r133[(Int.toNat v144)]!)) ON3 (oS.vw hS154.g1) hg161 rfl rfl) rfl ?_
        refine wl_val (g_assign (v := .int .i64 (r133[(Int.toNat v144)]!)) rfl) rfl ?_
        refine wl_nil ?_
        refine hK160 _ _ ?_
        refine w_region ?_
        refine wl_val (g_move (v := .slice a141 n142 c143) rfl) rfl ?_
        refine wl_val (g_move (v := .int .i64 (r133[(Int.toNat v144)]!)) rfl) rfl ?_
        refine wl_val (g_build (v := .agg #[.int .i64 (r133[(Int.toNat v144)]!), .bool true]) (parts2 rfl rfl) (BD56_01 (r133[(Int.toNat v144)]!) true)) rfl ?_
        refine wl_step rfl (q_lit1 (y := ((r133[(Int.toNat v144)]!, true) : Cross)) SL24 rfl rfl (by decide) hS154) ?_
        rintro _ w162 ⟨a163, rfl, hS165, hE164⟩
        have hB167 := hB153.trans (Ext.stp hE164 hS154.base)
        have hS173 := hS165.f1
        obtain ⟨hg174, hm⟩ := hm
        refine wl_step rfl (q_append SL24 rfl rfl hS173 (oS.vw hS173.g1) hg174 (by decide)) ?_
        rintro _ w168 ⟨a169, c170, rfl, hS172, hb171⟩
        have hB175 := hB167.trans hb171
        refine wl_val (g_assign (v := .slice a169 (n142 + 1) c170) rfl) rfl ?_
        refine wl_nil ?_
        refine hK159 _ _ ?_
        refine w_region ?_
        obtain ⟨hg176, hm⟩ := hm
        refine wl_val (g_add (a := v144) (b := 1) rfl rfl hg176) rfl ?_
        refine wl_val (g_move (v := .int .i64 (v144 + 1)) rfl) rfl ?_
        refine wl_nil ?_
        have hS177 := hS172.f1
        have hS178 := hS177.tail
        exact ⟨((x140 ++ ([(r133[(Int.toNat v144)]!, true)])), a169, (n142 + 1), c170, (v144 + 1)), hm.2, ⟨rfl, rfl, rfl, rfl, trivial⟩, ⟨hm.1, hB175, hS178⟩⟩
      · replace hm := hm.2 h158
        refine w_exit ?_
        have hS179 := hS154.f1
        have hS180 := hS179.tail
        exact ⟨(x140, a141, n142, c143), ⟨rfl, trivial⟩, ⟨hm, hB153, hS180⟩⟩
    · rintro ⟨x114, a115, n116, c117⟩ b_ w181 ⟨hm, hB182, hS183⟩
      show Wp _ _ _ _ (upds b_ [(6, .slice a115 n116 c117)]) w181
      refine w_seq fun K184 hK184 => ?_
      refine w_region ?_
      refine wl_val (g_move (v := .slice a115 n116 c117) rfl) rfl ?_
      refine wl_val (g_assign (v := .slice a115 n116 c117) rfl) rfl ?_
      refine wl_val (g_assign (v := .bool true) rfl) rfl ?_
      refine wl_nil ?_
      refine hK184 _ _ ?_
      refine w_ret ?_
      repeat first | with_reducible refine q_then ?_ | with_reducible refine q_block ?_
      exact ret2 rfl (by decide) (by decide) ⟨_, _, _, _, _, hm, rfl, toExt hB182, hS183⟩

theorem m_spec_DrawCrosses_fn {w : World} {a0 : Option Addr} {n0 c0 : Nat} {p0 : List Byte} {Q : Int → (List Cross) → Prop} (hp0 : Vw w.heap.size w a0 n0 c0 p0) (hm : m_spec_DrawCrosses p0 Q) :
    Fn Try.prog 24 #[.slice a0 n0 c0] w (fun v w' => ∃ (r0 : Int) (r1 : List Cross) (a1 : Option Addr) (n1 c1 : Nat), Q r0 r1 ∧ v = .tuple #[.int .i64 r0, .slice a1 n1 c1] ∧ Ext w w' ∧ Sep w' w.heap.size [oS 56 a1 n1 c1 r1]) := by
  unfold m_spec_DrawCrosses at hm
  have hB0 := Below.refl w.heap.size w
  have hS0 : Sep w w.heap.size [] := Sep.nil (Nat.le_refl _)
  refine fn_of_wp Try.func24 rfl (by kernel_rfl) (Nat.le_of_ble_eq_true rfl) ?_
  refine w_seq fun K1 hK1 => ?_
  refine w_region ?_
  refine wl_val (g_assign (v := .int .i64 0) rfl) rfl ?_
  refine wl_val (g_assign (v := .slice none 0 0) rfl) rfl ?_
  refine wl_nil ?_
  refine hK1 _ _ ?_
  refine w_seq fun K2 hK2 => ?_
  refine w_region ?_
  refine wl_val (g_move (v := .slice a0 n0 c0) rfl) rfl ?_
  refine wl_step rfl (g_call (vs := #[.slice a0 n0 c0]) CF56 (args1 rfl) (m_spec_l01New_fn ((hp0.bel hB0).up hS0) hm)) ?_
  rintro _ w3 ⟨g6, hm, rfl, hE4, hN5⟩
  have hS8 := hS0.call1 hE4 hN5
  have hB9 := hB0.trans (Ext.stp hE4 hS0.base)
  refine wl_step rfl (g_call (vs := #[.pointer (some (⟨g6, 0, none⟩ : Addr))]) CF55 (args1 rfl) (m_spec_l08List_fn hS8 (hp0.bel hB9) hm)) ?_
  rintro _ w10 ⟨r13, r14, a15, n16, c17, hm, rfl, hb11, hS12⟩
  have hB19 := hB9.trans hb11
  refine wl_val (g_move (v := .tuple #[.int .i64 r13, .slice a15 n16 c17]) rfl) rfl ?_
  refine wl_val (g_extract (vs := #[.int .i64 r13, .slice a15 n16 c17]) rfl rfl) rfl ?_
  refine wl_val (g_extract (vs := #[.int .i64 r13, .slice a15 n16 c17]) rfl rfl) rfl ?_
  refine wl_val (g_assign (v := .int .i64 r13) rfl) rfl ?_
  refine wl_val (g_assign (v := .slice a15 n16 c17) rfl) rfl ?_
  refine wl_nil ?_
  refine hK2 _ _ ?_
  refine w_seq fun K20 hK20 => ?_
  refine w_region ?_
  refine wl_val (g_move (v := .int .i64 r13) rfl) rfl ?_
  refine wl_val (g_move (v := .slice a15 n16 c17) rfl) rfl ?_
  refine wl_val (g_assign (v := .int .i64 r13) rfl) rfl ?_
  refine wl_val (g_assign (v := .slice a15 n16 c17) rfl) rfl ?_
  refine wl_nil ?_
  refine hK20 _ _ ?_
  refine w_ret ?_
  have hS21 := hS12.f1
  have hS22 := hS21.tail
  repeat first | with_reducible refine q_then ?_ | with_reducible refine q_block ?_
  exact ret2 rfl (by decide) (by decide) ⟨_, _, _, _, _, hm, rfl, toExt hB19, hS22⟩

end Go.Proofs.Ytcgkcoogaieolaa
