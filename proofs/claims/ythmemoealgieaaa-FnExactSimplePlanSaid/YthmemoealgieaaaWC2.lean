/- The walks: the code does what its model says. Printed by a program (gen2.py). No statement of the claim stands here. -/
import Derived.Test.YthmemoealgieaaaSop
import Derived.Test.YthmemoealgieaaaFacts
import Derived.Test.YthmemoealgieaaaMC
import Derived.Test.YthmemoealgieaaaWC1
namespace Go.Proofs.Ythmemoealgieaaa
open Go Go.RowKit
set_option maxRecDepth 100000
theorem m_spec_l11Rising_fn {w : World} {a0 : Option Addr} {n0 c0 : Nat} {p0 : List Int} {Q : Bool → Prop} (hp0 : Vw w.heap.size w a0 n0 c0 p0) (p1 : Int) (hm : m_spec_l11Rising p0 p1 Q) :
    Fn Try.prog 68 #[.slice a0 n0 c0, .int .i64 p1] w (fun v w' => ∃ (r0 : Bool), Q r0 ∧ v = .bool r0 ∧ Ext w w') := by
  unfold m_spec_l11Rising at hm
  have hB0 := Below.refl w.heap.size w
  have hS0 : Sep w w.heap.size [] := Sep.nil (Nat.le_refl _)
  refine fn_of_wp Try.func68 rfl (by kernel_rfl) (Nat.le_of_ble_eq_true rfl) ?_
  refine w_seq fun K1 hK1 => ?_
  refine w_region ?_
  refine wl_val (g_assign (v := .bool false) rfl) rfl ?_
  refine wl_nil ?_
  refine hK1 _ _ ?_
  refine w_cut (σ := Unit) (fun _ => []) (fun _ w' => m_spec_l11Rising_K0 Q ∧ Below w.heap.size w w' ∧ Sep w' w.heap.size []) ?_ ?_
  · refine w_seq fun K3 hK3 => ?_
    refine w_region ?_
    refine wl_val (g_assign (v := .int .i64 0) rfl) rfl ?_
    refine wl_nil ?_
    refine hK3 _ _ ?_
    refine w_block ?_
    obtain ⟨I141, μ142, h0143, hr144⟩ := hm
    refine w_for (σ := Int) (fun v140 => [(0, .slice a0 n0 c0), (1, .int .i64 p1), (5, .int .i64 v140)]) (fun v140 w' => I141 v140 ∧ Below w.heap.size w w' ∧ Sep w' w.heap.size []) (fun v140 => μ142 v140) (0) ⟨rfl, rfl, rfl, trivial⟩ ⟨h0143, hB0, hS0⟩ ?_
    rintro v140 b_ w145 ⟨hi_, hB146, hS147⟩
    show Wp _ _ _ _ (upds b_ [(0, .slice a0 n0 c0), (1, .int .i64 p1), (5, .int .i64 v140)]) w145
    have hm := hr144 v140 hi_
    refine w_seq fun K149 hK149 => ?_
    refine w_seq fun K150 hK150 => ?_
    refine w_region ?_
    refine wl_val (g_move (v := .int .i64 v140) rfl) rfl ?_
    refine wl_val (g_move (v := .slice a0 n0 c0) rfl) rfl ?_
    refine wl_val (q_len SL24 rfl (Vw.len (hp0.bel hB146))) rfl ?_
    refine wl_val (g_lss (a := v140) (b := (p0.length : Int)) rfl rfl) rfl ?_
    refine wl_nil ?_
    refine hK150 _ _ ?_
    refine w_condI (p := v140 < (p0.length : Int)) (b := (decide (v140 < (p0.length : Int)))) rfl decide_eq_true_iff (fun h151 => ?_) (fun h151 => ?_)
    · replace hm := hm.1 h151
      refine w_skip ?_
      refine hK149 _ _ ?_
      refine w_seq fun K152 hK152 => ?_
      refine w_block ?_
      refine w_seq fun K153 hK153 => ?_
      refine w_draw (X := Ext) (Y := Ext) [] MIX (by decide +kernel) rfl Ext.refl (fun _ _ _ => Ext.trans) (fun _ _ _ => Chg.trans) (fun _ _ h => Ext.chg h _) (fun w154 hE155 => ?_)
      have hB156 := hB146.trans (Ext.stp hE155 hS147.base)
      have hS157 := hS147.ext hE155
      refine ⟨.slice a0 n0 c0, fun w158 hX159 => od_plain rfl (by have hS160 := hS157.ext hX159; have hB161 := hB156.trans (Ext.stp hX159 hS157.base); exact is_ext (g_move (v := .slice a0 n0 c0) rfl)), ?_⟩
      refine ⟨.int .i64 v140, fun w162 hX163 => od_plain rfl (by have hS164 := hS157.ext hX163; have hB165 := hB156.trans (Ext.stp hX163 hS157.base); exact is_ext (g_move (v := .int .i64 v140) rfl)), ?_⟩
      obtain ⟨hg170, hm⟩ := hm
      refine ⟨.pointer (some ((adr a0).add ((Int.toNat v140) * El.m Int))), fun w166 hX167 => od_plain rfl (by have hS168 := hS157.ext hX167; have hB169 := hB156.trans (Ext.stp hX167 hS157.base); exact is_ext (q_index (i := v140) SL24 rfl rfl (hp0.bel hB169) hg170)), ?_⟩
      refine ⟨.int .i64 (p0[(Int.toNat v140)]!), fun w171 hX172 => od_plain rfl (by have hS173 := hS157.ext hX172; have hB174 := hB156.trans (Ext.stp hX172 hS157.base); exact is_ext (q_load (i := v140) (v := .int .i64 (p0[(Int.toNat v140)]!)) ON3 (hp0.bel hB174) hg170 rfl rfl)), ?_⟩
      refine ⟨.int .i64 p1, fun w175 hX176 => od_plain rfl (by have hS177 := hS157.ext hX176; have hB178 := hB156.trans (Ext.stp hX176 hS157.base); exact is_ext (g_move (v := .int .i64 p1) rfl)), ?_⟩
      obtain ⟨r183, hk184, hm⟩ := hm
      refine ⟨.bool r183, fun w179 hX180 => od_plain rfl (by have hS181 := hS157.ext hX180; have hB182 := hB156.trans (Ext.stp hX180 hS157.base); exact (g_call (vs := #[.int .i64 (p0[(Int.toNat v140)]!), .int .i64 0, .int .i64 p1]) CF67 (args3 rfl rfl rfl) ((m_spec_l01In_fn (p0[(Int.toNat v140)]!) 0 p1 hk184).mono fun _ _ ⟨_, h1, h2, h3⟩ => ⟨by rw [h2, h1], h3⟩))), ?_⟩
      refine ⟨.bool (!r183), fun w185 hX186 => od_plain rfl (by have hS187 := hS157.ext hX186; have hB188 := hB156.trans (Ext.stp hX186 hS157.base); exact is_ext (g_not (a := r183) rfl)), ?_⟩
      refine ⟨.bool (!r183), fun w189 hX190 => od_plain rfl (by have hS191 := hS157.ext hX190; have hB192 := hB156.trans (Ext.stp hX190 hS157.base); exact is_ext (g_move (v := .bool (!r183)) rfl)), ?_⟩
      refine ⟨if (!r183) = false then .int .i64 v140 else undef, fun w193 hX194 => od_guard (c := (!r183) = false) (val := .int .i64 v140) (b := ((!r183) == false)) (gv_some rfl rfl rfl) beq_iff_eq (fun hc197 => ?_), ?_⟩
      · have hS195 := hS157.ext hX194
        have hB196 := hB156.trans (Ext.stp hX194 hS157.base)
        have hq2 : ¬ (¬ (r183 = true)) := (i_neg (i_not Iff.rfl) hc197)
        exact is_ext (g_move (v := .int .i64 v140) rfl)
      refine ⟨if (!r183) = false then .bool (decide (v140 > 0)) else undef, fun w198 hX199 => od_guard (c := (!r183) = false) (val := .bool (decide (v140 > 0))) (b := ((!r183) == false)) (gv_some rfl rfl rfl) beq_iff_eq (fun hc202 => ?_), ?_⟩
      · have hS200 := hS157.ext hX199
        have hB201 := hB156.trans (Ext.stp hX199 hS157.base)
        have hq2 : ¬ (¬ (r183 = true)) := (i_neg (i_not Iff.rfl) hc202)
        exact is_ext (g_gtr (a := v140) (b := 0) (if_pos hc202) rfl)
      refine ⟨if (!r183) = false then .bool (decide (v140 > 0)) else undef, fun w203 hX204 => od_guard (c := (!r183) = false) (val := .bool (decide (v140 > 0))) (b := ((!r183) == false)) (gv_some rfl rfl rfl) beq_iff_eq (fun hc207 => ?_), ?_⟩
      · have hS205 := hS157.ext hX204
        have hB206 := hB156.trans (Ext.stp hX204 hS157.base)
        have hq2 : ¬ (¬ (r183 = true)) := (i_neg (i_not Iff.rfl) hc207)
        exact is_ext (g_move (v := .bool (decide (v140 > 0))) (if_pos hc207))
      refine ⟨if ((!r183) = false) ∧ (decide (v140 > 0)) = true then .slice a0 n0 c0 else undef, fun w208 hX209 => od_guard (c := ((!r183) = false) ∧ (decide (v140 > 0)) = true) (val := .slice a0 n0 c0) (b := decide (((!r183) = false) ∧ (decide (v140 > 0)) = true)) (gv_gd rfl rfl rfl) decide_eq_true_iff (fun hc212 => ?_), ?_⟩
      · have hS210 := hS157.ext hX209
        have hB211 := hB156.trans (Ext.stp hX209 hS157.base)
        have hq3 : (¬ (¬ (r183 = true))) ∧ (v140 > 0) := ⟨(i_neg (i_not Iff.rfl) (hc212).1), decide_eq_true_iff.mp (hc212).2⟩
        have hq2 := (hq3).1
        exact is_ext (g_move (v := .slice a0 n0 c0) rfl)
      refine ⟨if ((!r183) = false) ∧ (decide (v140 > 0)) = true then .int .i64 v140 else undef, fun w213 hX214 => od_guard (c := ((!r183) = false) ∧ (decide (v140 > 0)) = true) (val := .int .i64 v140) (b := decide (((!r183) = false) ∧ (decide (v140 > 0)) = true)) (gv_gd rfl rfl rfl) decide_eq_true_iff (fun hc217 => ?_), ?_⟩
      · have hS215 := hS157.ext hX214
        have hB216 := hB156.trans (Ext.stp hX214 hS157.base)
        have hq3 : (¬ (¬ (r183 = true))) ∧ (v140 > 0) := ⟨(i_neg (i_not Iff.rfl) (hc217).1), decide_eq_true_iff.mp (hc217).2⟩
        have hq2 := (hq3).1
        exact is_ext (g_move (v := .int .i64 v140) rfl)
      obtain ⟨hg223, hm⟩ := hm
      refine ⟨if ((!r183) = false) ∧ (decide (v140 > 0)) = true then .pointer (some ((adr a0).add ((Int.toNat v140) * El.m Int))) else undef, fun w218 hX219 => od_guard (c := ((!r183) = false) ∧ (decide (v140 > 0)) = true) (val := .pointer (some ((adr a0).add ((Int.toNat v140) * El.m Int)))) (b := decide (((!r183) = false) ∧ (decide (v140 > 0)) = true)) (gv_gd rfl rfl rfl) decide_eq_true_iff (fun hc222 => ?_), ?_⟩
      · have hS220 := hS157.ext hX219
        have hB221 := hB156.trans (Ext.stp hX219 hS157.base)
        have hq3 : (¬ (¬ (r183 = true))) ∧ (v140 > 0) := ⟨(i_neg (i_not Iff.rfl) (hc222).1), decide_eq_true_iff.mp (hc222).2⟩
        have hq2 := (hq3).1
        exact is_ext (q_index (i := v140) SL24 (if_pos hc222) (if_pos hc222) (hp0.bel hB221) (hg223 hq3))
      refine ⟨if ((!r183) = false) ∧ (decide (v140 > 0)) = true then .int .i64 (p0[(Int.toNat v140)]!) else undef, fun w224 hX225 => od_guard (c := ((!r183) = false) ∧ (decide (v140 > 0)) = true) (val := .int .i64 (p0[(Int.toNat v140)]!)) (b := decide (((!r183) = false) ∧ (decide (v140 > 0)) = true)) (gv_gd rfl rfl rfl) decide_eq_true_iff (fun hc228 => ?_), ?_⟩
      · have hS226 := hS157.ext hX225
        have hB227 := hB156.trans (Ext.stp hX225 hS157.base)
        have hq3 : (¬ (¬ (r183 = true))) ∧ (v140 > 0) := ⟨(i_neg (i_not Iff.rfl) (hc228).1), decide_eq_true_iff.mp (hc228).2⟩
        have hq2 := (hq3).1
        exact is_ext (q_load (i := v140) (v := .int .i64 (p0[(Int.toNat v140)]!)) ON3 (hp0.bel hB227) (hg223 hq3) rfl (if_pos hc228))
      refine ⟨if ((!r183) = false) ∧ (decide (v140 > 0)) = true then .slice a0 n0 c0 else undef, fun w229 hX230 => od_guard (c := ((!r183) = false) ∧ (decide (v140 > 0)) = true) (val := .slice a0 n0 c0) (b := decide (((!r183) = false) ∧ (decide (v140 > 0)) = true)) (gv_gd rfl rfl rfl) decide_eq_true_iff (fun hc233 => ?_), ?_⟩
      · have hS231 := hS157.ext hX230
        have hB232 := hB156.trans (Ext.stp hX230 hS157.base)
        have hq3 : (¬ (¬ (r183 = true))) ∧ (v140 > 0) := ⟨(i_neg (i_not Iff.rfl) (hc233).1), decide_eq_true_iff.mp (hc233).2⟩
        have hq2 := (hq3).1
        exact is_ext (g_move (v := .slice a0 n0 c0) rfl)
      refine ⟨if ((!r183) = false) ∧ (decide (v140 > 0)) = true then .int .i64 v140 else undef, fun w234 hX235 => od_guard (c := ((!r183) = false) ∧ (decide (v140 > 0)) = true) (val := .int .i64 v140) (b := decide (((!r183) = false) ∧ (decide (v140 > 0)) = true)) (gv_gd rfl rfl rfl) decide_eq_true_iff (fun hc238 => ?_), ?_⟩
      · have hS236 := hS157.ext hX235
        have hB237 := hB156.trans (Ext.stp hX235 hS157.base)
        have hq3 : (¬ (¬ (r183 = true))) ∧ (v140 > 0) := ⟨(i_neg (i_not Iff.rfl) (hc238).1), decide_eq_true_iff.mp (hc238).2⟩
        have hq2 := (hq3).1
        exact is_ext (g_move (v := .int .i64 v140) rfl)
      obtain ⟨hg244, hm⟩ := hm
      refine ⟨if ((!r183) = false) ∧ (decide (v140 > 0)) = true then .int .i64 (v140 - 1) else undef, fun w239 hX240 => od_guard (c := ((!r183) = false) ∧ (decide (v140 > 0)) = true) (val := .int .i64 (v140 - 1)) (b := decide (((!r183) = false) ∧ (decide (v140 > 0)) = true)) (gv_gd rfl rfl rfl) decide_eq_true_iff (fun hc243 => ?_), ?_⟩
      · have hS241 := hS157.ext hX240
        have hB242 := hB156.trans (Ext.stp hX240 hS157.base)
        have hq3 : (¬ (¬ (r183 = true))) ∧ (v140 > 0) := ⟨(i_neg (i_not Iff.rfl) (hc243).1), decide_eq_true_iff.mp (hc243).2⟩
        have hq2 := (hq3).1
        exact is_ext (g_sub (a := v140) (b := 1) (if_pos hc243) rfl (hg244 hq3))
      obtain ⟨hg250, hm⟩ := hm
      refine ⟨if ((!r183) = false) ∧ (decide (v140 > 0)) = true then .pointer (some ((adr a0).add ((Int.toNat (v140 - 1)) * El.m Int))) else undef, fun w245 hX246 => od_guard (c := ((!r183) = false) ∧ (decide (v140 > 0)) = true) (val := .pointer (some ((adr a0).add ((Int.toNat (v140 - 1)) * El.m Int)))) (b := decide (((!r183) = false) ∧ (decide (v140 > 0)) = true)) (gv_gd rfl rfl rfl) decide_eq_true_iff (fun hc249 => ?_), ?_⟩
      · have hS247 := hS157.ext hX246
        have hB248 := hB156.trans (Ext.stp hX246 hS157.base)
        have hq3 : (¬ (¬ (r183 = true))) ∧ (v140 > 0) := ⟨(i_neg (i_not Iff.rfl) (hc249).1), decide_eq_true_iff.mp (hc249).2⟩
        have hq2 := (hq3).1
        exact is_ext (q_index (i := (v140 - 1)) SL24 (if_pos hc249) (if_pos hc249) (hp0.bel hB248) (hg250 hq3))
      refine ⟨if ((!r183) = false) ∧ (decide (v140 > 0)) = true then .int .i64 (p0[(Int.toNat (v140 - 1))]!) else undef, fun w251 hX252 => od_guard (c := ((!r183) = false) ∧ (decide (v140 > 0)) = true) (val := .int .i64 (p0[(Int.toNat (v140 - 1))]!)) (b := decide (((!r183) = false) ∧ (decide (v140 > 0)) = true)) (gv_gd rfl rfl rfl) decide_eq_true_iff (fun hc255 => ?_), ?_⟩
      · have hS253 := hS157.ext hX252
        have hB254 := hB156.trans (Ext.stp hX252 hS157.base)
        have hq3 : (¬ (¬ (r183 = true))) ∧ (v140 > 0) := ⟨(i_neg (i_not Iff.rfl) (hc255).1), decide_eq_true_iff.mp (hc255).2⟩
        have hq2 := (hq3).1
        exact is_ext (q_load (i := (v140 - 1)) (v := .int .i64 (p0[(Int.toNat (v140 - 1))]!)) ON3 (hp0.bel hB254) (hg250 hq3) rfl (if_pos hc255))
      refine ⟨if ((!r183) = false) ∧ (decide (v140 > 0)) = true then .bool (decide (p0[(Int.toNat v140)]! ≤ p0[(Int.toNat (v140 - 1))]!)) else undef, fun w256 hX257 => od_guard (c := ((!r183) = false) ∧ (decide (v140 > 0)) = true) (val := .bool (decide (p0[(Int.toNat v140)]! ≤ p0[(Int.toNat (v140 - 1))]!))) (b := decide (((!r183) = false) ∧ (decide (v140 > 0)) = true)) (gv_gd rfl rfl rfl) decide_eq_true_iff (fun hc260 => ?_), ?_⟩
      · have hS258 := hS157.ext hX257
        have hB259 := hB156.trans (Ext.stp hX257 hS157.base)
        have hq3 : (¬ (¬ (r183 = true))) ∧ (v140 > 0) := ⟨(i_neg (i_not Iff.rfl) (hc260).1), decide_eq_true_iff.mp (hc260).2⟩
        have hq2 := (hq3).1
        exact is_ext (g_leq (a := p0[(Int.toNat v140)]!) (b := p0[(Int.toNat (v140 - 1))]!) (if_pos hc260) (if_pos hc260))
      refine ⟨if (!r183) = false then .bool ((decide (v140 > 0)) && (decide (p0[(Int.toNat v140)]! ≤ p0[(Int.toNat (v140 - 1))]!))) else undef, fun w261 hX262 => od_guard (c := (!r183) = false) (val := .bool ((decide (v140 > 0)) && (decide (p0[(Int.toNat v140)]! ≤ p0[(Int.toNat (v140 - 1))]!)))) (b := ((!r183) == false)) (gv_some rfl rfl rfl) beq_iff_eq (fun hc265 => ?_), ?_⟩
      · have hS263 := hS157.ext hX262
        have hB264 := hB156.trans (Ext.stp hX262 hS157.base)
        have hq2 : ¬ (¬ (r183 = true)) := (i_neg (i_not Iff.rfl) hc265)
        exact is_ext (g_pick_and (b := (decide (v140 > 0))) (q := (decide (p0[(Int.toNat v140)]! ≤ p0[(Int.toNat (v140 - 1))]!))) (if_pos hc265) (gd_in hc265))
      refine ⟨.bool ((!r183) || ((decide (v140 > 0)) && (decide (p0[(Int.toNat v140)]! ≤ p0[(Int.toNat (v140 - 1))]!)))), fun w266 hX267 => od_plain rfl (by have hS268 := hS157.ext hX267; have hB269 := hB156.trans (Ext.stp hX267 hS157.base); exact is_ext (g_pick_or (b := (!r183)) (q := ((decide (v140 > 0)) && (decide (p0[(Int.toNat v140)]! ≤ p0[(Int.toNat (v140 - 1))]!)))) rfl rfl)), ?_⟩
      intro w270 hX271
      have hB272 := hB156.trans (Ext.stp hX271 hS157.base)
      have hS273 := hS157.ext hX271
      refine hK153 _ _ ?_
      refine w_condI (p := ((¬ (r183 = true)) ∨ (((v140 > 0) ∧ (p0[(Int.toNat v140)]! ≤ p0[(Int.toNat (v140 - 1))]!))))) (b := ((!r183) || ((decide (v140 > 0)) && (decide (p0[(Int.toNat v140)]! ≤ p0[(Int.toNat (v140 - 1))]!))))) rfl (i_or (i_not Iff.rfl) (i_and decide_eq_true_iff decide_eq_true_iff)) (fun h274 => ?_) (fun h274 => ?_)
      · replace hm := hm.1 h274
        refine w_seq fun K275 hK275 => ?_
        refine w_region ?_
        refine wl_val (g_assign (v := .bool false) rfl) rfl ?_
        refine wl_nil ?_
        refine hK275 _ _ ?_
        refine w_ret ?_
        repeat first | with_reducible refine q_then ?_ | with_reducible refine q_block ?_
        exact ret1 rfl (by decide) ⟨_, hm, rfl, toExt hB272⟩
      · replace hm := hm.2 h274
        refine w_skip ?_
        refine hK152 _ _ ?_
        refine w_region ?_
        refine wl_val (g_move (v := .int .i64 v140) rfl) rfl ?_
        obtain ⟨hg276, hm⟩ := hm
        refine wl_val (g_add (a := v140) (b := 1) rfl rfl hg276) rfl ?_
        refine wl_val (g_assign (v := .int .i64 (v140 + 1)) rfl) rfl ?_
        refine wl_nil ?_
        exact ⟨((v140 + 1)), hm.2, ⟨rfl, rfl, rfl, trivial⟩, ⟨hm.1, hB272, hS273⟩⟩
    · replace hm := hm.2 h151
      refine w_exit ?_
      exact ⟨(), trivial, ⟨hm, hB146, hS147⟩⟩
  · rintro _ b_ w277 ⟨hm, hB278, hS279⟩
    show Wp _ _ _ _ (upds b_ []) w277
    refine w_seq fun K280 hK280 => ?_
    refine w_region ?_
    refine wl_val (g_assign (v := .bool true) rfl) rfl ?_
    refine wl_nil ?_
    refine hK280 _ _ ?_
    refine w_ret ?_
    repeat first | with_reducible refine q_then ?_ | with_reducible refine q_block ?_
    exact ret1 rfl (by decide) ⟨_, hm, rfl, toExt hB278⟩

theorem m_spec_CuesOk_fn {w : World} {a0 : Option Addr} {n0 c0 : Nat} {y0 : List CueD} {p0 : List CueC} {Q : Bool → Prop} (hp0 : Tv w.heap.size w a0 n0 c0 y0 p0) (hm : m_spec_CuesOk p0 Q) :
    Fn Try.prog 35 #[.slice a0 n0 c0] w (fun v w' => ∃ (r0 : Bool), Q r0 ∧ v = .bool r0 ∧ Ext w w') := by
  unfold m_spec_CuesOk at hm
  have hB0 := Below.refl w.heap.size w
  have hS0 : Sep w w.heap.size [] := Sep.nil (Nat.le_refl _)
  refine fn_of_wp Try.func35 rfl (by kernel_rfl) (Nat.le_of_ble_eq_true rfl) ?_
  refine w_seq fun K1 hK1 => ?_
  refine w_region ?_
  refine wl_val (g_assign (v := .bool false) rfl) rfl ?_
  refine wl_nil ?_
  refine hK1 _ _ ?_
  refine w_seq fun K2 hK2 => ?_
  refine w_seq fun K3 hK3 => ?_
  refine w_region ?_
  refine wl_val (g_move (v := .slice a0 n0 c0) rfl) rfl ?_
  refine wl_val (q_len SL26 rfl (Tv.len (hp0.bel hB0))) rfl ?_
  refine wl_step rfl (g_call (vs := #[.int .i64 (p0.length : Int), .int .i64 1, .int .i64 12]) CF67 (args3 rfl rfl rfl) (m_spec_l01In_fn (p0.length : Int) 1 12 hm)) ?_
  rintro _ w4 ⟨r7, hm, rfl, hE5⟩
  have hB8 := hB0.trans (Ext.stp hE5 hS0.base)
  have hS9 := hS0.ext hE5
  refine wl_val (g_not (a := r7) rfl) rfl ?_
  refine wl_nil ?_
  refine hK3 _ _ ?_
  refine w_condI (p := ¬ (r7 = true)) (b := (!r7)) rfl (i_not Iff.rfl) (fun h10 => ?_) (fun h10 => ?_)
  · replace hm := hm.1 h10
    refine w_seq fun K11 hK11 => ?_
    refine w_region ?_
    refine wl_val (g_assign (v := .bool false) rfl) rfl ?_
    refine wl_nil ?_
    refine hK11 _ _ ?_
    refine w_ret ?_
    repeat first | with_reducible refine q_then ?_ | with_reducible refine q_block ?_
    exact ret1 rfl (by decide) ⟨_, hm, rfl, toExt hB8⟩
  · replace hm := hm.2 h10
    refine w_skip ?_
    refine hK2 _ _ ?_
    refine w_cut (σ := Unit) (fun _ => [(0, .slice a0 n0 c0)]) (fun _ w' => m_spec_CuesOk_K0 p0 Q ∧ Below w.heap.size w w' ∧ Sep w' w.heap.size []) ?_ ?_
    · refine w_seq fun K13 hK13 => ?_
      refine w_region ?_
      refine wl_val (g_assign (v := .int .i64 0) rfl) rfl ?_
      refine wl_nil ?_
      refine hK13 _ _ ?_
      refine w_block ?_
      obtain ⟨I73, μ74, h075, hr76⟩ := hm
      refine w_for (σ := Int) (fun v72 => [(0, .slice a0 n0 c0), (3, .int .i64 v72)]) (fun v72 w' => I73 v72 ∧ Below w.heap.size w w' ∧ Sep w' w.heap.size []) (fun v72 => μ74 v72) (0) ⟨rfl, rfl, trivial⟩ ⟨h075, hB8, hS9⟩ ?_
      rintro v72 b_ w77 ⟨hi_, hB78, hS79⟩
      show Wp _ _ _ _ (upds b_ [(0, .slice a0 n0 c0), (3, .int .i64 v72)]) w77
      have hm := hr76 v72 hi_
      refine w_seq fun K81 hK81 => ?_
      refine w_seq fun K82 hK82 => ?_
      refine w_region ?_
      refine wl_val (g_move (v := .int .i64 v72) rfl) rfl ?_
      refine wl_val (g_move (v := .slice a0 n0 c0) rfl) rfl ?_
      refine wl_val (q_len SL26 rfl (Tv.len (hp0.bel hB78))) rfl ?_
      refine wl_val (g_lss (a := v72) (b := (p0.length : Int)) rfl rfl) rfl ?_
      refine wl_nil ?_
      refine hK82 _ _ ?_
      refine w_condI (p := v72 < (p0.length : Int)) (b := (decide (v72 < (p0.length : Int)))) rfl decide_eq_true_iff (fun h83 => ?_) (fun h83 => ?_)
      · replace hm := hm.1 h83
        refine w_skip ?_
        refine hK81 _ _ ?_
        refine w_seq fun K84 hK84 => ?_
        refine w_block ?_
        refine w_seq fun K85 hK85 => ?_
        refine w_region ?_
        refine wl_val (g_move (v := .slice a0 n0 c0) rfl) rfl ?_
        refine wl_val (g_move (v := .int .i64 v72) rfl) rfl ?_
        obtain ⟨hg86, hm⟩ := hm
        refine wl_val (q_index (i := v72) SL26 rfl rfl (Tv.o (hp0.bel hB78)) (Tv.g (hp0.bel hB78) hg86)) rfl ?_
        refine wl_val (q_loadS (i := v72) (cs := [.int .i64 (p0[(Int.toNat v72)]!.1), .slice ((y0[(Int.toNat v72)]!).2.1.1) ((y0[(Int.toNat v72)]!).2.1.2.2.length) ((y0[(Int.toNat v72)]!).2.1.2.1), .slice ((y0[(Int.toNat v72)]!).2.2.1) ((y0[(Int.toNat v72)]!).2.2.2.2.length) ((y0[(Int.toNat v72)]!).2.2.2.1)]) AG39 (Tv.o (hp0.bel hB78)) (Tv.g (hp0.bel hB78) hg86) (by rw [← Tv.ticks (hp0.bel hB78) hg86]; rfl) rfl) rfl ?_
        refine wl_step rfl (q_alloc (cs := #[.int .i64 0, .slice none 0 0, .slice none 0 0]) ZR39 rfl hS79) ?_
        rintro _ w87 ⟨g88, rfl, hS90, hE89⟩
        have hB92 := hB78.trans (Ext.stp hE89 hS79.base)
        refine wl_step rfl (q_storeB (i := 0) (bs' := #[.int .i64 (p0[(Int.toNat v72)]!.1), .slice ((y0[(Int.toNat v72)]!).2.1.1) ((y0[(Int.toNat v72)]!).2.1.2.2.length) ((y0[(Int.toNat v72)]!).2.1.2.1), .slice ((y0[(Int.toNat v72)]!).2.2.1) ((y0[(Int.toNat v72)]!).2.2.2.2.length) ((y0[(Int.toNat v72)]!).2.2.2.1)]) (vs := [.int .i64 (p0[(Int.toNat v72)]!.1), .slice ((y0[(Int.toNat v72)]!).2.1.1) ((y0[(Int.toNat v72)]!).2.1.2.2.length) ((y0[(Int.toNat v72)]!).2.1.2.1), .slice ((y0[(Int.toNat v72)]!).2.2.1) ((y0[(Int.toNat v72)]!).2.2.2.2.length) ((y0[(Int.toNat v72)]!).2.2.2.1)]) hS90 AG39.sz rfl rfl rfl (by simp [Value.oneCell']) (Nat.le_of_ble_eq_true rfl) rfl) ?_
        rintro _ w93 ⟨rfl, hS94, hb95⟩
        have hB96 := hB92.trans hb95
        refine wl_nil ?_
        refine hK85 _ _ ?_
        refine w_seq fun K97 hK97 => ?_
        refine w_region ?_
        refine wl_val (g_fieldAddr (q := (⟨g88, 0, none⟩ : Addr)) FL39_0 ON3 rfl) rfl ?_
        refine wl_val (q_loadB (i := 0) (bs := #[.int .i64 (p0[(Int.toNat v72)]!.1), .slice ((y0[(Int.toNat v72)]!).2.1.1) ((y0[(Int.toNat v72)]!).2.1.2.2.length) ((y0[(Int.toNat v72)]!).2.1.2.1), .slice ((y0[(Int.toNat v72)]!).2.2.1) ((y0[(Int.toNat v72)]!).2.2.2.2.length) ((y0[(Int.toNat v72)]!).2.2.2.1)]) hS94.g0 ON3 rfl rfl) rfl ?_
        refine wl_step rfl (g_call (vs := #[.int .i64 (p0[(Int.toNat v72)]!.1), .int .i64 1, .int .i64 50]) CF67 (args3 rfl rfl rfl) (m_spec_l01In_fn (p0[(Int.toNat v72)]!.1) 1 50 hm)) ?_
        rintro _ w98 ⟨r101, hm, rfl, hE99⟩
        have hB102 := hB96.trans (Ext.stp hE99 hS94.base)
        have hS103 := hS94.ext hE99
        refine wl_val (g_not (a := r101) rfl) rfl ?_
        refine wl_val (g_move (v := .bool (!r101)) rfl) rfl ?_
        refine wl_guard (c := (!r101) = false) (val := .pointer (some (((⟨g88, 0, none⟩ : Addr)).add 1))) (b := ((!r101) == false)) (gv_some rfl rfl rfl) beq_iff_eq (fun hc104 => ?_) ?_
        · have hq2 : ¬ (¬ (r101 = true)) := (i_neg (i_not Iff.rfl) hc104)
          exact g_fieldAddr (q := (⟨g88, 0, none⟩ : Addr)) FL39_1 ON24 rfl
        refine wl_guard (c := (!r101) = false) (val := .slice ((y0[(Int.toNat v72)]!).2.1.1) ((y0[(Int.toNat v72)]!).2.1.2.2.length) ((y0[(Int.toNat v72)]!).2.1.2.1)) (b := ((!r101) == false)) (gv_some rfl rfl rfl) beq_iff_eq (fun hc105 => ?_) ?_
        · have hq2 : ¬ (¬ (r101 = true)) := (i_neg (i_not Iff.rfl) hc105)
          exact q_loadB (i := 1) (bs := #[.int .i64 (p0[(Int.toNat v72)]!.1), .slice ((y0[(Int.toNat v72)]!).2.1.1) ((y0[(Int.toNat v72)]!).2.1.2.2.length) ((y0[(Int.toNat v72)]!).2.1.2.1), .slice ((y0[(Int.toNat v72)]!).2.2.1) ((y0[(Int.toNat v72)]!).2.2.2.2.length) ((y0[(Int.toNat v72)]!).2.2.2.1)]) hS103.g0 ON24 (if_pos hc105) rfl
        refine wl_guard (c := (!r101) = false) (val := .slice a0 n0 c0) (b := ((!r101) == false)) (gv_some rfl rfl rfl) beq_iff_eq (fun hc106 => ?_) ?_
        · have hq2 : ¬ (¬ (r101 = true)) := (i_neg (i_not Iff.rfl) hc106)
          exact g_move (v := .slice a0 n0 c0) rfl
        refine wl_guard (c := (!r101) = false) (val := .int .i64 (p0.length : Int)) (b := ((!r101) == false)) (gv_some rfl rfl rfl) beq_iff_eq (fun hc107 => ?_) ?_
        · have hq2 : ¬ (¬ (r101 = true)) := (i_neg (i_not Iff.rfl) hc107)
          exact q_len SL26 (if_pos hc107) (Tv.len (hp0.bel hB102))
        obtain ⟨hg109, hm⟩ := hm
        refine wl_guard (c := (!r101) = false) (val := .int .i64 ((p0.length : Int) - 1)) (b := ((!r101) == false)) (gv_some rfl rfl rfl) beq_iff_eq (fun hc108 => ?_) ?_
        · have hq2 : ¬ (¬ (r101 = true)) := (i_neg (i_not Iff.rfl) hc108)
          exact g_sub (a := (p0.length : Int)) (b := 1) (if_pos hc108) rfl (hg109 hq2)
        obtain ⟨r111, hk112, hm⟩ := hm
        refine wl_guardE (X := Ext) (c := (!r101) = false) (val := .bool r111) (Ext.refl _) (b := ((!r101) == false)) (gv_some rfl rfl rfl) beq_iff_eq (fun hc110 => ?_) (fun w113 hE114 => ?_)
        · have hq2 : ¬ (¬ (r101 = true)) := (i_neg (i_not Iff.rfl) hc110)
          exact (g_call (vs := #[.slice ((y0[(Int.toNat v72)]!).2.1.1) ((y0[(Int.toNat v72)]!).2.1.2.2.length) ((y0[(Int.toNat v72)]!).2.1.2.1), .int .i64 ((p0.length : Int) - 1)]) CF68 (args2 (if_pos hc110) (if_pos hc110)) ((m_spec_l11Rising_fn ((Tv.rowC0 (hp0.bel hB102) hg86).up hS103) ((p0.length : Int) - 1) (hk112 hq2)).mono fun _ _ ⟨_, h1, h2, h3⟩ => ⟨by rw [h2, h1], h3⟩))
        have hB115 := hB102.trans (Ext.stp hE114 hS103.base)
        have hS116 := hS103.ext hE114
        refine wl_guard (c := (!r101) = false) (val := .bool (!r111)) (b := ((!r101) == false)) (gv_some rfl rfl rfl) beq_iff_eq (fun hc117 => ?_) ?_
        · have hq2 : ¬ (¬ (r101 = true)) := (i_neg (i_not Iff.rfl) hc117)
          exact g_not (a := r111) (if_pos hc117)
        refine wl_val (g_pick_or (b := (!r101)) (q := (!r111)) rfl rfl) rfl ?_
        refine wl_val (g_move (v := .bool ((!r101) || (!r111))) rfl) rfl ?_
        refine wl_guard (c := ((!r101) || (!r111)) = false) (val := .pointer (some (((⟨g88, 0, none⟩ : Addr)).add 2))) (b := (((!r101) || (!r111)) == false)) (gv_some rfl rfl rfl) beq_iff_eq (fun hc118 => ?_) ?_
        · have hq3 : ¬ (((¬ (r101 = true)) ∨ (¬ (r111 = true)))) := (i_neg (i_or (i_not Iff.rfl) (i_not Iff.rfl)) hc118)
          exact g_fieldAddr (q := (⟨g88, 0, none⟩ : Addr)) FL39_2 ON24 rfl
        refine wl_guard (c := ((!r101) || (!r111)) = false) (val := .slice ((y0[(Int.toNat v72)]!).2.2.1) ((y0[(Int.toNat v72)]!).2.2.2.2.length) ((y0[(Int.toNat v72)]!).2.2.2.1)) (b := (((!r101) || (!r111)) == false)) (gv_some rfl rfl rfl) beq_iff_eq (fun hc119 => ?_) ?_
        · have hq3 : ¬ (((¬ (r101 = true)) ∨ (¬ (r111 = true)))) := (i_neg (i_or (i_not Iff.rfl) (i_not Iff.rfl)) hc119)
          exact q_loadB (i := 2) (bs := #[.int .i64 (p0[(Int.toNat v72)]!.1), .slice ((y0[(Int.toNat v72)]!).2.1.1) ((y0[(Int.toNat v72)]!).2.1.2.2.length) ((y0[(Int.toNat v72)]!).2.1.2.1), .slice ((y0[(Int.toNat v72)]!).2.2.1) ((y0[(Int.toNat v72)]!).2.2.2.2.length) ((y0[(Int.toNat v72)]!).2.2.2.1)]) hS116.g0 ON24 (if_pos hc119) rfl
        obtain ⟨r121, hk122, hm⟩ := hm
        refine wl_guardE (X := Ext) (c := ((!r101) || (!r111)) = false) (val := .bool r121) (Ext.refl _) (b := (((!r101) || (!r111)) == false)) (gv_some rfl rfl rfl) beq_iff_eq (fun hc120 => ?_) (fun w123 hE124 => ?_)
        · have hq3 : ¬ (((¬ (r101 = true)) ∨ (¬ (r111 = true)))) := (i_neg (i_or (i_not Iff.rfl) (i_not Iff.rfl)) hc120)
          exact (g_call (vs := #[.slice ((y0[(Int.toNat v72)]!).2.2.1) ((y0[(Int.toNat v72)]!).2.2.2.2.length) ((y0[(Int.toNat v72)]!).2.2.2.1), .int .i64 6]) CF68 (args2 (if_pos hc120) rfl) ((m_spec_l11Rising_fn ((Tv.rowC1 (hp0.bel hB115) hg86).up hS116) 6 (hk122 hq3)).mono fun _ _ ⟨_, h1, h2, h3⟩ => ⟨by rw [h2, h1], h3⟩))
        have hB125 := hB115.trans (Ext.stp hE124 hS116.base)
        have hS126 := hS116.ext hE124
        refine wl_guard (c := ((!r101) || (!r111)) = false) (val := .bool (!r121)) (b := (((!r101) || (!r111)) == false)) (gv_some rfl rfl rfl) beq_iff_eq (fun hc127 => ?_) ?_
        · have hq3 : ¬ (((¬ (r101 = true)) ∨ (¬ (r111 = true)))) := (i_neg (i_or (i_not Iff.rfl) (i_not Iff.rfl)) hc127)
          exact g_not (a := r121) (if_pos hc127)
        refine wl_val (g_pick_or (b := ((!r101) || (!r111))) (q := (!r121)) rfl rfl) rfl ?_
        refine wl_nil ?_
        refine hK97 _ _ ?_
        refine w_condI (p := ((((¬ (r101 = true)) ∨ (¬ (r111 = true)))) ∨ (¬ (r121 = true)))) (b := (((!r101) || (!r111)) || (!r121))) rfl (i_or (i_or (i_not Iff.rfl) (i_not Iff.rfl)) (i_not Iff.rfl)) (fun h128 => ?_) (fun h128 => ?_)
        · replace hm := hm.1 h128
          refine w_seq fun K129 hK129 => ?_
          refine w_region ?_
          refine wl_val (g_assign (v := .bool false) rfl) rfl ?_
          refine wl_nil ?_
          refine hK129 _ _ ?_
          refine w_ret ?_
          repeat first | with_reducible refine q_then ?_ | with_reducible refine q_block ?_
          exact ret1 rfl (by decide) ⟨_, hm, rfl, toExt hB125⟩
        · replace hm := hm.2 h128
          refine w_skip ?_
          refine hK84 _ _ ?_
          refine w_region ?_
          refine wl_val (g_move (v := .int .i64 v72) rfl) rfl ?_
          obtain ⟨hg130, hm⟩ := hm
          refine wl_val (g_add (a := v72) (b := 1) rfl rfl hg130) rfl ?_
          refine wl_val (g_assign (v := .int .i64 (v72 + 1)) rfl) rfl ?_
          refine wl_nil ?_
          have hS131 := hS126.tail
          exact ⟨((v72 + 1)), hm.2, ⟨rfl, rfl, trivial⟩, ⟨hm.1, hB125, hS131⟩⟩
      · replace hm := hm.2 h83
        refine w_exit ?_
        exact ⟨(), ⟨rfl, trivial⟩, ⟨hm, hB78, hS79⟩⟩
    · rintro _ b_ w132 ⟨hm, hB133, hS134⟩
      show Wp _ _ _ _ (upds b_ [(0, .slice a0 n0 c0)]) w132
      refine w_seq fun K135 hK135 => ?_
      refine w_region ?_
      refine wl_val (g_move (v := .slice a0 n0 c0) rfl) rfl ?_
      refine wl_step rfl (g_call (vs := #[.slice a0 n0 c0]) CF18 (args1 rfl) (m_spec_CircleIn_fn ((hp0.bel hB133).up hS134) hm)) ?_
      rintro _ w136 ⟨r139, a140, n141, c142, hm, rfl, hE137, hN138⟩
      have hS144 := hS134.call1 hE137 hN138
      have hB145 := hB133.trans (Ext.stp hE137 hS134.base)
      refine wl_val (q_len SL24 rfl (Vw.len (oS.vw hS144.g0))) rfl ?_
      refine wl_val (g_eql (a := (r139.length : Int)) (b := 0) rfl rfl) rfl ?_
      refine wl_val (g_assign (v := .bool (decide ((r139.length : Int) = 0))) rfl) rfl ?_
      refine wl_nil ?_
      refine hK135 _ _ ?_
      refine w_ret ?_
      repeat first | with_reducible refine q_then ?_ | with_reducible refine q_block ?_
      exact ret1 rfl (by decide) ⟨_, hm, rfl, toExt hB145⟩

theorem m_impl_allWithin_fn {w : World} {a0 : Option Addr} {n0 c0 : Nat} {p0 : List Int} {Q : Bool → Prop} (hp0 : Vw w.heap.size w a0 n0 c0 p0) (p1 : Int) (p2 : Int) (hm : m_impl_allWithin p0 p1 p2 Q) :
    Fn Try.prog 77 #[.slice a0 n0 c0, .int .i64 p1, .int .i64 p2] w (fun v w' => ∃ (r0 : Bool), Q r0 ∧ v = .bool r0 ∧ Ext w w') := by
  unfold m_impl_allWithin at hm
  have hB0 := Below.refl w.heap.size w
  have hS0 : Sep w w.heap.size [] := Sep.nil (Nat.le_refl _)
  refine fn_of_wp Try.func77 rfl (by kernel_rfl) (Nat.le_of_ble_eq_true rfl) ?_
  refine w_seq fun K1 hK1 => ?_
  refine w_region ?_
  refine wl_val (g_assign (v := .bool false) rfl) rfl ?_
  refine wl_nil ?_
  refine hK1 _ _ ?_
  refine w_cut (σ := Unit) (fun _ => []) (fun _ w' => m_impl_allWithin_K0 Q ∧ Below w.heap.size w w' ∧ Sep w' w.heap.size []) ?_ ?_
  · refine w_seq fun K3 hK3 => ?_
    refine w_region ?_
    refine wl_val (g_move (v := .slice a0 n0 c0) rfl) rfl ?_
    refine wl_val (q_len SL24 rfl (Vw.len (hp0.bel hB0))) rfl ?_
    refine wl_val (g_move (v := .int .i64 0) rfl) rfl ?_
    refine wl_nil ?_
    refine hK3 _ _ ?_
    refine w_block ?_
    obtain ⟨I29, μ30, h031, hr32⟩ := hm
    refine w_for (σ := Int) (fun v28 => [(1, .int .i64 p1), (2, .int .i64 p2), (9, .slice a0 n0 c0), (10, .int .i64 (p0.length : Int)), (11, .int .i64 v28)]) (fun v28 w' => I29 v28 ∧ Below w.heap.size w w' ∧ Sep w' w.heap.size []) (fun v28 => μ30 v28) (0) ⟨rfl, rfl, rfl, rfl, rfl, trivial⟩ ⟨h031, hB0, hS0⟩ ?_
    rintro v28 b_ w33 ⟨hi_, hB34, hS35⟩
    show Wp _ _ _ _ (upds b_ [(1, .int .i64 p1), (2, .int .i64 p2), (9, .slice a0 n0 c0), (10, .int .i64 (p0.length : Int)), (11, .int .i64 v28)]) w33
    have hm := hr32 v28 hi_
    refine w_seq fun K37 hK37 => ?_
    refine w_region ?_
    refine wl_val (g_lss (a := v28) (b := (p0.length : Int)) rfl rfl) rfl ?_
    refine wl_nil ?_
    refine hK37 _ _ ?_
    refine w_seq fun K38 hK38 => ?_
    refine w_condI (p := v28 < (p0.length : Int)) (b := (decide (v28 < (p0.length : Int)))) rfl decide_eq_true_iff (fun h39 => ?_) (fun h39 => ?_)
    · replace hm := hm.1 h39
      refine w_skip ?_
      refine hK38 _ _ ?_
      refine w_seq fun K40 hK40 => ?_
      refine w_block ?_
      refine w_seq fun K41 hK41 => ?_
      refine w_region ?_
      obtain ⟨hg42, hm⟩ := hm
      refine wl_val (q_index (i := v28) SL24 rfl rfl (hp0.bel hB34) hg42) rfl ?_
      refine wl_val (q_load (i := v28) (v := .int .i64 (p0[(Int.toNat v28)]!)) ON3 (hp0.bel hB34) hg42 rfl rfl) rfl ?_
      refine wl_val (g_assign (v := .int .i64 (p0[(Int.toNat v28)]!)) rfl) rfl ?_
      refine wl_nil ?_
      refine hK41 _ _ ?_
      refine w_seq fun K43 hK43 => ?_
      refine w_region ?_
      refine wl_val (g_move (v := .int .i64 (p0[(Int.toNat v28)]!)) rfl) rfl ?_
      refine wl_val (g_move (v := .int .i64 p1) rfl) rfl ?_
      refine wl_val (g_move (v := .int .i64 p2) rfl) rfl ?_
      refine wl_step rfl (g_call (vs := #[.int .i64 (p0[(Int.toNat v28)]!), .int .i64 p1, .int .i64 p2]) CF65 (args3 rfl rfl rfl) (m_impl_within_fn (p0[(Int.toNat v28)]!) p1 p2 hm)) ?_
      rintro _ w44 ⟨r47, hm, rfl, hE45⟩
      have hB48 := hB34.trans (Ext.stp hE45 hS35.base)
      have hS49 := hS35.ext hE45
      refine wl_val (g_not (a := r47) rfl) rfl ?_
      refine wl_nil ?_
      refine hK43 _ _ ?_
      refine w_condI (p := ¬ (r47 = true)) (b := (!r47)) rfl (i_not Iff.rfl) (fun h50 => ?_) (fun h50 => ?_)
      · replace hm := hm.1 h50
        refine w_seq fun K51 hK51 => ?_
        refine w_region ?_
        refine wl_val (g_assign (v := .bool false) rfl) rfl ?_
        refine wl_nil ?_
        refine hK51 _ _ ?_
        refine w_ret ?_
        repeat first | with_reducible refine q_then ?_ | with_reducible refine q_block ?_
        exact ret1 rfl (by decide) ⟨_, hm, rfl, toExt hB48⟩
      · replace hm := hm.2 h50
        refine w_skip ?_
        refine hK40 _ _ ?_
        refine w_region ?_
        obtain ⟨hg52, hm⟩ := hm
        refine wl_val (g_add (a := v28) (b := 1) rfl rfl hg52) rfl ?_
        refine wl_val (g_move (v := .int .i64 (v28 + 1)) rfl) rfl ?_
        refine wl_nil ?_
        exact ⟨((v28 + 1)), hm.2, ⟨rfl, rfl, rfl, rfl, rfl, trivial⟩, ⟨hm.1, hB48, hS49⟩⟩
    · replace hm := hm.2 h39
      refine w_exit ?_
      exact ⟨(), trivial, ⟨hm, hB34, hS35⟩⟩
  · rintro _ b_ w53 ⟨hm, hB54, hS55⟩
    show Wp _ _ _ _ (upds b_ []) w53
    refine w_seq fun K56 hK56 => ?_
    refine w_region ?_
    refine wl_val (g_assign (v := .bool true) rfl) rfl ?_
    refine wl_nil ?_
    refine hK56 _ _ ?_
    refine w_ret ?_
    repeat first | with_reducible refine q_then ?_ | with_reducible refine q_block ?_
    exact ret1 rfl (by decide) ⟨_, hm, rfl, toExt hB54⟩

theorem m_impl_isStrict_fn {w : World} {a0 : Option Addr} {n0 c0 : Nat} {p0 : List Int} {Q : Bool → Prop} (hp0 : Vw w.heap.size w a0 n0 c0 p0) (p1 : Int) (p2 : Int) (hm : m_impl_isStrict p0 p1 p2 Q) :
    Fn Try.prog 66 #[.slice a0 n0 c0, .int .i64 p1, .int .i64 p2] w (fun v w' => ∃ (r0 : Bool), Q r0 ∧ v = .bool r0 ∧ Ext w w') := by
  unfold m_impl_isStrict at hm
  have hB0 := Below.refl w.heap.size w
  have hS0 : Sep w w.heap.size [] := Sep.nil (Nat.le_refl _)
  refine fn_of_wp Try.func66 rfl (by kernel_rfl) (Nat.le_of_ble_eq_true rfl) ?_
  refine w_seq fun K1 hK1 => ?_
  refine w_region ?_
  refine wl_val (g_assign (v := .bool false) rfl) rfl ?_
  refine wl_nil ?_
  refine hK1 _ _ ?_
  refine w_cut (σ := Unit) (fun _ => [(0, .slice a0 n0 c0), (1, .int .i64 p1), (2, .int .i64 p2)]) (fun _ w' => m_impl_isStrict_K0 p0 p1 p2 Q ∧ Below w.heap.size w w' ∧ Sep w' w.heap.size []) ?_ ?_
  · refine w_seq fun K3 hK3 => ?_
    refine w_region ?_
    refine wl_val (g_move (v := .slice a0 n0 c0) rfl) rfl ?_
    refine wl_val (q_len SL24 rfl (Vw.len (hp0.bel hB0))) rfl ?_
    refine wl_val (g_move (v := .int .i64 0) rfl) rfl ?_
    refine wl_nil ?_
    refine hK3 _ _ ?_
    refine w_block ?_
    obtain ⟨I99, μ100, h0101, hr102⟩ := hm
    refine w_for (σ := Int) (fun v98 => [(0, .slice a0 n0 c0), (1, .int .i64 p1), (2, .int .i64 p2), (9, .int .i64 (p0.length : Int)), (10, .int .i64 v98)]) (fun v98 w' => I99 v98 ∧ Below w.heap.size w w' ∧ Sep w' w.heap.size []) (fun v98 => μ100 v98) (0) ⟨rfl, rfl, rfl, rfl, rfl, trivial⟩ ⟨h0101, hB0, hS0⟩ ?_
    rintro v98 b_ w103 ⟨hi_, hB104, hS105⟩
    show Wp _ _ _ _ (upds b_ [(0, .slice a0 n0 c0), (1, .int .i64 p1), (2, .int .i64 p2), (9, .int .i64 (p0.length : Int)), (10, .int .i64 v98)]) w103
    have hm := hr102 v98 hi_
    refine w_seq fun K107 hK107 => ?_
    refine w_region ?_
    refine wl_val (g_lss (a := v98) (b := (p0.length : Int)) rfl rfl) rfl ?_
    refine wl_nil ?_
    refine hK107 _ _ ?_
    refine w_seq fun K108 hK108 => ?_
    refine w_condI (p := v98 < (p0.length : Int)) (b := (decide (v98 < (p0.length : Int)))) rfl decide_eq_true_iff (fun h109 => ?_) (fun h109 => ?_)
    · replace hm := hm.1 h109
      refine w_skip ?_
      refine hK108 _ _ ?_
      refine w_seq fun K110 hK110 => ?_
      refine w_block ?_
      refine w_seq fun K111 hK111 => ?_
      refine w_region ?_
      refine wl_val (g_move (v := .int .i64 v98) rfl) rfl ?_
      refine wl_val (g_assign (v := .int .i64 v98) rfl) rfl ?_
      refine wl_nil ?_
      refine hK111 _ _ ?_
      refine w_seq fun K112 hK112 => ?_
      refine w_draw (X := Ext) (Y := Ext) [] MIX (by decide +kernel) rfl Ext.refl (fun _ _ _ => Ext.trans) (fun _ _ _ => Chg.trans) (fun _ _ h => Ext.chg h _) (fun w113 hE114 => ?_)
      have hB115 := hB104.trans (Ext.stp hE114 hS105.base)
      have hS116 := hS105.ext hE114
      refine ⟨.int .i64 v98, fun w117 hX118 => od_plain rfl (by have hS119 := hS116.ext hX118; have hB120 := hB115.trans (Ext.stp hX118 hS116.base); exact is_ext (g_move (v := .int .i64 v98) rfl)), ?_⟩
      refine ⟨.bool (decide (v98 > 0)), fun w121 hX122 => od_plain rfl (by have hS123 := hS116.ext hX122; have hB124 := hB115.trans (Ext.stp hX122 hS116.base); exact is_ext (g_gtr (a := v98) (b := 0) rfl rfl)), ?_⟩
      refine ⟨.bool (decide (v98 > 0)), fun w125 hX126 => od_plain rfl (by have hS127 := hS116.ext hX126; have hB128 := hB115.trans (Ext.stp hX126 hS116.base); exact is_ext (g_move (v := .bool (decide (v98 > 0))) rfl)), ?_⟩
      refine ⟨if (decide (v98 > 0)) = true then .slice a0 n0 c0 else undef, fun w129 hX130 => od_guard (c := (decide (v98 > 0)) = true) (val := .slice a0 n0 c0) (b := ((decide (v98 > 0)) == true)) (gv_some rfl rfl rfl) beq_iff_eq (fun hc133 => ?_), ?_⟩
      · have hS131 := hS116.ext hX130
        have hB132 := hB115.trans (Ext.stp hX130 hS116.base)
        have hq1 : v98 > 0 := (decide_eq_true_iff.mp hc133)
        exact is_ext (g_move (v := .slice a0 n0 c0) rfl)
      refine ⟨if (decide (v98 > 0)) = true then .int .i64 v98 else undef, fun w134 hX135 => od_guard (c := (decide (v98 > 0)) = true) (val := .int .i64 v98) (b := ((decide (v98 > 0)) == true)) (gv_some rfl rfl rfl) beq_iff_eq (fun hc138 => ?_), ?_⟩
      · have hS136 := hS116.ext hX135
        have hB137 := hB115.trans (Ext.stp hX135 hS116.base)
        have hq1 : v98 > 0 := (decide_eq_true_iff.mp hc138)
        exact is_ext (g_move (v := .int .i64 v98) rfl)
      obtain ⟨hg144, hm⟩ := hm
      refine ⟨if (decide (v98 > 0)) = true then .pointer (some ((adr a0).add ((Int.toNat v98) * El.m Int))) else undef, fun w139 hX140 => od_guard (c := (decide (v98 > 0)) = true) (val := .pointer (some ((adr a0).add ((Int.toNat v98) * El.m Int)))) (b := ((decide (v98 > 0)) == true)) (gv_some rfl rfl rfl) beq_iff_eq (fun hc143 => ?_), ?_⟩
      · have hS141 := hS116.ext hX140
        have hB142 := hB115.trans (Ext.stp hX140 hS116.base)
        have hq1 : v98 > 0 := (decide_eq_true_iff.mp hc143)
        exact is_ext (q_index (i := v98) SL24 (if_pos hc143) (if_pos hc143) (hp0.bel hB142) (hg144 hq1))
      refine ⟨if (decide (v98 > 0)) = true then .int .i64 (p0[(Int.toNat v98)]!) else undef, fun w145 hX146 => od_guard (c := (decide (v98 > 0)) = true) (val := .int .i64 (p0[(Int.toNat v98)]!)) (b := ((decide (v98 > 0)) == true)) (gv_some rfl rfl rfl) beq_iff_eq (fun hc149 => ?_), ?_⟩
      · have hS147 := hS116.ext hX146
        have hB148 := hB115.trans (Ext.stp hX146 hS116.base)
        have hq1 : v98 > 0 := (decide_eq_true_iff.mp hc149)
        exact is_ext (q_load (i := v98) (v := .int .i64 (p0[(Int.toNat v98)]!)) ON3 (hp0.bel hB148) (hg144 hq1) rfl (if_pos hc149))
      refine ⟨if (decide (v98 > 0)) = true then .slice a0 n0 c0 else undef, fun w150 hX151 => od_guard (c := (decide (v98 > 0)) = true) (val := .slice a0 n0 c0) (b := ((decide (v98 > 0)) == true)) (gv_some rfl rfl rfl) beq_iff_eq (fun hc154 => ?_), ?_⟩
      · have hS152 := hS116.ext hX151
        have hB153 := hB115.trans (Ext.stp hX151 hS116.base)
        have hq1 : v98 > 0 := (decide_eq_true_iff.mp hc154)
        exact is_ext (g_move (v := .slice a0 n0 c0) rfl)
      refine ⟨if (decide (v98 > 0)) = true then .int .i64 v98 else undef, fun w155 hX156 => od_guard (c := (decide (v98 > 0)) = true) (val := .int .i64 v98) (b := ((decide (v98 > 0)) == true)) (gv_some rfl rfl rfl) beq_iff_eq (fun hc159 => ?_), ?_⟩
      · have hS157 := hS116.ext hX156
        have hB158 := hB115.trans (Ext.stp hX156 hS116.base)
        have hq1 : v98 > 0 := (decide_eq_true_iff.mp hc159)
        exact is_ext (g_move (v := .int .i64 v98) rfl)
      obtain ⟨hg165, hm⟩ := hm
      refine ⟨if (decide (v98 > 0)) = true then .int .i64 (v98 - 1) else undef, fun w160 hX161 => od_guard (c := (decide (v98 > 0)) = true) (val := .int .i64 (v98 - 1)) (b := ((decide (v98 > 0)) == true)) (gv_some rfl rfl rfl) beq_iff_eq (fun hc164 => ?_), ?_⟩
      · have hS162 := hS116.ext hX161
        have hB163 := hB115.trans (Ext.stp hX161 hS116.base)
        have hq1 : v98 > 0 := (decide_eq_true_iff.mp hc164)
        exact is_ext (g_sub (a := v98) (b := 1) (if_pos hc164) rfl (hg165 hq1))
      obtain ⟨hg171, hm⟩ := hm
      refine ⟨if (decide (v98 > 0)) = true then .pointer (some ((adr a0).add ((Int.toNat (v98 - 1)) * El.m Int))) else undef, fun w166 hX167 => od_guard (c := (decide (v98 > 0)) = true) (val := .pointer (some ((adr a0).add ((Int.toNat (v98 - 1)) * El.m Int)))) (b := ((decide (v98 > 0)) == true)) (gv_some rfl rfl rfl) beq_iff_eq (fun hc170 => ?_), ?_⟩
      · have hS168 := hS116.ext hX167
        have hB169 := hB115.trans (Ext.stp hX167 hS116.base)
        have hq1 : v98 > 0 := (decide_eq_true_iff.mp hc170)
        exact is_ext (q_index (i := (v98 - 1)) SL24 (if_pos hc170) (if_pos hc170) (hp0.bel hB169) (hg171 hq1))
      refine ⟨if (decide (v98 > 0)) = true then .int .i64 (p0[(Int.toNat (v98 - 1))]!) else undef, fun w172 hX173 => od_guard (c := (decide (v98 > 0)) = true) (val := .int .i64 (p0[(Int.toNat (v98 - 1))]!)) (b := ((decide (v98 > 0)) == true)) (gv_some rfl rfl rfl) beq_iff_eq (fun hc176 => ?_), ?_⟩
      · have hS174 := hS116.ext hX173
        have hB175 := hB115.trans (Ext.stp hX173 hS116.base)
        have hq1 : v98 > 0 := (decide_eq_true_iff.mp hc176)
        exact is_ext (q_load (i := (v98 - 1)) (v := .int .i64 (p0[(Int.toNat (v98 - 1))]!)) ON3 (hp0.bel hB175) (hg171 hq1) rfl (if_pos hc176))
      refine ⟨if (decide (v98 > 0)) = true then .bool (decide (p0[(Int.toNat v98)]! ≤ p0[(Int.toNat (v98 - 1))]!)) else undef, fun w177 hX178 => od_guard (c := (decide (v98 > 0)) = true) (val := .bool (decide (p0[(Int.toNat v98)]! ≤ p0[(Int.toNat (v98 - 1))]!))) (b := ((decide (v98 > 0)) == true)) (gv_some rfl rfl rfl) beq_iff_eq (fun hc181 => ?_), ?_⟩
      · have hS179 := hS116.ext hX178
        have hB180 := hB115.trans (Ext.stp hX178 hS116.base)
        have hq1 : v98 > 0 := (decide_eq_true_iff.mp hc181)
        exact is_ext (g_leq (a := p0[(Int.toNat v98)]!) (b := p0[(Int.toNat (v98 - 1))]!) (if_pos hc181) (if_pos hc181))
      refine ⟨.bool ((decide (v98 > 0)) && (decide (p0[(Int.toNat v98)]! ≤ p0[(Int.toNat (v98 - 1))]!))), fun w182 hX183 => od_plain rfl (by have hS184 := hS116.ext hX183; have hB185 := hB115.trans (Ext.stp hX183 hS116.base); exact is_ext (g_pick_and (b := (decide (v98 > 0))) (q := (decide (p0[(Int.toNat v98)]! ≤ p0[(Int.toNat (v98 - 1))]!))) rfl rfl)), ?_⟩
      intro w186 hX187
      have hB188 := hB115.trans (Ext.stp hX187 hS116.base)
      have hS189 := hS116.ext hX187
      refine hK112 _ _ ?_
      refine w_condI (p := ((v98 > 0) ∧ (p0[(Int.toNat v98)]! ≤ p0[(Int.toNat (v98 - 1))]!))) (b := ((decide (v98 > 0)) && (decide (p0[(Int.toNat v98)]! ≤ p0[(Int.toNat (v98 - 1))]!)))) rfl (i_and decide_eq_true_iff decide_eq_true_iff) (fun h190 => ?_) (fun h190 => ?_)
      · replace hm := hm.1 h190
        refine w_seq fun K191 hK191 => ?_
        refine w_region ?_
        refine wl_val (g_assign (v := .bool false) rfl) rfl ?_
        refine wl_nil ?_
        refine hK191 _ _ ?_
        refine w_ret ?_
        repeat first | with_reducible refine q_then ?_ | with_reducible refine q_block ?_
        exact ret1 rfl (by decide) ⟨_, hm, rfl, toExt hB188⟩
      · replace hm := hm.2 h190
        refine w_skip ?_
        refine hK110 _ _ ?_
        refine w_region ?_
        obtain ⟨hg192, hm⟩ := hm
        refine wl_val (g_add (a := v98) (b := 1) rfl rfl hg192) rfl ?_
        refine wl_val (g_move (v := .int .i64 (v98 + 1)) rfl) rfl ?_
        refine wl_nil ?_
        exact ⟨((v98 + 1)), hm.2, ⟨rfl, rfl, rfl, rfl, rfl, trivial⟩, ⟨hm.1, hB188, hS189⟩⟩
    · replace hm := hm.2 h109
      refine w_exit ?_
      exact ⟨(), ⟨rfl, rfl, rfl, trivial⟩, ⟨hm, hB104, hS105⟩⟩
  · rintro _ b_ w193 ⟨hm, hB194, hS195⟩
    show Wp _ _ _ _ (upds b_ [(0, .slice a0 n0 c0), (1, .int .i64 p1), (2, .int .i64 p2)]) w193
    refine w_seq fun K196 hK196 => ?_
    refine w_region ?_
    refine wl_val (g_move (v := .slice a0 n0 c0) rfl) rfl ?_
    refine wl_val (g_move (v := .int .i64 p1) rfl) rfl ?_
    refine wl_val (g_move (v := .int .i64 p2) rfl) rfl ?_
    refine wl_step rfl (g_call (vs := #[.slice a0 n0 c0, .int .i64 p1, .int .i64 p2]) CF77 (args3 rfl rfl rfl) (m_impl_allWithin_fn ((hp0.bel hB194).up hS195) p1 p2 hm)) ?_
    rintro _ w197 ⟨r200, hm, rfl, hE198⟩
    have hB201 := hB194.trans (Ext.stp hE198 hS195.base)
    have hS202 := hS195.ext hE198
    refine wl_val (g_assign (v := .bool r200) rfl) rfl ?_
    refine wl_nil ?_
    refine hK196 _ _ ?_
    refine w_ret ?_
    repeat first | with_reducible refine q_then ?_ | with_reducible refine q_block ?_
    exact ret1 rfl (by decide) ⟨_, hm, rfl, toExt hB201⟩

theorem m_impl_CuesOk_fn {w : World} {a0 : Option Addr} {n0 c0 : Nat} {y0 : List CueD} {p0 : List CueC} {Q : Bool → Prop} (hp0 : Tv w.heap.size w a0 n0 c0 y0 p0) (hm : m_impl_CuesOk p0 Q) :
    Fn Try.prog 29 #[.slice a0 n0 c0] w (fun v w' => ∃ (r0 : Bool), Q r0 ∧ v = .bool r0 ∧ Ext w w') := by
  unfold m_impl_CuesOk at hm
  have hB0 := Below.refl w.heap.size w
  have hS0 : Sep w w.heap.size [] := Sep.nil (Nat.le_refl _)
  refine fn_of_wp Try.func29 rfl (by kernel_rfl) (Nat.le_of_ble_eq_true rfl) ?_
  refine w_seq fun K1 hK1 => ?_
  refine w_region ?_
  refine wl_val (g_assign (v := .bool false) rfl) rfl ?_
  refine wl_nil ?_
  refine hK1 _ _ ?_
  refine w_seq fun K2 hK2 => ?_
  refine w_seq fun K3 hK3 => ?_
  refine w_region ?_
  refine wl_val (g_move (v := .slice a0 n0 c0) rfl) rfl ?_
  refine wl_val (q_len SL26 rfl (Tv.len (hp0.bel hB0))) rfl ?_
  refine wl_step rfl (g_call (vs := #[.int .i64 (p0.length : Int), .int .i64 1, .int .i64 12]) CF65 (args3 rfl rfl rfl) (m_impl_within_fn (p0.length : Int) 1 12 hm)) ?_
  rintro _ w4 ⟨r7, hm, rfl, hE5⟩
  have hB8 := hB0.trans (Ext.stp hE5 hS0.base)
  have hS9 := hS0.ext hE5
  refine wl_val (g_not (a := r7) rfl) rfl ?_
  refine wl_nil ?_
  refine hK3 _ _ ?_
  refine w_condI (p := ¬ (r7 = true)) (b := (!r7)) rfl (i_not Iff.rfl) (fun h10 => ?_) (fun h10 => ?_)
  · replace hm := hm.1 h10
    refine w_seq fun K11 hK11 => ?_
    refine w_region ?_
    refine wl_val (g_assign (v := .bool false) rfl) rfl ?_
    refine wl_nil ?_
    refine hK11 _ _ ?_
    refine w_ret ?_
    repeat first | with_reducible refine q_then ?_ | with_reducible refine q_block ?_
    exact ret1 rfl (by decide) ⟨_, hm, rfl, toExt hB8⟩
  · replace hm := hm.2 h10
    refine w_skip ?_
    refine hK2 _ _ ?_
    refine w_cut (σ := Unit) (fun _ => [(0, .slice a0 n0 c0)]) (fun _ w' => m_impl_CuesOk_K0 p0 Q ∧ Below w.heap.size w w' ∧ Sep w' w.heap.size []) ?_ ?_
    · refine w_seq fun K13 hK13 => ?_
      refine w_region ?_
      refine wl_val (g_move (v := .slice a0 n0 c0) rfl) rfl ?_
      refine wl_val (q_len SL26 rfl (Tv.len (hp0.bel hB8))) rfl ?_
      refine wl_val (g_move (v := .int .i64 0) rfl) rfl ?_
      refine wl_nil ?_
      refine hK13 _ _ ?_
      refine w_block ?_
      obtain ⟨I73, μ74, h075, hr76⟩ := hm
      refine w_for (σ := Int) (fun v72 => [(0, .slice a0 n0 c0), (9, .slice a0 n0 c0), (10, .int .i64 (p0.length : Int)), (11, .int .i64 v72)]) (fun v72 w' => I73 v72 ∧ Below w.heap.size w w' ∧ Sep w' w.heap.size []) (fun v72 => μ74 v72) (0) ⟨rfl, rfl, rfl, rfl, trivial⟩ ⟨h075, hB8, hS9⟩ ?_
      rintro v72 b_ w77 ⟨hi_, hB78, hS79⟩
      show Wp _ _ _ _ (upds b_ [(0, .slice a0 n0 c0), (9, .slice a0 n0 c0), (10, .int .i64 (p0.length : Int)), (11, .int .i64 v72)]) w77
      have hm := hr76 v72 hi_
      refine w_seq fun K81 hK81 => ?_
      refine w_region ?_
      refine wl_val (g_lss (a := v72) (b := (p0.length : Int)) rfl rfl) rfl ?_
      refine wl_nil ?_
      refine hK81 _ _ ?_
      refine w_seq fun K82 hK82 => ?_
      refine w_condI (p := v72 < (p0.length : Int)) (b := (decide (v72 < (p0.length : Int)))) rfl decide_eq_true_iff (fun h83 => ?_) (fun h83 => ?_)
      · replace hm := hm.1 h83
        refine w_skip ?_
        refine hK82 _ _ ?_
        refine w_seq fun K84 hK84 => ?_
        refine w_block ?_
        refine w_seq fun K85 hK85 => ?_
        refine w_region ?_
        obtain ⟨hg86, hm⟩ := hm
        refine wl_val (q_index (i := v72) SL26 rfl rfl (Tv.o (hp0.bel hB78)) (Tv.g (hp0.bel hB78) hg86)) rfl ?_
        refine wl_val (q_loadS (i := v72) (cs := [.int .i64 (p0[(Int.toNat v72)]!.1), .slice ((y0[(Int.toNat v72)]!).2.1.1) ((y0[(Int.toNat v72)]!).2.1.2.2.length) ((y0[(Int.toNat v72)]!).2.1.2.1), .slice ((y0[(Int.toNat v72)]!).2.2.1) ((y0[(Int.toNat v72)]!).2.2.2.2.length) ((y0[(Int.toNat v72)]!).2.2.2.1)]) AG39 (Tv.o (hp0.bel hB78)) (Tv.g (hp0.bel hB78) hg86) (by rw [← Tv.ticks (hp0.bel hB78) hg86]; rfl) rfl) rfl ?_
        refine wl_step rfl (q_alloc (cs := #[.int .i64 0, .slice none 0 0, .slice none 0 0]) ZR39 rfl hS79) ?_
        rintro _ w87 ⟨g88, rfl, hS90, hE89⟩
        have hB92 := hB78.trans (Ext.stp hE89 hS79.base)
        refine wl_step rfl (q_storeB (i := 0) (bs' := #[.int .i64 (p0[(Int.toNat v72)]!.1), .slice ((y0[(Int.toNat v72)]!).2.1.1) ((y0[(Int.toNat v72)]!).2.1.2.2.length) ((y0[(Int.toNat v72)]!).2.1.2.1), .slice ((y0[(Int.toNat v72)]!).2.2.1) ((y0[(Int.toNat v72)]!).2.2.2.2.length) ((y0[(Int.toNat v72)]!).2.2.2.1)]) (vs := [.int .i64 (p0[(Int.toNat v72)]!.1), .slice ((y0[(Int.toNat v72)]!).2.1.1) ((y0[(Int.toNat v72)]!).2.1.2.2.length) ((y0[(Int.toNat v72)]!).2.1.2.1), .slice ((y0[(Int.toNat v72)]!).2.2.1) ((y0[(Int.toNat v72)]!).2.2.2.2.length) ((y0[(Int.toNat v72)]!).2.2.2.1)]) hS90 AG39.sz rfl rfl rfl (by simp [Value.oneCell']) (Nat.le_of_ble_eq_true rfl) rfl) ?_
        rintro _ w93 ⟨rfl, hS94, hb95⟩
        have hB96 := hB92.trans hb95
        refine wl_nil ?_
        refine hK85 _ _ ?_
        refine w_seq fun K97 hK97 => ?_
        refine w_region ?_
        refine wl_val (g_fieldAddr (q := (⟨g88, 0, none⟩ : Addr)) FL39_0 ON3 rfl) rfl ?_
        refine wl_val (q_loadB (i := 0) (bs := #[.int .i64 (p0[(Int.toNat v72)]!.1), .slice ((y0[(Int.toNat v72)]!).2.1.1) ((y0[(Int.toNat v72)]!).2.1.2.2.length) ((y0[(Int.toNat v72)]!).2.1.2.1), .slice ((y0[(Int.toNat v72)]!).2.2.1) ((y0[(Int.toNat v72)]!).2.2.2.2.length) ((y0[(Int.toNat v72)]!).2.2.2.1)]) hS94.g0 ON3 rfl rfl) rfl ?_
        refine wl_step rfl (g_call (vs := #[.int .i64 (p0[(Int.toNat v72)]!.1), .int .i64 1, .int .i64 50]) CF65 (args3 rfl rfl rfl) (m_impl_within_fn (p0[(Int.toNat v72)]!.1) 1 50 hm)) ?_
        rintro _ w98 ⟨r101, hm, rfl, hE99⟩
        have hB102 := hB96.trans (Ext.stp hE99 hS94.base)
        have hS103 := hS94.ext hE99
        refine wl_val (g_not (a := r101) rfl) rfl ?_
        refine wl_val (g_move (v := .bool (!r101)) rfl) rfl ?_
        refine wl_guard (c := (!r101) = false) (val := .pointer (some (((⟨g88, 0, none⟩ : Addr)).add 1))) (b := ((!r101) == false)) (gv_some rfl rfl rfl) beq_iff_eq (fun hc104 => ?_) ?_
        · have hq2 : ¬ (¬ (r101 = true)) := (i_neg (i_not Iff.rfl) hc104)
          exact g_fieldAddr (q := (⟨g88, 0, none⟩ : Addr)) FL39_1 ON24 rfl
        refine wl_guard (c := (!r101) = false) (val := .slice ((y0[(Int.toNat v72)]!).2.1.1) ((y0[(Int.toNat v72)]!).2.1.2.2.length) ((y0[(Int.toNat v72)]!).2.1.2.1)) (b := ((!r101) == false)) (gv_some rfl rfl rfl) beq_iff_eq (fun hc105 => ?_) ?_
        · have hq2 : ¬ (¬ (r101 = true)) := (i_neg (i_not Iff.rfl) hc105)
          exact q_loadB (i := 1) (bs := #[.int .i64 (p0[(Int.toNat v72)]!.1), .slice ((y0[(Int.toNat v72)]!).2.1.1) ((y0[(Int.toNat v72)]!).2.1.2.2.length) ((y0[(Int.toNat v72)]!).2.1.2.1), .slice ((y0[(Int.toNat v72)]!).2.2.1) ((y0[(Int.toNat v72)]!).2.2.2.2.length) ((y0[(Int.toNat v72)]!).2.2.2.1)]) hS103.g0 ON24 (if_pos hc105) rfl
        refine wl_guard (c := (!r101) = false) (val := .slice a0 n0 c0) (b := ((!r101) == false)) (gv_some rfl rfl rfl) beq_iff_eq (fun hc106 => ?_) ?_
        · have hq2 : ¬ (¬ (r101 = true)) := (i_neg (i_not Iff.rfl) hc106)
          exact g_move (v := .slice a0 n0 c0) rfl
        refine wl_guard (c := (!r101) = false) (val := .int .i64 (p0.length : Int)) (b := ((!r101) == false)) (gv_some rfl rfl rfl) beq_iff_eq (fun hc107 => ?_) ?_
        · have hq2 : ¬ (¬ (r101 = true)) := (i_neg (i_not Iff.rfl) hc107)
          exact q_len SL26 (if_pos hc107) (Tv.len (hp0.bel hB102))
        obtain ⟨hg109, hm⟩ := hm
        refine wl_guard (c := (!r101) = false) (val := .int .i64 ((p0.length : Int) - 1)) (b := ((!r101) == false)) (gv_some rfl rfl rfl) beq_iff_eq (fun hc108 => ?_) ?_
        · have hq2 : ¬ (¬ (r101 = true)) := (i_neg (i_not Iff.rfl) hc108)
          exact g_sub (a := (p0.length : Int)) (b := 1) (if_pos hc108) rfl (hg109 hq2)
        obtain ⟨r111, hk112, hm⟩ := hm
        refine wl_guardE (X := Ext) (c := (!r101) = false) (val := .bool r111) (Ext.refl _) (b := ((!r101) == false)) (gv_some rfl rfl rfl) beq_iff_eq (fun hc110 => ?_) (fun w113 hE114 => ?_)
        · have hq2 : ¬ (¬ (r101 = true)) := (i_neg (i_not Iff.rfl) hc110)
          exact (g_call (vs := #[.slice ((y0[(Int.toNat v72)]!).2.1.1) ((y0[(Int.toNat v72)]!).2.1.2.2.length) ((y0[(Int.toNat v72)]!).2.1.2.1), .int .i64 0, .int .i64 ((p0.length : Int) - 1)]) CF66 (args3 (if_pos hc110) rfl (if_pos hc110)) ((m_impl_isStrict_fn ((Tv.rowC0 (hp0.bel hB102) hg86).up hS103) 0 ((p0.length : Int) - 1) (hk112 hq2)).mono fun _ _ ⟨_, h1, h2, h3⟩ => ⟨by rw [h2, h1], h3⟩))
        have hB115 := hB102.trans (Ext.stp hE114 hS103.base)
        have hS116 := hS103.ext hE114
        refine wl_guard (c := (!r101) = false) (val := .bool (!r111)) (b := ((!r101) == false)) (gv_some rfl rfl rfl) beq_iff_eq (fun hc117 => ?_) ?_
        · have hq2 : ¬ (¬ (r101 = true)) := (i_neg (i_not Iff.rfl) hc117)
          exact g_not (a := r111) (if_pos hc117)
        refine wl_val (g_pick_or (b := (!r101)) (q := (!r111)) rfl rfl) rfl ?_
        refine wl_val (g_move (v := .bool ((!r101) || (!r111))) rfl) rfl ?_
        refine wl_guard (c := ((!r101) || (!r111)) = false) (val := .pointer (some (((⟨g88, 0, none⟩ : Addr)).add 2))) (b := (((!r101) || (!r111)) == false)) (gv_some rfl rfl rfl) beq_iff_eq (fun hc118 => ?_) ?_
        · have hq3 : ¬ (((¬ (r101 = true)) ∨ (¬ (r111 = true)))) := (i_neg (i_or (i_not Iff.rfl) (i_not Iff.rfl)) hc118)
          exact g_fieldAddr (q := (⟨g88, 0, none⟩ : Addr)) FL39_2 ON24 rfl
        refine wl_guard (c := ((!r101) || (!r111)) = false) (val := .slice ((y0[(Int.toNat v72)]!).2.2.1) ((y0[(Int.toNat v72)]!).2.2.2.2.length) ((y0[(Int.toNat v72)]!).2.2.2.1)) (b := (((!r101) || (!r111)) == false)) (gv_some rfl rfl rfl) beq_iff_eq (fun hc119 => ?_) ?_
        · have hq3 : ¬ (((¬ (r101 = true)) ∨ (¬ (r111 = true)))) := (i_neg (i_or (i_not Iff.rfl) (i_not Iff.rfl)) hc119)
          exact q_loadB (i := 2) (bs := #[.int .i64 (p0[(Int.toNat v72)]!.1), .slice ((y0[(Int.toNat v72)]!).2.1.1) ((y0[(Int.toNat v72)]!).2.1.2.2.length) ((y0[(Int.toNat v72)]!).2.1.2.1), .slice ((y0[(Int.toNat v72)]!).2.2.1) ((y0[(Int.toNat v72)]!).2.2.2.2.length) ((y0[(Int.toNat v72)]!).2.2.2.1)]) hS116.g0 ON24 (if_pos hc119) rfl
        obtain ⟨r121, hk122, hm⟩ := hm
        refine wl_guardE (X := Ext) (c := ((!r101) || (!r111)) = false) (val := .bool r121) (Ext.refl _) (b := (((!r101) || (!r111)) == false)) (gv_some rfl rfl rfl) beq_iff_eq (fun hc120 => ?_) (fun w123 hE124 => ?_)
        · have hq3 : ¬ (((¬ (r101 = true)) ∨ (¬ (r111 = true)))) := (i_neg (i_or (i_not Iff.rfl) (i_not Iff.rfl)) hc120)
          exact (g_call (vs := #[.slice ((y0[(Int.toNat v72)]!).2.2.1) ((y0[(Int.toNat v72)]!).2.2.2.2.length) ((y0[(Int.toNat v72)]!).2.2.2.1), .int .i64 0, .int .i64 6]) CF66 (args3 (if_pos hc120) rfl rfl) ((m_impl_isStrict_fn ((Tv.rowC1 (hp0.bel hB115) hg86).up hS116) 0 6 (hk122 hq3)).mono fun _ _ ⟨_, h1, h2, h3⟩ => ⟨by rw [h2, h1], h3⟩))
        have hB125 := hB115.trans (Ext.stp hE124 hS116.base)
        have hS126 := hS116.ext hE124
        refine wl_guard (c := ((!r101) || (!r111)) = false) (val := .bool (!r121)) (b := (((!r101) || (!r111)) == false)) (gv_some rfl rfl rfl) beq_iff_eq (fun hc127 => ?_) ?_
        · have hq3 : ¬ (((¬ (r101 = true)) ∨ (¬ (r111 = true)))) := (i_neg (i_or (i_not Iff.rfl) (i_not Iff.rfl)) hc127)
          exact g_not (a := r121) (if_pos hc127)
        refine wl_val (g_pick_or (b := ((!r101) || (!r111))) (q := (!r121)) rfl rfl) rfl ?_
        refine wl_nil ?_
        refine hK97 _ _ ?_
        refine w_condI (p := ((((¬ (r101 = true)) ∨ (¬ (r111 = true)))) ∨ (¬ (r121 = true)))) (b := (((!r101) || (!r111)) || (!r121))) rfl (i_or (i_or (i_not Iff.rfl) (i_not Iff.rfl)) (i_not Iff.rfl)) (fun h128 => ?_) (fun h128 => ?_)
        · replace hm := hm.1 h128
          refine w_seq fun K129 hK129 => ?_
          refine w_region ?_
          refine wl_val (g_assign (v := .bool false) rfl) rfl ?_
          refine wl_nil ?_
          refine hK129 _ _ ?_
          refine w_ret ?_
          repeat first | with_reducible refine q_then ?_ | with_reducible refine q_block ?_
          exact ret1 rfl (by decide) ⟨_, hm, rfl, toExt hB125⟩
        · replace hm := hm.2 h128
          refine w_skip ?_
          refine hK84 _ _ ?_
          refine w_region ?_
          obtain ⟨hg130, hm⟩ := hm
          refine wl_val (g_add (a := v72) (b := 1) rfl rfl hg130) rfl ?_
          refine wl_val (g_move (v := .int .i64 (v72 + 1)) rfl) rfl ?_
          refine wl_nil ?_
          have hS131 := hS126.tail
          exact ⟨((v72 + 1)), hm.2, ⟨rfl, rfl, rfl, rfl, trivial⟩, ⟨hm.1, hB125, hS131⟩⟩
      · replace hm := hm.2 h83
        refine w_exit ?_
        exact ⟨(), ⟨rfl, trivial⟩, ⟨hm, hB78, hS79⟩⟩
    · rintro _ b_ w132 ⟨hm, hB133, hS134⟩
      show Wp _ _ _ _ (upds b_ [(0, .slice a0 n0 c0)]) w132
      refine w_seq fun K135 hK135 => ?_
      refine w_region ?_
      refine wl_val (g_move (v := .slice a0 n0 c0) rfl) rfl ?_
      refine wl_step rfl (g_call (vs := #[.slice a0 n0 c0]) CF20 (args1 rfl) (m_impl_CircleIn_fn ((hp0.bel hB133).up hS134) hm)) ?_
      rintro _ w136 ⟨r139, a140, n141, c142, hm, rfl, hE137, hN138⟩
      have hS144 := hS134.call1 hE137 hN138
      have hB145 := hB133.trans (Ext.stp hE137 hS134.base)
      refine wl_val (q_len SL24 rfl (Vw.len (oS.vw hS144.g0))) rfl ?_
      refine wl_val (g_eql (a := (r139.length : Int)) (b := 0) rfl rfl) rfl ?_
      refine wl_val (g_assign (v := .bool (decide ((r139.length : Int) = 0))) rfl) rfl ?_
      refine wl_nil ?_
      refine hK135 _ _ ?_
      refine w_ret ?_
      repeat first | with_reducible refine q_then ?_ | with_reducible refine q_block ?_
      exact ret1 rfl (by decide) ⟨_, hm, rfl, toExt hB145⟩

theorem m_spec_WaitsFor_fn {w : World} {a0 : Option Addr} {n0 c0 : Nat} {y0 : List CueD} {p0 : List CueC} {Q : Bool → Prop} (hp0 : Tv w.heap.size w a0 n0 c0 y0 p0) (p1 : Int) (p2 : Int) (hm : m_spec_WaitsFor p0 p1 p2 Q) :
    Fn Try.prog 36 #[.slice a0 n0 c0, .int .i64 p1, .int .i64 p2] w (fun v w' => ∃ (r0 : Bool), Q r0 ∧ v = .bool r0 ∧ Ext w w') := by
  unfold m_spec_WaitsFor at hm
  have hB0 := Below.refl w.heap.size w
  have hS0 : Sep w w.heap.size [] := Sep.nil (Nat.le_refl _)
  refine fn_of_wp Try.func36 rfl (by kernel_rfl) (Nat.le_of_ble_eq_true rfl) ?_
  refine w_seq fun K1 hK1 => ?_
  refine w_region ?_
  refine wl_val (g_assign (v := .bool false) rfl) rfl ?_
  refine wl_nil ?_
  refine hK1 _ _ ?_
  refine w_seq fun K2 hK2 => ?_
  refine w_seq fun K3 hK3 => ?_
  refine w_region ?_
  refine wl_val (g_move (v := .slice a0 n0 c0) rfl) rfl ?_
  refine wl_step rfl (g_call (vs := #[.slice a0 n0 c0]) CF35 (args1 rfl) (m_spec_CuesOk_fn ((hp0.bel hB0).up hS0) hm)) ?_
  rintro _ w4 ⟨r7, hm, rfl, hE5⟩
  have hB8 := hB0.trans (Ext.stp hE5 hS0.base)
  have hS9 := hS0.ext hE5
  refine wl_val (g_not (a := r7) rfl) rfl ?_
  refine wl_val (g_move (v := .bool (!r7)) rfl) rfl ?_
  refine wl_guard (c := (!r7) = false) (val := .int .i64 p1) (b := ((!r7) == false)) (gv_some rfl rfl rfl) beq_iff_eq (fun hc10 => ?_) ?_
  · have hq0 : ¬ (¬ (r7 = true)) := (i_neg (i_not Iff.rfl) hc10)
    exact g_move (v := .int .i64 p1) rfl
  refine wl_guard (c := (!r7) = false) (val := .slice a0 n0 c0) (b := ((!r7) == false)) (gv_some rfl rfl rfl) beq_iff_eq (fun hc11 => ?_) ?_
  · have hq0 : ¬ (¬ (r7 = true)) := (i_neg (i_not Iff.rfl) hc11)
    exact g_move (v := .slice a0 n0 c0) rfl
  refine wl_guard (c := (!r7) = false) (val := .int .i64 (p0.length : Int)) (b := ((!r7) == false)) (gv_some rfl rfl rfl) beq_iff_eq (fun hc12 => ?_) ?_
  · have hq0 : ¬ (¬ (r7 = true)) := (i_neg (i_not Iff.rfl) hc12)
    exact q_len SL26 (if_pos hc12) (Tv.len (hp0.bel hB8))
  obtain ⟨hg14, hm⟩ := hm
  refine wl_guard (c := (!r7) = false) (val := .int .i64 ((p0.length : Int) - 1)) (b := ((!r7) == false)) (gv_some rfl rfl rfl) beq_iff_eq (fun hc13 => ?_) ?_
  · have hq0 : ¬ (¬ (r7 = true)) := (i_neg (i_not Iff.rfl) hc13)
    exact g_sub (a := (p0.length : Int)) (b := 1) (if_pos hc13) rfl (hg14 hq0)
  obtain ⟨r16, hk17, hm⟩ := hm
  refine wl_guardE (X := Ext) (c := (!r7) = false) (val := .bool r16) (Ext.refl _) (b := ((!r7) == false)) (gv_some rfl rfl rfl) beq_iff_eq (fun hc15 => ?_) (fun w18 hE19 => ?_)
  · have hq0 : ¬ (¬ (r7 = true)) := (i_neg (i_not Iff.rfl) hc15)
    exact (g_call (vs := #[.int .i64 p1, .int .i64 0, .int .i64 ((p0.length : Int) - 1)]) CF67 (args3 (if_pos hc15) rfl (if_pos hc15)) ((m_spec_l01In_fn p1 0 ((p0.length : Int) - 1) (hk17 hq0)).mono fun _ _ ⟨_, h1, h2, h3⟩ => ⟨by rw [h2, h1], h3⟩))
  have hB20 := hB8.trans (Ext.stp hE19 hS9.base)
  have hS21 := hS9.ext hE19
  refine wl_guard (c := (!r7) = false) (val := .bool (!r16)) (b := ((!r7) == false)) (gv_some rfl rfl rfl) beq_iff_eq (fun hc22 => ?_) ?_
  · have hq0 : ¬ (¬ (r7 = true)) := (i_neg (i_not Iff.rfl) hc22)
    exact g_not (a := r16) (if_pos hc22)
  refine wl_val (g_pick_or (b := (!r7)) (q := (!r16)) rfl rfl) rfl ?_
  refine wl_val (g_move (v := .bool ((!r7) || (!r16))) rfl) rfl ?_
  refine wl_guard (c := ((!r7) || (!r16)) = false) (val := .int .i64 p2) (b := (((!r7) || (!r16)) == false)) (gv_some rfl rfl rfl) beq_iff_eq (fun hc23 => ?_) ?_
  · have hq1 : ¬ (((¬ (r7 = true)) ∨ (¬ (r16 = true)))) := (i_neg (i_or (i_not Iff.rfl) (i_not Iff.rfl)) hc23)
    exact g_move (v := .int .i64 p2) rfl
  refine wl_guard (c := ((!r7) || (!r16)) = false) (val := .slice a0 n0 c0) (b := (((!r7) || (!r16)) == false)) (gv_some rfl rfl rfl) beq_iff_eq (fun hc24 => ?_) ?_
  · have hq1 : ¬ (((¬ (r7 = true)) ∨ (¬ (r16 = true)))) := (i_neg (i_or (i_not Iff.rfl) (i_not Iff.rfl)) hc24)
    exact g_move (v := .slice a0 n0 c0) rfl
  refine wl_guard (c := ((!r7) || (!r16)) = false) (val := .int .i64 (p0.length : Int)) (b := (((!r7) || (!r16)) == false)) (gv_some rfl rfl rfl) beq_iff_eq (fun hc25 => ?_) ?_
  · have hq1 : ¬ (((¬ (r7 = true)) ∨ (¬ (r16 = true)))) := (i_neg (i_or (i_not Iff.rfl) (i_not Iff.rfl)) hc25)
    exact q_len SL26 (if_pos hc25) (Tv.len (hp0.bel hB20))
  obtain ⟨hg27, hm⟩ := hm
  refine wl_guard (c := ((!r7) || (!r16)) = false) (val := .int .i64 ((p0.length : Int) - 1)) (b := (((!r7) || (!r16)) == false)) (gv_some rfl rfl rfl) beq_iff_eq (fun hc26 => ?_) ?_
  · have hq1 : ¬ (((¬ (r7 = true)) ∨ (¬ (r16 = true)))) := (i_neg (i_or (i_not Iff.rfl) (i_not Iff.rfl)) hc26)
    exact g_sub (a := (p0.length : Int)) (b := 1) (if_pos hc26) rfl (hg27 hq1)
  obtain ⟨r29, hk30, hm⟩ := hm
  refine wl_guardE (X := Ext) (c := ((!r7) || (!r16)) = false) (val := .bool r29) (Ext.refl _) (b := (((!r7) || (!r16)) == false)) (gv_some rfl rfl rfl) beq_iff_eq (fun hc28 => ?_) (fun w31 hE32 => ?_)
  · have hq1 : ¬ (((¬ (r7 = true)) ∨ (¬ (r16 = true)))) := (i_neg (i_or (i_not Iff.rfl) (i_not Iff.rfl)) hc28)
    exact (g_call (vs := #[.int .i64 p2, .int .i64 0, .int .i64 ((p0.length : Int) - 1)]) CF67 (args3 (if_pos hc28) rfl (if_pos hc28)) ((m_spec_l01In_fn p2 0 ((p0.length : Int) - 1) (hk30 hq1)).mono fun _ _ ⟨_, h1, h2, h3⟩ => ⟨by rw [h2, h1], h3⟩))
  have hB33 := hB20.trans (Ext.stp hE32 hS21.base)
  have hS34 := hS21.ext hE32
  refine wl_guard (c := ((!r7) || (!r16)) = false) (val := .bool (!r29)) (b := (((!r7) || (!r16)) == false)) (gv_some rfl rfl rfl) beq_iff_eq (fun hc35 => ?_) ?_
  · have hq1 : ¬ (((¬ (r7 = true)) ∨ (¬ (r16 = true)))) := (i_neg (i_or (i_not Iff.rfl) (i_not Iff.rfl)) hc35)
    exact g_not (a := r29) (if_pos hc35)
  refine wl_val (g_pick_or (b := ((!r7) || (!r16))) (q := (!r29)) rfl rfl) rfl ?_
  refine wl_nil ?_
  refine hK3 _ _ ?_
  refine w_condI (p := ((((¬ (r7 = true)) ∨ (¬ (r16 = true)))) ∨ (¬ (r29 = true)))) (b := (((!r7) || (!r16)) || (!r29))) rfl (i_or (i_or (i_not Iff.rfl) (i_not Iff.rfl)) (i_not Iff.rfl)) (fun h36 => ?_) (fun h36 => ?_)
  · replace hm := hm.1 h36
    refine w_seq fun K37 hK37 => ?_
    refine w_region ?_
    refine wl_val (g_assign (v := .bool false) rfl) rfl ?_
    refine wl_nil ?_
    refine hK37 _ _ ?_
    refine w_ret ?_
    repeat first | with_reducible refine q_then ?_ | with_reducible refine q_block ?_
    exact ret1 rfl (by decide) ⟨_, hm, rfl, toExt hB33⟩
  · replace hm := hm.2 h36
    refine w_skip ?_
    refine hK2 _ _ ?_
    refine w_seq fun K38 hK38 => ?_
    refine w_region ?_
    refine wl_val (g_move (v := .slice a0 n0 c0) rfl) rfl ?_
    refine wl_step rfl (g_call (vs := #[.slice a0 n0 c0]) CF58 (args1 rfl) (m_spec_l11Waits_fn ((hp0.bel hB33).up hS34) hm)) ?_
    rintro _ w39 ⟨r42, a43, n44, c45, hm, rfl, hE40, hN41⟩
    have hS47 := hS34.call1 hE40 hN41
    have hB48 := hB33.trans (Ext.stp hE40 hS34.base)
    refine wl_val (g_move (v := .int .i64 p1) rfl) rfl ?_
    obtain ⟨hg49, hm⟩ := hm
    refine wl_val (q_index (i := p1) SL24 rfl rfl (oS.vw hS47.g0) hg49) rfl ?_
    refine wl_val (q_load (i := p1) (v := .int .i64 (r42[(Int.toNat p1)]!)) ON3 (oS.vw hS47.g0) hg49 rfl rfl) rfl ?_
    refine wl_val (g_move (v := .int .i64 p2) rfl) rfl ?_
    obtain ⟨hg50, hm⟩ := hm
    refine wl_val (g_shr (a := r42[(Int.toNat p1)]!) (b := p2) rfl rfl hg50) rfl ?_
    obtain ⟨hg51, hm⟩ := hm
    refine wl_val (g_band (a := (sar (r42[(Int.toNat p1)]!) p2)) (b := 1) rfl rfl hg51) rfl ?_
    refine wl_val (g_eql (a := (band (sar (r42[(Int.toNat p1)]!) p2) 1)) (b := 1) rfl rfl) rfl ?_
    refine wl_val (g_assign (v := .bool (decide ((band (sar (r42[(Int.toNat p1)]!) p2) 1) = 1))) rfl) rfl ?_
    refine wl_nil ?_
    refine hK38 _ _ ?_
    refine w_ret ?_
    repeat first | with_reducible refine q_then ?_ | with_reducible refine q_block ?_
    exact ret1 rfl (by decide) ⟨_, hm, rfl, toExt hB48⟩

theorem m_impl_WaitsFor_fn {w : World} {a0 : Option Addr} {n0 c0 : Nat} {y0 : List CueD} {p0 : List CueC} {Q : Bool → Prop} (hp0 : Tv w.heap.size w a0 n0 c0 y0 p0) (p1 : Int) (p2 : Int) (hm : m_impl_WaitsFor p0 p1 p2 Q) :
    Fn Try.prog 31 #[.slice a0 n0 c0, .int .i64 p1, .int .i64 p2] w (fun v w' => ∃ (r0 : Bool), Q r0 ∧ v = .bool r0 ∧ Ext w w') := by
  unfold m_impl_WaitsFor at hm
  have hB0 := Below.refl w.heap.size w
  have hS0 : Sep w w.heap.size [] := Sep.nil (Nat.le_refl _)
  refine fn_of_wp Try.func31 rfl (by kernel_rfl) (Nat.le_of_ble_eq_true rfl) ?_
  refine w_seq fun K1 hK1 => ?_
  refine w_region ?_
  refine wl_val (g_assign (v := .bool false) rfl) rfl ?_
  refine wl_nil ?_
  refine hK1 _ _ ?_
  refine w_seq fun K2 hK2 => ?_
  refine w_region ?_
  refine wl_val (g_move (v := .slice a0 n0 c0) rfl) rfl ?_
  refine wl_step rfl (g_call (vs := #[.slice a0 n0 c0]) CF29 (args1 rfl) (m_impl_CuesOk_fn ((hp0.bel hB0).up hS0) hm)) ?_
  rintro _ w3 ⟨r6, hm, rfl, hE4⟩
  have hB7 := hB0.trans (Ext.stp hE4 hS0.base)
  have hS8 := hS0.ext hE4
  refine wl_val (g_move (v := .bool r6) rfl) rfl ?_
  refine wl_guard (c := r6 = true) (val := .int .i64 p1) (b := (r6 == true)) (gv_some rfl rfl rfl) beq_iff_eq (fun hc9 => ?_) ?_
  · have hq0 : r6 = true := (Iff.rfl.mp hc9)
    exact g_move (v := .int .i64 p1) rfl
  refine wl_guard (c := r6 = true) (val := .slice a0 n0 c0) (b := (r6 == true)) (gv_some rfl rfl rfl) beq_iff_eq (fun hc10 => ?_) ?_
  · have hq0 : r6 = true := (Iff.rfl.mp hc10)
    exact g_move (v := .slice a0 n0 c0) rfl
  refine wl_guard (c := r6 = true) (val := .int .i64 (p0.length : Int)) (b := (r6 == true)) (gv_some rfl rfl rfl) beq_iff_eq (fun hc11 => ?_) ?_
  · have hq0 : r6 = true := (Iff.rfl.mp hc11)
    exact q_len SL26 (if_pos hc11) (Tv.len (hp0.bel hB7))
  obtain ⟨hg13, hm⟩ := hm
  refine wl_guard (c := r6 = true) (val := .int .i64 ((p0.length : Int) - 1)) (b := (r6 == true)) (gv_some rfl rfl rfl) beq_iff_eq (fun hc12 => ?_) ?_
  · have hq0 : r6 = true := (Iff.rfl.mp hc12)
    exact g_sub (a := (p0.length : Int)) (b := 1) (if_pos hc12) rfl (hg13 hq0)
  obtain ⟨r15, hk16, hm⟩ := hm
  refine wl_guardE (X := Ext) (c := r6 = true) (val := .bool r15) (Ext.refl _) (b := (r6 == true)) (gv_some rfl rfl rfl) beq_iff_eq (fun hc14 => ?_) (fun w17 hE18 => ?_)
  · have hq0 : r6 = true := (Iff.rfl.mp hc14)
    exact (g_call (vs := #[.int .i64 p1, .int .i64 0, .int .i64 ((p0.length : Int) - 1)]) CF65 (args3 (if_pos hc14) rfl (if_pos hc14)) ((m_impl_within_fn p1 0 ((p0.length : Int) - 1) (hk16 hq0)).mono fun _ _ ⟨_, h1, h2, h3⟩ => ⟨by rw [h2, h1], h3⟩))
  have hB19 := hB7.trans (Ext.stp hE18 hS8.base)
  have hS20 := hS8.ext hE18
  refine wl_val (g_pick_and (b := r6) (q := r15) rfl rfl) rfl ?_
  refine wl_val (g_move (v := .bool (r6 && r15)) rfl) rfl ?_
  refine wl_guard (c := (r6 && r15) = true) (val := .int .i64 p2) (b := ((r6 && r15) == true)) (gv_some rfl rfl rfl) beq_iff_eq (fun hc21 => ?_) ?_
  · have hq1 : ((r6 = true) ∧ (r15 = true)) := ((i_and Iff.rfl Iff.rfl).mp hc21)
    exact g_move (v := .int .i64 p2) rfl
  refine wl_guard (c := (r6 && r15) = true) (val := .slice a0 n0 c0) (b := ((r6 && r15) == true)) (gv_some rfl rfl rfl) beq_iff_eq (fun hc22 => ?_) ?_
  · have hq1 : ((r6 = true) ∧ (r15 = true)) := ((i_and Iff.rfl Iff.rfl).mp hc22)
    exact g_move (v := .slice a0 n0 c0) rfl
  refine wl_guard (c := (r6 && r15) = true) (val := .int .i64 (p0.length : Int)) (b := ((r6 && r15) == true)) (gv_some rfl rfl rfl) beq_iff_eq (fun hc23 => ?_) ?_
  · have hq1 : ((r6 = true) ∧ (r15 = true)) := ((i_and Iff.rfl Iff.rfl).mp hc23)
    exact q_len SL26 (if_pos hc23) (Tv.len (hp0.bel hB19))
  obtain ⟨hg25, hm⟩ := hm
  refine wl_guard (c := (r6 && r15) = true) (val := .int .i64 ((p0.length : Int) - 1)) (b := ((r6 && r15) == true)) (gv_some rfl rfl rfl) beq_iff_eq (fun hc24 => ?_) ?_
  · have hq1 : ((r6 = true) ∧ (r15 = true)) := ((i_and Iff.rfl Iff.rfl).mp hc24)
    exact g_sub (a := (p0.length : Int)) (b := 1) (if_pos hc24) rfl (hg25 hq1)
  obtain ⟨r27, hk28, hm⟩ := hm
  refine wl_guardE (X := Ext) (c := (r6 && r15) = true) (val := .bool r27) (Ext.refl _) (b := ((r6 && r15) == true)) (gv_some rfl rfl rfl) beq_iff_eq (fun hc26 => ?_) (fun w29 hE30 => ?_)
  · have hq1 : ((r6 = true) ∧ (r15 = true)) := ((i_and Iff.rfl Iff.rfl).mp hc26)
    exact (g_call (vs := #[.int .i64 p2, .int .i64 0, .int .i64 ((p0.length : Int) - 1)]) CF65 (args3 (if_pos hc26) rfl (if_pos hc26)) ((m_impl_within_fn p2 0 ((p0.length : Int) - 1) (hk28 hq1)).mono fun _ _ ⟨_, h1, h2, h3⟩ => ⟨by rw [h2, h1], h3⟩))
  have hB31 := hB19.trans (Ext.stp hE30 hS20.base)
  have hS32 := hS20.ext hE30
  refine wl_val (g_pick_and (b := (r6 && r15)) (q := r27) rfl rfl) rfl ?_
  refine wl_val (g_move (v := .bool ((r6 && r15) && r27)) rfl) rfl ?_
  by_cases hc33 : ((r6 && r15) && r27) = true
  · replace hm := hm.1 ((i_and (i_and Iff.rfl Iff.rfl) Iff.rfl).mp hc33)
    refine wl_valT (g_move (v := .slice a0 n0 c0) rfl) (gv_T (gv_some rfl rfl rfl) hc33) ?_
    refine wl_stepT (gv_T (gv_some rfl rfl rfl) hc33) (g_call (vs := #[.slice a0 n0 c0]) CF60 (args1 rfl) (m_impl_waits_fn ((hp0.bel hB31).up hS32) hm)) ?_
    rintro _ w34 ⟨r37, a38, n39, c40, y41, hm, he42, rfl, hE35, hN36⟩
    have hS46 := hS32.call2 hE35 hN36
    have hB47 := hB31.trans (Ext.stp hE35 hS32.base)
    refine wl_valT (g_move (v := .int .i64 p1) rfl) (gv_T (gv_some rfl rfl rfl) hc33) ?_
    obtain ⟨hg48, hm⟩ := hm
    refine wl_valT (q_index (i := p1) SL54 rfl rfl (Tv.o (oT.vw hS46.g0 hS46.g1 he42)) (Tv.g (oT.vw hS46.g0 hS46.g1 he42) hg48)) (gv_T (gv_some rfl rfl rfl) hc33) ?_
    refine wl_valT (q_load (i := p1) (v := .slice ((y41[(Int.toNat p1)]!).1) ((y41[(Int.toNat p1)]!).2.2.length) ((y41[(Int.toNat p1)]!).2.1)) ON56 (Tv.o (oT.vw hS46.g0 hS46.g1 he42)) (Tv.g (oT.vw hS46.g0 hS46.g1 he42) hg48) rfl rfl) (gv_T (gv_some rfl rfl rfl) hc33) ?_
    refine wl_valT (g_move (v := .int .i64 p2) rfl) (gv_T (gv_some rfl rfl rfl) hc33) ?_
    obtain ⟨hg49, hm⟩ := hm
    refine wl_valT (q_index (i := p2) SL56 rfl rfl (Tv.row (oT.vw hS46.g0 hS46.g1 he42) hg48) hg49) (gv_T (gv_some rfl rfl rfl) hc33) ?_
    refine wl_valT (q_load (i := p2) (v := .bool ((r37[(Int.toNat p1)]!)[(Int.toNat p2)]!)) ON4 (Tv.row (oT.vw hS46.g0 hS46.g1 he42) hg48) hg49 rfl rfl) (gv_T (gv_some rfl rfl rfl) hc33) ?_
    refine wl_val (g_pickT (b := ((r6 && r15) && r27)) rfl hc33 rfl) rfl ?_
    refine wl_val (g_assign (v := .bool ((r37[(Int.toNat p1)]!)[(Int.toNat p2)]!)) rfl) rfl ?_
    refine wl_nil ?_
    refine hK2 _ _ ?_
    refine w_ret ?_
    repeat first | with_reducible refine q_then ?_ | with_reducible refine q_block ?_
    exact ret1 rfl (by decide) ⟨_, hm, rfl, toExt hB47⟩
  · have hc33n := b_F hc33
    replace hm := hm.2 (i_neg (i_and (i_and Iff.rfl Iff.rfl) Iff.rfl) hc33n)
    refine wl_skipF (gv_F (gv_some rfl rfl rfl) hc33n) ?_
    refine wl_skipF (gv_F (gv_some rfl rfl rfl) hc33n) ?_
    refine wl_skipF (gv_F (gv_some rfl rfl rfl) hc33n) ?_
    refine wl_skipF (gv_F (gv_some rfl rfl rfl) hc33n) ?_
    refine wl_skipF (gv_F (gv_some rfl rfl rfl) hc33n) ?_
    refine wl_skipF (gv_F (gv_some rfl rfl rfl) hc33n) ?_
    refine wl_skipF (gv_F (gv_some rfl rfl rfl) hc33n) ?_
    refine wl_skipF (gv_F (gv_some rfl rfl rfl) hc33n) ?_
    refine wl_val (g_pickF (b := ((r6 && r15) && r27)) rfl hc33n rfl) rfl ?_
    refine wl_val (g_assign (v := .bool false) rfl) rfl ?_
    refine wl_nil ?_
    refine hK2 _ _ ?_
    refine w_ret ?_
    repeat first | with_reducible refine q_then ?_ | with_reducible refine q_block ?_
    exact ret1 rfl (by decide) ⟨_, hm, rfl, toExt hB31⟩

theorem m_spec_CountOrders_fn {w : World} {a0 : Option Addr} {n0 c0 : Nat} {y0 : List CueD} {p0 : List CueC} {Q : Int → Prop} (hp0 : Tv w.heap.size w a0 n0 c0 y0 p0) (hm : m_spec_CountOrders p0 Q) :
    Fn Try.prog 37 #[.slice a0 n0 c0] w (fun v w' => ∃ (r0 : Int), Q r0 ∧ v = .int .i64 r0 ∧ Ext w w') := by
  unfold m_spec_CountOrders at hm
  have hB0 := Below.refl w.heap.size w
  have hS0 : Sep w w.heap.size [] := Sep.nil (Nat.le_refl _)
  refine fn_of_wp Try.func37 rfl (by kernel_rfl) (Nat.le_of_ble_eq_true rfl) ?_
  refine w_seq fun K1 hK1 => ?_
  refine w_region ?_
  refine wl_val (g_assign (v := .int .i64 0) rfl) rfl ?_
  refine wl_nil ?_
  refine hK1 _ _ ?_
  refine w_seq fun K2 hK2 => ?_
  refine w_region ?_
  refine wl_val (g_move (v := .slice a0 n0 c0) rfl) rfl ?_
  refine wl_val (q_len SL26 rfl (Tv.len (hp0.bel hB0))) rfl ?_
  refine wl_val (g_assign (v := .int .i64 (p0.length : Int)) rfl) rfl ?_
  refine wl_nil ?_
  refine hK2 _ _ ?_
  refine w_seq fun K3 hK3 => ?_
  refine w_seq fun K4 hK4 => ?_
  refine w_region ?_
  refine wl_val (g_move (v := .slice a0 n0 c0) rfl) rfl ?_
  refine wl_step rfl (g_call (vs := #[.slice a0 n0 c0]) CF35 (args1 rfl) (m_spec_CuesOk_fn ((hp0.bel hB0).up hS0) hm)) ?_
  rintro _ w5 ⟨r8, hm, rfl, hE6⟩
  have hB9 := hB0.trans (Ext.stp hE6 hS0.base)
  have hS10 := hS0.ext hE6
  refine wl_val (g_not (a := r8) rfl) rfl ?_
  refine wl_val (g_move (v := .bool (!r8)) rfl) rfl ?_
  refine wl_guard (c := (!r8) = false) (val := .int .i64 (p0.length : Int)) (b := ((!r8) == false)) (gv_some rfl rfl rfl) beq_iff_eq (fun hc11 => ?_) ?_
  · have hq0 : ¬ (¬ (r8 = true)) := (i_neg (i_not Iff.rfl) hc11)
    exact g_move (v := .int .i64 (p0.length : Int)) rfl
  refine wl_guard (c := (!r8) = false) (val := .bool (decide ((p0.length : Int) > 10))) (b := ((!r8) == false)) (gv_some rfl rfl rfl) beq_iff_eq (fun hc12 => ?_) ?_
  · have hq0 : ¬ (¬ (r8 = true)) := (i_neg (i_not Iff.rfl) hc12)
    exact g_gtr (a := (p0.length : Int)) (b := 10) (if_pos hc12) rfl
  refine wl_val (g_pick_or (b := (!r8)) (q := (decide ((p0.length : Int) > 10))) rfl rfl) rfl ?_
  refine wl_nil ?_
  refine hK4 _ _ ?_
  refine w_condI (p := ((¬ (r8 = true)) ∨ ((p0.length : Int) > 10))) (b := ((!r8) || (decide ((p0.length : Int) > 10)))) rfl (i_or (i_not Iff.rfl) decide_eq_true_iff) (fun h13 => ?_) (fun h13 => ?_)
  · replace hm := hm.1 h13
    refine w_seq fun K14 hK14 => ?_
    refine w_region ?_
    refine wl_val (g_assign (v := .int .i64 (-1)) rfl) rfl ?_
    refine wl_nil ?_
    refine hK14 _ _ ?_
    refine w_ret ?_
    repeat first | with_reducible refine q_then ?_ | with_reducible refine q_block ?_
    exact ret1 rfl (by decide) ⟨_, hm, rfl, toExt hB9⟩
  · replace hm := hm.2 h13
    refine w_skip ?_
    refine hK3 _ _ ?_
    refine w_seq fun K15 hK15 => ?_
    refine w_region ?_
    refine wl_val (g_move (v := .slice a0 n0 c0) rfl) rfl ?_
    refine wl_step rfl (g_call (vs := #[.slice a0 n0 c0]) CF58 (args1 rfl) (m_spec_l11Waits_fn ((hp0.bel hB9).up hS10) hm)) ?_
    rintro _ w16 ⟨r19, a20, n21, c22, hm, rfl, hE17, hN18⟩
    have hS24 := hS10.call1 hE17 hN18
    have hB25 := hB9.trans (Ext.stp hE17 hS10.base)
    refine wl_val (g_assign (v := .slice a20 n21 c22) rfl) rfl ?_
    refine wl_nil ?_
    refine hK15 _ _ ?_
    refine w_seq fun K26 hK26 => ?_
    refine w_region ?_
    refine wl_val (g_move (v := .int .i64 (p0.length : Int)) rfl) rfl ?_
    obtain ⟨hg27, hm⟩ := hm
    obtain ⟨hg28, hm⟩ := hm
    refine wl_val (g_shl (a := 1) (b := (p0.length : Int)) rfl rfl hg27 hg28) rfl ?_
    obtain ⟨hg29, hm⟩ := hm
    refine wl_step rfl (q_make (y := (0 : Int)) SL24 rfl rfl hg29.1 hg29.2 (by decide) hS24) ?_
    rintro _ w30 ⟨a31, rfl, hS33, hE32⟩
    have hB35 := hB25.trans (Ext.stp hE32 hS24.base)
    refine wl_val (g_assign (v := .slice a31 (Int.toNat (sal 1 (p0.length : Int))) (Int.toNat (sal 1 (p0.length : Int)))) rfl) rfl ?_
    refine wl_nil ?_
    refine hK26 _ _ ?_
    refine w_seq fun K36 hK36 => ?_
    refine w_region ?_
    refine wl_val (g_move (v := .slice a31 (Int.toNat (sal 1 (p0.length : Int))) (Int.toNat (sal 1 (p0.length : Int)))) rfl) rfl ?_
    obtain ⟨hg37, hm⟩ := hm
    refine wl_val (q_index (i := 0) SL24 rfl rfl (oS.vw hS33.g0) hg37) rfl ?_
    refine wl_step rfl (q_store (i := 0) (v := (1 : Int)) hS33 ON3.sz hg37 rfl rfl rfl) ?_
    rintro _ w38 ⟨rfl, hS39, hb40⟩
    have hB41 := hB35.trans hb40
    refine wl_nil ?_
    refine hK36 _ _ ?_
    refine w_cut (σ := List Int) (fun x603 => [(3, .int .i64 (p0.length : Int)), (5, .slice a31 (Int.toNat (sal 1 (p0.length : Int))) (Int.toNat (sal 1 (p0.length : Int))))]) (fun x603 w' => m_spec_CountOrders_K1 p0 Q x603 ∧ Below w.heap.size w w' ∧ Sep w' w.heap.size [oS 3 a31 (Int.toNat (sal 1 (p0.length : Int))) (Int.toNat (sal 1 (p0.length : Int))) (x603 : List Int)]) ?_ ?_
    · refine w_seq fun K605 hK605 => ?_
      refine w_region ?_
      refine wl_val (g_assign (v := .int .i64 0) rfl) rfl ?_
      refine wl_nil ?_
      refine hK605 _ _ ?_
      refine w_block ?_
      have hS608 := hS39.f1
      obtain ⟨I609, μ610, h0611, hr612⟩ := hm
      refine w_for (σ := List Int × Int) (fun ⟨x606, v607⟩ => [(3, .int .i64 (p0.length : Int)), (4, .slice a20 n21 c22), (5, .slice a31 (Int.toNat (sal 1 (p0.length : Int))) (Int.toNat (sal 1 (p0.length : Int)))), (6, .int .i64 v607)]) (fun ⟨x606, v607⟩ w' => I609 x606 v607 ∧ Below w.heap.size w w' ∧ Sep w' w.heap.size [oS 3 a20 n21 c22 (r19 : List Int), oS 3 a31 (Int.toNat (sal 1 (p0.length : Int))) (Int.toNat (sal 1 (p0.length : Int))) (x606 : List Int)]) (fun ⟨x606, v607⟩ => μ610 x606 v607) (((List.replicate (Int.toNat (sal 1 (p0.length : Int))) (0 : Int)).set 0 1), 0) ⟨rfl, rfl, rfl, rfl, trivial⟩ ⟨h0611, hB41, hS608⟩ ?_
      rintro ⟨x606, v607⟩ b_ w613 ⟨hi_, hB614, hS615⟩
      show Wp _ _ _ _ (upds b_ [(3, .int .i64 (p0.length : Int)), (4, .slice a20 n21 c22), (5, .slice a31 (Int.toNat (sal 1 (p0.length : Int))) (Int.toNat (sal 1 (p0.length : Int)))), (6, .int .i64 v607)]) w613
      have hm := hr612 x606 v607 hi_
      refine w_seq fun K617 hK617 => ?_
      refine w_seq fun K618 hK618 => ?_
      refine w_region ?_
      refine wl_val (g_move (v := .int .i64 v607) rfl) rfl ?_
      refine wl_val (g_move (v := .int .i64 (p0.length : Int)) rfl) rfl ?_
      obtain ⟨hg619, hm⟩ := hm
      obtain ⟨hg620, hm⟩ := hm
      refine wl_val (g_shl (a := 1) (b := (p0.length : Int)) rfl rfl hg619 hg620) rfl ?_
      refine wl_val (g_lss (a := v607) (b := (sal 1 (p0.length : Int))) rfl rfl) rfl ?_
      refine wl_nil ?_
      refine hK618 _ _ ?_
      refine w_condI (p := v607 < (sal 1 (p0.length : Int))) (b := (decide (v607 < (sal 1 (p0.length : Int))))) rfl decide_eq_true_iff (fun h621 => ?_) (fun h621 => ?_)
      · replace hm := hm.1 h621
        refine w_skip ?_
        refine hK617 _ _ ?_
        refine w_cut (σ := List Int) (fun x622 => [(3, .int .i64 (p0.length : Int)), (4, .slice a20 n21 c22), (5, .slice a31 (Int.toNat (sal 1 (p0.length : Int))) (Int.toNat (sal 1 (p0.length : Int)))), (6, .int .i64 v607)]) (fun x622 w' => m_spec_CountOrders_K0 v607 (fun x606' v607' => I609 x606' v607' ∧ μ610 x606' v607' < μ610 x606 v607) x622 ∧ Below w.heap.size w w' ∧ Sep w' w.heap.size [oS 3 a20 n21 c22 (r19 : List Int), oS 3 a31 (Int.toNat (sal 1 (p0.length : Int))) (Int.toNat (sal 1 (p0.length : Int))) (x622 : List Int)]) ?_ ?_
        · refine w_block ?_
          refine w_seq fun K624 hK624 => ?_
          refine w_region ?_
          refine wl_val (g_assign (v := .int .i64 0) rfl) rfl ?_
          refine wl_nil ?_
          refine hK624 _ _ ?_
          refine w_block ?_
          obtain ⟨I627, μ628, h0629, hr630⟩ := hm
          refine w_for (σ := List Int × Int) (fun ⟨x625, v626⟩ => [(3, .int .i64 (p0.length : Int)), (4, .slice a20 n21 c22), (5, .slice a31 (Int.toNat (sal 1 (p0.length : Int))) (Int.toNat (sal 1 (p0.length : Int)))), (6, .int .i64 v607), (7, .int .i64 v626)]) (fun ⟨x625, v626⟩ w' => I627 x625 v626 ∧ Below w.heap.size w w' ∧ Sep w' w.heap.size [oS 3 a20 n21 c22 (r19 : List Int), oS 3 a31 (Int.toNat (sal 1 (p0.length : Int))) (Int.toNat (sal 1 (p0.length : Int))) (x625 : List Int)]) (fun ⟨x625, v626⟩ => μ628 x625 v626) (x606, 0) ⟨rfl, rfl, rfl, rfl, rfl, trivial⟩ ⟨h0629, hB614, hS615⟩ ?_
          rintro ⟨x625, v626⟩ b_ w631 ⟨hi_, hB632, hS633⟩
          show Wp _ _ _ _ (upds b_ [(3, .int .i64 (p0.length : Int)), (4, .slice a20 n21 c22), (5, .slice a31 (Int.toNat (sal 1 (p0.length : Int))) (Int.toNat (sal 1 (p0.length : Int)))), (6, .int .i64 v607), (7, .int .i64 v626)]) w631
          have hm := hr630 x625 v626 hi_
          refine w_seq fun K635 hK635 => ?_
          refine w_seq fun K636 hK636 => ?_
          refine w_region ?_
          refine wl_val (g_move (v := .int .i64 v626) rfl) rfl ?_
          refine wl_val (g_move (v := .int .i64 (p0.length : Int)) rfl) rfl ?_
          refine wl_val (g_lss (a := v626) (b := (p0.length : Int)) rfl rfl) rfl ?_
          refine wl_nil ?_
          refine hK636 _ _ ?_
          refine w_condI (p := v626 < (p0.length : Int)) (b := (decide (v626 < (p0.length : Int)))) rfl decide_eq_true_iff (fun h637 => ?_) (fun h637 => ?_)
          · replace hm := hm.1 h637
            refine w_skip ?_
            refine hK635 _ _ ?_
            refine w_seq fun K638 hK638 => ?_
            refine w_block ?_
            refine w_seq fun K639 hK639 => ?_
            refine w_region ?_
            refine wl_val (g_move (v := .int .i64 v607) rfl) rfl ?_
            refine wl_val (g_move (v := .int .i64 v626) rfl) rfl ?_
            obtain ⟨hg640, hm⟩ := hm
            refine wl_val (g_shr (a := v607) (b := v626) rfl rfl hg640) rfl ?_
            obtain ⟨hg641, hm⟩ := hm
            refine wl_val (g_band (a := (sar v607 v626)) (b := 1) rfl rfl hg641) rfl ?_
            refine wl_val (g_eql (a := (band (sar v607 v626) 1)) (b := 0) rfl rfl) rfl ?_
            refine wl_val (g_move (v := .bool (decide ((band (sar v607 v626) 1) = 0))) rfl) rfl ?_
            refine wl_guard (c := (decide ((band (sar v607 v626) 1) = 0)) = true) (val := .slice a20 n21 c22) (b := ((decide ((band (sar v607 v626) 1) = 0)) == true)) (gv_some rfl rfl rfl) beq_iff_eq (fun hc642 => ?_) ?_
            · have hq5 : (band (sar v607 v626) 1) = 0 := (decide_eq_true_iff.mp hc642)
              exact g_move (v := .slice a20 n21 c22) rfl
            refine wl_guard (c := (decide ((band (sar v607 v626) 1) = 0)) = true) (val := .int .i64 v626) (b := ((decide ((band (sar v607 v626) 1) = 0)) == true)) (gv_some rfl rfl rfl) beq_iff_eq (fun hc643 => ?_) ?_
            · have hq5 : (band (sar v607 v626) 1) = 0 := (decide_eq_true_iff.mp hc643)
              exact g_move (v := .int .i64 v626) rfl
            obtain ⟨hg645, hm⟩ := hm
            refine wl_guard (c := (decide ((band (sar v607 v626) 1) = 0)) = true) (val := .pointer (some ((adr a20).add ((Int.toNat v626) * El.m Int)))) (b := ((decide ((band (sar v607 v626) 1) = 0)) == true)) (gv_some rfl rfl rfl) beq_iff_eq (fun hc644 => ?_) ?_
            · have hq5 : (band (sar v607 v626) 1) = 0 := (decide_eq_true_iff.mp hc644)
              exact q_index (i := v626) SL24 (if_pos hc644) (if_pos hc644) (oS.vw hS633.g0) (hg645 hq5)
            refine wl_guard (c := (decide ((band (sar v607 v626) 1) = 0)) = true) (val := .int .i64 (r19[(Int.toNat v626)]!)) (b := ((decide ((band (sar v607 v626) 1) = 0)) == true)) (gv_some rfl rfl rfl) beq_iff_eq (fun hc646 => ?_) ?_
            · have hq5 : (band (sar v607 v626) 1) = 0 := (decide_eq_true_iff.mp hc646)
              exact q_load (i := v626) (v := .int .i64 (r19[(Int.toNat v626)]!)) ON3 (oS.vw hS633.g0) (hg645 hq5) rfl (if_pos hc646)
            refine wl_guard (c := (decide ((band (sar v607 v626) 1) = 0)) = true) (val := .int .i64 v607) (b := ((decide ((band (sar v607 v626) 1) = 0)) == true)) (gv_some rfl rfl rfl) beq_iff_eq (fun hc647 => ?_) ?_
            · have hq5 : (band (sar v607 v626) 1) = 0 := (decide_eq_true_iff.mp hc647)
              exact g_move (v := .int .i64 v607) rfl
            obtain ⟨hg649, hm⟩ := hm
            refine wl_guard (c := (decide ((band (sar v607 v626) 1) = 0)) = true) (val := .int .i64 (bor (r19[(Int.toNat v626)]!) v607)) (b := ((decide ((band (sar v607 v626) 1) = 0)) == true)) (gv_some rfl rfl rfl) beq_iff_eq (fun hc648 => ?_) ?_
            · have hq5 : (band (sar v607 v626) 1) = 0 := (decide_eq_true_iff.mp hc648)
              exact g_bor (a := r19[(Int.toNat v626)]!) (b := v607) (if_pos hc648) (if_pos hc648) (hg649 hq5)
            refine wl_guard (c := (decide ((band (sar v607 v626) 1) = 0)) = true) (val := .int .i64 v607) (b := ((decide ((band (sar v607 v626) 1) = 0)) == true)) (gv_some rfl rfl rfl) beq_iff_eq (fun hc650 => ?_) ?_
            · have hq5 : (band (sar v607 v626) 1) = 0 := (decide_eq_true_iff.mp hc650)
              exact g_move (v := .int .i64 v607) rfl
            refine wl_guard (c := (decide ((band (sar v607 v626) 1) = 0)) = true) (val := .bool (decide ((bor (r19[(Int.toNat v626)]!) v607) = v607))) (b := ((decide ((band (sar v607 v626) 1) = 0)) == true)) (gv_some rfl rfl rfl) beq_iff_eq (fun hc651 => ?_) ?_
            · have hq5 : (band (sar v607 v626) 1) = 0 := (decide_eq_true_iff.mp hc651)
              exact g_eql (a := (bor (r19[(Int.toNat v626)]!) v607)) (b := v607) (if_pos hc651) (if_pos hc651)
            refine wl_val (g_pick_and (b := (decide ((band (sar v607 v626) 1) = 0))) (q := (decide ((bor (r19[(Int.toNat v626)]!) v607) = v607))) rfl rfl) rfl ?_
            refine wl_nil ?_
            refine hK639 _ _ ?_
            refine w_condI (p := (((band (sar v607 v626) 1) = 0) ∧ ((bor (r19[(Int.toNat v626)]!) v607) = v607))) (b := ((decide ((band (sar v607 v626) 1) = 0)) && (decide ((bor (r19[(Int.toNat v626)]!) v607) = v607)))) rfl (i_and decide_eq_true_iff decide_eq_true_iff) (fun h652 => ?_) (fun h652 => ?_)
            · replace hm := hm.1 h652
              refine w_draw (X := Ext) (Y := Ext) [0, 0, 0, 0, 0, 0, 0, 0, 0, 0, 0, 0, 0, 0, 0, 0, 0, 0, 1] MIX (by decide +kernel) rfl Ext.refl (fun _ _ _ => Ext.trans) (fun _ _ _ => Chg.trans) (fun _ _ h => Ext.chg h _) (fun w653 hE654 => ?_)
              have hB655 := hB632.trans (Ext.stp hE654 hS633.base)
              have hS656 := hS633.ext hE654
              refine ⟨.slice a31 (Int.toNat (sal 1 (p0.length : Int))) (Int.toNat (sal 1 (p0.length : Int))), fun w657 hX658 => od_plain rfl (by have hS659 := hS656.ext hX658; have hB660 := hB655.trans (Ext.stp hX658 hS656.base); exact is_ext (g_move (v := .slice a31 (Int.toNat (sal 1 (p0.length : Int))) (Int.toNat (sal 1 (p0.length : Int)))) rfl)), ?_⟩
              refine ⟨.int .i64 v607, fun w661 hX662 => od_plain rfl (by have hS663 := hS656.ext hX662; have hB664 := hB655.trans (Ext.stp hX662 hS656.base); exact is_ext (g_move (v := .int .i64 v607) rfl)), ?_⟩
              refine ⟨.int .i64 v626, fun w665 hX666 => od_plain rfl (by have hS667 := hS656.ext hX666; have hB668 := hB655.trans (Ext.stp hX666 hS656.base); exact is_ext (g_move (v := .int .i64 v626) rfl)), ?_⟩
              obtain ⟨hg673, hm⟩ := hm
              obtain ⟨hg674, hm⟩ := hm
              refine ⟨.int .i64 (sal 1 v626), fun w669 hX670 => od_plain rfl (by have hS671 := hS656.ext hX670; have hB672 := hB655.trans (Ext.stp hX670 hS656.base); exact is_ext (g_shl (a := 1) (b := v626) rfl rfl hg673 hg674)), ?_⟩
              obtain ⟨hg679, hm⟩ := hm
              refine ⟨.int .i64 (bor v607 (sal 1 v626)), fun w675 hX676 => od_plain rfl (by have hS677 := hS656.ext hX676; have hB678 := hB655.trans (Ext.stp hX676 hS656.base); exact is_ext (g_bor (a := v607) (b := (sal 1 v626)) rfl rfl hg679)), ?_⟩
              refine ⟨.slice a31 (Int.toNat (sal 1 (p0.length : Int))) (Int.toNat (sal 1 (p0.length : Int))), fun w680 hX681 => od_plain rfl (by have hS682 := hS656.ext hX681; have hB683 := hB655.trans (Ext.stp hX681 hS656.base); exact is_ext (g_move (v := .slice a31 (Int.toNat (sal 1 (p0.length : Int))) (Int.toNat (sal 1 (p0.length : Int)))) rfl)), ?_⟩
              refine ⟨.int .i64 v607, fun w684 hX685 => od_plain rfl (by have hS686 := hS656.ext hX685; have hB687 := hB655.trans (Ext.stp hX685 hS656.base); exact is_ext (g_move (v := .int .i64 v607) rfl)), ?_⟩
              refine ⟨.int .i64 v626, fun w688 hX689 => od_plain rfl (by have hS690 := hS656.ext hX689; have hB691 := hB655.trans (Ext.stp hX689 hS656.base); exact is_ext (g_move (v := .int .i64 v626) rfl)), ?_⟩
              obtain ⟨hg696, hm⟩ := hm
              obtain ⟨hg697, hm⟩ := hm
              refine ⟨.int .i64 (sal 1 v626), fun w692 hX693 => od_plain rfl (by have hS694 := hS656.ext hX693; have hB695 := hB655.trans (Ext.stp hX693 hS656.base); exact is_ext (g_shl (a := 1) (b := v626) rfl rfl hg696 hg697)), ?_⟩
              obtain ⟨hg702, hm⟩ := hm
              refine ⟨.int .i64 (bor v607 (sal 1 v626)), fun w698 hX699 => od_plain rfl (by have hS700 := hS656.ext hX699; have hB701 := hB655.trans (Ext.stp hX699 hS656.base); exact is_ext (g_bor (a := v607) (b := (sal 1 v626)) rfl rfl hg702)), ?_⟩
              obtain ⟨hg707, hm⟩ := hm
              refine ⟨.pointer (some ((adr a31).add ((Int.toNat (bor v607 (sal 1 v626))) * El.m Int))), fun w703 hX704 => od_plain rfl (by have hS705 := hS656.ext hX704; have hB706 := hB655.trans (Ext.stp hX704 hS656.base); exact is_ext (q_index (i := (bor v607 (sal 1 v626))) SL24 rfl rfl (oS.vw hS705.g1) hg707)), ?_⟩
              refine ⟨.int .i64 (x625[(Int.toNat (bor v607 (sal 1 v626)))]!), fun w708 hX709 => od_plain rfl (by have hS710 := hS656.ext hX709; have hB711 := hB655.trans (Ext.stp hX709 hS656.base); exact is_ext (q_load (i := (bor v607 (sal 1 v626))) (v := .int .i64 (x625[(Int.toNat (bor v607 (sal 1 v626)))]!)) ON3 (oS.vw hS710.g1) hg707 rfl rfl)), ?_⟩
              refine ⟨.slice a31 (Int.toNat (sal 1 (p0.length : Int))) (Int.toNat (sal 1 (p0.length : Int))), fun w712 hX713 => od_plain rfl (by have hS714 := hS656.ext hX713; have hB715 := hB655.trans (Ext.stp hX713 hS656.base); exact is_ext (g_move (v := .slice a31 (Int.toNat (sal 1 (p0.length : Int))) (Int.toNat (sal 1 (p0.length : Int)))) rfl)), ?_⟩
              refine ⟨.int .i64 v607, fun w716 hX717 => od_plain rfl (by have hS718 := hS656.ext hX717; have hB719 := hB655.trans (Ext.stp hX717 hS656.base); exact is_ext (g_move (v := .int .i64 v607) rfl)), ?_⟩
              obtain ⟨hg724, hm⟩ := hm
              refine ⟨.pointer (some ((adr a31).add ((Int.toNat v607) * El.m Int))), fun w720 hX721 => od_plain rfl (by have hS722 := hS656.ext hX721; have hB723 := hB655.trans (Ext.stp hX721 hS656.base); exact is_ext (q_index (i := v607) SL24 rfl rfl (oS.vw hS722.g1) hg724)), ?_⟩
              refine ⟨.int .i64 (x625[(Int.toNat v607)]!), fun w725 hX726 => od_plain rfl (by have hS727 := hS656.ext hX726; have hB728 := hB655.trans (Ext.stp hX726 hS656.base); exact is_ext (q_load (i := v607) (v := .int .i64 (x625[(Int.toNat v607)]!)) ON3 (oS.vw hS727.g1) hg724 rfl rfl)), ?_⟩
              obtain ⟨hg733, hm⟩ := hm
              refine ⟨.int .i64 (x625[(Int.toNat (bor v607 (sal 1 v626)))]! + x625[(Int.toNat v607)]!), fun w729 hX730 => od_plain rfl (by have hS731 := hS656.ext hX730; have hB732 := hB655.trans (Ext.stp hX730 hS656.base); exact is_ext (g_add (a := x625[(Int.toNat (bor v607 (sal 1 v626)))]!) (b := x625[(Int.toNat v607)]!) rfl rfl hg733)), ?_⟩
              obtain ⟨hg738, hm⟩ := hm
              refine ⟨.pointer (some ((adr a31).add ((Int.toNat (bor v607 (sal 1 v626))) * El.m Int))), fun w734 hX735 => od_plain rfl (by have hS736 := hS656.ext hX735; have hB737 := hB655.trans (Ext.stp hX735 hS656.base); exact is_ext (q_index (i := (bor v607 (sal 1 v626))) SL24 rfl rfl (oS.vw hS736.g1) hg738)), ?_⟩
              intro w739 hX740
              have hB741 := hB655.trans (Ext.stp hX740 hS656.base)
              have hS742 := hS656.ext hX740
              have hS746 := hS742.f1
              refine ⟨_, od_plain rfl (q_store (i := (bor v607 (sal 1 v626))) (v := ((x625[(Int.toNat (bor v607 (sal 1 v626)))]! + x625[(Int.toNat v607)]!) : Int)) hS746 ON3.sz hg738 rfl rfl rfl), ?_⟩
              rintro _ w743 ⟨rfl, hS744, hb745⟩
              have hB747 := hB741.trans hb745
              intro w748 hX749
              have hB750 := hB747.trans (Ext.stp hX749 hS744.base)
              have hS751 := hS744.ext hX749
              refine hK638 _ _ ?_
              refine w_region ?_
              refine wl_val (g_move (v := .int .i64 v626) rfl) rfl ?_
              obtain ⟨hg752, hm⟩ := hm
              refine wl_val (g_add (a := v626) (b := 1) rfl rfl hg752) rfl ?_
              refine wl_val (g_assign (v := .int .i64 (v626 + 1)) rfl) rfl ?_
              refine wl_nil ?_
              have hS753 := hS751.f1
              exact ⟨((x625.set (Int.toNat (bor v607 (sal 1 v626))) (x625[(Int.toNat (bor v607 (sal 1 v626)))]! + x625[(Int.toNat v607)]!)), (v626 + 1)), hm.2, ⟨rfl, rfl, rfl, rfl, rfl, trivial⟩, ⟨hm.1, hB750, hS753⟩⟩
            · replace hm := hm.2 h652
              refine w_skip ?_
              refine hK638 _ _ ?_
              refine w_region ?_
              refine wl_val (g_move (v := .int .i64 v626) rfl) rfl ?_
              obtain ⟨hg754, hm⟩ := hm
              refine wl_val (g_add (a := v626) (b := 1) rfl rfl hg754) rfl ?_
              refine wl_val (g_assign (v := .int .i64 (v626 + 1)) rfl) rfl ?_
              refine wl_nil ?_
              exact ⟨(x625, (v626 + 1)), hm.2, ⟨rfl, rfl, rfl, rfl, rfl, trivial⟩, ⟨hm.1, hB632, hS633⟩⟩
          · replace hm := hm.2 h637
            refine w_exit ?_
            exact ⟨(x625), ⟨rfl, rfl, rfl, rfl, trivial⟩, ⟨hm, hB632, hS633⟩⟩
        · rintro x622 b_ w755 ⟨hm, hB756, hS757⟩
          show Wp _ _ _ _ (upds b_ [(3, .int .i64 (p0.length : Int)), (4, .slice a20 n21 c22), (5, .slice a31 (Int.toNat (sal 1 (p0.length : Int))) (Int.toNat (sal 1 (p0.length : Int)))), (6, .int .i64 v607)]) w755
          refine w_region ?_
          refine wl_val (g_move (v := .int .i64 v607) rfl) rfl ?_
          obtain ⟨hg758, hm⟩ := hm
          refine wl_val (g_add (a := v607) (b := 1) rfl rfl hg758) rfl ?_
          refine wl_val (g_assign (v := .int .i64 (v607 + 1)) rfl) rfl ?_
          refine wl_nil ?_
          exact ⟨(x622, (v607 + 1)), hm.2, ⟨rfl, rfl, rfl, rfl, trivial⟩, ⟨hm.1, hB756, hS757⟩⟩
      · replace hm := hm.2 h621
        refine w_exit ?_
        have hS759 := hS615.tail
        exact ⟨(x606), ⟨rfl, rfl, trivial⟩, ⟨hm, hB614, hS759⟩⟩
    · rintro x603 b_ w760 ⟨hm, hB761, hS762⟩
      show Wp _ _ _ _ (upds b_ [(3, .int .i64 (p0.length : Int)), (5, .slice a31 (Int.toNat (sal 1 (p0.length : Int))) (Int.toNat (sal 1 (p0.length : Int))))]) w760
      refine w_seq fun K763 hK763 => ?_
      refine w_region ?_
      refine wl_val (g_move (v := .slice a31 (Int.toNat (sal 1 (p0.length : Int))) (Int.toNat (sal 1 (p0.length : Int)))) rfl) rfl ?_
      refine wl_val (g_move (v := .int .i64 (p0.length : Int)) rfl) rfl ?_
      obtain ⟨hg764, hm⟩ := hm
      obtain ⟨hg765, hm⟩ := hm
      refine wl_val (g_shl (a := 1) (b := (p0.length : Int)) rfl rfl hg764 hg765) rfl ?_
      obtain ⟨hg766, hm⟩ := hm
      refine wl_val (g_sub (a := (sal 1 (p0.length : Int))) (b := 1) rfl rfl hg766) rfl ?_
      obtain ⟨hg767, hm⟩ := hm
      refine wl_val (q_index (i := ((sal 1 (p0.length : Int)) - 1)) SL24 rfl rfl (oS.vw hS762.g0) hg767) rfl ?_
      refine wl_val (q_load (i := ((sal 1 (p0.length : Int)) - 1)) (v := .int .i64 (x603[(Int.toNat ((sal 1 (p0.length : Int)) - 1))]!)) ON3 (oS.vw hS762.g0) hg767 rfl rfl) rfl ?_
      refine wl_val (g_assign (v := .int .i64 (x603[(Int.toNat ((sal 1 (p0.length : Int)) - 1))]!)) rfl) rfl ?_
      refine wl_nil ?_
      refine hK763 _ _ ?_
      refine w_ret ?_
      repeat first | with_reducible refine q_then ?_ | with_reducible refine q_block ?_
      exact ret1 rfl (by decide) ⟨_, hm, rfl, toExt hB761⟩

theorem m_impl_isNext_fn {w : World} {a0_1 : Option Addr} {n0_1 c0_1 : Nat} {a0_2 : Option Addr} {n0_2 c0_2 : Nat} {Q : Bool → Prop} (p0 : CueC) (hp0_1 : Vw w.heap.size w a0_1 n0_1 c0_1 p0.2.1) (hp0_2 : Vw w.heap.size w a0_2 n0_2 c0_2 p0.2.2) (p1 : Int) (p2 : Int) (hm : m_impl_isNext p0 p1 p2 Q) :
    Fn Try.prog 64 #[.agg #[.int .i64 p0.1, .slice a0_1 n0_1 c0_1, .slice a0_2 n0_2 c0_2], .int .i64 p1, .int .i64 p2] w (fun v w' => ∃ (r0 : Bool), Q r0 ∧ v = .bool r0 ∧ Ext w w') := by
  unfold m_impl_isNext at hm
  have hB0 := Below.refl w.heap.size w
  have hS0 : Sep w w.heap.size [] := Sep.nil (Nat.le_refl _)
  refine fn_of_wp Try.func64 rfl (by kernel_rfl) (Nat.le_of_ble_eq_true rfl) ?_
  refine w_seq fun K1 hK1 => ?_
  refine w_region ?_
  refine wl_step rfl (q_box (cs := #[.int .i64 p0.1, .slice a0_1 n0_1 c0_1, .slice a0_2 n0_2 c0_2]) rfl rfl hS0) ?_
  rintro _ w2 ⟨g3, rfl, hS5, hE4⟩
  have hB7 := hB0.trans (Ext.stp hE4 hS0.base)
  refine wl_val (g_assign (v := .bool false) rfl) rfl ?_
  refine wl_nil ?_
  refine hK1 _ _ ?_
  refine w_cut (σ := Unit) (fun _ => [(1, .int .i64 p1), (2, .int .i64 p2)]) (fun _ w' => m_impl_isNext_K0 p1 p2 Q ∧ Below w.heap.size w w' ∧ Sep w' w.heap.size []) ?_ ?_
  · refine w_seq fun K9 hK9 => ?_
    refine w_region ?_
    refine wl_val (g_fieldAddr (q := (⟨g3, 0, none⟩ : Addr)) FL39_1 ON24 rfl) rfl ?_
    refine wl_val (q_loadB (i := 1) (bs := #[.int .i64 p0.1, .slice a0_1 n0_1 c0_1, .slice a0_2 n0_2 c0_2]) hS5.g0 ON24 rfl rfl) rfl ?_
    refine wl_val (q_len SL24 rfl (Vw.len (hp0_1.bel hB7))) rfl ?_
    refine wl_val (g_move (v := .int .i64 0) rfl) rfl ?_
    refine wl_nil ?_
    refine hK9 _ _ ?_
    refine w_block ?_
    have hS32 := hS5.tail
    obtain ⟨I33, μ34, h035, hr36⟩ := hm
    refine w_for (σ := Int) (fun v31 => [(1, .int .i64 p1), (2, .int .i64 p2), (10, .slice a0_1 n0_1 c0_1), (11, .int .i64 (p0.2.1.length : Int)), (12, .int .i64 v31)]) (fun v31 w' => I33 v31 ∧ Below w.heap.size w w' ∧ Sep w' w.heap.size []) (fun v31 => μ34 v31) (0) ⟨rfl, rfl, rfl, rfl, rfl, trivial⟩ ⟨h035, hB7, hS32⟩ ?_
    rintro v31 b_ w37 ⟨hi_, hB38, hS39⟩
    show Wp _ _ _ _ (upds b_ [(1, .int .i64 p1), (2, .int .i64 p2), (10, .slice a0_1 n0_1 c0_1), (11, .int .i64 (p0.2.1.length : Int)), (12, .int .i64 v31)]) w37
    have hm := hr36 v31 hi_
    refine w_seq fun K41 hK41 => ?_
    refine w_region ?_
    refine wl_val (g_lss (a := v31) (b := (p0.2.1.length : Int)) rfl rfl) rfl ?_
    refine wl_nil ?_
    refine hK41 _ _ ?_
    refine w_seq fun K42 hK42 => ?_
    refine w_condI (p := v31 < (p0.2.1.length : Int)) (b := (decide (v31 < (p0.2.1.length : Int)))) rfl decide_eq_true_iff (fun h43 => ?_) (fun h43 => ?_)
    · replace hm := hm.1 h43
      refine w_skip ?_
      refine hK42 _ _ ?_
      refine w_seq fun K44 hK44 => ?_
      refine w_block ?_
      refine w_seq fun K45 hK45 => ?_
      refine w_region ?_
      obtain ⟨hg46, hm⟩ := hm
      refine wl_val (q_index (i := v31) SL24 rfl rfl (hp0_1.bel hB38) hg46) rfl ?_
      refine wl_val (q_load (i := v31) (v := .int .i64 (p0.2.1[(Int.toNat v31)]!)) ON3 (hp0_1.bel hB38) hg46 rfl rfl) rfl ?_
      refine wl_val (g_assign (v := .int .i64 (p0.2.1[(Int.toNat v31)]!)) rfl) rfl ?_
      refine wl_nil ?_
      refine hK45 _ _ ?_
      refine w_seq fun K47 hK47 => ?_
      refine w_region ?_
      refine wl_val (g_move (v := .int .i64 p2) rfl) rfl ?_
      refine wl_val (g_move (v := .int .i64 (p0.2.1[(Int.toNat v31)]!)) rfl) rfl ?_
      obtain ⟨hg48, hm⟩ := hm
      refine wl_val (g_shr (a := p2) (b := p0.2.1[(Int.toNat v31)]!) rfl rfl hg48) rfl ?_
      obtain ⟨hg49, hm⟩ := hm
      refine wl_val (g_band (a := (sar p2 (p0.2.1[(Int.toNat v31)]!))) (b := 1) rfl rfl hg49) rfl ?_
      refine wl_val (g_eql (a := (band (sar p2 (p0.2.1[(Int.toNat v31)]!)) 1)) (b := 0) rfl rfl) rfl ?_
      refine wl_nil ?_
      refine hK47 _ _ ?_
      refine w_condI (p := (band (sar p2 (p0.2.1[(Int.toNat v31)]!)) 1) = 0) (b := (decide ((band (sar p2 (p0.2.1[(Int.toNat v31)]!)) 1) = 0))) rfl decide_eq_true_iff (fun h50 => ?_) (fun h50 => ?_)
      · replace hm := hm.1 h50
        refine w_seq fun K51 hK51 => ?_
        refine w_region ?_
        refine wl_val (g_assign (v := .bool false) rfl) rfl ?_
        refine wl_nil ?_
        refine hK51 _ _ ?_
        refine w_ret ?_
        repeat first | with_reducible refine q_then ?_ | with_reducible refine q_block ?_
        exact ret1 rfl (by decide) ⟨_, hm, rfl, toExt hB38⟩
      · replace hm := hm.2 h50
        refine w_skip ?_
        refine hK44 _ _ ?_
        refine w_region ?_
        obtain ⟨hg52, hm⟩ := hm
        refine wl_val (g_add (a := v31) (b := 1) rfl rfl hg52) rfl ?_
        refine wl_val (g_move (v := .int .i64 (v31 + 1)) rfl) rfl ?_
        refine wl_nil ?_
        exact ⟨((v31 + 1)), hm.2, ⟨rfl, rfl, rfl, rfl, rfl, trivial⟩, ⟨hm.1, hB38, hS39⟩⟩
    · replace hm := hm.2 h43
      refine w_exit ?_
      exact ⟨(), ⟨rfl, rfl, trivial⟩, ⟨hm, hB38, hS39⟩⟩
  · rintro _ b_ w53 ⟨hm, hB54, hS55⟩
    show Wp _ _ _ _ (upds b_ [(1, .int .i64 p1), (2, .int .i64 p2)]) w53
    refine w_seq fun K56 hK56 => ?_
    refine w_region ?_
    refine wl_val (g_move (v := .int .i64 p2) rfl) rfl ?_
    refine wl_val (g_move (v := .int .i64 p1) rfl) rfl ?_
    obtain ⟨hg57, hm⟩ := hm
    refine wl_val (g_shr (a := p2) (b := p1) rfl rfl hg57) rfl ?_
    obtain ⟨hg58, hm⟩ := hm
    refine wl_val (g_band (a := (sar p2 p1)) (b := 1) rfl rfl hg58) rfl ?_
    refine wl_val (g_eql (a := (band (sar p2 p1) 1)) (b := 0) rfl rfl) rfl ?_
    refine wl_val (g_assign (v := .bool (decide ((band (sar p2 p1) 1) = 0))) rfl) rfl ?_
    refine wl_nil ?_
    refine hK56 _ _ ?_
    refine w_ret ?_
    repeat first | with_reducible refine q_then ?_ | with_reducible refine q_block ?_
    exact ret1 rfl (by decide) ⟨_, hm, rfl, toExt hB54⟩

theorem m_impl_CountOrders_fn {w : World} {a0 : Option Addr} {n0 c0 : Nat} {y0 : List CueD} {p0 : List CueC} {Q : Int → Prop} (hp0 : Tv w.heap.size w a0 n0 c0 y0 p0) (hm : m_impl_CountOrders p0 Q) :
    Fn Try.prog 33 #[.slice a0 n0 c0] w (fun v w' => ∃ (r0 : Int), Q r0 ∧ v = .int .i64 r0 ∧ Ext w w') := by
  unfold m_impl_CountOrders at hm
  have hB0 := Below.refl w.heap.size w
  have hS0 : Sep w w.heap.size [] := Sep.nil (Nat.le_refl _)
  refine fn_of_wp Try.func33 rfl (by kernel_rfl) (Nat.le_of_ble_eq_true rfl) ?_
  refine w_seq fun K1 hK1 => ?_
  refine w_region ?_
  refine wl_val (g_assign (v := .int .i64 0) rfl) rfl ?_
  refine wl_nil ?_
  refine hK1 _ _ ?_
  refine w_seq fun K2 hK2 => ?_
  refine w_seq fun K3 hK3 => ?_
  refine w_region ?_
  refine wl_val (g_move (v := .slice a0 n0 c0) rfl) rfl ?_
  refine wl_step rfl (g_call (vs := #[.slice a0 n0 c0]) CF29 (args1 rfl) (m_impl_CuesOk_fn ((hp0.bel hB0).up hS0) hm)) ?_
  rintro _ w4 ⟨r7, hm, rfl, hE5⟩
  have hB8 := hB0.trans (Ext.stp hE5 hS0.base)
  have hS9 := hS0.ext hE5
  refine wl_val (g_not (a := r7) rfl) rfl ?_
  refine wl_val (g_move (v := .bool (!r7)) rfl) rfl ?_
  refine wl_guard (c := (!r7) = false) (val := .slice a0 n0 c0) (b := ((!r7) == false)) (gv_some rfl rfl rfl) beq_iff_eq (fun hc10 => ?_) ?_
  · have hq0 : ¬ (¬ (r7 = true)) := (i_neg (i_not Iff.rfl) hc10)
    exact g_move (v := .slice a0 n0 c0) rfl
  refine wl_guard (c := (!r7) = false) (val := .int .i64 (p0.length : Int)) (b := ((!r7) == false)) (gv_some rfl rfl rfl) beq_iff_eq (fun hc11 => ?_) ?_
  · have hq0 : ¬ (¬ (r7 = true)) := (i_neg (i_not Iff.rfl) hc11)
    exact q_len SL26 (if_pos hc11) (Tv.len (hp0.bel hB8))
  refine wl_guard (c := (!r7) = false) (val := .bool (decide ((p0.length : Int) > 10))) (b := ((!r7) == false)) (gv_some rfl rfl rfl) beq_iff_eq (fun hc12 => ?_) ?_
  · have hq0 : ¬ (¬ (r7 = true)) := (i_neg (i_not Iff.rfl) hc12)
    exact g_gtr (a := (p0.length : Int)) (b := 10) (if_pos hc12) rfl
  refine wl_val (g_pick_or (b := (!r7)) (q := (decide ((p0.length : Int) > 10))) rfl rfl) rfl ?_
  refine wl_nil ?_
  refine hK3 _ _ ?_
  refine w_condI (p := ((¬ (r7 = true)) ∨ ((p0.length : Int) > 10))) (b := ((!r7) || (decide ((p0.length : Int) > 10)))) rfl (i_or (i_not Iff.rfl) decide_eq_true_iff) (fun h13 => ?_) (fun h13 => ?_)
  · replace hm := hm.1 h13
    refine w_seq fun K14 hK14 => ?_
    refine w_region ?_
    refine wl_val (g_assign (v := .int .i64 (-1)) rfl) rfl ?_
    refine wl_nil ?_
    refine hK14 _ _ ?_
    refine w_ret ?_
    repeat first | with_reducible refine q_then ?_ | with_reducible refine q_block ?_
    exact ret1 rfl (by decide) ⟨_, hm, rfl, toExt hB8⟩
  · replace hm := hm.2 h13
    refine w_skip ?_
    refine hK2 _ _ ?_
    refine w_seq fun K15 hK15 => ?_
    refine w_region ?_
    refine wl_val (g_move (v := .slice a0 n0 c0) rfl) rfl ?_
    refine wl_val (q_len SL26 rfl (Tv.len (hp0.bel hB8))) rfl ?_
    obtain ⟨hg16, hm⟩ := hm
    obtain ⟨hg17, hm⟩ := hm
    refine wl_val (g_shl (a := 1) (b := (p0.length : Int)) rfl rfl hg16 hg17) rfl ?_
    obtain ⟨hg18, hm⟩ := hm
    refine wl_step rfl (q_make (y := (0 : Int)) SL24 rfl rfl hg18.1 hg18.2 (by decide) hS9) ?_
    rintro _ w19 ⟨a20, rfl, hS22, hE21⟩
    have hB24 := hB8.trans (Ext.stp hE21 hS9.base)
    refine wl_val (g_assign (v := .slice a20 (Int.toNat (sal 1 (p0.length : Int))) (Int.toNat (sal 1 (p0.length : Int)))) rfl) rfl ?_
    refine wl_nil ?_
    refine hK15 _ _ ?_
    refine w_seq fun K25 hK25 => ?_
    refine w_region ?_
    refine wl_val (g_move (v := .slice a20 (Int.toNat (sal 1 (p0.length : Int))) (Int.toNat (sal 1 (p0.length : Int)))) rfl) rfl ?_
    obtain ⟨hg26, hm⟩ := hm
    refine wl_val (q_index (i := 0) SL24 rfl rfl (oS.vw hS22.g0) hg26) rfl ?_
    refine wl_step rfl (q_store (i := 0) (v := (1 : Int)) hS22 ON3.sz hg26 rfl rfl rfl) ?_
    rintro _ w27 ⟨rfl, hS28, hb29⟩
    have hB30 := hB24.trans hb29
    refine wl_nil ?_
    refine hK25 _ _ ?_
    refine w_cut (σ := List Int) (fun x549 => [(3, .slice a20 (Int.toNat (sal 1 (p0.length : Int))) (Int.toNat (sal 1 (p0.length : Int))))]) (fun x549 w' => m_impl_CountOrders_K1 Q x549 ∧ Below w.heap.size w w' ∧ Sep w' w.heap.size [oS 3 a20 (Int.toNat (sal 1 (p0.length : Int))) (Int.toNat (sal 1 (p0.length : Int))) (x549 : List Int)]) ?_ ?_
    · refine w_seq fun K551 hK551 => ?_
      refine w_region ?_
      refine wl_val (g_move (v := .slice a20 (Int.toNat (sal 1 (p0.length : Int))) (Int.toNat (sal 1 (p0.length : Int)))) rfl) rfl ?_
      refine wl_val (q_len SL24 rfl (Vw.len (oS.vw hS28.g0))) rfl ?_
      refine wl_val (g_move (v := .int .i64 0) rfl) rfl ?_
      refine wl_nil ?_
      refine hK551 _ _ ?_
      refine w_block ?_
      obtain ⟨I554, μ555, h0556, hr557⟩ := hm
      refine w_for (σ := List Int × Int) (fun ⟨x552, v553⟩ => [(0, .slice a0 n0 c0), (3, .slice a20 (Int.toNat (sal 1 (p0.length : Int))) (Int.toNat (sal 1 (p0.length : Int)))), (22, .int .i64 (((List.replicate (Int.toNat (sal 1 (p0.length : Int))) (0 : Int)).set 0 1).length : Int)), (23, .int .i64 v553)]) (fun ⟨x552, v553⟩ w' => I554 x552 v553 ∧ Below w.heap.size w w' ∧ Sep w' w.heap.size [oS 3 a20 (Int.toNat (sal 1 (p0.length : Int))) (Int.toNat (sal 1 (p0.length : Int))) (x552 : List Int)]) (fun ⟨x552, v553⟩ => μ555 x552 v553) (((List.replicate (Int.toNat (sal 1 (p0.length : Int))) (0 : Int)).set 0 1), 0) ⟨rfl, rfl, rfl, rfl, trivial⟩ ⟨h0556, hB30, hS28⟩ ?_
      rintro ⟨x552, v553⟩ b_ w558 ⟨hi_, hB559, hS560⟩
      show Wp _ _ _ _ (upds b_ [(0, .slice a0 n0 c0), (3, .slice a20 (Int.toNat (sal 1 (p0.length : Int))) (Int.toNat (sal 1 (p0.length : Int)))), (22, .int .i64 (((List.replicate (Int.toNat (sal 1 (p0.length : Int))) (0 : Int)).set 0 1).length : Int)), (23, .int .i64 v553)]) w558
      have hm := hr557 x552 v553 hi_
      refine w_seq fun K562 hK562 => ?_
      refine w_region ?_
      refine wl_val (g_lss (a := v553) (b := (((List.replicate (Int.toNat (sal 1 (p0.length : Int))) (0 : Int)).set 0 1).length : Int)) rfl rfl) rfl ?_
      refine wl_nil ?_
      refine hK562 _ _ ?_
      refine w_seq fun K563 hK563 => ?_
      refine w_condI (p := v553 < (((List.replicate (Int.toNat (sal 1 (p0.length : Int))) (0 : Int)).set 0 1).length : Int)) (b := (decide (v553 < (((List.replicate (Int.toNat (sal 1 (p0.length : Int))) (0 : Int)).set 0 1).length : Int)))) rfl decide_eq_true_iff (fun h564 => ?_) (fun h564 => ?_)
      · replace hm := hm.1 h564
        refine w_skip ?_
        refine hK563 _ _ ?_
        refine w_cut (σ := List Int) (fun x565 => [(0, .slice a0 n0 c0), (3, .slice a20 (Int.toNat (sal 1 (p0.length : Int))) (Int.toNat (sal 1 (p0.length : Int)))), (22, .int .i64 (((List.replicate (Int.toNat (sal 1 (p0.length : Int))) (0 : Int)).set 0 1).length : Int)), (23, .int .i64 v553)]) (fun x565 w' => m_impl_CountOrders_K0 v553 (fun x552' v553' => I554 x552' v553' ∧ μ555 x552' v553' < μ555 x552 v553) x565 ∧ Below w.heap.size w w' ∧ Sep w' w.heap.size [oS 3 a20 (Int.toNat (sal 1 (p0.length : Int))) (Int.toNat (sal 1 (p0.length : Int))) (x565 : List Int)]) ?_ ?_
        · refine w_block ?_
          refine w_seq fun K567 hK567 => ?_
          refine w_region ?_
          refine wl_val (g_move (v := .int .i64 v553) rfl) rfl ?_
          refine wl_val (g_assign (v := .int .i64 v553) rfl) rfl ?_
          refine wl_nil ?_
          refine hK567 _ _ ?_
          refine w_seq fun K568 hK568 => ?_
          refine w_region ?_
          refine wl_val (g_move (v := .slice a0 n0 c0) rfl) rfl ?_
          refine wl_val (q_len SL26 rfl (Tv.len (hp0.bel hB559))) rfl ?_
          refine wl_val (g_move (v := .int .i64 0) rfl) rfl ?_
          refine wl_nil ?_
          refine hK568 _ _ ?_
          refine w_block ?_
          obtain ⟨I571, μ572, h0573, hr574⟩ := hm
          refine w_for (σ := List Int × Int) (fun ⟨x569, v570⟩ => [(0, .slice a0 n0 c0), (3, .slice a20 (Int.toNat (sal 1 (p0.length : Int))) (Int.toNat (sal 1 (p0.length : Int)))), (4, .int .i64 v553), (22, .int .i64 (((List.replicate (Int.toNat (sal 1 (p0.length : Int))) (0 : Int)).set 0 1).length : Int)), (23, .int .i64 v553), (26, .slice a0 n0 c0), (27, .int .i64 (p0.length : Int)), (28, .int .i64 v570)]) (fun ⟨x569, v570⟩ w' => I571 x569 v570 ∧ Below w.heap.size w w' ∧ Sep w' w.heap.size [oS 3 a20 (Int.toNat (sal 1 (p0.length : Int))) (Int.toNat (sal 1 (p0.length : Int))) (x569 : List Int)]) (fun ⟨x569, v570⟩ => μ572 x569 v570) (x552, 0) ⟨rfl, rfl, rfl, rfl, rfl, rfl, rfl, rfl, trivial⟩ ⟨h0573, hB559, hS560⟩ ?_
          rintro ⟨x569, v570⟩ b_ w575 ⟨hi_, hB576, hS577⟩
          show Wp _ _ _ _ (upds b_ [(0, .slice a0 n0 c0), (3, .slice a20 (Int.toNat (sal 1 (p0.length : Int))) (Int.toNat (sal 1 (p0.length : Int)))), (4, .int .i64 v553), (22, .int .i64 (((List.replicate (Int.toNat (sal 1 (p0.length : Int))) (0 : Int)).set 0 1).length : Int)), (23, .int .i64 v553), (26, .slice a0 n0 c0), (27, .int .i64 (p0.length : Int)), (28, .int .i64 v570)]) w575
          have hm := hr574 x569 v570 hi_
          refine w_seq fun K579 hK579 => ?_
          refine w_region ?_
          refine wl_val (g_lss (a := v570) (b := (p0.length : Int)) rfl rfl) rfl ?_
          refine wl_nil ?_
          refine hK579 _ _ ?_
          refine w_seq fun K580 hK580 => ?_
          refine w_condI (p := v570 < (p0.length : Int)) (b := (decide (v570 < (p0.length : Int)))) rfl decide_eq_true_iff (fun h581 => ?_) (fun h581 => ?_)
          · replace hm := hm.1 h581
            refine w_skip ?_
            refine hK580 _ _ ?_
            refine w_seq fun K582 hK582 => ?_
            refine w_block ?_
            refine w_seq fun K583 hK583 => ?_
            refine w_region ?_
            refine wl_val (g_move (v := .int .i64 v570) rfl) rfl ?_
            obtain ⟨hg584, hm⟩ := hm
            refine wl_val (q_index (i := v570) SL26 rfl rfl (Tv.o (hp0.bel hB576)) (Tv.g (hp0.bel hB576) hg584)) rfl ?_
            refine wl_val (q_loadS (i := v570) (cs := [.int .i64 (p0[(Int.toNat v570)]!.1), .slice ((y0[(Int.toNat v570)]!).2.1.1) ((y0[(Int.toNat v570)]!).2.1.2.2.length) ((y0[(Int.toNat v570)]!).2.1.2.1), .slice ((y0[(Int.toNat v570)]!).2.2.1) ((y0[(Int.toNat v570)]!).2.2.2.2.length) ((y0[(Int.toNat v570)]!).2.2.2.1)]) AG39 (Tv.o (hp0.bel hB576)) (Tv.g (hp0.bel hB576) hg584) (by rw [← Tv.ticks (hp0.bel hB576) hg584]; rfl) rfl) rfl ?_
            refine wl_step rfl (q_alloc (cs := #[.int .i64 0, .slice none 0 0, .slice none 0 0]) ZR39 rfl hS577) ?_
            rintro _ w585 ⟨g586, rfl, hS588, hE587⟩
            have hB590 := hB576.trans (Ext.stp hE587 hS577.base)
            refine wl_val (g_assign (v := .int .i64 v570) rfl) rfl ?_
            refine wl_step rfl (q_storeB (i := 0) (bs' := #[.int .i64 (p0[(Int.toNat v570)]!.1), .slice ((y0[(Int.toNat v570)]!).2.1.1) ((y0[(Int.toNat v570)]!).2.1.2.2.length) ((y0[(Int.toNat v570)]!).2.1.2.1), .slice ((y0[(Int.toNat v570)]!).2.2.1) ((y0[(Int.toNat v570)]!).2.2.2.2.length) ((y0[(Int.toNat v570)]!).2.2.2.1)]) (vs := [.int .i64 (p0[(Int.toNat v570)]!.1), .slice ((y0[(Int.toNat v570)]!).2.1.1) ((y0[(Int.toNat v570)]!).2.1.2.2.length) ((y0[(Int.toNat v570)]!).2.1.2.1), .slice ((y0[(Int.toNat v570)]!).2.2.1) ((y0[(Int.toNat v570)]!).2.2.2.2.length) ((y0[(Int.toNat v570)]!).2.2.2.1)]) hS588 AG39.sz rfl rfl rfl (by simp [Value.oneCell']) (Nat.le_of_ble_eq_true rfl) rfl) ?_
            rintro _ w591 ⟨rfl, hS592, hb593⟩
            have hB594 := hB590.trans hb593
            refine wl_nil ?_
            refine hK583 _ _ ?_
            refine w_seq fun K595 hK595 => ?_
            refine w_region ?_
            refine wl_val (g_move (v := .slice a20 (Int.toNat (sal 1 (p0.length : Int))) (Int.toNat (sal 1 (p0.length : Int)))) rfl) rfl ?_
            refine wl_val (g_move (v := .int .i64 v553) rfl) rfl ?_
            obtain ⟨hg596, hm⟩ := hm
            refine wl_val (q_index (i := v553) SL24 rfl rfl (oS.vw hS592.g1) hg596) rfl ?_
            refine wl_val (q_load (i := v553) (v := .int .i64 (x569[(Int.toNat v553)]!)) ON3 (oS.vw hS592.g1) hg596 rfl rfl) rfl ?_
            refine wl_val (g_gtr (a := x569[(Int.toNat v553)]!) (b := 0) rfl rfl) rfl ?_
            refine wl_val (g_move (v := .bool (decide (x569[(Int.toNat v553)]! > 0))) rfl) rfl ?_
            refine wl_guard (c := (decide (x569[(Int.toNat v553)]! > 0)) = true) (val := .agg #[.int .i64 (p0[(Int.toNat v570)]!.1), .slice ((y0[(Int.toNat v570)]!).2.1.1) ((y0[(Int.toNat v570)]!).2.1.2.2.length) ((y0[(Int.toNat v570)]!).2.1.2.1), .slice ((y0[(Int.toNat v570)]!).2.2.1) ((y0[(Int.toNat v570)]!).2.2.2.2.length) ((y0[(Int.toNat v570)]!).2.2.2.1)]) (b := ((decide (x569[(Int.toNat v553)]! > 0)) == true)) (gv_some rfl rfl rfl) beq_iff_eq (fun hc597 => ?_) ?_
            · have hq5 : x569[(Int.toNat v553)]! > 0 := (decide_eq_true_iff.mp hc597)
              exact q_loadBS (bs := #[.int .i64 (p0[(Int.toNat v570)]!.1), .slice ((y0[(Int.toNat v570)]!).2.1.1) ((y0[(Int.toNat v570)]!).2.1.2.2.length) ((y0[(Int.toNat v570)]!).2.1.2.1), .slice ((y0[(Int.toNat v570)]!).2.2.1) ((y0[(Int.toNat v570)]!).2.2.2.2.length) ((y0[(Int.toNat v570)]!).2.2.2.1)]) hS592.g0 AG39 rfl
            refine wl_guard (c := (decide (x569[(Int.toNat v553)]! > 0)) = true) (val := .int .i64 v570) (b := ((decide (x569[(Int.toNat v553)]! > 0)) == true)) (gv_some rfl rfl rfl) beq_iff_eq (fun hc598 => ?_) ?_
            · have hq5 : x569[(Int.toNat v553)]! > 0 := (decide_eq_true_iff.mp hc598)
              exact g_move (v := .int .i64 v570) rfl
            refine wl_guard (c := (decide (x569[(Int.toNat v553)]! > 0)) = true) (val := .int .i64 v553) (b := ((decide (x569[(Int.toNat v553)]! > 0)) == true)) (gv_some rfl rfl rfl) beq_iff_eq (fun hc599 => ?_) ?_
            · have hq5 : x569[(Int.toNat v553)]! > 0 := (decide_eq_true_iff.mp hc599)
              exact g_move (v := .int .i64 v553) rfl
            obtain ⟨r601, hk602, hm⟩ := hm
            refine wl_guardE (X := Ext) (c := (decide (x569[(Int.toNat v553)]! > 0)) = true) (val := .bool r601) (Ext.refl _) (b := ((decide (x569[(Int.toNat v553)]! > 0)) == true)) (gv_some rfl rfl rfl) beq_iff_eq (fun hc600 => ?_) (fun w603 hE604 => ?_)
            · have hq5 : x569[(Int.toNat v553)]! > 0 := (decide_eq_true_iff.mp hc600)
              exact (g_call (vs := #[.agg #[.int .i64 (p0[(Int.toNat v570)]!.1), .slice ((y0[(Int.toNat v570)]!).2.1.1) ((y0[(Int.toNat v570)]!).2.1.2.2.length) ((y0[(Int.toNat v570)]!).2.1.2.1), .slice ((y0[(Int.toNat v570)]!).2.2.1) ((y0[(Int.toNat v570)]!).2.2.2.2.length) ((y0[(Int.toNat v570)]!).2.2.2.1)], .int .i64 v570, .int .i64 v553]) CF64 (args3 (if_pos hc600) (if_pos hc600) (if_pos hc600)) ((m_impl_isNext_fn (p0[(Int.toNat v570)]!.1, p0[(Int.toNat v570)]!.2.1, p0[(Int.toNat v570)]!.2.2) ((Tv.rowC0 (hp0.bel hB594) hg584).up hS592) ((Tv.rowC1 (hp0.bel hB594) hg584).up hS592) v570 v553 (hk602 hq5)).mono fun _ _ ⟨_, h1, h2, h3⟩ => ⟨by rw [h2, h1], h3⟩))
            have hB605 := hB594.trans (Ext.stp hE604 hS592.base)
            have hS606 := hS592.ext hE604
            refine wl_val (g_pick_and (b := (decide (x569[(Int.toNat v553)]! > 0))) (q := r601) rfl rfl) rfl ?_
            refine wl_nil ?_
            refine hK595 _ _ ?_
            refine w_condI (p := ((x569[(Int.toNat v553)]! > 0) ∧ (r601 = true))) (b := ((decide (x569[(Int.toNat v553)]! > 0)) && r601)) rfl (i_and decide_eq_true_iff Iff.rfl) (fun h607 => ?_) (fun h607 => ?_)
            · replace hm := hm.1 h607
              refine w_draw (X := Ext) (Y := Ext) [0, 0, 0, 0, 0, 0, 0, 0, 0, 0, 0, 0, 0, 1] MIX (by decide +kernel) rfl Ext.refl (fun _ _ _ => Ext.trans) (fun _ _ _ => Chg.trans) (fun _ _ h => Ext.chg h _) (fun w608 hE609 => ?_)
              have hB610 := hB605.trans (Ext.stp hE609 hS606.base)
              have hS611 := hS606.ext hE609
              refine ⟨.slice a20 (Int.toNat (sal 1 (p0.length : Int))) (Int.toNat (sal 1 (p0.length : Int))), fun w612 hX613 => od_plain rfl (by have hS614 := hS611.ext hX613; have hB615 := hB610.trans (Ext.stp hX613 hS611.base); exact is_ext (g_move (v := .slice a20 (Int.toNat (sal 1 (p0.length : Int))) (Int.toNat (sal 1 (p0.length : Int)))) rfl)), ?_⟩
              refine ⟨.int .i64 v553, fun w616 hX617 => od_plain rfl (by have hS618 := hS611.ext hX617; have hB619 := hB610.trans (Ext.stp hX617 hS611.base); exact is_ext (g_move (v := .int .i64 v553) rfl)), ?_⟩
              refine ⟨.int .i64 v570, fun w620 hX621 => od_plain rfl (by have hS622 := hS611.ext hX621; have hB623 := hB610.trans (Ext.stp hX621 hS611.base); exact is_ext (g_move (v := .int .i64 v570) rfl)), ?_⟩
              obtain ⟨hg628, hm⟩ := hm
              obtain ⟨hg629, hm⟩ := hm
              refine ⟨.int .i64 (sal 1 v570), fun w624 hX625 => od_plain rfl (by have hS626 := hS611.ext hX625; have hB627 := hB610.trans (Ext.stp hX625 hS611.base); exact is_ext (g_shl (a := 1) (b := v570) rfl rfl hg628 hg629)), ?_⟩
              obtain ⟨hg634, hm⟩ := hm
              refine ⟨.int .i64 (bor v553 (sal 1 v570)), fun w630 hX631 => od_plain rfl (by have hS632 := hS611.ext hX631; have hB633 := hB610.trans (Ext.stp hX631 hS611.base); exact is_ext (g_bor (a := v553) (b := (sal 1 v570)) rfl rfl hg634)), ?_⟩
              obtain ⟨hg639, hm⟩ := hm
              refine ⟨.pointer (some ((adr a20).add ((Int.toNat (bor v553 (sal 1 v570))) * El.m Int))), fun w635 hX636 => od_plain rfl (by have hS637 := hS611.ext hX636; have hB638 := hB610.trans (Ext.stp hX636 hS611.base); exact is_ext (q_index (i := (bor v553 (sal 1 v570))) SL24 rfl rfl (oS.vw hS637.g1) hg639)), ?_⟩
              refine ⟨.int .i64 (x569[(Int.toNat (bor v553 (sal 1 v570)))]!), fun w640 hX641 => od_plain rfl (by have hS642 := hS611.ext hX641; have hB643 := hB610.trans (Ext.stp hX641 hS611.base); exact is_ext (q_load (i := (bor v553 (sal 1 v570))) (v := .int .i64 (x569[(Int.toNat (bor v553 (sal 1 v570)))]!)) ON3 (oS.vw hS642.g1) hg639 rfl rfl)), ?_⟩
              refine ⟨.slice a20 (Int.toNat (sal 1 (p0.length : Int))) (Int.toNat (sal 1 (p0.length : Int))), fun w644 hX645 => od_plain rfl (by have hS646 := hS611.ext hX645; have hB647 := hB610.trans (Ext.stp hX645 hS611.base); exact is_ext (g_move (v := .slice a20 (Int.toNat (sal 1 (p0.length : Int))) (Int.toNat (sal 1 (p0.length : Int)))) rfl)), ?_⟩
              refine ⟨.int .i64 v553, fun w648 hX649 => od_plain rfl (by have hS650 := hS611.ext hX649; have hB651 := hB610.trans (Ext.stp hX649 hS611.base); exact is_ext (g_move (v := .int .i64 v553) rfl)), ?_⟩
              obtain ⟨hg656, hm⟩ := hm
              refine ⟨.pointer (some ((adr a20).add ((Int.toNat v553) * El.m Int))), fun w652 hX653 => od_plain rfl (by have hS654 := hS611.ext hX653; have hB655 := hB610.trans (Ext.stp hX653 hS611.base); exact is_ext (q_index (i := v553) SL24 rfl rfl (oS.vw hS654.g1) hg656)), ?_⟩
              refine ⟨.int .i64 (x569[(Int.toNat v553)]!), fun w657 hX658 => od_plain rfl (by have hS659 := hS611.ext hX658; have hB660 := hB610.trans (Ext.stp hX658 hS611.base); exact is_ext (q_load (i := v553) (v := .int .i64 (x569[(Int.toNat v553)]!)) ON3 (oS.vw hS659.g1) hg656 rfl rfl)), ?_⟩
              obtain ⟨hg665, hm⟩ := hm
              refine ⟨.int .i64 (x569[(Int.toNat (bor v553 (sal 1 v570)))]! + x569[(Int.toNat v553)]!), fun w661 hX662 => od_plain rfl (by have hS663 := hS611.ext hX662; have hB664 := hB610.trans (Ext.stp hX662 hS611.base); exact is_ext (g_add (a := x569[(Int.toNat (bor v553 (sal 1 v570)))]!) (b := x569[(Int.toNat v553)]!) rfl rfl hg665)), ?_⟩
              obtain ⟨hg670, hm⟩ := hm
              refine ⟨.pointer (some ((adr a20).add ((Int.toNat (bor v553 (sal 1 v570))) * El.m Int))), fun w666 hX667 => od_plain rfl (by have hS668 := hS611.ext hX667; have hB669 := hB610.trans (Ext.stp hX667 hS611.base); exact is_ext (q_index (i := (bor v553 (sal 1 v570))) SL24 rfl rfl (oS.vw hS668.g1) hg670)), ?_⟩
              intro w671 hX672
              have hB673 := hB610.trans (Ext.stp hX672 hS611.base)
              have hS674 := hS611.ext hX672
              have hS678 := hS674.f1
              refine ⟨_, od_plain rfl (q_store (i := (bor v553 (sal 1 v570))) (v := ((x569[(Int.toNat (bor v553 (sal 1 v570)))]! + x569[(Int.toNat v553)]!) : Int)) hS678 ON3.sz hg670 rfl rfl rfl), ?_⟩
              rintro _ w675 ⟨rfl, hS676, hb677⟩
              have hB679 := hB673.trans hb677
              intro w680 hX681
              have hB682 := hB679.trans (Ext.stp hX681 hS676.base)
              have hS683 := hS676.ext hX681
              refine hK582 _ _ ?_
              refine w_region ?_
              obtain ⟨hg684, hm⟩ := hm
              refine wl_val (g_add (a := v570) (b := 1) rfl rfl hg684) rfl ?_
              refine wl_val (g_move (v := .int .i64 (v570 + 1)) rfl) rfl ?_
              refine wl_nil ?_
              have hS685 := hS683.f1
              have hS686 := hS685.tail
              exact ⟨((x569.set (Int.toNat (bor v553 (sal 1 v570))) (x569[(Int.toNat (bor v553 (sal 1 v570)))]! + x569[(Int.toNat v553)]!)), (v570 + 1)), hm.2, ⟨rfl, rfl, rfl, rfl, rfl, rfl, rfl, rfl, trivial⟩, ⟨hm.1, hB682, hS686⟩⟩
            · replace hm := hm.2 h607
              refine w_skip ?_
              refine hK582 _ _ ?_
              refine w_region ?_
              obtain ⟨hg687, hm⟩ := hm
              refine wl_val (g_add (a := v570) (b := 1) rfl rfl hg687) rfl ?_
              refine wl_val (g_move (v := .int .i64 (v570 + 1)) rfl) rfl ?_
              refine wl_nil ?_
              have hS688 := hS606.tail
              exact ⟨(x569, (v570 + 1)), hm.2, ⟨rfl, rfl, rfl, rfl, rfl, rfl, rfl, rfl, trivial⟩, ⟨hm.1, hB605, hS688⟩⟩
          · replace hm := hm.2 h581
            refine w_exit ?_
            exact ⟨(x569), ⟨rfl, rfl, rfl, rfl, trivial⟩, ⟨hm, hB576, hS577⟩⟩
        · rintro x565 b_ w689 ⟨hm, hB690, hS691⟩
          show Wp _ _ _ _ (upds b_ [(0, .slice a0 n0 c0), (3, .slice a20 (Int.toNat (sal 1 (p0.length : Int))) (Int.toNat (sal 1 (p0.length : Int)))), (22, .int .i64 (((List.replicate (Int.toNat (sal 1 (p0.length : Int))) (0 : Int)).set 0 1).length : Int)), (23, .int .i64 v553)]) w689
          refine w_region ?_
          obtain ⟨hg692, hm⟩ := hm
          refine wl_val (g_add (a := v553) (b := 1) rfl rfl hg692) rfl ?_
          refine wl_val (g_move (v := .int .i64 (v553 + 1)) rfl) rfl ?_
          refine wl_nil ?_
          exact ⟨(x565, (v553 + 1)), hm.2, ⟨rfl, rfl, rfl, rfl, trivial⟩, ⟨hm.1, hB690, hS691⟩⟩
      · replace hm := hm.2 h564
        refine w_exit ?_
        exact ⟨(x552), ⟨rfl, trivial⟩, ⟨hm, hB559, hS560⟩⟩
    · rintro x549 b_ w693 ⟨hm, hB694, hS695⟩
      show Wp _ _ _ _ (upds b_ [(3, .slice a20 (Int.toNat (sal 1 (p0.length : Int))) (Int.toNat (sal 1 (p0.length : Int))))]) w693
      refine w_seq fun K696 hK696 => ?_
      refine w_region ?_
      refine wl_val (g_move (v := .slice a20 (Int.toNat (sal 1 (p0.length : Int))) (Int.toNat (sal 1 (p0.length : Int)))) rfl) rfl ?_
      refine wl_val (g_move (v := .slice a20 (Int.toNat (sal 1 (p0.length : Int))) (Int.toNat (sal 1 (p0.length : Int)))) rfl) rfl ?_
      refine wl_val (q_len SL24 rfl (Vw.len (oS.vw hS695.g0))) rfl ?_
      obtain ⟨hg697, hm⟩ := hm
      refine wl_val (g_sub (a := (x549.length : Int)) (b := 1) rfl rfl hg697) rfl ?_
      obtain ⟨hg698, hm⟩ := hm
      refine wl_val (q_index (i := ((x549.length : Int) - 1)) SL24 rfl rfl (oS.vw hS695.g0) hg698) rfl ?_
      refine wl_val (q_load (i := ((x549.length : Int) - 1)) (v := .int .i64 (x549[(Int.toNat ((x549.length : Int) - 1))]!)) ON3 (oS.vw hS695.g0) hg698 rfl rfl) rfl ?_
      refine wl_val (g_assign (v := .int .i64 (x549[(Int.toNat ((x549.length : Int) - 1))]!)) rfl) rfl ?_
      refine wl_nil ?_
      refine hK696 _ _ ?_
      refine w_ret ?_
      repeat first | with_reducible refine q_then ?_ | with_reducible refine q_block ?_
      exact ret1 rfl (by decide) ⟨_, hm, rfl, toExt hB694⟩

theorem m_spec_FreeCues_fn {w : World} {a0 : Option Addr} {n0 c0 : Nat} {y0 : List CueD} {p0 : List CueC} {Q : (List Int) → Prop} (hp0 : Tv w.heap.size w a0 n0 c0 y0 p0) (hm : m_spec_FreeCues p0 Q) :
    Fn Try.prog 45 #[.slice a0 n0 c0] w (fun v w' => ∃ (r0 : List Int) (a0 : Option Addr) (n0 c0 : Nat), Q r0 ∧ v = .slice a0 n0 c0 ∧ Ext w w' ∧ Sep w' w.heap.size [oS 3 a0 n0 c0 r0]) := by
  unfold m_spec_FreeCues at hm
  have hB0 := Below.refl w.heap.size w
  have hS0 : Sep w w.heap.size [] := Sep.nil (Nat.le_refl _)
  refine fn_of_wp Try.func45 rfl (by kernel_rfl) (Nat.le_of_ble_eq_true rfl) ?_
  refine w_seq fun K1 hK1 => ?_
  refine w_region ?_
  refine wl_val (g_assign (v := .slice none 0 0) rfl) rfl ?_
  refine wl_nil ?_
  refine hK1 _ _ ?_
  refine w_seq fun K2 hK2 => ?_
  refine w_region ?_
  refine wl_step rfl (q_lit0 (α := Int) rfl SL24 hS0) ?_
  rintro _ w3 ⟨a4, rfl, hS6, hE5⟩
  have hB8 := hB0.trans (Ext.stp hE5 hS0.base)
  refine wl_val (g_assign (v := .slice a4 0 0) rfl) rfl ?_
  refine wl_nil ?_
  refine hK2 _ _ ?_
  refine w_cut (σ := List Int × Option Addr × Nat × Nat) (fun ⟨x95, a96, n97, c98⟩ => [(3, .slice a96 n97 c98)]) (fun ⟨x95, a96, n97, c98⟩ w' => m_spec_FreeCues_K0 Q x95 ∧ Below w.heap.size w w' ∧ Sep w' w.heap.size [oS 3 a96 n97 c98 (x95 : List Int)]) ?_ ?_
  · refine w_seq fun K100 hK100 => ?_
    refine w_region ?_
    refine wl_val (g_assign (v := .int .i64 0) rfl) rfl ?_
    refine wl_nil ?_
    refine hK100 _ _ ?_
    refine w_block ?_
    obtain ⟨I106, μ107, h0108, hr109⟩ := hm
    refine w_for (σ := List Int × Option Addr × Nat × Nat × Int) (fun ⟨x101, a102, n103, c104, v105⟩ => [(0, .slice a0 n0 c0), (3, .slice a102 n103 c104), (4, .int .i64 v105)]) (fun ⟨x101, a102, n103, c104, v105⟩ w' => I106 x101 v105 ∧ Below w.heap.size w w' ∧ Sep w' w.heap.size [oS 3 a102 n103 c104 (x101 : List Int)]) (fun ⟨x101, a102, n103, c104, v105⟩ => μ107 x101 v105) ([], a4, 0, 0, 0) ⟨rfl, rfl, rfl, trivial⟩ ⟨h0108, hB8, hS6⟩ ?_
    rintro ⟨x101, a102, n103, c104, v105⟩ b_ w110 ⟨hi_, hB111, hS112⟩
    show Wp _ _ _ _ (upds b_ [(0, .slice a0 n0 c0), (3, .slice a102 n103 c104), (4, .int .i64 v105)]) w110
    have hm := hr109 x101 v105 hi_
    refine w_seq fun K114 hK114 => ?_
    refine w_seq fun K115 hK115 => ?_
    refine w_region ?_
    refine wl_val (g_move (v := .int .i64 v105) rfl) rfl ?_
    refine wl_val (g_move (v := .slice a0 n0 c0) rfl) rfl ?_
    refine wl_val (q_len SL26 rfl (Tv.len (hp0.bel hB111))) rfl ?_
    refine wl_val (g_lss (a := v105) (b := (p0.length : Int)) rfl rfl) rfl ?_
    refine wl_val (g_move (v := .bool (decide (v105 < (p0.length : Int)))) rfl) rfl ?_
    refine wl_guard (c := (decide (v105 < (p0.length : Int))) = true) (val := .slice a0 n0 c0) (b := ((decide (v105 < (p0.length : Int))) == true)) (gv_some rfl rfl rfl) beq_iff_eq (fun hc116 => ?_) ?_
    · have hq2 : v105 < (p0.length : Int) := (decide_eq_true_iff.mp hc116)
      exact g_move (v := .slice a0 n0 c0) rfl
    obtain ⟨r118, hk119, hm⟩ := hm
    refine wl_guardE (X := Ext) (c := (decide (v105 < (p0.length : Int))) = true) (val := .bool r118) (Ext.refl _) (b := ((decide (v105 < (p0.length : Int))) == true)) (gv_some rfl rfl rfl) beq_iff_eq (fun hc117 => ?_) (fun w120 hE121 => ?_)
    · have hq2 : v105 < (p0.length : Int) := (decide_eq_true_iff.mp hc117)
      exact (g_call (vs := #[.slice a0 n0 c0]) CF35 (args1 (if_pos hc117)) ((m_spec_CuesOk_fn ((hp0.bel hB111).up hS112) (hk119 hq2)).mono fun _ _ ⟨_, h1, h2, h3⟩ => ⟨by rw [h2, h1], h3⟩))
    have hB122 := hB111.trans (Ext.stp hE121 hS112.base)
    have hS123 := hS112.ext hE121
    refine wl_val (g_pick_and (b := (decide (v105 < (p0.length : Int)))) (q := r118) rfl rfl) rfl ?_
    refine wl_nil ?_
    refine hK115 _ _ ?_
    refine w_condI (p := ((v105 < (p0.length : Int)) ∧ (r118 = true))) (b := ((decide (v105 < (p0.length : Int))) && r118)) rfl (i_and decide_eq_true_iff Iff.rfl) (fun h124 => ?_) (fun h124 => ?_)
    · replace hm := hm.1 h124
      refine w_skip ?_
      refine hK114 _ _ ?_
      refine w_seq fun K125 hK125 => ?_
      refine w_block ?_
      refine w_seq fun K126 hK126 => ?_
      refine w_region ?_
      refine wl_val (g_move (v := .slice a0 n0 c0) rfl) rfl ?_
      refine wl_val (g_move (v := .int .i64 v105) rfl) rfl ?_
      obtain ⟨hg127, hm⟩ := hm
      refine wl_val (q_index (i := v105) SL26 rfl rfl (Tv.o (hp0.bel hB122)) (Tv.g (hp0.bel hB122) hg127)) rfl ?_
      refine wl_val (g_fieldAddr (q := (adr a0).add ((Int.toNat v105) * El.m CueD)) FL39_1 ON24 rfl) rfl ?_
      refine wl_val (q_loadF (i := v105) (j := 1) (v := .slice ((y0[(Int.toNat v105)]!).2.1.1) ((y0[(Int.toNat v105)]!).2.1.2.2.length) ((y0[(Int.toNat v105)]!).2.1.2.1)) ON24 (Tv.o (hp0.bel hB122)) (Tv.g (hp0.bel hB122) hg127) rfl rfl) rfl ?_
      refine wl_val (q_len SL24 rfl (Vw.len (Tv.rowC0 (hp0.bel hB122) hg127))) rfl ?_
      refine wl_val (g_eql (a := ((p0[(Int.toNat v105)]!.2.1).length : Int)) (b := 0) rfl rfl) rfl ?_
      refine wl_nil ?_
      refine hK126 _ _ ?_
      refine w_condI (p := ((p0[(Int.toNat v105)]!.2.1).length : Int) = 0) (b := (decide (((p0[(Int.toNat v105)]!.2.1).length : Int) = 0))) rfl decide_eq_true_iff (fun h128 => ?_) (fun h128 => ?_)
      · replace hm := hm.1 h128
        refine w_region ?_
        refine wl_val (g_move (v := .slice a102 n103 c104) rfl) rfl ?_
        refine wl_val (g_move (v := .int .i64 v105) rfl) rfl ?_
        refine wl_step rfl (q_lit1 (y := (v105 : Int)) SL24 rfl rfl (by decide) hS123) ?_
        rintro _ w129 ⟨a130, rfl, hS132, hE131⟩
        have hB134 := hB122.trans (Ext.stp hE131 hS123.base)
        have hS140 := hS132.f1
        obtain ⟨hg141, hm⟩ := hm
        refine wl_step rfl (q_append SL24 rfl rfl hS140 (oS.vw hS140.g1) hg141 (by decide)) ?_
        rintro _ w135 ⟨a136, c137, rfl, hS139, hb138⟩
        have hB142 := hB134.trans hb138
        refine wl_val (g_assign (v := .slice a136 (n103 + 1) c137) rfl) rfl ?_
        refine wl_nil ?_
        refine hK125 _ _ ?_
        refine w_region ?_
        refine wl_val (g_move (v := .int .i64 v105) rfl) rfl ?_
        obtain ⟨hg143, hm⟩ := hm
        refine wl_val (g_add (a := v105) (b := 1) rfl rfl hg143) rfl ?_
        refine wl_val (g_assign (v := .int .i64 (v105 + 1)) rfl) rfl ?_
        refine wl_nil ?_
        have hS144 := hS139.f1
        have hS145 := hS144.tail
        exact ⟨((x101 ++ ([v105])), a136, (n103 + 1), c137, (v105 + 1)), hm.2, ⟨rfl, rfl, rfl, trivial⟩, ⟨hm.1, hB142, hS145⟩⟩
      · replace hm := hm.2 h128
        refine w_skip ?_
        refine hK125 _ _ ?_
        refine w_region ?_
        refine wl_val (g_move (v := .int .i64 v105) rfl) rfl ?_
        obtain ⟨hg146, hm⟩ := hm
        refine wl_val (g_add (a := v105) (b := 1) rfl rfl hg146) rfl ?_
        refine wl_val (g_assign (v := .int .i64 (v105 + 1)) rfl) rfl ?_
        refine wl_nil ?_
        exact ⟨(x101, a102, n103, c104, (v105 + 1)), hm.2, ⟨rfl, rfl, rfl, trivial⟩, ⟨hm.1, hB122, hS123⟩⟩
    · replace hm := hm.2 h124
      refine w_exit ?_
      exact ⟨(x101, a102, n103, c104), ⟨rfl, trivial⟩, ⟨hm, hB122, hS123⟩⟩
  · rintro ⟨x95, a96, n97, c98⟩ b_ w147 ⟨hm, hB148, hS149⟩
    show Wp _ _ _ _ (upds b_ [(3, .slice a96 n97 c98)]) w147
    refine w_seq fun K150 hK150 => ?_
    refine w_region ?_
    refine wl_val (g_move (v := .slice a96 n97 c98) rfl) rfl ?_
    refine wl_val (g_assign (v := .slice a96 n97 c98) rfl) rfl ?_
    refine wl_nil ?_
    refine hK150 _ _ ?_
    refine w_ret ?_
    repeat first | with_reducible refine q_then ?_ | with_reducible refine q_block ?_
    exact ret1 rfl (by decide) ⟨_, _, _, _, hm, rfl, toExt hB148, hS149⟩

theorem m_impl_FreeCues_fn {w : World} {a0 : Option Addr} {n0 c0 : Nat} {y0 : List CueD} {p0 : List CueC} {Q : (List Int) → Prop} (hp0 : Tv w.heap.size w a0 n0 c0 y0 p0) (hm : m_impl_FreeCues p0 Q) :
    Fn Try.prog 30 #[.slice a0 n0 c0] w (fun v w' => ∃ (r0 : List Int) (a0 : Option Addr) (n0 c0 : Nat), Q r0 ∧ v = .slice a0 n0 c0 ∧ Ext w w' ∧ Sep w' w.heap.size [oS 3 a0 n0 c0 r0]) := by
  unfold m_impl_FreeCues at hm
  have hB0 := Below.refl w.heap.size w
  have hS0 : Sep w w.heap.size [] := Sep.nil (Nat.le_refl _)
  refine fn_of_wp Try.func30 rfl (by kernel_rfl) (Nat.le_of_ble_eq_true rfl) ?_
  refine w_seq fun K1 hK1 => ?_
  refine w_region ?_
  refine wl_val (g_assign (v := .slice none 0 0) rfl) rfl ?_
  refine wl_nil ?_
  refine hK1 _ _ ?_
  refine w_seq fun K2 hK2 => ?_
  refine w_seq fun K3 hK3 => ?_
  refine w_region ?_
  refine wl_val (g_move (v := .slice a0 n0 c0) rfl) rfl ?_
  refine wl_step rfl (g_call (vs := #[.slice a0 n0 c0]) CF29 (args1 rfl) (m_impl_CuesOk_fn ((hp0.bel hB0).up hS0) hm)) ?_
  rintro _ w4 ⟨r7, hm, rfl, hE5⟩
  have hB8 := hB0.trans (Ext.stp hE5 hS0.base)
  have hS9 := hS0.ext hE5
  refine wl_val (g_not (a := r7) rfl) rfl ?_
  refine wl_nil ?_
  refine hK3 _ _ ?_
  refine w_condI (p := ¬ (r7 = true)) (b := (!r7)) rfl (i_not Iff.rfl) (fun h10 => ?_) (fun h10 => ?_)
  · replace hm := hm.1 h10
    refine w_seq fun K11 hK11 => ?_
    refine w_region ?_
    refine wl_val (g_assign (v := .slice none 0 0) rfl) rfl ?_
    refine wl_nil ?_
    refine hK11 _ _ ?_
    refine w_ret ?_
    have hS12 := hS9.nilS (α := Int) (E := 3)
    repeat first | with_reducible refine q_then ?_ | with_reducible refine q_block ?_
    exact ret1 rfl (by decide) ⟨_, _, _, _, hm, rfl, toExt hB8, hS12⟩
  · replace hm := hm.2 h10
    refine w_skip ?_
    refine hK2 _ _ ?_
    refine w_seq fun K14 hK14 => ?_
    refine w_region ?_
    refine wl_step rfl (q_lit0 (α := Int) rfl SL24 hS9) ?_
    rintro _ w15 ⟨a16, rfl, hS18, hE17⟩
    have hB20 := hB8.trans (Ext.stp hE17 hS9.base)
    refine wl_val (g_assign (v := .slice a16 0 0) rfl) rfl ?_
    refine wl_nil ?_
    refine hK14 _ _ ?_
    refine w_cut (σ := List Int × Option Addr × Nat × Nat) (fun ⟨x116, a117, n118, c119⟩ => [(3, .slice a117 n118 c119)]) (fun ⟨x116, a117, n118, c119⟩ w' => m_impl_FreeCues_K0 Q x116 ∧ Below w.heap.size w w' ∧ Sep w' w.heap.size [oS 3 a117 n118 c119 (x116 : List Int)]) ?_ ?_
    · refine w_seq fun K121 hK121 => ?_
      refine w_region ?_
      refine wl_val (g_move (v := .slice a0 n0 c0) rfl) rfl ?_
      refine wl_val (q_len SL26 rfl (Tv.len (hp0.bel hB20))) rfl ?_
      refine wl_val (g_move (v := .int .i64 0) rfl) rfl ?_
      refine wl_nil ?_
      refine hK121 _ _ ?_
      refine w_block ?_
      obtain ⟨I127, μ128, h0129, hr130⟩ := hm
      refine w_for (σ := List Int × Option Addr × Nat × Nat × Int) (fun ⟨x122, a123, n124, c125, v126⟩ => [(3, .slice a123 n124 c125), (10, .slice a0 n0 c0), (11, .int .i64 (p0.length : Int)), (12, .int .i64 v126)]) (fun ⟨x122, a123, n124, c125, v126⟩ w' => I127 x122 v126 ∧ Below w.heap.size w w' ∧ Sep w' w.heap.size [oS 3 a123 n124 c125 (x122 : List Int)]) (fun ⟨x122, a123, n124, c125, v126⟩ => μ128 x122 v126) ([], a16, 0, 0, 0) ⟨rfl, rfl, rfl, rfl, trivial⟩ ⟨h0129, hB20, hS18⟩ ?_
      rintro ⟨x122, a123, n124, c125, v126⟩ b_ w131 ⟨hi_, hB132, hS133⟩
      show Wp _ _ _ _ (upds b_ [(3, .slice a123 n124 c125), (10, .slice a0 n0 c0), (11, .int .i64 (p0.length : Int)), (12, .int .i64 v126)]) w131
      have hm := hr130 x122 v126 hi_
      refine w_seq fun K135 hK135 => ?_
      refine w_region ?_
      refine wl_val (g_lss (a := v126) (b := (p0.length : Int)) rfl rfl) rfl ?_
      refine wl_nil ?_
      refine hK135 _ _ ?_
      refine w_seq fun K136 hK136 => ?_
      refine w_condI (p := v126 < (p0.length : Int)) (b := (decide (v126 < (p0.length : Int)))) rfl decide_eq_true_iff (fun h137 => ?_) (fun h137 => ?_)
      · replace hm := hm.1 h137
        refine w_skip ?_
        refine hK136 _ _ ?_
        refine w_seq fun K138 hK138 => ?_
        refine w_block ?_
        refine w_seq fun K139 hK139 => ?_
        refine w_region ?_
        refine wl_val (g_move (v := .int .i64 v126) rfl) rfl ?_
        obtain ⟨hg140, hm⟩ := hm
        refine wl_val (q_index (i := v126) SL26 rfl rfl (Tv.o (hp0.bel hB132)) (Tv.g (hp0.bel hB132) hg140)) rfl ?_
        refine wl_val (q_loadS (i := v126) (cs := [.int .i64 (p0[(Int.toNat v126)]!.1), .slice ((y0[(Int.toNat v126)]!).2.1.1) ((y0[(Int.toNat v126)]!).2.1.2.2.length) ((y0[(Int.toNat v126)]!).2.1.2.1), .slice ((y0[(Int.toNat v126)]!).2.2.1) ((y0[(Int.toNat v126)]!).2.2.2.2.length) ((y0[(Int.toNat v126)]!).2.2.2.1)]) AG39 (Tv.o (hp0.bel hB132)) (Tv.g (hp0.bel hB132) hg140) (by rw [← Tv.ticks (hp0.bel hB132) hg140]; rfl) rfl) rfl ?_
        refine wl_step rfl (q_alloc (cs := #[.int .i64 0, .slice none 0 0, .slice none 0 0]) ZR39 rfl hS133) ?_
        rintro _ w141 ⟨g142, rfl, hS144, hE143⟩
        have hB146 := hB132.trans (Ext.stp hE143 hS133.base)
        refine wl_val (g_assign (v := .int .i64 v126) rfl) rfl ?_
        refine wl_step rfl (q_storeB (i := 0) (bs' := #[.int .i64 (p0[(Int.toNat v126)]!.1), .slice ((y0[(Int.toNat v126)]!).2.1.1) ((y0[(Int.toNat v126)]!).2.1.2.2.length) ((y0[(Int.toNat v126)]!).2.1.2.1), .slice ((y0[(Int.toNat v126)]!).2.2.1) ((y0[(Int.toNat v126)]!).2.2.2.2.length) ((y0[(Int.toNat v126)]!).2.2.2.1)]) (vs := [.int .i64 (p0[(Int.toNat v126)]!.1), .slice ((y0[(Int.toNat v126)]!).2.1.1) ((y0[(Int.toNat v126)]!).2.1.2.2.length) ((y0[(Int.toNat v126)]!).2.1.2.1), .slice ((y0[(Int.toNat v126)]!).2.2.1) ((y0[(Int.toNat v126)]!).2.2.2.2.length) ((y0[(Int.toNat v126)]!).2.2.2.1)]) hS144 AG39.sz rfl rfl rfl (by simp [Value.oneCell']) (Nat.le_of_ble_eq_true rfl) rfl) ?_
        rintro _ w147 ⟨rfl, hS148, hb149⟩
        have hB150 := hB146.trans hb149
        refine wl_nil ?_
        refine hK139 _ _ ?_
        refine w_seq fun K151 hK151 => ?_
        refine w_region ?_
        refine wl_val (g_fieldAddr (q := (⟨g142, 0, none⟩ : Addr)) FL39_1 ON24 rfl) rfl ?_
        refine wl_val (q_loadB (i := 1) (bs := #[.int .i64 (p0[(Int.toNat v126)]!.1), .slice ((y0[(Int.toNat v126)]!).2.1.1) ((y0[(Int.toNat v126)]!).2.1.2.2.length) ((y0[(Int.toNat v126)]!).2.1.2.1), .slice ((y0[(Int.toNat v126)]!).2.2.1) ((y0[(Int.toNat v126)]!).2.2.2.2.length) ((y0[(Int.toNat v126)]!).2.2.2.1)]) hS148.g0 ON24 rfl rfl) rfl ?_
        refine wl_val (q_len SL24 rfl (Vw.len (Tv.rowC0 (hp0.bel hB150) hg140))) rfl ?_
        refine wl_val (g_eql (a := ((p0[(Int.toNat v126)]!.2.1).length : Int)) (b := 0) rfl rfl) rfl ?_
        refine wl_nil ?_
        refine hK151 _ _ ?_
        refine w_condI (p := ((p0[(Int.toNat v126)]!.2.1).length : Int) = 0) (b := (decide (((p0[(Int.toNat v126)]!.2.1).length : Int) = 0))) rfl decide_eq_true_iff (fun h152 => ?_) (fun h152 => ?_)
        · replace hm := hm.1 h152
          refine w_region ?_
          refine wl_val (g_move (v := .slice a123 n124 c125) rfl) rfl ?_
          refine wl_val (g_move (v := .int .i64 v126) rfl) rfl ?_
          refine wl_step rfl (q_lit1 (y := (v126 : Int)) SL24 rfl rfl (by decide) hS148) ?_
          rintro _ w153 ⟨a154, rfl, hS156, hE155⟩
          have hB158 := hB150.trans (Ext.stp hE155 hS148.base)
          have hS164 := hS156.f2
          obtain ⟨hg165, hm⟩ := hm
          refine wl_step rfl (q_append SL24 rfl rfl hS164 (oS.vw hS164.g1) hg165 (by decide)) ?_
          rintro _ w159 ⟨a160, c161, rfl, hS163, hb162⟩
          have hB166 := hB158.trans hb162
          refine wl_val (g_assign (v := .slice a160 (n124 + 1) c161) rfl) rfl ?_
          refine wl_nil ?_
          refine hK138 _ _ ?_
          refine w_region ?_
          obtain ⟨hg167, hm⟩ := hm
          refine wl_val (g_add (a := v126) (b := 1) rfl rfl hg167) rfl ?_
          refine wl_val (g_move (v := .int .i64 (v126 + 1)) rfl) rfl ?_
          refine wl_nil ?_
          have hS168 := hS163.f1
          have hS169 := hS168.tail
          have hS170 := hS169.f1
          have hS171 := hS170.tail
          exact ⟨((x122 ++ ([v126])), a160, (n124 + 1), c161, (v126 + 1)), hm.2, ⟨rfl, rfl, rfl, rfl, trivial⟩, ⟨hm.1, hB166, hS171⟩⟩
        · replace hm := hm.2 h152
          refine w_skip ?_
          refine hK138 _ _ ?_
          refine w_region ?_
          obtain ⟨hg172, hm⟩ := hm
          refine wl_val (g_add (a := v126) (b := 1) rfl rfl hg172) rfl ?_
          refine wl_val (g_move (v := .int .i64 (v126 + 1)) rfl) rfl ?_
          refine wl_nil ?_
          have hS173 := hS148.tail
          exact ⟨(x122, a123, n124, c125, (v126 + 1)), hm.2, ⟨rfl, rfl, rfl, rfl, trivial⟩, ⟨hm.1, hB150, hS173⟩⟩
      · replace hm := hm.2 h137
        refine w_exit ?_
        exact ⟨(x122, a123, n124, c125), ⟨rfl, trivial⟩, ⟨hm, hB132, hS133⟩⟩
    · rintro ⟨x116, a117, n118, c119⟩ b_ w174 ⟨hm, hB175, hS176⟩
      show Wp _ _ _ _ (upds b_ [(3, .slice a117 n118 c119)]) w174
      refine w_seq fun K177 hK177 => ?_
      refine w_region ?_
      refine wl_val (g_move (v := .slice a117 n118 c119) rfl) rfl ?_
      refine wl_val (g_assign (v := .slice a117 n118 c119) rfl) rfl ?_
      refine wl_nil ?_
      refine hK177 _ _ ?_
      refine w_ret ?_
      repeat first | with_reducible refine q_then ?_ | with_reducible refine q_block ?_
      exact ret1 rfl (by decide) ⟨_, _, _, _, hm, rfl, toExt hB175, hS176⟩

theorem m_spec_CueOrder_fn {w : World} {a0 : Option Addr} {n0 c0 : Nat} {y0 : List CueD} {p0 : List CueC} {Q : (List Int) → Prop} (hp0 : Tv w.heap.size w a0 n0 c0 y0 p0) (hm : m_spec_CueOrder p0 Q) :
    Fn Try.prog 46 #[.slice a0 n0 c0] w (fun v w' => ∃ (r0 : List Int) (a0 : Option Addr) (n0 c0 : Nat), Q r0 ∧ v = .slice a0 n0 c0 ∧ Ext w w' ∧ Sep w' w.heap.size [oS 3 a0 n0 c0 r0]) := by
  unfold m_spec_CueOrder at hm
  have hB0 := Below.refl w.heap.size w
  have hS0 : Sep w w.heap.size [] := Sep.nil (Nat.le_refl _)
  refine fn_of_wp Try.func46 rfl (by kernel_rfl) (Nat.le_of_ble_eq_true rfl) ?_
  refine w_seq fun K1 hK1 => ?_
  refine w_region ?_
  refine wl_val (g_assign (v := .slice none 0 0) rfl) rfl ?_
  refine wl_nil ?_
  refine hK1 _ _ ?_
  refine w_seq fun K2 hK2 => ?_
  refine w_region ?_
  refine wl_step rfl (q_lit0 (α := Int) rfl SL24 hS0) ?_
  rintro _ w3 ⟨a4, rfl, hS6, hE5⟩
  have hB8 := hB0.trans (Ext.stp hE5 hS0.base)
  refine wl_val (g_assign (v := .slice a4 0 0) rfl) rfl ?_
  refine wl_nil ?_
  refine hK2 _ _ ?_
  refine w_seq fun K9 hK9 => ?_
  refine w_seq fun K10 hK10 => ?_
  refine w_region ?_
  refine wl_val (g_move (v := .slice a0 n0 c0) rfl) rfl ?_
  refine wl_step rfl (g_call (vs := #[.slice a0 n0 c0]) CF35 (args1 rfl) (m_spec_CuesOk_fn ((hp0.bel hB8).up hS6) hm)) ?_
  rintro _ w11 ⟨r14, hm, rfl, hE12⟩
  have hB15 := hB8.trans (Ext.stp hE12 hS6.base)
  have hS16 := hS6.ext hE12
  refine wl_val (g_not (a := r14) rfl) rfl ?_
  refine wl_nil ?_
  refine hK10 _ _ ?_
  refine w_condI (p := ¬ (r14 = true)) (b := (!r14)) rfl (i_not Iff.rfl) (fun h17 => ?_) (fun h17 => ?_)
  · replace hm := hm.1 h17
    refine w_seq fun K18 hK18 => ?_
    refine w_region ?_
    refine wl_val (g_move (v := .slice a4 0 0) rfl) rfl ?_
    refine wl_val (g_assign (v := .slice a4 0 0) rfl) rfl ?_
    refine wl_nil ?_
    refine hK18 _ _ ?_
    refine w_ret ?_
    repeat first | with_reducible refine q_then ?_ | with_reducible refine q_block ?_
    exact ret1 rfl (by decide) ⟨_, _, _, _, hm, rfl, toExt hB15, hS16⟩
  · replace hm := hm.2 h17
    refine w_skip ?_
    refine hK9 _ _ ?_
    refine w_seq fun K19 hK19 => ?_
    refine w_region ?_
    refine wl_val (g_move (v := .slice a0 n0 c0) rfl) rfl ?_
    refine wl_step rfl (g_call (vs := #[.slice a0 n0 c0]) CF58 (args1 rfl) (m_spec_l11Waits_fn ((hp0.bel hB15).up hS16) hm)) ?_
    rintro _ w20 ⟨r23, a24, n25, c26, hm, rfl, hE21, hN22⟩
    have hS28 := hS16.call1 hE21 hN22
    have hB29 := hB15.trans (Ext.stp hE21 hS16.base)
    refine wl_val (g_assign (v := .slice a24 n25 c26) rfl) rfl ?_
    refine wl_nil ?_
    refine hK19 _ _ ?_
    refine w_seq fun K30 hK30 => ?_
    refine w_region ?_
    refine wl_val (g_assign (v := .int .i64 0) rfl) rfl ?_
    refine wl_nil ?_
    refine hK30 _ _ ?_
    refine w_cut (σ := List Int × Option Addr × Nat × Nat) (fun ⟨x239, a240, n241, c242⟩ => [(3, .slice a240 n241 c242)]) (fun ⟨x239, a240, n241, c242⟩ w' => m_spec_CueOrder_K1 Q x239 ∧ Below w.heap.size w w' ∧ Sep w' w.heap.size [oS 3 a240 n241 c242 (x239 : List Int)]) ?_ ?_
    · refine w_block ?_
      have hS249 := hS28.f1
      obtain ⟨I250, μ251, h0252, hr253⟩ := hm
      refine w_for (σ := List Int × Option Addr × Nat × Nat × Int) (fun ⟨x244, a245, n246, c247, v248⟩ => [(0, .slice a0 n0 c0), (3, .slice a245 n246 c247), (4, .slice a24 n25 c26), (5, .int .i64 v248)]) (fun ⟨x244, a245, n246, c247, v248⟩ w' => I250 x244 v248 ∧ Below w.heap.size w w' ∧ Sep w' w.heap.size [oS 3 a245 n246 c247 (x244 : List Int), oS 3 a24 n25 c26 (r23 : List Int)]) (fun ⟨x244, a245, n246, c247, v248⟩ => μ251 x244 v248) ([], a4, 0, 0, 0) ⟨rfl, rfl, rfl, rfl, trivial⟩ ⟨h0252, hB29, hS249⟩ ?_
      rintro ⟨x244, a245, n246, c247, v248⟩ b_ w254 ⟨hi_, hB255, hS256⟩
      show Wp _ _ _ _ (upds b_ [(0, .slice a0 n0 c0), (3, .slice a245 n246 c247), (4, .slice a24 n25 c26), (5, .int .i64 v248)]) w254
      have hm := hr253 x244 v248 hi_
      refine w_seq fun K258 hK258 => ?_
      refine w_seq fun K259 hK259 => ?_
      refine w_region ?_
      refine wl_val (g_move (v := .slice a245 n246 c247) rfl) rfl ?_
      refine wl_val (q_len SL24 rfl (Vw.len (oS.vw hS256.g0))) rfl ?_
      refine wl_val (g_move (v := .slice a0 n0 c0) rfl) rfl ?_
      refine wl_val (q_len SL26 rfl (Tv.len (hp0.bel hB255))) rfl ?_
      refine wl_val (g_lss (a := (x244.length : Int)) (b := (p0.length : Int)) rfl rfl) rfl ?_
      refine wl_nil ?_
      refine hK259 _ _ ?_
      refine w_condI (p := (x244.length : Int) < (p0.length : Int)) (b := (decide ((x244.length : Int) < (p0.length : Int)))) rfl decide_eq_true_iff (fun h260 => ?_) (fun h260 => ?_)
      · replace hm := hm.1 h260
        refine w_skip ?_
        refine hK258 _ _ ?_
        refine w_block ?_
        refine w_seq fun K261 hK261 => ?_
        refine w_region ?_
        refine wl_val (g_assign (v := .int .i64 (-1)) rfl) rfl ?_
        refine wl_nil ?_
        refine hK261 _ _ ?_
        refine w_cut (σ := Int) (fun v262 => [(0, .slice a0 n0 c0), (3, .slice a245 n246 c247), (4, .slice a24 n25 c26), (5, .int .i64 v248), (6, .int .i64 v262)]) (fun v262 w' => m_spec_CueOrder_K0 x244 v248 (fun x244' v248' => I250 x244' v248' ∧ μ251 x244' v248' < μ251 x244 v248) v262 ∧ Below w.heap.size w w' ∧ Sep w' w.heap.size [oS 3 a245 n246 c247 (x244 : List Int), oS 3 a24 n25 c26 (r23 : List Int)]) ?_ ?_
        · refine w_seq fun K264 hK264 => ?_
          refine w_region ?_
          refine wl_val (g_assign (v := .int .i64 0) rfl) rfl ?_
          refine wl_nil ?_
          refine hK264 _ _ ?_
          refine w_block ?_
          obtain ⟨I267, μ268, h0269, hr270⟩ := hm
          refine w_for (σ := Int × Int) (fun ⟨v265, v266⟩ => [(0, .slice a0 n0 c0), (3, .slice a245 n246 c247), (4, .slice a24 n25 c26), (5, .int .i64 v248), (6, .int .i64 v265), (7, .int .i64 v266)]) (fun ⟨v265, v266⟩ w' => I267 v265 v266 ∧ Below w.heap.size w w' ∧ Sep w' w.heap.size [oS 3 a245 n246 c247 (x244 : List Int), oS 3 a24 n25 c26 (r23 : List Int)]) (fun ⟨v265, v266⟩ => μ268 v265 v266) ((-1), 0) ⟨rfl, rfl, rfl, rfl, rfl, rfl, trivial⟩ ⟨h0269, hB255, hS256⟩ ?_
          rintro ⟨v265, v266⟩ b_ w271 ⟨hi_, hB272, hS273⟩
          show Wp _ _ _ _ (upds b_ [(0, .slice a0 n0 c0), (3, .slice a245 n246 c247), (4, .slice a24 n25 c26), (5, .int .i64 v248), (6, .int .i64 v265), (7, .int .i64 v266)]) w271
          have hm := hr270 v265 v266 hi_
          refine w_seq fun K275 hK275 => ?_
          refine w_seq fun K276 hK276 => ?_
          refine w_region ?_
          refine wl_val (g_move (v := .int .i64 v266) rfl) rfl ?_
          refine wl_val (g_move (v := .slice a0 n0 c0) rfl) rfl ?_
          refine wl_val (q_len SL26 rfl (Tv.len (hp0.bel hB272))) rfl ?_
          refine wl_val (g_lss (a := v266) (b := (p0.length : Int)) rfl rfl) rfl ?_
          refine wl_val (g_move (v := .bool (decide (v266 < (p0.length : Int)))) rfl) rfl ?_
          refine wl_guard (c := (decide (v266 < (p0.length : Int))) = true) (val := .int .i64 v265) (b := ((decide (v266 < (p0.length : Int))) == true)) (gv_some rfl rfl rfl) beq_iff_eq (fun hc277 => ?_) ?_
          · have hq8 : v266 < (p0.length : Int) := (decide_eq_true_iff.mp hc277)
            exact g_move (v := .int .i64 v265) rfl
          refine wl_guard (c := (decide (v266 < (p0.length : Int))) = true) (val := .bool (decide (v265 < 0))) (b := ((decide (v266 < (p0.length : Int))) == true)) (gv_some rfl rfl rfl) beq_iff_eq (fun hc278 => ?_) ?_
          · have hq8 : v266 < (p0.length : Int) := (decide_eq_true_iff.mp hc278)
            exact g_lss (a := v265) (b := 0) (if_pos hc278) rfl
          refine wl_val (g_pick_and (b := (decide (v266 < (p0.length : Int)))) (q := (decide (v265 < 0))) rfl rfl) rfl ?_
          refine wl_nil ?_
          refine hK276 _ _ ?_
          refine w_condI (p := ((v266 < (p0.length : Int)) ∧ (v265 < 0))) (b := ((decide (v266 < (p0.length : Int))) && (decide (v265 < 0)))) rfl (i_and decide_eq_true_iff decide_eq_true_iff) (fun h279 => ?_) (fun h279 => ?_)
          · replace hm := hm.1 h279
            refine w_skip ?_
            refine hK275 _ _ ?_
            refine w_seq fun K280 hK280 => ?_
            refine w_block ?_
            refine w_seq fun K281 hK281 => ?_
            refine w_region ?_
            refine wl_val (g_move (v := .int .i64 v248) rfl) rfl ?_
            refine wl_val (g_move (v := .int .i64 v266) rfl) rfl ?_
            obtain ⟨hg282, hm⟩ := hm
            refine wl_val (g_shr (a := v248) (b := v266) rfl rfl hg282) rfl ?_
            obtain ⟨hg283, hm⟩ := hm
            refine wl_val (g_band (a := (sar v248 v266)) (b := 1) rfl rfl hg283) rfl ?_
            refine wl_val (g_eql (a := (band (sar v248 v266) 1)) (b := 0) rfl rfl) rfl ?_
            refine wl_val (g_move (v := .bool (decide ((band (sar v248 v266) 1) = 0))) rfl) rfl ?_
            refine wl_guard (c := (decide ((band (sar v248 v266) 1) = 0)) = true) (val := .slice a24 n25 c26) (b := ((decide ((band (sar v248 v266) 1) = 0)) == true)) (gv_some rfl rfl rfl) beq_iff_eq (fun hc284 => ?_) ?_
            · have hq9 : (band (sar v248 v266) 1) = 0 := (decide_eq_true_iff.mp hc284)
              exact g_move (v := .slice a24 n25 c26) rfl
            refine wl_guard (c := (decide ((band (sar v248 v266) 1) = 0)) = true) (val := .int .i64 v266) (b := ((decide ((band (sar v248 v266) 1) = 0)) == true)) (gv_some rfl rfl rfl) beq_iff_eq (fun hc285 => ?_) ?_
            · have hq9 : (band (sar v248 v266) 1) = 0 := (decide_eq_true_iff.mp hc285)
              exact g_move (v := .int .i64 v266) rfl
            obtain ⟨hg287, hm⟩ := hm
            refine wl_guard (c := (decide ((band (sar v248 v266) 1) = 0)) = true) (val := .pointer (some ((adr a24).add ((Int.toNat v266) * El.m Int)))) (b := ((decide ((band (sar v248 v266) 1) = 0)) == true)) (gv_some rfl rfl rfl) beq_iff_eq (fun hc286 => ?_) ?_
            · have hq9 : (band (sar v248 v266) 1) = 0 := (decide_eq_true_iff.mp hc286)
              exact q_index (i := v266) SL24 (if_pos hc286) (if_pos hc286) (oS.vw hS273.g1) (hg287 hq9)
            refine wl_guard (c := (decide ((band (sar v248 v266) 1) = 0)) = true) (val := .int .i64 (r23[(Int.toNat v266)]!)) (b := ((decide ((band (sar v248 v266) 1) = 0)) == true)) (gv_some rfl rfl rfl) beq_iff_eq (fun hc288 => ?_) ?_
            · have hq9 : (band (sar v248 v266) 1) = 0 := (decide_eq_true_iff.mp hc288)
              exact q_load (i := v266) (v := .int .i64 (r23[(Int.toNat v266)]!)) ON3 (oS.vw hS273.g1) (hg287 hq9) rfl (if_pos hc288)
            refine wl_guard (c := (decide ((band (sar v248 v266) 1) = 0)) = true) (val := .int .i64 v248) (b := ((decide ((band (sar v248 v266) 1) = 0)) == true)) (gv_some rfl rfl rfl) beq_iff_eq (fun hc289 => ?_) ?_
            · have hq9 : (band (sar v248 v266) 1) = 0 := (decide_eq_true_iff.mp hc289)
              exact g_move (v := .int .i64 v248) rfl
            obtain ⟨hg291, hm⟩ := hm
            refine wl_guard (c := (decide ((band (sar v248 v266) 1) = 0)) = true) (val := .int .i64 (bor (r23[(Int.toNat v266)]!) v248)) (b := ((decide ((band (sar v248 v266) 1) = 0)) == true)) (gv_some rfl rfl rfl) beq_iff_eq (fun hc290 => ?_) ?_
            · have hq9 : (band (sar v248 v266) 1) = 0 := (decide_eq_true_iff.mp hc290)
              exact g_bor (a := r23[(Int.toNat v266)]!) (b := v248) (if_pos hc290) (if_pos hc290) (hg291 hq9)
            refine wl_guard (c := (decide ((band (sar v248 v266) 1) = 0)) = true) (val := .int .i64 v248) (b := ((decide ((band (sar v248 v266) 1) = 0)) == true)) (gv_some rfl rfl rfl) beq_iff_eq (fun hc292 => ?_) ?_
            · have hq9 : (band (sar v248 v266) 1) = 0 := (decide_eq_true_iff.mp hc292)
              exact g_move (v := .int .i64 v248) rfl
            refine wl_guard (c := (decide ((band (sar v248 v266) 1) = 0)) = true) (val := .bool (decide ((bor (r23[(Int.toNat v266)]!) v248) = v248))) (b := ((decide ((band (sar v248 v266) 1) = 0)) == true)) (gv_some rfl rfl rfl) beq_iff_eq (fun hc293 => ?_) ?_
            · have hq9 : (band (sar v248 v266) 1) = 0 := (decide_eq_true_iff.mp hc293)
              exact g_eql (a := (bor (r23[(Int.toNat v266)]!) v248)) (b := v248) (if_pos hc293) (if_pos hc293)
            refine wl_val (g_pick_and (b := (decide ((band (sar v248 v266) 1) = 0))) (q := (decide ((bor (r23[(Int.toNat v266)]!) v248) = v248))) rfl rfl) rfl ?_
            refine wl_nil ?_
            refine hK281 _ _ ?_
            refine w_condI (p := (((band (sar v248 v266) 1) = 0) ∧ ((bor (r23[(Int.toNat v266)]!) v248) = v248))) (b := ((decide ((band (sar v248 v266) 1) = 0)) && (decide ((bor (r23[(Int.toNat v266)]!) v248) = v248)))) rfl (i_and decide_eq_true_iff decide_eq_true_iff) (fun h294 => ?_) (fun h294 => ?_)
            · replace hm := hm.1 h294
              refine w_region ?_
              refine wl_val (g_move (v := .int .i64 v266) rfl) rfl ?_
              refine wl_val (g_assign (v := .int .i64 v266) rfl) rfl ?_
              refine wl_nil ?_
              refine hK280 _ _ ?_
              refine w_region ?_
              refine wl_val (g_move (v := .int .i64 v266) rfl) rfl ?_
              obtain ⟨hg295, hm⟩ := hm
              refine wl_val (g_add (a := v266) (b := 1) rfl rfl hg295) rfl ?_
              refine wl_val (g_assign (v := .int .i64 (v266 + 1)) rfl) rfl ?_
              refine wl_nil ?_
              exact ⟨(v266, (v266 + 1)), hm.2, ⟨rfl, rfl, rfl, rfl, rfl, rfl, trivial⟩, ⟨hm.1, hB272, hS273⟩⟩
            · replace hm := hm.2 h294
              refine w_skip ?_
              refine hK280 _ _ ?_
              refine w_region ?_
              refine wl_val (g_move (v := .int .i64 v266) rfl) rfl ?_
              obtain ⟨hg296, hm⟩ := hm
              refine wl_val (g_add (a := v266) (b := 1) rfl rfl hg296) rfl ?_
              refine wl_val (g_assign (v := .int .i64 (v266 + 1)) rfl) rfl ?_
              refine wl_nil ?_
              exact ⟨(v265, (v266 + 1)), hm.2, ⟨rfl, rfl, rfl, rfl, rfl, rfl, trivial⟩, ⟨hm.1, hB272, hS273⟩⟩
          · replace hm := hm.2 h279
            refine w_exit ?_
            exact ⟨(v265), ⟨rfl, rfl, rfl, rfl, rfl, trivial⟩, ⟨hm, hB272, hS273⟩⟩
        · rintro v262 b_ w297 ⟨hm, hB298, hS299⟩
          show Wp _ _ _ _ (upds b_ [(0, .slice a0 n0 c0), (3, .slice a245 n246 c247), (4, .slice a24 n25 c26), (5, .int .i64 v248), (6, .int .i64 v262)]) w297
          refine w_seq fun K300 hK300 => ?_
          refine w_region ?_
          refine wl_val (g_move (v := .slice a245 n246 c247) rfl) rfl ?_
          refine wl_val (g_move (v := .int .i64 v262) rfl) rfl ?_
          refine wl_step rfl (q_lit1 (y := (v262 : Int)) SL24 rfl rfl (by decide) hS299) ?_
          rintro _ w301 ⟨a302, rfl, hS304, hE303⟩
          have hB306 := hB298.trans (Ext.stp hE303 hS299.base)
          have hS312 := hS304.f1
          obtain ⟨hg313, hm⟩ := hm
          refine wl_step rfl (q_append SL24 rfl rfl hS312 (oS.vw hS312.g1) hg313 (by decide)) ?_
          rintro _ w307 ⟨a308, c309, rfl, hS311, hb310⟩
          have hB314 := hB306.trans hb310
          refine wl_val (g_assign (v := .slice a308 (n246 + 1) c309) rfl) rfl ?_
          refine wl_nil ?_
          refine hK300 _ _ ?_
          refine w_region ?_
          refine wl_val (g_move (v := .int .i64 v248) rfl) rfl ?_
          refine wl_val (g_move (v := .int .i64 v262) rfl) rfl ?_
          obtain ⟨hg315, hm⟩ := hm
          obtain ⟨hg316, hm⟩ := hm
          refine wl_val (g_shl (a := 1) (b := v262) rfl rfl hg315 hg316) rfl ?_
          obtain ⟨hg317, hm⟩ := hm
          refine wl_val (g_bor (a := v248) (b := (sal 1 v262)) rfl rfl hg317) rfl ?_
          refine wl_val (g_assign (v := .int .i64 (bor v248 (sal 1 v262))) rfl) rfl ?_
          refine wl_nil ?_
          have hS318 := hS311.f1
          have hS319 := hS318.tail
          exact ⟨((x244 ++ ([v262])), a308, (n246 + 1), c309, (bor v248 (sal 1 v262))), hm.2, ⟨rfl, rfl, rfl, rfl, trivial⟩, ⟨hm.1, hB314, hS319⟩⟩
      · replace hm := hm.2 h260
        refine w_exit ?_
        have hS320 := hS256.f1
        have hS321 := hS320.tail
        exact ⟨(x244, a245, n246, c247), ⟨rfl, trivial⟩, ⟨hm, hB255, hS321⟩⟩
    · rintro ⟨x239, a240, n241, c242⟩ b_ w322 ⟨hm, hB323, hS324⟩
      show Wp _ _ _ _ (upds b_ [(3, .slice a240 n241 c242)]) w322
      refine w_seq fun K325 hK325 => ?_
      refine w_region ?_
      refine wl_val (g_move (v := .slice a240 n241 c242) rfl) rfl ?_
      refine wl_val (g_assign (v := .slice a240 n241 c242) rfl) rfl ?_
      refine wl_nil ?_
      refine hK325 _ _ ?_
      refine w_ret ?_
      repeat first | with_reducible refine q_then ?_ | with_reducible refine q_block ?_
      exact ret1 rfl (by decide) ⟨_, _, _, _, hm, rfl, toExt hB323, hS324⟩

theorem m_impl_CueOrder_fn {w : World} {a0 : Option Addr} {n0 c0 : Nat} {y0 : List CueD} {p0 : List CueC} {Q : (List Int) → Prop} (hp0 : Tv w.heap.size w a0 n0 c0 y0 p0) (hm : m_impl_CueOrder p0 Q) :
    Fn Try.prog 28 #[.slice a0 n0 c0] w (fun v w' => ∃ (r0 : List Int) (a0 : Option Addr) (n0 c0 : Nat), Q r0 ∧ v = .slice a0 n0 c0 ∧ Ext w w' ∧ Sep w' w.heap.size [oS 3 a0 n0 c0 r0]) := by
  unfold m_impl_CueOrder at hm
  have hB0 := Below.refl w.heap.size w
  have hS0 : Sep w w.heap.size [] := Sep.nil (Nat.le_refl _)
  refine fn_of_wp Try.func28 rfl (by kernel_rfl) (Nat.le_of_ble_eq_true rfl) ?_
  refine w_seq fun K1 hK1 => ?_
  refine w_region ?_
  refine wl_val (g_assign (v := .slice none 0 0) rfl) rfl ?_
  refine wl_nil ?_
  refine hK1 _ _ ?_
  refine w_seq fun K2 hK2 => ?_
  refine w_seq fun K3 hK3 => ?_
  refine w_region ?_
  refine wl_val (g_move (v := .slice a0 n0 c0) rfl) rfl ?_
  refine wl_step rfl (g_call (vs := #[.slice a0 n0 c0]) CF29 (args1 rfl) (m_impl_CuesOk_fn ((hp0.bel hB0).up hS0) hm)) ?_
  rintro _ w4 ⟨r7, hm, rfl, hE5⟩
  have hB8 := hB0.trans (Ext.stp hE5 hS0.base)
  have hS9 := hS0.ext hE5
  refine wl_val (g_not (a := r7) rfl) rfl ?_
  refine wl_nil ?_
  refine hK3 _ _ ?_
  refine w_condI (p := ¬ (r7 = true)) (b := (!r7)) rfl (i_not Iff.rfl) (fun h10 => ?_) (fun h10 => ?_)
  · replace hm := hm.1 h10
    refine w_seq fun K11 hK11 => ?_
    refine w_region ?_
    refine wl_val (g_assign (v := .slice none 0 0) rfl) rfl ?_
    refine wl_nil ?_
    refine hK11 _ _ ?_
    refine w_ret ?_
    have hS12 := hS9.nilS (α := Int) (E := 3)
    repeat first | with_reducible refine q_then ?_ | with_reducible refine q_block ?_
    exact ret1 rfl (by decide) ⟨_, _, _, _, hm, rfl, toExt hB8, hS12⟩
  · replace hm := hm.2 h10
    refine w_skip ?_
    refine hK2 _ _ ?_
    refine w_seq fun K14 hK14 => ?_
    refine w_region ?_
    refine wl_step rfl (q_lit0 (α := Int) rfl SL24 hS9) ?_
    rintro _ w15 ⟨a16, rfl, hS18, hE17⟩
    have hB20 := hB8.trans (Ext.stp hE17 hS9.base)
    refine wl_val (g_assign (v := .slice a16 0 0) rfl) rfl ?_
    refine wl_val (g_assign (v := .int .i64 0) rfl) rfl ?_
    refine wl_nil ?_
    refine hK14 _ _ ?_
    refine w_cut (σ := List Int × Option Addr × Nat × Nat) (fun ⟨x214, a215, n216, c217⟩ => [(3, .slice a215 n216 c217)]) (fun ⟨x214, a215, n216, c217⟩ w' => m_impl_CueOrder_K0 Q x214 ∧ Below w.heap.size w w' ∧ Sep w' w.heap.size [oS 3 a215 n216 c217 (x214 : List Int)]) ?_ ?_
    · refine w_block ?_
      obtain ⟨I224, μ225, h0226, hr227⟩ := hm
      refine w_for (σ := List Int × Option Addr × Nat × Nat × Int) (fun ⟨x219, a220, n221, c222, v223⟩ => [(0, .slice a0 n0 c0), (3, .slice a220 n221 c222), (4, .int .i64 v223)]) (fun ⟨x219, a220, n221, c222, v223⟩ w' => I224 x219 v223 ∧ Below w.heap.size w w' ∧ Sep w' w.heap.size [oS 3 a220 n221 c222 (x219 : List Int)]) (fun ⟨x219, a220, n221, c222, v223⟩ => μ225 x219 v223) ([], a16, 0, 0, 0) ⟨rfl, rfl, rfl, trivial⟩ ⟨h0226, hB20, hS18⟩ ?_
      rintro ⟨x219, a220, n221, c222, v223⟩ b_ w228 ⟨hi_, hB229, hS230⟩
      show Wp _ _ _ _ (upds b_ [(0, .slice a0 n0 c0), (3, .slice a220 n221 c222), (4, .int .i64 v223)]) w228
      have hm := hr227 x219 v223 hi_
      refine w_seq fun K232 hK232 => ?_
      refine w_seq fun K233 hK233 => ?_
      refine w_region ?_
      refine wl_val (g_move (v := .slice a220 n221 c222) rfl) rfl ?_
      refine wl_val (q_len SL24 rfl (Vw.len (oS.vw hS230.g0))) rfl ?_
      refine wl_val (g_move (v := .slice a0 n0 c0) rfl) rfl ?_
      refine wl_val (q_len SL26 rfl (Tv.len (hp0.bel hB229))) rfl ?_
      refine wl_val (g_lss (a := (x219.length : Int)) (b := (p0.length : Int)) rfl rfl) rfl ?_
      refine wl_nil ?_
      refine hK233 _ _ ?_
      refine w_condI (p := (x219.length : Int) < (p0.length : Int)) (b := (decide ((x219.length : Int) < (p0.length : Int)))) rfl decide_eq_true_iff (fun h234 => ?_) (fun h234 => ?_)
      · replace hm := hm.1 h234
        refine w_skip ?_
        refine hK232 _ _ ?_
        refine w_block ?_
        refine w_seq fun K235 hK235 => ?_
        refine w_region ?_
        refine wl_val (g_move (v := .slice a0 n0 c0) rfl) rfl ?_
        refine wl_val (q_len SL26 rfl (Tv.len (hp0.bel hB229))) rfl ?_
        refine wl_val (g_move (v := .int .i64 0) rfl) rfl ?_
        refine wl_nil ?_
        refine hK235 _ _ ?_
        refine w_block ?_
        obtain ⟨I237, μ238, h0239, hr240⟩ := hm
        refine w_for (σ := Int) (fun v236 => [(0, .slice a0 n0 c0), (3, .slice a220 n221 c222), (4, .int .i64 v223), (16, .slice a0 n0 c0), (17, .int .i64 (p0.length : Int)), (18, .int .i64 v236)]) (fun v236 w' => I237 v236 ∧ Below w.heap.size w w' ∧ Sep w' w.heap.size [oS 3 a220 n221 c222 (x219 : List Int)]) (fun v236 => μ238 v236) (0) ⟨rfl, rfl, rfl, rfl, rfl, rfl, trivial⟩ ⟨h0239, hB229, hS230⟩ ?_
        rintro v236 b_ w241 ⟨hi_, hB242, hS243⟩
        show Wp _ _ _ _ (upds b_ [(0, .slice a0 n0 c0), (3, .slice a220 n221 c222), (4, .int .i64 v223), (16, .slice a0 n0 c0), (17, .int .i64 (p0.length : Int)), (18, .int .i64 v236)]) w241
        have hm := hr240 v236 hi_
        refine w_seq fun K245 hK245 => ?_
        refine w_region ?_
        refine wl_val (g_lss (a := v236) (b := (p0.length : Int)) rfl rfl) rfl ?_
        refine wl_nil ?_
        refine hK245 _ _ ?_
        refine w_seq fun K246 hK246 => ?_
        refine w_condI (p := v236 < (p0.length : Int)) (b := (decide (v236 < (p0.length : Int)))) rfl decide_eq_true_iff (fun h247 => ?_) (fun h247 => ?_)
        · replace hm := hm.1 h247
          refine w_skip ?_
          refine hK246 _ _ ?_
          refine w_seq fun K248 hK248 => ?_
          refine w_block ?_
          refine w_seq fun K249 hK249 => ?_
          refine w_region ?_
          refine wl_val (g_move (v := .int .i64 v236) rfl) rfl ?_
          obtain ⟨hg250, hm⟩ := hm
          refine wl_val (q_index (i := v236) SL26 rfl rfl (Tv.o (hp0.bel hB242)) (Tv.g (hp0.bel hB242) hg250)) rfl ?_
          refine wl_val (q_loadS (i := v236) (cs := [.int .i64 (p0[(Int.toNat v236)]!.1), .slice ((y0[(Int.toNat v236)]!).2.1.1) ((y0[(Int.toNat v236)]!).2.1.2.2.length) ((y0[(Int.toNat v236)]!).2.1.2.1), .slice ((y0[(Int.toNat v236)]!).2.2.1) ((y0[(Int.toNat v236)]!).2.2.2.2.length) ((y0[(Int.toNat v236)]!).2.2.2.1)]) AG39 (Tv.o (hp0.bel hB242)) (Tv.g (hp0.bel hB242) hg250) (by rw [← Tv.ticks (hp0.bel hB242) hg250]; rfl) rfl) rfl ?_
          refine wl_step rfl (q_alloc (cs := #[.int .i64 0, .slice none 0 0, .slice none 0 0]) ZR39 rfl hS243) ?_
          rintro _ w251 ⟨g252, rfl, hS254, hE253⟩
          have hB256 := hB242.trans (Ext.stp hE253 hS243.base)
          refine wl_val (g_assign (v := .int .i64 v236) rfl) rfl ?_
          refine wl_step rfl (q_storeB (i := 0) (bs' := #[.int .i64 (p0[(Int.toNat v236)]!.1), .slice ((y0[(Int.toNat v236)]!).2.1.1) ((y0[(Int.toNat v236)]!).2.1.2.2.length) ((y0[(Int.toNat v236)]!).2.1.2.1), .slice ((y0[(Int.toNat v236)]!).2.2.1) ((y0[(Int.toNat v236)]!).2.2.2.2.length) ((y0[(Int.toNat v236)]!).2.2.2.1)]) (vs := [.int .i64 (p0[(Int.toNat v236)]!.1), .slice ((y0[(Int.toNat v236)]!).2.1.1) ((y0[(Int.toNat v236)]!).2.1.2.2.length) ((y0[(Int.toNat v236)]!).2.1.2.1), .slice ((y0[(Int.toNat v236)]!).2.2.1) ((y0[(Int.toNat v236)]!).2.2.2.2.length) ((y0[(Int.toNat v236)]!).2.2.2.1)]) hS254 AG39.sz rfl rfl rfl (by simp [Value.oneCell']) (Nat.le_of_ble_eq_true rfl) rfl) ?_
          rintro _ w257 ⟨rfl, hS258, hb259⟩
          have hB260 := hB256.trans hb259
          refine wl_nil ?_
          refine hK249 _ _ ?_
          refine w_seq fun K261 hK261 => ?_
          refine w_region ?_
          refine wl_val (q_loadBS (bs := #[.int .i64 (p0[(Int.toNat v236)]!.1), .slice ((y0[(Int.toNat v236)]!).2.1.1) ((y0[(Int.toNat v236)]!).2.1.2.2.length) ((y0[(Int.toNat v236)]!).2.1.2.1), .slice ((y0[(Int.toNat v236)]!).2.2.1) ((y0[(Int.toNat v236)]!).2.2.2.2.length) ((y0[(Int.toNat v236)]!).2.2.2.1)]) hS258.g0 AG39 rfl) rfl ?_
          refine wl_val (g_move (v := .int .i64 v236) rfl) rfl ?_
          refine wl_val (g_move (v := .int .i64 v223) rfl) rfl ?_
          refine wl_step rfl (g_call (vs := #[.agg #[.int .i64 (p0[(Int.toNat v236)]!.1), .slice ((y0[(Int.toNat v236)]!).2.1.1) ((y0[(Int.toNat v236)]!).2.1.2.2.length) ((y0[(Int.toNat v236)]!).2.1.2.1), .slice ((y0[(Int.toNat v236)]!).2.2.1) ((y0[(Int.toNat v236)]!).2.2.2.2.length) ((y0[(Int.toNat v236)]!).2.2.2.1)], .int .i64 v236, .int .i64 v223]) CF64 (args3 rfl rfl rfl) (m_impl_isNext_fn (p0[(Int.toNat v236)]!.1, p0[(Int.toNat v236)]!.2.1, p0[(Int.toNat v236)]!.2.2) ((Tv.rowC0 (hp0.bel hB260) hg250).up hS258) ((Tv.rowC1 (hp0.bel hB260) hg250).up hS258) v236 v223 hm)) ?_
          rintro _ w262 ⟨r265, hm, rfl, hE263⟩
          have hB266 := hB260.trans (Ext.stp hE263 hS258.base)
          have hS267 := hS258.ext hE263
          refine wl_nil ?_
          refine hK261 _ _ ?_
          refine w_condI (p := r265 = true) (b := r265) rfl Iff.rfl (fun h268 => ?_) (fun h268 => ?_)
          · replace hm := hm.1 h268
            refine w_seq fun K269 hK269 => ?_
            refine w_region ?_
            refine wl_val (g_move (v := .slice a220 n221 c222) rfl) rfl ?_
            refine wl_val (g_move (v := .int .i64 v236) rfl) rfl ?_
            refine wl_step rfl (q_lit1 (y := (v236 : Int)) SL24 rfl rfl (by decide) hS267) ?_
            rintro _ w270 ⟨a271, rfl, hS273, hE272⟩
            have hB275 := hB266.trans (Ext.stp hE272 hS267.base)
            have hS281 := hS273.f2
            obtain ⟨hg282, hm⟩ := hm
            refine wl_step rfl (q_append SL24 rfl rfl hS281 (oS.vw hS281.g1) hg282 (by decide)) ?_
            rintro _ w276 ⟨a277, c278, rfl, hS280, hb279⟩
            have hB283 := hB275.trans hb279
            refine wl_val (g_assign (v := .slice a277 (n221 + 1) c278) rfl) rfl ?_
            refine wl_nil ?_
            refine hK269 _ _ ?_
            refine w_seq fun K284 hK284 => ?_
            refine w_region ?_
            refine wl_val (g_move (v := .int .i64 v223) rfl) rfl ?_
            refine wl_val (g_move (v := .int .i64 v236) rfl) rfl ?_
            obtain ⟨hg285, hm⟩ := hm
            obtain ⟨hg286, hm⟩ := hm
            refine wl_val (g_shl (a := 1) (b := v236) rfl rfl hg285 hg286) rfl ?_
            obtain ⟨hg287, hm⟩ := hm
            refine wl_val (g_bor (a := v223) (b := (sal 1 v236)) rfl rfl hg287) rfl ?_
            refine wl_val (g_assign (v := .int .i64 (bor v223 (sal 1 v236))) rfl) rfl ?_
            refine wl_nil ?_
            refine hK284 _ _ ?_
            refine w_exit ?_
            have hS288 := hS280.f1
            have hS289 := hS288.tail
            have hS290 := hS289.f1
            have hS291 := hS290.tail
            exact ⟨((x219 ++ ([v236])), a277, (n221 + 1), c278, (bor v223 (sal 1 v236))), hm.2, ⟨rfl, rfl, rfl, trivial⟩, ⟨hm.1, hB283, hS291⟩⟩
          · replace hm := hm.2 h268
            refine w_skip ?_
            refine hK248 _ _ ?_
            refine w_region ?_
            obtain ⟨hg292, hm⟩ := hm
            refine wl_val (g_add (a := v236) (b := 1) rfl rfl hg292) rfl ?_
            refine wl_val (g_move (v := .int .i64 (v236 + 1)) rfl) rfl ?_
            refine wl_nil ?_
            have hS293 := hS267.tail
            exact ⟨((v236 + 1)), hm.2, ⟨rfl, rfl, rfl, rfl, rfl, rfl, trivial⟩, ⟨hm.1, hB266, hS293⟩⟩
        · replace hm := hm.2 h247
          refine w_exit ?_
          exact ⟨(x219, a220, n221, c222, v223), hm.2, ⟨rfl, rfl, rfl, trivial⟩, ⟨hm.1, hB242, hS243⟩⟩
      · replace hm := hm.2 h234
        refine w_exit ?_
        exact ⟨(x219, a220, n221, c222), ⟨rfl, trivial⟩, ⟨hm, hB229, hS230⟩⟩
    · rintro ⟨x214, a215, n216, c217⟩ b_ w294 ⟨hm, hB295, hS296⟩
      show Wp _ _ _ _ (upds b_ [(3, .slice a215 n216 c217)]) w294
      refine w_seq fun K297 hK297 => ?_
      refine w_region ?_
      refine wl_val (g_move (v := .slice a215 n216 c217) rfl) rfl ?_
      refine wl_val (g_assign (v := .slice a215 n216 c217) rfl) rfl ?_
      refine wl_nil ?_
      refine hK297 _ _ ?_
      refine w_ret ?_
      repeat first | with_reducible refine q_then ?_ | with_reducible refine q_block ?_
      exact ret1 rfl (by decide) ⟨_, _, _, _, hm, rfl, toExt hB295, hS296⟩

theorem m_spec_StartsOf_fn {w : World} {a0 : Option Addr} {n0 c0 : Nat} {y0 : List CueD} {p0 : List CueC} {Q : (List Int) → Prop} (hp0 : Tv w.heap.size w a0 n0 c0 y0 p0) (hm : m_spec_StartsOf p0 Q) :
    Fn Try.prog 48 #[.slice a0 n0 c0] w (fun v w' => ∃ (r0 : List Int) (a0 : Option Addr) (n0 c0 : Nat), Q r0 ∧ v = .slice a0 n0 c0 ∧ Ext w w' ∧ Sep w' w.heap.size [oS 3 a0 n0 c0 r0]) := by
  unfold m_spec_StartsOf at hm
  have hB0 := Below.refl w.heap.size w
  have hS0 : Sep w w.heap.size [] := Sep.nil (Nat.le_refl _)
  refine fn_of_wp Try.func48 rfl (by kernel_rfl) (Nat.le_of_ble_eq_true rfl) ?_
  refine w_seq fun K1 hK1 => ?_
  refine w_region ?_
  refine wl_val (g_assign (v := .slice none 0 0) rfl) rfl ?_
  refine wl_nil ?_
  refine hK1 _ _ ?_
  refine w_seq fun K2 hK2 => ?_
  refine w_seq fun K3 hK3 => ?_
  refine w_region ?_
  refine wl_val (g_move (v := .slice a0 n0 c0) rfl) rfl ?_
  refine wl_step rfl (g_call (vs := #[.slice a0 n0 c0]) CF35 (args1 rfl) (m_spec_CuesOk_fn ((hp0.bel hB0).up hS0) hm)) ?_
  rintro _ w4 ⟨r7, hm, rfl, hE5⟩
  have hB8 := hB0.trans (Ext.stp hE5 hS0.base)
  have hS9 := hS0.ext hE5
  refine wl_val (g_not (a := r7) rfl) rfl ?_
  refine wl_nil ?_
  refine hK3 _ _ ?_
  refine w_condI (p := ¬ (r7 = true)) (b := (!r7)) rfl (i_not Iff.rfl) (fun h10 => ?_) (fun h10 => ?_)
  · replace hm := hm.1 h10
    refine w_seq fun K11 hK11 => ?_
    refine w_region ?_
    refine wl_step rfl (q_lit0 (α := Int) rfl SL24 hS9) ?_
    rintro _ w12 ⟨a13, rfl, hS15, hE14⟩
    have hB17 := hB8.trans (Ext.stp hE14 hS9.base)
    refine wl_val (g_assign (v := .slice a13 0 0) rfl) rfl ?_
    refine wl_nil ?_
    refine hK11 _ _ ?_
    refine w_ret ?_
    repeat first | with_reducible refine q_then ?_ | with_reducible refine q_block ?_
    exact ret1 rfl (by decide) ⟨_, _, _, _, hm, rfl, toExt hB17, hS15⟩
  · replace hm := hm.2 h10
    refine w_skip ?_
    refine hK2 _ _ ?_
    refine w_seq fun K18 hK18 => ?_
    refine w_region ?_
    refine wl_val (g_move (v := .slice a0 n0 c0) rfl) rfl ?_
    refine wl_val (q_len SL26 rfl (Tv.len (hp0.bel hB8))) rfl ?_
    obtain ⟨hg19, hm⟩ := hm
    refine wl_step rfl (q_make (y := (0 : Int)) SL24 rfl rfl hg19.1 hg19.2 (by decide) hS9) ?_
    rintro _ w20 ⟨a21, rfl, hS23, hE22⟩
    have hB25 := hB8.trans (Ext.stp hE22 hS9.base)
    refine wl_val (g_assign (v := .slice a21 (Int.toNat (p0.length : Int)) (Int.toNat (p0.length : Int))) rfl) rfl ?_
    refine wl_nil ?_
    refine hK18 _ _ ?_
    refine w_seq fun K26 hK26 => ?_
    refine w_region ?_
    refine wl_val (g_move (v := .slice a0 n0 c0) rfl) rfl ?_
    refine wl_step rfl (g_call (vs := #[.slice a0 n0 c0]) CF46 (args1 rfl) (m_spec_CueOrder_fn ((hp0.bel hB25).up hS23) hm)) ?_
    rintro _ w27 ⟨r30, a31, n32, c33, hm, rfl, hE28, hN29⟩
    have hS35 := hS23.call1 hE28 hN29
    have hB36 := hB25.trans (Ext.stp hE28 hS23.base)
    refine wl_val (g_assign (v := .slice a31 n32 c33) rfl) rfl ?_
    refine wl_nil ?_
    refine hK26 _ _ ?_
    refine w_cut (σ := List Int) (fun x533 => [(3, .slice a21 (Int.toNat (p0.length : Int)) (Int.toNat (p0.length : Int)))]) (fun x533 w' => m_spec_StartsOf_K1 Q x533 ∧ Below w.heap.size w w' ∧ Sep w' w.heap.size [oS 3 a21 (Int.toNat (p0.length : Int)) (Int.toNat (p0.length : Int)) (x533 : List Int)]) ?_ ?_
    · refine w_seq fun K535 hK535 => ?_
      refine w_region ?_
      refine wl_val (g_assign (v := .int .i64 0) rfl) rfl ?_
      refine wl_nil ?_
      refine hK535 _ _ ?_
      refine w_block ?_
      have hS538 := hS35.f1
      obtain ⟨I539, μ540, h0541, hr542⟩ := hm
      refine w_for (σ := List Int × Int) (fun ⟨x536, v537⟩ => [(0, .slice a0 n0 c0), (3, .slice a21 (Int.toNat (p0.length : Int)) (Int.toNat (p0.length : Int))), (4, .slice a31 n32 c33), (5, .int .i64 v537)]) (fun ⟨x536, v537⟩ w' => I539 x536 v537 ∧ Below w.heap.size w w' ∧ Sep w' w.heap.size [oS 3 a21 (Int.toNat (p0.length : Int)) (Int.toNat (p0.length : Int)) (x536 : List Int), oS 3 a31 n32 c33 (r30 : List Int)]) (fun ⟨x536, v537⟩ => μ540 x536 v537) (List.replicate (Int.toNat (p0.length : Int)) (0 : Int), 0) ⟨rfl, rfl, rfl, rfl, trivial⟩ ⟨h0541, hB36, hS538⟩ ?_
      rintro ⟨x536, v537⟩ b_ w543 ⟨hi_, hB544, hS545⟩
      show Wp _ _ _ _ (upds b_ [(0, .slice a0 n0 c0), (3, .slice a21 (Int.toNat (p0.length : Int)) (Int.toNat (p0.length : Int))), (4, .slice a31 n32 c33), (5, .int .i64 v537)]) w543
      have hm := hr542 x536 v537 hi_
      refine w_seq fun K547 hK547 => ?_
      refine w_seq fun K548 hK548 => ?_
      refine w_region ?_
      refine wl_val (g_move (v := .int .i64 v537) rfl) rfl ?_
      refine wl_val (g_move (v := .slice a31 n32 c33) rfl) rfl ?_
      refine wl_val (q_len SL24 rfl (Vw.len (oS.vw hS545.g1))) rfl ?_
      refine wl_val (g_lss (a := v537) (b := (r30.length : Int)) rfl rfl) rfl ?_
      refine wl_nil ?_
      refine hK548 _ _ ?_
      refine w_condI (p := v537 < (r30.length : Int)) (b := (decide (v537 < (r30.length : Int)))) rfl decide_eq_true_iff (fun h549 => ?_) (fun h549 => ?_)
      · replace hm := hm.1 h549
        refine w_skip ?_
        refine hK547 _ _ ?_
        refine w_cut (σ := List Int) (fun x550 => [(0, .slice a0 n0 c0), (3, .slice a21 (Int.toNat (p0.length : Int)) (Int.toNat (p0.length : Int))), (4, .slice a31 n32 c33), (5, .int .i64 v537)]) (fun x550 w' => m_spec_StartsOf_K0 v537 (fun x536' v537' => I539 x536' v537' ∧ μ540 x536' v537' < μ540 x536 v537) x550 ∧ Below w.heap.size w w' ∧ Sep w' w.heap.size [oS 3 a21 (Int.toNat (p0.length : Int)) (Int.toNat (p0.length : Int)) (x550 : List Int), oS 3 a31 n32 c33 (r30 : List Int)]) ?_ ?_
        · refine w_block ?_
          refine w_seq fun K552 hK552 => ?_
          refine w_region ?_
          refine wl_val (g_move (v := .slice a31 n32 c33) rfl) rfl ?_
          refine wl_val (g_move (v := .int .i64 v537) rfl) rfl ?_
          obtain ⟨hg553, hm⟩ := hm
          refine wl_val (q_index (i := v537) SL24 rfl rfl (oS.vw hS545.g1) hg553) rfl ?_
          refine wl_val (q_load (i := v537) (v := .int .i64 (r30[(Int.toNat v537)]!)) ON3 (oS.vw hS545.g1) hg553 rfl rfl) rfl ?_
          refine wl_val (g_assign (v := .int .i64 (r30[(Int.toNat v537)]!)) rfl) rfl ?_
          refine wl_nil ?_
          refine hK552 _ _ ?_
          refine w_seq fun K554 hK554 => ?_
          refine w_region ?_
          refine wl_val (g_assign (v := .int .i64 0) rfl) rfl ?_
          refine wl_nil ?_
          refine hK554 _ _ ?_
          refine w_block ?_
          obtain ⟨I557, μ558, h0559, hr560⟩ := hm
          refine w_for (σ := List Int × Int) (fun ⟨x555, v556⟩ => [(0, .slice a0 n0 c0), (3, .slice a21 (Int.toNat (p0.length : Int)) (Int.toNat (p0.length : Int))), (4, .slice a31 n32 c33), (5, .int .i64 v537), (6, .int .i64 (r30[(Int.toNat v537)]!)), (7, .int .i64 v556)]) (fun ⟨x555, v556⟩ w' => I557 x555 v556 ∧ Below w.heap.size w w' ∧ Sep w' w.heap.size [oS 3 a21 (Int.toNat (p0.length : Int)) (Int.toNat (p0.length : Int)) (x555 : List Int), oS 3 a31 n32 c33 (r30 : List Int)]) (fun ⟨x555, v556⟩ => μ558 x555 v556) (x536, 0) ⟨rfl, rfl, rfl, rfl, rfl, rfl, trivial⟩ ⟨h0559, hB544, hS545⟩ ?_
          rintro ⟨x555, v556⟩ b_ w561 ⟨hi_, hB562, hS563⟩
          show Wp _ _ _ _ (upds b_ [(0, .slice a0 n0 c0), (3, .slice a21 (Int.toNat (p0.length : Int)) (Int.toNat (p0.length : Int))), (4, .slice a31 n32 c33), (5, .int .i64 v537), (6, .int .i64 (r30[(Int.toNat v537)]!)), (7, .int .i64 v556)]) w561
          have hm := hr560 x555 v556 hi_
          refine w_seq fun K565 hK565 => ?_
          refine w_seq fun K566 hK566 => ?_
          refine w_region ?_
          refine wl_val (g_move (v := .int .i64 v556) rfl) rfl ?_
          refine wl_val (g_move (v := .slice a0 n0 c0) rfl) rfl ?_
          refine wl_val (g_move (v := .int .i64 (r30[(Int.toNat v537)]!)) rfl) rfl ?_
          obtain ⟨hg567, hm⟩ := hm
          refine wl_val (q_index (i := r30[(Int.toNat v537)]!) SL26 rfl rfl (Tv.o (hp0.bel hB562)) (Tv.g (hp0.bel hB562) hg567)) rfl ?_
          refine wl_val (g_fieldAddr (q := (adr a0).add ((Int.toNat (r30[(Int.toNat v537)]!)) * El.m CueD)) FL39_1 ON24 rfl) rfl ?_
          refine wl_val (q_loadF (i := r30[(Int.toNat v537)]!) (j := 1) (v := .slice ((y0[(Int.toNat (r30[(Int.toNat v537)]!))]!).2.1.1) ((y0[(Int.toNat (r30[(Int.toNat v537)]!))]!).2.1.2.2.length) ((y0[(Int.toNat (r30[(Int.toNat v537)]!))]!).2.1.2.1)) ON24 (Tv.o (hp0.bel hB562)) (Tv.g (hp0.bel hB562) hg567) rfl rfl) rfl ?_
          refine wl_val (q_len SL24 rfl (Vw.len (Tv.rowC0 (hp0.bel hB562) hg567))) rfl ?_
          refine wl_val (g_lss (a := v556) (b := ((p0[(Int.toNat (r30[(Int.toNat v537)]!))]!.2.1).length : Int)) rfl rfl) rfl ?_
          refine wl_nil ?_
          refine hK566 _ _ ?_
          refine w_condI (p := v556 < ((p0[(Int.toNat (r30[(Int.toNat v537)]!))]!.2.1).length : Int)) (b := (decide (v556 < ((p0[(Int.toNat (r30[(Int.toNat v537)]!))]!.2.1).length : Int)))) rfl decide_eq_true_iff (fun h568 => ?_) (fun h568 => ?_)
          · replace hm := hm.1 h568
            refine w_skip ?_
            refine hK565 _ _ ?_
            refine w_seq fun K569 hK569 => ?_
            refine w_block ?_
            refine w_seq fun K570 hK570 => ?_
            refine w_region ?_
            refine wl_val (g_move (v := .slice a0 n0 c0) rfl) rfl ?_
            refine wl_val (g_move (v := .int .i64 (r30[(Int.toNat v537)]!)) rfl) rfl ?_
            obtain ⟨hg571, hm⟩ := hm
            refine wl_val (q_index (i := r30[(Int.toNat v537)]!) SL26 rfl rfl (Tv.o (hp0.bel hB562)) (Tv.g (hp0.bel hB562) hg571)) rfl ?_
            refine wl_val (g_fieldAddr (q := (adr a0).add ((Int.toNat (r30[(Int.toNat v537)]!)) * El.m CueD)) FL39_1 ON24 rfl) rfl ?_
            refine wl_val (q_loadF (i := r30[(Int.toNat v537)]!) (j := 1) (v := .slice ((y0[(Int.toNat (r30[(Int.toNat v537)]!))]!).2.1.1) ((y0[(Int.toNat (r30[(Int.toNat v537)]!))]!).2.1.2.2.length) ((y0[(Int.toNat (r30[(Int.toNat v537)]!))]!).2.1.2.1)) ON24 (Tv.o (hp0.bel hB562)) (Tv.g (hp0.bel hB562) hg571) rfl rfl) rfl ?_
            refine wl_val (g_move (v := .int .i64 v556) rfl) rfl ?_
            obtain ⟨hg572, hm⟩ := hm
            refine wl_val (q_index (i := v556) SL24 rfl rfl (Tv.rowC0 (hp0.bel hB562) hg571) hg572) rfl ?_
            refine wl_val (q_load (i := v556) (v := .int .i64 ((p0[(Int.toNat (r30[(Int.toNat v537)]!))]!.2.1)[(Int.toNat v556)]!)) ON3 (Tv.rowC0 (hp0.bel hB562) hg571) hg572 rfl rfl) rfl ?_
            refine wl_val (g_assign (v := .int .i64 ((p0[(Int.toNat (r30[(Int.toNat v537)]!))]!.2.1)[(Int.toNat v556)]!)) rfl) rfl ?_
            refine wl_nil ?_
            refine hK570 _ _ ?_
            refine w_draw (X := Ext) (Y := Ext) [0, 0, 0, 0, 0, 0, 0, 0, 0, 0, 0, 0, 0, 0, 0, 0, 0, 0, 1] MIX (by decide +kernel) rfl Ext.refl (fun _ _ _ => Ext.trans) (fun _ _ _ => Chg.trans) (fun _ _ h => Ext.chg h _) (fun w573 hE574 => ?_)
            have hB575 := hB562.trans (Ext.stp hE574 hS563.base)
            have hS576 := hS563.ext hE574
            refine ⟨.slice a21 (Int.toNat (p0.length : Int)) (Int.toNat (p0.length : Int)), fun w577 hX578 => od_plain rfl (by have hS579 := hS576.ext hX578; have hB580 := hB575.trans (Ext.stp hX578 hS576.base); exact is_ext (g_move (v := .slice a21 (Int.toNat (p0.length : Int)) (Int.toNat (p0.length : Int))) rfl)), ?_⟩
            refine ⟨.int .i64 (r30[(Int.toNat v537)]!), fun w581 hX582 => od_plain rfl (by have hS583 := hS576.ext hX582; have hB584 := hB575.trans (Ext.stp hX582 hS576.base); exact is_ext (g_move (v := .int .i64 (r30[(Int.toNat v537)]!)) rfl)), ?_⟩
            refine ⟨.slice a21 (Int.toNat (p0.length : Int)) (Int.toNat (p0.length : Int)), fun w585 hX586 => od_plain rfl (by have hS587 := hS576.ext hX586; have hB588 := hB575.trans (Ext.stp hX586 hS576.base); exact is_ext (g_move (v := .slice a21 (Int.toNat (p0.length : Int)) (Int.toNat (p0.length : Int))) rfl)), ?_⟩
            refine ⟨.int .i64 (r30[(Int.toNat v537)]!), fun w589 hX590 => od_plain rfl (by have hS591 := hS576.ext hX590; have hB592 := hB575.trans (Ext.stp hX590 hS576.base); exact is_ext (g_move (v := .int .i64 (r30[(Int.toNat v537)]!)) rfl)), ?_⟩
            obtain ⟨hg597, hm⟩ := hm
            refine ⟨.pointer (some ((adr a21).add ((Int.toNat (r30[(Int.toNat v537)]!)) * El.m Int))), fun w593 hX594 => od_plain rfl (by have hS595 := hS576.ext hX594; have hB596 := hB575.trans (Ext.stp hX594 hS576.base); exact is_ext (q_index (i := r30[(Int.toNat v537)]!) SL24 rfl rfl (oS.vw hS595.g0) hg597)), ?_⟩
            refine ⟨.int .i64 (x555[(Int.toNat (r30[(Int.toNat v537)]!))]!), fun w598 hX599 => od_plain rfl (by have hS600 := hS576.ext hX599; have hB601 := hB575.trans (Ext.stp hX599 hS576.base); exact is_ext (q_load (i := r30[(Int.toNat v537)]!) (v := .int .i64 (x555[(Int.toNat (r30[(Int.toNat v537)]!))]!)) ON3 (oS.vw hS600.g0) hg597 rfl rfl)), ?_⟩
            refine ⟨.slice a21 (Int.toNat (p0.length : Int)) (Int.toNat (p0.length : Int)), fun w602 hX603 => od_plain rfl (by have hS604 := hS576.ext hX603; have hB605 := hB575.trans (Ext.stp hX603 hS576.base); exact is_ext (g_move (v := .slice a21 (Int.toNat (p0.length : Int)) (Int.toNat (p0.length : Int))) rfl)), ?_⟩
            refine ⟨.int .i64 ((p0[(Int.toNat (r30[(Int.toNat v537)]!))]!.2.1)[(Int.toNat v556)]!), fun w606 hX607 => od_plain rfl (by have hS608 := hS576.ext hX607; have hB609 := hB575.trans (Ext.stp hX607 hS576.base); exact is_ext (g_move (v := .int .i64 ((p0[(Int.toNat (r30[(Int.toNat v537)]!))]!.2.1)[(Int.toNat v556)]!)) rfl)), ?_⟩
            obtain ⟨hg614, hm⟩ := hm
            refine ⟨.pointer (some ((adr a21).add ((Int.toNat ((p0[(Int.toNat (r30[(Int.toNat v537)]!))]!.2.1)[(Int.toNat v556)]!)) * El.m Int))), fun w610 hX611 => od_plain rfl (by have hS612 := hS576.ext hX611; have hB613 := hB575.trans (Ext.stp hX611 hS576.base); exact is_ext (q_index (i := (p0[(Int.toNat (r30[(Int.toNat v537)]!))]!.2.1)[(Int.toNat v556)]!) SL24 rfl rfl (oS.vw hS612.g0) hg614)), ?_⟩
            refine ⟨.int .i64 (x555[(Int.toNat ((p0[(Int.toNat (r30[(Int.toNat v537)]!))]!.2.1)[(Int.toNat v556)]!))]!), fun w615 hX616 => od_plain rfl (by have hS617 := hS576.ext hX616; have hB618 := hB575.trans (Ext.stp hX616 hS576.base); exact is_ext (q_load (i := (p0[(Int.toNat (r30[(Int.toNat v537)]!))]!.2.1)[(Int.toNat v556)]!) (v := .int .i64 (x555[(Int.toNat ((p0[(Int.toNat (r30[(Int.toNat v537)]!))]!.2.1)[(Int.toNat v556)]!))]!)) ON3 (oS.vw hS617.g0) hg614 rfl rfl)), ?_⟩
            refine ⟨.slice a0 n0 c0, fun w619 hX620 => od_plain rfl (by have hS621 := hS576.ext hX620; have hB622 := hB575.trans (Ext.stp hX620 hS576.base); exact is_ext (g_move (v := .slice a0 n0 c0) rfl)), ?_⟩
            refine ⟨.int .i64 ((p0[(Int.toNat (r30[(Int.toNat v537)]!))]!.2.1)[(Int.toNat v556)]!), fun w623 hX624 => od_plain rfl (by have hS625 := hS576.ext hX624; have hB626 := hB575.trans (Ext.stp hX624 hS576.base); exact is_ext (g_move (v := .int .i64 ((p0[(Int.toNat (r30[(Int.toNat v537)]!))]!.2.1)[(Int.toNat v556)]!)) rfl)), ?_⟩
            obtain ⟨hg631, hm⟩ := hm
            refine ⟨.pointer (some ((adr a0).add ((Int.toNat ((p0[(Int.toNat (r30[(Int.toNat v537)]!))]!.2.1)[(Int.toNat v556)]!)) * El.m CueD))), fun w627 hX628 => od_plain rfl (by have hS629 := hS576.ext hX628; have hB630 := hB575.trans (Ext.stp hX628 hS576.base); exact is_ext (q_index (i := (p0[(Int.toNat (r30[(Int.toNat v537)]!))]!.2.1)[(Int.toNat v556)]!) SL26 rfl rfl (Tv.o (hp0.bel hB630)) (Tv.g (hp0.bel hB630) hg631))), ?_⟩
            refine ⟨.pointer (some (((adr a0).add ((Int.toNat ((p0[(Int.toNat (r30[(Int.toNat v537)]!))]!.2.1)[(Int.toNat v556)]!)) * El.m CueD)).add 0)), fun w632 hX633 => od_plain rfl (by have hS634 := hS576.ext hX633; have hB635 := hB575.trans (Ext.stp hX633 hS576.base); exact is_ext (g_fieldAddr (q := (adr a0).add ((Int.toNat ((p0[(Int.toNat (r30[(Int.toNat v537)]!))]!.2.1)[(Int.toNat v556)]!)) * El.m CueD)) FL39_0 ON3 rfl)), ?_⟩
            refine ⟨.int .i64 (p0[(Int.toNat ((p0[(Int.toNat (r30[(Int.toNat v537)]!))]!.2.1)[(Int.toNat v556)]!))]!.1), fun w636 hX637 => od_plain rfl (by have hS638 := hS576.ext hX637; have hB639 := hB575.trans (Ext.stp hX637 hS576.base); exact is_ext (q_loadF (i := (p0[(Int.toNat (r30[(Int.toNat v537)]!))]!.2.1)[(Int.toNat v556)]!) (j := 0) (v := .int .i64 (p0[(Int.toNat ((p0[(Int.toNat (r30[(Int.toNat v537)]!))]!.2.1)[(Int.toNat v556)]!))]!.1)) ON3 (Tv.o (hp0.bel hB639)) (Tv.g (hp0.bel hB639) hg631) (by rw [← Tv.ticks (hp0.bel hB639) hg631]; rfl) rfl)), ?_⟩
            obtain ⟨hg644, hm⟩ := hm
            refine ⟨.int .i64 (x555[(Int.toNat ((p0[(Int.toNat (r30[(Int.toNat v537)]!))]!.2.1)[(Int.toNat v556)]!))]! + p0[(Int.toNat ((p0[(Int.toNat (r30[(Int.toNat v537)]!))]!.2.1)[(Int.toNat v556)]!))]!.1), fun w640 hX641 => od_plain rfl (by have hS642 := hS576.ext hX641; have hB643 := hB575.trans (Ext.stp hX641 hS576.base); exact is_ext (g_add (a := x555[(Int.toNat ((p0[(Int.toNat (r30[(Int.toNat v537)]!))]!.2.1)[(Int.toNat v556)]!))]!) (b := p0[(Int.toNat ((p0[(Int.toNat (r30[(Int.toNat v537)]!))]!.2.1)[(Int.toNat v556)]!))]!.1) rfl rfl hg644)), ?_⟩
            refine ⟨.int .i64 (max (x555[(Int.toNat (r30[(Int.toNat v537)]!))]!) (x555[(Int.toNat ((p0[(Int.toNat (r30[(Int.toNat v537)]!))]!.2.1)[(Int.toNat v556)]!))]! + p0[(Int.toNat ((p0[(Int.toNat (r30[(Int.toNat v537)]!))]!.2.1)[(Int.toNat v556)]!))]!.1)), fun w645 hX646 => od_plain rfl (by have hS647 := hS576.ext hX646; have hB648 := hB575.trans (Ext.stp hX646 hS576.base); exact is_ext (g_max (a := x555[(Int.toNat (r30[(Int.toNat v537)]!))]!) (b := (x555[(Int.toNat ((p0[(Int.toNat (r30[(Int.toNat v537)]!))]!.2.1)[(Int.toNat v556)]!))]! + p0[(Int.toNat ((p0[(Int.toNat (r30[(Int.toNat v537)]!))]!.2.1)[(Int.toNat v556)]!))]!.1)) rfl rfl)), ?_⟩
            obtain ⟨hg653, hm⟩ := hm
            refine ⟨.pointer (some ((adr a21).add ((Int.toNat (r30[(Int.toNat v537)]!)) * El.m Int))), fun w649 hX650 => od_plain rfl (by have hS651 := hS576.ext hX650; have hB652 := hB575.trans (Ext.stp hX650 hS576.base); exact is_ext (q_index (i := r30[(Int.toNat v537)]!) SL24 rfl rfl (oS.vw hS651.g0) hg653)), ?_⟩
            intro w654 hX655
            have hB656 := hB575.trans (Ext.stp hX655 hS576.base)
            have hS657 := hS576.ext hX655
            refine ⟨_, od_plain rfl (q_store (i := r30[(Int.toNat v537)]!) (v := ((max (x555[(Int.toNat (r30[(Int.toNat v537)]!))]!) (x555[(Int.toNat ((p0[(Int.toNat (r30[(Int.toNat v537)]!))]!.2.1)[(Int.toNat v556)]!))]! + p0[(Int.toNat ((p0[(Int.toNat (r30[(Int.toNat v537)]!))]!.2.1)[(Int.toNat v556)]!))]!.1)) : Int)) hS657 ON3.sz hg653 rfl rfl rfl), ?_⟩
            rintro _ w658 ⟨rfl, hS659, hb660⟩
            have hB661 := hB656.trans hb660
            intro w662 hX663
            have hB664 := hB661.trans (Ext.stp hX663 hS659.base)
            have hS665 := hS659.ext hX663
            refine hK569 _ _ ?_
            refine w_region ?_
            refine wl_val (g_move (v := .int .i64 v556) rfl) rfl ?_
            obtain ⟨hg666, hm⟩ := hm
            refine wl_val (g_add (a := v556) (b := 1) rfl rfl hg666) rfl ?_
            refine wl_val (g_assign (v := .int .i64 (v556 + 1)) rfl) rfl ?_
            refine wl_nil ?_
            exact ⟨((x555.set (Int.toNat (r30[(Int.toNat v537)]!)) (max (x555[(Int.toNat (r30[(Int.toNat v537)]!))]!) (x555[(Int.toNat ((p0[(Int.toNat (r30[(Int.toNat v537)]!))]!.2.1)[(Int.toNat v556)]!))]! + p0[(Int.toNat ((p0[(Int.toNat (r30[(Int.toNat v537)]!))]!.2.1)[(Int.toNat v556)]!))]!.1))), (v556 + 1)), hm.2, ⟨rfl, rfl, rfl, rfl, rfl, rfl, trivial⟩, ⟨hm.1, hB664, hS665⟩⟩
          · replace hm := hm.2 h568
            refine w_exit ?_
            exact ⟨(x555), ⟨rfl, rfl, rfl, rfl, trivial⟩, ⟨hm, hB562, hS563⟩⟩
        · rintro x550 b_ w667 ⟨hm, hB668, hS669⟩
          show Wp _ _ _ _ (upds b_ [(0, .slice a0 n0 c0), (3, .slice a21 (Int.toNat (p0.length : Int)) (Int.toNat (p0.length : Int))), (4, .slice a31 n32 c33), (5, .int .i64 v537)]) w667
          refine w_region ?_
          refine wl_val (g_move (v := .int .i64 v537) rfl) rfl ?_
          obtain ⟨hg670, hm⟩ := hm
          refine wl_val (g_add (a := v537) (b := 1) rfl rfl hg670) rfl ?_
          refine wl_val (g_assign (v := .int .i64 (v537 + 1)) rfl) rfl ?_
          refine wl_nil ?_
          exact ⟨(x550, (v537 + 1)), hm.2, ⟨rfl, rfl, rfl, rfl, trivial⟩, ⟨hm.1, hB668, hS669⟩⟩
      · replace hm := hm.2 h549
        refine w_exit ?_
        have hS671 := hS545.f1
        have hS672 := hS671.tail
        exact ⟨(x536), ⟨rfl, trivial⟩, ⟨hm, hB544, hS672⟩⟩
    · rintro x533 b_ w673 ⟨hm, hB674, hS675⟩
      show Wp _ _ _ _ (upds b_ [(3, .slice a21 (Int.toNat (p0.length : Int)) (Int.toNat (p0.length : Int)))]) w673
      refine w_seq fun K676 hK676 => ?_
      refine w_region ?_
      refine wl_val (g_move (v := .slice a21 (Int.toNat (p0.length : Int)) (Int.toNat (p0.length : Int))) rfl) rfl ?_
      refine wl_val (g_assign (v := .slice a21 (Int.toNat (p0.length : Int)) (Int.toNat (p0.length : Int))) rfl) rfl ?_
      refine wl_nil ?_
      refine hK676 _ _ ?_
      refine w_ret ?_
      repeat first | with_reducible refine q_then ?_ | with_reducible refine q_block ?_
      exact ret1 rfl (by decide) ⟨_, _, _, _, hm, rfl, toExt hB674, hS675⟩

end Go.Proofs.Ythmemoealgieaaa
