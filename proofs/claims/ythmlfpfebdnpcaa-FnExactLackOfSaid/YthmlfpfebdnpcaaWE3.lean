/- The walks: the code does what its model says. Printed by a program (gen2.py). No statement of the claim stands here. -/
import Derived.Test.YthmlfpfebdnpcaaSop
import Derived.Test.YthmlfpfebdnpcaaFacts
import Derived.Test.YthmlfpfebdnpcaaME
import Derived.Test.YthmlfpfebdnpcaaWE1
import Derived.Test.YthmlfpfebdnpcaaWE2
namespace Go.Proofs.Ythmlfpfebdnpcaa
open Go Go.RowKit
set_option maxRecDepth 100000
theorem m_spec_IsCasting_fn {w : World} {a0 : Option Addr} {n0 c0 : Nat} {y0 : List PlayerD} {p0 : List PlayerC} {a1 : Option Addr} {n1 c1 : Nat} {p1 : List Int} {a2 : Option Addr} {n2 c2 : Nat} {p2 : List Int} {Q : Bool → Prop} (hp0 : Tv w.heap.size w a0 n0 c0 y0 p0) (hp1 : Vw w.heap.size w a1 n1 c1 p1) (hp2 : Vw w.heap.size w a2 n2 c2 p2) (hm : m_spec_IsCasting p0 p1 p2 Q) :
    Fn Try.prog 46 #[.slice a0 n0 c0, .slice a1 n1 c1, .slice a2 n2 c2] w (fun v w' => ∃ (r0 : Bool), Q r0 ∧ v = .bool r0 ∧ Ext w w') := by
  unfold m_spec_IsCasting at hm
  have hB0 := Below.refl w.heap.size w
  have hS0 : Sep w w.heap.size [] := Sep.nil (Nat.le_refl _)
  refine fn_of_wp Try.func46 rfl (by kernel_rfl) (Nat.le_of_ble_eq_true rfl) ?_
  refine w_seq fun K1 hK1 => ?_
  refine w_region ?_
  refine wl_val (g_assign (v := .bool false) rfl) rfl ?_
  refine wl_nil ?_
  refine hK1 _ _ ?_
  refine w_seq fun K2 hK2 => ?_
  refine w_seq fun K3 hK3 => ?_
  refine w_region ?_
  refine wl_val (g_move (v := .slice a0 n0 c0) rfl) rfl ?_
  refine wl_step rfl (g_call (vs := #[.slice a0 n0 c0]) CF22 (args1 rfl) (m_spec_PlayersOk_fn ((hp0.bel hB0).up hS0) hm)) ?_
  rintro _ w4 ⟨r7, hm, rfl, hE5⟩
  have hB8 := hB0.trans (Ext.stp hE5 hS0.base)
  have hS9 := hS0.ext hE5
  refine wl_val (g_not (a := r7) rfl) rfl ?_
  refine wl_val (g_move (v := .bool (!r7)) rfl) rfl ?_
  refine wl_guard (c := (!r7) = false) (val := .slice a1 n1 c1) (b := ((!r7) == false)) (gv_some rfl rfl rfl) beq_iff_eq (fun hc10 => ?_) ?_
  · have hq0 : ¬ (¬ (r7 = true)) := (i_neg (i_not Iff.rfl) hc10)
    exact g_move (v := .slice a1 n1 c1) rfl
  obtain ⟨r12, hk13, hm⟩ := hm
  refine wl_guardE (X := Ext) (c := (!r7) = false) (val := .bool r12) (Ext.refl _) (b := ((!r7) == false)) (gv_some rfl rfl rfl) beq_iff_eq (fun hc11 => ?_) (fun w14 hE15 => ?_)
  · have hq0 : ¬ (¬ (r7 = true)) := (i_neg (i_not Iff.rfl) hc11)
    exact (g_call (vs := #[.slice a1 n1 c1, .int .i64 6]) CF58 (args2 (if_pos hc11) rfl) ((m_spec_l11Rising_fn ((hp1.bel hB8).up hS9) 6 (hk13 hq0)).mono fun _ _ ⟨_, h1, h2, h3⟩ => ⟨by rw [h2, h1], h3⟩))
  have hB16 := hB8.trans (Ext.stp hE15 hS9.base)
  have hS17 := hS9.ext hE15
  refine wl_guard (c := (!r7) = false) (val := .bool (!r12)) (b := ((!r7) == false)) (gv_some rfl rfl rfl) beq_iff_eq (fun hc18 => ?_) ?_
  · have hq0 : ¬ (¬ (r7 = true)) := (i_neg (i_not Iff.rfl) hc18)
    exact g_not (a := r12) (if_pos hc18)
  refine wl_val (g_pick_or (b := (!r7)) (q := (!r12)) rfl rfl) rfl ?_
  refine wl_val (g_move (v := .bool ((!r7) || (!r12))) rfl) rfl ?_
  refine wl_guard (c := ((!r7) || (!r12)) = false) (val := .slice a2 n2 c2) (b := (((!r7) || (!r12)) == false)) (gv_some rfl rfl rfl) beq_iff_eq (fun hc19 => ?_) ?_
  · have hq1 : ¬ (((¬ (r7 = true)) ∨ (¬ (r12 = true)))) := (i_neg (i_or (i_not Iff.rfl) (i_not Iff.rfl)) hc19)
    exact g_move (v := .slice a2 n2 c2) rfl
  refine wl_guard (c := ((!r7) || (!r12)) = false) (val := .int .i64 (p2.length : Int)) (b := (((!r7) || (!r12)) == false)) (gv_some rfl rfl rfl) beq_iff_eq (fun hc20 => ?_) ?_
  · have hq1 : ¬ (((¬ (r7 = true)) ∨ (¬ (r12 = true)))) := (i_neg (i_or (i_not Iff.rfl) (i_not Iff.rfl)) hc20)
    exact q_len SL35 (if_pos hc20) (Vw.len (hp2.bel hB16))
  refine wl_guard (c := ((!r7) || (!r12)) = false) (val := .slice a1 n1 c1) (b := (((!r7) || (!r12)) == false)) (gv_some rfl rfl rfl) beq_iff_eq (fun hc21 => ?_) ?_
  · have hq1 : ¬ (((¬ (r7 = true)) ∨ (¬ (r12 = true)))) := (i_neg (i_or (i_not Iff.rfl) (i_not Iff.rfl)) hc21)
    exact g_move (v := .slice a1 n1 c1) rfl
  refine wl_guard (c := ((!r7) || (!r12)) = false) (val := .int .i64 (p1.length : Int)) (b := (((!r7) || (!r12)) == false)) (gv_some rfl rfl rfl) beq_iff_eq (fun hc22 => ?_) ?_
  · have hq1 : ¬ (((¬ (r7 = true)) ∨ (¬ (r12 = true)))) := (i_neg (i_or (i_not Iff.rfl) (i_not Iff.rfl)) hc22)
    exact q_len SL35 (if_pos hc22) (Vw.len (hp1.bel hB16))
  refine wl_guard (c := ((!r7) || (!r12)) = false) (val := .bool (decide ((p2.length : Int) ≠ (p1.length : Int)))) (b := (((!r7) || (!r12)) == false)) (gv_some rfl rfl rfl) beq_iff_eq (fun hc23 => ?_) ?_
  · have hq1 : ¬ (((¬ (r7 = true)) ∨ (¬ (r12 = true)))) := (i_neg (i_or (i_not Iff.rfl) (i_not Iff.rfl)) hc23)
    exact g_neq (a := (p2.length : Int)) (b := (p1.length : Int)) (if_pos hc23) (if_pos hc23)
  refine wl_val (g_pick_or (b := ((!r7) || (!r12))) (q := (decide ((p2.length : Int) ≠ (p1.length : Int)))) rfl rfl) rfl ?_
  refine wl_nil ?_
  refine hK3 _ _ ?_
  refine w_condI (p := ((((¬ (r7 = true)) ∨ (¬ (r12 = true)))) ∨ ((p2.length : Int) ≠ (p1.length : Int)))) (b := (((!r7) || (!r12)) || (decide ((p2.length : Int) ≠ (p1.length : Int))))) rfl (i_or (i_or (i_not Iff.rfl) (i_not Iff.rfl)) decide_eq_true_iff) (fun h24 => ?_) (fun h24 => ?_)
  · replace hm := hm.1 h24
    refine w_seq fun K25 hK25 => ?_
    refine w_region ?_
    refine wl_val (g_assign (v := .bool false) rfl) rfl ?_
    refine wl_nil ?_
    refine hK25 _ _ ?_
    refine w_ret ?_
    repeat first | with_reducible refine q_then ?_ | with_reducible refine q_block ?_
    exact ret1 rfl (by decide) ⟨_, hm, rfl, toExt hB16⟩
  · replace hm := hm.2 h24
    refine w_skip ?_
    refine hK2 _ _ ?_
    refine w_cut (σ := Unit) (fun _ => [(0, .slice a0 n0 c0), (2, .slice a2 n2 c2)]) (fun _ w' => m_spec_IsCasting_K1 p0 p2 Q ∧ Below w.heap.size w w' ∧ Sep w' w.heap.size []) ?_ ?_
    · refine w_seq fun K27 hK27 => ?_
      refine w_region ?_
      refine wl_val (g_assign (v := .int .i64 0) rfl) rfl ?_
      refine wl_nil ?_
      refine hK27 _ _ ?_
      refine w_block ?_
      obtain ⟨I171, μ172, h0173, hr174⟩ := hm
      refine w_for (σ := Int) (fun v170 => [(0, .slice a0 n0 c0), (1, .slice a1 n1 c1), (2, .slice a2 n2 c2), (7, .int .i64 v170)]) (fun v170 w' => I171 v170 ∧ Below w.heap.size w w' ∧ Sep w' w.heap.size []) (fun v170 => μ172 v170) (0) ⟨rfl, rfl, rfl, rfl, trivial⟩ ⟨h0173, hB16, hS17⟩ ?_
      rintro v170 b_ w175 ⟨hi_, hB176, hS177⟩
      show Wp _ _ _ _ (upds b_ [(0, .slice a0 n0 c0), (1, .slice a1 n1 c1), (2, .slice a2 n2 c2), (7, .int .i64 v170)]) w175
      have hm := hr174 v170 hi_
      refine w_seq fun K179 hK179 => ?_
      refine w_seq fun K180 hK180 => ?_
      refine w_region ?_
      refine wl_val (g_move (v := .int .i64 v170) rfl) rfl ?_
      refine wl_val (g_move (v := .slice a2 n2 c2) rfl) rfl ?_
      refine wl_val (q_len SL35 rfl (Vw.len (hp2.bel hB176))) rfl ?_
      refine wl_val (g_lss (a := v170) (b := (p2.length : Int)) rfl rfl) rfl ?_
      refine wl_nil ?_
      refine hK180 _ _ ?_
      refine w_condI (p := v170 < (p2.length : Int)) (b := (decide (v170 < (p2.length : Int)))) rfl decide_eq_true_iff (fun h181 => ?_) (fun h181 => ?_)
      · replace hm := hm.1 h181
        refine w_skip ?_
        refine hK179 _ _ ?_
        refine w_seq fun K182 hK182 => ?_
        refine w_block ?_
        refine w_seq fun K183 hK183 => ?_
        refine w_draw (X := Ext) (Y := Ext) [] MIX (by decide +kernel) rfl Ext.refl (fun _ _ _ => Ext.trans) (fun _ _ _ => Chg.trans) (fun _ _ h => Ext.chg h _) (fun w184 hE185 => ?_)
        have hB186 := hB176.trans (Ext.stp hE185 hS177.base)
        have hS187 := hS177.ext hE185
        refine ⟨.slice a2 n2 c2, fun w188 hX189 => od_plain rfl (by have hS190 := hS187.ext hX189; have hB191 := hB186.trans (Ext.stp hX189 hS187.base); exact is_ext (g_move (v := .slice a2 n2 c2) rfl)), ?_⟩
        refine ⟨.int .i64 v170, fun w192 hX193 => od_plain rfl (by have hS194 := hS187.ext hX193; have hB195 := hB186.trans (Ext.stp hX193 hS187.base); exact is_ext (g_move (v := .int .i64 v170) rfl)), ?_⟩
        obtain ⟨hg200, hm⟩ := hm
        refine ⟨.pointer (some ((adr a2).add ((Int.toNat v170) * El.m Int))), fun w196 hX197 => od_plain rfl (by have hS198 := hS187.ext hX197; have hB199 := hB186.trans (Ext.stp hX197 hS187.base); exact is_ext (q_index (i := v170) SL35 rfl rfl (hp2.bel hB199) hg200)), ?_⟩
        refine ⟨.int .i64 (p2[(Int.toNat v170)]!), fun w201 hX202 => od_plain rfl (by have hS203 := hS187.ext hX202; have hB204 := hB186.trans (Ext.stp hX202 hS187.base); exact is_ext (q_load (i := v170) (v := .int .i64 (p2[(Int.toNat v170)]!)) ON3 (hp2.bel hB204) hg200 rfl rfl)), ?_⟩
        refine ⟨.slice a0 n0 c0, fun w205 hX206 => od_plain rfl (by have hS207 := hS187.ext hX206; have hB208 := hB186.trans (Ext.stp hX206 hS187.base); exact is_ext (g_move (v := .slice a0 n0 c0) rfl)), ?_⟩
        refine ⟨.int .i64 (p0.length : Int), fun w209 hX210 => od_plain rfl (by have hS211 := hS187.ext hX210; have hB212 := hB186.trans (Ext.stp hX210 hS187.base); exact is_ext (q_len SL30 rfl (Tv.len (hp0.bel hB212)))), ?_⟩
        obtain ⟨hg217, hm⟩ := hm
        refine ⟨.int .i64 ((p0.length : Int) - 1), fun w213 hX214 => od_plain rfl (by have hS215 := hS187.ext hX214; have hB216 := hB186.trans (Ext.stp hX214 hS187.base); exact is_ext (g_sub (a := (p0.length : Int)) (b := 1) rfl rfl hg217)), ?_⟩
        obtain ⟨r222, hk223, hm⟩ := hm
        refine ⟨.bool r222, fun w218 hX219 => od_plain rfl (by have hS220 := hS187.ext hX219; have hB221 := hB186.trans (Ext.stp hX219 hS187.base); exact (g_call (vs := #[.int .i64 (p2[(Int.toNat v170)]!), .int .i64 0, .int .i64 ((p0.length : Int) - 1)]) CF59 (args3 rfl rfl rfl) ((m_spec_l01In_fn (p2[(Int.toNat v170)]!) 0 ((p0.length : Int) - 1) hk223).mono fun _ _ ⟨_, h1, h2, h3⟩ => ⟨by rw [h2, h1], h3⟩))), ?_⟩
        refine ⟨.bool (!r222), fun w224 hX225 => od_plain rfl (by have hS226 := hS187.ext hX225; have hB227 := hB186.trans (Ext.stp hX225 hS187.base); exact is_ext (g_not (a := r222) rfl)), ?_⟩
        refine ⟨.bool (!r222), fun w228 hX229 => od_plain rfl (by have hS230 := hS187.ext hX229; have hB231 := hB186.trans (Ext.stp hX229 hS187.base); exact is_ext (g_move (v := .bool (!r222)) rfl)), ?_⟩
        refine ⟨if (!r222) = false then .slice a0 n0 c0 else undef, fun w232 hX233 => od_guard (c := (!r222) = false) (val := .slice a0 n0 c0) (b := ((!r222) == false)) (gv_some rfl rfl rfl) beq_iff_eq (fun hc236 => ?_), ?_⟩
        · have hS234 := hS187.ext hX233
          have hB235 := hB186.trans (Ext.stp hX233 hS187.base)
          have hq3 : ¬ (¬ (r222 = true)) := (i_neg (i_not Iff.rfl) hc236)
          exact is_ext (g_move (v := .slice a0 n0 c0) rfl)
        refine ⟨if (!r222) = false then .slice a2 n2 c2 else undef, fun w237 hX238 => od_guard (c := (!r222) = false) (val := .slice a2 n2 c2) (b := ((!r222) == false)) (gv_some rfl rfl rfl) beq_iff_eq (fun hc241 => ?_), ?_⟩
        · have hS239 := hS187.ext hX238
          have hB240 := hB186.trans (Ext.stp hX238 hS187.base)
          have hq3 : ¬ (¬ (r222 = true)) := (i_neg (i_not Iff.rfl) hc241)
          exact is_ext (g_move (v := .slice a2 n2 c2) rfl)
        refine ⟨if (!r222) = false then .int .i64 v170 else undef, fun w242 hX243 => od_guard (c := (!r222) = false) (val := .int .i64 v170) (b := ((!r222) == false)) (gv_some rfl rfl rfl) beq_iff_eq (fun hc246 => ?_), ?_⟩
        · have hS244 := hS187.ext hX243
          have hB245 := hB186.trans (Ext.stp hX243 hS187.base)
          have hq3 : ¬ (¬ (r222 = true)) := (i_neg (i_not Iff.rfl) hc246)
          exact is_ext (g_move (v := .int .i64 v170) rfl)
        obtain ⟨hg252, hm⟩ := hm
        refine ⟨if (!r222) = false then .pointer (some ((adr a2).add ((Int.toNat v170) * El.m Int))) else undef, fun w247 hX248 => od_guard (c := (!r222) = false) (val := .pointer (some ((adr a2).add ((Int.toNat v170) * El.m Int)))) (b := ((!r222) == false)) (gv_some rfl rfl rfl) beq_iff_eq (fun hc251 => ?_), ?_⟩
        · have hS249 := hS187.ext hX248
          have hB250 := hB186.trans (Ext.stp hX248 hS187.base)
          have hq3 : ¬ (¬ (r222 = true)) := (i_neg (i_not Iff.rfl) hc251)
          exact is_ext (q_index (i := v170) SL35 (if_pos hc251) (if_pos hc251) (hp2.bel hB250) (hg252 hq3))
        refine ⟨if (!r222) = false then .int .i64 (p2[(Int.toNat v170)]!) else undef, fun w253 hX254 => od_guard (c := (!r222) = false) (val := .int .i64 (p2[(Int.toNat v170)]!)) (b := ((!r222) == false)) (gv_some rfl rfl rfl) beq_iff_eq (fun hc257 => ?_), ?_⟩
        · have hS255 := hS187.ext hX254
          have hB256 := hB186.trans (Ext.stp hX254 hS187.base)
          have hq3 : ¬ (¬ (r222 = true)) := (i_neg (i_not Iff.rfl) hc257)
          exact is_ext (q_load (i := v170) (v := .int .i64 (p2[(Int.toNat v170)]!)) ON3 (hp2.bel hB256) (hg252 hq3) rfl (if_pos hc257))
        obtain ⟨hg263, hm⟩ := hm
        refine ⟨if (!r222) = false then .pointer (some ((adr a0).add ((Int.toNat (p2[(Int.toNat v170)]!)) * El.m PlayerD))) else undef, fun w258 hX259 => od_guard (c := (!r222) = false) (val := .pointer (some ((adr a0).add ((Int.toNat (p2[(Int.toNat v170)]!)) * El.m PlayerD)))) (b := ((!r222) == false)) (gv_some rfl rfl rfl) beq_iff_eq (fun hc262 => ?_), ?_⟩
        · have hS260 := hS187.ext hX259
          have hB261 := hB186.trans (Ext.stp hX259 hS187.base)
          have hq3 : ¬ (¬ (r222 = true)) := (i_neg (i_not Iff.rfl) hc262)
          exact is_ext (q_index (i := p2[(Int.toNat v170)]!) SL30 (if_pos hc262) (if_pos hc262) (Tv.o (hp0.bel hB261)) (Tv.g (hp0.bel hB261) (hg263 hq3)))
        refine ⟨if (!r222) = false then .agg #[.slice ((y0[(Int.toNat (p2[(Int.toNat v170)]!))]!).1.1) ((y0[(Int.toNat (p2[(Int.toNat v170)]!))]!).1.2.2.length) ((y0[(Int.toNat (p2[(Int.toNat v170)]!))]!).1.2.1), .int .i64 (p0[(Int.toNat (p2[(Int.toNat v170)]!))]!.2)] else undef, fun w264 hX265 => od_guard (c := (!r222) = false) (val := .agg #[.slice ((y0[(Int.toNat (p2[(Int.toNat v170)]!))]!).1.1) ((y0[(Int.toNat (p2[(Int.toNat v170)]!))]!).1.2.2.length) ((y0[(Int.toNat (p2[(Int.toNat v170)]!))]!).1.2.1), .int .i64 (p0[(Int.toNat (p2[(Int.toNat v170)]!))]!.2)]) (b := ((!r222) == false)) (gv_some rfl rfl rfl) beq_iff_eq (fun hc268 => ?_), ?_⟩
        · have hS266 := hS187.ext hX265
          have hB267 := hB186.trans (Ext.stp hX265 hS187.base)
          have hq3 : ¬ (¬ (r222 = true)) := (i_neg (i_not Iff.rfl) hc268)
          exact is_ext (q_loadS (i := p2[(Int.toNat v170)]!) (cs := [.slice ((y0[(Int.toNat (p2[(Int.toNat v170)]!))]!).1.1) ((y0[(Int.toNat (p2[(Int.toNat v170)]!))]!).1.2.2.length) ((y0[(Int.toNat (p2[(Int.toNat v170)]!))]!).1.2.1), .int .i64 (p0[(Int.toNat (p2[(Int.toNat v170)]!))]!.2)]) AG61 (Tv.o (hp0.bel hB267)) (Tv.g (hp0.bel hB267) (hg263 hq3)) (by rw [← Tv.free (hp0.bel hB267) (hg263 hq3)]; rfl) (if_pos hc268))
        refine ⟨if (!r222) = false then .slice a1 n1 c1 else undef, fun w269 hX270 => od_guard (c := (!r222) = false) (val := .slice a1 n1 c1) (b := ((!r222) == false)) (gv_some rfl rfl rfl) beq_iff_eq (fun hc273 => ?_), ?_⟩
        · have hS271 := hS187.ext hX270
          have hB272 := hB186.trans (Ext.stp hX270 hS187.base)
          have hq3 : ¬ (¬ (r222 = true)) := (i_neg (i_not Iff.rfl) hc273)
          exact is_ext (g_move (v := .slice a1 n1 c1) rfl)
        refine ⟨if (!r222) = false then .int .i64 v170 else undef, fun w274 hX275 => od_guard (c := (!r222) = false) (val := .int .i64 v170) (b := ((!r222) == false)) (gv_some rfl rfl rfl) beq_iff_eq (fun hc278 => ?_), ?_⟩
        · have hS276 := hS187.ext hX275
          have hB277 := hB186.trans (Ext.stp hX275 hS187.base)
          have hq3 : ¬ (¬ (r222 = true)) := (i_neg (i_not Iff.rfl) hc278)
          exact is_ext (g_move (v := .int .i64 v170) rfl)
        obtain ⟨hg284, hm⟩ := hm
        refine ⟨if (!r222) = false then .pointer (some ((adr a1).add ((Int.toNat v170) * El.m Int))) else undef, fun w279 hX280 => od_guard (c := (!r222) = false) (val := .pointer (some ((adr a1).add ((Int.toNat v170) * El.m Int)))) (b := ((!r222) == false)) (gv_some rfl rfl rfl) beq_iff_eq (fun hc283 => ?_), ?_⟩
        · have hS281 := hS187.ext hX280
          have hB282 := hB186.trans (Ext.stp hX280 hS187.base)
          have hq3 : ¬ (¬ (r222 = true)) := (i_neg (i_not Iff.rfl) hc283)
          exact is_ext (q_index (i := v170) SL35 (if_pos hc283) (if_pos hc283) (hp1.bel hB282) (hg284 hq3))
        refine ⟨if (!r222) = false then .int .i64 (p1[(Int.toNat v170)]!) else undef, fun w285 hX286 => od_guard (c := (!r222) = false) (val := .int .i64 (p1[(Int.toNat v170)]!)) (b := ((!r222) == false)) (gv_some rfl rfl rfl) beq_iff_eq (fun hc289 => ?_), ?_⟩
        · have hS287 := hS187.ext hX286
          have hB288 := hB186.trans (Ext.stp hX286 hS187.base)
          have hq3 : ¬ (¬ (r222 = true)) := (i_neg (i_not Iff.rfl) hc289)
          exact is_ext (q_load (i := v170) (v := .int .i64 (p1[(Int.toNat v170)]!)) ON3 (hp1.bel hB288) (hg284 hq3) rfl (if_pos hc289))
        obtain ⟨r295, hk296, hm⟩ := hm
        refine ⟨if (!r222) = false then .bool r295 else undef, fun w290 hX291 => od_guard (c := (!r222) = false) (val := .bool r295) (b := ((!r222) == false)) (gv_some rfl rfl rfl) beq_iff_eq (fun hc294 => ?_), ?_⟩
        · have hS292 := hS187.ext hX291
          have hB293 := hB186.trans (Ext.stp hX291 hS187.base)
          have hq3 : ¬ (¬ (r222 = true)) := (i_neg (i_not Iff.rfl) hc294)
          exact (g_call (vs := #[.agg #[.slice ((y0[(Int.toNat (p2[(Int.toNat v170)]!))]!).1.1) ((y0[(Int.toNat (p2[(Int.toNat v170)]!))]!).1.2.2.length) ((y0[(Int.toNat (p2[(Int.toNat v170)]!))]!).1.2.1), .int .i64 (p0[(Int.toNat (p2[(Int.toNat v170)]!))]!.2)], .int .i64 (p1[(Int.toNat v170)]!)]) CF65 (args2 (if_pos hc294) (if_pos hc294)) ((m_spec_l13Knows_fn (p0[(Int.toNat (p2[(Int.toNat v170)]!))]!) ((Tv.rowP (hp0.bel hB293) (hg263 hq3)).up hS292) (p1[(Int.toNat v170)]!) (hk296 hq3)).mono fun _ _ ⟨_, h1, h2, h3⟩ => ⟨by rw [h2, h1], h3⟩))
        refine ⟨if (!r222) = false then .bool (!r295) else undef, fun w297 hX298 => od_guard (c := (!r222) = false) (val := .bool (!r295)) (b := ((!r222) == false)) (gv_some rfl rfl rfl) beq_iff_eq (fun hc301 => ?_), ?_⟩
        · have hS299 := hS187.ext hX298
          have hB300 := hB186.trans (Ext.stp hX298 hS187.base)
          have hq3 : ¬ (¬ (r222 = true)) := (i_neg (i_not Iff.rfl) hc301)
          exact is_ext (g_not (a := r295) (if_pos hc301))
        refine ⟨.bool ((!r222) || (!r295)), fun w302 hX303 => od_plain rfl (by have hS304 := hS187.ext hX303; have hB305 := hB186.trans (Ext.stp hX303 hS187.base); exact is_ext (g_pick_or (b := (!r222)) (q := (!r295)) rfl rfl)), ?_⟩
        intro w306 hX307
        have hB308 := hB186.trans (Ext.stp hX307 hS187.base)
        have hS309 := hS187.ext hX307
        refine hK183 _ _ ?_
        refine w_condI (p := ((¬ (r222 = true)) ∨ (¬ (r295 = true)))) (b := ((!r222) || (!r295))) rfl (i_or (i_not Iff.rfl) (i_not Iff.rfl)) (fun h310 => ?_) (fun h310 => ?_)
        · replace hm := hm.1 h310
          refine w_seq fun K311 hK311 => ?_
          refine w_region ?_
          refine wl_val (g_assign (v := .bool false) rfl) rfl ?_
          refine wl_nil ?_
          refine hK311 _ _ ?_
          refine w_ret ?_
          repeat first | with_reducible refine q_then ?_ | with_reducible refine q_block ?_
          exact ret1 rfl (by decide) ⟨_, hm, rfl, toExt hB308⟩
        · replace hm := hm.2 h310
          refine w_skip ?_
          refine hK182 _ _ ?_
          refine w_region ?_
          refine wl_val (g_move (v := .int .i64 v170) rfl) rfl ?_
          obtain ⟨hg312, hm⟩ := hm
          refine wl_val (g_add (a := v170) (b := 1) rfl rfl hg312) rfl ?_
          refine wl_val (g_assign (v := .int .i64 (v170 + 1)) rfl) rfl ?_
          refine wl_nil ?_
          exact ⟨((v170 + 1)), hm.2, ⟨rfl, rfl, rfl, rfl, trivial⟩, ⟨hm.1, hB308, hS309⟩⟩
      · replace hm := hm.2 h181
        refine w_exit ?_
        exact ⟨(), ⟨rfl, rfl, trivial⟩, ⟨hm, hB176, hS177⟩⟩
    · rintro _ b_ w313 ⟨hm, hB314, hS315⟩
      show Wp _ _ _ _ (upds b_ [(0, .slice a0 n0 c0), (2, .slice a2 n2 c2)]) w313
      refine w_seq fun K316 hK316 => ?_
      refine w_region ?_
      refine wl_val (g_move (v := .slice a0 n0 c0) rfl) rfl ?_
      refine wl_val (g_move (v := .slice a2 n2 c2) rfl) rfl ?_
      refine wl_step rfl (g_call (vs := #[.slice a0 n0 c0, .slice a2 n2 c2]) CF34 (args2 rfl rfl) (m_spec_LoadOf_fn ((hp0.bel hB314).up hS315) ((hp2.bel hB314).up hS315) hm)) ?_
      rintro _ w317 ⟨r320, a321, n322, c323, hm, rfl, hE318, hN319⟩
      have hS325 := hS315.call1 hE318 hN319
      have hB326 := hB314.trans (Ext.stp hE318 hS315.base)
      refine wl_val (g_assign (v := .slice a321 n322 c323) rfl) rfl ?_
      refine wl_nil ?_
      refine hK316 _ _ ?_
      refine w_cut (σ := Unit) (fun _ => []) (fun _ w' => m_spec_IsCasting_K0 Q ∧ Below w.heap.size w w' ∧ Sep w' w.heap.size []) ?_ ?_
      · refine w_seq fun K328 hK328 => ?_
        refine w_region ?_
        refine wl_val (g_assign (v := .int .i64 0) rfl) rfl ?_
        refine wl_nil ?_
        refine hK328 _ _ ?_
        refine w_block ?_
        obtain ⟨I396, μ397, h0398, hr399⟩ := hm
        refine w_for (σ := Int) (fun v395 => [(0, .slice a0 n0 c0), (8, .slice a321 n322 c323), (9, .int .i64 v395)]) (fun v395 w' => I396 v395 ∧ Below w.heap.size w w' ∧ Sep w' w.heap.size [oS 3 a321 n322 c323 (r320 : List Int)]) (fun v395 => μ397 v395) (0) ⟨rfl, rfl, rfl, trivial⟩ ⟨h0398, hB326, hS325⟩ ?_
        rintro v395 b_ w400 ⟨hi_, hB401, hS402⟩
        show Wp _ _ _ _ (upds b_ [(0, .slice a0 n0 c0), (8, .slice a321 n322 c323), (9, .int .i64 v395)]) w400
        have hm := hr399 v395 hi_
        refine w_seq fun K404 hK404 => ?_
        refine w_seq fun K405 hK405 => ?_
        refine w_region ?_
        refine wl_val (g_move (v := .int .i64 v395) rfl) rfl ?_
        refine wl_val (g_move (v := .slice a321 n322 c323) rfl) rfl ?_
        refine wl_val (q_len SL35 rfl (Vw.len (oS.vw hS402.g0))) rfl ?_
        refine wl_val (g_lss (a := v395) (b := (r320.length : Int)) rfl rfl) rfl ?_
        refine wl_nil ?_
        refine hK405 _ _ ?_
        refine w_condI (p := v395 < (r320.length : Int)) (b := (decide (v395 < (r320.length : Int)))) rfl decide_eq_true_iff (fun h406 => ?_) (fun h406 => ?_)
        · replace hm := hm.1 h406
          refine w_skip ?_
          refine hK404 _ _ ?_
          refine w_seq fun K407 hK407 => ?_
          refine w_block ?_
          refine w_seq fun K408 hK408 => ?_
          refine w_draw (X := Ext) (Y := Ext) [] MIX (by decide +kernel) rfl Ext.refl (fun _ _ _ => Ext.trans) (fun _ _ _ => Chg.trans) (fun _ _ h => Ext.chg h _) (fun w409 hE410 => ?_)
          have hB411 := hB401.trans (Ext.stp hE410 hS402.base)
          have hS412 := hS402.ext hE410
          refine ⟨.slice a321 n322 c323, fun w413 hX414 => od_plain rfl (by have hS415 := hS412.ext hX414; have hB416 := hB411.trans (Ext.stp hX414 hS412.base); exact is_ext (g_move (v := .slice a321 n322 c323) rfl)), ?_⟩
          refine ⟨.int .i64 v395, fun w417 hX418 => od_plain rfl (by have hS419 := hS412.ext hX418; have hB420 := hB411.trans (Ext.stp hX418 hS412.base); exact is_ext (g_move (v := .int .i64 v395) rfl)), ?_⟩
          obtain ⟨hg425, hm⟩ := hm
          refine ⟨.pointer (some ((adr a321).add ((Int.toNat v395) * El.m Int))), fun w421 hX422 => od_plain rfl (by have hS423 := hS412.ext hX422; have hB424 := hB411.trans (Ext.stp hX422 hS412.base); exact is_ext (q_index (i := v395) SL35 rfl rfl (oS.vw hS423.g0) hg425)), ?_⟩
          refine ⟨.int .i64 (r320[(Int.toNat v395)]!), fun w426 hX427 => od_plain rfl (by have hS428 := hS412.ext hX427; have hB429 := hB411.trans (Ext.stp hX427 hS412.base); exact is_ext (q_load (i := v395) (v := .int .i64 (r320[(Int.toNat v395)]!)) ON3 (oS.vw hS428.g0) hg425 rfl rfl)), ?_⟩
          refine ⟨.slice a0 n0 c0, fun w430 hX431 => od_plain rfl (by have hS432 := hS412.ext hX431; have hB433 := hB411.trans (Ext.stp hX431 hS412.base); exact is_ext (g_move (v := .slice a0 n0 c0) rfl)), ?_⟩
          refine ⟨.int .i64 v395, fun w434 hX435 => od_plain rfl (by have hS436 := hS412.ext hX435; have hB437 := hB411.trans (Ext.stp hX435 hS412.base); exact is_ext (g_move (v := .int .i64 v395) rfl)), ?_⟩
          obtain ⟨hg442, hm⟩ := hm
          refine ⟨.pointer (some ((adr a0).add ((Int.toNat v395) * El.m PlayerD))), fun w438 hX439 => od_plain rfl (by have hS440 := hS412.ext hX439; have hB441 := hB411.trans (Ext.stp hX439 hS412.base); exact is_ext (q_index (i := v395) SL30 rfl rfl (Tv.o (hp0.bel hB441)) (Tv.g (hp0.bel hB441) hg442))), ?_⟩
          refine ⟨.pointer (some (((adr a0).add ((Int.toNat v395) * El.m PlayerD)).add 1)), fun w443 hX444 => od_plain rfl (by have hS445 := hS412.ext hX444; have hB446 := hB411.trans (Ext.stp hX444 hS412.base); exact is_ext (g_fieldAddr (q := (adr a0).add ((Int.toNat v395) * El.m PlayerD)) FL61_1 ON3 rfl)), ?_⟩
          refine ⟨.int .i64 (p0[(Int.toNat v395)]!.2), fun w447 hX448 => od_plain rfl (by have hS449 := hS412.ext hX448; have hB450 := hB411.trans (Ext.stp hX448 hS412.base); exact is_ext (q_loadF (i := v395) (j := 1) (v := .int .i64 (p0[(Int.toNat v395)]!.2)) ON3 (Tv.o (hp0.bel hB450)) (Tv.g (hp0.bel hB450) hg442) (by rw [← Tv.free (hp0.bel hB450) hg442]; rfl) rfl)), ?_⟩
          refine ⟨.bool (decide (r320[(Int.toNat v395)]! > p0[(Int.toNat v395)]!.2)), fun w451 hX452 => od_plain rfl (by have hS453 := hS412.ext hX452; have hB454 := hB411.trans (Ext.stp hX452 hS412.base); exact is_ext (g_gtr (a := r320[(Int.toNat v395)]!) (b := p0[(Int.toNat v395)]!.2) rfl rfl)), ?_⟩
          intro w455 hX456
          have hB457 := hB411.trans (Ext.stp hX456 hS412.base)
          have hS458 := hS412.ext hX456
          refine hK408 _ _ ?_
          refine w_condI (p := r320[(Int.toNat v395)]! > p0[(Int.toNat v395)]!.2) (b := (decide (r320[(Int.toNat v395)]! > p0[(Int.toNat v395)]!.2))) rfl decide_eq_true_iff (fun h459 => ?_) (fun h459 => ?_)
          · replace hm := hm.1 h459
            refine w_seq fun K460 hK460 => ?_
            refine w_region ?_
            refine wl_val (g_assign (v := .bool false) rfl) rfl ?_
            refine wl_nil ?_
            refine hK460 _ _ ?_
            refine w_ret ?_
            repeat first | with_reducible refine q_then ?_ | with_reducible refine q_block ?_
            exact ret1 rfl (by decide) ⟨_, hm, rfl, toExt hB457⟩
          · replace hm := hm.2 h459
            refine w_skip ?_
            refine hK407 _ _ ?_
            refine w_region ?_
            refine wl_val (g_move (v := .int .i64 v395) rfl) rfl ?_
            obtain ⟨hg461, hm⟩ := hm
            refine wl_val (g_add (a := v395) (b := 1) rfl rfl hg461) rfl ?_
            refine wl_val (g_assign (v := .int .i64 (v395 + 1)) rfl) rfl ?_
            refine wl_nil ?_
            exact ⟨((v395 + 1)), hm.2, ⟨rfl, rfl, rfl, trivial⟩, ⟨hm.1, hB457, hS458⟩⟩
        · replace hm := hm.2 h406
          refine w_exit ?_
          have hS462 := hS402.tail
          exact ⟨(), trivial, ⟨hm, hB401, hS462⟩⟩
      · rintro _ b_ w463 ⟨hm, hB464, hS465⟩
        show Wp _ _ _ _ (upds b_ []) w463
        refine w_seq fun K466 hK466 => ?_
        refine w_region ?_
        refine wl_val (g_assign (v := .bool true) rfl) rfl ?_
        refine wl_nil ?_
        refine hK466 _ _ ?_
        refine w_ret ?_
        repeat first | with_reducible refine q_then ?_ | with_reducible refine q_block ?_
        exact ret1 rfl (by decide) ⟨_, hm, rfl, toExt hB464⟩

theorem m_impl_IsCasting_fn {w : World} {a0 : Option Addr} {n0 c0 : Nat} {y0 : List PlayerD} {p0 : List PlayerC} {a1 : Option Addr} {n1 c1 : Nat} {p1 : List Int} {a2 : Option Addr} {n2 c2 : Nat} {p2 : List Int} {Q : Bool → Prop} (hp0 : Tv w.heap.size w a0 n0 c0 y0 p0) (hp1 : Vw w.heap.size w a1 n1 c1 p1) (hp2 : Vw w.heap.size w a2 n2 c2 p2) (hm : m_impl_IsCasting p0 p1 p2 Q) :
    Fn Try.prog 47 #[.slice a0 n0 c0, .slice a1 n1 c1, .slice a2 n2 c2] w (fun v w' => ∃ (r0 : Bool), Q r0 ∧ v = .bool r0 ∧ Ext w w') := by
  unfold m_impl_IsCasting at hm
  have hB0 := Below.refl w.heap.size w
  have hS0 : Sep w w.heap.size [] := Sep.nil (Nat.le_refl _)
  refine fn_of_wp Try.func47 rfl (by kernel_rfl) (Nat.le_of_ble_eq_true rfl) ?_
  refine w_seq fun K1 hK1 => ?_
  refine w_region ?_
  refine wl_val (g_assign (v := .bool false) rfl) rfl ?_
  refine wl_nil ?_
  refine hK1 _ _ ?_
  refine w_seq fun K2 hK2 => ?_
  refine w_seq fun K3 hK3 => ?_
  refine w_region ?_
  refine wl_val (g_move (v := .slice a0 n0 c0) rfl) rfl ?_
  refine wl_step rfl (g_call (vs := #[.slice a0 n0 c0]) CF24 (args1 rfl) (m_impl_PlayersOk_fn ((hp0.bel hB0).up hS0) hm)) ?_
  rintro _ w4 ⟨r7, hm, rfl, hE5⟩
  have hB8 := hB0.trans (Ext.stp hE5 hS0.base)
  have hS9 := hS0.ext hE5
  refine wl_val (g_not (a := r7) rfl) rfl ?_
  refine wl_val (g_move (v := .bool (!r7)) rfl) rfl ?_
  refine wl_guard (c := (!r7) = false) (val := .slice a1 n1 c1) (b := ((!r7) == false)) (gv_some rfl rfl rfl) beq_iff_eq (fun hc10 => ?_) ?_
  · have hq0 : ¬ (¬ (r7 = true)) := (i_neg (i_not Iff.rfl) hc10)
    exact g_move (v := .slice a1 n1 c1) rfl
  obtain ⟨r12, hk13, hm⟩ := hm
  refine wl_guardE (X := Ext) (c := (!r7) = false) (val := .bool r12) (Ext.refl _) (b := ((!r7) == false)) (gv_some rfl rfl rfl) beq_iff_eq (fun hc11 => ?_) (fun w14 hE15 => ?_)
  · have hq0 : ¬ (¬ (r7 = true)) := (i_neg (i_not Iff.rfl) hc11)
    exact (g_call (vs := #[.slice a1 n1 c1]) CF66 (args1 (if_pos hc11)) ((m_impl_arePuppets_fn ((hp1.bel hB8).up hS9) (hk13 hq0)).mono fun _ _ ⟨_, h1, h2, h3⟩ => ⟨by rw [h2, h1], h3⟩))
  have hB16 := hB8.trans (Ext.stp hE15 hS9.base)
  have hS17 := hS9.ext hE15
  refine wl_guard (c := (!r7) = false) (val := .bool (!r12)) (b := ((!r7) == false)) (gv_some rfl rfl rfl) beq_iff_eq (fun hc18 => ?_) ?_
  · have hq0 : ¬ (¬ (r7 = true)) := (i_neg (i_not Iff.rfl) hc18)
    exact g_not (a := r12) (if_pos hc18)
  refine wl_val (g_pick_or (b := (!r7)) (q := (!r12)) rfl rfl) rfl ?_
  refine wl_val (g_move (v := .bool ((!r7) || (!r12))) rfl) rfl ?_
  refine wl_guard (c := ((!r7) || (!r12)) = false) (val := .slice a2 n2 c2) (b := (((!r7) || (!r12)) == false)) (gv_some rfl rfl rfl) beq_iff_eq (fun hc19 => ?_) ?_
  · have hq1 : ¬ (((¬ (r7 = true)) ∨ (¬ (r12 = true)))) := (i_neg (i_or (i_not Iff.rfl) (i_not Iff.rfl)) hc19)
    exact g_move (v := .slice a2 n2 c2) rfl
  refine wl_guard (c := ((!r7) || (!r12)) = false) (val := .int .i64 (p2.length : Int)) (b := (((!r7) || (!r12)) == false)) (gv_some rfl rfl rfl) beq_iff_eq (fun hc20 => ?_) ?_
  · have hq1 : ¬ (((¬ (r7 = true)) ∨ (¬ (r12 = true)))) := (i_neg (i_or (i_not Iff.rfl) (i_not Iff.rfl)) hc20)
    exact q_len SL35 (if_pos hc20) (Vw.len (hp2.bel hB16))
  refine wl_guard (c := ((!r7) || (!r12)) = false) (val := .slice a1 n1 c1) (b := (((!r7) || (!r12)) == false)) (gv_some rfl rfl rfl) beq_iff_eq (fun hc21 => ?_) ?_
  · have hq1 : ¬ (((¬ (r7 = true)) ∨ (¬ (r12 = true)))) := (i_neg (i_or (i_not Iff.rfl) (i_not Iff.rfl)) hc21)
    exact g_move (v := .slice a1 n1 c1) rfl
  refine wl_guard (c := ((!r7) || (!r12)) = false) (val := .int .i64 (p1.length : Int)) (b := (((!r7) || (!r12)) == false)) (gv_some rfl rfl rfl) beq_iff_eq (fun hc22 => ?_) ?_
  · have hq1 : ¬ (((¬ (r7 = true)) ∨ (¬ (r12 = true)))) := (i_neg (i_or (i_not Iff.rfl) (i_not Iff.rfl)) hc22)
    exact q_len SL35 (if_pos hc22) (Vw.len (hp1.bel hB16))
  refine wl_guard (c := ((!r7) || (!r12)) = false) (val := .bool (decide ((p2.length : Int) ≠ (p1.length : Int)))) (b := (((!r7) || (!r12)) == false)) (gv_some rfl rfl rfl) beq_iff_eq (fun hc23 => ?_) ?_
  · have hq1 : ¬ (((¬ (r7 = true)) ∨ (¬ (r12 = true)))) := (i_neg (i_or (i_not Iff.rfl) (i_not Iff.rfl)) hc23)
    exact g_neq (a := (p2.length : Int)) (b := (p1.length : Int)) (if_pos hc23) (if_pos hc23)
  refine wl_val (g_pick_or (b := ((!r7) || (!r12))) (q := (decide ((p2.length : Int) ≠ (p1.length : Int)))) rfl rfl) rfl ?_
  refine wl_nil ?_
  refine hK3 _ _ ?_
  refine w_condI (p := ((((¬ (r7 = true)) ∨ (¬ (r12 = true)))) ∨ ((p2.length : Int) ≠ (p1.length : Int)))) (b := (((!r7) || (!r12)) || (decide ((p2.length : Int) ≠ (p1.length : Int))))) rfl (i_or (i_or (i_not Iff.rfl) (i_not Iff.rfl)) decide_eq_true_iff) (fun h24 => ?_) (fun h24 => ?_)
  · replace hm := hm.1 h24
    refine w_seq fun K25 hK25 => ?_
    refine w_region ?_
    refine wl_val (g_assign (v := .bool false) rfl) rfl ?_
    refine wl_nil ?_
    refine hK25 _ _ ?_
    refine w_ret ?_
    repeat first | with_reducible refine q_then ?_ | with_reducible refine q_block ?_
    exact ret1 rfl (by decide) ⟨_, hm, rfl, toExt hB16⟩
  · replace hm := hm.2 h24
    refine w_skip ?_
    refine hK2 _ _ ?_
    refine w_cut (σ := Unit) (fun _ => [(0, .slice a0 n0 c0), (2, .slice a2 n2 c2)]) (fun _ w' => m_impl_IsCasting_K1 p0 p2 Q ∧ Below w.heap.size w w' ∧ Sep w' w.heap.size []) ?_ ?_
    · refine w_seq fun K27 hK27 => ?_
      refine w_region ?_
      refine wl_val (g_move (v := .slice a2 n2 c2) rfl) rfl ?_
      refine wl_val (q_len SL35 rfl (Vw.len (hp2.bel hB16))) rfl ?_
      refine wl_val (g_move (v := .int .i64 0) rfl) rfl ?_
      refine wl_nil ?_
      refine hK27 _ _ ?_
      refine w_block ?_
      obtain ⟨I149, μ150, h0151, hr152⟩ := hm
      refine w_for (σ := Int) (fun v148 => [(0, .slice a0 n0 c0), (1, .slice a1 n1 c1), (2, .slice a2 n2 c2), (26, .slice a2 n2 c2), (27, .int .i64 (p2.length : Int)), (28, .int .i64 v148)]) (fun v148 w' => I149 v148 ∧ Below w.heap.size w w' ∧ Sep w' w.heap.size []) (fun v148 => μ150 v148) (0) ⟨rfl, rfl, rfl, rfl, rfl, rfl, trivial⟩ ⟨h0151, hB16, hS17⟩ ?_
      rintro v148 b_ w153 ⟨hi_, hB154, hS155⟩
      show Wp _ _ _ _ (upds b_ [(0, .slice a0 n0 c0), (1, .slice a1 n1 c1), (2, .slice a2 n2 c2), (26, .slice a2 n2 c2), (27, .int .i64 (p2.length : Int)), (28, .int .i64 v148)]) w153
      have hm := hr152 v148 hi_
      refine w_seq fun K157 hK157 => ?_
      refine w_region ?_
      refine wl_val (g_lss (a := v148) (b := (p2.length : Int)) rfl rfl) rfl ?_
      refine wl_nil ?_
      refine hK157 _ _ ?_
      refine w_seq fun K158 hK158 => ?_
      refine w_condI (p := v148 < (p2.length : Int)) (b := (decide (v148 < (p2.length : Int)))) rfl decide_eq_true_iff (fun h159 => ?_) (fun h159 => ?_)
      · replace hm := hm.1 h159
        refine w_skip ?_
        refine hK158 _ _ ?_
        refine w_seq fun K160 hK160 => ?_
        refine w_block ?_
        refine w_seq fun K161 hK161 => ?_
        refine w_region ?_
        refine wl_val (g_move (v := .int .i64 v148) rfl) rfl ?_
        obtain ⟨hg162, hm⟩ := hm
        refine wl_val (q_index (i := v148) SL35 rfl rfl (hp2.bel hB154) hg162) rfl ?_
        refine wl_val (q_load (i := v148) (v := .int .i64 (p2[(Int.toNat v148)]!)) ON3 (hp2.bel hB154) hg162 rfl rfl) rfl ?_
        refine wl_val (g_assign (v := .int .i64 v148) rfl) rfl ?_
        refine wl_val (g_assign (v := .int .i64 (p2[(Int.toNat v148)]!)) rfl) rfl ?_
        refine wl_nil ?_
        refine hK161 _ _ ?_
        refine w_seq fun K163 hK163 => ?_
        refine w_draw (X := Ext) (Y := Ext) [] MIX (by decide +kernel) rfl Ext.refl (fun _ _ _ => Ext.trans) (fun _ _ _ => Chg.trans) (fun _ _ h => Ext.chg h _) (fun w164 hE165 => ?_)
        have hB166 := hB154.trans (Ext.stp hE165 hS155.base)
        have hS167 := hS155.ext hE165
        refine ⟨.int .i64 (p2[(Int.toNat v148)]!), fun w168 hX169 => od_plain rfl (by have hS170 := hS167.ext hX169; have hB171 := hB166.trans (Ext.stp hX169 hS167.base); exact is_ext (g_move (v := .int .i64 (p2[(Int.toNat v148)]!)) rfl)), ?_⟩
        refine ⟨.slice a0 n0 c0, fun w172 hX173 => od_plain rfl (by have hS174 := hS167.ext hX173; have hB175 := hB166.trans (Ext.stp hX173 hS167.base); exact is_ext (g_move (v := .slice a0 n0 c0) rfl)), ?_⟩
        refine ⟨.int .i64 (p0.length : Int), fun w176 hX177 => od_plain rfl (by have hS178 := hS167.ext hX177; have hB179 := hB166.trans (Ext.stp hX177 hS167.base); exact is_ext (q_len SL30 rfl (Tv.len (hp0.bel hB179)))), ?_⟩
        obtain ⟨hg184, hm⟩ := hm
        refine ⟨.int .i64 ((p0.length : Int) - 1), fun w180 hX181 => od_plain rfl (by have hS182 := hS167.ext hX181; have hB183 := hB166.trans (Ext.stp hX181 hS167.base); exact is_ext (g_sub (a := (p0.length : Int)) (b := 1) rfl rfl hg184)), ?_⟩
        obtain ⟨r189, hk190, hm⟩ := hm
        refine ⟨.bool r189, fun w185 hX186 => od_plain rfl (by have hS187 := hS167.ext hX186; have hB188 := hB166.trans (Ext.stp hX186 hS167.base); exact (g_call (vs := #[.int .i64 (p2[(Int.toNat v148)]!), .int .i64 0, .int .i64 ((p0.length : Int) - 1)]) CF62 (args3 rfl rfl rfl) ((m_impl_within_fn (p2[(Int.toNat v148)]!) 0 ((p0.length : Int) - 1) hk190).mono fun _ _ ⟨_, h1, h2, h3⟩ => ⟨by rw [h2, h1], h3⟩))), ?_⟩
        refine ⟨.bool (!r189), fun w191 hX192 => od_plain rfl (by have hS193 := hS167.ext hX192; have hB194 := hB166.trans (Ext.stp hX192 hS167.base); exact is_ext (g_not (a := r189) rfl)), ?_⟩
        refine ⟨.bool (!r189), fun w195 hX196 => od_plain rfl (by have hS197 := hS167.ext hX196; have hB198 := hB166.trans (Ext.stp hX196 hS167.base); exact is_ext (g_move (v := .bool (!r189)) rfl)), ?_⟩
        refine ⟨if (!r189) = false then .slice a0 n0 c0 else undef, fun w199 hX200 => od_guard (c := (!r189) = false) (val := .slice a0 n0 c0) (b := ((!r189) == false)) (gv_some rfl rfl rfl) beq_iff_eq (fun hc203 => ?_), ?_⟩
        · have hS201 := hS167.ext hX200
          have hB202 := hB166.trans (Ext.stp hX200 hS167.base)
          have hq3 : ¬ (¬ (r189 = true)) := (i_neg (i_not Iff.rfl) hc203)
          exact is_ext (g_move (v := .slice a0 n0 c0) rfl)
        refine ⟨if (!r189) = false then .int .i64 (p2[(Int.toNat v148)]!) else undef, fun w204 hX205 => od_guard (c := (!r189) = false) (val := .int .i64 (p2[(Int.toNat v148)]!)) (b := ((!r189) == false)) (gv_some rfl rfl rfl) beq_iff_eq (fun hc208 => ?_), ?_⟩
        · have hS206 := hS167.ext hX205
          have hB207 := hB166.trans (Ext.stp hX205 hS167.base)
          have hq3 : ¬ (¬ (r189 = true)) := (i_neg (i_not Iff.rfl) hc208)
          exact is_ext (g_move (v := .int .i64 (p2[(Int.toNat v148)]!)) rfl)
        obtain ⟨hg214, hm⟩ := hm
        refine ⟨if (!r189) = false then .pointer (some ((adr a0).add ((Int.toNat (p2[(Int.toNat v148)]!)) * El.m PlayerD))) else undef, fun w209 hX210 => od_guard (c := (!r189) = false) (val := .pointer (some ((adr a0).add ((Int.toNat (p2[(Int.toNat v148)]!)) * El.m PlayerD)))) (b := ((!r189) == false)) (gv_some rfl rfl rfl) beq_iff_eq (fun hc213 => ?_), ?_⟩
        · have hS211 := hS167.ext hX210
          have hB212 := hB166.trans (Ext.stp hX210 hS167.base)
          have hq3 : ¬ (¬ (r189 = true)) := (i_neg (i_not Iff.rfl) hc213)
          exact is_ext (q_index (i := p2[(Int.toNat v148)]!) SL30 (if_pos hc213) (if_pos hc213) (Tv.o (hp0.bel hB212)) (Tv.g (hp0.bel hB212) (hg214 hq3)))
        refine ⟨if (!r189) = false then .pointer (some (((adr a0).add ((Int.toNat (p2[(Int.toNat v148)]!)) * El.m PlayerD)).add 0)) else undef, fun w215 hX216 => od_guard (c := (!r189) = false) (val := .pointer (some (((adr a0).add ((Int.toNat (p2[(Int.toNat v148)]!)) * El.m PlayerD)).add 0))) (b := ((!r189) == false)) (gv_some rfl rfl rfl) beq_iff_eq (fun hc219 => ?_), ?_⟩
        · have hS217 := hS167.ext hX216
          have hB218 := hB166.trans (Ext.stp hX216 hS167.base)
          have hq3 : ¬ (¬ (r189 = true)) := (i_neg (i_not Iff.rfl) hc219)
          exact is_ext (g_fieldAddr (q := (adr a0).add ((Int.toNat (p2[(Int.toNat v148)]!)) * El.m PlayerD)) FL61_0 ON35 (if_pos hc219))
        refine ⟨if (!r189) = false then .slice ((y0[(Int.toNat (p2[(Int.toNat v148)]!))]!).1.1) ((y0[(Int.toNat (p2[(Int.toNat v148)]!))]!).1.2.2.length) ((y0[(Int.toNat (p2[(Int.toNat v148)]!))]!).1.2.1) else undef, fun w220 hX221 => od_guard (c := (!r189) = false) (val := .slice ((y0[(Int.toNat (p2[(Int.toNat v148)]!))]!).1.1) ((y0[(Int.toNat (p2[(Int.toNat v148)]!))]!).1.2.2.length) ((y0[(Int.toNat (p2[(Int.toNat v148)]!))]!).1.2.1)) (b := ((!r189) == false)) (gv_some rfl rfl rfl) beq_iff_eq (fun hc224 => ?_), ?_⟩
        · have hS222 := hS167.ext hX221
          have hB223 := hB166.trans (Ext.stp hX221 hS167.base)
          have hq3 : ¬ (¬ (r189 = true)) := (i_neg (i_not Iff.rfl) hc224)
          exact is_ext (q_loadF (i := p2[(Int.toNat v148)]!) (j := 0) (v := .slice ((y0[(Int.toNat (p2[(Int.toNat v148)]!))]!).1.1) ((y0[(Int.toNat (p2[(Int.toNat v148)]!))]!).1.2.2.length) ((y0[(Int.toNat (p2[(Int.toNat v148)]!))]!).1.2.1)) ON35 (Tv.o (hp0.bel hB223)) (Tv.g (hp0.bel hB223) (hg214 hq3)) rfl (if_pos hc224))
        refine ⟨if (!r189) = false then .slice a1 n1 c1 else undef, fun w225 hX226 => od_guard (c := (!r189) = false) (val := .slice a1 n1 c1) (b := ((!r189) == false)) (gv_some rfl rfl rfl) beq_iff_eq (fun hc229 => ?_), ?_⟩
        · have hS227 := hS167.ext hX226
          have hB228 := hB166.trans (Ext.stp hX226 hS167.base)
          have hq3 : ¬ (¬ (r189 = true)) := (i_neg (i_not Iff.rfl) hc229)
          exact is_ext (g_move (v := .slice a1 n1 c1) rfl)
        refine ⟨if (!r189) = false then .int .i64 v148 else undef, fun w230 hX231 => od_guard (c := (!r189) = false) (val := .int .i64 v148) (b := ((!r189) == false)) (gv_some rfl rfl rfl) beq_iff_eq (fun hc234 => ?_), ?_⟩
        · have hS232 := hS167.ext hX231
          have hB233 := hB166.trans (Ext.stp hX231 hS167.base)
          have hq3 : ¬ (¬ (r189 = true)) := (i_neg (i_not Iff.rfl) hc234)
          exact is_ext (g_move (v := .int .i64 v148) rfl)
        obtain ⟨hg240, hm⟩ := hm
        refine ⟨if (!r189) = false then .pointer (some ((adr a1).add ((Int.toNat v148) * El.m Int))) else undef, fun w235 hX236 => od_guard (c := (!r189) = false) (val := .pointer (some ((adr a1).add ((Int.toNat v148) * El.m Int)))) (b := ((!r189) == false)) (gv_some rfl rfl rfl) beq_iff_eq (fun hc239 => ?_), ?_⟩
        · have hS237 := hS167.ext hX236
          have hB238 := hB166.trans (Ext.stp hX236 hS167.base)
          have hq3 : ¬ (¬ (r189 = true)) := (i_neg (i_not Iff.rfl) hc239)
          exact is_ext (q_index (i := v148) SL35 (if_pos hc239) (if_pos hc239) (hp1.bel hB238) (hg240 hq3))
        refine ⟨if (!r189) = false then .int .i64 (p1[(Int.toNat v148)]!) else undef, fun w241 hX242 => od_guard (c := (!r189) = false) (val := .int .i64 (p1[(Int.toNat v148)]!)) (b := ((!r189) == false)) (gv_some rfl rfl rfl) beq_iff_eq (fun hc245 => ?_), ?_⟩
        · have hS243 := hS167.ext hX242
          have hB244 := hB166.trans (Ext.stp hX242 hS167.base)
          have hq3 : ¬ (¬ (r189 = true)) := (i_neg (i_not Iff.rfl) hc245)
          exact is_ext (q_load (i := v148) (v := .int .i64 (p1[(Int.toNat v148)]!)) ON3 (hp1.bel hB244) (hg240 hq3) rfl (if_pos hc245))
        obtain ⟨r251, hk252, hm⟩ := hm
        refine ⟨if (!r189) = false then .int .i64 r251 else undef, fun w246 hX247 => od_guard (c := (!r189) = false) (val := .int .i64 r251) (b := ((!r189) == false)) (gv_some rfl rfl rfl) beq_iff_eq (fun hc250 => ?_), ?_⟩
        · have hS248 := hS167.ext hX247
          have hB249 := hB166.trans (Ext.stp hX247 hS167.base)
          have hq3 : ¬ (¬ (r189 = true)) := (i_neg (i_not Iff.rfl) hc250)
          exact (g_call (vs := #[.slice ((y0[(Int.toNat (p2[(Int.toNat v148)]!))]!).1.1) ((y0[(Int.toNat (p2[(Int.toNat v148)]!))]!).1.2.2.length) ((y0[(Int.toNat (p2[(Int.toNat v148)]!))]!).1.2.1), .int .i64 (p1[(Int.toNat v148)]!)]) CF67 (args2 (if_pos hc250) (if_pos hc250)) ((m_impl_indexOf_fn ((Tv.rowP (hp0.bel hB249) (hg214 hq3)).up hS248) (p1[(Int.toNat v148)]!) (hk252 hq3)).mono fun _ _ ⟨_, h1, h2, h3⟩ => ⟨by rw [h2, h1], h3⟩))
        refine ⟨if (!r189) = false then .bool (decide (r251 < 0)) else undef, fun w253 hX254 => od_guard (c := (!r189) = false) (val := .bool (decide (r251 < 0))) (b := ((!r189) == false)) (gv_some rfl rfl rfl) beq_iff_eq (fun hc257 => ?_), ?_⟩
        · have hS255 := hS167.ext hX254
          have hB256 := hB166.trans (Ext.stp hX254 hS167.base)
          have hq3 : ¬ (¬ (r189 = true)) := (i_neg (i_not Iff.rfl) hc257)
          exact is_ext (g_lss (a := r251) (b := 0) (if_pos hc257) rfl)
        refine ⟨.bool ((!r189) || (decide (r251 < 0))), fun w258 hX259 => od_plain rfl (by have hS260 := hS167.ext hX259; have hB261 := hB166.trans (Ext.stp hX259 hS167.base); exact is_ext (g_pick_or (b := (!r189)) (q := (decide (r251 < 0))) rfl rfl)), ?_⟩
        intro w262 hX263
        have hB264 := hB166.trans (Ext.stp hX263 hS167.base)
        have hS265 := hS167.ext hX263
        refine hK163 _ _ ?_
        refine w_condI (p := ((¬ (r189 = true)) ∨ (r251 < 0))) (b := ((!r189) || (decide (r251 < 0)))) rfl (i_or (i_not Iff.rfl) decide_eq_true_iff) (fun h266 => ?_) (fun h266 => ?_)
        · replace hm := hm.1 h266
          refine w_seq fun K267 hK267 => ?_
          refine w_region ?_
          refine wl_val (g_assign (v := .bool false) rfl) rfl ?_
          refine wl_nil ?_
          refine hK267 _ _ ?_
          refine w_ret ?_
          repeat first | with_reducible refine q_then ?_ | with_reducible refine q_block ?_
          exact ret1 rfl (by decide) ⟨_, hm, rfl, toExt hB264⟩
        · replace hm := hm.2 h266
          refine w_skip ?_
          refine hK160 _ _ ?_
          refine w_region ?_
          obtain ⟨hg268, hm⟩ := hm
          refine wl_val (g_add (a := v148) (b := 1) rfl rfl hg268) rfl ?_
          refine wl_val (g_move (v := .int .i64 (v148 + 1)) rfl) rfl ?_
          refine wl_nil ?_
          exact ⟨((v148 + 1)), hm.2, ⟨rfl, rfl, rfl, rfl, rfl, rfl, trivial⟩, ⟨hm.1, hB264, hS265⟩⟩
      · replace hm := hm.2 h159
        refine w_exit ?_
        exact ⟨(), ⟨rfl, rfl, trivial⟩, ⟨hm, hB154, hS155⟩⟩
    · rintro _ b_ w269 ⟨hm, hB270, hS271⟩
      show Wp _ _ _ _ (upds b_ [(0, .slice a0 n0 c0), (2, .slice a2 n2 c2)]) w269
      refine w_cut (σ := Unit) (fun _ => []) (fun _ w' => m_impl_IsCasting_K0 Q ∧ Below w.heap.size w w' ∧ Sep w' w.heap.size []) ?_ ?_
      · refine w_seq fun K273 hK273 => ?_
        refine w_region ?_
        refine wl_val (g_move (v := .slice a0 n0 c0) rfl) rfl ?_
        refine wl_val (g_move (v := .slice a2 n2 c2) rfl) rfl ?_
        refine wl_step rfl (g_call (vs := #[.slice a0 n0 c0, .slice a2 n2 c2]) CF35 (args2 rfl rfl) (m_impl_LoadOf_fn ((hp0.bel hB270).up hS271) ((hp2.bel hB270).up hS271) hm)) ?_
        rintro _ w274 ⟨r277, a278, n279, c280, hm, rfl, hE275, hN276⟩
        have hS282 := hS271.call1 hE275 hN276
        have hB283 := hB270.trans (Ext.stp hE275 hS271.base)
        refine wl_val (q_len SL35 rfl (Vw.len (oS.vw hS282.g0))) rfl ?_
        refine wl_val (g_move (v := .int .i64 0) rfl) rfl ?_
        refine wl_nil ?_
        refine hK273 _ _ ?_
        refine w_block ?_
        obtain ⟨I304, μ305, h0306, hr307⟩ := hm
        refine w_for (σ := Int) (fun v303 => [(0, .slice a0 n0 c0), (55, .slice a278 n279 c280), (56, .int .i64 (r277.length : Int)), (57, .int .i64 v303)]) (fun v303 w' => I304 v303 ∧ Below w.heap.size w w' ∧ Sep w' w.heap.size [oS 3 a278 n279 c280 (r277 : List Int)]) (fun v303 => μ305 v303) (0) ⟨rfl, rfl, rfl, rfl, trivial⟩ ⟨h0306, hB283, hS282⟩ ?_
        rintro v303 b_ w308 ⟨hi_, hB309, hS310⟩
        show Wp _ _ _ _ (upds b_ [(0, .slice a0 n0 c0), (55, .slice a278 n279 c280), (56, .int .i64 (r277.length : Int)), (57, .int .i64 v303)]) w308
        have hm := hr307 v303 hi_
        refine w_seq fun K312 hK312 => ?_
        refine w_region ?_
        refine wl_val (g_lss (a := v303) (b := (r277.length : Int)) rfl rfl) rfl ?_
        refine wl_nil ?_
        refine hK312 _ _ ?_
        refine w_seq fun K313 hK313 => ?_
        refine w_condI (p := v303 < (r277.length : Int)) (b := (decide (v303 < (r277.length : Int)))) rfl decide_eq_true_iff (fun h314 => ?_) (fun h314 => ?_)
        · replace hm := hm.1 h314
          refine w_skip ?_
          refine hK313 _ _ ?_
          refine w_seq fun K315 hK315 => ?_
          refine w_block ?_
          refine w_seq fun K316 hK316 => ?_
          refine w_region ?_
          refine wl_val (g_move (v := .int .i64 v303) rfl) rfl ?_
          obtain ⟨hg317, hm⟩ := hm
          refine wl_val (q_index (i := v303) SL35 rfl rfl (oS.vw hS310.g0) hg317) rfl ?_
          refine wl_val (q_load (i := v303) (v := .int .i64 (r277[(Int.toNat v303)]!)) ON3 (oS.vw hS310.g0) hg317 rfl rfl) rfl ?_
          refine wl_val (g_assign (v := .int .i64 v303) rfl) rfl ?_
          refine wl_val (g_assign (v := .int .i64 (r277[(Int.toNat v303)]!)) rfl) rfl ?_
          refine wl_nil ?_
          refine hK316 _ _ ?_
          refine w_seq fun K318 hK318 => ?_
          refine w_region ?_
          refine wl_val (g_move (v := .int .i64 (r277[(Int.toNat v303)]!)) rfl) rfl ?_
          refine wl_val (g_move (v := .slice a0 n0 c0) rfl) rfl ?_
          refine wl_val (g_move (v := .int .i64 v303) rfl) rfl ?_
          obtain ⟨hg319, hm⟩ := hm
          refine wl_val (q_index (i := v303) SL30 rfl rfl (Tv.o (hp0.bel hB309)) (Tv.g (hp0.bel hB309) hg319)) rfl ?_
          refine wl_val (g_fieldAddr (q := (adr a0).add ((Int.toNat v303) * El.m PlayerD)) FL61_1 ON3 rfl) rfl ?_
          refine wl_val (q_loadF (i := v303) (j := 1) (v := .int .i64 (p0[(Int.toNat v303)]!.2)) ON3 (Tv.o (hp0.bel hB309)) (Tv.g (hp0.bel hB309) hg319) (by rw [← Tv.free (hp0.bel hB309) hg319]; rfl) rfl) rfl ?_
          refine wl_val (g_gtr (a := r277[(Int.toNat v303)]!) (b := p0[(Int.toNat v303)]!.2) rfl rfl) rfl ?_
          refine wl_nil ?_
          refine hK318 _ _ ?_
          refine w_condI (p := r277[(Int.toNat v303)]! > p0[(Int.toNat v303)]!.2) (b := (decide (r277[(Int.toNat v303)]! > p0[(Int.toNat v303)]!.2))) rfl decide_eq_true_iff (fun h320 => ?_) (fun h320 => ?_)
          · replace hm := hm.1 h320
            refine w_seq fun K321 hK321 => ?_
            refine w_region ?_
            refine wl_val (g_assign (v := .bool false) rfl) rfl ?_
            refine wl_nil ?_
            refine hK321 _ _ ?_
            refine w_ret ?_
            repeat first | with_reducible refine q_then ?_ | with_reducible refine q_block ?_
            exact ret1 rfl (by decide) ⟨_, hm, rfl, toExt hB309⟩
          · replace hm := hm.2 h320
            refine w_skip ?_
            refine hK315 _ _ ?_
            refine w_region ?_
            obtain ⟨hg322, hm⟩ := hm
            refine wl_val (g_add (a := v303) (b := 1) rfl rfl hg322) rfl ?_
            refine wl_val (g_move (v := .int .i64 (v303 + 1)) rfl) rfl ?_
            refine wl_nil ?_
            exact ⟨((v303 + 1)), hm.2, ⟨rfl, rfl, rfl, rfl, trivial⟩, ⟨hm.1, hB309, hS310⟩⟩
        · replace hm := hm.2 h314
          refine w_exit ?_
          have hS323 := hS310.tail
          exact ⟨(), trivial, ⟨hm, hB309, hS323⟩⟩
      · rintro _ b_ w324 ⟨hm, hB325, hS326⟩
        show Wp _ _ _ _ (upds b_ []) w324
        refine w_seq fun K327 hK327 => ?_
        refine w_region ?_
        refine wl_val (g_assign (v := .bool true) rfl) rfl ?_
        refine wl_nil ?_
        refine hK327 _ _ ?_
        refine w_ret ?_
        repeat first | with_reducible refine q_then ?_ | with_reducible refine q_block ?_
        exact ret1 rfl (by decide) ⟨_, hm, rfl, toExt hB325⟩

theorem m_spec_l14Part_fn {w : World} {a0 : Option Addr} {n0 c0 : Nat} {p0 : List Int} {Q : (List Int) → Prop} (hp0 : Vw w.heap.size w a0 n0 c0 p0) (p1 : Int) (hm : m_spec_l14Part p0 p1 Q) :
    Fn Try.prog 70 #[.slice a0 n0 c0, .int .i64 p1] w (fun v w' => ∃ (r0 : List Int) (a0 : Option Addr) (n0 c0 : Nat), Q r0 ∧ v = .slice a0 n0 c0 ∧ Ext w w' ∧ Sep w' w.heap.size [oS 3 a0 n0 c0 r0]) := by
  unfold m_spec_l14Part at hm
  have hB0 := Below.refl w.heap.size w
  have hS0 : Sep w w.heap.size [] := Sep.nil (Nat.le_refl _)
  refine fn_of_wp Try.func70 rfl (by kernel_rfl) (Nat.le_of_ble_eq_true rfl) ?_
  refine w_seq fun K1 hK1 => ?_
  refine w_region ?_
  refine wl_val (g_assign (v := .slice none 0 0) rfl) rfl ?_
  refine wl_nil ?_
  refine hK1 _ _ ?_
  refine w_seq fun K2 hK2 => ?_
  refine w_region ?_
  refine wl_step rfl (q_lit0 (α := Int) rfl SL35 hS0) ?_
  rintro _ w3 ⟨a4, rfl, hS6, hE5⟩
  have hB8 := hB0.trans (Ext.stp hE5 hS0.base)
  refine wl_val (g_assign (v := .slice a4 0 0) rfl) rfl ?_
  refine wl_nil ?_
  refine hK2 _ _ ?_
  refine w_cut (σ := List Int × Option Addr × Nat × Nat) (fun ⟨x82, a83, n84, c85⟩ => [(5, .slice a83 n84 c85)]) (fun ⟨x82, a83, n84, c85⟩ w' => m_spec_l14Part_K0 Q x82 ∧ Below w.heap.size w w' ∧ Sep w' w.heap.size [oS 3 a83 n84 c85 (x82 : List Int)]) ?_ ?_
  · refine w_seq fun K87 hK87 => ?_
    refine w_region ?_
    refine wl_val (g_assign (v := .int .i64 0) rfl) rfl ?_
    refine wl_nil ?_
    refine hK87 _ _ ?_
    refine w_block ?_
    obtain ⟨I93, μ94, h095, hr96⟩ := hm
    refine w_for (σ := List Int × Option Addr × Nat × Nat × Int) (fun ⟨x88, a89, n90, c91, v92⟩ => [(0, .slice a0 n0 c0), (1, .int .i64 p1), (5, .slice a89 n90 c91), (6, .int .i64 v92)]) (fun ⟨x88, a89, n90, c91, v92⟩ w' => I93 x88 v92 ∧ Below w.heap.size w w' ∧ Sep w' w.heap.size [oS 3 a89 n90 c91 (x88 : List Int)]) (fun ⟨x88, a89, n90, c91, v92⟩ => μ94 x88 v92) ([], a4, 0, 0, 0) ⟨rfl, rfl, rfl, rfl, trivial⟩ ⟨h095, hB8, hS6⟩ ?_
    rintro ⟨x88, a89, n90, c91, v92⟩ b_ w97 ⟨hi_, hB98, hS99⟩
    show Wp _ _ _ _ (upds b_ [(0, .slice a0 n0 c0), (1, .int .i64 p1), (5, .slice a89 n90 c91), (6, .int .i64 v92)]) w97
    have hm := hr96 x88 v92 hi_
    refine w_seq fun K101 hK101 => ?_
    refine w_seq fun K102 hK102 => ?_
    refine w_region ?_
    refine wl_val (g_move (v := .int .i64 v92) rfl) rfl ?_
    refine wl_val (g_move (v := .slice a0 n0 c0) rfl) rfl ?_
    refine wl_val (q_len SL35 rfl (Vw.len (hp0.bel hB98))) rfl ?_
    refine wl_val (g_lss (a := v92) (b := (p0.length : Int)) rfl rfl) rfl ?_
    refine wl_nil ?_
    refine hK102 _ _ ?_
    refine w_condI (p := v92 < (p0.length : Int)) (b := (decide (v92 < (p0.length : Int)))) rfl decide_eq_true_iff (fun h103 => ?_) (fun h103 => ?_)
    · replace hm := hm.1 h103
      refine w_skip ?_
      refine hK101 _ _ ?_
      refine w_seq fun K104 hK104 => ?_
      refine w_block ?_
      refine w_seq fun K105 hK105 => ?_
      refine w_region ?_
      refine wl_val (g_move (v := .int .i64 p1) rfl) rfl ?_
      refine wl_val (g_move (v := .int .i64 v92) rfl) rfl ?_
      obtain ⟨hg106, hm⟩ := hm
      refine wl_val (g_shr (a := p1) (b := v92) rfl rfl hg106) rfl ?_
      obtain ⟨hg107, hm⟩ := hm
      refine wl_val (g_band (a := (sar p1 v92)) (b := 1) rfl rfl hg107) rfl ?_
      refine wl_val (g_eql (a := (band (sar p1 v92) 1)) (b := 1) rfl rfl) rfl ?_
      refine wl_nil ?_
      refine hK105 _ _ ?_
      refine w_condI (p := (band (sar p1 v92) 1) = 1) (b := (decide ((band (sar p1 v92) 1) = 1))) rfl decide_eq_true_iff (fun h108 => ?_) (fun h108 => ?_)
      · replace hm := hm.1 h108
        refine w_region ?_
        refine wl_val (g_move (v := .slice a89 n90 c91) rfl) rfl ?_
        refine wl_val (g_move (v := .slice a0 n0 c0) rfl) rfl ?_
        refine wl_val (g_move (v := .int .i64 v92) rfl) rfl ?_
        obtain ⟨hg109, hm⟩ := hm
        refine wl_val (q_index (i := v92) SL35 rfl rfl (hp0.bel hB98) hg109) rfl ?_
        refine wl_val (q_load (i := v92) (v := .int .i64 (p0[(Int.toNat v92)]!)) ON3 (hp0.bel hB98) hg109 rfl rfl) rfl ?_
        refine wl_step rfl (q_lit1 (y := (p0[(Int.toNat v92)]! : Int)) SL35 rfl rfl (by decide) hS99) ?_
        rintro _ w110 ⟨a111, rfl, hS113, hE112⟩
        have hB115 := hB98.trans (Ext.stp hE112 hS99.base)
        have hS121 := hS113.f1
        obtain ⟨hg122, hm⟩ := hm
        refine wl_step rfl (q_append SL35 rfl rfl hS121 (oS.vw hS121.g1) hg122 (by decide)) ?_
        rintro _ w116 ⟨a117, c118, rfl, hS120, hb119⟩
        have hB123 := hB115.trans hb119
        refine wl_val (g_assign (v := .slice a117 (n90 + 1) c118) rfl) rfl ?_
        refine wl_nil ?_
        refine hK104 _ _ ?_
        refine w_region ?_
        refine wl_val (g_move (v := .int .i64 v92) rfl) rfl ?_
        obtain ⟨hg124, hm⟩ := hm
        refine wl_val (g_add (a := v92) (b := 1) rfl rfl hg124) rfl ?_
        refine wl_val (g_assign (v := .int .i64 (v92 + 1)) rfl) rfl ?_
        refine wl_nil ?_
        have hS125 := hS120.f1
        have hS126 := hS125.tail
        exact ⟨((x88 ++ ([p0[(Int.toNat v92)]!])), a117, (n90 + 1), c118, (v92 + 1)), hm.2, ⟨rfl, rfl, rfl, rfl, trivial⟩, ⟨hm.1, hB123, hS126⟩⟩
      · replace hm := hm.2 h108
        refine w_skip ?_
        refine hK104 _ _ ?_
        refine w_region ?_
        refine wl_val (g_move (v := .int .i64 v92) rfl) rfl ?_
        obtain ⟨hg127, hm⟩ := hm
        refine wl_val (g_add (a := v92) (b := 1) rfl rfl hg127) rfl ?_
        refine wl_val (g_assign (v := .int .i64 (v92 + 1)) rfl) rfl ?_
        refine wl_nil ?_
        exact ⟨(x88, a89, n90, c91, (v92 + 1)), hm.2, ⟨rfl, rfl, rfl, rfl, trivial⟩, ⟨hm.1, hB98, hS99⟩⟩
    · replace hm := hm.2 h103
      refine w_exit ?_
      exact ⟨(x88, a89, n90, c91), ⟨rfl, trivial⟩, ⟨hm, hB98, hS99⟩⟩
  · rintro ⟨x82, a83, n84, c85⟩ b_ w128 ⟨hm, hB129, hS130⟩
    show Wp _ _ _ _ (upds b_ [(5, .slice a83 n84 c85)]) w128
    refine w_seq fun K131 hK131 => ?_
    refine w_region ?_
    refine wl_val (g_move (v := .slice a83 n84 c85) rfl) rfl ?_
    refine wl_val (g_assign (v := .slice a83 n84 c85) rfl) rfl ?_
    refine wl_nil ?_
    refine hK131 _ _ ?_
    refine w_ret ?_
    repeat first | with_reducible refine q_then ?_ | with_reducible refine q_block ?_
    exact ret1 rfl (by decide) ⟨_, _, _, _, hm, rfl, toExt hB129, hS130⟩

theorem m_spec_LackOf_fn {w : World} {a0 : Option Addr} {n0 c0 : Nat} {y0 : List PlayerD} {p0 : List PlayerC} {a1 : Option Addr} {n1 c1 : Nat} {p1 : List Int} {Q : Int → Prop} (hp0 : Tv w.heap.size w a0 n0 c0 y0 p0) (hp1 : Vw w.heap.size w a1 n1 c1 p1) (hm : m_spec_LackOf p0 p1 Q) :
    Fn Try.prog 48 #[.slice a0 n0 c0, .slice a1 n1 c1] w (fun v w' => ∃ (r0 : Int), Q r0 ∧ v = .int .i64 r0 ∧ Ext w w') := by
  unfold m_spec_LackOf at hm
  have hB0 := Below.refl w.heap.size w
  have hS0 : Sep w w.heap.size [] := Sep.nil (Nat.le_refl _)
  refine fn_of_wp Try.func48 rfl (by kernel_rfl) (Nat.le_of_ble_eq_true rfl) ?_
  refine w_seq fun K1 hK1 => ?_
  refine w_region ?_
  refine wl_val (g_assign (v := .int .i64 0) rfl) rfl ?_
  refine wl_nil ?_
  refine hK1 _ _ ?_
  refine w_seq fun K2 hK2 => ?_
  refine w_seq fun K3 hK3 => ?_
  refine w_region ?_
  refine wl_val (g_move (v := .slice a0 n0 c0) rfl) rfl ?_
  refine wl_val (g_move (v := .slice a1 n1 c1) rfl) rfl ?_
  refine wl_step rfl (g_call (vs := #[.slice a0 n0 c0, .slice a1 n1 c1]) CF64 (args2 rfl rfl) (m_spec_l14Ok_fn ((hp0.bel hB0).up hS0) ((hp1.bel hB0).up hS0) hm)) ?_
  rintro _ w4 ⟨r7, hm, rfl, hE5⟩
  have hB8 := hB0.trans (Ext.stp hE5 hS0.base)
  have hS9 := hS0.ext hE5
  refine wl_val (g_not (a := r7) rfl) rfl ?_
  refine wl_nil ?_
  refine hK3 _ _ ?_
  refine w_condI (p := ¬ (r7 = true)) (b := (!r7)) rfl (i_not Iff.rfl) (fun h10 => ?_) (fun h10 => ?_)
  · replace hm := hm.1 h10
    refine w_seq fun K11 hK11 => ?_
    refine w_region ?_
    refine wl_val (g_assign (v := .int .i64 (-1)) rfl) rfl ?_
    refine wl_nil ?_
    refine hK11 _ _ ?_
    refine w_ret ?_
    repeat first | with_reducible refine q_then ?_ | with_reducible refine q_block ?_
    exact ret1 rfl (by decide) ⟨_, hm, rfl, toExt hB8⟩
  · replace hm := hm.2 h10
    refine w_skip ?_
    refine hK2 _ _ ?_
    refine w_seq fun K12 hK12 => ?_
    refine w_region ?_
    refine wl_val (g_assign (v := .int .i64 0) rfl) rfl ?_
    refine wl_nil ?_
    refine hK12 _ _ ?_
    refine w_cut (σ := Int) (fun v84 => [(5, .int .i64 v84)]) (fun v84 w' => m_spec_LackOf_K0 Q v84 ∧ Below w.heap.size w w' ∧ Sep w' w.heap.size []) ?_ ?_
    · refine w_seq fun K86 hK86 => ?_
      refine w_region ?_
      refine wl_val (g_assign (v := .int .i64 0) rfl) rfl ?_
      refine wl_nil ?_
      refine hK86 _ _ ?_
      refine w_block ?_
      obtain ⟨I89, μ90, h091, hr92⟩ := hm
      refine w_for (σ := Int × Int) (fun ⟨v87, v88⟩ => [(0, .slice a0 n0 c0), (1, .slice a1 n1 c1), (5, .int .i64 v87), (6, .int .i64 v88)]) (fun ⟨v87, v88⟩ w' => I89 v87 v88 ∧ Below w.heap.size w w' ∧ Sep w' w.heap.size []) (fun ⟨v87, v88⟩ => μ90 v87 v88) (0, 0) ⟨rfl, rfl, rfl, rfl, trivial⟩ ⟨h091, hB8, hS9⟩ ?_
      rintro ⟨v87, v88⟩ b_ w93 ⟨hi_, hB94, hS95⟩
      show Wp _ _ _ _ (upds b_ [(0, .slice a0 n0 c0), (1, .slice a1 n1 c1), (5, .int .i64 v87), (6, .int .i64 v88)]) w93
      have hm := hr92 v87 v88 hi_
      refine w_seq fun K97 hK97 => ?_
      refine w_seq fun K98 hK98 => ?_
      refine w_region ?_
      refine wl_val (g_move (v := .int .i64 v88) rfl) rfl ?_
      refine wl_val (g_move (v := .slice a1 n1 c1) rfl) rfl ?_
      refine wl_val (q_len SL35 rfl (Vw.len (hp1.bel hB94))) rfl ?_
      obtain ⟨hg99, hm⟩ := hm
      obtain ⟨hg100, hm⟩ := hm
      refine wl_val (g_shl (a := 1) (b := (p1.length : Int)) rfl rfl hg99 hg100) rfl ?_
      refine wl_val (g_lss (a := v88) (b := (sal 1 (p1.length : Int))) rfl rfl) rfl ?_
      refine wl_nil ?_
      refine hK98 _ _ ?_
      refine w_condI (p := v88 < (sal 1 (p1.length : Int))) (b := (decide (v88 < (sal 1 (p1.length : Int))))) rfl decide_eq_true_iff (fun h101 => ?_) (fun h101 => ?_)
      · replace hm := hm.1 h101
        refine w_skip ?_
        refine hK97 _ _ ?_
        refine w_seq fun K102 hK102 => ?_
        refine w_block ?_
        refine w_seq fun K103 hK103 => ?_
        refine w_region ?_
        refine wl_val (g_move (v := .slice a1 n1 c1) rfl) rfl ?_
        refine wl_val (g_move (v := .int .i64 v88) rfl) rfl ?_
        refine wl_step rfl (g_call (vs := #[.slice a1 n1 c1, .int .i64 v88]) CF70 (args2 rfl rfl) (m_spec_l14Part_fn ((hp1.bel hB94).up hS95) v88 hm)) ?_
        rintro _ w104 ⟨r107, a108, n109, c110, hm, rfl, hE105, hN106⟩
        have hS112 := hS95.call1 hE105 hN106
        have hB113 := hB94.trans (Ext.stp hE105 hS95.base)
        refine wl_val (g_assign (v := .slice a108 n109 c110) rfl) rfl ?_
        refine wl_nil ?_
        refine hK103 _ _ ?_
        refine w_region ?_
        refine wl_val (g_move (v := .int .i64 v87) rfl) rfl ?_
        refine wl_val (g_move (v := .slice a108 n109 c110) rfl) rfl ?_
        refine wl_val (q_len SL35 rfl (Vw.len (oS.vw hS112.g0))) rfl ?_
        refine wl_val (g_move (v := .slice a0 n0 c0) rfl) rfl ?_
        refine wl_val (g_move (v := .slice a108 n109 c110) rfl) rfl ?_
        refine wl_step rfl (g_call (vs := #[.slice a0 n0 c0, .slice a108 n109 c110]) CF28 (args2 rfl rfl) (m_spec_HandsFor_fn ((hp0.bel hB113).up hS112) (oS.vw hS112.g0) hm)) ?_
        rintro _ w114 ⟨r117, hm, rfl, hE115⟩
        have hB118 := hB113.trans (Ext.stp hE115 hS112.base)
        have hS119 := hS112.ext hE115
        obtain ⟨hg120, hm⟩ := hm
        refine wl_val (g_sub (a := (r107.length : Int)) (b := r117) rfl rfl hg120) rfl ?_
        refine wl_val (g_max (a := v87) (b := ((r107.length : Int) - r117)) rfl rfl) rfl ?_
        refine wl_val (g_assign (v := .int .i64 (max v87 ((r107.length : Int) - r117))) rfl) rfl ?_
        refine wl_nil ?_
        refine hK102 _ _ ?_
        refine w_region ?_
        refine wl_val (g_move (v := .int .i64 v88) rfl) rfl ?_
        obtain ⟨hg121, hm⟩ := hm
        refine wl_val (g_add (a := v88) (b := 1) rfl rfl hg121) rfl ?_
        refine wl_val (g_assign (v := .int .i64 (v88 + 1)) rfl) rfl ?_
        refine wl_nil ?_
        have hS122 := hS119.tail
        exact ⟨((max v87 ((r107.length : Int) - r117)), (v88 + 1)), hm.2, ⟨rfl, rfl, rfl, rfl, trivial⟩, ⟨hm.1, hB118, hS122⟩⟩
      · replace hm := hm.2 h101
        refine w_exit ?_
        exact ⟨(v87), ⟨rfl, trivial⟩, ⟨hm, hB94, hS95⟩⟩
    · rintro v84 b_ w123 ⟨hm, hB124, hS125⟩
      show Wp _ _ _ _ (upds b_ [(5, .int .i64 v84)]) w123
      refine w_seq fun K126 hK126 => ?_
      refine w_region ?_
      refine wl_val (g_move (v := .int .i64 v84) rfl) rfl ?_
      refine wl_val (g_assign (v := .int .i64 v84) rfl) rfl ?_
      refine wl_nil ?_
      refine hK126 _ _ ?_
      refine w_ret ?_
      repeat first | with_reducible refine q_then ?_ | with_reducible refine q_block ?_
      exact ret1 rfl (by decide) ⟨_, hm, rfl, toExt hB124⟩

theorem m_impl_subset_fn {w : World} {a0 : Option Addr} {n0 c0 : Nat} {p0 : List Int} {Q : (List Int) → Prop} (hp0 : Vw w.heap.size w a0 n0 c0 p0) (p1 : Int) (hm : m_impl_subset p0 p1 Q) :
    Fn Try.prog 71 #[.slice a0 n0 c0, .int .i64 p1] w (fun v w' => ∃ (r0 : List Int) (a0 : Option Addr) (n0 c0 : Nat), Q r0 ∧ v = .slice a0 n0 c0 ∧ Ext w w' ∧ Sep w' w.heap.size [oS 3 a0 n0 c0 r0]) := by
  unfold m_impl_subset at hm
  have hB0 := Below.refl w.heap.size w
  have hS0 : Sep w w.heap.size [] := Sep.nil (Nat.le_refl _)
  refine fn_of_wp Try.func71 rfl (by kernel_rfl) (Nat.le_of_ble_eq_true rfl) ?_
  refine w_seq fun K1 hK1 => ?_
  refine w_region ?_
  refine wl_val (g_assign (v := .slice none 0 0) rfl) rfl ?_
  refine wl_nil ?_
  refine hK1 _ _ ?_
  refine w_seq fun K2 hK2 => ?_
  refine w_region ?_
  refine wl_step rfl (q_lit0 (α := Int) rfl SL35 hS0) ?_
  rintro _ w3 ⟨a4, rfl, hS6, hE5⟩
  have hB8 := hB0.trans (Ext.stp hE5 hS0.base)
  refine wl_val (g_assign (v := .slice a4 0 0) rfl) rfl ?_
  refine wl_nil ?_
  refine hK2 _ _ ?_
  refine w_cut (σ := List Int × Option Addr × Nat × Nat) (fun ⟨x84, a85, n86, c87⟩ => [(5, .slice a85 n86 c87)]) (fun ⟨x84, a85, n86, c87⟩ w' => m_impl_subset_K0 Q x84 ∧ Below w.heap.size w w' ∧ Sep w' w.heap.size [oS 3 a85 n86 c87 (x84 : List Int)]) ?_ ?_
  · refine w_seq fun K89 hK89 => ?_
    refine w_region ?_
    refine wl_val (g_move (v := .slice a0 n0 c0) rfl) rfl ?_
    refine wl_val (q_len SL35 rfl (Vw.len (hp0.bel hB8))) rfl ?_
    refine wl_val (g_move (v := .int .i64 0) rfl) rfl ?_
    refine wl_nil ?_
    refine hK89 _ _ ?_
    refine w_block ?_
    obtain ⟨I95, μ96, h097, hr98⟩ := hm
    refine w_for (σ := List Int × Option Addr × Nat × Nat × Int) (fun ⟨x90, a91, n92, c93, v94⟩ => [(1, .int .i64 p1), (5, .slice a91 n92 c93), (9, .slice a0 n0 c0), (10, .int .i64 (p0.length : Int)), (11, .int .i64 v94)]) (fun ⟨x90, a91, n92, c93, v94⟩ w' => I95 x90 v94 ∧ Below w.heap.size w w' ∧ Sep w' w.heap.size [oS 3 a91 n92 c93 (x90 : List Int)]) (fun ⟨x90, a91, n92, c93, v94⟩ => μ96 x90 v94) ([], a4, 0, 0, 0) ⟨rfl, rfl, rfl, rfl, rfl, trivial⟩ ⟨h097, hB8, hS6⟩ ?_
    rintro ⟨x90, a91, n92, c93, v94⟩ b_ w99 ⟨hi_, hB100, hS101⟩
    show Wp _ _ _ _ (upds b_ [(1, .int .i64 p1), (5, .slice a91 n92 c93), (9, .slice a0 n0 c0), (10, .int .i64 (p0.length : Int)), (11, .int .i64 v94)]) w99
    have hm := hr98 x90 v94 hi_
    refine w_seq fun K103 hK103 => ?_
    refine w_region ?_
    refine wl_val (g_lss (a := v94) (b := (p0.length : Int)) rfl rfl) rfl ?_
    refine wl_nil ?_
    refine hK103 _ _ ?_
    refine w_seq fun K104 hK104 => ?_
    refine w_condI (p := v94 < (p0.length : Int)) (b := (decide (v94 < (p0.length : Int)))) rfl decide_eq_true_iff (fun h105 => ?_) (fun h105 => ?_)
    · replace hm := hm.1 h105
      refine w_skip ?_
      refine hK104 _ _ ?_
      refine w_seq fun K106 hK106 => ?_
      refine w_block ?_
      refine w_seq fun K107 hK107 => ?_
      refine w_region ?_
      refine wl_val (g_move (v := .int .i64 v94) rfl) rfl ?_
      obtain ⟨hg108, hm⟩ := hm
      refine wl_val (q_index (i := v94) SL35 rfl rfl (hp0.bel hB100) hg108) rfl ?_
      refine wl_val (q_load (i := v94) (v := .int .i64 (p0[(Int.toNat v94)]!)) ON3 (hp0.bel hB100) hg108 rfl rfl) rfl ?_
      refine wl_val (g_assign (v := .int .i64 v94) rfl) rfl ?_
      refine wl_val (g_assign (v := .int .i64 (p0[(Int.toNat v94)]!)) rfl) rfl ?_
      refine wl_nil ?_
      refine hK107 _ _ ?_
      refine w_seq fun K109 hK109 => ?_
      refine w_region ?_
      refine wl_val (g_move (v := .int .i64 p1) rfl) rfl ?_
      refine wl_val (g_move (v := .int .i64 v94) rfl) rfl ?_
      obtain ⟨hg110, hm⟩ := hm
      refine wl_val (g_shr (a := p1) (b := v94) rfl rfl hg110) rfl ?_
      obtain ⟨hg111, hm⟩ := hm
      refine wl_val (g_band (a := (sar p1 v94)) (b := 1) rfl rfl hg111) rfl ?_
      refine wl_val (g_eql (a := (band (sar p1 v94) 1)) (b := 1) rfl rfl) rfl ?_
      refine wl_nil ?_
      refine hK109 _ _ ?_
      refine w_condI (p := (band (sar p1 v94) 1) = 1) (b := (decide ((band (sar p1 v94) 1) = 1))) rfl decide_eq_true_iff (fun h112 => ?_) (fun h112 => ?_)
      · replace hm := hm.1 h112
        refine w_region ?_
        refine wl_val (g_move (v := .slice a91 n92 c93) rfl) rfl ?_
        refine wl_val (g_move (v := .int .i64 (p0[(Int.toNat v94)]!)) rfl) rfl ?_
        refine wl_step rfl (q_lit1 (y := (p0[(Int.toNat v94)]! : Int)) SL35 rfl rfl (by decide) hS101) ?_
        rintro _ w113 ⟨a114, rfl, hS116, hE115⟩
        have hB118 := hB100.trans (Ext.stp hE115 hS101.base)
        have hS124 := hS116.f1
        obtain ⟨hg125, hm⟩ := hm
        refine wl_step rfl (q_append SL35 rfl rfl hS124 (oS.vw hS124.g1) hg125 (by decide)) ?_
        rintro _ w119 ⟨a120, c121, rfl, hS123, hb122⟩
        have hB126 := hB118.trans hb122
        refine wl_val (g_assign (v := .slice a120 (n92 + 1) c121) rfl) rfl ?_
        refine wl_nil ?_
        refine hK106 _ _ ?_
        refine w_region ?_
        obtain ⟨hg127, hm⟩ := hm
        refine wl_val (g_add (a := v94) (b := 1) rfl rfl hg127) rfl ?_
        refine wl_val (g_move (v := .int .i64 (v94 + 1)) rfl) rfl ?_
        refine wl_nil ?_
        have hS128 := hS123.f1
        have hS129 := hS128.tail
        exact ⟨((x90 ++ ([p0[(Int.toNat v94)]!])), a120, (n92 + 1), c121, (v94 + 1)), hm.2, ⟨rfl, rfl, rfl, rfl, rfl, trivial⟩, ⟨hm.1, hB126, hS129⟩⟩
      · replace hm := hm.2 h112
        refine w_skip ?_
        refine hK106 _ _ ?_
        refine w_region ?_
        obtain ⟨hg130, hm⟩ := hm
        refine wl_val (g_add (a := v94) (b := 1) rfl rfl hg130) rfl ?_
        refine wl_val (g_move (v := .int .i64 (v94 + 1)) rfl) rfl ?_
        refine wl_nil ?_
        exact ⟨(x90, a91, n92, c93, (v94 + 1)), hm.2, ⟨rfl, rfl, rfl, rfl, rfl, trivial⟩, ⟨hm.1, hB100, hS101⟩⟩
    · replace hm := hm.2 h105
      refine w_exit ?_
      exact ⟨(x90, a91, n92, c93), ⟨rfl, trivial⟩, ⟨hm, hB100, hS101⟩⟩
  · rintro ⟨x84, a85, n86, c87⟩ b_ w131 ⟨hm, hB132, hS133⟩
    show Wp _ _ _ _ (upds b_ [(5, .slice a85 n86 c87)]) w131
    refine w_seq fun K134 hK134 => ?_
    refine w_region ?_
    refine wl_val (g_move (v := .slice a85 n86 c87) rfl) rfl ?_
    refine wl_val (g_assign (v := .slice a85 n86 c87) rfl) rfl ?_
    refine wl_nil ?_
    refine hK134 _ _ ?_
    refine w_ret ?_
    repeat first | with_reducible refine q_then ?_ | with_reducible refine q_block ?_
    exact ret1 rfl (by decide) ⟨_, _, _, _, hm, rfl, toExt hB132, hS133⟩

theorem m_impl_LackOf_fn {w : World} {a0 : Option Addr} {n0 c0 : Nat} {y0 : List PlayerD} {p0 : List PlayerC} {a1 : Option Addr} {n1 c1 : Nat} {p1 : List Int} {Q : Int → Prop} (hp0 : Tv w.heap.size w a0 n0 c0 y0 p0) (hp1 : Vw w.heap.size w a1 n1 c1 p1) (hm : m_impl_LackOf p0 p1 Q) :
    Fn Try.prog 49 #[.slice a0 n0 c0, .slice a1 n1 c1] w (fun v w' => ∃ (r0 : Int), Q r0 ∧ v = .int .i64 r0 ∧ Ext w w') := by
  unfold m_impl_LackOf at hm
  have hB0 := Below.refl w.heap.size w
  have hS0 : Sep w w.heap.size [] := Sep.nil (Nat.le_refl _)
  refine fn_of_wp Try.func49 rfl (by kernel_rfl) (Nat.le_of_ble_eq_true rfl) ?_
  refine w_seq fun K1 hK1 => ?_
  refine w_region ?_
  refine wl_val (g_assign (v := .int .i64 0) rfl) rfl ?_
  refine wl_nil ?_
  refine hK1 _ _ ?_
  refine w_seq fun K2 hK2 => ?_
  refine w_seq fun K3 hK3 => ?_
  refine w_region ?_
  refine wl_val (g_move (v := .slice a0 n0 c0) rfl) rfl ?_
  refine wl_step rfl (g_call (vs := #[.slice a0 n0 c0]) CF24 (args1 rfl) (m_impl_PlayersOk_fn ((hp0.bel hB0).up hS0) hm)) ?_
  rintro _ w4 ⟨r7, hm, rfl, hE5⟩
  have hB8 := hB0.trans (Ext.stp hE5 hS0.base)
  have hS9 := hS0.ext hE5
  refine wl_val (g_not (a := r7) rfl) rfl ?_
  refine wl_val (g_move (v := .bool (!r7)) rfl) rfl ?_
  refine wl_guard (c := (!r7) = false) (val := .slice a1 n1 c1) (b := ((!r7) == false)) (gv_some rfl rfl rfl) beq_iff_eq (fun hc10 => ?_) ?_
  · have hq0 : ¬ (¬ (r7 = true)) := (i_neg (i_not Iff.rfl) hc10)
    exact g_move (v := .slice a1 n1 c1) rfl
  obtain ⟨r12, hk13, hm⟩ := hm
  refine wl_guardE (X := Ext) (c := (!r7) = false) (val := .bool r12) (Ext.refl _) (b := ((!r7) == false)) (gv_some rfl rfl rfl) beq_iff_eq (fun hc11 => ?_) (fun w14 hE15 => ?_)
  · have hq0 : ¬ (¬ (r7 = true)) := (i_neg (i_not Iff.rfl) hc11)
    exact (g_call (vs := #[.slice a1 n1 c1]) CF66 (args1 (if_pos hc11)) ((m_impl_arePuppets_fn ((hp1.bel hB8).up hS9) (hk13 hq0)).mono fun _ _ ⟨_, h1, h2, h3⟩ => ⟨by rw [h2, h1], h3⟩))
  have hB16 := hB8.trans (Ext.stp hE15 hS9.base)
  have hS17 := hS9.ext hE15
  refine wl_guard (c := (!r7) = false) (val := .bool (!r12)) (b := ((!r7) == false)) (gv_some rfl rfl rfl) beq_iff_eq (fun hc18 => ?_) ?_
  · have hq0 : ¬ (¬ (r7 = true)) := (i_neg (i_not Iff.rfl) hc18)
    exact g_not (a := r12) (if_pos hc18)
  refine wl_val (g_pick_or (b := (!r7)) (q := (!r12)) rfl rfl) rfl ?_
  refine wl_nil ?_
  refine hK3 _ _ ?_
  refine w_condI (p := ((¬ (r7 = true)) ∨ (¬ (r12 = true)))) (b := ((!r7) || (!r12))) rfl (i_or (i_not Iff.rfl) (i_not Iff.rfl)) (fun h19 => ?_) (fun h19 => ?_)
  · replace hm := hm.1 h19
    refine w_seq fun K20 hK20 => ?_
    refine w_region ?_
    refine wl_val (g_assign (v := .int .i64 (-1)) rfl) rfl ?_
    refine wl_nil ?_
    refine hK20 _ _ ?_
    refine w_ret ?_
    repeat first | with_reducible refine q_then ?_ | with_reducible refine q_block ?_
    exact ret1 rfl (by decide) ⟨_, hm, rfl, toExt hB16⟩
  · replace hm := hm.2 h19
    refine w_skip ?_
    refine hK2 _ _ ?_
    refine w_seq fun K21 hK21 => ?_
    refine w_region ?_
    refine wl_val (g_assign (v := .int .i64 0) rfl) rfl ?_
    refine wl_nil ?_
    refine hK21 _ _ ?_
    refine w_cut (σ := Int) (fun v93 => [(5, .int .i64 v93)]) (fun v93 w' => m_impl_LackOf_K0 Q v93 ∧ Below w.heap.size w w' ∧ Sep w' w.heap.size []) ?_ ?_
    · refine w_seq fun K95 hK95 => ?_
      refine w_region ?_
      refine wl_val (g_move (v := .slice a1 n1 c1) rfl) rfl ?_
      refine wl_val (q_len SL35 rfl (Vw.len (hp1.bel hB16))) rfl ?_
      obtain ⟨hg96, hm⟩ := hm
      obtain ⟨hg97, hm⟩ := hm
      refine wl_val (g_shl (a := 1) (b := (p1.length : Int)) rfl rfl hg96 hg97) rfl ?_
      refine wl_val (g_move (v := .int .i64 0) rfl) rfl ?_
      refine wl_nil ?_
      refine hK95 _ _ ?_
      refine w_block ?_
      obtain ⟨I100, μ101, h0102, hr103⟩ := hm
      refine w_for (σ := Int × Int) (fun ⟨v98, v99⟩ => [(0, .slice a0 n0 c0), (1, .slice a1 n1 c1), (5, .int .i64 v98), (18, .int .i64 (sal 1 (p1.length : Int))), (19, .int .i64 v99)]) (fun ⟨v98, v99⟩ w' => I100 v98 v99 ∧ Below w.heap.size w w' ∧ Sep w' w.heap.size []) (fun ⟨v98, v99⟩ => μ101 v98 v99) (0, 0) ⟨rfl, rfl, rfl, rfl, rfl, trivial⟩ ⟨h0102, hB16, hS17⟩ ?_
      rintro ⟨v98, v99⟩ b_ w104 ⟨hi_, hB105, hS106⟩
      show Wp _ _ _ _ (upds b_ [(0, .slice a0 n0 c0), (1, .slice a1 n1 c1), (5, .int .i64 v98), (18, .int .i64 (sal 1 (p1.length : Int))), (19, .int .i64 v99)]) w104
      have hm := hr103 v98 v99 hi_
      refine w_seq fun K108 hK108 => ?_
      refine w_region ?_
      refine wl_val (g_lss (a := v99) (b := (sal 1 (p1.length : Int))) rfl rfl) rfl ?_
      refine wl_nil ?_
      refine hK108 _ _ ?_
      refine w_seq fun K109 hK109 => ?_
      refine w_condI (p := v99 < (sal 1 (p1.length : Int))) (b := (decide (v99 < (sal 1 (p1.length : Int))))) rfl decide_eq_true_iff (fun h110 => ?_) (fun h110 => ?_)
      · replace hm := hm.1 h110
        refine w_skip ?_
        refine hK109 _ _ ?_
        refine w_seq fun K111 hK111 => ?_
        refine w_block ?_
        refine w_seq fun K112 hK112 => ?_
        refine w_region ?_
        refine wl_val (g_move (v := .int .i64 v99) rfl) rfl ?_
        refine wl_val (g_assign (v := .int .i64 v99) rfl) rfl ?_
        refine wl_nil ?_
        refine hK112 _ _ ?_
        refine w_seq fun K113 hK113 => ?_
        refine w_region ?_
        refine wl_val (g_move (v := .slice a1 n1 c1) rfl) rfl ?_
        refine wl_val (g_move (v := .int .i64 v99) rfl) rfl ?_
        refine wl_step rfl (g_call (vs := #[.slice a1 n1 c1, .int .i64 v99]) CF71 (args2 rfl rfl) (m_impl_subset_fn ((hp1.bel hB105).up hS106) v99 hm)) ?_
        rintro _ w114 ⟨r117, a118, n119, c120, hm, rfl, hE115, hN116⟩
        have hS122 := hS106.call1 hE115 hN116
        have hB123 := hB105.trans (Ext.stp hE115 hS106.base)
        refine wl_val (g_assign (v := .slice a118 n119 c120) rfl) rfl ?_
        refine wl_nil ?_
        refine hK113 _ _ ?_
        refine w_region ?_
        refine wl_val (g_move (v := .int .i64 v98) rfl) rfl ?_
        refine wl_val (g_move (v := .slice a118 n119 c120) rfl) rfl ?_
        refine wl_val (q_len SL35 rfl (Vw.len (oS.vw hS122.g0))) rfl ?_
        refine wl_val (g_move (v := .slice a0 n0 c0) rfl) rfl ?_
        refine wl_val (g_move (v := .slice a118 n119 c120) rfl) rfl ?_
        refine wl_step rfl (g_call (vs := #[.slice a0 n0 c0, .slice a118 n119 c120]) CF30 (args2 rfl rfl) (m_impl_HandsFor_fn ((hp0.bel hB123).up hS122) (oS.vw hS122.g0) hm)) ?_
        rintro _ w124 ⟨r127, hm, rfl, hE125⟩
        have hB128 := hB123.trans (Ext.stp hE125 hS122.base)
        have hS129 := hS122.ext hE125
        obtain ⟨hg130, hm⟩ := hm
        refine wl_val (g_sub (a := (r117.length : Int)) (b := r127) rfl rfl hg130) rfl ?_
        refine wl_val (g_max (a := v98) (b := ((r117.length : Int) - r127)) rfl rfl) rfl ?_
        refine wl_val (g_assign (v := .int .i64 (max v98 ((r117.length : Int) - r127))) rfl) rfl ?_
        refine wl_nil ?_
        refine hK111 _ _ ?_
        refine w_region ?_
        obtain ⟨hg131, hm⟩ := hm
        refine wl_val (g_add (a := v99) (b := 1) rfl rfl hg131) rfl ?_
        refine wl_val (g_move (v := .int .i64 (v99 + 1)) rfl) rfl ?_
        refine wl_nil ?_
        have hS132 := hS129.tail
        exact ⟨((max v98 ((r117.length : Int) - r127)), (v99 + 1)), hm.2, ⟨rfl, rfl, rfl, rfl, rfl, trivial⟩, ⟨hm.1, hB128, hS132⟩⟩
      · replace hm := hm.2 h110
        refine w_exit ?_
        exact ⟨(v98), ⟨rfl, trivial⟩, ⟨hm, hB105, hS106⟩⟩
    · rintro v93 b_ w133 ⟨hm, hB134, hS135⟩
      show Wp _ _ _ _ (upds b_ [(5, .int .i64 v93)]) w133
      refine w_seq fun K136 hK136 => ?_
      refine w_region ?_
      refine wl_val (g_move (v := .int .i64 v93) rfl) rfl ?_
      refine wl_val (g_assign (v := .int .i64 v93) rfl) rfl ?_
      refine wl_nil ?_
      refine hK136 _ _ ?_
      refine w_ret ?_
      repeat first | with_reducible refine q_then ?_ | with_reducible refine q_block ?_
      exact ret1 rfl (by decide) ⟨_, hm, rfl, toExt hB134⟩

theorem m_spec_TeachPuppet_fn {w : World} {a0 : Option Addr} {n0 c0 : Nat} {y0 : List PlayerD} {p0 : List PlayerC} {Q : (List PlayerC) → Bool → Prop} (hp0 : Tv w.heap.size w a0 n0 c0 y0 p0) (p1 : Int) (p2 : Int) (hm : m_spec_TeachPuppet p0 p1 p2 Q) :
    Fn Try.prog 50 #[.slice a0 n0 c0, .int .i64 p1, .int .i64 p2] w (fun v w' => ∃ (r0 : List PlayerC) (a0 : Option Addr) (n0 c0 : Nat) (y0 : List PlayerD) (r1 : Bool), Q r0 r1 ∧ ers y0 = r0 ∧ v = .tuple #[.slice a0 n0 c0, .bool r1] ∧ Ext w w' ∧ Sep w' w.heap.size [oS 61 a0 n0 c0 y0, oT 3 y0]) := by
  unfold m_spec_TeachPuppet at hm
  have hB0 := Below.refl w.heap.size w
  have hS0 : Sep w w.heap.size [] := Sep.nil (Nat.le_refl _)
  refine fn_of_wp Try.func50 rfl (by kernel_rfl) (Nat.le_of_ble_eq_true rfl) ?_
  refine w_seq fun K1 hK1 => ?_
  refine w_region ?_
  refine wl_val (g_assign (v := .slice none 0 0) rfl) rfl ?_
  refine wl_val (g_assign (v := .bool false) rfl) rfl ?_
  refine wl_nil ?_
  refine hK1 _ _ ?_
  refine w_seq fun K2 hK2 => ?_
  refine w_region ?_
  refine wl_val (g_move (v := .slice a0 n0 c0) rfl) rfl ?_
  refine wl_step rfl (g_call (vs := #[.slice a0 n0 c0]) CF68 (args1 rfl) (m_spec_l17Copy_fn ((hp0.bel hB0).up hS0) hm)) ?_
  rintro _ w3 ⟨r6, a7, n8, c9, y10, hm, he11, rfl, hE4, hN5⟩
  have hS15 := hS0.call2 hE4 hN5
  have hB16 := hB0.trans (Ext.stp hE4 hS0.base)
  refine wl_val (g_assign (v := .slice a7 n8 c9) rfl) rfl ?_
  refine wl_nil ?_
  refine hK2 _ _ ?_
  refine w_seq fun K17 hK17 => ?_
  refine w_seq fun K18 hK18 => ?_
  refine w_region ?_
  refine wl_val (g_move (v := .slice a0 n0 c0) rfl) rfl ?_
  refine wl_step rfl (g_call (vs := #[.slice a0 n0 c0]) CF22 (args1 rfl) (m_spec_PlayersOk_fn ((hp0.bel hB16).up hS15) hm)) ?_
  rintro _ w19 ⟨r22, hm, rfl, hE20⟩
  have hB23 := hB16.trans (Ext.stp hE20 hS15.base)
  have hS24 := hS15.ext hE20
  refine wl_val (g_not (a := r22) rfl) rfl ?_
  refine wl_val (g_move (v := .bool (!r22)) rfl) rfl ?_
  refine wl_guard (c := (!r22) = false) (val := .int .i64 p1) (b := ((!r22) == false)) (gv_some rfl rfl rfl) beq_iff_eq (fun hc25 => ?_) ?_
  · have hq0 : ¬ (¬ (r22 = true)) := (i_neg (i_not Iff.rfl) hc25)
    exact g_move (v := .int .i64 p1) rfl
  refine wl_guard (c := (!r22) = false) (val := .slice a0 n0 c0) (b := ((!r22) == false)) (gv_some rfl rfl rfl) beq_iff_eq (fun hc26 => ?_) ?_
  · have hq0 : ¬ (¬ (r22 = true)) := (i_neg (i_not Iff.rfl) hc26)
    exact g_move (v := .slice a0 n0 c0) rfl
  refine wl_guard (c := (!r22) = false) (val := .int .i64 (p0.length : Int)) (b := ((!r22) == false)) (gv_some rfl rfl rfl) beq_iff_eq (fun hc27 => ?_) ?_
  · have hq0 : ¬ (¬ (r22 = true)) := (i_neg (i_not Iff.rfl) hc27)
    exact q_len SL30 (if_pos hc27) (Tv.len (hp0.bel hB23))
  obtain ⟨hg29, hm⟩ := hm
  refine wl_guard (c := (!r22) = false) (val := .int .i64 ((p0.length : Int) - 1)) (b := ((!r22) == false)) (gv_some rfl rfl rfl) beq_iff_eq (fun hc28 => ?_) ?_
  · have hq0 : ¬ (¬ (r22 = true)) := (i_neg (i_not Iff.rfl) hc28)
    exact g_sub (a := (p0.length : Int)) (b := 1) (if_pos hc28) rfl (hg29 hq0)
  obtain ⟨r31, hk32, hm⟩ := hm
  refine wl_guardE (X := Ext) (c := (!r22) = false) (val := .bool r31) (Ext.refl _) (b := ((!r22) == false)) (gv_some rfl rfl rfl) beq_iff_eq (fun hc30 => ?_) (fun w33 hE34 => ?_)
  · have hq0 : ¬ (¬ (r22 = true)) := (i_neg (i_not Iff.rfl) hc30)
    exact (g_call (vs := #[.int .i64 p1, .int .i64 0, .int .i64 ((p0.length : Int) - 1)]) CF59 (args3 (if_pos hc30) rfl (if_pos hc30)) ((m_spec_l01In_fn p1 0 ((p0.length : Int) - 1) (hk32 hq0)).mono fun _ _ ⟨_, h1, h2, h3⟩ => ⟨by rw [h2, h1], h3⟩))
  have hB35 := hB23.trans (Ext.stp hE34 hS24.base)
  have hS36 := hS24.ext hE34
  refine wl_guard (c := (!r22) = false) (val := .bool (!r31)) (b := ((!r22) == false)) (gv_some rfl rfl rfl) beq_iff_eq (fun hc37 => ?_) ?_
  · have hq0 : ¬ (¬ (r22 = true)) := (i_neg (i_not Iff.rfl) hc37)
    exact g_not (a := r31) (if_pos hc37)
  refine wl_val (g_pick_or (b := (!r22)) (q := (!r31)) rfl rfl) rfl ?_
  refine wl_val (g_move (v := .bool ((!r22) || (!r31))) rfl) rfl ?_
  refine wl_guard (c := ((!r22) || (!r31)) = false) (val := .int .i64 p2) (b := (((!r22) || (!r31)) == false)) (gv_some rfl rfl rfl) beq_iff_eq (fun hc38 => ?_) ?_
  · have hq1 : ¬ (((¬ (r22 = true)) ∨ (¬ (r31 = true)))) := (i_neg (i_or (i_not Iff.rfl) (i_not Iff.rfl)) hc38)
    exact g_move (v := .int .i64 p2) rfl
  obtain ⟨r40, hk41, hm⟩ := hm
  refine wl_guardE (X := Ext) (c := ((!r22) || (!r31)) = false) (val := .bool r40) (Ext.refl _) (b := (((!r22) || (!r31)) == false)) (gv_some rfl rfl rfl) beq_iff_eq (fun hc39 => ?_) (fun w42 hE43 => ?_)
  · have hq1 : ¬ (((¬ (r22 = true)) ∨ (¬ (r31 = true)))) := (i_neg (i_or (i_not Iff.rfl) (i_not Iff.rfl)) hc39)
    exact (g_call (vs := #[.int .i64 p2, .int .i64 0, .int .i64 6]) CF59 (args3 (if_pos hc39) rfl rfl) ((m_spec_l01In_fn p2 0 6 (hk41 hq1)).mono fun _ _ ⟨_, h1, h2, h3⟩ => ⟨by rw [h2, h1], h3⟩))
  have hB44 := hB35.trans (Ext.stp hE43 hS36.base)
  have hS45 := hS36.ext hE43
  refine wl_guard (c := ((!r22) || (!r31)) = false) (val := .bool (!r40)) (b := (((!r22) || (!r31)) == false)) (gv_some rfl rfl rfl) beq_iff_eq (fun hc46 => ?_) ?_
  · have hq1 : ¬ (((¬ (r22 = true)) ∨ (¬ (r31 = true)))) := (i_neg (i_or (i_not Iff.rfl) (i_not Iff.rfl)) hc46)
    exact g_not (a := r40) (if_pos hc46)
  refine wl_val (g_pick_or (b := ((!r22) || (!r31))) (q := (!r40)) rfl rfl) rfl ?_
  refine wl_val (g_move (v := .bool (((!r22) || (!r31)) || (!r40))) rfl) rfl ?_
  refine wl_guard (c := (((!r22) || (!r31)) || (!r40)) = false) (val := .slice a0 n0 c0) (b := ((((!r22) || (!r31)) || (!r40)) == false)) (gv_some rfl rfl rfl) beq_iff_eq (fun hc47 => ?_) ?_
  · have hq2 : ¬ (((((¬ (r22 = true)) ∨ (¬ (r31 = true)))) ∨ (¬ (r40 = true)))) := (i_neg (i_or (i_or (i_not Iff.rfl) (i_not Iff.rfl)) (i_not Iff.rfl)) hc47)
    exact g_move (v := .slice a0 n0 c0) rfl
  refine wl_guard (c := (((!r22) || (!r31)) || (!r40)) = false) (val := .int .i64 p1) (b := ((((!r22) || (!r31)) || (!r40)) == false)) (gv_some rfl rfl rfl) beq_iff_eq (fun hc48 => ?_) ?_
  · have hq2 : ¬ (((((¬ (r22 = true)) ∨ (¬ (r31 = true)))) ∨ (¬ (r40 = true)))) := (i_neg (i_or (i_or (i_not Iff.rfl) (i_not Iff.rfl)) (i_not Iff.rfl)) hc48)
    exact g_move (v := .int .i64 p1) rfl
  obtain ⟨hg50, hm⟩ := hm
  refine wl_guard (c := (((!r22) || (!r31)) || (!r40)) = false) (val := .pointer (some ((adr a0).add ((Int.toNat p1) * El.m PlayerD)))) (b := ((((!r22) || (!r31)) || (!r40)) == false)) (gv_some rfl rfl rfl) beq_iff_eq (fun hc49 => ?_) ?_
  · have hq2 : ¬ (((((¬ (r22 = true)) ∨ (¬ (r31 = true)))) ∨ (¬ (r40 = true)))) := (i_neg (i_or (i_or (i_not Iff.rfl) (i_not Iff.rfl)) (i_not Iff.rfl)) hc49)
    exact q_index (i := p1) SL30 (if_pos hc49) (if_pos hc49) (Tv.o (hp0.bel hB44)) (Tv.g (hp0.bel hB44) (hg50 hq2))
  refine wl_guard (c := (((!r22) || (!r31)) || (!r40)) = false) (val := .agg #[.slice ((y0[(Int.toNat p1)]!).1.1) ((y0[(Int.toNat p1)]!).1.2.2.length) ((y0[(Int.toNat p1)]!).1.2.1), .int .i64 (p0[(Int.toNat p1)]!.2)]) (b := ((((!r22) || (!r31)) || (!r40)) == false)) (gv_some rfl rfl rfl) beq_iff_eq (fun hc51 => ?_) ?_
  · have hq2 : ¬ (((((¬ (r22 = true)) ∨ (¬ (r31 = true)))) ∨ (¬ (r40 = true)))) := (i_neg (i_or (i_or (i_not Iff.rfl) (i_not Iff.rfl)) (i_not Iff.rfl)) hc51)
    exact q_loadS (i := p1) (cs := [.slice ((y0[(Int.toNat p1)]!).1.1) ((y0[(Int.toNat p1)]!).1.2.2.length) ((y0[(Int.toNat p1)]!).1.2.1), .int .i64 (p0[(Int.toNat p1)]!.2)]) AG61 (Tv.o (hp0.bel hB44)) (Tv.g (hp0.bel hB44) (hg50 hq2)) (by rw [← Tv.free (hp0.bel hB44) (hg50 hq2)]; rfl) (if_pos hc51)
  refine wl_guard (c := (((!r22) || (!r31)) || (!r40)) = false) (val := .int .i64 p2) (b := ((((!r22) || (!r31)) || (!r40)) == false)) (gv_some rfl rfl rfl) beq_iff_eq (fun hc52 => ?_) ?_
  · have hq2 : ¬ (((((¬ (r22 = true)) ∨ (¬ (r31 = true)))) ∨ (¬ (r40 = true)))) := (i_neg (i_or (i_or (i_not Iff.rfl) (i_not Iff.rfl)) (i_not Iff.rfl)) hc52)
    exact g_move (v := .int .i64 p2) rfl
  obtain ⟨r54, hk55, hm⟩ := hm
  refine wl_guardE (X := Ext) (c := (((!r22) || (!r31)) || (!r40)) = false) (val := .bool r54) (Ext.refl _) (b := ((((!r22) || (!r31)) || (!r40)) == false)) (gv_some rfl rfl rfl) beq_iff_eq (fun hc53 => ?_) (fun w56 hE57 => ?_)
  · have hq2 : ¬ (((((¬ (r22 = true)) ∨ (¬ (r31 = true)))) ∨ (¬ (r40 = true)))) := (i_neg (i_or (i_or (i_not Iff.rfl) (i_not Iff.rfl)) (i_not Iff.rfl)) hc53)
    exact (g_call (vs := #[.agg #[.slice ((y0[(Int.toNat p1)]!).1.1) ((y0[(Int.toNat p1)]!).1.2.2.length) ((y0[(Int.toNat p1)]!).1.2.1), .int .i64 (p0[(Int.toNat p1)]!.2)], .int .i64 p2]) CF65 (args2 (if_pos hc53) (if_pos hc53)) ((m_spec_l13Knows_fn (p0[(Int.toNat p1)]!) ((Tv.rowP (hp0.bel hB44) (hg50 hq2)).up hS45) p2 (hk55 hq2)).mono fun _ _ ⟨_, h1, h2, h3⟩ => ⟨by rw [h2, h1], h3⟩))
  have hB58 := hB44.trans (Ext.stp hE57 hS45.base)
  have hS59 := hS45.ext hE57
  refine wl_val (g_pick_or (b := (((!r22) || (!r31)) || (!r40))) (q := r54) rfl rfl) rfl ?_
  refine wl_nil ?_
  refine hK18 _ _ ?_
  refine w_condI (p := ((((((¬ (r22 = true)) ∨ (¬ (r31 = true)))) ∨ (¬ (r40 = true)))) ∨ (r54 = true))) (b := ((((!r22) || (!r31)) || (!r40)) || r54)) rfl (i_or (i_or (i_or (i_not Iff.rfl) (i_not Iff.rfl)) (i_not Iff.rfl)) Iff.rfl) (fun h60 => ?_) (fun h60 => ?_)
  · replace hm := hm.1 h60
    refine w_seq fun K61 hK61 => ?_
    refine w_region ?_
    refine wl_val (g_move (v := .slice a7 n8 c9) rfl) rfl ?_
    refine wl_val (g_assign (v := .slice a7 n8 c9) rfl) rfl ?_
    refine wl_val (g_assign (v := .bool false) rfl) rfl ?_
    refine wl_nil ?_
    refine hK61 _ _ ?_
    refine w_ret ?_
    repeat first | with_reducible refine q_then ?_ | with_reducible refine q_block ?_
    exact ret2 rfl (by decide) (by decide) ⟨_, _, _, _, _, _, hm, he11, rfl, toExt hB58, hS59⟩
  · replace hm := hm.2 h60
    refine w_skip ?_
    refine hK17 _ _ ?_
    refine w_seq fun K62 hK62 => ?_
    refine w_region ?_
    refine wl_val (g_assign (v := .int .i64 0) rfl) rfl ?_
    refine wl_nil ?_
    refine hK62 _ _ ?_
    refine w_seq fun K63 hK63 => ?_
    refine w_region ?_
    refine wl_val (g_move (v := .slice a0 n0 c0) rfl) rfl ?_
    refine wl_val (g_move (v := .int .i64 p1) rfl) rfl ?_
    obtain ⟨hg64, hm⟩ := hm
    refine wl_val (q_index (i := p1) SL30 rfl rfl (Tv.o (hp0.bel hB58)) (Tv.g (hp0.bel hB58) hg64)) rfl ?_
    refine wl_val (g_fieldAddr (q := (adr a0).add ((Int.toNat p1) * El.m PlayerD)) FL61_0 ON35 rfl) rfl ?_
    refine wl_val (q_loadF (i := p1) (j := 0) (v := .slice ((y0[(Int.toNat p1)]!).1.1) ((y0[(Int.toNat p1)]!).1.2.2.length) ((y0[(Int.toNat p1)]!).1.2.1)) ON35 (Tv.o (hp0.bel hB58)) (Tv.g (hp0.bel hB58) hg64) rfl rfl) rfl ?_
    refine wl_val (g_assign (v := .slice ((y0[(Int.toNat p1)]!).1.1) ((y0[(Int.toNat p1)]!).1.2.2.length) ((y0[(Int.toNat p1)]!).1.2.1)) rfl) rfl ?_
    refine wl_nil ?_
    refine hK63 _ _ ?_
    refine w_cut (σ := Int) (fun v105 => [(1, .int .i64 p1), (2, .int .i64 p2), (8, .slice a7 n8 c9), (9, .int .i64 v105), (10, .slice ((y0[(Int.toNat p1)]!).1.1) ((y0[(Int.toNat p1)]!).1.2.2.length) ((y0[(Int.toNat p1)]!).1.2.1))]) (fun v105 w' => m_spec_TeachPuppet_K0 p0 p1 p2 r6 Q v105 ∧ Below w.heap.size w w' ∧ Sep w' w.heap.size [oS 61 a7 n8 c9 (y10 : List PlayerD), oT 3 (y10 : List PlayerD)]) ?_ ?_
    · refine w_block ?_
      obtain ⟨I108, μ109, h0110, hr111⟩ := hm
      refine w_for (σ := Int) (fun v107 => [(1, .int .i64 p1), (2, .int .i64 p2), (8, .slice a7 n8 c9), (9, .int .i64 v107), (10, .slice ((y0[(Int.toNat p1)]!).1.1) ((y0[(Int.toNat p1)]!).1.2.2.length) ((y0[(Int.toNat p1)]!).1.2.1))]) (fun v107 w' => I108 v107 ∧ Below w.heap.size w w' ∧ Sep w' w.heap.size [oS 61 a7 n8 c9 (y10 : List PlayerD), oT 3 (y10 : List PlayerD)]) (fun v107 => μ109 v107) (0) ⟨rfl, rfl, rfl, rfl, rfl, trivial⟩ ⟨h0110, hB58, hS59⟩ ?_
      rintro v107 b_ w112 ⟨hi_, hB113, hS114⟩
      show Wp _ _ _ _ (upds b_ [(1, .int .i64 p1), (2, .int .i64 p2), (8, .slice a7 n8 c9), (9, .int .i64 v107), (10, .slice ((y0[(Int.toNat p1)]!).1.1) ((y0[(Int.toNat p1)]!).1.2.2.length) ((y0[(Int.toNat p1)]!).1.2.1))]) w112
      have hm := hr111 v107 hi_
      refine w_seq fun K116 hK116 => ?_
      refine w_seq fun K117 hK117 => ?_
      refine w_region ?_
      refine wl_val (g_move (v := .int .i64 v107) rfl) rfl ?_
      refine wl_val (g_move (v := .slice ((y0[(Int.toNat p1)]!).1.1) ((y0[(Int.toNat p1)]!).1.2.2.length) ((y0[(Int.toNat p1)]!).1.2.1)) rfl) rfl ?_
      refine wl_val (q_len SL35 rfl (Vw.len (Tv.rowP (hp0.bel hB113) hg64))) rfl ?_
      refine wl_val (g_lss (a := v107) (b := ((p0[(Int.toNat p1)]!.1).length : Int)) rfl rfl) rfl ?_
      refine wl_val (g_move (v := .bool (decide (v107 < ((p0[(Int.toNat p1)]!.1).length : Int)))) rfl) rfl ?_
      refine wl_guard (c := (decide (v107 < ((p0[(Int.toNat p1)]!.1).length : Int))) = true) (val := .slice ((y0[(Int.toNat p1)]!).1.1) ((y0[(Int.toNat p1)]!).1.2.2.length) ((y0[(Int.toNat p1)]!).1.2.1)) (b := ((decide (v107 < ((p0[(Int.toNat p1)]!.1).length : Int))) == true)) (gv_some rfl rfl rfl) beq_iff_eq (fun hc118 => ?_) ?_
      · have hq5 : v107 < ((p0[(Int.toNat p1)]!.1).length : Int) := (decide_eq_true_iff.mp hc118)
        exact g_move (v := .slice ((y0[(Int.toNat p1)]!).1.1) ((y0[(Int.toNat p1)]!).1.2.2.length) ((y0[(Int.toNat p1)]!).1.2.1)) rfl
      refine wl_guard (c := (decide (v107 < ((p0[(Int.toNat p1)]!.1).length : Int))) = true) (val := .int .i64 v107) (b := ((decide (v107 < ((p0[(Int.toNat p1)]!.1).length : Int))) == true)) (gv_some rfl rfl rfl) beq_iff_eq (fun hc119 => ?_) ?_
      · have hq5 : v107 < ((p0[(Int.toNat p1)]!.1).length : Int) := (decide_eq_true_iff.mp hc119)
        exact g_move (v := .int .i64 v107) rfl
      obtain ⟨hg121, hm⟩ := hm
      refine wl_guard (c := (decide (v107 < ((p0[(Int.toNat p1)]!.1).length : Int))) = true) (val := .pointer (some ((adr ((y0[(Int.toNat p1)]!).1.1)).add ((Int.toNat v107) * El.m Int)))) (b := ((decide (v107 < ((p0[(Int.toNat p1)]!.1).length : Int))) == true)) (gv_some rfl rfl rfl) beq_iff_eq (fun hc120 => ?_) ?_
      · have hq5 : v107 < ((p0[(Int.toNat p1)]!.1).length : Int) := (decide_eq_true_iff.mp hc120)
        exact q_index (i := v107) SL35 (if_pos hc120) (if_pos hc120) (Tv.rowP (hp0.bel hB113) hg64) (hg121 hq5)
      refine wl_guard (c := (decide (v107 < ((p0[(Int.toNat p1)]!.1).length : Int))) = true) (val := .int .i64 ((p0[(Int.toNat p1)]!.1)[(Int.toNat v107)]!)) (b := ((decide (v107 < ((p0[(Int.toNat p1)]!.1).length : Int))) == true)) (gv_some rfl rfl rfl) beq_iff_eq (fun hc122 => ?_) ?_
      · have hq5 : v107 < ((p0[(Int.toNat p1)]!.1).length : Int) := (decide_eq_true_iff.mp hc122)
        exact q_load (i := v107) (v := .int .i64 ((p0[(Int.toNat p1)]!.1)[(Int.toNat v107)]!)) ON3 (Tv.rowP (hp0.bel hB113) hg64) (hg121 hq5) rfl (if_pos hc122)
      refine wl_guard (c := (decide (v107 < ((p0[(Int.toNat p1)]!.1).length : Int))) = true) (val := .int .i64 p2) (b := ((decide (v107 < ((p0[(Int.toNat p1)]!.1).length : Int))) == true)) (gv_some rfl rfl rfl) beq_iff_eq (fun hc123 => ?_) ?_
      · have hq5 : v107 < ((p0[(Int.toNat p1)]!.1).length : Int) := (decide_eq_true_iff.mp hc123)
        exact g_move (v := .int .i64 p2) rfl
      refine wl_guard (c := (decide (v107 < ((p0[(Int.toNat p1)]!.1).length : Int))) = true) (val := .bool (decide ((p0[(Int.toNat p1)]!.1)[(Int.toNat v107)]! < p2))) (b := ((decide (v107 < ((p0[(Int.toNat p1)]!.1).length : Int))) == true)) (gv_some rfl rfl rfl) beq_iff_eq (fun hc124 => ?_) ?_
      · have hq5 : v107 < ((p0[(Int.toNat p1)]!.1).length : Int) := (decide_eq_true_iff.mp hc124)
        exact g_lss (a := (p0[(Int.toNat p1)]!.1)[(Int.toNat v107)]!) (b := p2) (if_pos hc124) (if_pos hc124)
      refine wl_val (g_pick_and (b := (decide (v107 < ((p0[(Int.toNat p1)]!.1).length : Int)))) (q := (decide ((p0[(Int.toNat p1)]!.1)[(Int.toNat v107)]! < p2))) rfl rfl) rfl ?_
      refine wl_nil ?_
      refine hK117 _ _ ?_
      refine w_condI (p := ((v107 < ((p0[(Int.toNat p1)]!.1).length : Int)) ∧ ((p0[(Int.toNat p1)]!.1)[(Int.toNat v107)]! < p2))) (b := ((decide (v107 < ((p0[(Int.toNat p1)]!.1).length : Int))) && (decide ((p0[(Int.toNat p1)]!.1)[(Int.toNat v107)]! < p2)))) rfl (i_and decide_eq_true_iff decide_eq_true_iff) (fun h125 => ?_) (fun h125 => ?_)
      · replace hm := hm.1 h125
        refine w_skip ?_
        refine hK116 _ _ ?_
        refine w_block ?_
        refine w_region ?_
        refine wl_val (g_move (v := .int .i64 v107) rfl) rfl ?_
        obtain ⟨hg126, hm⟩ := hm
        refine wl_val (g_add (a := v107) (b := 1) rfl rfl hg126) rfl ?_
        refine wl_val (g_assign (v := .int .i64 (v107 + 1)) rfl) rfl ?_
        refine wl_nil ?_
        exact ⟨((v107 + 1)), hm.2, ⟨rfl, rfl, rfl, rfl, rfl, trivial⟩, ⟨hm.1, hB113, hS114⟩⟩
      · replace hm := hm.2 h125
        refine w_exit ?_
        exact ⟨(v107), ⟨rfl, rfl, rfl, rfl, rfl, trivial⟩, ⟨hm, hB113, hS114⟩⟩
    · rintro v105 b_ w127 ⟨hm, hB128, hS129⟩
      show Wp _ _ _ _ (upds b_ [(1, .int .i64 p1), (2, .int .i64 p2), (8, .slice a7 n8 c9), (9, .int .i64 v105), (10, .slice ((y0[(Int.toNat p1)]!).1.1) ((y0[(Int.toNat p1)]!).1.2.2.length) ((y0[(Int.toNat p1)]!).1.2.1))]) w127
      refine w_seq fun K130 hK130 => ?_
      have hlt133 := hS129.all
      refine w_tree (X := Ext) (Y := BelN w127.heap.size) [3, 3, 2, 0, 0, 0, 4, 3, 2, 4, 3, 3, 3, 4, 0, 0, 1] [0, 1, 3, 4, 7, 10, 11, 5, 12] (.two 2 [] (.two 6 [8, 9, 13, 14, 15, 16] .fin 8 [6, 9, 13, 14, 15, 16] .fin) 8 [2, 6, 9, 13, 14, 15, 16] .fin) MIX (by decide +kernel) (by decide +kernel) (by decide +kernel) rfl Ext.refl (fun _ _ _ => Ext.trans) (fun _ _ _ => BelN.trans) (fun _ _ h => h.belN) (fun w131 hE132 => ?_)
      have hB134 := Ext.stp hE132 (Nat.le_refl _)
      have hS135 : Sep w131 w127.heap.size [] := Sep.nil hE132.size
      refine ⟨.slice a7 n8 c9, fun w136 hX137 => od_plain rfl (by have hB139 := hB134.trans (hX137 hS135.base); exact is_ext (g_move (v := .slice a7 n8 c9) rfl)), ?_⟩
      refine ⟨.int .i64 p1, fun w140 hX141 => od_plain rfl (by have hB143 := hB134.trans (hX141 hS135.base); exact is_ext (g_move (v := .int .i64 p1) rfl)), ?_⟩
      refine ⟨.slice ((y0[(Int.toNat p1)]!).1.1) ((y0[(Int.toNat p1)]!).1.2.2.length) ((y0[(Int.toNat p1)]!).1.2.1), fun w144 hX145 => od_plain rfl (by have hS146 := hS135.ext hX145; have hB147 := hB134.trans (Ext.stp hX145 hS135.base); exact is_ext (g_move (v := .slice ((y0[(Int.toNat p1)]!).1.1) ((y0[(Int.toNat p1)]!).1.2.2.length) ((y0[(Int.toNat p1)]!).1.2.1)) rfl)), ?_⟩
      refine ⟨.int .i64 v105, fun w148 hX149 => od_plain rfl (by have hS150 := hS135.ext hX149; have hB151 := hB134.trans (Ext.stp hX149 hS135.base); exact is_ext (g_move (v := .int .i64 v105) rfl)), ?_⟩
      refine ⟨.int .i64 p2, fun w152 hX153 => od_plain rfl (by have hB155 := hB134.trans (hX153 hS135.base); exact is_ext (g_move (v := .int .i64 p2) rfl)), ?_⟩
      refine ⟨.slice ((y0[(Int.toNat p1)]!).1.1) ((y0[(Int.toNat p1)]!).1.2.2.length) ((y0[(Int.toNat p1)]!).1.2.1), fun w156 hX157 => od_plain rfl (by have hB159 := hB134.trans (hX157 hS135.base); exact is_ext (g_move (v := .slice ((y0[(Int.toNat p1)]!).1.1) ((y0[(Int.toNat p1)]!).1.2.2.length) ((y0[(Int.toNat p1)]!).1.2.1)) rfl)), ?_⟩
      refine ⟨.int .i64 v105, fun w160 hX161 => od_plain rfl (by have hB163 := hB134.trans (hX161 hS135.base); exact is_ext (g_move (v := .int .i64 v105) rfl)), ?_⟩
      obtain ⟨hg168, hm⟩ := hm
      refine ⟨.slice ((y0[(Int.toNat p1)]!).1.1) (Int.toNat v105) ((y0[(Int.toNat p1)]!).1.2.1), fun w164 hX165 => od_plain rfl (by have hS166 := hS135.ext hX165; have hB167 := hB134.trans (Ext.stp hX165 hS135.base); exact is_ext (q_sliceH (h := v105) SL35 rfl rfl (Tv.rowP (hp0.bel (hB128.trans (bel_le hB167 hS129.base))) hg64) hg168)), ?_⟩
      obtain ⟨hg173, hm⟩ := hm
      refine ⟨.slice (if (y0[(Int.toNat p1)]!).1.2.1 = (Int.toNat v105) then (y0[(Int.toNat p1)]!).1.1 else ((y0[(Int.toNat p1)]!).1.1).map (·.add ((Int.toNat v105) * El.m Int))) ((y0[(Int.toNat p1)]!).1.2.2.length - (Int.toNat v105)) ((y0[(Int.toNat p1)]!).1.2.1 - (Int.toNat v105)), fun w169 hX170 => od_plain rfl (by have hB172 := hB134.trans (hX170 hS135.base); exact is_ext (q_sliceL (l := v105) SL35 rfl rfl (Tv.rowP (hp0.bel (hB128.trans (bel_le hB172 hS129.base))) hg64) hg173)), ?_⟩
      intro w174 hX175
      have hB176 := hB134.trans (Ext.stp hX175 hS135.base)
      have hS177 := hS135.ext hX175
      refine kt_two ?_ ?_
      · intro w178 hX179
        have hB180 := hB176.trans (Ext.stp hX179 hS177.base)
        have hS181 := hS177.ext hX179
        refine ⟨_, od_plain rfl (q_lit0 (α := Int) rfl SL35 hS181), ?_⟩
        rintro _ w182 ⟨a183, rfl, hS185, hE184⟩
        refine ⟨hE184, ?_⟩
        have hB187 := hB180.trans (Ext.stp hE184 hS181.base)
        intro w188 hX189
        have hB190 := hB187.trans (Ext.stp hX189 hS185.base)
        have hS191 := hS185.ext hX189
        refine kt_two ?_ ?_
        · intro w192 hX193
          have hB194 := hB190.trans (Ext.stp hX193 hS191.base)
          have hS195 := hS191.ext hX193
          obtain ⟨hg201, hm⟩ := hm
          refine ⟨_, od_plain rfl (q_append SL35 rfl rfl hS195 (Vw.take (Tv.rowP (hp0.bel (hB128.trans (bel_le hB194 hS129.base))) hg64) (Int.toNat v105) (tn_le hg168)) hg201 (by decide)), ?_⟩
          rintro _ w196 ⟨a197, c198, rfl, hS200, hb199⟩
          refine ⟨fun _ => hb199, ?_⟩
          have hB202 := hB194.trans hb199
          intro w203 hX204
          have hB205 := hB202.trans (Ext.stp hX204 hS200.base)
          have hS206 := hS200.ext hX204
          refine ⟨_, od_plain rfl (q_lit1 (y := (p2 : Int)) SL35 rfl rfl (by decide) hS206), ?_⟩
          rintro _ w207 ⟨a208, rfl, hS210, hE209⟩
          refine ⟨hE209, ?_⟩
          have hB212 := hB205.trans (Ext.stp hE209 hS206.base)
          intro w213 hX214
          have hB215 := hB212.trans (Ext.stp hX214 hS210.base)
          have hS216 := hS210.ext hX214
          have hS222 := hS216.f1
          obtain ⟨hg223, hm⟩ := hm
          refine ⟨_, od_plain rfl (q_append SL35 rfl rfl hS222 (oS.vw hS222.g1) hg223 (by decide)), ?_⟩
          rintro _ w217 ⟨a218, c219, rfl, hS221, hb220⟩
          refine ⟨fun _ => hb220, ?_⟩
          have hB224 := hB215.trans hb220
          intro w225 hX226
          have hB227 := hB224.trans (Ext.stp hX226 hS221.base)
          have hS228 := hS221.ext hX226
          obtain ⟨hg234, hm⟩ := hm
          refine ⟨_, od_plain rfl (q_append SL35 rfl rfl hS228 (Vw.drop (Tv.rowP (hp0.bel (hB128.trans (bel_le hB227 hS129.base))) hg64) (Int.toNat v105) (tn_le hg173)) hg234 (by decide)), ?_⟩
          rintro _ w229 ⟨a230, c231, rfl, hS233, hb232⟩
          refine ⟨fun _ => hb232, ?_⟩
          have hB235 := hB227.trans hb232
          obtain ⟨hg240, hm⟩ := hm
          refine ⟨.pointer (some ((adr a7).add ((Int.toNat p1) * El.m PlayerD))), fun w236 hX237 => od_plain rfl (by have hS238 := hS233.ext hX237; have hB239 := hB235.trans (Ext.stp hX237 hS233.base); exact is_ext (q_index (i := p1) SL30 rfl rfl (Tv.o (oT.vw (Sep.belN hS129 hlt133 hB239).g0 (Sep.belN hS129 hlt133 hB239).g1 he11)) (Tv.g (oT.vw (Sep.belN hS129 hlt133 hB239).g0 (Sep.belN hS129 hlt133 hB239).g1 he11) hg240))), ?_⟩
          refine ⟨.pointer (some (((adr a7).add ((Int.toNat p1) * El.m PlayerD)).add 0)), fun w241 hX242 => od_plain rfl (by have hS243 := hS233.ext hX242; have hB244 := hB235.trans (Ext.stp hX242 hS233.base); exact is_ext (g_fieldAddr (q := (adr a7).add ((Int.toNat p1) * El.m PlayerD)) FL61_0 ON35 rfl)), ?_⟩
          intro w245 hX246
          have hB247 := hB235.trans (Ext.stp hX246 hS233.base)
          have hS248 := hS233.ext hX246
          have hS249 := Sep.app2 hS248 (Sep.belN hS129 hlt133 hB247) hlt133 hS129.base
          have hB250 := hB128.trans (bel_le hB247 hS129.base)
          have hn254 := oS.len hS249.g0
          have hS255 := hS249.rowsPlayer ((y10)[(Int.toNat p1)]!.2)
          have hS257 := hS255.f2
          have hl258 : ix p1 (y10).length := by have h3 := congrArg List.length he11; simp only [ers, List.length_map] at h3; rw [h3]; exact hg240
          refine ⟨_, od_plain rfl (q_storeF (i := p1) (j := 0) (v := (((a230, c231, ((((p0[(Int.toNat p1)]!.1).take (Int.toNat v105)) ++ ([p2])) ++ ((p0[(Int.toNat p1)]!.1).drop (Int.toNat v105)))), (y10)[(Int.toNat p1)]!.2) : PlayerD)) hS257 ON35 hl258 rfl rfl rfl rfl (by decide) (by rw [hn254]; rfl)), ?_⟩
          rintro _ w251 ⟨rfl, hS252, hb253⟩
          have hB259 := hB250.trans hb253
          have hl260 : (Int.toNat p1) < (y10).length := by have h1 := (hl258).1; have h2 := (hl258).2; omega
          have he261 : ers (y10.set (Int.toNat p1) (((a230, c231, ((((p0[(Int.toNat p1)]!.1).take (Int.toNat v105)) ++ ([p2])) ++ ((p0[(Int.toNat p1)]!.1).drop (Int.toNat v105)))), (y10)[(Int.toNat p1)]!.2) : PlayerD)) = (r6.set (Int.toNat p1) (((((p0[(Int.toNat p1)]!.1).take (Int.toNat v105)) ++ ([p2])) ++ ((p0[(Int.toNat p1)]!.1).drop (Int.toNat v105))), r6[(Int.toNat p1)]!.2)) := ers_set he11 (by first | rfl | (rw [← he11, er_get hl260]; rfl)) _
          have hS262 := hS252.f3
          have hS263 := hS262.f2
          have hS264 := hS263.setRows hl260
          intro w265 hX266
          have hB267 := hB259.trans (Ext.stp hX266 hS264.base)
          have hS268 := hS264.ext hX266
          refine kt_fin ?_
          refine hK130 _ _ ?_
          refine w_seq fun K269 hK269 => ?_
          refine w_region ?_
          refine wl_val (g_move (v := .slice a7 n8 c9) rfl) rfl ?_
          refine wl_val (g_assign (v := .slice a7 n8 c9) rfl) rfl ?_
          refine wl_val (g_assign (v := .bool true) rfl) rfl ?_
          refine wl_nil ?_
          refine hK269 _ _ ?_
          refine w_ret ?_
          have hS270 := hS268.f2
          have hS271 := hS270.tail
          have hS272 := hS271.f1
          repeat first | with_reducible refine q_then ?_ | with_reducible refine q_block ?_
          exact ret2 rfl (by decide) (by decide) ⟨_, _, _, _, _, _, hm, he261, rfl, toExt hB267, hS272⟩
        · intro w273 hX274
          have hB275 := hB190.trans (Ext.stp hX274 hS191.base)
          have hS276 := hS191.ext hX274
          refine ⟨_, od_plain rfl (q_lit1 (y := (p2 : Int)) SL35 rfl rfl (by decide) hS276), ?_⟩
          rintro _ w277 ⟨a278, rfl, hS280, hE279⟩
          refine ⟨hE279, ?_⟩
          have hB282 := hB275.trans (Ext.stp hE279 hS276.base)
          intro w283 hX284
          have hB285 := hB282.trans (Ext.stp hX284 hS280.base)
          have hS286 := hS280.ext hX284
          have hS292 := hS286.f1
          obtain ⟨hg293, hm⟩ := hm
          refine ⟨_, od_plain rfl (q_append SL35 rfl rfl hS292 (Vw.take (Tv.rowP (hp0.bel (hB128.trans (bel_le hB285 hS129.base))) hg64) (Int.toNat v105) (tn_le hg168)) hg293 (by decide)), ?_⟩
          rintro _ w287 ⟨a288, c289, rfl, hS291, hb290⟩
          refine ⟨fun _ => hb290, ?_⟩
          have hB294 := hB285.trans hb290
          intro w295 hX296
          have hB297 := hB294.trans (Ext.stp hX296 hS291.base)
          have hS298 := hS291.ext hX296
          obtain ⟨hg304, hm⟩ := hm
          refine ⟨_, od_plain rfl (q_append SL35 rfl rfl hS298 (oS.vw hS298.g1) hg304 (by decide)), ?_⟩
          rintro _ w299 ⟨a300, c301, rfl, hS303, hb302⟩
          refine ⟨fun _ => hb302, ?_⟩
          have hB305 := hB297.trans hb302
          intro w306 hX307
          have hB308 := hB305.trans (Ext.stp hX307 hS303.base)
          have hS309 := hS303.ext hX307
          obtain ⟨hg315, hm⟩ := hm
          refine ⟨_, od_plain rfl (q_append SL35 rfl rfl hS309 (Vw.drop (Tv.rowP (hp0.bel (hB128.trans (bel_le hB308 hS129.base))) hg64) (Int.toNat v105) (tn_le hg173)) hg315 (by decide)), ?_⟩
          rintro _ w310 ⟨a311, c312, rfl, hS314, hb313⟩
          refine ⟨fun _ => hb313, ?_⟩
          have hB316 := hB308.trans hb313
          obtain ⟨hg321, hm⟩ := hm
          refine ⟨.pointer (some ((adr a7).add ((Int.toNat p1) * El.m PlayerD))), fun w317 hX318 => od_plain rfl (by have hS319 := hS314.ext hX318; have hB320 := hB316.trans (Ext.stp hX318 hS314.base); exact is_ext (q_index (i := p1) SL30 rfl rfl (Tv.o (oT.vw (Sep.belN hS129 hlt133 hB320).g0 (Sep.belN hS129 hlt133 hB320).g1 he11)) (Tv.g (oT.vw (Sep.belN hS129 hlt133 hB320).g0 (Sep.belN hS129 hlt133 hB320).g1 he11) hg321))), ?_⟩
          refine ⟨.pointer (some (((adr a7).add ((Int.toNat p1) * El.m PlayerD)).add 0)), fun w322 hX323 => od_plain rfl (by have hS324 := hS314.ext hX323; have hB325 := hB316.trans (Ext.stp hX323 hS314.base); exact is_ext (g_fieldAddr (q := (adr a7).add ((Int.toNat p1) * El.m PlayerD)) FL61_0 ON35 rfl)), ?_⟩
          intro w326 hX327
          have hB328 := hB316.trans (Ext.stp hX327 hS314.base)
          have hS329 := hS314.ext hX327
          have hS330 := Sep.app2 hS329 (Sep.belN hS129 hlt133 hB328) hlt133 hS129.base
          have hB331 := hB128.trans (bel_le hB328 hS129.base)
          have hn335 := oS.len hS330.g0
          have hS336 := hS330.rowsPlayer ((y10)[(Int.toNat p1)]!.2)
          have hS338 := hS336.f2
          have hl339 : ix p1 (y10).length := by have h3 := congrArg List.length he11; simp only [ers, List.length_map] at h3; rw [h3]; exact hg321
          refine ⟨_, od_plain rfl (q_storeF (i := p1) (j := 0) (v := (((a311, c312, ((((p0[(Int.toNat p1)]!.1).take (Int.toNat v105)) ++ ([p2])) ++ ((p0[(Int.toNat p1)]!.1).drop (Int.toNat v105)))), (y10)[(Int.toNat p1)]!.2) : PlayerD)) hS338 ON35 hl339 rfl rfl rfl rfl (by decide) (by rw [hn335]; rfl)), ?_⟩
          rintro _ w332 ⟨rfl, hS333, hb334⟩
          have hB340 := hB331.trans hb334
          have hl341 : (Int.toNat p1) < (y10).length := by have h1 := (hl339).1; have h2 := (hl339).2; omega
          have he342 : ers (y10.set (Int.toNat p1) (((a311, c312, ((((p0[(Int.toNat p1)]!.1).take (Int.toNat v105)) ++ ([p2])) ++ ((p0[(Int.toNat p1)]!.1).drop (Int.toNat v105)))), (y10)[(Int.toNat p1)]!.2) : PlayerD)) = (r6.set (Int.toNat p1) (((((p0[(Int.toNat p1)]!.1).take (Int.toNat v105)) ++ ([p2])) ++ ((p0[(Int.toNat p1)]!.1).drop (Int.toNat v105))), r6[(Int.toNat p1)]!.2)) := ers_set he11 (by first | rfl | (rw [← he11, er_get hl341]; rfl)) _
          have hS343 := hS333.f3
          have hS344 := hS343.f2
          have hS345 := hS344.setRows hl341
          intro w346 hX347
          have hB348 := hB340.trans (Ext.stp hX347 hS345.base)
          have hS349 := hS345.ext hX347
          refine kt_fin ?_
          refine hK130 _ _ ?_
          refine w_seq fun K350 hK350 => ?_
          refine w_region ?_
          refine wl_val (g_move (v := .slice a7 n8 c9) rfl) rfl ?_
          refine wl_val (g_assign (v := .slice a7 n8 c9) rfl) rfl ?_
          refine wl_val (g_assign (v := .bool true) rfl) rfl ?_
          refine wl_nil ?_
          refine hK350 _ _ ?_
          refine w_ret ?_
          have hS351 := hS349.f2
          have hS352 := hS351.tail
          have hS353 := hS352.f1
          repeat first | with_reducible refine q_then ?_ | with_reducible refine q_block ?_
          exact ret2 rfl (by decide) (by decide) ⟨_, _, _, _, _, _, hm, he342, rfl, toExt hB348, hS353⟩
      · intro w354 hX355
        have hB356 := hB176.trans (Ext.stp hX355 hS177.base)
        have hS357 := hS177.ext hX355
        refine ⟨_, od_plain rfl (q_lit1 (y := (p2 : Int)) SL35 rfl rfl (by decide) hS357), ?_⟩
        rintro _ w358 ⟨a359, rfl, hS361, hE360⟩
        refine ⟨hE360, ?_⟩
        have hB363 := hB356.trans (Ext.stp hE360 hS357.base)
        intro w364 hX365
        have hB366 := hB363.trans (Ext.stp hX365 hS361.base)
        have hS367 := hS361.ext hX365
        refine ⟨_, od_plain rfl (q_lit0 (α := Int) rfl SL35 hS367), ?_⟩
        rintro _ w368 ⟨a369, rfl, hS371, hE370⟩
        refine ⟨hE370, ?_⟩
        have hB373 := hB366.trans (Ext.stp hE370 hS367.base)
        intro w374 hX375
        have hB376 := hB373.trans (Ext.stp hX375 hS371.base)
        have hS377 := hS371.ext hX375
        obtain ⟨hg383, hm⟩ := hm
        refine ⟨_, od_plain rfl (q_append SL35 rfl rfl hS377 (Vw.take (Tv.rowP (hp0.bel (hB128.trans (bel_le hB376 hS129.base))) hg64) (Int.toNat v105) (tn_le hg168)) hg383 (by decide)), ?_⟩
        rintro _ w378 ⟨a379, c380, rfl, hS382, hb381⟩
        refine ⟨fun _ => hb381, ?_⟩
        have hB384 := hB376.trans hb381
        intro w385 hX386
        have hB387 := hB384.trans (Ext.stp hX386 hS382.base)
        have hS388 := hS382.ext hX386
        obtain ⟨hg394, hm⟩ := hm
        refine ⟨_, od_plain rfl (q_append SL35 rfl rfl hS388 (oS.vw hS388.g1) hg394 (by decide)), ?_⟩
        rintro _ w389 ⟨a390, c391, rfl, hS393, hb392⟩
        refine ⟨fun _ => hb392, ?_⟩
        have hB395 := hB387.trans hb392
        intro w396 hX397
        have hB398 := hB395.trans (Ext.stp hX397 hS393.base)
        have hS399 := hS393.ext hX397
        obtain ⟨hg405, hm⟩ := hm
        refine ⟨_, od_plain rfl (q_append SL35 rfl rfl hS399 (Vw.drop (Tv.rowP (hp0.bel (hB128.trans (bel_le hB398 hS129.base))) hg64) (Int.toNat v105) (tn_le hg173)) hg405 (by decide)), ?_⟩
        rintro _ w400 ⟨a401, c402, rfl, hS404, hb403⟩
        refine ⟨fun _ => hb403, ?_⟩
        have hB406 := hB398.trans hb403
        obtain ⟨hg411, hm⟩ := hm
        refine ⟨.pointer (some ((adr a7).add ((Int.toNat p1) * El.m PlayerD))), fun w407 hX408 => od_plain rfl (by have hS409 := hS404.ext hX408; have hB410 := hB406.trans (Ext.stp hX408 hS404.base); exact is_ext (q_index (i := p1) SL30 rfl rfl (Tv.o (oT.vw (Sep.belN hS129 hlt133 hB410).g0 (Sep.belN hS129 hlt133 hB410).g1 he11)) (Tv.g (oT.vw (Sep.belN hS129 hlt133 hB410).g0 (Sep.belN hS129 hlt133 hB410).g1 he11) hg411))), ?_⟩
        refine ⟨.pointer (some (((adr a7).add ((Int.toNat p1) * El.m PlayerD)).add 0)), fun w412 hX413 => od_plain rfl (by have hS414 := hS404.ext hX413; have hB415 := hB406.trans (Ext.stp hX413 hS404.base); exact is_ext (g_fieldAddr (q := (adr a7).add ((Int.toNat p1) * El.m PlayerD)) FL61_0 ON35 rfl)), ?_⟩
        intro w416 hX417
        have hB418 := hB406.trans (Ext.stp hX417 hS404.base)
        have hS419 := hS404.ext hX417
        have hS420 := Sep.app2 hS419 (Sep.belN hS129 hlt133 hB418) hlt133 hS129.base
        have hB421 := hB128.trans (bel_le hB418 hS129.base)
        have hn425 := oS.len hS420.g0
        have hS426 := hS420.rowsPlayer ((y10)[(Int.toNat p1)]!.2)
        have hS428 := hS426.f2
        have hl429 : ix p1 (y10).length := by have h3 := congrArg List.length he11; simp only [ers, List.length_map] at h3; rw [h3]; exact hg411
        refine ⟨_, od_plain rfl (q_storeF (i := p1) (j := 0) (v := (((a401, c402, ((((p0[(Int.toNat p1)]!.1).take (Int.toNat v105)) ++ ([p2])) ++ ((p0[(Int.toNat p1)]!.1).drop (Int.toNat v105)))), (y10)[(Int.toNat p1)]!.2) : PlayerD)) hS428 ON35 hl429 rfl rfl rfl rfl (by decide) (by rw [hn425]; rfl)), ?_⟩
        rintro _ w422 ⟨rfl, hS423, hb424⟩
        have hB430 := hB421.trans hb424
        have hl431 : (Int.toNat p1) < (y10).length := by have h1 := (hl429).1; have h2 := (hl429).2; omega
        have he432 : ers (y10.set (Int.toNat p1) (((a401, c402, ((((p0[(Int.toNat p1)]!.1).take (Int.toNat v105)) ++ ([p2])) ++ ((p0[(Int.toNat p1)]!.1).drop (Int.toNat v105)))), (y10)[(Int.toNat p1)]!.2) : PlayerD)) = (r6.set (Int.toNat p1) (((((p0[(Int.toNat p1)]!.1).take (Int.toNat v105)) ++ ([p2])) ++ ((p0[(Int.toNat p1)]!.1).drop (Int.toNat v105))), r6[(Int.toNat p1)]!.2)) := ers_set he11 (by first | rfl | (rw [← he11, er_get hl431]; rfl)) _
        have hS433 := hS423.f3
        have hS434 := hS433.f2
        have hS435 := hS434.setRows hl431
        intro w436 hX437
        have hB438 := hB430.trans (Ext.stp hX437 hS435.base)
        have hS439 := hS435.ext hX437
        refine kt_fin ?_
        refine hK130 _ _ ?_
        refine w_seq fun K440 hK440 => ?_
        refine w_region ?_
        refine wl_val (g_move (v := .slice a7 n8 c9) rfl) rfl ?_
        refine wl_val (g_assign (v := .slice a7 n8 c9) rfl) rfl ?_
        refine wl_val (g_assign (v := .bool true) rfl) rfl ?_
        refine wl_nil ?_
        refine hK440 _ _ ?_
        refine w_ret ?_
        have hS441 := hS439.f2
        have hS442 := hS441.tail
        have hS443 := hS442.f1
        repeat first | with_reducible refine q_then ?_ | with_reducible refine q_block ?_
        exact ret2 rfl (by decide) (by decide) ⟨_, _, _, _, _, _, hm, he432, rfl, toExt hB438, hS443⟩

theorem m_impl_put_fn {w : World} {a0 : Option Addr} {n0 c0 : Nat} {p0 : List Int} {Q : (List Int) → Prop} (hp0 : Vw w.heap.size w a0 n0 c0 p0) (p1 : Int) (hm : m_impl_put p0 p1 Q) :
    Fn Try.prog 72 #[.slice a0 n0 c0, .int .i64 p1] w (fun v w' => ∃ (r0 : List Int) (a0 : Option Addr) (n0 c0 : Nat), Q r0 ∧ v = .slice a0 n0 c0 ∧ Ext w w' ∧ Sep w' w.heap.size [oS 3 a0 n0 c0 r0]) := by
  unfold m_impl_put at hm
  have hB0 := Below.refl w.heap.size w
  have hS0 : Sep w w.heap.size [] := Sep.nil (Nat.le_refl _)
  refine fn_of_wp Try.func72 rfl (by kernel_rfl) (Nat.le_of_ble_eq_true rfl) ?_
  refine w_seq fun K1 hK1 => ?_
  refine w_region ?_
  refine wl_val (g_assign (v := .slice none 0 0) rfl) rfl ?_
  refine wl_nil ?_
  refine hK1 _ _ ?_
  refine w_seq fun K2 hK2 => ?_
  refine w_region ?_
  refine wl_step rfl (q_lit0 (α := Int) rfl SL35 hS0) ?_
  rintro _ w3 ⟨a4, rfl, hS6, hE5⟩
  have hB8 := hB0.trans (Ext.stp hE5 hS0.base)
  refine wl_val (g_assign (v := .slice a4 0 0) rfl) rfl ?_
  refine wl_val (g_assign (v := .bool false) rfl) rfl ?_
  refine wl_nil ?_
  refine hK2 _ _ ?_
  refine w_cut (σ := List Int × Option Addr × Nat × Nat × Bool) (fun ⟨x160, a161, n162, c163, v164⟩ => [(1, .int .i64 p1), (5, .slice a161 n162 c163), (6, .bool v164)]) (fun ⟨x160, a161, n162, c163, v164⟩ w' => m_impl_put_K1 p1 Q x160 v164 ∧ Below w.heap.size w w' ∧ Sep w' w.heap.size [oS 3 a161 n162 c163 (x160 : List Int)]) ?_ ?_
  · refine w_seq fun K166 hK166 => ?_
    refine w_region ?_
    refine wl_val (g_move (v := .slice a0 n0 c0) rfl) rfl ?_
    refine wl_val (q_len SL35 rfl (Vw.len (hp0.bel hB8))) rfl ?_
    refine wl_val (g_move (v := .int .i64 0) rfl) rfl ?_
    refine wl_nil ?_
    refine hK166 _ _ ?_
    refine w_block ?_
    obtain ⟨I173, μ174, h0175, hr176⟩ := hm
    refine w_for (σ := List Int × Option Addr × Nat × Nat × Bool × Int) (fun ⟨x167, a168, n169, c170, v171, v172⟩ => [(1, .int .i64 p1), (5, .slice a168 n169 c170), (6, .bool v171), (10, .slice a0 n0 c0), (11, .int .i64 (p0.length : Int)), (12, .int .i64 v172)]) (fun ⟨x167, a168, n169, c170, v171, v172⟩ w' => I173 x167 v171 v172 ∧ Below w.heap.size w w' ∧ Sep w' w.heap.size [oS 3 a168 n169 c170 (x167 : List Int)]) (fun ⟨x167, a168, n169, c170, v171, v172⟩ => μ174 x167 v171 v172) ([], a4, 0, 0, false, 0) ⟨rfl, rfl, rfl, rfl, rfl, rfl, trivial⟩ ⟨h0175, hB8, hS6⟩ ?_
    rintro ⟨x167, a168, n169, c170, v171, v172⟩ b_ w177 ⟨hi_, hB178, hS179⟩
    show Wp _ _ _ _ (upds b_ [(1, .int .i64 p1), (5, .slice a168 n169 c170), (6, .bool v171), (10, .slice a0 n0 c0), (11, .int .i64 (p0.length : Int)), (12, .int .i64 v172)]) w177
    have hm := hr176 x167 v171 v172 hi_
    refine w_seq fun K181 hK181 => ?_
    refine w_region ?_
    refine wl_val (g_lss (a := v172) (b := (p0.length : Int)) rfl rfl) rfl ?_
    refine wl_nil ?_
    refine hK181 _ _ ?_
    refine w_seq fun K182 hK182 => ?_
    refine w_condI (p := v172 < (p0.length : Int)) (b := (decide (v172 < (p0.length : Int)))) rfl decide_eq_true_iff (fun h183 => ?_) (fun h183 => ?_)
    · replace hm := hm.1 h183
      refine w_skip ?_
      refine hK182 _ _ ?_
      refine w_seq fun K184 hK184 => ?_
      refine w_block ?_
      refine w_seq fun K185 hK185 => ?_
      refine w_region ?_
      obtain ⟨hg186, hm⟩ := hm
      refine wl_val (q_index (i := v172) SL35 rfl rfl (hp0.bel hB178) hg186) rfl ?_
      refine wl_val (q_load (i := v172) (v := .int .i64 (p0[(Int.toNat v172)]!)) ON3 (hp0.bel hB178) hg186 rfl rfl) rfl ?_
      refine wl_val (g_assign (v := .int .i64 (p0[(Int.toNat v172)]!)) rfl) rfl ?_
      refine wl_nil ?_
      refine hK185 _ _ ?_
      refine w_cut (σ := List Int × Option Addr × Nat × Nat × Bool) (fun ⟨x187, a188, n189, c190, v191⟩ => [(1, .int .i64 p1), (5, .slice a188 n189 c190), (6, .bool v191), (8, .int .i64 (p0[(Int.toNat v172)]!)), (10, .slice a0 n0 c0), (11, .int .i64 (p0.length : Int)), (12, .int .i64 v172)]) (fun ⟨x187, a188, n189, c190, v191⟩ w' => m_impl_put_K0 p0 v172 (fun x167' v171' v172' => I173 x167' v171' v172' ∧ μ174 x167' v171' v172' < μ174 x167 v171 v172) x187 v191 ∧ Below w.heap.size w w' ∧ Sep w' w.heap.size [oS 3 a188 n189 c190 (x187 : List Int)]) ?_ ?_
      · refine w_seq fun K193 hK193 => ?_
        refine w_region ?_
        refine wl_val (g_move (v := .bool v171) rfl) rfl ?_
        refine wl_val (g_not (a := v171) rfl) rfl ?_
        refine wl_val (g_move (v := .bool (!v171)) rfl) rfl ?_
        refine wl_guard (c := (!v171) = true) (val := .int .i64 p1) (b := ((!v171) == true)) (gv_some rfl rfl rfl) beq_iff_eq (fun hc194 => ?_) ?_
        · have hq2 : ¬ (v171 = true) := ((i_not Iff.rfl).mp hc194)
          exact g_move (v := .int .i64 p1) rfl
        refine wl_guard (c := (!v171) = true) (val := .int .i64 (p0[(Int.toNat v172)]!)) (b := ((!v171) == true)) (gv_some rfl rfl rfl) beq_iff_eq (fun hc195 => ?_) ?_
        · have hq2 : ¬ (v171 = true) := ((i_not Iff.rfl).mp hc195)
          exact g_move (v := .int .i64 (p0[(Int.toNat v172)]!)) rfl
        refine wl_guard (c := (!v171) = true) (val := .bool (decide (p1 ≤ p0[(Int.toNat v172)]!))) (b := ((!v171) == true)) (gv_some rfl rfl rfl) beq_iff_eq (fun hc196 => ?_) ?_
        · have hq2 : ¬ (v171 = true) := ((i_not Iff.rfl).mp hc196)
          exact g_leq (a := p1) (b := p0[(Int.toNat v172)]!) (if_pos hc196) (if_pos hc196)
        refine wl_val (g_pick_and (b := (!v171)) (q := (decide (p1 ≤ p0[(Int.toNat v172)]!))) rfl rfl) rfl ?_
        refine wl_nil ?_
        refine hK193 _ _ ?_
        refine w_condI (p := ((¬ (v171 = true)) ∧ (p1 ≤ p0[(Int.toNat v172)]!))) (b := ((!v171) && (decide (p1 ≤ p0[(Int.toNat v172)]!)))) rfl (i_and (i_not Iff.rfl) decide_eq_true_iff) (fun h197 => ?_) (fun h197 => ?_)
        · replace hm := hm.1 h197
          refine w_seq fun K198 hK198 => ?_
          refine w_region ?_
          refine wl_val (g_move (v := .slice a168 n169 c170) rfl) rfl ?_
          refine wl_val (g_move (v := .int .i64 p1) rfl) rfl ?_
          refine wl_step rfl (q_lit1 (y := (p1 : Int)) SL35 rfl rfl (by decide) hS179) ?_
          rintro _ w199 ⟨a200, rfl, hS202, hE201⟩
          have hB204 := hB178.trans (Ext.stp hE201 hS179.base)
          have hS210 := hS202.f1
          obtain ⟨hg211, hm⟩ := hm
          refine wl_step rfl (q_append SL35 rfl rfl hS210 (oS.vw hS210.g1) hg211 (by decide)) ?_
          rintro _ w205 ⟨a206, c207, rfl, hS209, hb208⟩
          have hB212 := hB204.trans hb208
          refine wl_val (g_assign (v := .slice a206 (n169 + 1) c207) rfl) rfl ?_
          refine wl_nil ?_
          refine hK198 _ _ ?_
          refine w_region ?_
          refine wl_val (g_assign (v := .bool true) rfl) rfl ?_
          refine wl_nil ?_
          have hS213 := hS209.f1
          have hS214 := hS213.tail
          exact ⟨((x167 ++ ([p1])), a206, (n169 + 1), c207, true), ⟨rfl, rfl, rfl, rfl, rfl, rfl, rfl, trivial⟩, ⟨hm, hB212, hS214⟩⟩
        · replace hm := hm.2 h197
          refine w_skip ?_
          exact ⟨(x167, a168, n169, c170, v171), ⟨rfl, rfl, rfl, rfl, rfl, rfl, rfl, trivial⟩, ⟨hm, hB178, hS179⟩⟩
      · rintro ⟨x187, a188, n189, c190, v191⟩ b_ w215 ⟨hm, hB216, hS217⟩
        show Wp _ _ _ _ (upds b_ [(1, .int .i64 p1), (5, .slice a188 n189 c190), (6, .bool v191), (8, .int .i64 (p0[(Int.toNat v172)]!)), (10, .slice a0 n0 c0), (11, .int .i64 (p0.length : Int)), (12, .int .i64 v172)]) w215
        refine w_region ?_
        refine wl_val (g_move (v := .slice a188 n189 c190) rfl) rfl ?_
        refine wl_val (g_move (v := .int .i64 (p0[(Int.toNat v172)]!)) rfl) rfl ?_
        refine wl_step rfl (q_lit1 (y := (p0[(Int.toNat v172)]! : Int)) SL35 rfl rfl (by decide) hS217) ?_
        rintro _ w218 ⟨a219, rfl, hS221, hE220⟩
        have hB223 := hB216.trans (Ext.stp hE220 hS217.base)
        have hS229 := hS221.f1
        obtain ⟨hg230, hm⟩ := hm
        refine wl_step rfl (q_append SL35 rfl rfl hS229 (oS.vw hS229.g1) hg230 (by decide)) ?_
        rintro _ w224 ⟨a225, c226, rfl, hS228, hb227⟩
        have hB231 := hB223.trans hb227
        refine wl_val (g_assign (v := .slice a225 (n189 + 1) c226) rfl) rfl ?_
        refine wl_nil ?_
        refine hK184 _ _ ?_
        refine w_region ?_
        obtain ⟨hg232, hm⟩ := hm
        refine wl_val (g_add (a := v172) (b := 1) rfl rfl hg232) rfl ?_
        refine wl_val (g_move (v := .int .i64 (v172 + 1)) rfl) rfl ?_
        refine wl_nil ?_
        have hS233 := hS228.f1
        have hS234 := hS233.tail
        exact ⟨((x187 ++ ([p0[(Int.toNat v172)]!])), a225, (n189 + 1), c226, v191, (v172 + 1)), hm.2, ⟨rfl, rfl, rfl, rfl, rfl, rfl, trivial⟩, ⟨hm.1, hB231, hS234⟩⟩
    · replace hm := hm.2 h183
      refine w_exit ?_
      exact ⟨(x167, a168, n169, c170, v171), ⟨rfl, rfl, rfl, trivial⟩, ⟨hm, hB178, hS179⟩⟩
  · rintro ⟨x160, a161, n162, c163, v164⟩ b_ w235 ⟨hm, hB236, hS237⟩
    show Wp _ _ _ _ (upds b_ [(1, .int .i64 p1), (5, .slice a161 n162 c163), (6, .bool v164)]) w235
    refine w_seq fun K238 hK238 => ?_
    refine w_seq fun K239 hK239 => ?_
    refine w_region ?_
    refine wl_val (g_move (v := .bool v164) rfl) rfl ?_
    refine wl_val (g_not (a := v164) rfl) rfl ?_
    refine wl_nil ?_
    refine hK239 _ _ ?_
    refine w_condI (p := ¬ (v164 = true)) (b := (!v164)) rfl (i_not Iff.rfl) (fun h240 => ?_) (fun h240 => ?_)
    · replace hm := hm.1 h240
      refine w_region ?_
      refine wl_val (g_move (v := .slice a161 n162 c163) rfl) rfl ?_
      refine wl_val (g_move (v := .int .i64 p1) rfl) rfl ?_
      refine wl_step rfl (q_lit1 (y := (p1 : Int)) SL35 rfl rfl (by decide) hS237) ?_
      rintro _ w241 ⟨a242, rfl, hS244, hE243⟩
      have hB246 := hB236.trans (Ext.stp hE243 hS237.base)
      have hS252 := hS244.f1
      obtain ⟨hg253, hm⟩ := hm
      refine wl_step rfl (q_append SL35 rfl rfl hS252 (oS.vw hS252.g1) hg253 (by decide)) ?_
      rintro _ w247 ⟨a248, c249, rfl, hS251, hb250⟩
      have hB254 := hB246.trans hb250
      refine wl_val (g_assign (v := .slice a248 (n162 + 1) c249) rfl) rfl ?_
      refine wl_nil ?_
      refine hK238 _ _ ?_
      refine w_seq fun K255 hK255 => ?_
      refine w_region ?_
      refine wl_val (g_move (v := .slice a248 (n162 + 1) c249) rfl) rfl ?_
      refine wl_val (g_assign (v := .slice a248 (n162 + 1) c249) rfl) rfl ?_
      refine wl_nil ?_
      refine hK255 _ _ ?_
      refine w_ret ?_
      have hS256 := hS251.f1
      have hS257 := hS256.tail
      repeat first | with_reducible refine q_then ?_ | with_reducible refine q_block ?_
      exact ret1 rfl (by decide) ⟨_, _, _, _, hm, rfl, toExt hB254, hS257⟩
    · replace hm := hm.2 h240
      refine w_skip ?_
      refine hK238 _ _ ?_
      refine w_seq fun K258 hK258 => ?_
      refine w_region ?_
      refine wl_val (g_move (v := .slice a161 n162 c163) rfl) rfl ?_
      refine wl_val (g_assign (v := .slice a161 n162 c163) rfl) rfl ?_
      refine wl_nil ?_
      refine hK258 _ _ ?_
      refine w_ret ?_
      repeat first | with_reducible refine q_then ?_ | with_reducible refine q_block ?_
      exact ret1 rfl (by decide) ⟨_, _, _, _, hm, rfl, toExt hB236, hS237⟩

theorem m_impl_TeachPuppet_fn {w : World} {a0 : Option Addr} {n0 c0 : Nat} {y0 : List PlayerD} {p0 : List PlayerC} {Q : (List PlayerC) → Bool → Prop} (hp0 : Tv w.heap.size w a0 n0 c0 y0 p0) (p1 : Int) (p2 : Int) (hm : m_impl_TeachPuppet p0 p1 p2 Q) :
    Fn Try.prog 51 #[.slice a0 n0 c0, .int .i64 p1, .int .i64 p2] w (fun v w' => ∃ (r0 : List PlayerC) (a0 : Option Addr) (n0 c0 : Nat) (y0 : List PlayerD) (r1 : Bool), Q r0 r1 ∧ ers y0 = r0 ∧ v = .tuple #[.slice a0 n0 c0, .bool r1] ∧ Ext w w' ∧ Sep w' w.heap.size [oS 61 a0 n0 c0 y0, oT 3 y0]) := by
  unfold m_impl_TeachPuppet at hm
  have hB0 := Below.refl w.heap.size w
  have hS0 : Sep w w.heap.size [] := Sep.nil (Nat.le_refl _)
  refine fn_of_wp Try.func51 rfl (by kernel_rfl) (Nat.le_of_ble_eq_true rfl) ?_
  refine w_seq fun K1 hK1 => ?_
  refine w_region ?_
  refine wl_val (g_assign (v := .slice none 0 0) rfl) rfl ?_
  refine wl_val (g_assign (v := .bool false) rfl) rfl ?_
  refine wl_nil ?_
  refine hK1 _ _ ?_
  refine w_seq fun K2 hK2 => ?_
  refine w_region ?_
  refine wl_val (g_move (v := .slice a0 n0 c0) rfl) rfl ?_
  refine wl_step rfl (g_call (vs := #[.slice a0 n0 c0]) CF69 (args1 rfl) (m_impl_copyPlayers_fn ((hp0.bel hB0).up hS0) hm)) ?_
  rintro _ w3 ⟨r6, a7, n8, c9, y10, hm, he11, rfl, hE4, hN5⟩
  have hS15 := hS0.call2 hE4 hN5
  have hB16 := hB0.trans (Ext.stp hE4 hS0.base)
  refine wl_val (g_assign (v := .slice a7 n8 c9) rfl) rfl ?_
  refine wl_nil ?_
  refine hK2 _ _ ?_
  refine w_seq fun K17 hK17 => ?_
  refine w_seq fun K18 hK18 => ?_
  refine w_region ?_
  refine wl_val (g_move (v := .slice a0 n0 c0) rfl) rfl ?_
  refine wl_step rfl (g_call (vs := #[.slice a0 n0 c0]) CF24 (args1 rfl) (m_impl_PlayersOk_fn ((hp0.bel hB16).up hS15) hm)) ?_
  rintro _ w19 ⟨r22, hm, rfl, hE20⟩
  have hB23 := hB16.trans (Ext.stp hE20 hS15.base)
  have hS24 := hS15.ext hE20
  refine wl_val (g_not (a := r22) rfl) rfl ?_
  refine wl_val (g_move (v := .bool (!r22)) rfl) rfl ?_
  refine wl_guard (c := (!r22) = false) (val := .int .i64 p1) (b := ((!r22) == false)) (gv_some rfl rfl rfl) beq_iff_eq (fun hc25 => ?_) ?_
  · have hq0 : ¬ (¬ (r22 = true)) := (i_neg (i_not Iff.rfl) hc25)
    exact g_move (v := .int .i64 p1) rfl
  refine wl_guard (c := (!r22) = false) (val := .slice a0 n0 c0) (b := ((!r22) == false)) (gv_some rfl rfl rfl) beq_iff_eq (fun hc26 => ?_) ?_
  · have hq0 : ¬ (¬ (r22 = true)) := (i_neg (i_not Iff.rfl) hc26)
    exact g_move (v := .slice a0 n0 c0) rfl
  refine wl_guard (c := (!r22) = false) (val := .int .i64 (p0.length : Int)) (b := ((!r22) == false)) (gv_some rfl rfl rfl) beq_iff_eq (fun hc27 => ?_) ?_
  · have hq0 : ¬ (¬ (r22 = true)) := (i_neg (i_not Iff.rfl) hc27)
    exact q_len SL30 (if_pos hc27) (Tv.len (hp0.bel hB23))
  obtain ⟨hg29, hm⟩ := hm
  refine wl_guard (c := (!r22) = false) (val := .int .i64 ((p0.length : Int) - 1)) (b := ((!r22) == false)) (gv_some rfl rfl rfl) beq_iff_eq (fun hc28 => ?_) ?_
  · have hq0 : ¬ (¬ (r22 = true)) := (i_neg (i_not Iff.rfl) hc28)
    exact g_sub (a := (p0.length : Int)) (b := 1) (if_pos hc28) rfl (hg29 hq0)
  obtain ⟨r31, hk32, hm⟩ := hm
  refine wl_guardE (X := Ext) (c := (!r22) = false) (val := .bool r31) (Ext.refl _) (b := ((!r22) == false)) (gv_some rfl rfl rfl) beq_iff_eq (fun hc30 => ?_) (fun w33 hE34 => ?_)
  · have hq0 : ¬ (¬ (r22 = true)) := (i_neg (i_not Iff.rfl) hc30)
    exact (g_call (vs := #[.int .i64 p1, .int .i64 0, .int .i64 ((p0.length : Int) - 1)]) CF62 (args3 (if_pos hc30) rfl (if_pos hc30)) ((m_impl_within_fn p1 0 ((p0.length : Int) - 1) (hk32 hq0)).mono fun _ _ ⟨_, h1, h2, h3⟩ => ⟨by rw [h2, h1], h3⟩))
  have hB35 := hB23.trans (Ext.stp hE34 hS24.base)
  have hS36 := hS24.ext hE34
  refine wl_guard (c := (!r22) = false) (val := .bool (!r31)) (b := ((!r22) == false)) (gv_some rfl rfl rfl) beq_iff_eq (fun hc37 => ?_) ?_
  · have hq0 : ¬ (¬ (r22 = true)) := (i_neg (i_not Iff.rfl) hc37)
    exact g_not (a := r31) (if_pos hc37)
  refine wl_val (g_pick_or (b := (!r22)) (q := (!r31)) rfl rfl) rfl ?_
  refine wl_val (g_move (v := .bool ((!r22) || (!r31))) rfl) rfl ?_
  refine wl_guard (c := ((!r22) || (!r31)) = false) (val := .int .i64 p2) (b := (((!r22) || (!r31)) == false)) (gv_some rfl rfl rfl) beq_iff_eq (fun hc38 => ?_) ?_
  · have hq1 : ¬ (((¬ (r22 = true)) ∨ (¬ (r31 = true)))) := (i_neg (i_or (i_not Iff.rfl) (i_not Iff.rfl)) hc38)
    exact g_move (v := .int .i64 p2) rfl
  obtain ⟨r40, hk41, hm⟩ := hm
  refine wl_guardE (X := Ext) (c := ((!r22) || (!r31)) = false) (val := .bool r40) (Ext.refl _) (b := (((!r22) || (!r31)) == false)) (gv_some rfl rfl rfl) beq_iff_eq (fun hc39 => ?_) (fun w42 hE43 => ?_)
  · have hq1 : ¬ (((¬ (r22 = true)) ∨ (¬ (r31 = true)))) := (i_neg (i_or (i_not Iff.rfl) (i_not Iff.rfl)) hc39)
    exact (g_call (vs := #[.int .i64 p2, .int .i64 0, .int .i64 6]) CF62 (args3 (if_pos hc39) rfl rfl) ((m_impl_within_fn p2 0 6 (hk41 hq1)).mono fun _ _ ⟨_, h1, h2, h3⟩ => ⟨by rw [h2, h1], h3⟩))
  have hB44 := hB35.trans (Ext.stp hE43 hS36.base)
  have hS45 := hS36.ext hE43
  refine wl_guard (c := ((!r22) || (!r31)) = false) (val := .bool (!r40)) (b := (((!r22) || (!r31)) == false)) (gv_some rfl rfl rfl) beq_iff_eq (fun hc46 => ?_) ?_
  · have hq1 : ¬ (((¬ (r22 = true)) ∨ (¬ (r31 = true)))) := (i_neg (i_or (i_not Iff.rfl) (i_not Iff.rfl)) hc46)
    exact g_not (a := r40) (if_pos hc46)
  refine wl_val (g_pick_or (b := ((!r22) || (!r31))) (q := (!r40)) rfl rfl) rfl ?_
  refine wl_val (g_move (v := .bool (((!r22) || (!r31)) || (!r40))) rfl) rfl ?_
  refine wl_guard (c := (((!r22) || (!r31)) || (!r40)) = false) (val := .slice a0 n0 c0) (b := ((((!r22) || (!r31)) || (!r40)) == false)) (gv_some rfl rfl rfl) beq_iff_eq (fun hc47 => ?_) ?_
  · have hq2 : ¬ (((((¬ (r22 = true)) ∨ (¬ (r31 = true)))) ∨ (¬ (r40 = true)))) := (i_neg (i_or (i_or (i_not Iff.rfl) (i_not Iff.rfl)) (i_not Iff.rfl)) hc47)
    exact g_move (v := .slice a0 n0 c0) rfl
  refine wl_guard (c := (((!r22) || (!r31)) || (!r40)) = false) (val := .int .i64 p1) (b := ((((!r22) || (!r31)) || (!r40)) == false)) (gv_some rfl rfl rfl) beq_iff_eq (fun hc48 => ?_) ?_
  · have hq2 : ¬ (((((¬ (r22 = true)) ∨ (¬ (r31 = true)))) ∨ (¬ (r40 = true)))) := (i_neg (i_or (i_or (i_not Iff.rfl) (i_not Iff.rfl)) (i_not Iff.rfl)) hc48)
    exact g_move (v := .int .i64 p1) rfl
  obtain ⟨hg50, hm⟩ := hm
  refine wl_guard (c := (((!r22) || (!r31)) || (!r40)) = false) (val := .pointer (some ((adr a0).add ((Int.toNat p1) * El.m PlayerD)))) (b := ((((!r22) || (!r31)) || (!r40)) == false)) (gv_some rfl rfl rfl) beq_iff_eq (fun hc49 => ?_) ?_
  · have hq2 : ¬ (((((¬ (r22 = true)) ∨ (¬ (r31 = true)))) ∨ (¬ (r40 = true)))) := (i_neg (i_or (i_or (i_not Iff.rfl) (i_not Iff.rfl)) (i_not Iff.rfl)) hc49)
    exact q_index (i := p1) SL30 (if_pos hc49) (if_pos hc49) (Tv.o (hp0.bel hB44)) (Tv.g (hp0.bel hB44) (hg50 hq2))
  refine wl_guard (c := (((!r22) || (!r31)) || (!r40)) = false) (val := .pointer (some (((adr a0).add ((Int.toNat p1) * El.m PlayerD)).add 0))) (b := ((((!r22) || (!r31)) || (!r40)) == false)) (gv_some rfl rfl rfl) beq_iff_eq (fun hc51 => ?_) ?_
  · have hq2 : ¬ (((((¬ (r22 = true)) ∨ (¬ (r31 = true)))) ∨ (¬ (r40 = true)))) := (i_neg (i_or (i_or (i_not Iff.rfl) (i_not Iff.rfl)) (i_not Iff.rfl)) hc51)
    exact g_fieldAddr (q := (adr a0).add ((Int.toNat p1) * El.m PlayerD)) FL61_0 ON35 (if_pos hc51)
  refine wl_guard (c := (((!r22) || (!r31)) || (!r40)) = false) (val := .slice ((y0[(Int.toNat p1)]!).1.1) ((y0[(Int.toNat p1)]!).1.2.2.length) ((y0[(Int.toNat p1)]!).1.2.1)) (b := ((((!r22) || (!r31)) || (!r40)) == false)) (gv_some rfl rfl rfl) beq_iff_eq (fun hc52 => ?_) ?_
  · have hq2 : ¬ (((((¬ (r22 = true)) ∨ (¬ (r31 = true)))) ∨ (¬ (r40 = true)))) := (i_neg (i_or (i_or (i_not Iff.rfl) (i_not Iff.rfl)) (i_not Iff.rfl)) hc52)
    exact q_loadF (i := p1) (j := 0) (v := .slice ((y0[(Int.toNat p1)]!).1.1) ((y0[(Int.toNat p1)]!).1.2.2.length) ((y0[(Int.toNat p1)]!).1.2.1)) ON35 (Tv.o (hp0.bel hB44)) (Tv.g (hp0.bel hB44) (hg50 hq2)) rfl (if_pos hc52)
  refine wl_guard (c := (((!r22) || (!r31)) || (!r40)) = false) (val := .int .i64 p2) (b := ((((!r22) || (!r31)) || (!r40)) == false)) (gv_some rfl rfl rfl) beq_iff_eq (fun hc53 => ?_) ?_
  · have hq2 : ¬ (((((¬ (r22 = true)) ∨ (¬ (r31 = true)))) ∨ (¬ (r40 = true)))) := (i_neg (i_or (i_or (i_not Iff.rfl) (i_not Iff.rfl)) (i_not Iff.rfl)) hc53)
    exact g_move (v := .int .i64 p2) rfl
  obtain ⟨r55, hk56, hm⟩ := hm
  refine wl_guardE (X := Ext) (c := (((!r22) || (!r31)) || (!r40)) = false) (val := .int .i64 r55) (Ext.refl _) (b := ((((!r22) || (!r31)) || (!r40)) == false)) (gv_some rfl rfl rfl) beq_iff_eq (fun hc54 => ?_) (fun w57 hE58 => ?_)
  · have hq2 : ¬ (((((¬ (r22 = true)) ∨ (¬ (r31 = true)))) ∨ (¬ (r40 = true)))) := (i_neg (i_or (i_or (i_not Iff.rfl) (i_not Iff.rfl)) (i_not Iff.rfl)) hc54)
    exact (g_call (vs := #[.slice ((y0[(Int.toNat p1)]!).1.1) ((y0[(Int.toNat p1)]!).1.2.2.length) ((y0[(Int.toNat p1)]!).1.2.1), .int .i64 p2]) CF67 (args2 (if_pos hc54) (if_pos hc54)) ((m_impl_indexOf_fn ((Tv.rowP (hp0.bel hB44) (hg50 hq2)).up hS45) p2 (hk56 hq2)).mono fun _ _ ⟨_, h1, h2, h3⟩ => ⟨by rw [h2, h1], h3⟩))
  have hB59 := hB44.trans (Ext.stp hE58 hS45.base)
  have hS60 := hS45.ext hE58
  refine wl_guard (c := (((!r22) || (!r31)) || (!r40)) = false) (val := .bool (decide (r55 ≥ 0))) (b := ((((!r22) || (!r31)) || (!r40)) == false)) (gv_some rfl rfl rfl) beq_iff_eq (fun hc61 => ?_) ?_
  · have hq2 : ¬ (((((¬ (r22 = true)) ∨ (¬ (r31 = true)))) ∨ (¬ (r40 = true)))) := (i_neg (i_or (i_or (i_not Iff.rfl) (i_not Iff.rfl)) (i_not Iff.rfl)) hc61)
    exact g_geq (a := r55) (b := 0) (if_pos hc61) rfl
  refine wl_val (g_pick_or (b := (((!r22) || (!r31)) || (!r40))) (q := (decide (r55 ≥ 0))) rfl rfl) rfl ?_
  refine wl_nil ?_
  refine hK18 _ _ ?_
  refine w_condI (p := ((((((¬ (r22 = true)) ∨ (¬ (r31 = true)))) ∨ (¬ (r40 = true)))) ∨ (r55 ≥ 0))) (b := ((((!r22) || (!r31)) || (!r40)) || (decide (r55 ≥ 0)))) rfl (i_or (i_or (i_or (i_not Iff.rfl) (i_not Iff.rfl)) (i_not Iff.rfl)) decide_eq_true_iff) (fun h62 => ?_) (fun h62 => ?_)
  · replace hm := hm.1 h62
    refine w_seq fun K63 hK63 => ?_
    refine w_region ?_
    refine wl_val (g_move (v := .slice a7 n8 c9) rfl) rfl ?_
    refine wl_val (g_assign (v := .slice a7 n8 c9) rfl) rfl ?_
    refine wl_val (g_assign (v := .bool false) rfl) rfl ?_
    refine wl_nil ?_
    refine hK63 _ _ ?_
    refine w_ret ?_
    repeat first | with_reducible refine q_then ?_ | with_reducible refine q_block ?_
    exact ret2 rfl (by decide) (by decide) ⟨_, _, _, _, _, _, hm, he11, rfl, toExt hB59, hS60⟩
  · replace hm := hm.2 h62
    refine w_skip ?_
    refine hK17 _ _ ?_
    refine w_seq fun K64 hK64 => ?_
    refine w_region ?_
    refine wl_val (g_move (v := .slice a7 n8 c9) rfl) rfl ?_
    refine wl_val (g_move (v := .int .i64 p1) rfl) rfl ?_
    refine wl_val (g_move (v := .slice a0 n0 c0) rfl) rfl ?_
    refine wl_val (g_move (v := .int .i64 p1) rfl) rfl ?_
    obtain ⟨hg65, hm⟩ := hm
    refine wl_val (q_index (i := p1) SL30 rfl rfl (Tv.o (hp0.bel hB59)) (Tv.g (hp0.bel hB59) hg65)) rfl ?_
    refine wl_val (g_fieldAddr (q := (adr a0).add ((Int.toNat p1) * El.m PlayerD)) FL61_0 ON35 rfl) rfl ?_
    refine wl_val (q_loadF (i := p1) (j := 0) (v := .slice ((y0[(Int.toNat p1)]!).1.1) ((y0[(Int.toNat p1)]!).1.2.2.length) ((y0[(Int.toNat p1)]!).1.2.1)) ON35 (Tv.o (hp0.bel hB59)) (Tv.g (hp0.bel hB59) hg65) rfl rfl) rfl ?_
    refine wl_val (g_move (v := .int .i64 p2) rfl) rfl ?_
    refine wl_step rfl (g_call (vs := #[.slice ((y0[(Int.toNat p1)]!).1.1) ((y0[(Int.toNat p1)]!).1.2.2.length) ((y0[(Int.toNat p1)]!).1.2.1), .int .i64 p2]) CF72 (args2 rfl rfl) (m_impl_put_fn ((Tv.rowP (hp0.bel hB59) hg65).up hS60) p2 hm)) ?_
    rintro _ w66 ⟨r69, a70, n71, c72, hm, rfl, hE67, hN68⟩
    have hS74 := hS60.call1 hE67 hN68
    have hB75 := hB59.trans (Ext.stp hE67 hS60.base)
    obtain ⟨hg76, hm⟩ := hm
    refine wl_val (q_index (i := p1) SL30 rfl rfl (Tv.o (oT.vw hS74.g1 hS74.g2 he11)) (Tv.g (oT.vw hS74.g1 hS74.g2 he11) hg76)) rfl ?_
    refine wl_val (g_fieldAddr (q := (adr a7).add ((Int.toNat p1) * El.m PlayerD)) FL61_0 ON35 rfl) rfl ?_
    have hn80 := oS.len hS74.g0
    have hS81 := hS74.rowsPlayer ((y10)[(Int.toNat p1)]!.2)
    have hS83 := hS81.f1
    have hl84 : ix p1 (y10).length := by have h3 := congrArg List.length he11; simp only [ers, List.length_map] at h3; rw [h3]; exact hg76
    refine wl_step rfl (q_storeF (i := p1) (j := 0) (v := (((a70, c72, r69), (y10)[(Int.toNat p1)]!.2) : PlayerD)) hS83 ON35 hl84 rfl rfl rfl rfl (by decide) (by rw [hn80]; rfl)) ?_
    rintro _ w77 ⟨rfl, hS78, hb79⟩
    have hB85 := hB75.trans hb79
    have hl86 : (Int.toNat p1) < (y10).length := by have h1 := (hl84).1; have h2 := (hl84).2; omega
    have he87 : ers (y10.set (Int.toNat p1) (((a70, c72, r69), (y10)[(Int.toNat p1)]!.2) : PlayerD)) = (r6.set (Int.toNat p1) (r69, r6[(Int.toNat p1)]!.2)) := ers_set he11 (by first | rfl | (rw [← he11, er_get hl86]; rfl)) _
    have hS88 := hS78.f2
    have hS89 := hS88.f2
    have hS90 := hS89.setRows hl86
    refine wl_nil ?_
    refine hK64 _ _ ?_
    refine w_seq fun K91 hK91 => ?_
    refine w_region ?_
    refine wl_val (g_move (v := .slice a7 n8 c9) rfl) rfl ?_
    refine wl_val (g_assign (v := .slice a7 n8 c9) rfl) rfl ?_
    refine wl_val (g_assign (v := .bool true) rfl) rfl ?_
    refine wl_nil ?_
    refine hK91 _ _ ?_
    refine w_ret ?_
    have hS92 := hS90.f1
    repeat first | with_reducible refine q_then ?_ | with_reducible refine q_block ?_
    exact ret2 rfl (by decide) (by decide) ⟨_, _, _, _, _, _, hm, he87, rfl, toExt hB85, hS92⟩

theorem m_spec_ShortSet_fn {w : World} {a0 : Option Addr} {n0 c0 : Nat} {y0 : List PlayerD} {p0 : List PlayerC} {a1 : Option Addr} {n1 c1 : Nat} {p1 : List Int} {Q : (List Int) → Bool → Prop} (hp0 : Tv w.heap.size w a0 n0 c0 y0 p0) (hp1 : Vw w.heap.size w a1 n1 c1 p1) (hm : m_spec_ShortSet p0 p1 Q) :
    Fn Try.prog 52 #[.slice a0 n0 c0, .slice a1 n1 c1] w (fun v w' => ∃ (r0 : List Int) (a0 : Option Addr) (n0 c0 : Nat) (r1 : Bool), Q r0 r1 ∧ v = .tuple #[.slice a0 n0 c0, .bool r1] ∧ Ext w w' ∧ Sep w' w.heap.size [oS 3 a0 n0 c0 r0]) := by
  unfold m_spec_ShortSet at hm
  have hB0 := Below.refl w.heap.size w
  have hS0 : Sep w w.heap.size [] := Sep.nil (Nat.le_refl _)
  refine fn_of_wp Try.func52 rfl (by kernel_rfl) (Nat.le_of_ble_eq_true rfl) ?_
  refine w_seq fun K1 hK1 => ?_
  refine w_region ?_
  refine wl_val (g_assign (v := .slice none 0 0) rfl) rfl ?_
  refine wl_val (g_assign (v := .bool false) rfl) rfl ?_
  refine wl_nil ?_
  refine hK1 _ _ ?_
  refine w_seq fun K2 hK2 => ?_
  refine w_seq fun K3 hK3 => ?_
  refine w_region ?_
  refine wl_val (g_move (v := .slice a0 n0 c0) rfl) rfl ?_
  refine wl_val (g_move (v := .slice a1 n1 c1) rfl) rfl ?_
  refine wl_step rfl (g_call (vs := #[.slice a0 n0 c0, .slice a1 n1 c1]) CF64 (args2 rfl rfl) (m_spec_l14Ok_fn ((hp0.bel hB0).up hS0) ((hp1.bel hB0).up hS0) hm)) ?_
  rintro _ w4 ⟨r7, hm, rfl, hE5⟩
  have hB8 := hB0.trans (Ext.stp hE5 hS0.base)
  have hS9 := hS0.ext hE5
  refine wl_val (g_not (a := r7) rfl) rfl ?_
  refine wl_nil ?_
  refine hK3 _ _ ?_
  refine w_condI (p := ¬ (r7 = true)) (b := (!r7)) rfl (i_not Iff.rfl) (fun h10 => ?_) (fun h10 => ?_)
  · replace hm := hm.1 h10
    refine w_seq fun K11 hK11 => ?_
    refine w_region ?_
    refine wl_step rfl (q_lit0 (α := Int) rfl SL35 hS9) ?_
    rintro _ w12 ⟨a13, rfl, hS15, hE14⟩
    have hB17 := hB8.trans (Ext.stp hE14 hS9.base)
    refine wl_val (g_assign (v := .slice a13 0 0) rfl) rfl ?_
    refine wl_val (g_assign (v := .bool false) rfl) rfl ?_
    refine wl_nil ?_
    refine hK11 _ _ ?_
    refine w_ret ?_
    repeat first | with_reducible refine q_then ?_ | with_reducible refine q_block ?_
    exact ret2 rfl (by decide) (by decide) ⟨_, _, _, _, _, hm, rfl, toExt hB17, hS15⟩
  · replace hm := hm.2 h10
    refine w_skip ?_
    refine hK2 _ _ ?_
    refine w_cut (σ := Unit) (fun _ => []) (fun _ w' => m_spec_ShortSet_K0 Q ∧ Below w.heap.size w w' ∧ Sep w' w.heap.size []) ?_ ?_
    · refine w_seq fun K19 hK19 => ?_
      refine w_region ?_
      refine wl_val (g_assign (v := .int .i64 0) rfl) rfl ?_
      refine wl_nil ?_
      refine hK19 _ _ ?_
      refine w_block ?_
      obtain ⟨I56, μ57, h058, hr59⟩ := hm
      refine w_for (σ := Int) (fun v55 => [(0, .slice a0 n0 c0), (1, .slice a1 n1 c1), (6, .int .i64 v55)]) (fun v55 w' => I56 v55 ∧ Below w.heap.size w w' ∧ Sep w' w.heap.size []) (fun v55 => μ57 v55) (0) ⟨rfl, rfl, rfl, trivial⟩ ⟨h058, hB8, hS9⟩ ?_
      rintro v55 b_ w60 ⟨hi_, hB61, hS62⟩
      show Wp _ _ _ _ (upds b_ [(0, .slice a0 n0 c0), (1, .slice a1 n1 c1), (6, .int .i64 v55)]) w60
      have hm := hr59 v55 hi_
      refine w_seq fun K64 hK64 => ?_
      refine w_seq fun K65 hK65 => ?_
      refine w_region ?_
      refine wl_val (g_move (v := .int .i64 v55) rfl) rfl ?_
      refine wl_val (g_move (v := .slice a1 n1 c1) rfl) rfl ?_
      refine wl_val (q_len SL35 rfl (Vw.len (hp1.bel hB61))) rfl ?_
      obtain ⟨hg66, hm⟩ := hm
      obtain ⟨hg67, hm⟩ := hm
      refine wl_val (g_shl (a := 1) (b := (p1.length : Int)) rfl rfl hg66 hg67) rfl ?_
      refine wl_val (g_lss (a := v55) (b := (sal 1 (p1.length : Int))) rfl rfl) rfl ?_
      refine wl_nil ?_
      refine hK65 _ _ ?_
      refine w_condI (p := v55 < (sal 1 (p1.length : Int))) (b := (decide (v55 < (sal 1 (p1.length : Int))))) rfl decide_eq_true_iff (fun h68 => ?_) (fun h68 => ?_)
      · replace hm := hm.1 h68
        refine w_skip ?_
        refine hK64 _ _ ?_
        refine w_seq fun K69 hK69 => ?_
        refine w_block ?_
        refine w_seq fun K70 hK70 => ?_
        refine w_region ?_
        refine wl_val (g_move (v := .slice a1 n1 c1) rfl) rfl ?_
        refine wl_val (g_move (v := .int .i64 v55) rfl) rfl ?_
        refine wl_step rfl (g_call (vs := #[.slice a1 n1 c1, .int .i64 v55]) CF70 (args2 rfl rfl) (m_spec_l14Part_fn ((hp1.bel hB61).up hS62) v55 hm)) ?_
        rintro _ w71 ⟨r74, a75, n76, c77, hm, rfl, hE72, hN73⟩
        have hS79 := hS62.call1 hE72 hN73
        have hB80 := hB61.trans (Ext.stp hE72 hS62.base)
        refine wl_val (g_assign (v := .slice a75 n76 c77) rfl) rfl ?_
        refine wl_nil ?_
        refine hK70 _ _ ?_
        refine w_seq fun K81 hK81 => ?_
        refine w_region ?_
        refine wl_val (g_move (v := .slice a0 n0 c0) rfl) rfl ?_
        refine wl_val (g_move (v := .slice a75 n76 c77) rfl) rfl ?_
        refine wl_step rfl (g_call (vs := #[.slice a0 n0 c0, .slice a75 n76 c77]) CF39 (args2 rfl rfl) (m_spec_IsShort_fn ((hp0.bel hB80).up hS79) (oS.vw hS79.g0) hm)) ?_
        rintro _ w82 ⟨r85, hm, rfl, hE83⟩
        have hB86 := hB80.trans (Ext.stp hE83 hS79.base)
        have hS87 := hS79.ext hE83
        refine wl_nil ?_
        refine hK81 _ _ ?_
        refine w_condI (p := r85 = true) (b := r85) rfl Iff.rfl (fun h88 => ?_) (fun h88 => ?_)
        · replace hm := hm.1 h88
          refine w_seq fun K89 hK89 => ?_
          refine w_region ?_
          refine wl_val (g_move (v := .slice a75 n76 c77) rfl) rfl ?_
          refine wl_val (g_assign (v := .slice a75 n76 c77) rfl) rfl ?_
          refine wl_val (g_assign (v := .bool true) rfl) rfl ?_
          refine wl_nil ?_
          refine hK89 _ _ ?_
          refine w_ret ?_
          repeat first | with_reducible refine q_then ?_ | with_reducible refine q_block ?_
          exact ret2 rfl (by decide) (by decide) ⟨_, _, _, _, _, hm, rfl, toExt hB86, hS87⟩
        · replace hm := hm.2 h88
          refine w_skip ?_
          refine hK69 _ _ ?_
          refine w_region ?_
          refine wl_val (g_move (v := .int .i64 v55) rfl) rfl ?_
          obtain ⟨hg90, hm⟩ := hm
          refine wl_val (g_add (a := v55) (b := 1) rfl rfl hg90) rfl ?_
          refine wl_val (g_assign (v := .int .i64 (v55 + 1)) rfl) rfl ?_
          refine wl_nil ?_
          have hS91 := hS87.tail
          exact ⟨((v55 + 1)), hm.2, ⟨rfl, rfl, rfl, trivial⟩, ⟨hm.1, hB86, hS91⟩⟩
      · replace hm := hm.2 h68
        refine w_exit ?_
        exact ⟨(), trivial, ⟨hm, hB61, hS62⟩⟩
    · rintro _ b_ w92 ⟨hm, hB93, hS94⟩
      show Wp _ _ _ _ (upds b_ []) w92
      refine w_seq fun K95 hK95 => ?_
      refine w_region ?_
      refine wl_step rfl (q_lit0 (α := Int) rfl SL35 hS94) ?_
      rintro _ w96 ⟨a97, rfl, hS99, hE98⟩
      have hB101 := hB93.trans (Ext.stp hE98 hS94.base)
      refine wl_val (g_assign (v := .slice a97 0 0) rfl) rfl ?_
      refine wl_val (g_assign (v := .bool false) rfl) rfl ?_
      refine wl_nil ?_
      refine hK95 _ _ ?_
      refine w_ret ?_
      repeat first | with_reducible refine q_then ?_ | with_reducible refine q_block ?_
      exact ret2 rfl (by decide) (by decide) ⟨_, _, _, _, _, hm, rfl, toExt hB101, hS99⟩

theorem m_impl_ShortSet_fn {w : World} {a0 : Option Addr} {n0 c0 : Nat} {y0 : List PlayerD} {p0 : List PlayerC} {a1 : Option Addr} {n1 c1 : Nat} {p1 : List Int} {Q : (List Int) → Bool → Prop} (hp0 : Tv w.heap.size w a0 n0 c0 y0 p0) (hp1 : Vw w.heap.size w a1 n1 c1 p1) (hm : m_impl_ShortSet p0 p1 Q) :
    Fn Try.prog 53 #[.slice a0 n0 c0, .slice a1 n1 c1] w (fun v w' => ∃ (r0 : List Int) (a0 : Option Addr) (n0 c0 : Nat) (r1 : Bool), Q r0 r1 ∧ v = .tuple #[.slice a0 n0 c0, .bool r1] ∧ Ext w w' ∧ Sep w' w.heap.size [oS 3 a0 n0 c0 r0]) := by
  unfold m_impl_ShortSet at hm
  have hB0 := Below.refl w.heap.size w
  have hS0 : Sep w w.heap.size [] := Sep.nil (Nat.le_refl _)
  refine fn_of_wp Try.func53 rfl (by kernel_rfl) (Nat.le_of_ble_eq_true rfl) ?_
  refine w_seq fun K1 hK1 => ?_
  refine w_region ?_
  refine wl_val (g_assign (v := .slice none 0 0) rfl) rfl ?_
  refine wl_val (g_assign (v := .bool false) rfl) rfl ?_
  refine wl_nil ?_
  refine hK1 _ _ ?_
  refine w_seq fun K2 hK2 => ?_
  refine w_seq fun K3 hK3 => ?_
  refine w_region ?_
  refine wl_val (g_move (v := .slice a0 n0 c0) rfl) rfl ?_
  refine wl_step rfl (g_call (vs := #[.slice a0 n0 c0]) CF24 (args1 rfl) (m_impl_PlayersOk_fn ((hp0.bel hB0).up hS0) hm)) ?_
  rintro _ w4 ⟨r7, hm, rfl, hE5⟩
  have hB8 := hB0.trans (Ext.stp hE5 hS0.base)
  have hS9 := hS0.ext hE5
  refine wl_val (g_not (a := r7) rfl) rfl ?_
  refine wl_val (g_move (v := .bool (!r7)) rfl) rfl ?_
  refine wl_guard (c := (!r7) = false) (val := .slice a1 n1 c1) (b := ((!r7) == false)) (gv_some rfl rfl rfl) beq_iff_eq (fun hc10 => ?_) ?_
  · have hq0 : ¬ (¬ (r7 = true)) := (i_neg (i_not Iff.rfl) hc10)
    exact g_move (v := .slice a1 n1 c1) rfl
  obtain ⟨r12, hk13, hm⟩ := hm
  refine wl_guardE (X := Ext) (c := (!r7) = false) (val := .bool r12) (Ext.refl _) (b := ((!r7) == false)) (gv_some rfl rfl rfl) beq_iff_eq (fun hc11 => ?_) (fun w14 hE15 => ?_)
  · have hq0 : ¬ (¬ (r7 = true)) := (i_neg (i_not Iff.rfl) hc11)
    exact (g_call (vs := #[.slice a1 n1 c1]) CF66 (args1 (if_pos hc11)) ((m_impl_arePuppets_fn ((hp1.bel hB8).up hS9) (hk13 hq0)).mono fun _ _ ⟨_, h1, h2, h3⟩ => ⟨by rw [h2, h1], h3⟩))
  have hB16 := hB8.trans (Ext.stp hE15 hS9.base)
  have hS17 := hS9.ext hE15
  refine wl_guard (c := (!r7) = false) (val := .bool (!r12)) (b := ((!r7) == false)) (gv_some rfl rfl rfl) beq_iff_eq (fun hc18 => ?_) ?_
  · have hq0 : ¬ (¬ (r7 = true)) := (i_neg (i_not Iff.rfl) hc18)
    exact g_not (a := r12) (if_pos hc18)
  refine wl_val (g_pick_or (b := (!r7)) (q := (!r12)) rfl rfl) rfl ?_
  refine wl_nil ?_
  refine hK3 _ _ ?_
  refine w_condI (p := ((¬ (r7 = true)) ∨ (¬ (r12 = true)))) (b := ((!r7) || (!r12))) rfl (i_or (i_not Iff.rfl) (i_not Iff.rfl)) (fun h19 => ?_) (fun h19 => ?_)
  · replace hm := hm.1 h19
    refine w_seq fun K20 hK20 => ?_
    refine w_region ?_
    refine wl_val (g_assign (v := .slice none 0 0) rfl) rfl ?_
    refine wl_val (g_assign (v := .bool false) rfl) rfl ?_
    refine wl_nil ?_
    refine hK20 _ _ ?_
    refine w_ret ?_
    have hS21 := hS17.nilS (α := Int) (E := 3)
    repeat first | with_reducible refine q_then ?_ | with_reducible refine q_block ?_
    exact ret2 rfl (by decide) (by decide) ⟨_, _, _, _, _, hm, rfl, toExt hB16, hS21⟩
  · replace hm := hm.2 h19
    refine w_skip ?_
    refine hK2 _ _ ?_
    refine w_cut (σ := Unit) (fun _ => []) (fun _ w' => m_impl_ShortSet_K0 Q ∧ Below w.heap.size w w' ∧ Sep w' w.heap.size []) ?_ ?_
    · refine w_seq fun K24 hK24 => ?_
      refine w_region ?_
      refine wl_val (g_move (v := .slice a1 n1 c1) rfl) rfl ?_
      refine wl_val (q_len SL35 rfl (Vw.len (hp1.bel hB16))) rfl ?_
      obtain ⟨hg25, hm⟩ := hm
      obtain ⟨hg26, hm⟩ := hm
      refine wl_val (g_shl (a := 1) (b := (p1.length : Int)) rfl rfl hg25 hg26) rfl ?_
      refine wl_val (g_move (v := .int .i64 0) rfl) rfl ?_
      refine wl_nil ?_
      refine hK24 _ _ ?_
      refine w_block ?_
      obtain ⟨I62, μ63, h064, hr65⟩ := hm
      refine w_for (σ := Int) (fun v61 => [(0, .slice a0 n0 c0), (1, .slice a1 n1 c1), (18, .int .i64 (sal 1 (p1.length : Int))), (19, .int .i64 v61)]) (fun v61 w' => I62 v61 ∧ Below w.heap.size w w' ∧ Sep w' w.heap.size []) (fun v61 => μ63 v61) (0) ⟨rfl, rfl, rfl, rfl, trivial⟩ ⟨h064, hB16, hS17⟩ ?_
      rintro v61 b_ w66 ⟨hi_, hB67, hS68⟩
      show Wp _ _ _ _ (upds b_ [(0, .slice a0 n0 c0), (1, .slice a1 n1 c1), (18, .int .i64 (sal 1 (p1.length : Int))), (19, .int .i64 v61)]) w66
      have hm := hr65 v61 hi_
      refine w_seq fun K70 hK70 => ?_
      refine w_region ?_
      refine wl_val (g_lss (a := v61) (b := (sal 1 (p1.length : Int))) rfl rfl) rfl ?_
      refine wl_nil ?_
      refine hK70 _ _ ?_
      refine w_seq fun K71 hK71 => ?_
      refine w_condI (p := v61 < (sal 1 (p1.length : Int))) (b := (decide (v61 < (sal 1 (p1.length : Int))))) rfl decide_eq_true_iff (fun h72 => ?_) (fun h72 => ?_)
      · replace hm := hm.1 h72
        refine w_skip ?_
        refine hK71 _ _ ?_
        refine w_seq fun K73 hK73 => ?_
        refine w_block ?_
        refine w_seq fun K74 hK74 => ?_
        refine w_region ?_
        refine wl_val (g_move (v := .int .i64 v61) rfl) rfl ?_
        refine wl_val (g_assign (v := .int .i64 v61) rfl) rfl ?_
        refine wl_nil ?_
        refine hK74 _ _ ?_
        refine w_seq fun K75 hK75 => ?_
        refine w_region ?_
        refine wl_val (g_move (v := .slice a1 n1 c1) rfl) rfl ?_
        refine wl_val (g_move (v := .int .i64 v61) rfl) rfl ?_
        refine wl_step rfl (g_call (vs := #[.slice a1 n1 c1, .int .i64 v61]) CF71 (args2 rfl rfl) (m_impl_subset_fn ((hp1.bel hB67).up hS68) v61 hm)) ?_
        rintro _ w76 ⟨r79, a80, n81, c82, hm, rfl, hE77, hN78⟩
        have hS84 := hS68.call1 hE77 hN78
        have hB85 := hB67.trans (Ext.stp hE77 hS68.base)
        refine wl_val (g_assign (v := .slice a80 n81 c82) rfl) rfl ?_
        refine wl_nil ?_
        refine hK75 _ _ ?_
        refine w_seq fun K86 hK86 => ?_
        refine w_region ?_
        refine wl_val (g_move (v := .slice a0 n0 c0) rfl) rfl ?_
        refine wl_val (g_move (v := .slice a80 n81 c82) rfl) rfl ?_
        refine wl_step rfl (g_call (vs := #[.slice a0 n0 c0, .slice a80 n81 c82]) CF40 (args2 rfl rfl) (m_impl_IsShort_fn ((hp0.bel hB85).up hS84) (oS.vw hS84.g0) hm)) ?_
        rintro _ w87 ⟨r90, hm, rfl, hE88⟩
        have hB91 := hB85.trans (Ext.stp hE88 hS84.base)
        have hS92 := hS84.ext hE88
        refine wl_nil ?_
        refine hK86 _ _ ?_
        refine w_condI (p := r90 = true) (b := r90) rfl Iff.rfl (fun h93 => ?_) (fun h93 => ?_)
        · replace hm := hm.1 h93
          refine w_seq fun K94 hK94 => ?_
          refine w_region ?_
          refine wl_val (g_move (v := .slice a80 n81 c82) rfl) rfl ?_
          refine wl_val (g_assign (v := .slice a80 n81 c82) rfl) rfl ?_
          refine wl_val (g_assign (v := .bool true) rfl) rfl ?_
          refine wl_nil ?_
          refine hK94 _ _ ?_
          refine w_ret ?_
          repeat first | with_reducible refine q_then ?_ | with_reducible refine q_block ?_
          exact ret2 rfl (by decide) (by decide) ⟨_, _, _, _, _, hm, rfl, toExt hB91, hS92⟩
        · replace hm := hm.2 h93
          refine w_skip ?_
          refine hK73 _ _ ?_
          refine w_region ?_
          obtain ⟨hg95, hm⟩ := hm
          refine wl_val (g_add (a := v61) (b := 1) rfl rfl hg95) rfl ?_
          refine wl_val (g_move (v := .int .i64 (v61 + 1)) rfl) rfl ?_
          refine wl_nil ?_
          have hS96 := hS92.tail
          exact ⟨((v61 + 1)), hm.2, ⟨rfl, rfl, rfl, rfl, trivial⟩, ⟨hm.1, hB91, hS96⟩⟩
      · replace hm := hm.2 h72
        refine w_exit ?_
        exact ⟨(), trivial, ⟨hm, hB67, hS68⟩⟩
    · rintro _ b_ w97 ⟨hm, hB98, hS99⟩
      show Wp _ _ _ _ (upds b_ []) w97
      refine w_seq fun K100 hK100 => ?_
      refine w_region ?_
      refine wl_val (g_assign (v := .slice none 0 0) rfl) rfl ?_
      refine wl_val (g_assign (v := .bool false) rfl) rfl ?_
      refine wl_nil ?_
      refine hK100 _ _ ?_
      refine w_ret ?_
      have hS101 := hS99.nilS (α := Int) (E := 3)
      repeat first | with_reducible refine q_then ?_ | with_reducible refine q_block ?_
      exact ret2 rfl (by decide) (by decide) ⟨_, _, _, _, _, hm, rfl, toExt hB98, hS101⟩

end Go.Proofs.Ythmlfpfebdnpcaa
