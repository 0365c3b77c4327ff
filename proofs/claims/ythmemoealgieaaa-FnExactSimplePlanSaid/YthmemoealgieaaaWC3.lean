/- The walks: the code does what its model says. Printed by a program (gen2.py). No statement of the claim stands here. -/
import Derived.Test.YthmemoealgieaaaSop
import Derived.Test.YthmemoealgieaaaFacts
import Derived.Test.YthmemoealgieaaaMC
import Derived.Test.YthmemoealgieaaaWC1
import Derived.Test.YthmemoealgieaaaWC2
namespace Go.Proofs.Ythmemoealgieaaa
open Go Go.RowKit
set_option maxRecDepth 100000
theorem m_spec_PlayTime_fn {w : World} {a0 : Option Addr} {n0 c0 : Nat} {y0 : List CueD} {p0 : List CueC} {Q : Int → Prop} (hp0 : Tv w.heap.size w a0 n0 c0 y0 p0) (hm : m_spec_PlayTime p0 Q) :
    Fn Try.prog 47 #[.slice a0 n0 c0] w (fun v w' => ∃ (r0 : Int), Q r0 ∧ v = .int .i64 r0 ∧ Ext w w') := by
  unfold m_spec_PlayTime at hm
  have hB0 := Below.refl w.heap.size w
  have hS0 : Sep w w.heap.size [] := Sep.nil (Nat.le_refl _)
  refine fn_of_wp Try.func47 rfl (by kernel_rfl) (Nat.le_of_ble_eq_true rfl) ?_
  refine w_seq fun K1 hK1 => ?_
  refine w_region ?_
  refine wl_val (g_assign (v := .int .i64 0) rfl) rfl ?_
  refine wl_nil ?_
  refine hK1 _ _ ?_
  refine w_seq fun K2 hK2 => ?_
  refine w_region ?_
  refine wl_val (g_assign (v := .int .i64 (-1)) rfl) rfl ?_
  refine wl_nil ?_
  refine hK2 _ _ ?_
  refine w_seq fun K3 hK3 => ?_
  refine w_region ?_
  refine wl_val (g_move (v := .slice a0 n0 c0) rfl) rfl ?_
  refine wl_step rfl (g_call (vs := #[.slice a0 n0 c0]) CF48 (args1 rfl) (m_spec_StartsOf_fn ((hp0.bel hB0).up hS0) hm)) ?_
  rintro _ w4 ⟨r7, a8, n9, c10, hm, rfl, hE5, hN6⟩
  have hS12 := hS0.call1 hE5 hN6
  have hB13 := hB0.trans (Ext.stp hE5 hS0.base)
  refine wl_val (g_assign (v := .slice a8 n9 c10) rfl) rfl ?_
  refine wl_nil ?_
  refine hK3 _ _ ?_
  refine w_cut (σ := Int) (fun v170 => [(3, .int .i64 v170)]) (fun v170 w' => m_spec_PlayTime_K0 Q v170 ∧ Below w.heap.size w w' ∧ Sep w' w.heap.size []) ?_ ?_
  · refine w_seq fun K172 hK172 => ?_
    refine w_region ?_
    refine wl_val (g_assign (v := .int .i64 0) rfl) rfl ?_
    refine wl_nil ?_
    refine hK172 _ _ ?_
    refine w_block ?_
    obtain ⟨I175, μ176, h0177, hr178⟩ := hm
    refine w_for (σ := Int × Int) (fun ⟨v173, v174⟩ => [(0, .slice a0 n0 c0), (3, .int .i64 v173), (4, .slice a8 n9 c10), (5, .int .i64 v174)]) (fun ⟨v173, v174⟩ w' => I175 v173 v174 ∧ Below w.heap.size w w' ∧ Sep w' w.heap.size [oS 3 a8 n9 c10 (r7 : List Int)]) (fun ⟨v173, v174⟩ => μ176 v173 v174) ((-1), 0) ⟨rfl, rfl, rfl, rfl, trivial⟩ ⟨h0177, hB13, hS12⟩ ?_
    rintro ⟨v173, v174⟩ b_ w179 ⟨hi_, hB180, hS181⟩
    show Wp _ _ _ _ (upds b_ [(0, .slice a0 n0 c0), (3, .int .i64 v173), (4, .slice a8 n9 c10), (5, .int .i64 v174)]) w179
    have hm := hr178 v173 v174 hi_
    refine w_seq fun K183 hK183 => ?_
    refine w_seq fun K184 hK184 => ?_
    refine w_region ?_
    refine wl_val (g_move (v := .int .i64 v174) rfl) rfl ?_
    refine wl_val (g_move (v := .slice a8 n9 c10) rfl) rfl ?_
    refine wl_val (q_len SL24 rfl (Vw.len (oS.vw hS181.g0))) rfl ?_
    refine wl_val (g_lss (a := v174) (b := (r7.length : Int)) rfl rfl) rfl ?_
    refine wl_nil ?_
    refine hK184 _ _ ?_
    refine w_condI (p := v174 < (r7.length : Int)) (b := (decide (v174 < (r7.length : Int)))) rfl decide_eq_true_iff (fun h185 => ?_) (fun h185 => ?_)
    · replace hm := hm.1 h185
      refine w_skip ?_
      refine hK183 _ _ ?_
      refine w_seq fun K186 hK186 => ?_
      refine w_block ?_
      refine w_draw (X := Ext) (Y := Ext) [] MIX (by decide +kernel) rfl Ext.refl (fun _ _ _ => Ext.trans) (fun _ _ _ => Chg.trans) (fun _ _ h => Ext.chg h _) (fun w187 hE188 => ?_)
      have hB189 := hB180.trans (Ext.stp hE188 hS181.base)
      have hS190 := hS181.ext hE188
      refine ⟨.int .i64 v173, fun w191 hX192 => od_plain rfl (by have hS193 := hS190.ext hX192; have hB194 := hB189.trans (Ext.stp hX192 hS190.base); exact is_ext (g_move (v := .int .i64 v173) rfl)), ?_⟩
      refine ⟨.slice a8 n9 c10, fun w195 hX196 => od_plain rfl (by have hS197 := hS190.ext hX196; have hB198 := hB189.trans (Ext.stp hX196 hS190.base); exact is_ext (g_move (v := .slice a8 n9 c10) rfl)), ?_⟩
      refine ⟨.int .i64 v174, fun w199 hX200 => od_plain rfl (by have hS201 := hS190.ext hX200; have hB202 := hB189.trans (Ext.stp hX200 hS190.base); exact is_ext (g_move (v := .int .i64 v174) rfl)), ?_⟩
      obtain ⟨hg207, hm⟩ := hm
      refine ⟨.pointer (some ((adr a8).add ((Int.toNat v174) * El.m Int))), fun w203 hX204 => od_plain rfl (by have hS205 := hS190.ext hX204; have hB206 := hB189.trans (Ext.stp hX204 hS190.base); exact is_ext (q_index (i := v174) SL24 rfl rfl (oS.vw hS205.g0) hg207)), ?_⟩
      refine ⟨.int .i64 (r7[(Int.toNat v174)]!), fun w208 hX209 => od_plain rfl (by have hS210 := hS190.ext hX209; have hB211 := hB189.trans (Ext.stp hX209 hS190.base); exact is_ext (q_load (i := v174) (v := .int .i64 (r7[(Int.toNat v174)]!)) ON3 (oS.vw hS210.g0) hg207 rfl rfl)), ?_⟩
      refine ⟨.slice a0 n0 c0, fun w212 hX213 => od_plain rfl (by have hS214 := hS190.ext hX213; have hB215 := hB189.trans (Ext.stp hX213 hS190.base); exact is_ext (g_move (v := .slice a0 n0 c0) rfl)), ?_⟩
      refine ⟨.int .i64 v174, fun w216 hX217 => od_plain rfl (by have hS218 := hS190.ext hX217; have hB219 := hB189.trans (Ext.stp hX217 hS190.base); exact is_ext (g_move (v := .int .i64 v174) rfl)), ?_⟩
      obtain ⟨hg224, hm⟩ := hm
      refine ⟨.pointer (some ((adr a0).add ((Int.toNat v174) * El.m CueD))), fun w220 hX221 => od_plain rfl (by have hS222 := hS190.ext hX221; have hB223 := hB189.trans (Ext.stp hX221 hS190.base); exact is_ext (q_index (i := v174) SL26 rfl rfl (Tv.o (hp0.bel hB223)) (Tv.g (hp0.bel hB223) hg224))), ?_⟩
      refine ⟨.pointer (some (((adr a0).add ((Int.toNat v174) * El.m CueD)).add 0)), fun w225 hX226 => od_plain rfl (by have hS227 := hS190.ext hX226; have hB228 := hB189.trans (Ext.stp hX226 hS190.base); exact is_ext (g_fieldAddr (q := (adr a0).add ((Int.toNat v174) * El.m CueD)) FL39_0 ON3 rfl)), ?_⟩
      refine ⟨.int .i64 (p0[(Int.toNat v174)]!.1), fun w229 hX230 => od_plain rfl (by have hS231 := hS190.ext hX230; have hB232 := hB189.trans (Ext.stp hX230 hS190.base); exact is_ext (q_loadF (i := v174) (j := 0) (v := .int .i64 (p0[(Int.toNat v174)]!.1)) ON3 (Tv.o (hp0.bel hB232)) (Tv.g (hp0.bel hB232) hg224) (by rw [← Tv.ticks (hp0.bel hB232) hg224]; rfl) rfl)), ?_⟩
      obtain ⟨hg237, hm⟩ := hm
      refine ⟨.int .i64 (r7[(Int.toNat v174)]! + p0[(Int.toNat v174)]!.1), fun w233 hX234 => od_plain rfl (by have hS235 := hS190.ext hX234; have hB236 := hB189.trans (Ext.stp hX234 hS190.base); exact is_ext (g_add (a := r7[(Int.toNat v174)]!) (b := p0[(Int.toNat v174)]!.1) rfl rfl hg237)), ?_⟩
      refine ⟨.int .i64 (max v173 (r7[(Int.toNat v174)]! + p0[(Int.toNat v174)]!.1)), fun w238 hX239 => od_plain rfl (by have hS240 := hS190.ext hX239; have hB241 := hB189.trans (Ext.stp hX239 hS190.base); exact is_ext (g_max (a := v173) (b := (r7[(Int.toNat v174)]! + p0[(Int.toNat v174)]!.1)) rfl rfl)), ?_⟩
      refine ⟨.int .i64 (max v173 (r7[(Int.toNat v174)]! + p0[(Int.toNat v174)]!.1)), fun w242 hX243 => od_plain rfl (by have hS244 := hS190.ext hX243; have hB245 := hB189.trans (Ext.stp hX243 hS190.base); exact is_ext (g_assign (v := .int .i64 (max v173 (r7[(Int.toNat v174)]! + p0[(Int.toNat v174)]!.1))) rfl)), ?_⟩
      intro w246 hX247
      have hB248 := hB189.trans (Ext.stp hX247 hS190.base)
      have hS249 := hS190.ext hX247
      refine hK186 _ _ ?_
      refine w_region ?_
      refine wl_val (g_move (v := .int .i64 v174) rfl) rfl ?_
      obtain ⟨hg250, hm⟩ := hm
      refine wl_val (g_add (a := v174) (b := 1) rfl rfl hg250) rfl ?_
      refine wl_val (g_assign (v := .int .i64 (v174 + 1)) rfl) rfl ?_
      refine wl_nil ?_
      exact ⟨((max v173 (r7[(Int.toNat v174)]! + p0[(Int.toNat v174)]!.1)), (v174 + 1)), hm.2, ⟨rfl, rfl, rfl, rfl, trivial⟩, ⟨hm.1, hB248, hS249⟩⟩
    · replace hm := hm.2 h185
      refine w_exit ?_
      have hS251 := hS181.tail
      exact ⟨(v173), ⟨rfl, trivial⟩, ⟨hm, hB180, hS251⟩⟩
  · rintro v170 b_ w252 ⟨hm, hB253, hS254⟩
    show Wp _ _ _ _ (upds b_ [(3, .int .i64 v170)]) w252
    refine w_seq fun K255 hK255 => ?_
    refine w_region ?_
    refine wl_val (g_move (v := .int .i64 v170) rfl) rfl ?_
    refine wl_val (g_assign (v := .int .i64 v170) rfl) rfl ?_
    refine wl_nil ?_
    refine hK255 _ _ ?_
    refine w_ret ?_
    repeat first | with_reducible refine q_then ?_ | with_reducible refine q_block ?_
    exact ret1 rfl (by decide) ⟨_, hm, rfl, toExt hB253⟩

theorem m_impl_StartsOf_fn {w : World} {a0 : Option Addr} {n0 c0 : Nat} {y0 : List CueD} {p0 : List CueC} {Q : (List Int) → Prop} (hp0 : Tv w.heap.size w a0 n0 c0 y0 p0) (hm : m_impl_StartsOf p0 Q) :
    Fn Try.prog 38 #[.slice a0 n0 c0] w (fun v w' => ∃ (r0 : List Int) (a0 : Option Addr) (n0 c0 : Nat), Q r0 ∧ v = .slice a0 n0 c0 ∧ Ext w w' ∧ Sep w' w.heap.size [oS 3 a0 n0 c0 r0]) := by
  unfold m_impl_StartsOf at hm
  have hB0 := Below.refl w.heap.size w
  have hS0 : Sep w w.heap.size [] := Sep.nil (Nat.le_refl _)
  refine fn_of_wp Try.func38 rfl (by kernel_rfl) (Nat.le_of_ble_eq_true rfl) ?_
  refine w_seq fun K1 hK1 => ?_
  refine w_region ?_
  refine wl_val (g_assign (v := .slice none 0 0) rfl) rfl ?_
  refine wl_nil ?_
  refine hK1 _ _ ?_
  refine w_seq fun K2 hK2 => ?_
  refine w_seq fun K3 hK3 => ?_
  refine w_region ?_
  refine wl_val (g_move (v := .slice a0 n0 c0) rfl) rfl ?_
  refine wl_step rfl (g_call (vs := #[.slice a0 n0 c0]) CF29 (args1 rfl) (m_impl_CuesOk_fn ((hp0.bel hB0).up hS0) hm)) ?_
  rintro _ w4 ⟨r7, hm, rfl, hE5⟩
  have hB8 := hB0.trans (Ext.stp hE5 hS0.base)
  have hS9 := hS0.ext hE5
  refine wl_val (g_not (a := r7) rfl) rfl ?_
  refine wl_nil ?_
  refine hK3 _ _ ?_
  refine w_condI (p := ¬ (r7 = true)) (b := (!r7)) rfl (i_not Iff.rfl) (fun h10 => ?_) (fun h10 => ?_)
  · replace hm := hm.1 h10
    refine w_seq fun K11 hK11 => ?_
    refine w_region ?_
    refine wl_val (g_assign (v := .slice none 0 0) rfl) rfl ?_
    refine wl_nil ?_
    refine hK11 _ _ ?_
    refine w_ret ?_
    have hS12 := hS9.nilS (α := Int) (E := 3)
    repeat first | with_reducible refine q_then ?_ | with_reducible refine q_block ?_
    exact ret1 rfl (by decide) ⟨_, _, _, _, hm, rfl, toExt hB8, hS12⟩
  · replace hm := hm.2 h10
    refine w_skip ?_
    refine hK2 _ _ ?_
    refine w_seq fun K14 hK14 => ?_
    refine w_region ?_
    refine wl_val (g_move (v := .slice a0 n0 c0) rfl) rfl ?_
    refine wl_val (q_len SL26 rfl (Tv.len (hp0.bel hB8))) rfl ?_
    obtain ⟨hg15, hm⟩ := hm
    refine wl_step rfl (q_make (y := (0 : Int)) SL24 rfl rfl hg15.1 hg15.2 (by decide) hS9) ?_
    rintro _ w16 ⟨a17, rfl, hS19, hE18⟩
    have hB21 := hB8.trans (Ext.stp hE18 hS9.base)
    refine wl_val (g_assign (v := .slice a17 (Int.toNat (p0.length : Int)) (Int.toNat (p0.length : Int))) rfl) rfl ?_
    refine wl_nil ?_
    refine hK14 _ _ ?_
    refine w_cut (σ := List Int) (fun x523 => [(3, .slice a17 (Int.toNat (p0.length : Int)) (Int.toNat (p0.length : Int)))]) (fun x523 w' => m_impl_StartsOf_K1 Q x523 ∧ Below w.heap.size w w' ∧ Sep w' w.heap.size [oS 3 a17 (Int.toNat (p0.length : Int)) (Int.toNat (p0.length : Int)) (x523 : List Int)]) ?_ ?_
    · refine w_seq fun K525 hK525 => ?_
      refine w_region ?_
      refine wl_val (g_move (v := .slice a0 n0 c0) rfl) rfl ?_
      refine wl_step rfl (g_call (vs := #[.slice a0 n0 c0]) CF28 (args1 rfl) (m_impl_CueOrder_fn ((hp0.bel hB21).up hS19) hm)) ?_
      rintro _ w526 ⟨r529, a530, n531, c532, hm, rfl, hE527, hN528⟩
      have hS534 := hS19.call1 hE527 hN528
      have hB535 := hB21.trans (Ext.stp hE527 hS19.base)
      refine wl_val (q_len SL24 rfl (Vw.len (oS.vw hS534.g0))) rfl ?_
      refine wl_val (g_move (v := .int .i64 0) rfl) rfl ?_
      refine wl_nil ?_
      refine hK525 _ _ ?_
      refine w_block ?_
      have hS538 := hS534.f1
      obtain ⟨I539, μ540, h0541, hr542⟩ := hm
      refine w_for (σ := List Int × Int) (fun ⟨x536, v537⟩ => [(0, .slice a0 n0 c0), (3, .slice a17 (Int.toNat (p0.length : Int)) (Int.toNat (p0.length : Int))), (15, .slice a530 n531 c532), (16, .int .i64 (r529.length : Int)), (17, .int .i64 v537)]) (fun ⟨x536, v537⟩ w' => I539 x536 v537 ∧ Below w.heap.size w w' ∧ Sep w' w.heap.size [oS 3 a17 (Int.toNat (p0.length : Int)) (Int.toNat (p0.length : Int)) (x536 : List Int), oS 3 a530 n531 c532 (r529 : List Int)]) (fun ⟨x536, v537⟩ => μ540 x536 v537) (List.replicate (Int.toNat (p0.length : Int)) (0 : Int), 0) ⟨rfl, rfl, rfl, rfl, rfl, trivial⟩ ⟨h0541, hB535, hS538⟩ ?_
      rintro ⟨x536, v537⟩ b_ w543 ⟨hi_, hB544, hS545⟩
      show Wp _ _ _ _ (upds b_ [(0, .slice a0 n0 c0), (3, .slice a17 (Int.toNat (p0.length : Int)) (Int.toNat (p0.length : Int))), (15, .slice a530 n531 c532), (16, .int .i64 (r529.length : Int)), (17, .int .i64 v537)]) w543
      have hm := hr542 x536 v537 hi_
      refine w_seq fun K547 hK547 => ?_
      refine w_region ?_
      refine wl_val (g_lss (a := v537) (b := (r529.length : Int)) rfl rfl) rfl ?_
      refine wl_nil ?_
      refine hK547 _ _ ?_
      refine w_seq fun K548 hK548 => ?_
      refine w_condI (p := v537 < (r529.length : Int)) (b := (decide (v537 < (r529.length : Int)))) rfl decide_eq_true_iff (fun h549 => ?_) (fun h549 => ?_)
      · replace hm := hm.1 h549
        refine w_skip ?_
        refine hK548 _ _ ?_
        refine w_cut (σ := List Int) (fun x550 => [(0, .slice a0 n0 c0), (3, .slice a17 (Int.toNat (p0.length : Int)) (Int.toNat (p0.length : Int))), (15, .slice a530 n531 c532), (16, .int .i64 (r529.length : Int)), (17, .int .i64 v537)]) (fun x550 w' => m_impl_StartsOf_K0 v537 (fun x536' v537' => I539 x536' v537' ∧ μ540 x536' v537' < μ540 x536 v537) x550 ∧ Below w.heap.size w w' ∧ Sep w' w.heap.size [oS 3 a17 (Int.toNat (p0.length : Int)) (Int.toNat (p0.length : Int)) (x550 : List Int), oS 3 a530 n531 c532 (r529 : List Int)]) ?_ ?_
        · refine w_block ?_
          refine w_seq fun K552 hK552 => ?_
          refine w_region ?_
          obtain ⟨hg553, hm⟩ := hm
          refine wl_val (q_index (i := v537) SL24 rfl rfl (oS.vw hS545.g1) hg553) rfl ?_
          refine wl_val (q_load (i := v537) (v := .int .i64 (r529[(Int.toNat v537)]!)) ON3 (oS.vw hS545.g1) hg553 rfl rfl) rfl ?_
          refine wl_val (g_assign (v := .int .i64 (r529[(Int.toNat v537)]!)) rfl) rfl ?_
          refine wl_nil ?_
          refine hK552 _ _ ?_
          refine w_seq fun K554 hK554 => ?_
          refine w_region ?_
          refine wl_val (g_move (v := .slice a0 n0 c0) rfl) rfl ?_
          refine wl_val (g_move (v := .int .i64 (r529[(Int.toNat v537)]!)) rfl) rfl ?_
          obtain ⟨hg555, hm⟩ := hm
          refine wl_val (q_index (i := r529[(Int.toNat v537)]!) SL26 rfl rfl (Tv.o (hp0.bel hB544)) (Tv.g (hp0.bel hB544) hg555)) rfl ?_
          refine wl_val (g_fieldAddr (q := (adr a0).add ((Int.toNat (r529[(Int.toNat v537)]!)) * El.m CueD)) FL39_1 ON24 rfl) rfl ?_
          refine wl_val (q_loadF (i := r529[(Int.toNat v537)]!) (j := 1) (v := .slice ((y0[(Int.toNat (r529[(Int.toNat v537)]!))]!).2.1.1) ((y0[(Int.toNat (r529[(Int.toNat v537)]!))]!).2.1.2.2.length) ((y0[(Int.toNat (r529[(Int.toNat v537)]!))]!).2.1.2.1)) ON24 (Tv.o (hp0.bel hB544)) (Tv.g (hp0.bel hB544) hg555) rfl rfl) rfl ?_
          refine wl_val (q_len SL24 rfl (Vw.len (Tv.rowC0 (hp0.bel hB544) hg555))) rfl ?_
          refine wl_val (g_move (v := .int .i64 0) rfl) rfl ?_
          refine wl_nil ?_
          refine hK554 _ _ ?_
          refine w_block ?_
          obtain ⟨I558, μ559, h0560, hr561⟩ := hm
          refine w_for (σ := List Int × Int) (fun ⟨x556, v557⟩ => [(0, .slice a0 n0 c0), (3, .slice a17 (Int.toNat (p0.length : Int)) (Int.toNat (p0.length : Int))), (5, .int .i64 (r529[(Int.toNat v537)]!)), (15, .slice a530 n531 c532), (16, .int .i64 (r529.length : Int)), (17, .int .i64 v537), (25, .slice ((y0[(Int.toNat (r529[(Int.toNat v537)]!))]!).2.1.1) ((y0[(Int.toNat (r529[(Int.toNat v537)]!))]!).2.1.2.2.length) ((y0[(Int.toNat (r529[(Int.toNat v537)]!))]!).2.1.2.1)), (26, .int .i64 ((p0[(Int.toNat (r529[(Int.toNat v537)]!))]!.2.1).length : Int)), (27, .int .i64 v557)]) (fun ⟨x556, v557⟩ w' => I558 x556 v557 ∧ Below w.heap.size w w' ∧ Sep w' w.heap.size [oS 3 a17 (Int.toNat (p0.length : Int)) (Int.toNat (p0.length : Int)) (x556 : List Int), oS 3 a530 n531 c532 (r529 : List Int)]) (fun ⟨x556, v557⟩ => μ559 x556 v557) (x536, 0) ⟨rfl, rfl, rfl, rfl, rfl, rfl, rfl, rfl, rfl, trivial⟩ ⟨h0560, hB544, hS545⟩ ?_
          rintro ⟨x556, v557⟩ b_ w562 ⟨hi_, hB563, hS564⟩
          show Wp _ _ _ _ (upds b_ [(0, .slice a0 n0 c0), (3, .slice a17 (Int.toNat (p0.length : Int)) (Int.toNat (p0.length : Int))), (5, .int .i64 (r529[(Int.toNat v537)]!)), (15, .slice a530 n531 c532), (16, .int .i64 (r529.length : Int)), (17, .int .i64 v537), (25, .slice ((y0[(Int.toNat (r529[(Int.toNat v537)]!))]!).2.1.1) ((y0[(Int.toNat (r529[(Int.toNat v537)]!))]!).2.1.2.2.length) ((y0[(Int.toNat (r529[(Int.toNat v537)]!))]!).2.1.2.1)), (26, .int .i64 ((p0[(Int.toNat (r529[(Int.toNat v537)]!))]!.2.1).length : Int)), (27, .int .i64 v557)]) w562
          have hm := hr561 x556 v557 hi_
          refine w_seq fun K566 hK566 => ?_
          refine w_region ?_
          refine wl_val (g_lss (a := v557) (b := ((p0[(Int.toNat (r529[(Int.toNat v537)]!))]!.2.1).length : Int)) rfl rfl) rfl ?_
          refine wl_nil ?_
          refine hK566 _ _ ?_
          refine w_seq fun K567 hK567 => ?_
          refine w_condI (p := v557 < ((p0[(Int.toNat (r529[(Int.toNat v537)]!))]!.2.1).length : Int)) (b := (decide (v557 < ((p0[(Int.toNat (r529[(Int.toNat v537)]!))]!.2.1).length : Int)))) rfl decide_eq_true_iff (fun h568 => ?_) (fun h568 => ?_)
          · replace hm := hm.1 h568
            refine w_skip ?_
            refine hK567 _ _ ?_
            refine w_seq fun K569 hK569 => ?_
            refine w_block ?_
            refine w_seq fun K570 hK570 => ?_
            refine w_region ?_
            obtain ⟨hg571, hm⟩ := hm
            refine wl_val (q_index (i := v557) SL24 rfl rfl (Tv.rowC0 (hp0.bel hB563) hg555) hg571) rfl ?_
            refine wl_val (q_load (i := v557) (v := .int .i64 ((p0[(Int.toNat (r529[(Int.toNat v537)]!))]!.2.1)[(Int.toNat v557)]!)) ON3 (Tv.rowC0 (hp0.bel hB563) hg555) hg571 rfl rfl) rfl ?_
            refine wl_val (g_assign (v := .int .i64 ((p0[(Int.toNat (r529[(Int.toNat v537)]!))]!.2.1)[(Int.toNat v557)]!)) rfl) rfl ?_
            refine wl_nil ?_
            refine hK570 _ _ ?_
            refine w_draw (X := Ext) (Y := Ext) [0, 0, 0, 0, 0, 0, 0, 0, 0, 0, 0, 0, 0, 0, 0, 0, 0, 0, 1] MIX (by decide +kernel) rfl Ext.refl (fun _ _ _ => Ext.trans) (fun _ _ _ => Chg.trans) (fun _ _ h => Ext.chg h _) (fun w572 hE573 => ?_)
            have hB574 := hB563.trans (Ext.stp hE573 hS564.base)
            have hS575 := hS564.ext hE573
            refine ⟨.slice a17 (Int.toNat (p0.length : Int)) (Int.toNat (p0.length : Int)), fun w576 hX577 => od_plain rfl (by have hS578 := hS575.ext hX577; have hB579 := hB574.trans (Ext.stp hX577 hS575.base); exact is_ext (g_move (v := .slice a17 (Int.toNat (p0.length : Int)) (Int.toNat (p0.length : Int))) rfl)), ?_⟩
            refine ⟨.int .i64 (r529[(Int.toNat v537)]!), fun w580 hX581 => od_plain rfl (by have hS582 := hS575.ext hX581; have hB583 := hB574.trans (Ext.stp hX581 hS575.base); exact is_ext (g_move (v := .int .i64 (r529[(Int.toNat v537)]!)) rfl)), ?_⟩
            refine ⟨.slice a17 (Int.toNat (p0.length : Int)) (Int.toNat (p0.length : Int)), fun w584 hX585 => od_plain rfl (by have hS586 := hS575.ext hX585; have hB587 := hB574.trans (Ext.stp hX585 hS575.base); exact is_ext (g_move (v := .slice a17 (Int.toNat (p0.length : Int)) (Int.toNat (p0.length : Int))) rfl)), ?_⟩
            refine ⟨.int .i64 (r529[(Int.toNat v537)]!), fun w588 hX589 => od_plain rfl (by have hS590 := hS575.ext hX589; have hB591 := hB574.trans (Ext.stp hX589 hS575.base); exact is_ext (g_move (v := .int .i64 (r529[(Int.toNat v537)]!)) rfl)), ?_⟩
            obtain ⟨hg596, hm⟩ := hm
            refine ⟨.pointer (some ((adr a17).add ((Int.toNat (r529[(Int.toNat v537)]!)) * El.m Int))), fun w592 hX593 => od_plain rfl (by have hS594 := hS575.ext hX593; have hB595 := hB574.trans (Ext.stp hX593 hS575.base); exact is_ext (q_index (i := r529[(Int.toNat v537)]!) SL24 rfl rfl (oS.vw hS594.g0) hg596)), ?_⟩
            refine ⟨.int .i64 (x556[(Int.toNat (r529[(Int.toNat v537)]!))]!), fun w597 hX598 => od_plain rfl (by have hS599 := hS575.ext hX598; have hB600 := hB574.trans (Ext.stp hX598 hS575.base); exact is_ext (q_load (i := r529[(Int.toNat v537)]!) (v := .int .i64 (x556[(Int.toNat (r529[(Int.toNat v537)]!))]!)) ON3 (oS.vw hS599.g0) hg596 rfl rfl)), ?_⟩
            refine ⟨.slice a17 (Int.toNat (p0.length : Int)) (Int.toNat (p0.length : Int)), fun w601 hX602 => od_plain rfl (by have hS603 := hS575.ext hX602; have hB604 := hB574.trans (Ext.stp hX602 hS575.base); exact is_ext (g_move (v := .slice a17 (Int.toNat (p0.length : Int)) (Int.toNat (p0.length : Int))) rfl)), ?_⟩
            refine ⟨.int .i64 ((p0[(Int.toNat (r529[(Int.toNat v537)]!))]!.2.1)[(Int.toNat v557)]!), fun w605 hX606 => od_plain rfl (by have hS607 := hS575.ext hX606; have hB608 := hB574.trans (Ext.stp hX606 hS575.base); exact is_ext (g_move (v := .int .i64 ((p0[(Int.toNat (r529[(Int.toNat v537)]!))]!.2.1)[(Int.toNat v557)]!)) rfl)), ?_⟩
            obtain ⟨hg613, hm⟩ := hm
            refine ⟨.pointer (some ((adr a17).add ((Int.toNat ((p0[(Int.toNat (r529[(Int.toNat v537)]!))]!.2.1)[(Int.toNat v557)]!)) * El.m Int))), fun w609 hX610 => od_plain rfl (by have hS611 := hS575.ext hX610; have hB612 := hB574.trans (Ext.stp hX610 hS575.base); exact is_ext (q_index (i := (p0[(Int.toNat (r529[(Int.toNat v537)]!))]!.2.1)[(Int.toNat v557)]!) SL24 rfl rfl (oS.vw hS611.g0) hg613)), ?_⟩
            refine ⟨.int .i64 (x556[(Int.toNat ((p0[(Int.toNat (r529[(Int.toNat v537)]!))]!.2.1)[(Int.toNat v557)]!))]!), fun w614 hX615 => od_plain rfl (by have hS616 := hS575.ext hX615; have hB617 := hB574.trans (Ext.stp hX615 hS575.base); exact is_ext (q_load (i := (p0[(Int.toNat (r529[(Int.toNat v537)]!))]!.2.1)[(Int.toNat v557)]!) (v := .int .i64 (x556[(Int.toNat ((p0[(Int.toNat (r529[(Int.toNat v537)]!))]!.2.1)[(Int.toNat v557)]!))]!)) ON3 (oS.vw hS616.g0) hg613 rfl rfl)), ?_⟩
            refine ⟨.slice a0 n0 c0, fun w618 hX619 => od_plain rfl (by have hS620 := hS575.ext hX619; have hB621 := hB574.trans (Ext.stp hX619 hS575.base); exact is_ext (g_move (v := .slice a0 n0 c0) rfl)), ?_⟩
            refine ⟨.int .i64 ((p0[(Int.toNat (r529[(Int.toNat v537)]!))]!.2.1)[(Int.toNat v557)]!), fun w622 hX623 => od_plain rfl (by have hS624 := hS575.ext hX623; have hB625 := hB574.trans (Ext.stp hX623 hS575.base); exact is_ext (g_move (v := .int .i64 ((p0[(Int.toNat (r529[(Int.toNat v537)]!))]!.2.1)[(Int.toNat v557)]!)) rfl)), ?_⟩
            obtain ⟨hg630, hm⟩ := hm
            refine ⟨.pointer (some ((adr a0).add ((Int.toNat ((p0[(Int.toNat (r529[(Int.toNat v537)]!))]!.2.1)[(Int.toNat v557)]!)) * El.m CueD))), fun w626 hX627 => od_plain rfl (by have hS628 := hS575.ext hX627; have hB629 := hB574.trans (Ext.stp hX627 hS575.base); exact is_ext (q_index (i := (p0[(Int.toNat (r529[(Int.toNat v537)]!))]!.2.1)[(Int.toNat v557)]!) SL26 rfl rfl (Tv.o (hp0.bel hB629)) (Tv.g (hp0.bel hB629) hg630))), ?_⟩
            refine ⟨.pointer (some (((adr a0).add ((Int.toNat ((p0[(Int.toNat (r529[(Int.toNat v537)]!))]!.2.1)[(Int.toNat v557)]!)) * El.m CueD)).add 0)), fun w631 hX632 => od_plain rfl (by have hS633 := hS575.ext hX632; have hB634 := hB574.trans (Ext.stp hX632 hS575.base); exact is_ext (g_fieldAddr (q := (adr a0).add ((Int.toNat ((p0[(Int.toNat (r529[(Int.toNat v537)]!))]!.2.1)[(Int.toNat v557)]!)) * El.m CueD)) FL39_0 ON3 rfl)), ?_⟩
            refine ⟨.int .i64 (p0[(Int.toNat ((p0[(Int.toNat (r529[(Int.toNat v537)]!))]!.2.1)[(Int.toNat v557)]!))]!.1), fun w635 hX636 => od_plain rfl (by have hS637 := hS575.ext hX636; have hB638 := hB574.trans (Ext.stp hX636 hS575.base); exact is_ext (q_loadF (i := (p0[(Int.toNat (r529[(Int.toNat v537)]!))]!.2.1)[(Int.toNat v557)]!) (j := 0) (v := .int .i64 (p0[(Int.toNat ((p0[(Int.toNat (r529[(Int.toNat v537)]!))]!.2.1)[(Int.toNat v557)]!))]!.1)) ON3 (Tv.o (hp0.bel hB638)) (Tv.g (hp0.bel hB638) hg630) (by rw [← Tv.ticks (hp0.bel hB638) hg630]; rfl) rfl)), ?_⟩
            obtain ⟨hg643, hm⟩ := hm
            refine ⟨.int .i64 (x556[(Int.toNat ((p0[(Int.toNat (r529[(Int.toNat v537)]!))]!.2.1)[(Int.toNat v557)]!))]! + p0[(Int.toNat ((p0[(Int.toNat (r529[(Int.toNat v537)]!))]!.2.1)[(Int.toNat v557)]!))]!.1), fun w639 hX640 => od_plain rfl (by have hS641 := hS575.ext hX640; have hB642 := hB574.trans (Ext.stp hX640 hS575.base); exact is_ext (g_add (a := x556[(Int.toNat ((p0[(Int.toNat (r529[(Int.toNat v537)]!))]!.2.1)[(Int.toNat v557)]!))]!) (b := p0[(Int.toNat ((p0[(Int.toNat (r529[(Int.toNat v537)]!))]!.2.1)[(Int.toNat v557)]!))]!.1) rfl rfl hg643)), ?_⟩
            refine ⟨.int .i64 (max (x556[(Int.toNat (r529[(Int.toNat v537)]!))]!) (x556[(Int.toNat ((p0[(Int.toNat (r529[(Int.toNat v537)]!))]!.2.1)[(Int.toNat v557)]!))]! + p0[(Int.toNat ((p0[(Int.toNat (r529[(Int.toNat v537)]!))]!.2.1)[(Int.toNat v557)]!))]!.1)), fun w644 hX645 => od_plain rfl (by have hS646 := hS575.ext hX645; have hB647 := hB574.trans (Ext.stp hX645 hS575.base); exact is_ext (g_max (a := x556[(Int.toNat (r529[(Int.toNat v537)]!))]!) (b := (x556[(Int.toNat ((p0[(Int.toNat (r529[(Int.toNat v537)]!))]!.2.1)[(Int.toNat v557)]!))]! + p0[(Int.toNat ((p0[(Int.toNat (r529[(Int.toNat v537)]!))]!.2.1)[(Int.toNat v557)]!))]!.1)) rfl rfl)), ?_⟩
            obtain ⟨hg652, hm⟩ := hm
            refine ⟨.pointer (some ((adr a17).add ((Int.toNat (r529[(Int.toNat v537)]!)) * El.m Int))), fun w648 hX649 => od_plain rfl (by have hS650 := hS575.ext hX649; have hB651 := hB574.trans (Ext.stp hX649 hS575.base); exact is_ext (q_index (i := r529[(Int.toNat v537)]!) SL24 rfl rfl (oS.vw hS650.g0) hg652)), ?_⟩
            intro w653 hX654
            have hB655 := hB574.trans (Ext.stp hX654 hS575.base)
            have hS656 := hS575.ext hX654
            refine ⟨_, od_plain rfl (q_store (i := r529[(Int.toNat v537)]!) (v := ((max (x556[(Int.toNat (r529[(Int.toNat v537)]!))]!) (x556[(Int.toNat ((p0[(Int.toNat (r529[(Int.toNat v537)]!))]!.2.1)[(Int.toNat v557)]!))]! + p0[(Int.toNat ((p0[(Int.toNat (r529[(Int.toNat v537)]!))]!.2.1)[(Int.toNat v557)]!))]!.1)) : Int)) hS656 ON3.sz hg652 rfl rfl rfl), ?_⟩
            rintro _ w657 ⟨rfl, hS658, hb659⟩
            have hB660 := hB655.trans hb659
            intro w661 hX662
            have hB663 := hB660.trans (Ext.stp hX662 hS658.base)
            have hS664 := hS658.ext hX662
            refine hK569 _ _ ?_
            refine w_region ?_
            obtain ⟨hg665, hm⟩ := hm
            refine wl_val (g_add (a := v557) (b := 1) rfl rfl hg665) rfl ?_
            refine wl_val (g_move (v := .int .i64 (v557 + 1)) rfl) rfl ?_
            refine wl_nil ?_
            exact ⟨((x556.set (Int.toNat (r529[(Int.toNat v537)]!)) (max (x556[(Int.toNat (r529[(Int.toNat v537)]!))]!) (x556[(Int.toNat ((p0[(Int.toNat (r529[(Int.toNat v537)]!))]!.2.1)[(Int.toNat v557)]!))]! + p0[(Int.toNat ((p0[(Int.toNat (r529[(Int.toNat v537)]!))]!.2.1)[(Int.toNat v557)]!))]!.1))), (v557 + 1)), hm.2, ⟨rfl, rfl, rfl, rfl, rfl, rfl, rfl, rfl, rfl, trivial⟩, ⟨hm.1, hB663, hS664⟩⟩
          · replace hm := hm.2 h568
            refine w_exit ?_
            exact ⟨(x556), ⟨rfl, rfl, rfl, rfl, rfl, trivial⟩, ⟨hm, hB563, hS564⟩⟩
        · rintro x550 b_ w666 ⟨hm, hB667, hS668⟩
          show Wp _ _ _ _ (upds b_ [(0, .slice a0 n0 c0), (3, .slice a17 (Int.toNat (p0.length : Int)) (Int.toNat (p0.length : Int))), (15, .slice a530 n531 c532), (16, .int .i64 (r529.length : Int)), (17, .int .i64 v537)]) w666
          refine w_region ?_
          obtain ⟨hg669, hm⟩ := hm
          refine wl_val (g_add (a := v537) (b := 1) rfl rfl hg669) rfl ?_
          refine wl_val (g_move (v := .int .i64 (v537 + 1)) rfl) rfl ?_
          refine wl_nil ?_
          exact ⟨(x550, (v537 + 1)), hm.2, ⟨rfl, rfl, rfl, rfl, rfl, trivial⟩, ⟨hm.1, hB667, hS668⟩⟩
      · replace hm := hm.2 h549
        refine w_exit ?_
        have hS670 := hS545.f1
        have hS671 := hS670.tail
        exact ⟨(x536), ⟨rfl, trivial⟩, ⟨hm, hB544, hS671⟩⟩
    · rintro x523 b_ w672 ⟨hm, hB673, hS674⟩
      show Wp _ _ _ _ (upds b_ [(3, .slice a17 (Int.toNat (p0.length : Int)) (Int.toNat (p0.length : Int)))]) w672
      refine w_seq fun K675 hK675 => ?_
      refine w_region ?_
      refine wl_val (g_move (v := .slice a17 (Int.toNat (p0.length : Int)) (Int.toNat (p0.length : Int))) rfl) rfl ?_
      refine wl_val (g_assign (v := .slice a17 (Int.toNat (p0.length : Int)) (Int.toNat (p0.length : Int))) rfl) rfl ?_
      refine wl_nil ?_
      refine hK675 _ _ ?_
      refine w_ret ?_
      repeat first | with_reducible refine q_then ?_ | with_reducible refine q_block ?_
      exact ret1 rfl (by decide) ⟨_, _, _, _, hm, rfl, toExt hB673, hS674⟩

theorem m_impl_PlayTime_fn {w : World} {a0 : Option Addr} {n0 c0 : Nat} {y0 : List CueD} {p0 : List CueC} {Q : Int → Prop} (hp0 : Tv w.heap.size w a0 n0 c0 y0 p0) (hm : m_impl_PlayTime p0 Q) :
    Fn Try.prog 40 #[.slice a0 n0 c0] w (fun v w' => ∃ (r0 : Int), Q r0 ∧ v = .int .i64 r0 ∧ Ext w w') := by
  unfold m_impl_PlayTime at hm
  have hB0 := Below.refl w.heap.size w
  have hS0 : Sep w w.heap.size [] := Sep.nil (Nat.le_refl _)
  refine fn_of_wp Try.func40 rfl (by kernel_rfl) (Nat.le_of_ble_eq_true rfl) ?_
  refine w_seq fun K1 hK1 => ?_
  refine w_region ?_
  refine wl_val (g_assign (v := .int .i64 0) rfl) rfl ?_
  refine wl_nil ?_
  refine hK1 _ _ ?_
  refine w_seq fun K2 hK2 => ?_
  refine w_seq fun K3 hK3 => ?_
  refine w_region ?_
  refine wl_val (g_move (v := .slice a0 n0 c0) rfl) rfl ?_
  refine wl_step rfl (g_call (vs := #[.slice a0 n0 c0]) CF29 (args1 rfl) (m_impl_CuesOk_fn ((hp0.bel hB0).up hS0) hm)) ?_
  rintro _ w4 ⟨r7, hm, rfl, hE5⟩
  have hB8 := hB0.trans (Ext.stp hE5 hS0.base)
  have hS9 := hS0.ext hE5
  refine wl_val (g_not (a := r7) rfl) rfl ?_
  refine wl_nil ?_
  refine hK3 _ _ ?_
  refine w_condI (p := ¬ (r7 = true)) (b := (!r7)) rfl (i_not Iff.rfl) (fun h10 => ?_) (fun h10 => ?_)
  · replace hm := hm.1 h10
    refine w_seq fun K11 hK11 => ?_
    refine w_region ?_
    refine wl_val (g_assign (v := .int .i64 (-1)) rfl) rfl ?_
    refine wl_nil ?_
    refine hK11 _ _ ?_
    refine w_ret ?_
    repeat first | with_reducible refine q_then ?_ | with_reducible refine q_block ?_
    exact ret1 rfl (by decide) ⟨_, hm, rfl, toExt hB8⟩
  · replace hm := hm.2 h10
    refine w_skip ?_
    refine hK2 _ _ ?_
    refine w_seq fun K12 hK12 => ?_
    refine w_region ?_
    refine wl_val (g_assign (v := .int .i64 0) rfl) rfl ?_
    refine wl_nil ?_
    refine hK12 _ _ ?_
    refine w_cut (σ := Int) (fun v61 => [(3, .int .i64 v61)]) (fun v61 w' => m_impl_PlayTime_K0 Q v61 ∧ Below w.heap.size w w' ∧ Sep w' w.heap.size []) ?_ ?_
    · refine w_seq fun K63 hK63 => ?_
      refine w_region ?_
      refine wl_val (g_move (v := .slice a0 n0 c0) rfl) rfl ?_
      refine wl_step rfl (g_call (vs := #[.slice a0 n0 c0]) CF38 (args1 rfl) (m_impl_StartsOf_fn ((hp0.bel hB8).up hS9) hm)) ?_
      rintro _ w64 ⟨r67, a68, n69, c70, hm, rfl, hE65, hN66⟩
      have hS72 := hS9.call1 hE65 hN66
      have hB73 := hB8.trans (Ext.stp hE65 hS9.base)
      refine wl_val (q_len SL24 rfl (Vw.len (oS.vw hS72.g0))) rfl ?_
      refine wl_val (g_move (v := .int .i64 0) rfl) rfl ?_
      refine wl_nil ?_
      refine hK63 _ _ ?_
      refine w_block ?_
      obtain ⟨I76, μ77, h078, hr79⟩ := hm
      refine w_for (σ := Int × Int) (fun ⟨v74, v75⟩ => [(0, .slice a0 n0 c0), (3, .int .i64 v74), (10, .slice a68 n69 c70), (11, .int .i64 (r67.length : Int)), (12, .int .i64 v75)]) (fun ⟨v74, v75⟩ w' => I76 v74 v75 ∧ Below w.heap.size w w' ∧ Sep w' w.heap.size [oS 3 a68 n69 c70 (r67 : List Int)]) (fun ⟨v74, v75⟩ => μ77 v74 v75) (0, 0) ⟨rfl, rfl, rfl, rfl, rfl, trivial⟩ ⟨h078, hB73, hS72⟩ ?_
      rintro ⟨v74, v75⟩ b_ w80 ⟨hi_, hB81, hS82⟩
      show Wp _ _ _ _ (upds b_ [(0, .slice a0 n0 c0), (3, .int .i64 v74), (10, .slice a68 n69 c70), (11, .int .i64 (r67.length : Int)), (12, .int .i64 v75)]) w80
      have hm := hr79 v74 v75 hi_
      refine w_seq fun K84 hK84 => ?_
      refine w_region ?_
      refine wl_val (g_lss (a := v75) (b := (r67.length : Int)) rfl rfl) rfl ?_
      refine wl_nil ?_
      refine hK84 _ _ ?_
      refine w_seq fun K85 hK85 => ?_
      refine w_condI (p := v75 < (r67.length : Int)) (b := (decide (v75 < (r67.length : Int)))) rfl decide_eq_true_iff (fun h86 => ?_) (fun h86 => ?_)
      · replace hm := hm.1 h86
        refine w_skip ?_
        refine hK85 _ _ ?_
        refine w_seq fun K87 hK87 => ?_
        refine w_block ?_
        refine w_seq fun K88 hK88 => ?_
        refine w_region ?_
        refine wl_val (g_move (v := .int .i64 v75) rfl) rfl ?_
        obtain ⟨hg89, hm⟩ := hm
        refine wl_val (q_index (i := v75) SL24 rfl rfl (oS.vw hS82.g0) hg89) rfl ?_
        refine wl_val (q_load (i := v75) (v := .int .i64 (r67[(Int.toNat v75)]!)) ON3 (oS.vw hS82.g0) hg89 rfl rfl) rfl ?_
        refine wl_val (g_assign (v := .int .i64 v75) rfl) rfl ?_
        refine wl_val (g_assign (v := .int .i64 (r67[(Int.toNat v75)]!)) rfl) rfl ?_
        refine wl_nil ?_
        refine hK88 _ _ ?_
        refine w_region ?_
        refine wl_val (g_move (v := .int .i64 v74) rfl) rfl ?_
        refine wl_val (g_move (v := .int .i64 (r67[(Int.toNat v75)]!)) rfl) rfl ?_
        refine wl_val (g_move (v := .slice a0 n0 c0) rfl) rfl ?_
        refine wl_val (g_move (v := .int .i64 v75) rfl) rfl ?_
        obtain ⟨hg90, hm⟩ := hm
        refine wl_val (q_index (i := v75) SL26 rfl rfl (Tv.o (hp0.bel hB81)) (Tv.g (hp0.bel hB81) hg90)) rfl ?_
        refine wl_val (g_fieldAddr (q := (adr a0).add ((Int.toNat v75) * El.m CueD)) FL39_0 ON3 rfl) rfl ?_
        refine wl_val (q_loadF (i := v75) (j := 0) (v := .int .i64 (p0[(Int.toNat v75)]!.1)) ON3 (Tv.o (hp0.bel hB81)) (Tv.g (hp0.bel hB81) hg90) (by rw [← Tv.ticks (hp0.bel hB81) hg90]; rfl) rfl) rfl ?_
        obtain ⟨hg91, hm⟩ := hm
        refine wl_val (g_add (a := r67[(Int.toNat v75)]!) (b := p0[(Int.toNat v75)]!.1) rfl rfl hg91) rfl ?_
        refine wl_val (g_max (a := v74) (b := (r67[(Int.toNat v75)]! + p0[(Int.toNat v75)]!.1)) rfl rfl) rfl ?_
        refine wl_val (g_assign (v := .int .i64 (max v74 (r67[(Int.toNat v75)]! + p0[(Int.toNat v75)]!.1))) rfl) rfl ?_
        refine wl_nil ?_
        refine hK87 _ _ ?_
        refine w_region ?_
        obtain ⟨hg92, hm⟩ := hm
        refine wl_val (g_add (a := v75) (b := 1) rfl rfl hg92) rfl ?_
        refine wl_val (g_move (v := .int .i64 (v75 + 1)) rfl) rfl ?_
        refine wl_nil ?_
        exact ⟨((max v74 (r67[(Int.toNat v75)]! + p0[(Int.toNat v75)]!.1)), (v75 + 1)), hm.2, ⟨rfl, rfl, rfl, rfl, rfl, trivial⟩, ⟨hm.1, hB81, hS82⟩⟩
      · replace hm := hm.2 h86
        refine w_exit ?_
        have hS93 := hS82.tail
        exact ⟨(v74), ⟨rfl, trivial⟩, ⟨hm, hB81, hS93⟩⟩
    · rintro v61 b_ w94 ⟨hm, hB95, hS96⟩
      show Wp _ _ _ _ (upds b_ [(3, .int .i64 v61)]) w94
      refine w_seq fun K97 hK97 => ?_
      refine w_region ?_
      refine wl_val (g_move (v := .int .i64 v61) rfl) rfl ?_
      refine wl_val (g_assign (v := .int .i64 v61) rfl) rfl ?_
      refine wl_nil ?_
      refine hK97 _ _ ?_
      refine w_ret ?_
      repeat first | with_reducible refine q_then ?_ | with_reducible refine q_block ?_
      exact ret1 rfl (by decide) ⟨_, hm, rfl, toExt hB95⟩

theorem m_spec_l12Starts_fn {w : World} {a0 : Option Addr} {n0 c0 : Nat} {y0 : List CueD} {p0 : List CueC} {a1 : Option Addr} {n1 c1 : Nat} {p1 : List Int} {Q : Bool → Prop} (hp0 : Tv w.heap.size w a0 n0 c0 y0 p0) (hp1 : Vw w.heap.size w a1 n1 c1 p1) (hm : m_spec_l12Starts p0 p1 Q) :
    Fn Try.prog 72 #[.slice a0 n0 c0, .slice a1 n1 c1] w (fun v w' => ∃ (r0 : Bool), Q r0 ∧ v = .bool r0 ∧ Ext w w') := by
  unfold m_spec_l12Starts at hm
  have hB0 := Below.refl w.heap.size w
  have hS0 : Sep w w.heap.size [] := Sep.nil (Nat.le_refl _)
  refine fn_of_wp Try.func72 rfl (by kernel_rfl) (Nat.le_of_ble_eq_true rfl) ?_
  refine w_seq fun K1 hK1 => ?_
  refine w_region ?_
  refine wl_val (g_assign (v := .bool false) rfl) rfl ?_
  refine wl_nil ?_
  refine hK1 _ _ ?_
  refine w_seq fun K2 hK2 => ?_
  refine w_seq fun K3 hK3 => ?_
  refine w_region ?_
  refine wl_val (g_move (v := .slice a0 n0 c0) rfl) rfl ?_
  refine wl_step rfl (g_call (vs := #[.slice a0 n0 c0]) CF35 (args1 rfl) (m_spec_CuesOk_fn ((hp0.bel hB0).up hS0) hm)) ?_
  rintro _ w4 ⟨r7, hm, rfl, hE5⟩
  have hB8 := hB0.trans (Ext.stp hE5 hS0.base)
  have hS9 := hS0.ext hE5
  refine wl_val (g_not (a := r7) rfl) rfl ?_
  refine wl_val (g_move (v := .bool (!r7)) rfl) rfl ?_
  refine wl_guard (c := (!r7) = false) (val := .slice a1 n1 c1) (b := ((!r7) == false)) (gv_some rfl rfl rfl) beq_iff_eq (fun hc10 => ?_) ?_
  · have hq0 : ¬ (¬ (r7 = true)) := (i_neg (i_not Iff.rfl) hc10)
    exact g_move (v := .slice a1 n1 c1) rfl
  refine wl_guard (c := (!r7) = false) (val := .int .i64 (p1.length : Int)) (b := ((!r7) == false)) (gv_some rfl rfl rfl) beq_iff_eq (fun hc11 => ?_) ?_
  · have hq0 : ¬ (¬ (r7 = true)) := (i_neg (i_not Iff.rfl) hc11)
    exact q_len SL24 (if_pos hc11) (Vw.len (hp1.bel hB8))
  refine wl_guard (c := (!r7) = false) (val := .slice a0 n0 c0) (b := ((!r7) == false)) (gv_some rfl rfl rfl) beq_iff_eq (fun hc12 => ?_) ?_
  · have hq0 : ¬ (¬ (r7 = true)) := (i_neg (i_not Iff.rfl) hc12)
    exact g_move (v := .slice a0 n0 c0) rfl
  refine wl_guard (c := (!r7) = false) (val := .int .i64 (p0.length : Int)) (b := ((!r7) == false)) (gv_some rfl rfl rfl) beq_iff_eq (fun hc13 => ?_) ?_
  · have hq0 : ¬ (¬ (r7 = true)) := (i_neg (i_not Iff.rfl) hc13)
    exact q_len SL26 (if_pos hc13) (Tv.len (hp0.bel hB8))
  refine wl_guard (c := (!r7) = false) (val := .bool (decide ((p1.length : Int) ≠ (p0.length : Int)))) (b := ((!r7) == false)) (gv_some rfl rfl rfl) beq_iff_eq (fun hc14 => ?_) ?_
  · have hq0 : ¬ (¬ (r7 = true)) := (i_neg (i_not Iff.rfl) hc14)
    exact g_neq (a := (p1.length : Int)) (b := (p0.length : Int)) (if_pos hc14) (if_pos hc14)
  refine wl_val (g_pick_or (b := (!r7)) (q := (decide ((p1.length : Int) ≠ (p0.length : Int)))) rfl rfl) rfl ?_
  refine wl_nil ?_
  refine hK3 _ _ ?_
  refine w_condI (p := ((¬ (r7 = true)) ∨ ((p1.length : Int) ≠ (p0.length : Int)))) (b := ((!r7) || (decide ((p1.length : Int) ≠ (p0.length : Int))))) rfl (i_or (i_not Iff.rfl) decide_eq_true_iff) (fun h15 => ?_) (fun h15 => ?_)
  · replace hm := hm.1 h15
    refine w_seq fun K16 hK16 => ?_
    refine w_region ?_
    refine wl_val (g_assign (v := .bool false) rfl) rfl ?_
    refine wl_nil ?_
    refine hK16 _ _ ?_
    refine w_ret ?_
    repeat first | with_reducible refine q_then ?_ | with_reducible refine q_block ?_
    exact ret1 rfl (by decide) ⟨_, hm, rfl, toExt hB8⟩
  · replace hm := hm.2 h15
    refine w_skip ?_
    refine hK2 _ _ ?_
    refine w_cut (σ := Unit) (fun _ => []) (fun _ w' => m_spec_l12Starts_K0 Q ∧ Below w.heap.size w w' ∧ Sep w' w.heap.size []) ?_ ?_
    · refine w_seq fun K18 hK18 => ?_
      refine w_region ?_
      refine wl_val (g_assign (v := .int .i64 0) rfl) rfl ?_
      refine wl_nil ?_
      refine hK18 _ _ ?_
      refine w_block ?_
      obtain ⟨I43, μ44, h045, hr46⟩ := hm
      refine w_for (σ := Int) (fun v42 => [(1, .slice a1 n1 c1), (5, .int .i64 v42)]) (fun v42 w' => I43 v42 ∧ Below w.heap.size w w' ∧ Sep w' w.heap.size []) (fun v42 => μ44 v42) (0) ⟨rfl, rfl, trivial⟩ ⟨h045, hB8, hS9⟩ ?_
      rintro v42 b_ w47 ⟨hi_, hB48, hS49⟩
      show Wp _ _ _ _ (upds b_ [(1, .slice a1 n1 c1), (5, .int .i64 v42)]) w47
      have hm := hr46 v42 hi_
      refine w_seq fun K51 hK51 => ?_
      refine w_seq fun K52 hK52 => ?_
      refine w_region ?_
      refine wl_val (g_move (v := .int .i64 v42) rfl) rfl ?_
      refine wl_val (g_move (v := .slice a1 n1 c1) rfl) rfl ?_
      refine wl_val (q_len SL24 rfl (Vw.len (hp1.bel hB48))) rfl ?_
      refine wl_val (g_lss (a := v42) (b := (p1.length : Int)) rfl rfl) rfl ?_
      refine wl_nil ?_
      refine hK52 _ _ ?_
      refine w_condI (p := v42 < (p1.length : Int)) (b := (decide (v42 < (p1.length : Int)))) rfl decide_eq_true_iff (fun h53 => ?_) (fun h53 => ?_)
      · replace hm := hm.1 h53
        refine w_skip ?_
        refine hK51 _ _ ?_
        refine w_seq fun K54 hK54 => ?_
        refine w_block ?_
        refine w_seq fun K55 hK55 => ?_
        refine w_region ?_
        refine wl_val (g_move (v := .slice a1 n1 c1) rfl) rfl ?_
        refine wl_val (g_move (v := .int .i64 v42) rfl) rfl ?_
        obtain ⟨hg56, hm⟩ := hm
        refine wl_val (q_index (i := v42) SL24 rfl rfl (hp1.bel hB48) hg56) rfl ?_
        refine wl_val (q_load (i := v42) (v := .int .i64 (p1[(Int.toNat v42)]!)) ON3 (hp1.bel hB48) hg56 rfl rfl) rfl ?_
        refine wl_step rfl (g_call (vs := #[.int .i64 (p1[(Int.toNat v42)]!), .int .i64 0, .int .i64 10000]) CF67 (args3 rfl rfl rfl) (m_spec_l01In_fn (p1[(Int.toNat v42)]!) 0 10000 hm)) ?_
        rintro _ w57 ⟨r60, hm, rfl, hE58⟩
        have hB61 := hB48.trans (Ext.stp hE58 hS49.base)
        have hS62 := hS49.ext hE58
        refine wl_val (g_not (a := r60) rfl) rfl ?_
        refine wl_nil ?_
        refine hK55 _ _ ?_
        refine w_condI (p := ¬ (r60 = true)) (b := (!r60)) rfl (i_not Iff.rfl) (fun h63 => ?_) (fun h63 => ?_)
        · replace hm := hm.1 h63
          refine w_seq fun K64 hK64 => ?_
          refine w_region ?_
          refine wl_val (g_assign (v := .bool false) rfl) rfl ?_
          refine wl_nil ?_
          refine hK64 _ _ ?_
          refine w_ret ?_
          repeat first | with_reducible refine q_then ?_ | with_reducible refine q_block ?_
          exact ret1 rfl (by decide) ⟨_, hm, rfl, toExt hB61⟩
        · replace hm := hm.2 h63
          refine w_skip ?_
          refine hK54 _ _ ?_
          refine w_region ?_
          refine wl_val (g_move (v := .int .i64 v42) rfl) rfl ?_
          obtain ⟨hg65, hm⟩ := hm
          refine wl_val (g_add (a := v42) (b := 1) rfl rfl hg65) rfl ?_
          refine wl_val (g_assign (v := .int .i64 (v42 + 1)) rfl) rfl ?_
          refine wl_nil ?_
          exact ⟨((v42 + 1)), hm.2, ⟨rfl, rfl, trivial⟩, ⟨hm.1, hB61, hS62⟩⟩
      · replace hm := hm.2 h53
        refine w_exit ?_
        exact ⟨(), trivial, ⟨hm, hB48, hS49⟩⟩
    · rintro _ b_ w66 ⟨hm, hB67, hS68⟩
      show Wp _ _ _ _ (upds b_ []) w66
      refine w_seq fun K69 hK69 => ?_
      refine w_region ?_
      refine wl_val (g_assign (v := .bool true) rfl) rfl ?_
      refine wl_nil ?_
      refine hK69 _ _ ?_
      refine w_ret ?_
      repeat first | with_reducible refine q_then ?_ | with_reducible refine q_block ?_
      exact ret1 rfl (by decide) ⟨_, hm, rfl, toExt hB67⟩

theorem m_spec_l12Common_fn {w : World} {a0_1 : Option Addr} {n0_1 c0_1 : Nat} {a0_2 : Option Addr} {n0_2 c0_2 : Nat} {a1_1 : Option Addr} {n1_1 c1_1 : Nat} {a1_2 : Option Addr} {n1_2 c1_2 : Nat} {Q : Bool → Prop} (p0 : CueC) (hp0_1 : Vw w.heap.size w a0_1 n0_1 c0_1 p0.2.1) (hp0_2 : Vw w.heap.size w a0_2 n0_2 c0_2 p0.2.2) (p1 : CueC) (hp1_1 : Vw w.heap.size w a1_1 n1_1 c1_1 p1.2.1) (hp1_2 : Vw w.heap.size w a1_2 n1_2 c1_2 p1.2.2) (hm : m_spec_l12Common p0 p1 Q) :
    Fn Try.prog 73 #[.agg #[.int .i64 p0.1, .slice a0_1 n0_1 c0_1, .slice a0_2 n0_2 c0_2], .agg #[.int .i64 p1.1, .slice a1_1 n1_1 c1_1, .slice a1_2 n1_2 c1_2]] w (fun v w' => ∃ (r0 : Bool), Q r0 ∧ v = .bool r0 ∧ Ext w w') := by
  unfold m_spec_l12Common at hm
  have hB0 := Below.refl w.heap.size w
  have hS0 : Sep w w.heap.size [] := Sep.nil (Nat.le_refl _)
  refine fn_of_wp Try.func73 rfl (by kernel_rfl) (Nat.le_of_ble_eq_true rfl) ?_
  refine w_seq fun K1 hK1 => ?_
  refine w_region ?_
  refine wl_step rfl (q_box (cs := #[.int .i64 p0.1, .slice a0_1 n0_1 c0_1, .slice a0_2 n0_2 c0_2]) rfl rfl hS0) ?_
  rintro _ w2 ⟨g3, rfl, hS5, hE4⟩
  have hB7 := hB0.trans (Ext.stp hE4 hS0.base)
  refine wl_step rfl (q_box (cs := #[.int .i64 p1.1, .slice a1_1 n1_1 c1_1, .slice a1_2 n1_2 c1_2]) rfl rfl hS5) ?_
  rintro _ w8 ⟨g9, rfl, hS11, hE10⟩
  have hB13 := hB7.trans (Ext.stp hE10 hS5.base)
  refine wl_val (g_assign (v := .bool false) rfl) rfl ?_
  refine wl_nil ?_
  refine hK1 _ _ ?_
  refine w_cut (σ := Unit) (fun _ => []) (fun _ w' => m_spec_l12Common_K1 Q ∧ Below w.heap.size w w' ∧ Sep w' w.heap.size []) ?_ ?_
  · refine w_seq fun K15 hK15 => ?_
    refine w_region ?_
    refine wl_val (g_assign (v := .int .i64 0) rfl) rfl ?_
    refine wl_nil ?_
    refine hK15 _ _ ?_
    refine w_block ?_
    have hS176 := hS11.f1
    obtain ⟨I177, μ178, h0179, hr180⟩ := hm
    refine w_for (σ := Int) (fun v175 => [(2, .pointer (some (⟨g3, 0, none⟩ : Addr))), (3, .pointer (some (⟨g9, 0, none⟩ : Addr))), (5, .int .i64 v175)]) (fun v175 w' => I177 v175 ∧ Below w.heap.size w w' ∧ Sep w' w.heap.size [oB g3 39 #[.int .i64 p0.1, .slice a0_1 n0_1 c0_1, .slice a0_2 n0_2 c0_2], oB g9 39 #[.int .i64 p1.1, .slice a1_1 n1_1 c1_1, .slice a1_2 n1_2 c1_2]]) (fun v175 => μ178 v175) (0) ⟨rfl, rfl, rfl, trivial⟩ ⟨h0179, hB13, hS176⟩ ?_
    rintro v175 b_ w181 ⟨hi_, hB182, hS183⟩
    show Wp _ _ _ _ (upds b_ [(2, .pointer (some (⟨g3, 0, none⟩ : Addr))), (3, .pointer (some (⟨g9, 0, none⟩ : Addr))), (5, .int .i64 v175)]) w181
    have hm := hr180 v175 hi_
    refine w_seq fun K185 hK185 => ?_
    refine w_seq fun K186 hK186 => ?_
    refine w_region ?_
    refine wl_val (g_move (v := .int .i64 v175) rfl) rfl ?_
    refine wl_val (g_fieldAddr (q := (⟨g3, 0, none⟩ : Addr)) FL39_2 ON24 rfl) rfl ?_
    refine wl_val (q_loadB (i := 2) (bs := #[.int .i64 p0.1, .slice a0_1 n0_1 c0_1, .slice a0_2 n0_2 c0_2]) hS183.g0 ON24 rfl rfl) rfl ?_
    refine wl_val (q_len SL24 rfl (Vw.len (hp0_2.bel hB182))) rfl ?_
    refine wl_val (g_lss (a := v175) (b := (p0.2.2.length : Int)) rfl rfl) rfl ?_
    refine wl_nil ?_
    refine hK186 _ _ ?_
    refine w_condI (p := v175 < (p0.2.2.length : Int)) (b := (decide (v175 < (p0.2.2.length : Int)))) rfl decide_eq_true_iff (fun h187 => ?_) (fun h187 => ?_)
    · replace hm := hm.1 h187
      refine w_skip ?_
      refine hK185 _ _ ?_
      refine w_cut (σ := Unit) (fun _ => [(2, .pointer (some (⟨g3, 0, none⟩ : Addr))), (3, .pointer (some (⟨g9, 0, none⟩ : Addr))), (5, .int .i64 v175)]) (fun _ w' => m_spec_l12Common_K0 v175 (fun v175' => I177 v175' ∧ μ178 v175' < μ178 v175) ∧ Below w.heap.size w w' ∧ Sep w' w.heap.size [oB g3 39 #[.int .i64 p0.1, .slice a0_1 n0_1 c0_1, .slice a0_2 n0_2 c0_2], oB g9 39 #[.int .i64 p1.1, .slice a1_1 n1_1 c1_1, .slice a1_2 n1_2 c1_2]]) ?_ ?_
      · refine w_block ?_
        refine w_seq fun K189 hK189 => ?_
        refine w_region ?_
        refine wl_val (g_assign (v := .int .i64 0) rfl) rfl ?_
        refine wl_nil ?_
        refine hK189 _ _ ?_
        refine w_block ?_
        obtain ⟨I191, μ192, h0193, hr194⟩ := hm
        refine w_for (σ := Int) (fun v190 => [(2, .pointer (some (⟨g3, 0, none⟩ : Addr))), (3, .pointer (some (⟨g9, 0, none⟩ : Addr))), (5, .int .i64 v175), (6, .int .i64 v190)]) (fun v190 w' => I191 v190 ∧ Below w.heap.size w w' ∧ Sep w' w.heap.size [oB g3 39 #[.int .i64 p0.1, .slice a0_1 n0_1 c0_1, .slice a0_2 n0_2 c0_2], oB g9 39 #[.int .i64 p1.1, .slice a1_1 n1_1 c1_1, .slice a1_2 n1_2 c1_2]]) (fun v190 => μ192 v190) (0) ⟨rfl, rfl, rfl, rfl, trivial⟩ ⟨h0193, hB182, hS183⟩ ?_
        rintro v190 b_ w195 ⟨hi_, hB196, hS197⟩
        show Wp _ _ _ _ (upds b_ [(2, .pointer (some (⟨g3, 0, none⟩ : Addr))), (3, .pointer (some (⟨g9, 0, none⟩ : Addr))), (5, .int .i64 v175), (6, .int .i64 v190)]) w195
        have hm := hr194 v190 hi_
        refine w_seq fun K199 hK199 => ?_
        refine w_seq fun K200 hK200 => ?_
        refine w_region ?_
        refine wl_val (g_move (v := .int .i64 v190) rfl) rfl ?_
        refine wl_val (g_fieldAddr (q := (⟨g9, 0, none⟩ : Addr)) FL39_2 ON24 rfl) rfl ?_
        refine wl_val (q_loadB (i := 2) (bs := #[.int .i64 p1.1, .slice a1_1 n1_1 c1_1, .slice a1_2 n1_2 c1_2]) hS197.g1 ON24 rfl rfl) rfl ?_
        refine wl_val (q_len SL24 rfl (Vw.len (hp1_2.bel hB196))) rfl ?_
        refine wl_val (g_lss (a := v190) (b := (p1.2.2.length : Int)) rfl rfl) rfl ?_
        refine wl_nil ?_
        refine hK200 _ _ ?_
        refine w_condI (p := v190 < (p1.2.2.length : Int)) (b := (decide (v190 < (p1.2.2.length : Int)))) rfl decide_eq_true_iff (fun h201 => ?_) (fun h201 => ?_)
        · replace hm := hm.1 h201
          refine w_skip ?_
          refine hK199 _ _ ?_
          refine w_seq fun K202 hK202 => ?_
          refine w_block ?_
          refine w_seq fun K203 hK203 => ?_
          refine w_draw (X := Ext) (Y := Ext) [] MIX (by decide +kernel) rfl Ext.refl (fun _ _ _ => Ext.trans) (fun _ _ _ => Chg.trans) (fun _ _ h => Ext.chg h _) (fun w204 hE205 => ?_)
          have hB206 := hB196.trans (Ext.stp hE205 hS197.base)
          have hS207 := hS197.ext hE205
          refine ⟨.pointer (some (((⟨g3, 0, none⟩ : Addr)).add 2)), fun w208 hX209 => od_plain rfl (by have hS210 := hS207.ext hX209; have hB211 := hB206.trans (Ext.stp hX209 hS207.base); exact is_ext (g_fieldAddr (q := (⟨g3, 0, none⟩ : Addr)) FL39_2 ON24 rfl)), ?_⟩
          refine ⟨.slice a0_2 n0_2 c0_2, fun w212 hX213 => od_plain rfl (by have hS214 := hS207.ext hX213; have hB215 := hB206.trans (Ext.stp hX213 hS207.base); exact is_ext (q_loadB (i := 2) (bs := #[.int .i64 p0.1, .slice a0_1 n0_1 c0_1, .slice a0_2 n0_2 c0_2]) hS214.g0 ON24 rfl rfl)), ?_⟩
          refine ⟨.int .i64 v175, fun w216 hX217 => od_plain rfl (by have hS218 := hS207.ext hX217; have hB219 := hB206.trans (Ext.stp hX217 hS207.base); exact is_ext (g_move (v := .int .i64 v175) rfl)), ?_⟩
          obtain ⟨hg224, hm⟩ := hm
          refine ⟨.pointer (some ((adr a0_2).add ((Int.toNat v175) * El.m Int))), fun w220 hX221 => od_plain rfl (by have hS222 := hS207.ext hX221; have hB223 := hB206.trans (Ext.stp hX221 hS207.base); exact is_ext (q_index (i := v175) SL24 rfl rfl (hp0_2.bel hB223) hg224)), ?_⟩
          refine ⟨.int .i64 (p0.2.2[(Int.toNat v175)]!), fun w225 hX226 => od_plain rfl (by have hS227 := hS207.ext hX226; have hB228 := hB206.trans (Ext.stp hX226 hS207.base); exact is_ext (q_load (i := v175) (v := .int .i64 (p0.2.2[(Int.toNat v175)]!)) ON3 (hp0_2.bel hB228) hg224 rfl rfl)), ?_⟩
          refine ⟨.pointer (some (((⟨g9, 0, none⟩ : Addr)).add 2)), fun w229 hX230 => od_plain rfl (by have hS231 := hS207.ext hX230; have hB232 := hB206.trans (Ext.stp hX230 hS207.base); exact is_ext (g_fieldAddr (q := (⟨g9, 0, none⟩ : Addr)) FL39_2 ON24 rfl)), ?_⟩
          refine ⟨.slice a1_2 n1_2 c1_2, fun w233 hX234 => od_plain rfl (by have hS235 := hS207.ext hX234; have hB236 := hB206.trans (Ext.stp hX234 hS207.base); exact is_ext (q_loadB (i := 2) (bs := #[.int .i64 p1.1, .slice a1_1 n1_1 c1_1, .slice a1_2 n1_2 c1_2]) hS235.g1 ON24 rfl rfl)), ?_⟩
          refine ⟨.int .i64 v190, fun w237 hX238 => od_plain rfl (by have hS239 := hS207.ext hX238; have hB240 := hB206.trans (Ext.stp hX238 hS207.base); exact is_ext (g_move (v := .int .i64 v190) rfl)), ?_⟩
          obtain ⟨hg245, hm⟩ := hm
          refine ⟨.pointer (some ((adr a1_2).add ((Int.toNat v190) * El.m Int))), fun w241 hX242 => od_plain rfl (by have hS243 := hS207.ext hX242; have hB244 := hB206.trans (Ext.stp hX242 hS207.base); exact is_ext (q_index (i := v190) SL24 rfl rfl (hp1_2.bel hB244) hg245)), ?_⟩
          refine ⟨.int .i64 (p1.2.2[(Int.toNat v190)]!), fun w246 hX247 => od_plain rfl (by have hS248 := hS207.ext hX247; have hB249 := hB206.trans (Ext.stp hX247 hS207.base); exact is_ext (q_load (i := v190) (v := .int .i64 (p1.2.2[(Int.toNat v190)]!)) ON3 (hp1_2.bel hB249) hg245 rfl rfl)), ?_⟩
          refine ⟨.bool (decide (p0.2.2[(Int.toNat v175)]! = p1.2.2[(Int.toNat v190)]!)), fun w250 hX251 => od_plain rfl (by have hS252 := hS207.ext hX251; have hB253 := hB206.trans (Ext.stp hX251 hS207.base); exact is_ext (g_eql (a := p0.2.2[(Int.toNat v175)]!) (b := p1.2.2[(Int.toNat v190)]!) rfl rfl)), ?_⟩
          intro w254 hX255
          have hB256 := hB206.trans (Ext.stp hX255 hS207.base)
          have hS257 := hS207.ext hX255
          refine hK203 _ _ ?_
          refine w_condI (p := p0.2.2[(Int.toNat v175)]! = p1.2.2[(Int.toNat v190)]!) (b := (decide (p0.2.2[(Int.toNat v175)]! = p1.2.2[(Int.toNat v190)]!))) rfl decide_eq_true_iff (fun h258 => ?_) (fun h258 => ?_)
          · replace hm := hm.1 h258
            refine w_seq fun K259 hK259 => ?_
            refine w_region ?_
            refine wl_val (g_assign (v := .bool true) rfl) rfl ?_
            refine wl_nil ?_
            refine hK259 _ _ ?_
            refine w_ret ?_
            repeat first | with_reducible refine q_then ?_ | with_reducible refine q_block ?_
            exact ret1 rfl (by decide) ⟨_, hm, rfl, toExt hB256⟩
          · replace hm := hm.2 h258
            refine w_skip ?_
            refine hK202 _ _ ?_
            refine w_region ?_
            refine wl_val (g_move (v := .int .i64 v190) rfl) rfl ?_
            obtain ⟨hg260, hm⟩ := hm
            refine wl_val (g_add (a := v190) (b := 1) rfl rfl hg260) rfl ?_
            refine wl_val (g_assign (v := .int .i64 (v190 + 1)) rfl) rfl ?_
            refine wl_nil ?_
            exact ⟨((v190 + 1)), hm.2, ⟨rfl, rfl, rfl, rfl, trivial⟩, ⟨hm.1, hB256, hS257⟩⟩
        · replace hm := hm.2 h201
          refine w_exit ?_
          exact ⟨(), ⟨rfl, rfl, rfl, trivial⟩, ⟨hm, hB196, hS197⟩⟩
      · rintro _ b_ w261 ⟨hm, hB262, hS263⟩
        show Wp _ _ _ _ (upds b_ [(2, .pointer (some (⟨g3, 0, none⟩ : Addr))), (3, .pointer (some (⟨g9, 0, none⟩ : Addr))), (5, .int .i64 v175)]) w261
        refine w_region ?_
        refine wl_val (g_move (v := .int .i64 v175) rfl) rfl ?_
        obtain ⟨hg264, hm⟩ := hm
        refine wl_val (g_add (a := v175) (b := 1) rfl rfl hg264) rfl ?_
        refine wl_val (g_assign (v := .int .i64 (v175 + 1)) rfl) rfl ?_
        refine wl_nil ?_
        exact ⟨((v175 + 1)), hm.2, ⟨rfl, rfl, rfl, trivial⟩, ⟨hm.1, hB262, hS263⟩⟩
    · replace hm := hm.2 h187
      refine w_exit ?_
      have hS265 := hS183.tail
      have hS266 := hS265.tail
      exact ⟨(), trivial, ⟨hm, hB182, hS266⟩⟩
  · rintro _ b_ w267 ⟨hm, hB268, hS269⟩
    show Wp _ _ _ _ (upds b_ []) w267
    refine w_seq fun K270 hK270 => ?_
    refine w_region ?_
    refine wl_val (g_assign (v := .bool false) rfl) rfl ?_
    refine wl_nil ?_
    refine hK270 _ _ ?_
    refine w_ret ?_
    repeat first | with_reducible refine q_then ?_ | with_reducible refine q_block ?_
    exact ret1 rfl (by decide) ⟨_, hm, rfl, toExt hB268⟩

theorem m_spec_ClashesIn_fn {w : World} {a0 : Option Addr} {n0 c0 : Nat} {y0 : List CueD} {p0 : List CueC} {a1 : Option Addr} {n1 c1 : Nat} {p1 : List Int} {Q : (List (List Int)) → Prop} (hp0 : Tv w.heap.size w a0 n0 c0 y0 p0) (hp1 : Vw w.heap.size w a1 n1 c1 p1) (hm : m_spec_ClashesIn p0 p1 Q) :
    Fn Try.prog 51 #[.slice a0 n0 c0, .slice a1 n1 c1] w (fun v w' => ∃ (r0 : List (List Int)) (a0 : Option Addr) (n0 c0 : Nat) (y0 : List (Hd Int)), Q r0 ∧ ers y0 = r0 ∧ v = .slice a0 n0 c0 ∧ Ext w w' ∧ Sep w' w.heap.size [oS 24 a0 n0 c0 y0, oT 3 y0]) := by
  unfold m_spec_ClashesIn at hm
  have hB0 := Below.refl w.heap.size w
  have hS0 : Sep w w.heap.size [] := Sep.nil (Nat.le_refl _)
  refine fn_of_wp Try.func51 rfl (by kernel_rfl) (Nat.le_of_ble_eq_true rfl) ?_
  refine w_seq fun K1 hK1 => ?_
  refine w_region ?_
  refine wl_val (g_assign (v := .slice none 0 0) rfl) rfl ?_
  refine wl_nil ?_
  refine hK1 _ _ ?_
  refine w_seq fun K2 hK2 => ?_
  refine w_region ?_
  refine wl_step rfl (q_lit0 (α := (Hd Int)) rfl SL44 hS0) ?_
  rintro _ w3 ⟨a4, rfl, hS6, hE5⟩
  have hB8 := hB0.trans (Ext.stp hE5 hS0.base)
  have hS9 := hS6.noRows (δ := Hd Int) (E := 3)
  have he11 : ers ([] : List (Hd Int)) = ([] : List (List Int)) := rfl
  refine wl_val (g_assign (v := .slice a4 0 0) rfl) rfl ?_
  refine wl_nil ?_
  refine hK2 _ _ ?_
  refine w_seq fun K13 hK13 => ?_
  refine w_seq fun K14 hK14 => ?_
  refine w_region ?_
  refine wl_val (g_move (v := .slice a0 n0 c0) rfl) rfl ?_
  refine wl_val (g_move (v := .slice a1 n1 c1) rfl) rfl ?_
  refine wl_step rfl (g_call (vs := #[.slice a0 n0 c0, .slice a1 n1 c1]) CF72 (args2 rfl rfl) (m_spec_l12Starts_fn ((hp0.bel hB8).up hS9) ((hp1.bel hB8).up hS9) hm)) ?_
  rintro _ w15 ⟨r18, hm, rfl, hE16⟩
  have hB19 := hB8.trans (Ext.stp hE16 hS9.base)
  have hS20 := hS9.ext hE16
  refine wl_val (g_not (a := r18) rfl) rfl ?_
  refine wl_nil ?_
  refine hK14 _ _ ?_
  refine w_condI (p := ¬ (r18 = true)) (b := (!r18)) rfl (i_not Iff.rfl) (fun h21 => ?_) (fun h21 => ?_)
  · replace hm := hm.1 h21
    refine w_seq fun K22 hK22 => ?_
    refine w_region ?_
    refine wl_val (g_move (v := .slice a4 0 0) rfl) rfl ?_
    refine wl_val (g_assign (v := .slice a4 0 0) rfl) rfl ?_
    refine wl_nil ?_
    refine hK22 _ _ ?_
    refine w_ret ?_
    have hS23 := hS20.f1
    repeat first | with_reducible refine q_then ?_ | with_reducible refine q_block ?_
    exact ret1 rfl (by decide) ⟨_, _, _, _, _, hm, he11, rfl, toExt hB19, hS23⟩
  · replace hm := hm.2 h21
    refine w_skip ?_
    refine hK13 _ _ ?_
    refine w_cut (σ := List (List Int) × Option Addr × Nat × Nat × List (Hd Int)) (fun ⟨x1189, a1190, n1191, c1192, y1193⟩ => [(5, .slice a1190 n1191 c1192)]) (fun ⟨x1189, a1190, n1191, c1192, y1193⟩ w' => m_spec_ClashesIn_K1 Q x1189 ∧ ers y1193 = x1189 ∧ Below w.heap.size w w' ∧ Sep w' w.heap.size [oS 24 a1190 n1191 c1192 (y1193 : List (Hd Int)), oT 3 (y1193 : List (Hd Int))]) ?_ ?_
    · refine w_seq fun K1196 hK1196 => ?_
      refine w_region ?_
      refine wl_val (g_assign (v := .int .i64 0) rfl) rfl ?_
      refine wl_nil ?_
      refine hK1196 _ _ ?_
      refine w_block ?_
      have hS1204 := hS20.f1
      obtain ⟨I1205, μ1206, h01207, hr1208⟩ := hm
      refine w_for (σ := List (List Int) × Option Addr × Nat × Nat × List (Hd Int) × Int) (fun ⟨x1197, a1198, n1199, c1200, y1201, v1203⟩ => [(0, .slice a0 n0 c0), (1, .slice a1 n1 c1), (5, .slice a1198 n1199 c1200), (6, .int .i64 v1203)]) (fun ⟨x1197, a1198, n1199, c1200, y1201, v1203⟩ w' => I1205 x1197 v1203 ∧ ers y1201 = x1197 ∧ Below w.heap.size w w' ∧ Sep w' w.heap.size [oS 24 a1198 n1199 c1200 (y1201 : List (Hd Int)), oT 3 (y1201 : List (Hd Int))]) (fun ⟨x1197, a1198, n1199, c1200, y1201, v1203⟩ => μ1206 x1197 v1203) ([], a4, 0, 0, [], 0) ⟨rfl, rfl, rfl, rfl, trivial⟩ ⟨h01207, he11, hB19, hS1204⟩ ?_
      rintro ⟨x1197, a1198, n1199, c1200, y1201, v1203⟩ b_ w1209 ⟨hi_, he1202, hB1210, hS1211⟩
      show Wp _ _ _ _ (upds b_ [(0, .slice a0 n0 c0), (1, .slice a1 n1 c1), (5, .slice a1198 n1199 c1200), (6, .int .i64 v1203)]) w1209
      have hm := hr1208 x1197 v1203 hi_
      refine w_seq fun K1213 hK1213 => ?_
      refine w_seq fun K1214 hK1214 => ?_
      refine w_region ?_
      refine wl_val (g_move (v := .int .i64 v1203) rfl) rfl ?_
      refine wl_val (g_move (v := .slice a0 n0 c0) rfl) rfl ?_
      refine wl_val (q_len SL26 rfl (Tv.len (hp0.bel hB1210))) rfl ?_
      refine wl_val (g_lss (a := v1203) (b := (p0.length : Int)) rfl rfl) rfl ?_
      refine wl_nil ?_
      refine hK1214 _ _ ?_
      refine w_condI (p := v1203 < (p0.length : Int)) (b := (decide (v1203 < (p0.length : Int)))) rfl decide_eq_true_iff (fun h1215 => ?_) (fun h1215 => ?_)
      · replace hm := hm.1 h1215
        refine w_skip ?_
        refine hK1213 _ _ ?_
        refine w_cut (σ := List (List Int) × Option Addr × Nat × Nat × List (Hd Int)) (fun ⟨x1216, a1217, n1218, c1219, y1220⟩ => [(0, .slice a0 n0 c0), (1, .slice a1 n1 c1), (5, .slice a1217 n1218 c1219), (6, .int .i64 v1203)]) (fun ⟨x1216, a1217, n1218, c1219, y1220⟩ w' => m_spec_ClashesIn_K0 v1203 (fun x1197' v1203' => I1205 x1197' v1203' ∧ μ1206 x1197' v1203' < μ1206 x1197 v1203) x1216 ∧ ers y1220 = x1216 ∧ Below w.heap.size w w' ∧ Sep w' w.heap.size [oS 24 a1217 n1218 c1219 (y1220 : List (Hd Int)), oT 3 (y1220 : List (Hd Int))]) ?_ ?_
        · refine w_block ?_
          refine w_seq fun K1223 hK1223 => ?_
          refine w_region ?_
          refine wl_val (g_move (v := .int .i64 v1203) rfl) rfl ?_
          obtain ⟨hg1224, hm⟩ := hm
          refine wl_val (g_add (a := v1203) (b := 1) rfl rfl hg1224) rfl ?_
          refine wl_val (g_assign (v := .int .i64 (v1203 + 1)) rfl) rfl ?_
          refine wl_nil ?_
          refine hK1223 _ _ ?_
          refine w_block ?_
          obtain ⟨I1232, μ1233, h01234, hr1235⟩ := hm
          refine w_for (σ := List (List Int) × Option Addr × Nat × Nat × List (Hd Int) × Int) (fun ⟨x1225, a1226, n1227, c1228, y1229, v1231⟩ => [(0, .slice a0 n0 c0), (1, .slice a1 n1 c1), (5, .slice a1226 n1227 c1228), (6, .int .i64 v1203), (7, .int .i64 v1231)]) (fun ⟨x1225, a1226, n1227, c1228, y1229, v1231⟩ w' => I1232 x1225 v1231 ∧ ers y1229 = x1225 ∧ Below w.heap.size w w' ∧ Sep w' w.heap.size [oS 24 a1226 n1227 c1228 (y1229 : List (Hd Int)), oT 3 (y1229 : List (Hd Int))]) (fun ⟨x1225, a1226, n1227, c1228, y1229, v1231⟩ => μ1233 x1225 v1231) (x1197, a1198, n1199, c1200, y1201, (v1203 + 1)) ⟨rfl, rfl, rfl, rfl, rfl, trivial⟩ ⟨h01234, he1202, hB1210, hS1211⟩ ?_
          rintro ⟨x1225, a1226, n1227, c1228, y1229, v1231⟩ b_ w1236 ⟨hi_, he1230, hB1237, hS1238⟩
          show Wp _ _ _ _ (upds b_ [(0, .slice a0 n0 c0), (1, .slice a1 n1 c1), (5, .slice a1226 n1227 c1228), (6, .int .i64 v1203), (7, .int .i64 v1231)]) w1236
          have hm := hr1235 x1225 v1231 hi_
          refine w_seq fun K1240 hK1240 => ?_
          refine w_seq fun K1241 hK1241 => ?_
          refine w_region ?_
          refine wl_val (g_move (v := .int .i64 v1231) rfl) rfl ?_
          refine wl_val (g_move (v := .slice a0 n0 c0) rfl) rfl ?_
          refine wl_val (q_len SL26 rfl (Tv.len (hp0.bel hB1237))) rfl ?_
          refine wl_val (g_lss (a := v1231) (b := (p0.length : Int)) rfl rfl) rfl ?_
          refine wl_nil ?_
          refine hK1241 _ _ ?_
          refine w_condI (p := v1231 < (p0.length : Int)) (b := (decide (v1231 < (p0.length : Int)))) rfl decide_eq_true_iff (fun h1242 => ?_) (fun h1242 => ?_)
          · replace hm := hm.1 h1242
            refine w_skip ?_
            refine hK1240 _ _ ?_
            refine w_seq fun K1243 hK1243 => ?_
            refine w_block ?_
            refine w_seq fun K1244 hK1244 => ?_
            refine w_draw (X := Ext) (Y := Ext) [] MIX (by decide +kernel) rfl Ext.refl (fun _ _ _ => Ext.trans) (fun _ _ _ => Chg.trans) (fun _ _ h => Ext.chg h _) (fun w1245 hE1246 => ?_)
            have hB1247 := hB1237.trans (Ext.stp hE1246 hS1238.base)
            have hS1248 := hS1238.ext hE1246
            refine ⟨.slice a0 n0 c0, fun w1249 hX1250 => od_plain rfl (by have hS1251 := hS1248.ext hX1250; have hB1252 := hB1247.trans (Ext.stp hX1250 hS1248.base); exact is_ext (g_move (v := .slice a0 n0 c0) rfl)), ?_⟩
            refine ⟨.int .i64 v1203, fun w1253 hX1254 => od_plain rfl (by have hS1255 := hS1248.ext hX1254; have hB1256 := hB1247.trans (Ext.stp hX1254 hS1248.base); exact is_ext (g_move (v := .int .i64 v1203) rfl)), ?_⟩
            obtain ⟨hg1261, hm⟩ := hm
            refine ⟨.pointer (some ((adr a0).add ((Int.toNat v1203) * El.m CueD))), fun w1257 hX1258 => od_plain rfl (by have hS1259 := hS1248.ext hX1258; have hB1260 := hB1247.trans (Ext.stp hX1258 hS1248.base); exact is_ext (q_index (i := v1203) SL26 rfl rfl (Tv.o (hp0.bel hB1260)) (Tv.g (hp0.bel hB1260) hg1261))), ?_⟩
            refine ⟨.agg #[.int .i64 (p0[(Int.toNat v1203)]!.1), .slice ((y0[(Int.toNat v1203)]!).2.1.1) ((y0[(Int.toNat v1203)]!).2.1.2.2.length) ((y0[(Int.toNat v1203)]!).2.1.2.1), .slice ((y0[(Int.toNat v1203)]!).2.2.1) ((y0[(Int.toNat v1203)]!).2.2.2.2.length) ((y0[(Int.toNat v1203)]!).2.2.2.1)], fun w1262 hX1263 => od_plain rfl (by have hS1264 := hS1248.ext hX1263; have hB1265 := hB1247.trans (Ext.stp hX1263 hS1248.base); exact is_ext (q_loadS (i := v1203) (cs := [.int .i64 (p0[(Int.toNat v1203)]!.1), .slice ((y0[(Int.toNat v1203)]!).2.1.1) ((y0[(Int.toNat v1203)]!).2.1.2.2.length) ((y0[(Int.toNat v1203)]!).2.1.2.1), .slice ((y0[(Int.toNat v1203)]!).2.2.1) ((y0[(Int.toNat v1203)]!).2.2.2.2.length) ((y0[(Int.toNat v1203)]!).2.2.2.1)]) AG39 (Tv.o (hp0.bel hB1265)) (Tv.g (hp0.bel hB1265) hg1261) (by rw [← Tv.ticks (hp0.bel hB1265) hg1261]; rfl) rfl)), ?_⟩
            refine ⟨.slice a0 n0 c0, fun w1266 hX1267 => od_plain rfl (by have hS1268 := hS1248.ext hX1267; have hB1269 := hB1247.trans (Ext.stp hX1267 hS1248.base); exact is_ext (g_move (v := .slice a0 n0 c0) rfl)), ?_⟩
            refine ⟨.int .i64 v1231, fun w1270 hX1271 => od_plain rfl (by have hS1272 := hS1248.ext hX1271; have hB1273 := hB1247.trans (Ext.stp hX1271 hS1248.base); exact is_ext (g_move (v := .int .i64 v1231) rfl)), ?_⟩
            obtain ⟨hg1278, hm⟩ := hm
            refine ⟨.pointer (some ((adr a0).add ((Int.toNat v1231) * El.m CueD))), fun w1274 hX1275 => od_plain rfl (by have hS1276 := hS1248.ext hX1275; have hB1277 := hB1247.trans (Ext.stp hX1275 hS1248.base); exact is_ext (q_index (i := v1231) SL26 rfl rfl (Tv.o (hp0.bel hB1277)) (Tv.g (hp0.bel hB1277) hg1278))), ?_⟩
            refine ⟨.agg #[.int .i64 (p0[(Int.toNat v1231)]!.1), .slice ((y0[(Int.toNat v1231)]!).2.1.1) ((y0[(Int.toNat v1231)]!).2.1.2.2.length) ((y0[(Int.toNat v1231)]!).2.1.2.1), .slice ((y0[(Int.toNat v1231)]!).2.2.1) ((y0[(Int.toNat v1231)]!).2.2.2.2.length) ((y0[(Int.toNat v1231)]!).2.2.2.1)], fun w1279 hX1280 => od_plain rfl (by have hS1281 := hS1248.ext hX1280; have hB1282 := hB1247.trans (Ext.stp hX1280 hS1248.base); exact is_ext (q_loadS (i := v1231) (cs := [.int .i64 (p0[(Int.toNat v1231)]!.1), .slice ((y0[(Int.toNat v1231)]!).2.1.1) ((y0[(Int.toNat v1231)]!).2.1.2.2.length) ((y0[(Int.toNat v1231)]!).2.1.2.1), .slice ((y0[(Int.toNat v1231)]!).2.2.1) ((y0[(Int.toNat v1231)]!).2.2.2.2.length) ((y0[(Int.toNat v1231)]!).2.2.2.1)]) AG39 (Tv.o (hp0.bel hB1282)) (Tv.g (hp0.bel hB1282) hg1278) (by rw [← Tv.ticks (hp0.bel hB1282) hg1278]; rfl) rfl)), ?_⟩
            obtain ⟨r1287, hk1288, hm⟩ := hm
            refine ⟨.bool r1287, fun w1283 hX1284 => od_plain rfl (by have hS1285 := hS1248.ext hX1284; have hB1286 := hB1247.trans (Ext.stp hX1284 hS1248.base); exact (g_call (vs := #[.agg #[.int .i64 (p0[(Int.toNat v1203)]!.1), .slice ((y0[(Int.toNat v1203)]!).2.1.1) ((y0[(Int.toNat v1203)]!).2.1.2.2.length) ((y0[(Int.toNat v1203)]!).2.1.2.1), .slice ((y0[(Int.toNat v1203)]!).2.2.1) ((y0[(Int.toNat v1203)]!).2.2.2.2.length) ((y0[(Int.toNat v1203)]!).2.2.2.1)], .agg #[.int .i64 (p0[(Int.toNat v1231)]!.1), .slice ((y0[(Int.toNat v1231)]!).2.1.1) ((y0[(Int.toNat v1231)]!).2.1.2.2.length) ((y0[(Int.toNat v1231)]!).2.1.2.1), .slice ((y0[(Int.toNat v1231)]!).2.2.1) ((y0[(Int.toNat v1231)]!).2.2.2.2.length) ((y0[(Int.toNat v1231)]!).2.2.2.1)]]) CF73 (args2 rfl rfl) ((m_spec_l12Common_fn (p0[(Int.toNat v1203)]!) ((Tv.rowC0 (hp0.bel hB1286) hg1261).up hS1285) ((Tv.rowC1 (hp0.bel hB1286) hg1261).up hS1285) (p0[(Int.toNat v1231)]!) ((Tv.rowC0 (hp0.bel hB1286) hg1278).up hS1285) ((Tv.rowC1 (hp0.bel hB1286) hg1278).up hS1285) hk1288).mono fun _ _ ⟨_, h1, h2, h3⟩ => ⟨by rw [h2, h1], h3⟩))), ?_⟩
            refine ⟨.bool r1287, fun w1289 hX1290 => od_plain rfl (by have hS1291 := hS1248.ext hX1290; have hB1292 := hB1247.trans (Ext.stp hX1290 hS1248.base); exact is_ext (g_move (v := .bool r1287) rfl)), ?_⟩
            refine ⟨if r1287 = true then .slice a1 n1 c1 else undef, fun w1293 hX1294 => od_guard (c := r1287 = true) (val := .slice a1 n1 c1) (b := (r1287 == true)) (gv_some rfl rfl rfl) beq_iff_eq (fun hc1297 => ?_), ?_⟩
            · have hS1295 := hS1248.ext hX1294
              have hB1296 := hB1247.trans (Ext.stp hX1294 hS1248.base)
              have hq8 : r1287 = true := (Iff.rfl.mp hc1297)
              exact is_ext (g_move (v := .slice a1 n1 c1) rfl)
            refine ⟨if r1287 = true then .int .i64 v1203 else undef, fun w1298 hX1299 => od_guard (c := r1287 = true) (val := .int .i64 v1203) (b := (r1287 == true)) (gv_some rfl rfl rfl) beq_iff_eq (fun hc1302 => ?_), ?_⟩
            · have hS1300 := hS1248.ext hX1299
              have hB1301 := hB1247.trans (Ext.stp hX1299 hS1248.base)
              have hq8 : r1287 = true := (Iff.rfl.mp hc1302)
              exact is_ext (g_move (v := .int .i64 v1203) rfl)
            obtain ⟨hg1308, hm⟩ := hm
            refine ⟨if r1287 = true then .pointer (some ((adr a1).add ((Int.toNat v1203) * El.m Int))) else undef, fun w1303 hX1304 => od_guard (c := r1287 = true) (val := .pointer (some ((adr a1).add ((Int.toNat v1203) * El.m Int)))) (b := (r1287 == true)) (gv_some rfl rfl rfl) beq_iff_eq (fun hc1307 => ?_), ?_⟩
            · have hS1305 := hS1248.ext hX1304
              have hB1306 := hB1247.trans (Ext.stp hX1304 hS1248.base)
              have hq8 : r1287 = true := (Iff.rfl.mp hc1307)
              exact is_ext (q_index (i := v1203) SL24 (if_pos hc1307) (if_pos hc1307) (hp1.bel hB1306) (hg1308 hq8))
            refine ⟨if r1287 = true then .int .i64 (p1[(Int.toNat v1203)]!) else undef, fun w1309 hX1310 => od_guard (c := r1287 = true) (val := .int .i64 (p1[(Int.toNat v1203)]!)) (b := (r1287 == true)) (gv_some rfl rfl rfl) beq_iff_eq (fun hc1313 => ?_), ?_⟩
            · have hS1311 := hS1248.ext hX1310
              have hB1312 := hB1247.trans (Ext.stp hX1310 hS1248.base)
              have hq8 : r1287 = true := (Iff.rfl.mp hc1313)
              exact is_ext (q_load (i := v1203) (v := .int .i64 (p1[(Int.toNat v1203)]!)) ON3 (hp1.bel hB1312) (hg1308 hq8) rfl (if_pos hc1313))
            refine ⟨if r1287 = true then .slice a1 n1 c1 else undef, fun w1314 hX1315 => od_guard (c := r1287 = true) (val := .slice a1 n1 c1) (b := (r1287 == true)) (gv_some rfl rfl rfl) beq_iff_eq (fun hc1318 => ?_), ?_⟩
            · have hS1316 := hS1248.ext hX1315
              have hB1317 := hB1247.trans (Ext.stp hX1315 hS1248.base)
              have hq8 : r1287 = true := (Iff.rfl.mp hc1318)
              exact is_ext (g_move (v := .slice a1 n1 c1) rfl)
            refine ⟨if r1287 = true then .int .i64 v1231 else undef, fun w1319 hX1320 => od_guard (c := r1287 = true) (val := .int .i64 v1231) (b := (r1287 == true)) (gv_some rfl rfl rfl) beq_iff_eq (fun hc1323 => ?_), ?_⟩
            · have hS1321 := hS1248.ext hX1320
              have hB1322 := hB1247.trans (Ext.stp hX1320 hS1248.base)
              have hq8 : r1287 = true := (Iff.rfl.mp hc1323)
              exact is_ext (g_move (v := .int .i64 v1231) rfl)
            obtain ⟨hg1329, hm⟩ := hm
            refine ⟨if r1287 = true then .pointer (some ((adr a1).add ((Int.toNat v1231) * El.m Int))) else undef, fun w1324 hX1325 => od_guard (c := r1287 = true) (val := .pointer (some ((adr a1).add ((Int.toNat v1231) * El.m Int)))) (b := (r1287 == true)) (gv_some rfl rfl rfl) beq_iff_eq (fun hc1328 => ?_), ?_⟩
            · have hS1326 := hS1248.ext hX1325
              have hB1327 := hB1247.trans (Ext.stp hX1325 hS1248.base)
              have hq8 : r1287 = true := (Iff.rfl.mp hc1328)
              exact is_ext (q_index (i := v1231) SL24 (if_pos hc1328) (if_pos hc1328) (hp1.bel hB1327) (hg1329 hq8))
            refine ⟨if r1287 = true then .int .i64 (p1[(Int.toNat v1231)]!) else undef, fun w1330 hX1331 => od_guard (c := r1287 = true) (val := .int .i64 (p1[(Int.toNat v1231)]!)) (b := (r1287 == true)) (gv_some rfl rfl rfl) beq_iff_eq (fun hc1334 => ?_), ?_⟩
            · have hS1332 := hS1248.ext hX1331
              have hB1333 := hB1247.trans (Ext.stp hX1331 hS1248.base)
              have hq8 : r1287 = true := (Iff.rfl.mp hc1334)
              exact is_ext (q_load (i := v1231) (v := .int .i64 (p1[(Int.toNat v1231)]!)) ON3 (hp1.bel hB1333) (hg1329 hq8) rfl (if_pos hc1334))
            refine ⟨if r1287 = true then .slice a0 n0 c0 else undef, fun w1335 hX1336 => od_guard (c := r1287 = true) (val := .slice a0 n0 c0) (b := (r1287 == true)) (gv_some rfl rfl rfl) beq_iff_eq (fun hc1339 => ?_), ?_⟩
            · have hS1337 := hS1248.ext hX1336
              have hB1338 := hB1247.trans (Ext.stp hX1336 hS1248.base)
              have hq8 : r1287 = true := (Iff.rfl.mp hc1339)
              exact is_ext (g_move (v := .slice a0 n0 c0) rfl)
            refine ⟨if r1287 = true then .int .i64 v1231 else undef, fun w1340 hX1341 => od_guard (c := r1287 = true) (val := .int .i64 v1231) (b := (r1287 == true)) (gv_some rfl rfl rfl) beq_iff_eq (fun hc1344 => ?_), ?_⟩
            · have hS1342 := hS1248.ext hX1341
              have hB1343 := hB1247.trans (Ext.stp hX1341 hS1248.base)
              have hq8 : r1287 = true := (Iff.rfl.mp hc1344)
              exact is_ext (g_move (v := .int .i64 v1231) rfl)
            obtain ⟨hg1350, hm⟩ := hm
            refine ⟨if r1287 = true then .pointer (some ((adr a0).add ((Int.toNat v1231) * El.m CueD))) else undef, fun w1345 hX1346 => od_guard (c := r1287 = true) (val := .pointer (some ((adr a0).add ((Int.toNat v1231) * El.m CueD)))) (b := (r1287 == true)) (gv_some rfl rfl rfl) beq_iff_eq (fun hc1349 => ?_), ?_⟩
            · have hS1347 := hS1248.ext hX1346
              have hB1348 := hB1247.trans (Ext.stp hX1346 hS1248.base)
              have hq8 : r1287 = true := (Iff.rfl.mp hc1349)
              exact is_ext (q_index (i := v1231) SL26 (if_pos hc1349) (if_pos hc1349) (Tv.o (hp0.bel hB1348)) (Tv.g (hp0.bel hB1348) (hg1350 hq8)))
            refine ⟨if r1287 = true then .pointer (some (((adr a0).add ((Int.toNat v1231) * El.m CueD)).add 0)) else undef, fun w1351 hX1352 => od_guard (c := r1287 = true) (val := .pointer (some (((adr a0).add ((Int.toNat v1231) * El.m CueD)).add 0))) (b := (r1287 == true)) (gv_some rfl rfl rfl) beq_iff_eq (fun hc1355 => ?_), ?_⟩
            · have hS1353 := hS1248.ext hX1352
              have hB1354 := hB1247.trans (Ext.stp hX1352 hS1248.base)
              have hq8 : r1287 = true := (Iff.rfl.mp hc1355)
              exact is_ext (g_fieldAddr (q := (adr a0).add ((Int.toNat v1231) * El.m CueD)) FL39_0 ON3 (if_pos hc1355))
            refine ⟨if r1287 = true then .int .i64 (p0[(Int.toNat v1231)]!.1) else undef, fun w1356 hX1357 => od_guard (c := r1287 = true) (val := .int .i64 (p0[(Int.toNat v1231)]!.1)) (b := (r1287 == true)) (gv_some rfl rfl rfl) beq_iff_eq (fun hc1360 => ?_), ?_⟩
            · have hS1358 := hS1248.ext hX1357
              have hB1359 := hB1247.trans (Ext.stp hX1357 hS1248.base)
              have hq8 : r1287 = true := (Iff.rfl.mp hc1360)
              exact is_ext (q_loadF (i := v1231) (j := 0) (v := .int .i64 (p0[(Int.toNat v1231)]!.1)) ON3 (Tv.o (hp0.bel hB1359)) (Tv.g (hp0.bel hB1359) (hg1350 hq8)) (by rw [← Tv.ticks (hp0.bel hB1359) (hg1350 hq8)]; rfl) (if_pos hc1360))
            obtain ⟨hg1366, hm⟩ := hm
            refine ⟨if r1287 = true then .int .i64 (p1[(Int.toNat v1231)]! + p0[(Int.toNat v1231)]!.1) else undef, fun w1361 hX1362 => od_guard (c := r1287 = true) (val := .int .i64 (p1[(Int.toNat v1231)]! + p0[(Int.toNat v1231)]!.1)) (b := (r1287 == true)) (gv_some rfl rfl rfl) beq_iff_eq (fun hc1365 => ?_), ?_⟩
            · have hS1363 := hS1248.ext hX1362
              have hB1364 := hB1247.trans (Ext.stp hX1362 hS1248.base)
              have hq8 : r1287 = true := (Iff.rfl.mp hc1365)
              exact is_ext (g_add (a := p1[(Int.toNat v1231)]!) (b := p0[(Int.toNat v1231)]!.1) (if_pos hc1365) (if_pos hc1365) (hg1366 hq8))
            refine ⟨if r1287 = true then .bool (decide (p1[(Int.toNat v1203)]! < (p1[(Int.toNat v1231)]! + p0[(Int.toNat v1231)]!.1))) else undef, fun w1367 hX1368 => od_guard (c := r1287 = true) (val := .bool (decide (p1[(Int.toNat v1203)]! < (p1[(Int.toNat v1231)]! + p0[(Int.toNat v1231)]!.1)))) (b := (r1287 == true)) (gv_some rfl rfl rfl) beq_iff_eq (fun hc1371 => ?_), ?_⟩
            · have hS1369 := hS1248.ext hX1368
              have hB1370 := hB1247.trans (Ext.stp hX1368 hS1248.base)
              have hq8 : r1287 = true := (Iff.rfl.mp hc1371)
              exact is_ext (g_lss (a := p1[(Int.toNat v1203)]!) (b := (p1[(Int.toNat v1231)]! + p0[(Int.toNat v1231)]!.1)) (if_pos hc1371) (if_pos hc1371))
            refine ⟨.bool (r1287 && (decide (p1[(Int.toNat v1203)]! < (p1[(Int.toNat v1231)]! + p0[(Int.toNat v1231)]!.1)))), fun w1372 hX1373 => od_plain rfl (by have hS1374 := hS1248.ext hX1373; have hB1375 := hB1247.trans (Ext.stp hX1373 hS1248.base); exact is_ext (g_pick_and (b := r1287) (q := (decide (p1[(Int.toNat v1203)]! < (p1[(Int.toNat v1231)]! + p0[(Int.toNat v1231)]!.1)))) rfl rfl)), ?_⟩
            refine ⟨.bool (r1287 && (decide (p1[(Int.toNat v1203)]! < (p1[(Int.toNat v1231)]! + p0[(Int.toNat v1231)]!.1)))), fun w1376 hX1377 => od_plain rfl (by have hS1378 := hS1248.ext hX1377; have hB1379 := hB1247.trans (Ext.stp hX1377 hS1248.base); exact is_ext (g_move (v := .bool (r1287 && (decide (p1[(Int.toNat v1203)]! < (p1[(Int.toNat v1231)]! + p0[(Int.toNat v1231)]!.1))))) rfl)), ?_⟩
            refine ⟨if (r1287 && (decide (p1[(Int.toNat v1203)]! < (p1[(Int.toNat v1231)]! + p0[(Int.toNat v1231)]!.1)))) = true then .slice a1 n1 c1 else undef, fun w1380 hX1381 => od_guard (c := (r1287 && (decide (p1[(Int.toNat v1203)]! < (p1[(Int.toNat v1231)]! + p0[(Int.toNat v1231)]!.1)))) = true) (val := .slice a1 n1 c1) (b := ((r1287 && (decide (p1[(Int.toNat v1203)]! < (p1[(Int.toNat v1231)]! + p0[(Int.toNat v1231)]!.1)))) == true)) (gv_some rfl rfl rfl) beq_iff_eq (fun hc1384 => ?_), ?_⟩
            · have hS1382 := hS1248.ext hX1381
              have hB1383 := hB1247.trans (Ext.stp hX1381 hS1248.base)
              have hq9 : ((r1287 = true) ∧ (p1[(Int.toNat v1203)]! < (p1[(Int.toNat v1231)]! + p0[(Int.toNat v1231)]!.1))) := ((i_and Iff.rfl decide_eq_true_iff).mp hc1384)
              exact is_ext (g_move (v := .slice a1 n1 c1) rfl)
            refine ⟨if (r1287 && (decide (p1[(Int.toNat v1203)]! < (p1[(Int.toNat v1231)]! + p0[(Int.toNat v1231)]!.1)))) = true then .int .i64 v1231 else undef, fun w1385 hX1386 => od_guard (c := (r1287 && (decide (p1[(Int.toNat v1203)]! < (p1[(Int.toNat v1231)]! + p0[(Int.toNat v1231)]!.1)))) = true) (val := .int .i64 v1231) (b := ((r1287 && (decide (p1[(Int.toNat v1203)]! < (p1[(Int.toNat v1231)]! + p0[(Int.toNat v1231)]!.1)))) == true)) (gv_some rfl rfl rfl) beq_iff_eq (fun hc1389 => ?_), ?_⟩
            · have hS1387 := hS1248.ext hX1386
              have hB1388 := hB1247.trans (Ext.stp hX1386 hS1248.base)
              have hq9 : ((r1287 = true) ∧ (p1[(Int.toNat v1203)]! < (p1[(Int.toNat v1231)]! + p0[(Int.toNat v1231)]!.1))) := ((i_and Iff.rfl decide_eq_true_iff).mp hc1389)
              exact is_ext (g_move (v := .int .i64 v1231) rfl)
            obtain ⟨hg1395, hm⟩ := hm
            refine ⟨if (r1287 && (decide (p1[(Int.toNat v1203)]! < (p1[(Int.toNat v1231)]! + p0[(Int.toNat v1231)]!.1)))) = true then .pointer (some ((adr a1).add ((Int.toNat v1231) * El.m Int))) else undef, fun w1390 hX1391 => od_guard (c := (r1287 && (decide (p1[(Int.toNat v1203)]! < (p1[(Int.toNat v1231)]! + p0[(Int.toNat v1231)]!.1)))) = true) (val := .pointer (some ((adr a1).add ((Int.toNat v1231) * El.m Int)))) (b := ((r1287 && (decide (p1[(Int.toNat v1203)]! < (p1[(Int.toNat v1231)]! + p0[(Int.toNat v1231)]!.1)))) == true)) (gv_some rfl rfl rfl) beq_iff_eq (fun hc1394 => ?_), ?_⟩
            · have hS1392 := hS1248.ext hX1391
              have hB1393 := hB1247.trans (Ext.stp hX1391 hS1248.base)
              have hq9 : ((r1287 = true) ∧ (p1[(Int.toNat v1203)]! < (p1[(Int.toNat v1231)]! + p0[(Int.toNat v1231)]!.1))) := ((i_and Iff.rfl decide_eq_true_iff).mp hc1394)
              exact is_ext (q_index (i := v1231) SL24 (if_pos hc1394) (if_pos hc1394) (hp1.bel hB1393) (hg1395 hq9))
            refine ⟨if (r1287 && (decide (p1[(Int.toNat v1203)]! < (p1[(Int.toNat v1231)]! + p0[(Int.toNat v1231)]!.1)))) = true then .int .i64 (p1[(Int.toNat v1231)]!) else undef, fun w1396 hX1397 => od_guard (c := (r1287 && (decide (p1[(Int.toNat v1203)]! < (p1[(Int.toNat v1231)]! + p0[(Int.toNat v1231)]!.1)))) = true) (val := .int .i64 (p1[(Int.toNat v1231)]!)) (b := ((r1287 && (decide (p1[(Int.toNat v1203)]! < (p1[(Int.toNat v1231)]! + p0[(Int.toNat v1231)]!.1)))) == true)) (gv_some rfl rfl rfl) beq_iff_eq (fun hc1400 => ?_), ?_⟩
            · have hS1398 := hS1248.ext hX1397
              have hB1399 := hB1247.trans (Ext.stp hX1397 hS1248.base)
              have hq9 : ((r1287 = true) ∧ (p1[(Int.toNat v1203)]! < (p1[(Int.toNat v1231)]! + p0[(Int.toNat v1231)]!.1))) := ((i_and Iff.rfl decide_eq_true_iff).mp hc1400)
              exact is_ext (q_load (i := v1231) (v := .int .i64 (p1[(Int.toNat v1231)]!)) ON3 (hp1.bel hB1399) (hg1395 hq9) rfl (if_pos hc1400))
            refine ⟨if (r1287 && (decide (p1[(Int.toNat v1203)]! < (p1[(Int.toNat v1231)]! + p0[(Int.toNat v1231)]!.1)))) = true then .slice a1 n1 c1 else undef, fun w1401 hX1402 => od_guard (c := (r1287 && (decide (p1[(Int.toNat v1203)]! < (p1[(Int.toNat v1231)]! + p0[(Int.toNat v1231)]!.1)))) = true) (val := .slice a1 n1 c1) (b := ((r1287 && (decide (p1[(Int.toNat v1203)]! < (p1[(Int.toNat v1231)]! + p0[(Int.toNat v1231)]!.1)))) == true)) (gv_some rfl rfl rfl) beq_iff_eq (fun hc1405 => ?_), ?_⟩
            · have hS1403 := hS1248.ext hX1402
              have hB1404 := hB1247.trans (Ext.stp hX1402 hS1248.base)
              have hq9 : ((r1287 = true) ∧ (p1[(Int.toNat v1203)]! < (p1[(Int.toNat v1231)]! + p0[(Int.toNat v1231)]!.1))) := ((i_and Iff.rfl decide_eq_true_iff).mp hc1405)
              exact is_ext (g_move (v := .slice a1 n1 c1) rfl)
            refine ⟨if (r1287 && (decide (p1[(Int.toNat v1203)]! < (p1[(Int.toNat v1231)]! + p0[(Int.toNat v1231)]!.1)))) = true then .int .i64 v1203 else undef, fun w1406 hX1407 => od_guard (c := (r1287 && (decide (p1[(Int.toNat v1203)]! < (p1[(Int.toNat v1231)]! + p0[(Int.toNat v1231)]!.1)))) = true) (val := .int .i64 v1203) (b := ((r1287 && (decide (p1[(Int.toNat v1203)]! < (p1[(Int.toNat v1231)]! + p0[(Int.toNat v1231)]!.1)))) == true)) (gv_some rfl rfl rfl) beq_iff_eq (fun hc1410 => ?_), ?_⟩
            · have hS1408 := hS1248.ext hX1407
              have hB1409 := hB1247.trans (Ext.stp hX1407 hS1248.base)
              have hq9 : ((r1287 = true) ∧ (p1[(Int.toNat v1203)]! < (p1[(Int.toNat v1231)]! + p0[(Int.toNat v1231)]!.1))) := ((i_and Iff.rfl decide_eq_true_iff).mp hc1410)
              exact is_ext (g_move (v := .int .i64 v1203) rfl)
            obtain ⟨hg1416, hm⟩ := hm
            refine ⟨if (r1287 && (decide (p1[(Int.toNat v1203)]! < (p1[(Int.toNat v1231)]! + p0[(Int.toNat v1231)]!.1)))) = true then .pointer (some ((adr a1).add ((Int.toNat v1203) * El.m Int))) else undef, fun w1411 hX1412 => od_guard (c := (r1287 && (decide (p1[(Int.toNat v1203)]! < (p1[(Int.toNat v1231)]! + p0[(Int.toNat v1231)]!.1)))) = true) (val := .pointer (some ((adr a1).add ((Int.toNat v1203) * El.m Int)))) (b := ((r1287 && (decide (p1[(Int.toNat v1203)]! < (p1[(Int.toNat v1231)]! + p0[(Int.toNat v1231)]!.1)))) == true)) (gv_some rfl rfl rfl) beq_iff_eq (fun hc1415 => ?_), ?_⟩
            · have hS1413 := hS1248.ext hX1412
              have hB1414 := hB1247.trans (Ext.stp hX1412 hS1248.base)
              have hq9 : ((r1287 = true) ∧ (p1[(Int.toNat v1203)]! < (p1[(Int.toNat v1231)]! + p0[(Int.toNat v1231)]!.1))) := ((i_and Iff.rfl decide_eq_true_iff).mp hc1415)
              exact is_ext (q_index (i := v1203) SL24 (if_pos hc1415) (if_pos hc1415) (hp1.bel hB1414) (hg1416 hq9))
            refine ⟨if (r1287 && (decide (p1[(Int.toNat v1203)]! < (p1[(Int.toNat v1231)]! + p0[(Int.toNat v1231)]!.1)))) = true then .int .i64 (p1[(Int.toNat v1203)]!) else undef, fun w1417 hX1418 => od_guard (c := (r1287 && (decide (p1[(Int.toNat v1203)]! < (p1[(Int.toNat v1231)]! + p0[(Int.toNat v1231)]!.1)))) = true) (val := .int .i64 (p1[(Int.toNat v1203)]!)) (b := ((r1287 && (decide (p1[(Int.toNat v1203)]! < (p1[(Int.toNat v1231)]! + p0[(Int.toNat v1231)]!.1)))) == true)) (gv_some rfl rfl rfl) beq_iff_eq (fun hc1421 => ?_), ?_⟩
            · have hS1419 := hS1248.ext hX1418
              have hB1420 := hB1247.trans (Ext.stp hX1418 hS1248.base)
              have hq9 : ((r1287 = true) ∧ (p1[(Int.toNat v1203)]! < (p1[(Int.toNat v1231)]! + p0[(Int.toNat v1231)]!.1))) := ((i_and Iff.rfl decide_eq_true_iff).mp hc1421)
              exact is_ext (q_load (i := v1203) (v := .int .i64 (p1[(Int.toNat v1203)]!)) ON3 (hp1.bel hB1420) (hg1416 hq9) rfl (if_pos hc1421))
            refine ⟨if (r1287 && (decide (p1[(Int.toNat v1203)]! < (p1[(Int.toNat v1231)]! + p0[(Int.toNat v1231)]!.1)))) = true then .slice a0 n0 c0 else undef, fun w1422 hX1423 => od_guard (c := (r1287 && (decide (p1[(Int.toNat v1203)]! < (p1[(Int.toNat v1231)]! + p0[(Int.toNat v1231)]!.1)))) = true) (val := .slice a0 n0 c0) (b := ((r1287 && (decide (p1[(Int.toNat v1203)]! < (p1[(Int.toNat v1231)]! + p0[(Int.toNat v1231)]!.1)))) == true)) (gv_some rfl rfl rfl) beq_iff_eq (fun hc1426 => ?_), ?_⟩
            · have hS1424 := hS1248.ext hX1423
              have hB1425 := hB1247.trans (Ext.stp hX1423 hS1248.base)
              have hq9 : ((r1287 = true) ∧ (p1[(Int.toNat v1203)]! < (p1[(Int.toNat v1231)]! + p0[(Int.toNat v1231)]!.1))) := ((i_and Iff.rfl decide_eq_true_iff).mp hc1426)
              exact is_ext (g_move (v := .slice a0 n0 c0) rfl)
            refine ⟨if (r1287 && (decide (p1[(Int.toNat v1203)]! < (p1[(Int.toNat v1231)]! + p0[(Int.toNat v1231)]!.1)))) = true then .int .i64 v1203 else undef, fun w1427 hX1428 => od_guard (c := (r1287 && (decide (p1[(Int.toNat v1203)]! < (p1[(Int.toNat v1231)]! + p0[(Int.toNat v1231)]!.1)))) = true) (val := .int .i64 v1203) (b := ((r1287 && (decide (p1[(Int.toNat v1203)]! < (p1[(Int.toNat v1231)]! + p0[(Int.toNat v1231)]!.1)))) == true)) (gv_some rfl rfl rfl) beq_iff_eq (fun hc1431 => ?_), ?_⟩
            · have hS1429 := hS1248.ext hX1428
              have hB1430 := hB1247.trans (Ext.stp hX1428 hS1248.base)
              have hq9 : ((r1287 = true) ∧ (p1[(Int.toNat v1203)]! < (p1[(Int.toNat v1231)]! + p0[(Int.toNat v1231)]!.1))) := ((i_and Iff.rfl decide_eq_true_iff).mp hc1431)
              exact is_ext (g_move (v := .int .i64 v1203) rfl)
            obtain ⟨hg1437, hm⟩ := hm
            refine ⟨if (r1287 && (decide (p1[(Int.toNat v1203)]! < (p1[(Int.toNat v1231)]! + p0[(Int.toNat v1231)]!.1)))) = true then .pointer (some ((adr a0).add ((Int.toNat v1203) * El.m CueD))) else undef, fun w1432 hX1433 => od_guard (c := (r1287 && (decide (p1[(Int.toNat v1203)]! < (p1[(Int.toNat v1231)]! + p0[(Int.toNat v1231)]!.1)))) = true) (val := .pointer (some ((adr a0).add ((Int.toNat v1203) * El.m CueD)))) (b := ((r1287 && (decide (p1[(Int.toNat v1203)]! < (p1[(Int.toNat v1231)]! + p0[(Int.toNat v1231)]!.1)))) == true)) (gv_some rfl rfl rfl) beq_iff_eq (fun hc1436 => ?_), ?_⟩
            · have hS1434 := hS1248.ext hX1433
              have hB1435 := hB1247.trans (Ext.stp hX1433 hS1248.base)
              have hq9 : ((r1287 = true) ∧ (p1[(Int.toNat v1203)]! < (p1[(Int.toNat v1231)]! + p0[(Int.toNat v1231)]!.1))) := ((i_and Iff.rfl decide_eq_true_iff).mp hc1436)
              exact is_ext (q_index (i := v1203) SL26 (if_pos hc1436) (if_pos hc1436) (Tv.o (hp0.bel hB1435)) (Tv.g (hp0.bel hB1435) (hg1437 hq9)))
            refine ⟨if (r1287 && (decide (p1[(Int.toNat v1203)]! < (p1[(Int.toNat v1231)]! + p0[(Int.toNat v1231)]!.1)))) = true then .pointer (some (((adr a0).add ((Int.toNat v1203) * El.m CueD)).add 0)) else undef, fun w1438 hX1439 => od_guard (c := (r1287 && (decide (p1[(Int.toNat v1203)]! < (p1[(Int.toNat v1231)]! + p0[(Int.toNat v1231)]!.1)))) = true) (val := .pointer (some (((adr a0).add ((Int.toNat v1203) * El.m CueD)).add 0))) (b := ((r1287 && (decide (p1[(Int.toNat v1203)]! < (p1[(Int.toNat v1231)]! + p0[(Int.toNat v1231)]!.1)))) == true)) (gv_some rfl rfl rfl) beq_iff_eq (fun hc1442 => ?_), ?_⟩
            · have hS1440 := hS1248.ext hX1439
              have hB1441 := hB1247.trans (Ext.stp hX1439 hS1248.base)
              have hq9 : ((r1287 = true) ∧ (p1[(Int.toNat v1203)]! < (p1[(Int.toNat v1231)]! + p0[(Int.toNat v1231)]!.1))) := ((i_and Iff.rfl decide_eq_true_iff).mp hc1442)
              exact is_ext (g_fieldAddr (q := (adr a0).add ((Int.toNat v1203) * El.m CueD)) FL39_0 ON3 (if_pos hc1442))
            refine ⟨if (r1287 && (decide (p1[(Int.toNat v1203)]! < (p1[(Int.toNat v1231)]! + p0[(Int.toNat v1231)]!.1)))) = true then .int .i64 (p0[(Int.toNat v1203)]!.1) else undef, fun w1443 hX1444 => od_guard (c := (r1287 && (decide (p1[(Int.toNat v1203)]! < (p1[(Int.toNat v1231)]! + p0[(Int.toNat v1231)]!.1)))) = true) (val := .int .i64 (p0[(Int.toNat v1203)]!.1)) (b := ((r1287 && (decide (p1[(Int.toNat v1203)]! < (p1[(Int.toNat v1231)]! + p0[(Int.toNat v1231)]!.1)))) == true)) (gv_some rfl rfl rfl) beq_iff_eq (fun hc1447 => ?_), ?_⟩
            · have hS1445 := hS1248.ext hX1444
              have hB1446 := hB1247.trans (Ext.stp hX1444 hS1248.base)
              have hq9 : ((r1287 = true) ∧ (p1[(Int.toNat v1203)]! < (p1[(Int.toNat v1231)]! + p0[(Int.toNat v1231)]!.1))) := ((i_and Iff.rfl decide_eq_true_iff).mp hc1447)
              exact is_ext (q_loadF (i := v1203) (j := 0) (v := .int .i64 (p0[(Int.toNat v1203)]!.1)) ON3 (Tv.o (hp0.bel hB1446)) (Tv.g (hp0.bel hB1446) (hg1437 hq9)) (by rw [← Tv.ticks (hp0.bel hB1446) (hg1437 hq9)]; rfl) (if_pos hc1447))
            obtain ⟨hg1453, hm⟩ := hm
            refine ⟨if (r1287 && (decide (p1[(Int.toNat v1203)]! < (p1[(Int.toNat v1231)]! + p0[(Int.toNat v1231)]!.1)))) = true then .int .i64 (p1[(Int.toNat v1203)]! + p0[(Int.toNat v1203)]!.1) else undef, fun w1448 hX1449 => od_guard (c := (r1287 && (decide (p1[(Int.toNat v1203)]! < (p1[(Int.toNat v1231)]! + p0[(Int.toNat v1231)]!.1)))) = true) (val := .int .i64 (p1[(Int.toNat v1203)]! + p0[(Int.toNat v1203)]!.1)) (b := ((r1287 && (decide (p1[(Int.toNat v1203)]! < (p1[(Int.toNat v1231)]! + p0[(Int.toNat v1231)]!.1)))) == true)) (gv_some rfl rfl rfl) beq_iff_eq (fun hc1452 => ?_), ?_⟩
            · have hS1450 := hS1248.ext hX1449
              have hB1451 := hB1247.trans (Ext.stp hX1449 hS1248.base)
              have hq9 : ((r1287 = true) ∧ (p1[(Int.toNat v1203)]! < (p1[(Int.toNat v1231)]! + p0[(Int.toNat v1231)]!.1))) := ((i_and Iff.rfl decide_eq_true_iff).mp hc1452)
              exact is_ext (g_add (a := p1[(Int.toNat v1203)]!) (b := p0[(Int.toNat v1203)]!.1) (if_pos hc1452) (if_pos hc1452) (hg1453 hq9))
            refine ⟨if (r1287 && (decide (p1[(Int.toNat v1203)]! < (p1[(Int.toNat v1231)]! + p0[(Int.toNat v1231)]!.1)))) = true then .bool (decide (p1[(Int.toNat v1231)]! < (p1[(Int.toNat v1203)]! + p0[(Int.toNat v1203)]!.1))) else undef, fun w1454 hX1455 => od_guard (c := (r1287 && (decide (p1[(Int.toNat v1203)]! < (p1[(Int.toNat v1231)]! + p0[(Int.toNat v1231)]!.1)))) = true) (val := .bool (decide (p1[(Int.toNat v1231)]! < (p1[(Int.toNat v1203)]! + p0[(Int.toNat v1203)]!.1)))) (b := ((r1287 && (decide (p1[(Int.toNat v1203)]! < (p1[(Int.toNat v1231)]! + p0[(Int.toNat v1231)]!.1)))) == true)) (gv_some rfl rfl rfl) beq_iff_eq (fun hc1458 => ?_), ?_⟩
            · have hS1456 := hS1248.ext hX1455
              have hB1457 := hB1247.trans (Ext.stp hX1455 hS1248.base)
              have hq9 : ((r1287 = true) ∧ (p1[(Int.toNat v1203)]! < (p1[(Int.toNat v1231)]! + p0[(Int.toNat v1231)]!.1))) := ((i_and Iff.rfl decide_eq_true_iff).mp hc1458)
              exact is_ext (g_lss (a := p1[(Int.toNat v1231)]!) (b := (p1[(Int.toNat v1203)]! + p0[(Int.toNat v1203)]!.1)) (if_pos hc1458) (if_pos hc1458))
            refine ⟨.bool ((r1287 && (decide (p1[(Int.toNat v1203)]! < (p1[(Int.toNat v1231)]! + p0[(Int.toNat v1231)]!.1)))) && (decide (p1[(Int.toNat v1231)]! < (p1[(Int.toNat v1203)]! + p0[(Int.toNat v1203)]!.1)))), fun w1459 hX1460 => od_plain rfl (by have hS1461 := hS1248.ext hX1460; have hB1462 := hB1247.trans (Ext.stp hX1460 hS1248.base); exact is_ext (g_pick_and (b := (r1287 && (decide (p1[(Int.toNat v1203)]! < (p1[(Int.toNat v1231)]! + p0[(Int.toNat v1231)]!.1))))) (q := (decide (p1[(Int.toNat v1231)]! < (p1[(Int.toNat v1203)]! + p0[(Int.toNat v1203)]!.1)))) rfl rfl)), ?_⟩
            intro w1463 hX1464
            have hB1465 := hB1247.trans (Ext.stp hX1464 hS1248.base)
            have hS1466 := hS1248.ext hX1464
            refine hK1244 _ _ ?_
            refine w_condI (p := ((((r1287 = true) ∧ (p1[(Int.toNat v1203)]! < (p1[(Int.toNat v1231)]! + p0[(Int.toNat v1231)]!.1)))) ∧ (p1[(Int.toNat v1231)]! < (p1[(Int.toNat v1203)]! + p0[(Int.toNat v1203)]!.1)))) (b := ((r1287 && (decide (p1[(Int.toNat v1203)]! < (p1[(Int.toNat v1231)]! + p0[(Int.toNat v1231)]!.1)))) && (decide (p1[(Int.toNat v1231)]! < (p1[(Int.toNat v1203)]! + p0[(Int.toNat v1203)]!.1))))) rfl (i_and (i_and Iff.rfl decide_eq_true_iff) decide_eq_true_iff) (fun h1467 => ?_) (fun h1467 => ?_)
            · replace hm := hm.1 h1467
              refine w_region ?_
              refine wl_val (g_move (v := .slice a1226 n1227 c1228) rfl) rfl ?_
              refine wl_val (g_move (v := .int .i64 v1203) rfl) rfl ?_
              refine wl_val (g_move (v := .int .i64 v1231) rfl) rfl ?_
              refine wl_step rfl (q_lit2 (y := (v1203 : Int)) (y' := (v1231 : Int)) SL24 rfl rfl rfl rfl (by decide) hS1466) ?_
              rintro _ w1468 ⟨a1469, rfl, hS1471, hE1470⟩
              have hB1473 := hB1465.trans (Ext.stp hE1470 hS1466.base)
              have hn1479 := oS.len hS1471.g0
              have hS1480 := hS1471.oneRow
              have he1478 : ers [((a1469, 2, [v1203, v1231]) : Hd Int)] = [[v1203, v1231]] := rfl
              refine wl_step rfl (q_lit1 (y := ((a1469, 2, [v1203, v1231]) : Hd Int)) SL44 rfl (hd_cells hn1479) (by decide) hS1480) ?_
              rintro _ w1474 ⟨a1475, rfl, hS1477, hE1476⟩
              have hB1483 := hB1473.trans (Ext.stp hE1476 hS1480.base)
              have hS1490 := hS1477.f2
              obtain ⟨hg1491, hm⟩ := hm
              have hl1492 : (y1229).length + ([(a1469, 2, [v1203, v1231])]).length ≤ 1099511627776 := by have h1 := congrArg List.length he1230; have h2 := congrArg List.length he1478; have h3 := hg1491; simp only [ers, List.length_map, List.length_append, List.length_cons, List.length_nil, List.length_replicate, List.length_set] at h1 h2 h3 ⊢; omega
              refine wl_step rfl (q_append SL44 rfl rfl hS1490 (oS.vw hS1490.g1) hl1492 (by decide)) ?_
              rintro _ w1485 ⟨a1486, c1487, rfl, hS1489, hb1488⟩
              have hB1493 := hB1483.trans hb1488
              have hS1494 := hS1489.f1
              have hS1495 := hS1494.tail
              have hS1496 := hS1495.f2
              have hS1497 := hS1496.f2
              have hS1498 := hS1497.catRows
              have he1499 : ers (y1229 ++ ([(a1469, 2, [v1203, v1231])])) = (x1225 ++ ([[v1203, v1231]])) := by rw [← he1230, ← he1478]; exact List.map_append
              refine wl_val (g_assign (v := .slice a1486 (n1227 + 1) c1487) rfl) rfl ?_
              refine wl_nil ?_
              refine hK1243 _ _ ?_
              refine w_region ?_
              refine wl_val (g_move (v := .int .i64 v1231) rfl) rfl ?_
              obtain ⟨hg1500, hm⟩ := hm
              refine wl_val (g_add (a := v1231) (b := 1) rfl rfl hg1500) rfl ?_
              refine wl_val (g_assign (v := .int .i64 (v1231 + 1)) rfl) rfl ?_
              refine wl_nil ?_
              have hS1501 := hS1498.f1
              exact ⟨((x1225 ++ ([[v1203, v1231]])), a1486, (n1227 + 1), c1487, (y1229 ++ ([(a1469, 2, [v1203, v1231])])), (v1231 + 1)), hm.2, ⟨rfl, rfl, rfl, rfl, rfl, trivial⟩, ⟨hm.1, he1499, hB1493, hS1501⟩⟩
            · replace hm := hm.2 h1467
              refine w_skip ?_
              refine hK1243 _ _ ?_
              refine w_region ?_
              refine wl_val (g_move (v := .int .i64 v1231) rfl) rfl ?_
              obtain ⟨hg1502, hm⟩ := hm
              refine wl_val (g_add (a := v1231) (b := 1) rfl rfl hg1502) rfl ?_
              refine wl_val (g_assign (v := .int .i64 (v1231 + 1)) rfl) rfl ?_
              refine wl_nil ?_
              exact ⟨(x1225, a1226, n1227, c1228, y1229, (v1231 + 1)), hm.2, ⟨rfl, rfl, rfl, rfl, rfl, trivial⟩, ⟨hm.1, he1230, hB1465, hS1466⟩⟩
          · replace hm := hm.2 h1242
            refine w_exit ?_
            exact ⟨(x1225, a1226, n1227, c1228, y1229), ⟨rfl, rfl, rfl, rfl, trivial⟩, ⟨hm, he1230, hB1237, hS1238⟩⟩
        · rintro ⟨x1216, a1217, n1218, c1219, y1220⟩ b_ w1503 ⟨hm, he1221, hB1504, hS1505⟩
          show Wp _ _ _ _ (upds b_ [(0, .slice a0 n0 c0), (1, .slice a1 n1 c1), (5, .slice a1217 n1218 c1219), (6, .int .i64 v1203)]) w1503
          refine w_region ?_
          refine wl_val (g_move (v := .int .i64 v1203) rfl) rfl ?_
          obtain ⟨hg1506, hm⟩ := hm
          refine wl_val (g_add (a := v1203) (b := 1) rfl rfl hg1506) rfl ?_
          refine wl_val (g_assign (v := .int .i64 (v1203 + 1)) rfl) rfl ?_
          refine wl_nil ?_
          exact ⟨(x1216, a1217, n1218, c1219, y1220, (v1203 + 1)), hm.2, ⟨rfl, rfl, rfl, rfl, trivial⟩, ⟨hm.1, he1221, hB1504, hS1505⟩⟩
      · replace hm := hm.2 h1215
        refine w_exit ?_
        exact ⟨(x1197, a1198, n1199, c1200, y1201), ⟨rfl, trivial⟩, ⟨hm, he1202, hB1210, hS1211⟩⟩
    · rintro ⟨x1189, a1190, n1191, c1192, y1193⟩ b_ w1507 ⟨hm, he1194, hB1508, hS1509⟩
      show Wp _ _ _ _ (upds b_ [(5, .slice a1190 n1191 c1192)]) w1507
      refine w_seq fun K1510 hK1510 => ?_
      refine w_region ?_
      refine wl_val (g_move (v := .slice a1190 n1191 c1192) rfl) rfl ?_
      refine wl_val (g_assign (v := .slice a1190 n1191 c1192) rfl) rfl ?_
      refine wl_nil ?_
      refine hK1510 _ _ ?_
      refine w_ret ?_
      repeat first | with_reducible refine q_then ?_ | with_reducible refine q_block ?_
      exact ret1 rfl (by decide) ⟨_, _, _, _, _, hm, he1194, rfl, toExt hB1508, hS1509⟩

theorem m_spec_IsPlan_fn {w : World} {a0 : Option Addr} {n0 c0 : Nat} {y0 : List CueD} {p0 : List CueC} {a1 : Option Addr} {n1 c1 : Nat} {p1 : List Int} {Q : Bool → Prop} (hp0 : Tv w.heap.size w a0 n0 c0 y0 p0) (hp1 : Vw w.heap.size w a1 n1 c1 p1) (hm : m_spec_IsPlan p0 p1 Q) :
    Fn Try.prog 49 #[.slice a0 n0 c0, .slice a1 n1 c1] w (fun v w' => ∃ (r0 : Bool), Q r0 ∧ v = .bool r0 ∧ Ext w w') := by
  unfold m_spec_IsPlan at hm
  have hB0 := Below.refl w.heap.size w
  have hS0 : Sep w w.heap.size [] := Sep.nil (Nat.le_refl _)
  refine fn_of_wp Try.func49 rfl (by kernel_rfl) (Nat.le_of_ble_eq_true rfl) ?_
  refine w_seq fun K1 hK1 => ?_
  refine w_region ?_
  refine wl_val (g_assign (v := .bool false) rfl) rfl ?_
  refine wl_nil ?_
  refine hK1 _ _ ?_
  refine w_seq fun K2 hK2 => ?_
  refine w_seq fun K3 hK3 => ?_
  refine w_region ?_
  refine wl_val (g_move (v := .slice a0 n0 c0) rfl) rfl ?_
  refine wl_val (g_move (v := .slice a1 n1 c1) rfl) rfl ?_
  refine wl_step rfl (g_call (vs := #[.slice a0 n0 c0, .slice a1 n1 c1]) CF72 (args2 rfl rfl) (m_spec_l12Starts_fn ((hp0.bel hB0).up hS0) ((hp1.bel hB0).up hS0) hm)) ?_
  rintro _ w4 ⟨r7, hm, rfl, hE5⟩
  have hB8 := hB0.trans (Ext.stp hE5 hS0.base)
  have hS9 := hS0.ext hE5
  refine wl_val (g_not (a := r7) rfl) rfl ?_
  refine wl_nil ?_
  refine hK3 _ _ ?_
  refine w_condI (p := ¬ (r7 = true)) (b := (!r7)) rfl (i_not Iff.rfl) (fun h10 => ?_) (fun h10 => ?_)
  · replace hm := hm.1 h10
    refine w_seq fun K11 hK11 => ?_
    refine w_region ?_
    refine wl_val (g_assign (v := .bool false) rfl) rfl ?_
    refine wl_nil ?_
    refine hK11 _ _ ?_
    refine w_ret ?_
    repeat first | with_reducible refine q_then ?_ | with_reducible refine q_block ?_
    exact ret1 rfl (by decide) ⟨_, hm, rfl, toExt hB8⟩
  · replace hm := hm.2 h10
    refine w_skip ?_
    refine hK2 _ _ ?_
    refine w_cut (σ := Unit) (fun _ => [(0, .slice a0 n0 c0), (1, .slice a1 n1 c1)]) (fun _ w' => m_spec_IsPlan_K1 p0 p1 Q ∧ Below w.heap.size w w' ∧ Sep w' w.heap.size []) ?_ ?_
    · refine w_seq fun K13 hK13 => ?_
      refine w_region ?_
      refine wl_val (g_assign (v := .int .i64 0) rfl) rfl ?_
      refine wl_nil ?_
      refine hK13 _ _ ?_
      refine w_block ?_
      obtain ⟨I217, μ218, h0219, hr220⟩ := hm
      refine w_for (σ := Int) (fun v216 => [(0, .slice a0 n0 c0), (1, .slice a1 n1 c1), (5, .int .i64 v216)]) (fun v216 w' => I217 v216 ∧ Below w.heap.size w w' ∧ Sep w' w.heap.size []) (fun v216 => μ218 v216) (0) ⟨rfl, rfl, rfl, trivial⟩ ⟨h0219, hB8, hS9⟩ ?_
      rintro v216 b_ w221 ⟨hi_, hB222, hS223⟩
      show Wp _ _ _ _ (upds b_ [(0, .slice a0 n0 c0), (1, .slice a1 n1 c1), (5, .int .i64 v216)]) w221
      have hm := hr220 v216 hi_
      refine w_seq fun K225 hK225 => ?_
      refine w_seq fun K226 hK226 => ?_
      refine w_region ?_
      refine wl_val (g_move (v := .int .i64 v216) rfl) rfl ?_
      refine wl_val (g_move (v := .slice a0 n0 c0) rfl) rfl ?_
      refine wl_val (q_len SL26 rfl (Tv.len (hp0.bel hB222))) rfl ?_
      refine wl_val (g_lss (a := v216) (b := (p0.length : Int)) rfl rfl) rfl ?_
      refine wl_nil ?_
      refine hK226 _ _ ?_
      refine w_condI (p := v216 < (p0.length : Int)) (b := (decide (v216 < (p0.length : Int)))) rfl decide_eq_true_iff (fun h227 => ?_) (fun h227 => ?_)
      · replace hm := hm.1 h227
        refine w_skip ?_
        refine hK225 _ _ ?_
        refine w_cut (σ := Unit) (fun _ => [(0, .slice a0 n0 c0), (1, .slice a1 n1 c1), (5, .int .i64 v216)]) (fun _ w' => m_spec_IsPlan_K0 v216 (fun v216' => I217 v216' ∧ μ218 v216' < μ218 v216) ∧ Below w.heap.size w w' ∧ Sep w' w.heap.size []) ?_ ?_
        · refine w_block ?_
          refine w_seq fun K229 hK229 => ?_
          refine w_region ?_
          refine wl_val (g_assign (v := .int .i64 0) rfl) rfl ?_
          refine wl_nil ?_
          refine hK229 _ _ ?_
          refine w_block ?_
          obtain ⟨I231, μ232, h0233, hr234⟩ := hm
          refine w_for (σ := Int) (fun v230 => [(0, .slice a0 n0 c0), (1, .slice a1 n1 c1), (5, .int .i64 v216), (6, .int .i64 v230)]) (fun v230 w' => I231 v230 ∧ Below w.heap.size w w' ∧ Sep w' w.heap.size []) (fun v230 => μ232 v230) (0) ⟨rfl, rfl, rfl, rfl, trivial⟩ ⟨h0233, hB222, hS223⟩ ?_
          rintro v230 b_ w235 ⟨hi_, hB236, hS237⟩
          show Wp _ _ _ _ (upds b_ [(0, .slice a0 n0 c0), (1, .slice a1 n1 c1), (5, .int .i64 v216), (6, .int .i64 v230)]) w235
          have hm := hr234 v230 hi_
          refine w_seq fun K239 hK239 => ?_
          refine w_seq fun K240 hK240 => ?_
          refine w_region ?_
          refine wl_val (g_move (v := .int .i64 v230) rfl) rfl ?_
          refine wl_val (g_move (v := .slice a0 n0 c0) rfl) rfl ?_
          refine wl_val (g_move (v := .int .i64 v216) rfl) rfl ?_
          obtain ⟨hg241, hm⟩ := hm
          refine wl_val (q_index (i := v216) SL26 rfl rfl (Tv.o (hp0.bel hB236)) (Tv.g (hp0.bel hB236) hg241)) rfl ?_
          refine wl_val (g_fieldAddr (q := (adr a0).add ((Int.toNat v216) * El.m CueD)) FL39_1 ON24 rfl) rfl ?_
          refine wl_val (q_loadF (i := v216) (j := 1) (v := .slice ((y0[(Int.toNat v216)]!).2.1.1) ((y0[(Int.toNat v216)]!).2.1.2.2.length) ((y0[(Int.toNat v216)]!).2.1.2.1)) ON24 (Tv.o (hp0.bel hB236)) (Tv.g (hp0.bel hB236) hg241) rfl rfl) rfl ?_
          refine wl_val (q_len SL24 rfl (Vw.len (Tv.rowC0 (hp0.bel hB236) hg241))) rfl ?_
          refine wl_val (g_lss (a := v230) (b := ((p0[(Int.toNat v216)]!.2.1).length : Int)) rfl rfl) rfl ?_
          refine wl_nil ?_
          refine hK240 _ _ ?_
          refine w_condI (p := v230 < ((p0[(Int.toNat v216)]!.2.1).length : Int)) (b := (decide (v230 < ((p0[(Int.toNat v216)]!.2.1).length : Int)))) rfl decide_eq_true_iff (fun h242 => ?_) (fun h242 => ?_)
          · replace hm := hm.1 h242
            refine w_skip ?_
            refine hK239 _ _ ?_
            refine w_seq fun K243 hK243 => ?_
            refine w_block ?_
            refine w_seq fun K244 hK244 => ?_
            refine w_region ?_
            refine wl_val (g_move (v := .slice a0 n0 c0) rfl) rfl ?_
            refine wl_val (g_move (v := .int .i64 v216) rfl) rfl ?_
            obtain ⟨hg245, hm⟩ := hm
            refine wl_val (q_index (i := v216) SL26 rfl rfl (Tv.o (hp0.bel hB236)) (Tv.g (hp0.bel hB236) hg245)) rfl ?_
            refine wl_val (g_fieldAddr (q := (adr a0).add ((Int.toNat v216) * El.m CueD)) FL39_1 ON24 rfl) rfl ?_
            refine wl_val (q_loadF (i := v216) (j := 1) (v := .slice ((y0[(Int.toNat v216)]!).2.1.1) ((y0[(Int.toNat v216)]!).2.1.2.2.length) ((y0[(Int.toNat v216)]!).2.1.2.1)) ON24 (Tv.o (hp0.bel hB236)) (Tv.g (hp0.bel hB236) hg245) rfl rfl) rfl ?_
            refine wl_val (g_move (v := .int .i64 v230) rfl) rfl ?_
            obtain ⟨hg246, hm⟩ := hm
            refine wl_val (q_index (i := v230) SL24 rfl rfl (Tv.rowC0 (hp0.bel hB236) hg245) hg246) rfl ?_
            refine wl_val (q_load (i := v230) (v := .int .i64 ((p0[(Int.toNat v216)]!.2.1)[(Int.toNat v230)]!)) ON3 (Tv.rowC0 (hp0.bel hB236) hg245) hg246 rfl rfl) rfl ?_
            refine wl_val (g_assign (v := .int .i64 ((p0[(Int.toNat v216)]!.2.1)[(Int.toNat v230)]!)) rfl) rfl ?_
            refine wl_nil ?_
            refine hK244 _ _ ?_
            refine w_seq fun K247 hK247 => ?_
            refine w_draw (X := Ext) (Y := Ext) [] MIX (by decide +kernel) rfl Ext.refl (fun _ _ _ => Ext.trans) (fun _ _ _ => Chg.trans) (fun _ _ h => Ext.chg h _) (fun w248 hE249 => ?_)
            have hB250 := hB236.trans (Ext.stp hE249 hS237.base)
            have hS251 := hS237.ext hE249
            refine ⟨.slice a1 n1 c1, fun w252 hX253 => od_plain rfl (by have hS254 := hS251.ext hX253; have hB255 := hB250.trans (Ext.stp hX253 hS251.base); exact is_ext (g_move (v := .slice a1 n1 c1) rfl)), ?_⟩
            refine ⟨.int .i64 v216, fun w256 hX257 => od_plain rfl (by have hS258 := hS251.ext hX257; have hB259 := hB250.trans (Ext.stp hX257 hS251.base); exact is_ext (g_move (v := .int .i64 v216) rfl)), ?_⟩
            obtain ⟨hg264, hm⟩ := hm
            refine ⟨.pointer (some ((adr a1).add ((Int.toNat v216) * El.m Int))), fun w260 hX261 => od_plain rfl (by have hS262 := hS251.ext hX261; have hB263 := hB250.trans (Ext.stp hX261 hS251.base); exact is_ext (q_index (i := v216) SL24 rfl rfl (hp1.bel hB263) hg264)), ?_⟩
            refine ⟨.int .i64 (p1[(Int.toNat v216)]!), fun w265 hX266 => od_plain rfl (by have hS267 := hS251.ext hX266; have hB268 := hB250.trans (Ext.stp hX266 hS251.base); exact is_ext (q_load (i := v216) (v := .int .i64 (p1[(Int.toNat v216)]!)) ON3 (hp1.bel hB268) hg264 rfl rfl)), ?_⟩
            refine ⟨.slice a1 n1 c1, fun w269 hX270 => od_plain rfl (by have hS271 := hS251.ext hX270; have hB272 := hB250.trans (Ext.stp hX270 hS251.base); exact is_ext (g_move (v := .slice a1 n1 c1) rfl)), ?_⟩
            refine ⟨.int .i64 ((p0[(Int.toNat v216)]!.2.1)[(Int.toNat v230)]!), fun w273 hX274 => od_plain rfl (by have hS275 := hS251.ext hX274; have hB276 := hB250.trans (Ext.stp hX274 hS251.base); exact is_ext (g_move (v := .int .i64 ((p0[(Int.toNat v216)]!.2.1)[(Int.toNat v230)]!)) rfl)), ?_⟩
            obtain ⟨hg281, hm⟩ := hm
            refine ⟨.pointer (some ((adr a1).add ((Int.toNat ((p0[(Int.toNat v216)]!.2.1)[(Int.toNat v230)]!)) * El.m Int))), fun w277 hX278 => od_plain rfl (by have hS279 := hS251.ext hX278; have hB280 := hB250.trans (Ext.stp hX278 hS251.base); exact is_ext (q_index (i := (p0[(Int.toNat v216)]!.2.1)[(Int.toNat v230)]!) SL24 rfl rfl (hp1.bel hB280) hg281)), ?_⟩
            refine ⟨.int .i64 (p1[(Int.toNat ((p0[(Int.toNat v216)]!.2.1)[(Int.toNat v230)]!))]!), fun w282 hX283 => od_plain rfl (by have hS284 := hS251.ext hX283; have hB285 := hB250.trans (Ext.stp hX283 hS251.base); exact is_ext (q_load (i := (p0[(Int.toNat v216)]!.2.1)[(Int.toNat v230)]!) (v := .int .i64 (p1[(Int.toNat ((p0[(Int.toNat v216)]!.2.1)[(Int.toNat v230)]!))]!)) ON3 (hp1.bel hB285) hg281 rfl rfl)), ?_⟩
            refine ⟨.slice a0 n0 c0, fun w286 hX287 => od_plain rfl (by have hS288 := hS251.ext hX287; have hB289 := hB250.trans (Ext.stp hX287 hS251.base); exact is_ext (g_move (v := .slice a0 n0 c0) rfl)), ?_⟩
            refine ⟨.int .i64 ((p0[(Int.toNat v216)]!.2.1)[(Int.toNat v230)]!), fun w290 hX291 => od_plain rfl (by have hS292 := hS251.ext hX291; have hB293 := hB250.trans (Ext.stp hX291 hS251.base); exact is_ext (g_move (v := .int .i64 ((p0[(Int.toNat v216)]!.2.1)[(Int.toNat v230)]!)) rfl)), ?_⟩
            obtain ⟨hg298, hm⟩ := hm
            refine ⟨.pointer (some ((adr a0).add ((Int.toNat ((p0[(Int.toNat v216)]!.2.1)[(Int.toNat v230)]!)) * El.m CueD))), fun w294 hX295 => od_plain rfl (by have hS296 := hS251.ext hX295; have hB297 := hB250.trans (Ext.stp hX295 hS251.base); exact is_ext (q_index (i := (p0[(Int.toNat v216)]!.2.1)[(Int.toNat v230)]!) SL26 rfl rfl (Tv.o (hp0.bel hB297)) (Tv.g (hp0.bel hB297) hg298))), ?_⟩
            refine ⟨.pointer (some (((adr a0).add ((Int.toNat ((p0[(Int.toNat v216)]!.2.1)[(Int.toNat v230)]!)) * El.m CueD)).add 0)), fun w299 hX300 => od_plain rfl (by have hS301 := hS251.ext hX300; have hB302 := hB250.trans (Ext.stp hX300 hS251.base); exact is_ext (g_fieldAddr (q := (adr a0).add ((Int.toNat ((p0[(Int.toNat v216)]!.2.1)[(Int.toNat v230)]!)) * El.m CueD)) FL39_0 ON3 rfl)), ?_⟩
            refine ⟨.int .i64 (p0[(Int.toNat ((p0[(Int.toNat v216)]!.2.1)[(Int.toNat v230)]!))]!.1), fun w303 hX304 => od_plain rfl (by have hS305 := hS251.ext hX304; have hB306 := hB250.trans (Ext.stp hX304 hS251.base); exact is_ext (q_loadF (i := (p0[(Int.toNat v216)]!.2.1)[(Int.toNat v230)]!) (j := 0) (v := .int .i64 (p0[(Int.toNat ((p0[(Int.toNat v216)]!.2.1)[(Int.toNat v230)]!))]!.1)) ON3 (Tv.o (hp0.bel hB306)) (Tv.g (hp0.bel hB306) hg298) (by rw [← Tv.ticks (hp0.bel hB306) hg298]; rfl) rfl)), ?_⟩
            obtain ⟨hg311, hm⟩ := hm
            refine ⟨.int .i64 (p1[(Int.toNat ((p0[(Int.toNat v216)]!.2.1)[(Int.toNat v230)]!))]! + p0[(Int.toNat ((p0[(Int.toNat v216)]!.2.1)[(Int.toNat v230)]!))]!.1), fun w307 hX308 => od_plain rfl (by have hS309 := hS251.ext hX308; have hB310 := hB250.trans (Ext.stp hX308 hS251.base); exact is_ext (g_add (a := p1[(Int.toNat ((p0[(Int.toNat v216)]!.2.1)[(Int.toNat v230)]!))]!) (b := p0[(Int.toNat ((p0[(Int.toNat v216)]!.2.1)[(Int.toNat v230)]!))]!.1) rfl rfl hg311)), ?_⟩
            refine ⟨.bool (decide (p1[(Int.toNat v216)]! < (p1[(Int.toNat ((p0[(Int.toNat v216)]!.2.1)[(Int.toNat v230)]!))]! + p0[(Int.toNat ((p0[(Int.toNat v216)]!.2.1)[(Int.toNat v230)]!))]!.1))), fun w312 hX313 => od_plain rfl (by have hS314 := hS251.ext hX313; have hB315 := hB250.trans (Ext.stp hX313 hS251.base); exact is_ext (g_lss (a := p1[(Int.toNat v216)]!) (b := (p1[(Int.toNat ((p0[(Int.toNat v216)]!.2.1)[(Int.toNat v230)]!))]! + p0[(Int.toNat ((p0[(Int.toNat v216)]!.2.1)[(Int.toNat v230)]!))]!.1)) rfl rfl)), ?_⟩
            intro w316 hX317
            have hB318 := hB250.trans (Ext.stp hX317 hS251.base)
            have hS319 := hS251.ext hX317
            refine hK247 _ _ ?_
            refine w_condI (p := p1[(Int.toNat v216)]! < (p1[(Int.toNat ((p0[(Int.toNat v216)]!.2.1)[(Int.toNat v230)]!))]! + p0[(Int.toNat ((p0[(Int.toNat v216)]!.2.1)[(Int.toNat v230)]!))]!.1)) (b := (decide (p1[(Int.toNat v216)]! < (p1[(Int.toNat ((p0[(Int.toNat v216)]!.2.1)[(Int.toNat v230)]!))]! + p0[(Int.toNat ((p0[(Int.toNat v216)]!.2.1)[(Int.toNat v230)]!))]!.1)))) rfl decide_eq_true_iff (fun h320 => ?_) (fun h320 => ?_)
            · replace hm := hm.1 h320
              refine w_seq fun K321 hK321 => ?_
              refine w_region ?_
              refine wl_val (g_assign (v := .bool false) rfl) rfl ?_
              refine wl_nil ?_
              refine hK321 _ _ ?_
              refine w_ret ?_
              repeat first | with_reducible refine q_then ?_ | with_reducible refine q_block ?_
              exact ret1 rfl (by decide) ⟨_, hm, rfl, toExt hB318⟩
            · replace hm := hm.2 h320
              refine w_skip ?_
              refine hK243 _ _ ?_
              refine w_region ?_
              refine wl_val (g_move (v := .int .i64 v230) rfl) rfl ?_
              obtain ⟨hg322, hm⟩ := hm
              refine wl_val (g_add (a := v230) (b := 1) rfl rfl hg322) rfl ?_
              refine wl_val (g_assign (v := .int .i64 (v230 + 1)) rfl) rfl ?_
              refine wl_nil ?_
              exact ⟨((v230 + 1)), hm.2, ⟨rfl, rfl, rfl, rfl, trivial⟩, ⟨hm.1, hB318, hS319⟩⟩
          · replace hm := hm.2 h242
            refine w_exit ?_
            exact ⟨(), ⟨rfl, rfl, rfl, trivial⟩, ⟨hm, hB236, hS237⟩⟩
        · rintro _ b_ w323 ⟨hm, hB324, hS325⟩
          show Wp _ _ _ _ (upds b_ [(0, .slice a0 n0 c0), (1, .slice a1 n1 c1), (5, .int .i64 v216)]) w323
          refine w_region ?_
          refine wl_val (g_move (v := .int .i64 v216) rfl) rfl ?_
          obtain ⟨hg326, hm⟩ := hm
          refine wl_val (g_add (a := v216) (b := 1) rfl rfl hg326) rfl ?_
          refine wl_val (g_assign (v := .int .i64 (v216 + 1)) rfl) rfl ?_
          refine wl_nil ?_
          exact ⟨((v216 + 1)), hm.2, ⟨rfl, rfl, rfl, trivial⟩, ⟨hm.1, hB324, hS325⟩⟩
      · replace hm := hm.2 h227
        refine w_exit ?_
        exact ⟨(), ⟨rfl, rfl, trivial⟩, ⟨hm, hB222, hS223⟩⟩
    · rintro _ b_ w327 ⟨hm, hB328, hS329⟩
      show Wp _ _ _ _ (upds b_ [(0, .slice a0 n0 c0), (1, .slice a1 n1 c1)]) w327
      refine w_seq fun K330 hK330 => ?_
      refine w_region ?_
      refine wl_val (g_move (v := .slice a0 n0 c0) rfl) rfl ?_
      refine wl_val (g_move (v := .slice a1 n1 c1) rfl) rfl ?_
      refine wl_step rfl (g_call (vs := #[.slice a0 n0 c0, .slice a1 n1 c1]) CF51 (args2 rfl rfl) (m_spec_ClashesIn_fn ((hp0.bel hB328).up hS329) ((hp1.bel hB328).up hS329) hm)) ?_
      rintro _ w331 ⟨r334, a335, n336, c337, y338, hm, he339, rfl, hE332, hN333⟩
      have hS343 := hS329.call2 hE332 hN333
      have hB344 := hB328.trans (Ext.stp hE332 hS329.base)
      refine wl_val (q_len SL44 rfl (Tv.len (oT.vw hS343.g0 hS343.g1 he339))) rfl ?_
      refine wl_val (g_eql (a := (r334.length : Int)) (b := 0) rfl rfl) rfl ?_
      refine wl_val (g_assign (v := .bool (decide ((r334.length : Int) = 0))) rfl) rfl ?_
      refine wl_nil ?_
      refine hK330 _ _ ?_
      refine w_ret ?_
      repeat first | with_reducible refine q_then ?_ | with_reducible refine q_block ?_
      exact ret1 rfl (by decide) ⟨_, hm, rfl, toExt hB344⟩

theorem m_impl_areStarts_fn {w : World} {a0 : Option Addr} {n0 c0 : Nat} {y0 : List CueD} {p0 : List CueC} {a1 : Option Addr} {n1 c1 : Nat} {p1 : List Int} {Q : Bool → Prop} (hp0 : Tv w.heap.size w a0 n0 c0 y0 p0) (hp1 : Vw w.heap.size w a1 n1 c1 p1) (hm : m_impl_areStarts p0 p1 Q) :
    Fn Try.prog 71 #[.slice a0 n0 c0, .slice a1 n1 c1] w (fun v w' => ∃ (r0 : Bool), Q r0 ∧ v = .bool r0 ∧ Ext w w') := by
  unfold m_impl_areStarts at hm
  have hB0 := Below.refl w.heap.size w
  have hS0 : Sep w w.heap.size [] := Sep.nil (Nat.le_refl _)
  refine fn_of_wp Try.func71 rfl (by kernel_rfl) (Nat.le_of_ble_eq_true rfl) ?_
  refine w_seq fun K1 hK1 => ?_
  refine w_region ?_
  refine wl_val (g_assign (v := .bool false) rfl) rfl ?_
  refine wl_nil ?_
  refine hK1 _ _ ?_
  refine w_seq fun K2 hK2 => ?_
  refine w_region ?_
  refine wl_val (g_move (v := .slice a0 n0 c0) rfl) rfl ?_
  refine wl_step rfl (g_call (vs := #[.slice a0 n0 c0]) CF29 (args1 rfl) (m_impl_CuesOk_fn ((hp0.bel hB0).up hS0) hm)) ?_
  rintro _ w3 ⟨r6, hm, rfl, hE4⟩
  have hB7 := hB0.trans (Ext.stp hE4 hS0.base)
  have hS8 := hS0.ext hE4
  refine wl_val (g_move (v := .bool r6) rfl) rfl ?_
  refine wl_guard (c := r6 = true) (val := .slice a1 n1 c1) (b := (r6 == true)) (gv_some rfl rfl rfl) beq_iff_eq (fun hc9 => ?_) ?_
  · have hq0 : r6 = true := (Iff.rfl.mp hc9)
    exact g_move (v := .slice a1 n1 c1) rfl
  refine wl_guard (c := r6 = true) (val := .int .i64 (p1.length : Int)) (b := (r6 == true)) (gv_some rfl rfl rfl) beq_iff_eq (fun hc10 => ?_) ?_
  · have hq0 : r6 = true := (Iff.rfl.mp hc10)
    exact q_len SL24 (if_pos hc10) (Vw.len (hp1.bel hB7))
  refine wl_guard (c := r6 = true) (val := .slice a0 n0 c0) (b := (r6 == true)) (gv_some rfl rfl rfl) beq_iff_eq (fun hc11 => ?_) ?_
  · have hq0 : r6 = true := (Iff.rfl.mp hc11)
    exact g_move (v := .slice a0 n0 c0) rfl
  refine wl_guard (c := r6 = true) (val := .int .i64 (p0.length : Int)) (b := (r6 == true)) (gv_some rfl rfl rfl) beq_iff_eq (fun hc12 => ?_) ?_
  · have hq0 : r6 = true := (Iff.rfl.mp hc12)
    exact q_len SL26 (if_pos hc12) (Tv.len (hp0.bel hB7))
  refine wl_guard (c := r6 = true) (val := .bool (decide ((p1.length : Int) = (p0.length : Int)))) (b := (r6 == true)) (gv_some rfl rfl rfl) beq_iff_eq (fun hc13 => ?_) ?_
  · have hq0 : r6 = true := (Iff.rfl.mp hc13)
    exact g_eql (a := (p1.length : Int)) (b := (p0.length : Int)) (if_pos hc13) (if_pos hc13)
  refine wl_val (g_pick_and (b := r6) (q := (decide ((p1.length : Int) = (p0.length : Int)))) rfl rfl) rfl ?_
  refine wl_val (g_move (v := .bool (r6 && (decide ((p1.length : Int) = (p0.length : Int))))) rfl) rfl ?_
  refine wl_guard (c := (r6 && (decide ((p1.length : Int) = (p0.length : Int)))) = true) (val := .slice a1 n1 c1) (b := ((r6 && (decide ((p1.length : Int) = (p0.length : Int)))) == true)) (gv_some rfl rfl rfl) beq_iff_eq (fun hc14 => ?_) ?_
  · have hq1 : ((r6 = true) ∧ ((p1.length : Int) = (p0.length : Int))) := ((i_and Iff.rfl decide_eq_true_iff).mp hc14)
    exact g_move (v := .slice a1 n1 c1) rfl
  obtain ⟨r16, hk17, hm⟩ := hm
  refine wl_guardE (X := Ext) (c := (r6 && (decide ((p1.length : Int) = (p0.length : Int)))) = true) (val := .bool r16) (Ext.refl _) (b := ((r6 && (decide ((p1.length : Int) = (p0.length : Int)))) == true)) (gv_some rfl rfl rfl) beq_iff_eq (fun hc15 => ?_) (fun w18 hE19 => ?_)
  · have hq1 : ((r6 = true) ∧ ((p1.length : Int) = (p0.length : Int))) := ((i_and Iff.rfl decide_eq_true_iff).mp hc15)
    exact (g_call (vs := #[.slice a1 n1 c1, .int .i64 0, .int .i64 10000]) CF77 (args3 (if_pos hc15) rfl rfl) ((m_impl_allWithin_fn ((hp1.bel hB7).up hS8) 0 10000 (hk17 hq1)).mono fun _ _ ⟨_, h1, h2, h3⟩ => ⟨by rw [h2, h1], h3⟩))
  have hB20 := hB7.trans (Ext.stp hE19 hS8.base)
  have hS21 := hS8.ext hE19
  refine wl_val (g_pick_and (b := (r6 && (decide ((p1.length : Int) = (p0.length : Int))))) (q := r16) rfl rfl) rfl ?_
  refine wl_val (g_assign (v := .bool ((r6 && (decide ((p1.length : Int) = (p0.length : Int)))) && r16)) rfl) rfl ?_
  refine wl_nil ?_
  refine hK2 _ _ ?_
  refine w_ret ?_
  repeat first | with_reducible refine q_then ?_ | with_reducible refine q_block ?_
  exact ret1 rfl (by decide) ⟨_, hm, rfl, toExt hB20⟩

theorem m_impl_indexOf_fn {w : World} {a0 : Option Addr} {n0 c0 : Nat} {p0 : List Int} {Q : Int → Prop} (hp0 : Vw w.heap.size w a0 n0 c0 p0) (p1 : Int) (hm : m_impl_indexOf p0 p1 Q) :
    Fn Try.prog 69 #[.slice a0 n0 c0, .int .i64 p1] w (fun v w' => ∃ (r0 : Int), Q r0 ∧ v = .int .i64 r0 ∧ Ext w w') := by
  unfold m_impl_indexOf at hm
  have hB0 := Below.refl w.heap.size w
  have hS0 : Sep w w.heap.size [] := Sep.nil (Nat.le_refl _)
  refine fn_of_wp Try.func69 rfl (by kernel_rfl) (Nat.le_of_ble_eq_true rfl) ?_
  refine w_seq fun K1 hK1 => ?_
  refine w_region ?_
  refine wl_val (g_assign (v := .int .i64 0) rfl) rfl ?_
  refine wl_nil ?_
  refine hK1 _ _ ?_
  refine w_cut (σ := Unit) (fun _ => []) (fun _ w' => m_impl_indexOf_K0 Q ∧ Below w.heap.size w w' ∧ Sep w' w.heap.size []) ?_ ?_
  · refine w_seq fun K3 hK3 => ?_
    refine w_region ?_
    refine wl_val (g_move (v := .slice a0 n0 c0) rfl) rfl ?_
    refine wl_val (q_len SL24 rfl (Vw.len (hp0.bel hB0))) rfl ?_
    refine wl_val (g_move (v := .int .i64 0) rfl) rfl ?_
    refine wl_nil ?_
    refine hK3 _ _ ?_
    refine w_block ?_
    obtain ⟨I23, μ24, h025, hr26⟩ := hm
    refine w_for (σ := Int) (fun v22 => [(1, .int .i64 p1), (7, .slice a0 n0 c0), (8, .int .i64 (p0.length : Int)), (9, .int .i64 v22)]) (fun v22 w' => I23 v22 ∧ Below w.heap.size w w' ∧ Sep w' w.heap.size []) (fun v22 => μ24 v22) (0) ⟨rfl, rfl, rfl, rfl, trivial⟩ ⟨h025, hB0, hS0⟩ ?_
    rintro v22 b_ w27 ⟨hi_, hB28, hS29⟩
    show Wp _ _ _ _ (upds b_ [(1, .int .i64 p1), (7, .slice a0 n0 c0), (8, .int .i64 (p0.length : Int)), (9, .int .i64 v22)]) w27
    have hm := hr26 v22 hi_
    refine w_seq fun K31 hK31 => ?_
    refine w_region ?_
    refine wl_val (g_lss (a := v22) (b := (p0.length : Int)) rfl rfl) rfl ?_
    refine wl_nil ?_
    refine hK31 _ _ ?_
    refine w_seq fun K32 hK32 => ?_
    refine w_condI (p := v22 < (p0.length : Int)) (b := (decide (v22 < (p0.length : Int)))) rfl decide_eq_true_iff (fun h33 => ?_) (fun h33 => ?_)
    · replace hm := hm.1 h33
      refine w_skip ?_
      refine hK32 _ _ ?_
      refine w_seq fun K34 hK34 => ?_
      refine w_block ?_
      refine w_seq fun K35 hK35 => ?_
      refine w_region ?_
      refine wl_val (g_move (v := .int .i64 v22) rfl) rfl ?_
      obtain ⟨hg36, hm⟩ := hm
      refine wl_val (q_index (i := v22) SL24 rfl rfl (hp0.bel hB28) hg36) rfl ?_
      refine wl_val (q_load (i := v22) (v := .int .i64 (p0[(Int.toNat v22)]!)) ON3 (hp0.bel hB28) hg36 rfl rfl) rfl ?_
      refine wl_val (g_assign (v := .int .i64 v22) rfl) rfl ?_
      refine wl_val (g_assign (v := .int .i64 (p0[(Int.toNat v22)]!)) rfl) rfl ?_
      refine wl_nil ?_
      refine hK35 _ _ ?_
      refine w_seq fun K37 hK37 => ?_
      refine w_region ?_
      refine wl_val (g_move (v := .int .i64 (p0[(Int.toNat v22)]!)) rfl) rfl ?_
      refine wl_val (g_move (v := .int .i64 p1) rfl) rfl ?_
      refine wl_val (g_eql (a := p0[(Int.toNat v22)]!) (b := p1) rfl rfl) rfl ?_
      refine wl_nil ?_
      refine hK37 _ _ ?_
      refine w_condI (p := p0[(Int.toNat v22)]! = p1) (b := (decide (p0[(Int.toNat v22)]! = p1))) rfl decide_eq_true_iff (fun h38 => ?_) (fun h38 => ?_)
      · replace hm := hm.1 h38
        refine w_seq fun K39 hK39 => ?_
        refine w_region ?_
        refine wl_val (g_move (v := .int .i64 v22) rfl) rfl ?_
        refine wl_val (g_assign (v := .int .i64 v22) rfl) rfl ?_
        refine wl_nil ?_
        refine hK39 _ _ ?_
        refine w_ret ?_
        repeat first | with_reducible refine q_then ?_ | with_reducible refine q_block ?_
        exact ret1 rfl (by decide) ⟨_, hm, rfl, toExt hB28⟩
      · replace hm := hm.2 h38
        refine w_skip ?_
        refine hK34 _ _ ?_
        refine w_region ?_
        obtain ⟨hg40, hm⟩ := hm
        refine wl_val (g_add (a := v22) (b := 1) rfl rfl hg40) rfl ?_
        refine wl_val (g_move (v := .int .i64 (v22 + 1)) rfl) rfl ?_
        refine wl_nil ?_
        exact ⟨((v22 + 1)), hm.2, ⟨rfl, rfl, rfl, rfl, trivial⟩, ⟨hm.1, hB28, hS29⟩⟩
    · replace hm := hm.2 h33
      refine w_exit ?_
      exact ⟨(), trivial, ⟨hm, hB28, hS29⟩⟩
  · rintro _ b_ w41 ⟨hm, hB42, hS43⟩
    show Wp _ _ _ _ (upds b_ []) w41
    refine w_seq fun K44 hK44 => ?_
    refine w_region ?_
    refine wl_val (g_assign (v := .int .i64 (-1)) rfl) rfl ?_
    refine wl_nil ?_
    refine hK44 _ _ ?_
    refine w_ret ?_
    repeat first | with_reducible refine q_then ?_ | with_reducible refine q_block ?_
    exact ret1 rfl (by decide) ⟨_, hm, rfl, toExt hB42⟩

theorem m_impl_share_fn {w : World} {a0_1 : Option Addr} {n0_1 c0_1 : Nat} {a0_2 : Option Addr} {n0_2 c0_2 : Nat} {a1_1 : Option Addr} {n1_1 c1_1 : Nat} {a1_2 : Option Addr} {n1_2 c1_2 : Nat} {Q : Bool → Prop} (p0 : CueC) (hp0_1 : Vw w.heap.size w a0_1 n0_1 c0_1 p0.2.1) (hp0_2 : Vw w.heap.size w a0_2 n0_2 c0_2 p0.2.2) (p1 : CueC) (hp1_1 : Vw w.heap.size w a1_1 n1_1 c1_1 p1.2.1) (hp1_2 : Vw w.heap.size w a1_2 n1_2 c1_2 p1.2.2) (hm : m_impl_share p0 p1 Q) :
    Fn Try.prog 70 #[.agg #[.int .i64 p0.1, .slice a0_1 n0_1 c0_1, .slice a0_2 n0_2 c0_2], .agg #[.int .i64 p1.1, .slice a1_1 n1_1 c1_1, .slice a1_2 n1_2 c1_2]] w (fun v w' => ∃ (r0 : Bool), Q r0 ∧ v = .bool r0 ∧ Ext w w') := by
  unfold m_impl_share at hm
  have hB0 := Below.refl w.heap.size w
  have hS0 : Sep w w.heap.size [] := Sep.nil (Nat.le_refl _)
  refine fn_of_wp Try.func70 rfl (by kernel_rfl) (Nat.le_of_ble_eq_true rfl) ?_
  refine w_seq fun K1 hK1 => ?_
  refine w_region ?_
  refine wl_step rfl (q_box (cs := #[.int .i64 p0.1, .slice a0_1 n0_1 c0_1, .slice a0_2 n0_2 c0_2]) rfl rfl hS0) ?_
  rintro _ w2 ⟨g3, rfl, hS5, hE4⟩
  have hB7 := hB0.trans (Ext.stp hE4 hS0.base)
  refine wl_step rfl (q_box (cs := #[.int .i64 p1.1, .slice a1_1 n1_1 c1_1, .slice a1_2 n1_2 c1_2]) rfl rfl hS5) ?_
  rintro _ w8 ⟨g9, rfl, hS11, hE10⟩
  have hB13 := hB7.trans (Ext.stp hE10 hS5.base)
  refine wl_val (g_assign (v := .bool false) rfl) rfl ?_
  refine wl_nil ?_
  refine hK1 _ _ ?_
  refine w_cut (σ := Unit) (fun _ => []) (fun _ w' => m_impl_share_K0 Q ∧ Below w.heap.size w w' ∧ Sep w' w.heap.size []) ?_ ?_
  · refine w_seq fun K15 hK15 => ?_
    refine w_region ?_
    refine wl_val (g_fieldAddr (q := (⟨g3, 0, none⟩ : Addr)) FL39_2 ON24 rfl) rfl ?_
    refine wl_val (q_loadB (i := 2) (bs := #[.int .i64 p0.1, .slice a0_1 n0_1 c0_1, .slice a0_2 n0_2 c0_2]) hS11.g1 ON24 rfl rfl) rfl ?_
    refine wl_val (q_len SL24 rfl (Vw.len (hp0_2.bel hB13))) rfl ?_
    refine wl_val (g_move (v := .int .i64 0) rfl) rfl ?_
    refine wl_nil ?_
    refine hK15 _ _ ?_
    refine w_block ?_
    have hS43 := hS11.f1
    have hS44 := hS43.tail
    obtain ⟨I45, μ46, h047, hr48⟩ := hm
    refine w_for (σ := Int) (fun v42 => [(3, .pointer (some (⟨g9, 0, none⟩ : Addr))), (8, .slice a0_2 n0_2 c0_2), (9, .int .i64 (p0.2.2.length : Int)), (10, .int .i64 v42)]) (fun v42 w' => I45 v42 ∧ Below w.heap.size w w' ∧ Sep w' w.heap.size [oB g9 39 #[.int .i64 p1.1, .slice a1_1 n1_1 c1_1, .slice a1_2 n1_2 c1_2]]) (fun v42 => μ46 v42) (0) ⟨rfl, rfl, rfl, rfl, trivial⟩ ⟨h047, hB13, hS44⟩ ?_
    rintro v42 b_ w49 ⟨hi_, hB50, hS51⟩
    show Wp _ _ _ _ (upds b_ [(3, .pointer (some (⟨g9, 0, none⟩ : Addr))), (8, .slice a0_2 n0_2 c0_2), (9, .int .i64 (p0.2.2.length : Int)), (10, .int .i64 v42)]) w49
    have hm := hr48 v42 hi_
    refine w_seq fun K53 hK53 => ?_
    refine w_region ?_
    refine wl_val (g_lss (a := v42) (b := (p0.2.2.length : Int)) rfl rfl) rfl ?_
    refine wl_nil ?_
    refine hK53 _ _ ?_
    refine w_seq fun K54 hK54 => ?_
    refine w_condI (p := v42 < (p0.2.2.length : Int)) (b := (decide (v42 < (p0.2.2.length : Int)))) rfl decide_eq_true_iff (fun h55 => ?_) (fun h55 => ?_)
    · replace hm := hm.1 h55
      refine w_skip ?_
      refine hK54 _ _ ?_
      refine w_seq fun K56 hK56 => ?_
      refine w_block ?_
      refine w_seq fun K57 hK57 => ?_
      refine w_region ?_
      obtain ⟨hg58, hm⟩ := hm
      refine wl_val (q_index (i := v42) SL24 rfl rfl (hp0_2.bel hB50) hg58) rfl ?_
      refine wl_val (q_load (i := v42) (v := .int .i64 (p0.2.2[(Int.toNat v42)]!)) ON3 (hp0_2.bel hB50) hg58 rfl rfl) rfl ?_
      refine wl_val (g_assign (v := .int .i64 (p0.2.2[(Int.toNat v42)]!)) rfl) rfl ?_
      refine wl_nil ?_
      refine hK57 _ _ ?_
      refine w_seq fun K59 hK59 => ?_
      refine w_region ?_
      refine wl_val (g_fieldAddr (q := (⟨g9, 0, none⟩ : Addr)) FL39_2 ON24 rfl) rfl ?_
      refine wl_val (q_loadB (i := 2) (bs := #[.int .i64 p1.1, .slice a1_1 n1_1 c1_1, .slice a1_2 n1_2 c1_2]) hS51.g0 ON24 rfl rfl) rfl ?_
      refine wl_val (g_move (v := .int .i64 (p0.2.2[(Int.toNat v42)]!)) rfl) rfl ?_
      refine wl_step rfl (g_call (vs := #[.slice a1_2 n1_2 c1_2, .int .i64 (p0.2.2[(Int.toNat v42)]!)]) CF69 (args2 rfl rfl) (m_impl_indexOf_fn ((hp1_2.bel hB50).up hS51) (p0.2.2[(Int.toNat v42)]!) hm)) ?_
      rintro _ w60 ⟨r63, hm, rfl, hE61⟩
      have hB64 := hB50.trans (Ext.stp hE61 hS51.base)
      have hS65 := hS51.ext hE61
      refine wl_val (g_geq (a := r63) (b := 0) rfl rfl) rfl ?_
      refine wl_nil ?_
      refine hK59 _ _ ?_
      refine w_condI (p := r63 ≥ 0) (b := (decide (r63 ≥ 0))) rfl decide_eq_true_iff (fun h66 => ?_) (fun h66 => ?_)
      · replace hm := hm.1 h66
        refine w_seq fun K67 hK67 => ?_
        refine w_region ?_
        refine wl_val (g_assign (v := .bool true) rfl) rfl ?_
        refine wl_nil ?_
        refine hK67 _ _ ?_
        refine w_ret ?_
        repeat first | with_reducible refine q_then ?_ | with_reducible refine q_block ?_
        exact ret1 rfl (by decide) ⟨_, hm, rfl, toExt hB64⟩
      · replace hm := hm.2 h66
        refine w_skip ?_
        refine hK56 _ _ ?_
        refine w_region ?_
        obtain ⟨hg68, hm⟩ := hm
        refine wl_val (g_add (a := v42) (b := 1) rfl rfl hg68) rfl ?_
        refine wl_val (g_move (v := .int .i64 (v42 + 1)) rfl) rfl ?_
        refine wl_nil ?_
        exact ⟨((v42 + 1)), hm.2, ⟨rfl, rfl, rfl, rfl, trivial⟩, ⟨hm.1, hB64, hS65⟩⟩
    · replace hm := hm.2 h55
      refine w_exit ?_
      have hS69 := hS51.tail
      exact ⟨(), trivial, ⟨hm, hB50, hS69⟩⟩
  · rintro _ b_ w70 ⟨hm, hB71, hS72⟩
    show Wp _ _ _ _ (upds b_ []) w70
    refine w_seq fun K73 hK73 => ?_
    refine w_region ?_
    refine wl_val (g_assign (v := .bool false) rfl) rfl ?_
    refine wl_nil ?_
    refine hK73 _ _ ?_
    refine w_ret ?_
    repeat first | with_reducible refine q_then ?_ | with_reducible refine q_block ?_
    exact ret1 rfl (by decide) ⟨_, hm, rfl, toExt hB71⟩

theorem m_impl_ClashesIn_fn {w : World} {a0 : Option Addr} {n0 c0 : Nat} {y0 : List CueD} {p0 : List CueC} {a1 : Option Addr} {n1 c1 : Nat} {p1 : List Int} {Q : (List (List Int)) → Prop} (hp0 : Tv w.heap.size w a0 n0 c0 y0 p0) (hp1 : Vw w.heap.size w a1 n1 c1 p1) (hm : m_impl_ClashesIn p0 p1 Q) :
    Fn Try.prog 43 #[.slice a0 n0 c0, .slice a1 n1 c1] w (fun v w' => ∃ (r0 : List (List Int)) (a0 : Option Addr) (n0 c0 : Nat) (y0 : List (Hd Int)), Q r0 ∧ ers y0 = r0 ∧ v = .slice a0 n0 c0 ∧ Ext w w' ∧ Sep w' w.heap.size [oS 24 a0 n0 c0 y0, oT 3 y0]) := by
  unfold m_impl_ClashesIn at hm
  have hB0 := Below.refl w.heap.size w
  have hS0 : Sep w w.heap.size [] := Sep.nil (Nat.le_refl _)
  refine fn_of_wp Try.func43 rfl (by kernel_rfl) (Nat.le_of_ble_eq_true rfl) ?_
  refine w_seq fun K1 hK1 => ?_
  refine w_region ?_
  refine wl_val (g_assign (v := .slice none 0 0) rfl) rfl ?_
  refine wl_nil ?_
  refine hK1 _ _ ?_
  refine w_seq fun K2 hK2 => ?_
  refine w_seq fun K3 hK3 => ?_
  refine w_region ?_
  refine wl_val (g_move (v := .slice a0 n0 c0) rfl) rfl ?_
  refine wl_val (g_move (v := .slice a1 n1 c1) rfl) rfl ?_
  refine wl_step rfl (g_call (vs := #[.slice a0 n0 c0, .slice a1 n1 c1]) CF71 (args2 rfl rfl) (m_impl_areStarts_fn ((hp0.bel hB0).up hS0) ((hp1.bel hB0).up hS0) hm)) ?_
  rintro _ w4 ⟨r7, hm, rfl, hE5⟩
  have hB8 := hB0.trans (Ext.stp hE5 hS0.base)
  have hS9 := hS0.ext hE5
  refine wl_val (g_not (a := r7) rfl) rfl ?_
  refine wl_nil ?_
  refine hK3 _ _ ?_
  refine w_condI (p := ¬ (r7 = true)) (b := (!r7)) rfl (i_not Iff.rfl) (fun h10 => ?_) (fun h10 => ?_)
  · replace hm := hm.1 h10
    refine w_seq fun K11 hK11 => ?_
    refine w_region ?_
    refine wl_val (g_assign (v := .slice none 0 0) rfl) rfl ?_
    refine wl_nil ?_
    refine hK11 _ _ ?_
    refine w_ret ?_
    have hS12 := hS9.nilS (α := (Hd Int)) (E := 24)
    have hS14 := hS12.noRows (δ := Hd Int) (E := 3)
    have he16 : ers ([] : List (Hd Int)) = ([] : List (List Int)) := rfl
    have hS18 := hS14.f1
    repeat first | with_reducible refine q_then ?_ | with_reducible refine q_block ?_
    exact ret1 rfl (by decide) ⟨_, _, _, _, _, hm, he16, rfl, toExt hB8, hS18⟩
  · replace hm := hm.2 h10
    refine w_skip ?_
    refine hK2 _ _ ?_
    refine w_seq fun K19 hK19 => ?_
    refine w_region ?_
    refine wl_step rfl (q_lit0 (α := (Hd Int)) rfl SL44 hS9) ?_
    rintro _ w20 ⟨a21, rfl, hS23, hE22⟩
    have hB25 := hB8.trans (Ext.stp hE22 hS9.base)
    have hS26 := hS23.noRows (δ := Hd Int) (E := 3)
    have he28 : ers ([] : List (Hd Int)) = ([] : List (List Int)) := rfl
    refine wl_val (g_assign (v := .slice a21 0 0) rfl) rfl ?_
    refine wl_nil ?_
    refine hK19 _ _ ?_
    refine w_cut (σ := List (List Int) × Option Addr × Nat × Nat × List (Hd Int)) (fun ⟨x1198, a1199, n1200, c1201, y1202⟩ => [(5, .slice a1199 n1200 c1201)]) (fun ⟨x1198, a1199, n1200, c1201, y1202⟩ w' => m_impl_ClashesIn_K1 Q x1198 ∧ ers y1202 = x1198 ∧ Below w.heap.size w w' ∧ Sep w' w.heap.size [oS 24 a1199 n1200 c1201 (y1202 : List (Hd Int)), oT 3 (y1202 : List (Hd Int))]) ?_ ?_
    · refine w_seq fun K1205 hK1205 => ?_
      refine w_region ?_
      refine wl_val (g_move (v := .slice a0 n0 c0) rfl) rfl ?_
      refine wl_val (q_len SL26 rfl (Tv.len (hp0.bel hB25))) rfl ?_
      refine wl_val (g_move (v := .int .i64 0) rfl) rfl ?_
      refine wl_nil ?_
      refine hK1205 _ _ ?_
      refine w_block ?_
      have hS1213 := hS26.f1
      obtain ⟨I1214, μ1215, h01216, hr1217⟩ := hm
      refine w_for (σ := List (List Int) × Option Addr × Nat × Nat × List (Hd Int) × Int) (fun ⟨x1206, a1207, n1208, c1209, y1210, v1212⟩ => [(0, .slice a0 n0 c0), (1, .slice a1 n1 c1), (5, .slice a1207 n1208 c1209), (14, .int .i64 (p0.length : Int)), (15, .int .i64 v1212)]) (fun ⟨x1206, a1207, n1208, c1209, y1210, v1212⟩ w' => I1214 x1206 v1212 ∧ ers y1210 = x1206 ∧ Below w.heap.size w w' ∧ Sep w' w.heap.size [oS 24 a1207 n1208 c1209 (y1210 : List (Hd Int)), oT 3 (y1210 : List (Hd Int))]) (fun ⟨x1206, a1207, n1208, c1209, y1210, v1212⟩ => μ1215 x1206 v1212) ([], a21, 0, 0, [], 0) ⟨rfl, rfl, rfl, rfl, rfl, trivial⟩ ⟨h01216, he28, hB25, hS1213⟩ ?_
      rintro ⟨x1206, a1207, n1208, c1209, y1210, v1212⟩ b_ w1218 ⟨hi_, he1211, hB1219, hS1220⟩
      show Wp _ _ _ _ (upds b_ [(0, .slice a0 n0 c0), (1, .slice a1 n1 c1), (5, .slice a1207 n1208 c1209), (14, .int .i64 (p0.length : Int)), (15, .int .i64 v1212)]) w1218
      have hm := hr1217 x1206 v1212 hi_
      refine w_seq fun K1222 hK1222 => ?_
      refine w_region ?_
      refine wl_val (g_lss (a := v1212) (b := (p0.length : Int)) rfl rfl) rfl ?_
      refine wl_nil ?_
      refine hK1222 _ _ ?_
      refine w_seq fun K1223 hK1223 => ?_
      refine w_condI (p := v1212 < (p0.length : Int)) (b := (decide (v1212 < (p0.length : Int)))) rfl decide_eq_true_iff (fun h1224 => ?_) (fun h1224 => ?_)
      · replace hm := hm.1 h1224
        refine w_skip ?_
        refine hK1223 _ _ ?_
        refine w_cut (σ := List (List Int) × Option Addr × Nat × Nat × List (Hd Int)) (fun ⟨x1225, a1226, n1227, c1228, y1229⟩ => [(0, .slice a0 n0 c0), (1, .slice a1 n1 c1), (5, .slice a1226 n1227 c1228), (14, .int .i64 (p0.length : Int)), (15, .int .i64 v1212)]) (fun ⟨x1225, a1226, n1227, c1228, y1229⟩ w' => m_impl_ClashesIn_K0 v1212 (fun x1206' v1212' => I1214 x1206' v1212' ∧ μ1215 x1206' v1212' < μ1215 x1206 v1212) x1225 ∧ ers y1229 = x1225 ∧ Below w.heap.size w w' ∧ Sep w' w.heap.size [oS 24 a1226 n1227 c1228 (y1229 : List (Hd Int)), oT 3 (y1229 : List (Hd Int))]) ?_ ?_
        · refine w_block ?_
          refine w_seq fun K1232 hK1232 => ?_
          refine w_region ?_
          refine wl_val (g_move (v := .int .i64 v1212) rfl) rfl ?_
          refine wl_val (g_assign (v := .int .i64 v1212) rfl) rfl ?_
          refine wl_nil ?_
          refine hK1232 _ _ ?_
          refine w_seq fun K1233 hK1233 => ?_
          refine w_region ?_
          refine wl_val (g_move (v := .int .i64 v1212) rfl) rfl ?_
          obtain ⟨hg1234, hm⟩ := hm
          refine wl_val (g_add (a := v1212) (b := 1) rfl rfl hg1234) rfl ?_
          refine wl_val (g_assign (v := .int .i64 (v1212 + 1)) rfl) rfl ?_
          refine wl_nil ?_
          refine hK1233 _ _ ?_
          refine w_block ?_
          obtain ⟨I1242, μ1243, h01244, hr1245⟩ := hm
          refine w_for (σ := List (List Int) × Option Addr × Nat × Nat × List (Hd Int) × Int) (fun ⟨x1235, a1236, n1237, c1238, y1239, v1241⟩ => [(0, .slice a0 n0 c0), (1, .slice a1 n1 c1), (5, .slice a1236 n1237 c1238), (6, .int .i64 v1212), (7, .int .i64 v1241), (14, .int .i64 (p0.length : Int)), (15, .int .i64 v1212)]) (fun ⟨x1235, a1236, n1237, c1238, y1239, v1241⟩ w' => I1242 x1235 v1241 ∧ ers y1239 = x1235 ∧ Below w.heap.size w w' ∧ Sep w' w.heap.size [oS 24 a1236 n1237 c1238 (y1239 : List (Hd Int)), oT 3 (y1239 : List (Hd Int))]) (fun ⟨x1235, a1236, n1237, c1238, y1239, v1241⟩ => μ1243 x1235 v1241) (x1206, a1207, n1208, c1209, y1210, (v1212 + 1)) ⟨rfl, rfl, rfl, rfl, rfl, rfl, rfl, trivial⟩ ⟨h01244, he1211, hB1219, hS1220⟩ ?_
          rintro ⟨x1235, a1236, n1237, c1238, y1239, v1241⟩ b_ w1246 ⟨hi_, he1240, hB1247, hS1248⟩
          show Wp _ _ _ _ (upds b_ [(0, .slice a0 n0 c0), (1, .slice a1 n1 c1), (5, .slice a1236 n1237 c1238), (6, .int .i64 v1212), (7, .int .i64 v1241), (14, .int .i64 (p0.length : Int)), (15, .int .i64 v1212)]) w1246
          have hm := hr1245 x1235 v1241 hi_
          refine w_seq fun K1250 hK1250 => ?_
          refine w_seq fun K1251 hK1251 => ?_
          refine w_region ?_
          refine wl_val (g_move (v := .int .i64 v1241) rfl) rfl ?_
          refine wl_val (g_move (v := .slice a0 n0 c0) rfl) rfl ?_
          refine wl_val (q_len SL26 rfl (Tv.len (hp0.bel hB1247))) rfl ?_
          refine wl_val (g_lss (a := v1241) (b := (p0.length : Int)) rfl rfl) rfl ?_
          refine wl_nil ?_
          refine hK1251 _ _ ?_
          refine w_condI (p := v1241 < (p0.length : Int)) (b := (decide (v1241 < (p0.length : Int)))) rfl decide_eq_true_iff (fun h1252 => ?_) (fun h1252 => ?_)
          · replace hm := hm.1 h1252
            refine w_skip ?_
            refine hK1250 _ _ ?_
            refine w_seq fun K1253 hK1253 => ?_
            refine w_block ?_
            refine w_seq fun K1254 hK1254 => ?_
            refine w_draw (X := Ext) (Y := Ext) [] MIX (by decide +kernel) rfl Ext.refl (fun _ _ _ => Ext.trans) (fun _ _ _ => Chg.trans) (fun _ _ h => Ext.chg h _) (fun w1255 hE1256 => ?_)
            have hB1257 := hB1247.trans (Ext.stp hE1256 hS1248.base)
            have hS1258 := hS1248.ext hE1256
            refine ⟨.slice a0 n0 c0, fun w1259 hX1260 => od_plain rfl (by have hS1261 := hS1258.ext hX1260; have hB1262 := hB1257.trans (Ext.stp hX1260 hS1258.base); exact is_ext (g_move (v := .slice a0 n0 c0) rfl)), ?_⟩
            refine ⟨.int .i64 v1212, fun w1263 hX1264 => od_plain rfl (by have hS1265 := hS1258.ext hX1264; have hB1266 := hB1257.trans (Ext.stp hX1264 hS1258.base); exact is_ext (g_move (v := .int .i64 v1212) rfl)), ?_⟩
            obtain ⟨hg1271, hm⟩ := hm
            refine ⟨.pointer (some ((adr a0).add ((Int.toNat v1212) * El.m CueD))), fun w1267 hX1268 => od_plain rfl (by have hS1269 := hS1258.ext hX1268; have hB1270 := hB1257.trans (Ext.stp hX1268 hS1258.base); exact is_ext (q_index (i := v1212) SL26 rfl rfl (Tv.o (hp0.bel hB1270)) (Tv.g (hp0.bel hB1270) hg1271))), ?_⟩
            refine ⟨.agg #[.int .i64 (p0[(Int.toNat v1212)]!.1), .slice ((y0[(Int.toNat v1212)]!).2.1.1) ((y0[(Int.toNat v1212)]!).2.1.2.2.length) ((y0[(Int.toNat v1212)]!).2.1.2.1), .slice ((y0[(Int.toNat v1212)]!).2.2.1) ((y0[(Int.toNat v1212)]!).2.2.2.2.length) ((y0[(Int.toNat v1212)]!).2.2.2.1)], fun w1272 hX1273 => od_plain rfl (by have hS1274 := hS1258.ext hX1273; have hB1275 := hB1257.trans (Ext.stp hX1273 hS1258.base); exact is_ext (q_loadS (i := v1212) (cs := [.int .i64 (p0[(Int.toNat v1212)]!.1), .slice ((y0[(Int.toNat v1212)]!).2.1.1) ((y0[(Int.toNat v1212)]!).2.1.2.2.length) ((y0[(Int.toNat v1212)]!).2.1.2.1), .slice ((y0[(Int.toNat v1212)]!).2.2.1) ((y0[(Int.toNat v1212)]!).2.2.2.2.length) ((y0[(Int.toNat v1212)]!).2.2.2.1)]) AG39 (Tv.o (hp0.bel hB1275)) (Tv.g (hp0.bel hB1275) hg1271) (by rw [← Tv.ticks (hp0.bel hB1275) hg1271]; rfl) rfl)), ?_⟩
            refine ⟨.slice a0 n0 c0, fun w1276 hX1277 => od_plain rfl (by have hS1278 := hS1258.ext hX1277; have hB1279 := hB1257.trans (Ext.stp hX1277 hS1258.base); exact is_ext (g_move (v := .slice a0 n0 c0) rfl)), ?_⟩
            refine ⟨.int .i64 v1241, fun w1280 hX1281 => od_plain rfl (by have hS1282 := hS1258.ext hX1281; have hB1283 := hB1257.trans (Ext.stp hX1281 hS1258.base); exact is_ext (g_move (v := .int .i64 v1241) rfl)), ?_⟩
            obtain ⟨hg1288, hm⟩ := hm
            refine ⟨.pointer (some ((adr a0).add ((Int.toNat v1241) * El.m CueD))), fun w1284 hX1285 => od_plain rfl (by have hS1286 := hS1258.ext hX1285; have hB1287 := hB1257.trans (Ext.stp hX1285 hS1258.base); exact is_ext (q_index (i := v1241) SL26 rfl rfl (Tv.o (hp0.bel hB1287)) (Tv.g (hp0.bel hB1287) hg1288))), ?_⟩
            refine ⟨.agg #[.int .i64 (p0[(Int.toNat v1241)]!.1), .slice ((y0[(Int.toNat v1241)]!).2.1.1) ((y0[(Int.toNat v1241)]!).2.1.2.2.length) ((y0[(Int.toNat v1241)]!).2.1.2.1), .slice ((y0[(Int.toNat v1241)]!).2.2.1) ((y0[(Int.toNat v1241)]!).2.2.2.2.length) ((y0[(Int.toNat v1241)]!).2.2.2.1)], fun w1289 hX1290 => od_plain rfl (by have hS1291 := hS1258.ext hX1290; have hB1292 := hB1257.trans (Ext.stp hX1290 hS1258.base); exact is_ext (q_loadS (i := v1241) (cs := [.int .i64 (p0[(Int.toNat v1241)]!.1), .slice ((y0[(Int.toNat v1241)]!).2.1.1) ((y0[(Int.toNat v1241)]!).2.1.2.2.length) ((y0[(Int.toNat v1241)]!).2.1.2.1), .slice ((y0[(Int.toNat v1241)]!).2.2.1) ((y0[(Int.toNat v1241)]!).2.2.2.2.length) ((y0[(Int.toNat v1241)]!).2.2.2.1)]) AG39 (Tv.o (hp0.bel hB1292)) (Tv.g (hp0.bel hB1292) hg1288) (by rw [← Tv.ticks (hp0.bel hB1292) hg1288]; rfl) rfl)), ?_⟩
            obtain ⟨r1297, hk1298, hm⟩ := hm
            refine ⟨.bool r1297, fun w1293 hX1294 => od_plain rfl (by have hS1295 := hS1258.ext hX1294; have hB1296 := hB1257.trans (Ext.stp hX1294 hS1258.base); exact (g_call (vs := #[.agg #[.int .i64 (p0[(Int.toNat v1212)]!.1), .slice ((y0[(Int.toNat v1212)]!).2.1.1) ((y0[(Int.toNat v1212)]!).2.1.2.2.length) ((y0[(Int.toNat v1212)]!).2.1.2.1), .slice ((y0[(Int.toNat v1212)]!).2.2.1) ((y0[(Int.toNat v1212)]!).2.2.2.2.length) ((y0[(Int.toNat v1212)]!).2.2.2.1)], .agg #[.int .i64 (p0[(Int.toNat v1241)]!.1), .slice ((y0[(Int.toNat v1241)]!).2.1.1) ((y0[(Int.toNat v1241)]!).2.1.2.2.length) ((y0[(Int.toNat v1241)]!).2.1.2.1), .slice ((y0[(Int.toNat v1241)]!).2.2.1) ((y0[(Int.toNat v1241)]!).2.2.2.2.length) ((y0[(Int.toNat v1241)]!).2.2.2.1)]]) CF70 (args2 rfl rfl) ((m_impl_share_fn (p0[(Int.toNat v1212)]!) ((Tv.rowC0 (hp0.bel hB1296) hg1271).up hS1295) ((Tv.rowC1 (hp0.bel hB1296) hg1271).up hS1295) (p0[(Int.toNat v1241)]!) ((Tv.rowC0 (hp0.bel hB1296) hg1288).up hS1295) ((Tv.rowC1 (hp0.bel hB1296) hg1288).up hS1295) hk1298).mono fun _ _ ⟨_, h1, h2, h3⟩ => ⟨by rw [h2, h1], h3⟩))), ?_⟩
            refine ⟨.bool r1297, fun w1299 hX1300 => od_plain rfl (by have hS1301 := hS1258.ext hX1300; have hB1302 := hB1257.trans (Ext.stp hX1300 hS1258.base); exact is_ext (g_move (v := .bool r1297) rfl)), ?_⟩
            refine ⟨if r1297 = true then .slice a1 n1 c1 else undef, fun w1303 hX1304 => od_guard (c := r1297 = true) (val := .slice a1 n1 c1) (b := (r1297 == true)) (gv_some rfl rfl rfl) beq_iff_eq (fun hc1307 => ?_), ?_⟩
            · have hS1305 := hS1258.ext hX1304
              have hB1306 := hB1257.trans (Ext.stp hX1304 hS1258.base)
              have hq8 : r1297 = true := (Iff.rfl.mp hc1307)
              exact is_ext (g_move (v := .slice a1 n1 c1) rfl)
            refine ⟨if r1297 = true then .int .i64 v1212 else undef, fun w1308 hX1309 => od_guard (c := r1297 = true) (val := .int .i64 v1212) (b := (r1297 == true)) (gv_some rfl rfl rfl) beq_iff_eq (fun hc1312 => ?_), ?_⟩
            · have hS1310 := hS1258.ext hX1309
              have hB1311 := hB1257.trans (Ext.stp hX1309 hS1258.base)
              have hq8 : r1297 = true := (Iff.rfl.mp hc1312)
              exact is_ext (g_move (v := .int .i64 v1212) rfl)
            obtain ⟨hg1318, hm⟩ := hm
            refine ⟨if r1297 = true then .pointer (some ((adr a1).add ((Int.toNat v1212) * El.m Int))) else undef, fun w1313 hX1314 => od_guard (c := r1297 = true) (val := .pointer (some ((adr a1).add ((Int.toNat v1212) * El.m Int)))) (b := (r1297 == true)) (gv_some rfl rfl rfl) beq_iff_eq (fun hc1317 => ?_), ?_⟩
            · have hS1315 := hS1258.ext hX1314
              have hB1316 := hB1257.trans (Ext.stp hX1314 hS1258.base)
              have hq8 : r1297 = true := (Iff.rfl.mp hc1317)
              exact is_ext (q_index (i := v1212) SL24 (if_pos hc1317) (if_pos hc1317) (hp1.bel hB1316) (hg1318 hq8))
            refine ⟨if r1297 = true then .int .i64 (p1[(Int.toNat v1212)]!) else undef, fun w1319 hX1320 => od_guard (c := r1297 = true) (val := .int .i64 (p1[(Int.toNat v1212)]!)) (b := (r1297 == true)) (gv_some rfl rfl rfl) beq_iff_eq (fun hc1323 => ?_), ?_⟩
            · have hS1321 := hS1258.ext hX1320
              have hB1322 := hB1257.trans (Ext.stp hX1320 hS1258.base)
              have hq8 : r1297 = true := (Iff.rfl.mp hc1323)
              exact is_ext (q_load (i := v1212) (v := .int .i64 (p1[(Int.toNat v1212)]!)) ON3 (hp1.bel hB1322) (hg1318 hq8) rfl (if_pos hc1323))
            refine ⟨if r1297 = true then .slice a1 n1 c1 else undef, fun w1324 hX1325 => od_guard (c := r1297 = true) (val := .slice a1 n1 c1) (b := (r1297 == true)) (gv_some rfl rfl rfl) beq_iff_eq (fun hc1328 => ?_), ?_⟩
            · have hS1326 := hS1258.ext hX1325
              have hB1327 := hB1257.trans (Ext.stp hX1325 hS1258.base)
              have hq8 : r1297 = true := (Iff.rfl.mp hc1328)
              exact is_ext (g_move (v := .slice a1 n1 c1) rfl)
            refine ⟨if r1297 = true then .int .i64 v1241 else undef, fun w1329 hX1330 => od_guard (c := r1297 = true) (val := .int .i64 v1241) (b := (r1297 == true)) (gv_some rfl rfl rfl) beq_iff_eq (fun hc1333 => ?_), ?_⟩
            · have hS1331 := hS1258.ext hX1330
              have hB1332 := hB1257.trans (Ext.stp hX1330 hS1258.base)
              have hq8 : r1297 = true := (Iff.rfl.mp hc1333)
              exact is_ext (g_move (v := .int .i64 v1241) rfl)
            obtain ⟨hg1339, hm⟩ := hm
            refine ⟨if r1297 = true then .pointer (some ((adr a1).add ((Int.toNat v1241) * El.m Int))) else undef, fun w1334 hX1335 => od_guard (c := r1297 = true) (val := .pointer (some ((adr a1).add ((Int.toNat v1241) * El.m Int)))) (b := (r1297 == true)) (gv_some rfl rfl rfl) beq_iff_eq (fun hc1338 => ?_), ?_⟩
            · have hS1336 := hS1258.ext hX1335
              have hB1337 := hB1257.trans (Ext.stp hX1335 hS1258.base)
              have hq8 : r1297 = true := (Iff.rfl.mp hc1338)
              exact is_ext (q_index (i := v1241) SL24 (if_pos hc1338) (if_pos hc1338) (hp1.bel hB1337) (hg1339 hq8))
            refine ⟨if r1297 = true then .int .i64 (p1[(Int.toNat v1241)]!) else undef, fun w1340 hX1341 => od_guard (c := r1297 = true) (val := .int .i64 (p1[(Int.toNat v1241)]!)) (b := (r1297 == true)) (gv_some rfl rfl rfl) beq_iff_eq (fun hc1344 => ?_), ?_⟩
            · have hS1342 := hS1258.ext hX1341
              have hB1343 := hB1257.trans (Ext.stp hX1341 hS1258.base)
              have hq8 : r1297 = true := (Iff.rfl.mp hc1344)
              exact is_ext (q_load (i := v1241) (v := .int .i64 (p1[(Int.toNat v1241)]!)) ON3 (hp1.bel hB1343) (hg1339 hq8) rfl (if_pos hc1344))
            refine ⟨if r1297 = true then .slice a0 n0 c0 else undef, fun w1345 hX1346 => od_guard (c := r1297 = true) (val := .slice a0 n0 c0) (b := (r1297 == true)) (gv_some rfl rfl rfl) beq_iff_eq (fun hc1349 => ?_), ?_⟩
            · have hS1347 := hS1258.ext hX1346
              have hB1348 := hB1257.trans (Ext.stp hX1346 hS1258.base)
              have hq8 : r1297 = true := (Iff.rfl.mp hc1349)
              exact is_ext (g_move (v := .slice a0 n0 c0) rfl)
            refine ⟨if r1297 = true then .int .i64 v1241 else undef, fun w1350 hX1351 => od_guard (c := r1297 = true) (val := .int .i64 v1241) (b := (r1297 == true)) (gv_some rfl rfl rfl) beq_iff_eq (fun hc1354 => ?_), ?_⟩
            · have hS1352 := hS1258.ext hX1351
              have hB1353 := hB1257.trans (Ext.stp hX1351 hS1258.base)
              have hq8 : r1297 = true := (Iff.rfl.mp hc1354)
              exact is_ext (g_move (v := .int .i64 v1241) rfl)
            obtain ⟨hg1360, hm⟩ := hm
            refine ⟨if r1297 = true then .pointer (some ((adr a0).add ((Int.toNat v1241) * El.m CueD))) else undef, fun w1355 hX1356 => od_guard (c := r1297 = true) (val := .pointer (some ((adr a0).add ((Int.toNat v1241) * El.m CueD)))) (b := (r1297 == true)) (gv_some rfl rfl rfl) beq_iff_eq (fun hc1359 => ?_), ?_⟩
            · have hS1357 := hS1258.ext hX1356
              have hB1358 := hB1257.trans (Ext.stp hX1356 hS1258.base)
              have hq8 : r1297 = true := (Iff.rfl.mp hc1359)
              exact is_ext (q_index (i := v1241) SL26 (if_pos hc1359) (if_pos hc1359) (Tv.o (hp0.bel hB1358)) (Tv.g (hp0.bel hB1358) (hg1360 hq8)))
            refine ⟨if r1297 = true then .pointer (some (((adr a0).add ((Int.toNat v1241) * El.m CueD)).add 0)) else undef, fun w1361 hX1362 => od_guard (c := r1297 = true) (val := .pointer (some (((adr a0).add ((Int.toNat v1241) * El.m CueD)).add 0))) (b := (r1297 == true)) (gv_some rfl rfl rfl) beq_iff_eq (fun hc1365 => ?_), ?_⟩
            · have hS1363 := hS1258.ext hX1362
              have hB1364 := hB1257.trans (Ext.stp hX1362 hS1258.base)
              have hq8 : r1297 = true := (Iff.rfl.mp hc1365)
              exact is_ext (g_fieldAddr (q := (adr a0).add ((Int.toNat v1241) * El.m CueD)) FL39_0 ON3 (if_pos hc1365))
            refine ⟨if r1297 = true then .int .i64 (p0[(Int.toNat v1241)]!.1) else undef, fun w1366 hX1367 => od_guard (c := r1297 = true) (val := .int .i64 (p0[(Int.toNat v1241)]!.1)) (b := (r1297 == true)) (gv_some rfl rfl rfl) beq_iff_eq (fun hc1370 => ?_), ?_⟩
            · have hS1368 := hS1258.ext hX1367
              have hB1369 := hB1257.trans (Ext.stp hX1367 hS1258.base)
              have hq8 : r1297 = true := (Iff.rfl.mp hc1370)
              exact is_ext (q_loadF (i := v1241) (j := 0) (v := .int .i64 (p0[(Int.toNat v1241)]!.1)) ON3 (Tv.o (hp0.bel hB1369)) (Tv.g (hp0.bel hB1369) (hg1360 hq8)) (by rw [← Tv.ticks (hp0.bel hB1369) (hg1360 hq8)]; rfl) (if_pos hc1370))
            obtain ⟨hg1376, hm⟩ := hm
            refine ⟨if r1297 = true then .int .i64 (p1[(Int.toNat v1241)]! + p0[(Int.toNat v1241)]!.1) else undef, fun w1371 hX1372 => od_guard (c := r1297 = true) (val := .int .i64 (p1[(Int.toNat v1241)]! + p0[(Int.toNat v1241)]!.1)) (b := (r1297 == true)) (gv_some rfl rfl rfl) beq_iff_eq (fun hc1375 => ?_), ?_⟩
            · have hS1373 := hS1258.ext hX1372
              have hB1374 := hB1257.trans (Ext.stp hX1372 hS1258.base)
              have hq8 : r1297 = true := (Iff.rfl.mp hc1375)
              exact is_ext (g_add (a := p1[(Int.toNat v1241)]!) (b := p0[(Int.toNat v1241)]!.1) (if_pos hc1375) (if_pos hc1375) (hg1376 hq8))
            refine ⟨if r1297 = true then .bool (decide (p1[(Int.toNat v1212)]! < (p1[(Int.toNat v1241)]! + p0[(Int.toNat v1241)]!.1))) else undef, fun w1377 hX1378 => od_guard (c := r1297 = true) (val := .bool (decide (p1[(Int.toNat v1212)]! < (p1[(Int.toNat v1241)]! + p0[(Int.toNat v1241)]!.1)))) (b := (r1297 == true)) (gv_some rfl rfl rfl) beq_iff_eq (fun hc1381 => ?_), ?_⟩
            · have hS1379 := hS1258.ext hX1378
              have hB1380 := hB1257.trans (Ext.stp hX1378 hS1258.base)
              have hq8 : r1297 = true := (Iff.rfl.mp hc1381)
              exact is_ext (g_lss (a := p1[(Int.toNat v1212)]!) (b := (p1[(Int.toNat v1241)]! + p0[(Int.toNat v1241)]!.1)) (if_pos hc1381) (if_pos hc1381))
            refine ⟨.bool (r1297 && (decide (p1[(Int.toNat v1212)]! < (p1[(Int.toNat v1241)]! + p0[(Int.toNat v1241)]!.1)))), fun w1382 hX1383 => od_plain rfl (by have hS1384 := hS1258.ext hX1383; have hB1385 := hB1257.trans (Ext.stp hX1383 hS1258.base); exact is_ext (g_pick_and (b := r1297) (q := (decide (p1[(Int.toNat v1212)]! < (p1[(Int.toNat v1241)]! + p0[(Int.toNat v1241)]!.1)))) rfl rfl)), ?_⟩
            refine ⟨.bool (r1297 && (decide (p1[(Int.toNat v1212)]! < (p1[(Int.toNat v1241)]! + p0[(Int.toNat v1241)]!.1)))), fun w1386 hX1387 => od_plain rfl (by have hS1388 := hS1258.ext hX1387; have hB1389 := hB1257.trans (Ext.stp hX1387 hS1258.base); exact is_ext (g_move (v := .bool (r1297 && (decide (p1[(Int.toNat v1212)]! < (p1[(Int.toNat v1241)]! + p0[(Int.toNat v1241)]!.1))))) rfl)), ?_⟩
            refine ⟨if (r1297 && (decide (p1[(Int.toNat v1212)]! < (p1[(Int.toNat v1241)]! + p0[(Int.toNat v1241)]!.1)))) = true then .slice a1 n1 c1 else undef, fun w1390 hX1391 => od_guard (c := (r1297 && (decide (p1[(Int.toNat v1212)]! < (p1[(Int.toNat v1241)]! + p0[(Int.toNat v1241)]!.1)))) = true) (val := .slice a1 n1 c1) (b := ((r1297 && (decide (p1[(Int.toNat v1212)]! < (p1[(Int.toNat v1241)]! + p0[(Int.toNat v1241)]!.1)))) == true)) (gv_some rfl rfl rfl) beq_iff_eq (fun hc1394 => ?_), ?_⟩
            · have hS1392 := hS1258.ext hX1391
              have hB1393 := hB1257.trans (Ext.stp hX1391 hS1258.base)
              have hq9 : ((r1297 = true) ∧ (p1[(Int.toNat v1212)]! < (p1[(Int.toNat v1241)]! + p0[(Int.toNat v1241)]!.1))) := ((i_and Iff.rfl decide_eq_true_iff).mp hc1394)
              exact is_ext (g_move (v := .slice a1 n1 c1) rfl)
            refine ⟨if (r1297 && (decide (p1[(Int.toNat v1212)]! < (p1[(Int.toNat v1241)]! + p0[(Int.toNat v1241)]!.1)))) = true then .int .i64 v1241 else undef, fun w1395 hX1396 => od_guard (c := (r1297 && (decide (p1[(Int.toNat v1212)]! < (p1[(Int.toNat v1241)]! + p0[(Int.toNat v1241)]!.1)))) = true) (val := .int .i64 v1241) (b := ((r1297 && (decide (p1[(Int.toNat v1212)]! < (p1[(Int.toNat v1241)]! + p0[(Int.toNat v1241)]!.1)))) == true)) (gv_some rfl rfl rfl) beq_iff_eq (fun hc1399 => ?_), ?_⟩
            · have hS1397 := hS1258.ext hX1396
              have hB1398 := hB1257.trans (Ext.stp hX1396 hS1258.base)
              have hq9 : ((r1297 = true) ∧ (p1[(Int.toNat v1212)]! < (p1[(Int.toNat v1241)]! + p0[(Int.toNat v1241)]!.1))) := ((i_and Iff.rfl decide_eq_true_iff).mp hc1399)
              exact is_ext (g_move (v := .int .i64 v1241) rfl)
            obtain ⟨hg1405, hm⟩ := hm
            refine ⟨if (r1297 && (decide (p1[(Int.toNat v1212)]! < (p1[(Int.toNat v1241)]! + p0[(Int.toNat v1241)]!.1)))) = true then .pointer (some ((adr a1).add ((Int.toNat v1241) * El.m Int))) else undef, fun w1400 hX1401 => od_guard (c := (r1297 && (decide (p1[(Int.toNat v1212)]! < (p1[(Int.toNat v1241)]! + p0[(Int.toNat v1241)]!.1)))) = true) (val := .pointer (some ((adr a1).add ((Int.toNat v1241) * El.m Int)))) (b := ((r1297 && (decide (p1[(Int.toNat v1212)]! < (p1[(Int.toNat v1241)]! + p0[(Int.toNat v1241)]!.1)))) == true)) (gv_some rfl rfl rfl) beq_iff_eq (fun hc1404 => ?_), ?_⟩
            · have hS1402 := hS1258.ext hX1401
              have hB1403 := hB1257.trans (Ext.stp hX1401 hS1258.base)
              have hq9 : ((r1297 = true) ∧ (p1[(Int.toNat v1212)]! < (p1[(Int.toNat v1241)]! + p0[(Int.toNat v1241)]!.1))) := ((i_and Iff.rfl decide_eq_true_iff).mp hc1404)
              exact is_ext (q_index (i := v1241) SL24 (if_pos hc1404) (if_pos hc1404) (hp1.bel hB1403) (hg1405 hq9))
            refine ⟨if (r1297 && (decide (p1[(Int.toNat v1212)]! < (p1[(Int.toNat v1241)]! + p0[(Int.toNat v1241)]!.1)))) = true then .int .i64 (p1[(Int.toNat v1241)]!) else undef, fun w1406 hX1407 => od_guard (c := (r1297 && (decide (p1[(Int.toNat v1212)]! < (p1[(Int.toNat v1241)]! + p0[(Int.toNat v1241)]!.1)))) = true) (val := .int .i64 (p1[(Int.toNat v1241)]!)) (b := ((r1297 && (decide (p1[(Int.toNat v1212)]! < (p1[(Int.toNat v1241)]! + p0[(Int.toNat v1241)]!.1)))) == true)) (gv_some rfl rfl rfl) beq_iff_eq (fun hc1410 => ?_), ?_⟩
            · have hS1408 := hS1258.ext hX1407
              have hB1409 := hB1257.trans (Ext.stp hX1407 hS1258.base)
              have hq9 : ((r1297 = true) ∧ (p1[(Int.toNat v1212)]! < (p1[(Int.toNat v1241)]! + p0[(Int.toNat v1241)]!.1))) := ((i_and Iff.rfl decide_eq_true_iff).mp hc1410)
              exact is_ext (q_load (i := v1241) (v := .int .i64 (p1[(Int.toNat v1241)]!)) ON3 (hp1.bel hB1409) (hg1405 hq9) rfl (if_pos hc1410))
            refine ⟨if (r1297 && (decide (p1[(Int.toNat v1212)]! < (p1[(Int.toNat v1241)]! + p0[(Int.toNat v1241)]!.1)))) = true then .slice a1 n1 c1 else undef, fun w1411 hX1412 => od_guard (c := (r1297 && (decide (p1[(Int.toNat v1212)]! < (p1[(Int.toNat v1241)]! + p0[(Int.toNat v1241)]!.1)))) = true) (val := .slice a1 n1 c1) (b := ((r1297 && (decide (p1[(Int.toNat v1212)]! < (p1[(Int.toNat v1241)]! + p0[(Int.toNat v1241)]!.1)))) == true)) (gv_some rfl rfl rfl) beq_iff_eq (fun hc1415 => ?_), ?_⟩
            · have hS1413 := hS1258.ext hX1412
              have hB1414 := hB1257.trans (Ext.stp hX1412 hS1258.base)
              have hq9 : ((r1297 = true) ∧ (p1[(Int.toNat v1212)]! < (p1[(Int.toNat v1241)]! + p0[(Int.toNat v1241)]!.1))) := ((i_and Iff.rfl decide_eq_true_iff).mp hc1415)
              exact is_ext (g_move (v := .slice a1 n1 c1) rfl)
            refine ⟨if (r1297 && (decide (p1[(Int.toNat v1212)]! < (p1[(Int.toNat v1241)]! + p0[(Int.toNat v1241)]!.1)))) = true then .int .i64 v1212 else undef, fun w1416 hX1417 => od_guard (c := (r1297 && (decide (p1[(Int.toNat v1212)]! < (p1[(Int.toNat v1241)]! + p0[(Int.toNat v1241)]!.1)))) = true) (val := .int .i64 v1212) (b := ((r1297 && (decide (p1[(Int.toNat v1212)]! < (p1[(Int.toNat v1241)]! + p0[(Int.toNat v1241)]!.1)))) == true)) (gv_some rfl rfl rfl) beq_iff_eq (fun hc1420 => ?_), ?_⟩
            · have hS1418 := hS1258.ext hX1417
              have hB1419 := hB1257.trans (Ext.stp hX1417 hS1258.base)
              have hq9 : ((r1297 = true) ∧ (p1[(Int.toNat v1212)]! < (p1[(Int.toNat v1241)]! + p0[(Int.toNat v1241)]!.1))) := ((i_and Iff.rfl decide_eq_true_iff).mp hc1420)
              exact is_ext (g_move (v := .int .i64 v1212) rfl)
            obtain ⟨hg1426, hm⟩ := hm
            refine ⟨if (r1297 && (decide (p1[(Int.toNat v1212)]! < (p1[(Int.toNat v1241)]! + p0[(Int.toNat v1241)]!.1)))) = true then .pointer (some ((adr a1).add ((Int.toNat v1212) * El.m Int))) else undef, fun w1421 hX1422 => od_guard (c := (r1297 && (decide (p1[(Int.toNat v1212)]! < (p1[(Int.toNat v1241)]! + p0[(Int.toNat v1241)]!.1)))) = true) (val := .pointer (some ((adr a1).add ((Int.toNat v1212) * El.m Int)))) (b := ((r1297 && (decide (p1[(Int.toNat v1212)]! < (p1[(Int.toNat v1241)]! + p0[(Int.toNat v1241)]!.1)))) == true)) (gv_some rfl rfl rfl) beq_iff_eq (fun hc1425 => ?_), ?_⟩
            · have hS1423 := hS1258.ext hX1422
              have hB1424 := hB1257.trans (Ext.stp hX1422 hS1258.base)
              have hq9 : ((r1297 = true) ∧ (p1[(Int.toNat v1212)]! < (p1[(Int.toNat v1241)]! + p0[(Int.toNat v1241)]!.1))) := ((i_and Iff.rfl decide_eq_true_iff).mp hc1425)
              exact is_ext (q_index (i := v1212) SL24 (if_pos hc1425) (if_pos hc1425) (hp1.bel hB1424) (hg1426 hq9))
            refine ⟨if (r1297 && (decide (p1[(Int.toNat v1212)]! < (p1[(Int.toNat v1241)]! + p0[(Int.toNat v1241)]!.1)))) = true then .int .i64 (p1[(Int.toNat v1212)]!) else undef, fun w1427 hX1428 => od_guard (c := (r1297 && (decide (p1[(Int.toNat v1212)]! < (p1[(Int.toNat v1241)]! + p0[(Int.toNat v1241)]!.1)))) = true) (val := .int .i64 (p1[(Int.toNat v1212)]!)) (b := ((r1297 && (decide (p1[(Int.toNat v1212)]! < (p1[(Int.toNat v1241)]! + p0[(Int.toNat v1241)]!.1)))) == true)) (gv_some rfl rfl rfl) beq_iff_eq (fun hc1431 => ?_), ?_⟩
            · have hS1429 := hS1258.ext hX1428
              have hB1430 := hB1257.trans (Ext.stp hX1428 hS1258.base)
              have hq9 : ((r1297 = true) ∧ (p1[(Int.toNat v1212)]! < (p1[(Int.toNat v1241)]! + p0[(Int.toNat v1241)]!.1))) := ((i_and Iff.rfl decide_eq_true_iff).mp hc1431)
              exact is_ext (q_load (i := v1212) (v := .int .i64 (p1[(Int.toNat v1212)]!)) ON3 (hp1.bel hB1430) (hg1426 hq9) rfl (if_pos hc1431))
            refine ⟨if (r1297 && (decide (p1[(Int.toNat v1212)]! < (p1[(Int.toNat v1241)]! + p0[(Int.toNat v1241)]!.1)))) = true then .slice a0 n0 c0 else undef, fun w1432 hX1433 => od_guard (c := (r1297 && (decide (p1[(Int.toNat v1212)]! < (p1[(Int.toNat v1241)]! + p0[(Int.toNat v1241)]!.1)))) = true) (val := .slice a0 n0 c0) (b := ((r1297 && (decide (p1[(Int.toNat v1212)]! < (p1[(Int.toNat v1241)]! + p0[(Int.toNat v1241)]!.1)))) == true)) (gv_some rfl rfl rfl) beq_iff_eq (fun hc1436 => ?_), ?_⟩
            · have hS1434 := hS1258.ext hX1433
              have hB1435 := hB1257.trans (Ext.stp hX1433 hS1258.base)
              have hq9 : ((r1297 = true) ∧ (p1[(Int.toNat v1212)]! < (p1[(Int.toNat v1241)]! + p0[(Int.toNat v1241)]!.1))) := ((i_and Iff.rfl decide_eq_true_iff).mp hc1436)
              exact is_ext (g_move (v := .slice a0 n0 c0) rfl)
            refine ⟨if (r1297 && (decide (p1[(Int.toNat v1212)]! < (p1[(Int.toNat v1241)]! + p0[(Int.toNat v1241)]!.1)))) = true then .int .i64 v1212 else undef, fun w1437 hX1438 => od_guard (c := (r1297 && (decide (p1[(Int.toNat v1212)]! < (p1[(Int.toNat v1241)]! + p0[(Int.toNat v1241)]!.1)))) = true) (val := .int .i64 v1212) (b := ((r1297 && (decide (p1[(Int.toNat v1212)]! < (p1[(Int.toNat v1241)]! + p0[(Int.toNat v1241)]!.1)))) == true)) (gv_some rfl rfl rfl) beq_iff_eq (fun hc1441 => ?_), ?_⟩
            · have hS1439 := hS1258.ext hX1438
              have hB1440 := hB1257.trans (Ext.stp hX1438 hS1258.base)
              have hq9 : ((r1297 = true) ∧ (p1[(Int.toNat v1212)]! < (p1[(Int.toNat v1241)]! + p0[(Int.toNat v1241)]!.1))) := ((i_and Iff.rfl decide_eq_true_iff).mp hc1441)
              exact is_ext (g_move (v := .int .i64 v1212) rfl)
            obtain ⟨hg1447, hm⟩ := hm
            refine ⟨if (r1297 && (decide (p1[(Int.toNat v1212)]! < (p1[(Int.toNat v1241)]! + p0[(Int.toNat v1241)]!.1)))) = true then .pointer (some ((adr a0).add ((Int.toNat v1212) * El.m CueD))) else undef, fun w1442 hX1443 => od_guard (c := (r1297 && (decide (p1[(Int.toNat v1212)]! < (p1[(Int.toNat v1241)]! + p0[(Int.toNat v1241)]!.1)))) = true) (val := .pointer (some ((adr a0).add ((Int.toNat v1212) * El.m CueD)))) (b := ((r1297 && (decide (p1[(Int.toNat v1212)]! < (p1[(Int.toNat v1241)]! + p0[(Int.toNat v1241)]!.1)))) == true)) (gv_some rfl rfl rfl) beq_iff_eq (fun hc1446 => ?_), ?_⟩
            · have hS1444 := hS1258.ext hX1443
              have hB1445 := hB1257.trans (Ext.stp hX1443 hS1258.base)
              have hq9 : ((r1297 = true) ∧ (p1[(Int.toNat v1212)]! < (p1[(Int.toNat v1241)]! + p0[(Int.toNat v1241)]!.1))) := ((i_and Iff.rfl decide_eq_true_iff).mp hc1446)
              exact is_ext (q_index (i := v1212) SL26 (if_pos hc1446) (if_pos hc1446) (Tv.o (hp0.bel hB1445)) (Tv.g (hp0.bel hB1445) (hg1447 hq9)))
            refine ⟨if (r1297 && (decide (p1[(Int.toNat v1212)]! < (p1[(Int.toNat v1241)]! + p0[(Int.toNat v1241)]!.1)))) = true then .pointer (some (((adr a0).add ((Int.toNat v1212) * El.m CueD)).add 0)) else undef, fun w1448 hX1449 => od_guard (c := (r1297 && (decide (p1[(Int.toNat v1212)]! < (p1[(Int.toNat v1241)]! + p0[(Int.toNat v1241)]!.1)))) = true) (val := .pointer (some (((adr a0).add ((Int.toNat v1212) * El.m CueD)).add 0))) (b := ((r1297 && (decide (p1[(Int.toNat v1212)]! < (p1[(Int.toNat v1241)]! + p0[(Int.toNat v1241)]!.1)))) == true)) (gv_some rfl rfl rfl) beq_iff_eq (fun hc1452 => ?_), ?_⟩
            · have hS1450 := hS1258.ext hX1449
              have hB1451 := hB1257.trans (Ext.stp hX1449 hS1258.base)
              have hq9 : ((r1297 = true) ∧ (p1[(Int.toNat v1212)]! < (p1[(Int.toNat v1241)]! + p0[(Int.toNat v1241)]!.1))) := ((i_and Iff.rfl decide_eq_true_iff).mp hc1452)
              exact is_ext (g_fieldAddr (q := (adr a0).add ((Int.toNat v1212) * El.m CueD)) FL39_0 ON3 (if_pos hc1452))
            refine ⟨if (r1297 && (decide (p1[(Int.toNat v1212)]! < (p1[(Int.toNat v1241)]! + p0[(Int.toNat v1241)]!.1)))) = true then .int .i64 (p0[(Int.toNat v1212)]!.1) else undef, fun w1453 hX1454 => od_guard (c := (r1297 && (decide (p1[(Int.toNat v1212)]! < (p1[(Int.toNat v1241)]! + p0[(Int.toNat v1241)]!.1)))) = true) (val := .int .i64 (p0[(Int.toNat v1212)]!.1)) (b := ((r1297 && (decide (p1[(Int.toNat v1212)]! < (p1[(Int.toNat v1241)]! + p0[(Int.toNat v1241)]!.1)))) == true)) (gv_some rfl rfl rfl) beq_iff_eq (fun hc1457 => ?_), ?_⟩
            · have hS1455 := hS1258.ext hX1454
              have hB1456 := hB1257.trans (Ext.stp hX1454 hS1258.base)
              have hq9 : ((r1297 = true) ∧ (p1[(Int.toNat v1212)]! < (p1[(Int.toNat v1241)]! + p0[(Int.toNat v1241)]!.1))) := ((i_and Iff.rfl decide_eq_true_iff).mp hc1457)
              exact is_ext (q_loadF (i := v1212) (j := 0) (v := .int .i64 (p0[(Int.toNat v1212)]!.1)) ON3 (Tv.o (hp0.bel hB1456)) (Tv.g (hp0.bel hB1456) (hg1447 hq9)) (by rw [← Tv.ticks (hp0.bel hB1456) (hg1447 hq9)]; rfl) (if_pos hc1457))
            obtain ⟨hg1463, hm⟩ := hm
            refine ⟨if (r1297 && (decide (p1[(Int.toNat v1212)]! < (p1[(Int.toNat v1241)]! + p0[(Int.toNat v1241)]!.1)))) = true then .int .i64 (p1[(Int.toNat v1212)]! + p0[(Int.toNat v1212)]!.1) else undef, fun w1458 hX1459 => od_guard (c := (r1297 && (decide (p1[(Int.toNat v1212)]! < (p1[(Int.toNat v1241)]! + p0[(Int.toNat v1241)]!.1)))) = true) (val := .int .i64 (p1[(Int.toNat v1212)]! + p0[(Int.toNat v1212)]!.1)) (b := ((r1297 && (decide (p1[(Int.toNat v1212)]! < (p1[(Int.toNat v1241)]! + p0[(Int.toNat v1241)]!.1)))) == true)) (gv_some rfl rfl rfl) beq_iff_eq (fun hc1462 => ?_), ?_⟩
            · have hS1460 := hS1258.ext hX1459
              have hB1461 := hB1257.trans (Ext.stp hX1459 hS1258.base)
              have hq9 : ((r1297 = true) ∧ (p1[(Int.toNat v1212)]! < (p1[(Int.toNat v1241)]! + p0[(Int.toNat v1241)]!.1))) := ((i_and Iff.rfl decide_eq_true_iff).mp hc1462)
              exact is_ext (g_add (a := p1[(Int.toNat v1212)]!) (b := p0[(Int.toNat v1212)]!.1) (if_pos hc1462) (if_pos hc1462) (hg1463 hq9))
            refine ⟨if (r1297 && (decide (p1[(Int.toNat v1212)]! < (p1[(Int.toNat v1241)]! + p0[(Int.toNat v1241)]!.1)))) = true then .bool (decide (p1[(Int.toNat v1241)]! < (p1[(Int.toNat v1212)]! + p0[(Int.toNat v1212)]!.1))) else undef, fun w1464 hX1465 => od_guard (c := (r1297 && (decide (p1[(Int.toNat v1212)]! < (p1[(Int.toNat v1241)]! + p0[(Int.toNat v1241)]!.1)))) = true) (val := .bool (decide (p1[(Int.toNat v1241)]! < (p1[(Int.toNat v1212)]! + p0[(Int.toNat v1212)]!.1)))) (b := ((r1297 && (decide (p1[(Int.toNat v1212)]! < (p1[(Int.toNat v1241)]! + p0[(Int.toNat v1241)]!.1)))) == true)) (gv_some rfl rfl rfl) beq_iff_eq (fun hc1468 => ?_), ?_⟩
            · have hS1466 := hS1258.ext hX1465
              have hB1467 := hB1257.trans (Ext.stp hX1465 hS1258.base)
              have hq9 : ((r1297 = true) ∧ (p1[(Int.toNat v1212)]! < (p1[(Int.toNat v1241)]! + p0[(Int.toNat v1241)]!.1))) := ((i_and Iff.rfl decide_eq_true_iff).mp hc1468)
              exact is_ext (g_lss (a := p1[(Int.toNat v1241)]!) (b := (p1[(Int.toNat v1212)]! + p0[(Int.toNat v1212)]!.1)) (if_pos hc1468) (if_pos hc1468))
            refine ⟨.bool ((r1297 && (decide (p1[(Int.toNat v1212)]! < (p1[(Int.toNat v1241)]! + p0[(Int.toNat v1241)]!.1)))) && (decide (p1[(Int.toNat v1241)]! < (p1[(Int.toNat v1212)]! + p0[(Int.toNat v1212)]!.1)))), fun w1469 hX1470 => od_plain rfl (by have hS1471 := hS1258.ext hX1470; have hB1472 := hB1257.trans (Ext.stp hX1470 hS1258.base); exact is_ext (g_pick_and (b := (r1297 && (decide (p1[(Int.toNat v1212)]! < (p1[(Int.toNat v1241)]! + p0[(Int.toNat v1241)]!.1))))) (q := (decide (p1[(Int.toNat v1241)]! < (p1[(Int.toNat v1212)]! + p0[(Int.toNat v1212)]!.1)))) rfl rfl)), ?_⟩
            intro w1473 hX1474
            have hB1475 := hB1257.trans (Ext.stp hX1474 hS1258.base)
            have hS1476 := hS1258.ext hX1474
            refine hK1254 _ _ ?_
            refine w_condI (p := ((((r1297 = true) ∧ (p1[(Int.toNat v1212)]! < (p1[(Int.toNat v1241)]! + p0[(Int.toNat v1241)]!.1)))) ∧ (p1[(Int.toNat v1241)]! < (p1[(Int.toNat v1212)]! + p0[(Int.toNat v1212)]!.1)))) (b := ((r1297 && (decide (p1[(Int.toNat v1212)]! < (p1[(Int.toNat v1241)]! + p0[(Int.toNat v1241)]!.1)))) && (decide (p1[(Int.toNat v1241)]! < (p1[(Int.toNat v1212)]! + p0[(Int.toNat v1212)]!.1))))) rfl (i_and (i_and Iff.rfl decide_eq_true_iff) decide_eq_true_iff) (fun h1477 => ?_) (fun h1477 => ?_)
            · replace hm := hm.1 h1477
              refine w_region ?_
              refine wl_val (g_move (v := .slice a1236 n1237 c1238) rfl) rfl ?_
              refine wl_val (g_move (v := .int .i64 v1212) rfl) rfl ?_
              refine wl_val (g_move (v := .int .i64 v1241) rfl) rfl ?_
              refine wl_step rfl (q_lit2 (y := (v1212 : Int)) (y' := (v1241 : Int)) SL24 rfl rfl rfl rfl (by decide) hS1476) ?_
              rintro _ w1478 ⟨a1479, rfl, hS1481, hE1480⟩
              have hB1483 := hB1475.trans (Ext.stp hE1480 hS1476.base)
              have hn1489 := oS.len hS1481.g0
              have hS1490 := hS1481.oneRow
              have he1488 : ers [((a1479, 2, [v1212, v1241]) : Hd Int)] = [[v1212, v1241]] := rfl
              refine wl_step rfl (q_lit1 (y := ((a1479, 2, [v1212, v1241]) : Hd Int)) SL44 rfl (hd_cells hn1489) (by decide) hS1490) ?_
              rintro _ w1484 ⟨a1485, rfl, hS1487, hE1486⟩
              have hB1493 := hB1483.trans (Ext.stp hE1486 hS1490.base)
              have hS1500 := hS1487.f2
              obtain ⟨hg1501, hm⟩ := hm
              have hl1502 : (y1239).length + ([(a1479, 2, [v1212, v1241])]).length ≤ 1099511627776 := by have h1 := congrArg List.length he1240; have h2 := congrArg List.length he1488; have h3 := hg1501; simp only [ers, List.length_map, List.length_append, List.length_cons, List.length_nil, List.length_replicate, List.length_set] at h1 h2 h3 ⊢; omega
              refine wl_step rfl (q_append SL44 rfl rfl hS1500 (oS.vw hS1500.g1) hl1502 (by decide)) ?_
              rintro _ w1495 ⟨a1496, c1497, rfl, hS1499, hb1498⟩
              have hB1503 := hB1493.trans hb1498
              have hS1504 := hS1499.f1
              have hS1505 := hS1504.tail
              have hS1506 := hS1505.f2
              have hS1507 := hS1506.f2
              have hS1508 := hS1507.catRows
              have he1509 : ers (y1239 ++ ([(a1479, 2, [v1212, v1241])])) = (x1235 ++ ([[v1212, v1241]])) := by rw [← he1240, ← he1488]; exact List.map_append
              refine wl_val (g_assign (v := .slice a1496 (n1237 + 1) c1497) rfl) rfl ?_
              refine wl_nil ?_
              refine hK1253 _ _ ?_
              refine w_region ?_
              refine wl_val (g_move (v := .int .i64 v1241) rfl) rfl ?_
              obtain ⟨hg1510, hm⟩ := hm
              refine wl_val (g_add (a := v1241) (b := 1) rfl rfl hg1510) rfl ?_
              refine wl_val (g_assign (v := .int .i64 (v1241 + 1)) rfl) rfl ?_
              refine wl_nil ?_
              have hS1511 := hS1508.f1
              exact ⟨((x1235 ++ ([[v1212, v1241]])), a1496, (n1237 + 1), c1497, (y1239 ++ ([(a1479, 2, [v1212, v1241])])), (v1241 + 1)), hm.2, ⟨rfl, rfl, rfl, rfl, rfl, rfl, rfl, trivial⟩, ⟨hm.1, he1509, hB1503, hS1511⟩⟩
            · replace hm := hm.2 h1477
              refine w_skip ?_
              refine hK1253 _ _ ?_
              refine w_region ?_
              refine wl_val (g_move (v := .int .i64 v1241) rfl) rfl ?_
              obtain ⟨hg1512, hm⟩ := hm
              refine wl_val (g_add (a := v1241) (b := 1) rfl rfl hg1512) rfl ?_
              refine wl_val (g_assign (v := .int .i64 (v1241 + 1)) rfl) rfl ?_
              refine wl_nil ?_
              exact ⟨(x1235, a1236, n1237, c1238, y1239, (v1241 + 1)), hm.2, ⟨rfl, rfl, rfl, rfl, rfl, rfl, rfl, trivial⟩, ⟨hm.1, he1240, hB1475, hS1476⟩⟩
          · replace hm := hm.2 h1252
            refine w_exit ?_
            exact ⟨(x1235, a1236, n1237, c1238, y1239), ⟨rfl, rfl, rfl, rfl, rfl, trivial⟩, ⟨hm, he1240, hB1247, hS1248⟩⟩
        · rintro ⟨x1225, a1226, n1227, c1228, y1229⟩ b_ w1513 ⟨hm, he1230, hB1514, hS1515⟩
          show Wp _ _ _ _ (upds b_ [(0, .slice a0 n0 c0), (1, .slice a1 n1 c1), (5, .slice a1226 n1227 c1228), (14, .int .i64 (p0.length : Int)), (15, .int .i64 v1212)]) w1513
          refine w_region ?_
          obtain ⟨hg1516, hm⟩ := hm
          refine wl_val (g_add (a := v1212) (b := 1) rfl rfl hg1516) rfl ?_
          refine wl_val (g_move (v := .int .i64 (v1212 + 1)) rfl) rfl ?_
          refine wl_nil ?_
          exact ⟨(x1225, a1226, n1227, c1228, y1229, (v1212 + 1)), hm.2, ⟨rfl, rfl, rfl, rfl, rfl, trivial⟩, ⟨hm.1, he1230, hB1514, hS1515⟩⟩
      · replace hm := hm.2 h1224
        refine w_exit ?_
        exact ⟨(x1206, a1207, n1208, c1209, y1210), ⟨rfl, trivial⟩, ⟨hm, he1211, hB1219, hS1220⟩⟩
    · rintro ⟨x1198, a1199, n1200, c1201, y1202⟩ b_ w1517 ⟨hm, he1203, hB1518, hS1519⟩
      show Wp _ _ _ _ (upds b_ [(5, .slice a1199 n1200 c1201)]) w1517
      refine w_seq fun K1520 hK1520 => ?_
      refine w_region ?_
      refine wl_val (g_move (v := .slice a1199 n1200 c1201) rfl) rfl ?_
      refine wl_val (g_assign (v := .slice a1199 n1200 c1201) rfl) rfl ?_
      refine wl_nil ?_
      refine hK1520 _ _ ?_
      refine w_ret ?_
      repeat first | with_reducible refine q_then ?_ | with_reducible refine q_block ?_
      exact ret1 rfl (by decide) ⟨_, _, _, _, _, hm, he1203, rfl, toExt hB1518, hS1519⟩

theorem m_impl_IsPlan_fn {w : World} {a0 : Option Addr} {n0 c0 : Nat} {y0 : List CueD} {p0 : List CueC} {a1 : Option Addr} {n1 c1 : Nat} {p1 : List Int} {Q : Bool → Prop} (hp0 : Tv w.heap.size w a0 n0 c0 y0 p0) (hp1 : Vw w.heap.size w a1 n1 c1 p1) (hm : m_impl_IsPlan p0 p1 Q) :
    Fn Try.prog 42 #[.slice a0 n0 c0, .slice a1 n1 c1] w (fun v w' => ∃ (r0 : Bool), Q r0 ∧ v = .bool r0 ∧ Ext w w') := by
  unfold m_impl_IsPlan at hm
  have hB0 := Below.refl w.heap.size w
  have hS0 : Sep w w.heap.size [] := Sep.nil (Nat.le_refl _)
  refine fn_of_wp Try.func42 rfl (by kernel_rfl) (Nat.le_of_ble_eq_true rfl) ?_
  refine w_seq fun K1 hK1 => ?_
  refine w_region ?_
  refine wl_val (g_assign (v := .bool false) rfl) rfl ?_
  refine wl_nil ?_
  refine hK1 _ _ ?_
  refine w_seq fun K2 hK2 => ?_
  refine w_seq fun K3 hK3 => ?_
  refine w_region ?_
  refine wl_val (g_move (v := .slice a0 n0 c0) rfl) rfl ?_
  refine wl_val (g_move (v := .slice a1 n1 c1) rfl) rfl ?_
  refine wl_step rfl (g_call (vs := #[.slice a0 n0 c0, .slice a1 n1 c1]) CF71 (args2 rfl rfl) (m_impl_areStarts_fn ((hp0.bel hB0).up hS0) ((hp1.bel hB0).up hS0) hm)) ?_
  rintro _ w4 ⟨r7, hm, rfl, hE5⟩
  have hB8 := hB0.trans (Ext.stp hE5 hS0.base)
  have hS9 := hS0.ext hE5
  refine wl_val (g_not (a := r7) rfl) rfl ?_
  refine wl_nil ?_
  refine hK3 _ _ ?_
  refine w_condI (p := ¬ (r7 = true)) (b := (!r7)) rfl (i_not Iff.rfl) (fun h10 => ?_) (fun h10 => ?_)
  · replace hm := hm.1 h10
    refine w_seq fun K11 hK11 => ?_
    refine w_region ?_
    refine wl_val (g_assign (v := .bool false) rfl) rfl ?_
    refine wl_nil ?_
    refine hK11 _ _ ?_
    refine w_ret ?_
    repeat first | with_reducible refine q_then ?_ | with_reducible refine q_block ?_
    exact ret1 rfl (by decide) ⟨_, hm, rfl, toExt hB8⟩
  · replace hm := hm.2 h10
    refine w_skip ?_
    refine hK2 _ _ ?_
    refine w_cut (σ := Unit) (fun _ => [(0, .slice a0 n0 c0), (1, .slice a1 n1 c1)]) (fun _ w' => m_impl_IsPlan_K1 p0 p1 Q ∧ Below w.heap.size w w' ∧ Sep w' w.heap.size []) ?_ ?_
    · refine w_seq fun K13 hK13 => ?_
      refine w_region ?_
      refine wl_val (g_move (v := .slice a0 n0 c0) rfl) rfl ?_
      refine wl_val (q_len SL26 rfl (Tv.len (hp0.bel hB8))) rfl ?_
      refine wl_val (g_move (v := .int .i64 0) rfl) rfl ?_
      refine wl_nil ?_
      refine hK13 _ _ ?_
      refine w_block ?_
      obtain ⟨I227, μ228, h0229, hr230⟩ := hm
      refine w_for (σ := Int) (fun v226 => [(0, .slice a0 n0 c0), (1, .slice a1 n1 c1), (13, .slice a0 n0 c0), (14, .int .i64 (p0.length : Int)), (15, .int .i64 v226)]) (fun v226 w' => I227 v226 ∧ Below w.heap.size w w' ∧ Sep w' w.heap.size []) (fun v226 => μ228 v226) (0) ⟨rfl, rfl, rfl, rfl, rfl, trivial⟩ ⟨h0229, hB8, hS9⟩ ?_
      rintro v226 b_ w231 ⟨hi_, hB232, hS233⟩
      show Wp _ _ _ _ (upds b_ [(0, .slice a0 n0 c0), (1, .slice a1 n1 c1), (13, .slice a0 n0 c0), (14, .int .i64 (p0.length : Int)), (15, .int .i64 v226)]) w231
      have hm := hr230 v226 hi_
      refine w_seq fun K235 hK235 => ?_
      refine w_region ?_
      refine wl_val (g_lss (a := v226) (b := (p0.length : Int)) rfl rfl) rfl ?_
      refine wl_nil ?_
      refine hK235 _ _ ?_
      refine w_seq fun K236 hK236 => ?_
      refine w_condI (p := v226 < (p0.length : Int)) (b := (decide (v226 < (p0.length : Int)))) rfl decide_eq_true_iff (fun h237 => ?_) (fun h237 => ?_)
      · replace hm := hm.1 h237
        refine w_skip ?_
        refine hK236 _ _ ?_
        refine w_cut (σ := Unit) (fun _ => [(0, .slice a0 n0 c0), (1, .slice a1 n1 c1), (13, .slice a0 n0 c0), (14, .int .i64 (p0.length : Int)), (15, .int .i64 v226)]) (fun _ w' => m_impl_IsPlan_K0 v226 (fun v226' => I227 v226' ∧ μ228 v226' < μ228 v226) ∧ Below w.heap.size w w' ∧ Sep w' w.heap.size []) ?_ ?_
        · refine w_block ?_
          refine w_seq fun K239 hK239 => ?_
          refine w_region ?_
          refine wl_val (g_move (v := .int .i64 v226) rfl) rfl ?_
          obtain ⟨hg240, hm⟩ := hm
          refine wl_val (q_index (i := v226) SL26 rfl rfl (Tv.o (hp0.bel hB232)) (Tv.g (hp0.bel hB232) hg240)) rfl ?_
          refine wl_val (q_loadS (i := v226) (cs := [.int .i64 (p0[(Int.toNat v226)]!.1), .slice ((y0[(Int.toNat v226)]!).2.1.1) ((y0[(Int.toNat v226)]!).2.1.2.2.length) ((y0[(Int.toNat v226)]!).2.1.2.1), .slice ((y0[(Int.toNat v226)]!).2.2.1) ((y0[(Int.toNat v226)]!).2.2.2.2.length) ((y0[(Int.toNat v226)]!).2.2.2.1)]) AG39 (Tv.o (hp0.bel hB232)) (Tv.g (hp0.bel hB232) hg240) (by rw [← Tv.ticks (hp0.bel hB232) hg240]; rfl) rfl) rfl ?_
          refine wl_step rfl (q_alloc (cs := #[.int .i64 0, .slice none 0 0, .slice none 0 0]) ZR39 rfl hS233) ?_
          rintro _ w241 ⟨g242, rfl, hS244, hE243⟩
          have hB246 := hB232.trans (Ext.stp hE243 hS233.base)
          refine wl_val (g_assign (v := .int .i64 v226) rfl) rfl ?_
          refine wl_step rfl (q_storeB (i := 0) (bs' := #[.int .i64 (p0[(Int.toNat v226)]!.1), .slice ((y0[(Int.toNat v226)]!).2.1.1) ((y0[(Int.toNat v226)]!).2.1.2.2.length) ((y0[(Int.toNat v226)]!).2.1.2.1), .slice ((y0[(Int.toNat v226)]!).2.2.1) ((y0[(Int.toNat v226)]!).2.2.2.2.length) ((y0[(Int.toNat v226)]!).2.2.2.1)]) (vs := [.int .i64 (p0[(Int.toNat v226)]!.1), .slice ((y0[(Int.toNat v226)]!).2.1.1) ((y0[(Int.toNat v226)]!).2.1.2.2.length) ((y0[(Int.toNat v226)]!).2.1.2.1), .slice ((y0[(Int.toNat v226)]!).2.2.1) ((y0[(Int.toNat v226)]!).2.2.2.2.length) ((y0[(Int.toNat v226)]!).2.2.2.1)]) hS244 AG39.sz rfl rfl rfl (by simp [Value.oneCell']) (Nat.le_of_ble_eq_true rfl) rfl) ?_
          rintro _ w247 ⟨rfl, hS248, hb249⟩
          have hB250 := hB246.trans hb249
          refine wl_nil ?_
          refine hK239 _ _ ?_
          refine w_seq fun K251 hK251 => ?_
          refine w_region ?_
          refine wl_val (g_fieldAddr (q := (⟨g242, 0, none⟩ : Addr)) FL39_1 ON24 rfl) rfl ?_
          refine wl_val (q_loadB (i := 1) (bs := #[.int .i64 (p0[(Int.toNat v226)]!.1), .slice ((y0[(Int.toNat v226)]!).2.1.1) ((y0[(Int.toNat v226)]!).2.1.2.2.length) ((y0[(Int.toNat v226)]!).2.1.2.1), .slice ((y0[(Int.toNat v226)]!).2.2.1) ((y0[(Int.toNat v226)]!).2.2.2.2.length) ((y0[(Int.toNat v226)]!).2.2.2.1)]) hS248.g0 ON24 rfl rfl) rfl ?_
          refine wl_val (q_len SL24 rfl (Vw.len (Tv.rowC0 (hp0.bel hB250) hg240))) rfl ?_
          refine wl_val (g_move (v := .int .i64 0) rfl) rfl ?_
          refine wl_nil ?_
          refine hK251 _ _ ?_
          refine w_block ?_
          have hS253 := hS248.tail
          obtain ⟨I254, μ255, h0256, hr257⟩ := hm
          refine w_for (σ := Int) (fun v252 => [(0, .slice a0 n0 c0), (1, .slice a1 n1 c1), (5, .int .i64 v226), (13, .slice a0 n0 c0), (14, .int .i64 (p0.length : Int)), (15, .int .i64 v226), (21, .slice ((y0[(Int.toNat v226)]!).2.1.1) ((y0[(Int.toNat v226)]!).2.1.2.2.length) ((y0[(Int.toNat v226)]!).2.1.2.1)), (22, .int .i64 ((p0[(Int.toNat v226)]!.2.1).length : Int)), (23, .int .i64 v252)]) (fun v252 w' => I254 v252 ∧ Below w.heap.size w w' ∧ Sep w' w.heap.size []) (fun v252 => μ255 v252) (0) ⟨rfl, rfl, rfl, rfl, rfl, rfl, rfl, rfl, rfl, trivial⟩ ⟨h0256, hB250, hS253⟩ ?_
          rintro v252 b_ w258 ⟨hi_, hB259, hS260⟩
          show Wp _ _ _ _ (upds b_ [(0, .slice a0 n0 c0), (1, .slice a1 n1 c1), (5, .int .i64 v226), (13, .slice a0 n0 c0), (14, .int .i64 (p0.length : Int)), (15, .int .i64 v226), (21, .slice ((y0[(Int.toNat v226)]!).2.1.1) ((y0[(Int.toNat v226)]!).2.1.2.2.length) ((y0[(Int.toNat v226)]!).2.1.2.1)), (22, .int .i64 ((p0[(Int.toNat v226)]!.2.1).length : Int)), (23, .int .i64 v252)]) w258
          have hm := hr257 v252 hi_
          refine w_seq fun K262 hK262 => ?_
          refine w_region ?_
          refine wl_val (g_lss (a := v252) (b := ((p0[(Int.toNat v226)]!.2.1).length : Int)) rfl rfl) rfl ?_
          refine wl_nil ?_
          refine hK262 _ _ ?_
          refine w_seq fun K263 hK263 => ?_
          refine w_condI (p := v252 < ((p0[(Int.toNat v226)]!.2.1).length : Int)) (b := (decide (v252 < ((p0[(Int.toNat v226)]!.2.1).length : Int)))) rfl decide_eq_true_iff (fun h264 => ?_) (fun h264 => ?_)
          · replace hm := hm.1 h264
            refine w_skip ?_
            refine hK263 _ _ ?_
            refine w_seq fun K265 hK265 => ?_
            refine w_block ?_
            refine w_seq fun K266 hK266 => ?_
            refine w_region ?_
            obtain ⟨hg267, hm⟩ := hm
            refine wl_val (q_index (i := v252) SL24 rfl rfl (Tv.rowC0 (hp0.bel hB259) hg240) hg267) rfl ?_
            refine wl_val (q_load (i := v252) (v := .int .i64 ((p0[(Int.toNat v226)]!.2.1)[(Int.toNat v252)]!)) ON3 (Tv.rowC0 (hp0.bel hB259) hg240) hg267 rfl rfl) rfl ?_
            refine wl_val (g_assign (v := .int .i64 ((p0[(Int.toNat v226)]!.2.1)[(Int.toNat v252)]!)) rfl) rfl ?_
            refine wl_nil ?_
            refine hK266 _ _ ?_
            refine w_seq fun K268 hK268 => ?_
            refine w_draw (X := Ext) (Y := Ext) [] MIX (by decide +kernel) rfl Ext.refl (fun _ _ _ => Ext.trans) (fun _ _ _ => Chg.trans) (fun _ _ h => Ext.chg h _) (fun w269 hE270 => ?_)
            have hB271 := hB259.trans (Ext.stp hE270 hS260.base)
            have hS272 := hS260.ext hE270
            refine ⟨.slice a1 n1 c1, fun w273 hX274 => od_plain rfl (by have hS275 := hS272.ext hX274; have hB276 := hB271.trans (Ext.stp hX274 hS272.base); exact is_ext (g_move (v := .slice a1 n1 c1) rfl)), ?_⟩
            refine ⟨.int .i64 v226, fun w277 hX278 => od_plain rfl (by have hS279 := hS272.ext hX278; have hB280 := hB271.trans (Ext.stp hX278 hS272.base); exact is_ext (g_move (v := .int .i64 v226) rfl)), ?_⟩
            obtain ⟨hg285, hm⟩ := hm
            refine ⟨.pointer (some ((adr a1).add ((Int.toNat v226) * El.m Int))), fun w281 hX282 => od_plain rfl (by have hS283 := hS272.ext hX282; have hB284 := hB271.trans (Ext.stp hX282 hS272.base); exact is_ext (q_index (i := v226) SL24 rfl rfl (hp1.bel hB284) hg285)), ?_⟩
            refine ⟨.int .i64 (p1[(Int.toNat v226)]!), fun w286 hX287 => od_plain rfl (by have hS288 := hS272.ext hX287; have hB289 := hB271.trans (Ext.stp hX287 hS272.base); exact is_ext (q_load (i := v226) (v := .int .i64 (p1[(Int.toNat v226)]!)) ON3 (hp1.bel hB289) hg285 rfl rfl)), ?_⟩
            refine ⟨.slice a1 n1 c1, fun w290 hX291 => od_plain rfl (by have hS292 := hS272.ext hX291; have hB293 := hB271.trans (Ext.stp hX291 hS272.base); exact is_ext (g_move (v := .slice a1 n1 c1) rfl)), ?_⟩
            refine ⟨.int .i64 ((p0[(Int.toNat v226)]!.2.1)[(Int.toNat v252)]!), fun w294 hX295 => od_plain rfl (by have hS296 := hS272.ext hX295; have hB297 := hB271.trans (Ext.stp hX295 hS272.base); exact is_ext (g_move (v := .int .i64 ((p0[(Int.toNat v226)]!.2.1)[(Int.toNat v252)]!)) rfl)), ?_⟩
            obtain ⟨hg302, hm⟩ := hm
            refine ⟨.pointer (some ((adr a1).add ((Int.toNat ((p0[(Int.toNat v226)]!.2.1)[(Int.toNat v252)]!)) * El.m Int))), fun w298 hX299 => od_plain rfl (by have hS300 := hS272.ext hX299; have hB301 := hB271.trans (Ext.stp hX299 hS272.base); exact is_ext (q_index (i := (p0[(Int.toNat v226)]!.2.1)[(Int.toNat v252)]!) SL24 rfl rfl (hp1.bel hB301) hg302)), ?_⟩
            refine ⟨.int .i64 (p1[(Int.toNat ((p0[(Int.toNat v226)]!.2.1)[(Int.toNat v252)]!))]!), fun w303 hX304 => od_plain rfl (by have hS305 := hS272.ext hX304; have hB306 := hB271.trans (Ext.stp hX304 hS272.base); exact is_ext (q_load (i := (p0[(Int.toNat v226)]!.2.1)[(Int.toNat v252)]!) (v := .int .i64 (p1[(Int.toNat ((p0[(Int.toNat v226)]!.2.1)[(Int.toNat v252)]!))]!)) ON3 (hp1.bel hB306) hg302 rfl rfl)), ?_⟩
            refine ⟨.slice a0 n0 c0, fun w307 hX308 => od_plain rfl (by have hS309 := hS272.ext hX308; have hB310 := hB271.trans (Ext.stp hX308 hS272.base); exact is_ext (g_move (v := .slice a0 n0 c0) rfl)), ?_⟩
            refine ⟨.int .i64 ((p0[(Int.toNat v226)]!.2.1)[(Int.toNat v252)]!), fun w311 hX312 => od_plain rfl (by have hS313 := hS272.ext hX312; have hB314 := hB271.trans (Ext.stp hX312 hS272.base); exact is_ext (g_move (v := .int .i64 ((p0[(Int.toNat v226)]!.2.1)[(Int.toNat v252)]!)) rfl)), ?_⟩
            obtain ⟨hg319, hm⟩ := hm
            refine ⟨.pointer (some ((adr a0).add ((Int.toNat ((p0[(Int.toNat v226)]!.2.1)[(Int.toNat v252)]!)) * El.m CueD))), fun w315 hX316 => od_plain rfl (by have hS317 := hS272.ext hX316; have hB318 := hB271.trans (Ext.stp hX316 hS272.base); exact is_ext (q_index (i := (p0[(Int.toNat v226)]!.2.1)[(Int.toNat v252)]!) SL26 rfl rfl (Tv.o (hp0.bel hB318)) (Tv.g (hp0.bel hB318) hg319))), ?_⟩
            refine ⟨.pointer (some (((adr a0).add ((Int.toNat ((p0[(Int.toNat v226)]!.2.1)[(Int.toNat v252)]!)) * El.m CueD)).add 0)), fun w320 hX321 => od_plain rfl (by have hS322 := hS272.ext hX321; have hB323 := hB271.trans (Ext.stp hX321 hS272.base); exact is_ext (g_fieldAddr (q := (adr a0).add ((Int.toNat ((p0[(Int.toNat v226)]!.2.1)[(Int.toNat v252)]!)) * El.m CueD)) FL39_0 ON3 rfl)), ?_⟩
            refine ⟨.int .i64 (p0[(Int.toNat ((p0[(Int.toNat v226)]!.2.1)[(Int.toNat v252)]!))]!.1), fun w324 hX325 => od_plain rfl (by have hS326 := hS272.ext hX325; have hB327 := hB271.trans (Ext.stp hX325 hS272.base); exact is_ext (q_loadF (i := (p0[(Int.toNat v226)]!.2.1)[(Int.toNat v252)]!) (j := 0) (v := .int .i64 (p0[(Int.toNat ((p0[(Int.toNat v226)]!.2.1)[(Int.toNat v252)]!))]!.1)) ON3 (Tv.o (hp0.bel hB327)) (Tv.g (hp0.bel hB327) hg319) (by rw [← Tv.ticks (hp0.bel hB327) hg319]; rfl) rfl)), ?_⟩
            obtain ⟨hg332, hm⟩ := hm
            refine ⟨.int .i64 (p1[(Int.toNat ((p0[(Int.toNat v226)]!.2.1)[(Int.toNat v252)]!))]! + p0[(Int.toNat ((p0[(Int.toNat v226)]!.2.1)[(Int.toNat v252)]!))]!.1), fun w328 hX329 => od_plain rfl (by have hS330 := hS272.ext hX329; have hB331 := hB271.trans (Ext.stp hX329 hS272.base); exact is_ext (g_add (a := p1[(Int.toNat ((p0[(Int.toNat v226)]!.2.1)[(Int.toNat v252)]!))]!) (b := p0[(Int.toNat ((p0[(Int.toNat v226)]!.2.1)[(Int.toNat v252)]!))]!.1) rfl rfl hg332)), ?_⟩
            refine ⟨.bool (decide (p1[(Int.toNat v226)]! < (p1[(Int.toNat ((p0[(Int.toNat v226)]!.2.1)[(Int.toNat v252)]!))]! + p0[(Int.toNat ((p0[(Int.toNat v226)]!.2.1)[(Int.toNat v252)]!))]!.1))), fun w333 hX334 => od_plain rfl (by have hS335 := hS272.ext hX334; have hB336 := hB271.trans (Ext.stp hX334 hS272.base); exact is_ext (g_lss (a := p1[(Int.toNat v226)]!) (b := (p1[(Int.toNat ((p0[(Int.toNat v226)]!.2.1)[(Int.toNat v252)]!))]! + p0[(Int.toNat ((p0[(Int.toNat v226)]!.2.1)[(Int.toNat v252)]!))]!.1)) rfl rfl)), ?_⟩
            intro w337 hX338
            have hB339 := hB271.trans (Ext.stp hX338 hS272.base)
            have hS340 := hS272.ext hX338
            refine hK268 _ _ ?_
            refine w_condI (p := p1[(Int.toNat v226)]! < (p1[(Int.toNat ((p0[(Int.toNat v226)]!.2.1)[(Int.toNat v252)]!))]! + p0[(Int.toNat ((p0[(Int.toNat v226)]!.2.1)[(Int.toNat v252)]!))]!.1)) (b := (decide (p1[(Int.toNat v226)]! < (p1[(Int.toNat ((p0[(Int.toNat v226)]!.2.1)[(Int.toNat v252)]!))]! + p0[(Int.toNat ((p0[(Int.toNat v226)]!.2.1)[(Int.toNat v252)]!))]!.1)))) rfl decide_eq_true_iff (fun h341 => ?_) (fun h341 => ?_)
            · replace hm := hm.1 h341
              refine w_seq fun K342 hK342 => ?_
              refine w_region ?_
              refine wl_val (g_assign (v := .bool false) rfl) rfl ?_
              refine wl_nil ?_
              refine hK342 _ _ ?_
              refine w_ret ?_
              repeat first | with_reducible refine q_then ?_ | with_reducible refine q_block ?_
              exact ret1 rfl (by decide) ⟨_, hm, rfl, toExt hB339⟩
            · replace hm := hm.2 h341
              refine w_skip ?_
              refine hK265 _ _ ?_
              refine w_region ?_
              obtain ⟨hg343, hm⟩ := hm
              refine wl_val (g_add (a := v252) (b := 1) rfl rfl hg343) rfl ?_
              refine wl_val (g_move (v := .int .i64 (v252 + 1)) rfl) rfl ?_
              refine wl_nil ?_
              exact ⟨((v252 + 1)), hm.2, ⟨rfl, rfl, rfl, rfl, rfl, rfl, rfl, rfl, rfl, trivial⟩, ⟨hm.1, hB339, hS340⟩⟩
          · replace hm := hm.2 h264
            refine w_exit ?_
            exact ⟨(), ⟨rfl, rfl, rfl, rfl, rfl, trivial⟩, ⟨hm, hB259, hS260⟩⟩
        · rintro _ b_ w344 ⟨hm, hB345, hS346⟩
          show Wp _ _ _ _ (upds b_ [(0, .slice a0 n0 c0), (1, .slice a1 n1 c1), (13, .slice a0 n0 c0), (14, .int .i64 (p0.length : Int)), (15, .int .i64 v226)]) w344
          refine w_region ?_
          obtain ⟨hg347, hm⟩ := hm
          refine wl_val (g_add (a := v226) (b := 1) rfl rfl hg347) rfl ?_
          refine wl_val (g_move (v := .int .i64 (v226 + 1)) rfl) rfl ?_
          refine wl_nil ?_
          exact ⟨((v226 + 1)), hm.2, ⟨rfl, rfl, rfl, rfl, rfl, trivial⟩, ⟨hm.1, hB345, hS346⟩⟩
      · replace hm := hm.2 h237
        refine w_exit ?_
        exact ⟨(), ⟨rfl, rfl, trivial⟩, ⟨hm, hB232, hS233⟩⟩
    · rintro _ b_ w348 ⟨hm, hB349, hS350⟩
      show Wp _ _ _ _ (upds b_ [(0, .slice a0 n0 c0), (1, .slice a1 n1 c1)]) w348
      refine w_seq fun K351 hK351 => ?_
      refine w_region ?_
      refine wl_val (g_move (v := .slice a0 n0 c0) rfl) rfl ?_
      refine wl_val (g_move (v := .slice a1 n1 c1) rfl) rfl ?_
      refine wl_step rfl (g_call (vs := #[.slice a0 n0 c0, .slice a1 n1 c1]) CF43 (args2 rfl rfl) (m_impl_ClashesIn_fn ((hp0.bel hB349).up hS350) ((hp1.bel hB349).up hS350) hm)) ?_
      rintro _ w352 ⟨r355, a356, n357, c358, y359, hm, he360, rfl, hE353, hN354⟩
      have hS364 := hS350.call2 hE353 hN354
      have hB365 := hB349.trans (Ext.stp hE353 hS350.base)
      refine wl_val (q_len SL44 rfl (Tv.len (oT.vw hS364.g0 hS364.g1 he360))) rfl ?_
      refine wl_val (g_eql (a := (r355.length : Int)) (b := 0) rfl rfl) rfl ?_
      refine wl_val (g_assign (v := .bool (decide ((r355.length : Int) = 0))) rfl) rfl ?_
      refine wl_nil ?_
      refine hK351 _ _ ?_
      refine w_ret ?_
      repeat first | with_reducible refine q_then ?_ | with_reducible refine q_block ?_
      exact ret1 rfl (by decide) ⟨_, hm, rfl, toExt hB365⟩

end Go.Proofs.Ythmemoealgieaaa
