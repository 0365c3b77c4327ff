/- The walks: the code does what its model says. Printed by a program (gen2.py). No statement of the claim stands here. -/
import Derived.Test.YtddjkiefadiijaaTri
import Derived.Test.YtddjkiefadiijaaSop
import Derived.Test.YtddjkiefadiijaaFacts
import Derived.Test.YtddjkiefadiijaaMG
import Derived.Test.YtddjkiefadiijaaWG1
import Derived.Test.YtddjkiefadiijaaWG2
namespace Go.Proofs.Ytddjkiefadiijaa
open Go Go.RowKit
set_option maxRecDepth 100000
theorem m_impl_nightTable_fn {w : World} {a0 : Option Addr} {n0 c0 : Nat} {y0 : List PlayerD} {p0 : List PlayerC} {a1 : Option Addr} {n1 c1 : Nat} {y1 : List (Hd Int)} {p1 : List (List Int)} {Q : (List (List (List Int))) → (List (List Int)) → Bool → Prop} (hp0 : Tv w.heap.size w a0 n0 c0 y0 p0) (hp1 : Tv w.heap.size w a1 n1 c1 y1 p1) (hm : m_impl_nightTable p0 p1 Q) :
    Fn Try.prog 77 #[.slice a0 n0 c0, .slice a1 n1 c1] w (fun v w' => ∃ (r0 : List (List (List Int))) (a0 : Option Addr) (n0 c0 : Nat) (y0 : List (Hd (Hd Int))) (r1 : List (List Int)) (a1 : Option Addr) (n1 c1 : Nat) (y1 : List (Hd Int)) (r2 : Bool), Q r0 r1 r2 ∧ erss y0 = r0 ∧ ers y1 = r1 ∧ v = .tuple #[.slice a0 n0 c0, .slice a1 n1 c1, .bool r2] ∧ Ext w w' ∧ Sep w' w.heap.size [oS 37 a0 n0 c0 y0, oT 23 y0, oT 3 (fl y0), oS 23 a1 n1 c1 y1, oT 3 y1]) := by
  unfold m_impl_nightTable at hm
  have hB0 := Below.refl w.heap.size w
  have hS0 : Sep w w.heap.size [] := Sep.nil (Nat.le_refl _)
  refine fn_of_wp Try.func77 rfl (by kernel_rfl) (Nat.le_of_ble_eq_true rfl) ?_
  refine w_seq fun K1 hK1 => ?_
  refine w_region ?_
  refine wl_val (g_assign (v := .slice none 0 0) rfl) rfl ?_
  refine wl_val (g_assign (v := .slice none 0 0) rfl) rfl ?_
  refine wl_val (g_assign (v := .bool false) rfl) rfl ?_
  refine wl_nil ?_
  refine hK1 _ _ ?_
  refine w_seq fun K2 hK2 => ?_
  refine w_region ?_
  refine wl_step rfl (q_lit0 (α := (Hd (Hd Int))) rfl SL75 hS0) ?_
  rintro _ w3 ⟨a4, rfl, hS6, hE5⟩
  have hB8 := hB0.trans (Ext.stp hE5 hS0.base)
  have hS9 := hS6.noRows (δ := Hd (Hd Int)) (E := 23)
  have hS11 := hS9.noFl (E := 3)
  have he13 : erss [] = [] := rfl
  refine wl_val (g_assign (v := .slice a4 0 0) rfl) rfl ?_
  refine wl_nil ?_
  refine hK2 _ _ ?_
  refine w_cut (σ := List (List (List Int)) × Option Addr × Nat × Nat × List (Hd (Hd Int))) (fun ⟨x218, a219, n220, c221, y222⟩ => [(1, .slice a1 n1 c1), (7, .slice a219 n220 c221)]) (fun ⟨x218, a219, n220, c221, y222⟩ w' => m_impl_nightTable_K4 p1 Q x218 ∧ erss y222 = x218 ∧ Below w.heap.size w w' ∧ Sep w' w.heap.size [oS 37 a219 n220 c221 (y222 : List (Hd (Hd Int))), oT 23 (y222 : List (Hd (Hd Int))), oT 3 (fl y222 : List (Hd Int))]) ?_ ?_
  · refine w_seq fun K225 hK225 => ?_
    refine w_region ?_
    refine wl_val (g_move (v := .slice a1 n1 c1) rfl) rfl ?_
    refine wl_val (q_len SL37 rfl (Tv.len (hp1.bel hB8))) rfl ?_
    refine wl_val (g_move (v := .int .i64 0) rfl) rfl ?_
    refine wl_nil ?_
    refine hK225 _ _ ?_
    refine w_block ?_
    have hS233 := hS11.f1
    have hS234 := hS233.f2
    obtain ⟨I235, μ236, h0237, hr238⟩ := hm
    refine w_for (σ := List (List (List Int)) × Option Addr × Nat × Nat × List (Hd (Hd Int)) × Int) (fun ⟨x226, a227, n228, c229, y230, v232⟩ => [(0, .slice a0 n0 c0), (1, .slice a1 n1 c1), (7, .slice a227 n228 c229), (18, .slice a1 n1 c1), (19, .int .i64 (p1.length : Int)), (20, .int .i64 v232)]) (fun ⟨x226, a227, n228, c229, y230, v232⟩ w' => I235 x226 v232 ∧ erss y230 = x226 ∧ Below w.heap.size w w' ∧ Sep w' w.heap.size [oS 37 a227 n228 c229 (y230 : List (Hd (Hd Int))), oT 23 (y230 : List (Hd (Hd Int))), oT 3 (fl y230 : List (Hd Int))]) (fun ⟨x226, a227, n228, c229, y230, v232⟩ => μ236 x226 v232) ([], a4, 0, 0, [], 0) ⟨rfl, rfl, rfl, rfl, rfl, rfl, trivial⟩ ⟨h0237, he13, hB8, hS234⟩ ?_
    rintro ⟨x226, a227, n228, c229, y230, v232⟩ b_ w239 ⟨hi_, he231, hB240, hS241⟩
    show Wp _ _ _ _ (upds b_ [(0, .slice a0 n0 c0), (1, .slice a1 n1 c1), (7, .slice a227 n228 c229), (18, .slice a1 n1 c1), (19, .int .i64 (p1.length : Int)), (20, .int .i64 v232)]) w239
    have hm := hr238 x226 v232 hi_
    refine w_seq fun K243 hK243 => ?_
    refine w_region ?_
    refine wl_val (g_lss (a := v232) (b := (p1.length : Int)) rfl rfl) rfl ?_
    refine wl_nil ?_
    refine hK243 _ _ ?_
    refine w_seq fun K244 hK244 => ?_
    refine w_condI (p := v232 < (p1.length : Int)) (b := (decide (v232 < (p1.length : Int)))) rfl decide_eq_true_iff (fun h245 => ?_) (fun h245 => ?_)
    · replace hm := hm.1 h245
      refine w_skip ?_
      refine hK244 _ _ ?_
      refine w_seq fun K246 hK246 => ?_
      refine w_block ?_
      refine w_seq fun K247 hK247 => ?_
      refine w_region ?_
      obtain ⟨hg248, hm⟩ := hm
      refine wl_val (q_index (i := v232) SL37 rfl rfl (Tv.o (hp1.bel hB240)) (Tv.g (hp1.bel hB240) hg248)) rfl ?_
      refine wl_val (q_load (i := v232) (v := .slice ((y1[(Int.toNat v232)]!).1) ((y1[(Int.toNat v232)]!).2.2.length) ((y1[(Int.toNat v232)]!).2.1)) ON23 (Tv.o (hp1.bel hB240)) (Tv.g (hp1.bel hB240) hg248) rfl rfl) rfl ?_
      refine wl_val (g_assign (v := .slice ((y1[(Int.toNat v232)]!).1) ((y1[(Int.toNat v232)]!).2.2.length) ((y1[(Int.toNat v232)]!).2.1)) rfl) rfl ?_
      refine wl_nil ?_
      refine hK247 _ _ ?_
      refine w_seq fun K249 hK249 => ?_
      refine w_region ?_
      refine wl_val (g_move (v := .slice a0 n0 c0) rfl) rfl ?_
      refine wl_val (g_move (v := .slice ((y1[(Int.toNat v232)]!).1) ((y1[(Int.toNat v232)]!).2.2.length) ((y1[(Int.toNat v232)]!).2.1)) rfl) rfl ?_
      refine wl_step rfl (g_call (vs := #[.slice a0 n0 c0, .slice ((y1[(Int.toNat v232)]!).1) ((y1[(Int.toNat v232)]!).2.2.length) ((y1[(Int.toNat v232)]!).2.1)]) CF27 (args2 rfl rfl) (m_impl_CastingsOf_fn ((hp0.bel hB240).up hS241) ((Tv.row (hp1.bel hB240) hg248).up hS241) hm)) ?_
      rintro _ w250 ⟨r253, a254, n255, c256, y257, hm, he258, rfl, hE251, hN252⟩
      have hS262 := hS241.call2 hE251 hN252
      have hB263 := hB240.trans (Ext.stp hE251 hS241.base)
      refine wl_val (g_assign (v := .slice a254 n255 c256) rfl) rfl ?_
      refine wl_nil ?_
      refine hK249 _ _ ?_
      refine w_seq fun K264 hK264 => ?_
      refine w_seq fun K265 hK265 => ?_
      refine w_region ?_
      refine wl_val (g_move (v := .slice a254 n255 c256) rfl) rfl ?_
      refine wl_val (q_len SL37 rfl (Tv.len (oT.vw hS262.g0 hS262.g1 he258))) rfl ?_
      refine wl_val (g_eql (a := (r253.length : Int)) (b := 0) rfl rfl) rfl ?_
      refine wl_nil ?_
      refine hK265 _ _ ?_
      refine w_condI (p := (r253.length : Int) = 0) (b := (decide ((r253.length : Int) = 0))) rfl decide_eq_true_iff (fun h266 => ?_) (fun h266 => ?_)
      · replace hm := hm.1 h266
        refine w_seq fun K267 hK267 => ?_
        refine w_region ?_
        refine wl_val (g_assign (v := .slice none 0 0) rfl) rfl ?_
        refine wl_val (g_assign (v := .slice none 0 0) rfl) rfl ?_
        refine wl_val (g_assign (v := .bool false) rfl) rfl ?_
        refine wl_nil ?_
        refine hK267 _ _ ?_
        refine w_ret ?_
        have hS268 := hS262.nilS (α := (Hd (Hd Int))) (E := 37)
        have hS270 := hS268.noRows (δ := Hd (Hd Int)) (E := 23)
        have hS272 := hS270.noFl (E := 3)
        have he274 : erss [] = [] := rfl
        have hS276 := hS272.nilS (α := (Hd Int)) (E := 23)
        have hS278 := hS276.noRows (δ := Hd Int) (E := 3)
        have he280 : ers ([] : List (Hd Int)) = ([] : List (List Int)) := rfl
        have hS282 := hS278.f5
        have hS283 := hS282.tail
        have hS284 := hS283.f5
        have hS285 := hS284.tail
        have hS286 := hS285.f5
        have hS287 := hS286.tail
        have hS288 := hS287.f5
        have hS289 := hS288.tail
        have hS290 := hS289.f5
        have hS291 := hS290.tail
        have hS292 := hS291.f1
        have hS293 := hS292.f2
        have hS294 := hS293.f3
        have hS295 := hS294.f4
        repeat first | with_reducible refine q_then ?_ | with_reducible refine q_block ?_
        exact ret3 rfl (by decide) (by decide) (by decide) ⟨_, _, _, _, _, _, _, _, _, _, _, hm, he274, he280, rfl, toExt hB263, hS295⟩
      · replace hm := hm.2 h266
        refine w_skip ?_
        refine hK264 _ _ ?_
        refine w_region ?_
        refine wl_val (g_move (v := .slice a227 n228 c229) rfl) rfl ?_
        refine wl_val (g_move (v := .slice a254 n255 c256) rfl) rfl ?_
        have hn300 := oS.len hS262.g0
        have hS301 := hS262.oneRow
        have hS303 := hS301.f1
        have hS304 := hS303.oneFl a254 c256
        refine wl_step rfl (q_lit1 (y := ((a254, c256, y257) : Hd (Hd Int))) SL75 rfl (hd_cells hn300) (by decide) hS304) ?_
        rintro _ w296 ⟨a297, rfl, hS299, hE298⟩
        have hB307 := hB263.trans (Ext.stp hE298 hS304.base)
        have he308 := ersOne a254 c256 he258
        have hS315 := hS299.f3
        obtain ⟨hg316, hm⟩ := hm
        have hl317 : (y230 : List (Hd (Hd Int))).length + ([(a254, c256, y257)] : List (Hd (Hd Int))).length ≤ 1099511627776 := by have h1 := congrArg List.length he231; have h2 := congrArg List.length he308; have h3 := hg316; simp only [erss, List.length_map, List.length_append, List.length_cons, List.length_nil] at h1 h2 h3 ⊢; omega
        refine wl_step rfl (q_append SL75 rfl rfl hS315 (oS.vw hS315.g1) hl317 (by decide)) ?_
        rintro _ w310 ⟨a311, c312, rfl, hS314, hb313⟩
        have hB318 := hB307.trans hb313
        have hS319 := hS314.f1
        have hS320 := hS319.tail
        have hS321 := hS320.f3
        have hS322 := hS321.f3
        have hS323 := hS322.catRows
        have hS324 := hS323.f3
        have hS325 := hS324.f3
        have hS326 := hS325.catFl
        have he327 := ersCat he231 he308
        refine wl_val (g_assign (v := .slice a311 (n228 + 1) c312) rfl) rfl ?_
        refine wl_nil ?_
        refine hK246 _ _ ?_
        refine w_region ?_
        obtain ⟨hg328, hm⟩ := hm
        refine wl_val (g_add (a := v232) (b := 1) rfl rfl hg328) rfl ?_
        refine wl_val (g_move (v := .int .i64 (v232 + 1)) rfl) rfl ?_
        refine wl_nil ?_
        have hS329 := hS326.f1
        have hS330 := hS329.f2
        exact ⟨((x226 ++ ([r253])), a311, (n228 + 1), c312, (y230 ++ ([(a254, c256, y257)])), (v232 + 1)), hm.2, ⟨rfl, rfl, rfl, rfl, rfl, rfl, trivial⟩, ⟨hm.1, he327, hB318, hS330⟩⟩
    · replace hm := hm.2 h245
      refine w_exit ?_
      exact ⟨(x226, a227, n228, c229, y230), ⟨rfl, rfl, trivial⟩, ⟨hm, he231, hB240, hS241⟩⟩
  · rintro ⟨x218, a219, n220, c221, y222⟩ b_ w331 ⟨hm, he223, hB332, hS333⟩
    show Wp _ _ _ _ (upds b_ [(1, .slice a1 n1 c1), (7, .slice a219 n220 c221)]) w331
    refine w_seq fun K334 hK334 => ?_
    refine w_region ?_
    refine wl_val (g_move (v := .slice a1 n1 c1) rfl) rfl ?_
    refine wl_val (q_len SL37 rfl (Tv.len (hp1.bel hB332))) rfl ?_
    obtain ⟨hg335, hm⟩ := hm
    refine wl_step rfl (q_make (y := ((none, 0, []) : Hd Int)) SL37 rfl rfl hg335.1 hg335.2 (by decide) hS333) ?_
    rintro _ w336 ⟨a337, rfl, hS339, hE338⟩
    have hB341 := hB332.trans (Ext.stp hE338 hS333.base)
    have hS342 := hS339.nilRows (y := ((none, 0, []) : Hd Int)) (E := 3) (fun j hj => by first | rfl | (show (if j = 0 then _ else _) = _; split <;> rfl)) (Int.toNat (p1.length : Int))
    have he344 : ers (List.replicate (Int.toNat (p1.length : Int)) ((none, 0, []) : Hd Int)) = List.replicate (Int.toNat (p1.length : Int)) ([] : List Int) := by simp only [ers, List.map_replicate]; rfl
    refine wl_val (g_assign (v := .slice a337 (Int.toNat (p1.length : Int)) (Int.toNat (p1.length : Int))) rfl) rfl ?_
    refine wl_nil ?_
    refine hK334 _ _ ?_
    refine w_cut (σ := List (List Int) × List (Hd Int)) (fun ⟨x2023, y2024⟩ => [(7, .slice a219 n220 c221), (11, .slice a337 (Int.toNat (p1.length : Int)) (Int.toNat (p1.length : Int)))]) (fun ⟨x2023, y2024⟩ w' => m_impl_nightTable_K3 x218 Q x2023 ∧ ers y2024 = x2023 ∧ Below w.heap.size w w' ∧ Sep w' w.heap.size [oS 37 a219 n220 c221 (y222 : List (Hd (Hd Int))), oT 23 (y222 : List (Hd (Hd Int))), oT 3 (fl y222 : List (Hd Int)), oS 23 a337 (Int.toNat (p1.length : Int)) (Int.toNat (p1.length : Int)) (y2024 : List (Hd Int)), oT 3 (y2024 : List (Hd Int))]) ?_ ?_
    · refine w_seq fun K2027 hK2027 => ?_
      refine w_region ?_
      refine wl_val (g_move (v := .slice a1 n1 c1) rfl) rfl ?_
      refine wl_val (q_len SL37 rfl (Tv.len (hp1.bel hB341))) rfl ?_
      obtain ⟨hg2028, hm⟩ := hm
      refine wl_val (g_sub (a := (p1.length : Int)) (b := 1) rfl rfl hg2028) rfl ?_
      refine wl_val (g_assign (v := .int .i64 ((p1.length : Int) - 1)) rfl) rfl ?_
      refine wl_nil ?_
      refine hK2027 _ _ ?_
      refine w_block ?_
      have hS2033 := hS342.f1
      have hS2034 := hS2033.f4
      have hS2035 := hS2034.f4
      have hS2036 := hS2035.f4
      obtain ⟨I2037, μ2038, h02039, hr2040⟩ := hm
      refine w_for (σ := List (List Int) × List (Hd Int) × Int) (fun ⟨x2029, y2030, v2032⟩ => [(1, .slice a1 n1 c1), (7, .slice a219 n220 c221), (11, .slice a337 (Int.toNat (p1.length : Int)) (Int.toNat (p1.length : Int))), (12, .int .i64 v2032)]) (fun ⟨x2029, y2030, v2032⟩ w' => I2037 x2029 v2032 ∧ ers y2030 = x2029 ∧ Below w.heap.size w w' ∧ Sep w' w.heap.size [oS 37 a219 n220 c221 (y222 : List (Hd (Hd Int))), oT 23 (y222 : List (Hd (Hd Int))), oT 3 (fl y222 : List (Hd Int)), oS 23 a337 (Int.toNat (p1.length : Int)) (Int.toNat (p1.length : Int)) (y2030 : List (Hd Int)), oT 3 (y2030 : List (Hd Int))]) (fun ⟨x2029, y2030, v2032⟩ => μ2038 x2029 v2032) (List.replicate (Int.toNat (p1.length : Int)) ([] : List Int), List.replicate (Int.toNat (p1.length : Int)) ((none, 0, []) : Hd Int), ((p1.length : Int) - 1)) ⟨rfl, rfl, rfl, rfl, trivial⟩ ⟨h02039, he344, hB341, hS2036⟩ ?_
      rintro ⟨x2029, y2030, v2032⟩ b_ w2041 ⟨hi_, he2031, hB2042, hS2043⟩
      show Wp _ _ _ _ (upds b_ [(1, .slice a1 n1 c1), (7, .slice a219 n220 c221), (11, .slice a337 (Int.toNat (p1.length : Int)) (Int.toNat (p1.length : Int))), (12, .int .i64 v2032)]) w2041
      have hm := hr2040 x2029 v2032 hi_
      refine w_seq fun K2045 hK2045 => ?_
      refine w_seq fun K2046 hK2046 => ?_
      refine w_region ?_
      refine wl_val (g_move (v := .int .i64 v2032) rfl) rfl ?_
      refine wl_val (g_geq (a := v2032) (b := 0) rfl rfl) rfl ?_
      refine wl_nil ?_
      refine hK2046 _ _ ?_
      refine w_condI (p := v2032 ≥ 0) (b := (decide (v2032 ≥ 0))) rfl decide_eq_true_iff (fun h2047 => ?_) (fun h2047 => ?_)
      · replace hm := hm.1 h2047
        refine w_skip ?_
        refine hK2045 _ _ ?_
        refine w_cut (σ := List (List Int) × List (Hd Int)) (fun ⟨x2048, y2049⟩ => [(1, .slice a1 n1 c1), (7, .slice a219 n220 c221), (11, .slice a337 (Int.toNat (p1.length : Int)) (Int.toNat (p1.length : Int))), (12, .int .i64 v2032)]) (fun ⟨x2048, y2049⟩ w' => m_impl_nightTable_K2 v2032 (fun x2029' v2032' => I2037 x2029' v2032' ∧ μ2038 x2029' v2032' < μ2038 x2029 v2032) x2048 ∧ ers y2049 = x2048 ∧ Below w.heap.size w w' ∧ Sep w' w.heap.size [oS 37 a219 n220 c221 (y222 : List (Hd (Hd Int))), oT 23 (y222 : List (Hd (Hd Int))), oT 3 (fl y222 : List (Hd Int)), oS 23 a337 (Int.toNat (p1.length : Int)) (Int.toNat (p1.length : Int)) (y2049 : List (Hd Int)), oT 3 (y2049 : List (Hd Int))]) ?_ ?_
        · refine w_block ?_
          refine w_seq fun K2052 hK2052 => ?_
          refine w_region ?_
          refine wl_val (g_move (v := .slice a337 (Int.toNat (p1.length : Int)) (Int.toNat (p1.length : Int))) rfl) rfl ?_
          refine wl_val (g_move (v := .int .i64 v2032) rfl) rfl ?_
          refine wl_val (g_move (v := .slice a219 n220 c221) rfl) rfl ?_
          refine wl_val (g_move (v := .int .i64 v2032) rfl) rfl ?_
          obtain ⟨hg2053, hm⟩ := hm
          refine wl_val (q_index (i := v2032) SL75 rfl rfl (Tt.o (oT.t3 hS2043.g0 hS2043.g1 hS2043.g2 he223)) (Tt.g (oT.t3 hS2043.g0 hS2043.g1 hS2043.g2 he223) hg2053)) rfl ?_
          refine wl_val (q_load (i := v2032) (v := .slice (((y222)[(Int.toNat v2032)]!).1) (((y222)[(Int.toNat v2032)]!).2.2.length) (((y222)[(Int.toNat v2032)]!).2.1)) ON37 (Tt.o (oT.t3 hS2043.g0 hS2043.g1 hS2043.g2 he223)) (Tt.g (oT.t3 hS2043.g0 hS2043.g1 hS2043.g2 he223) hg2053) rfl rfl) rfl ?_
          refine wl_val (q_len SL37 rfl (Tv.len (Tt.row (oT.t3 hS2043.g0 hS2043.g1 hS2043.g2 he223) hg2053))) rfl ?_
          obtain ⟨hg2054, hm⟩ := hm
          refine wl_step rfl (q_make (y := (0 : Int)) SL23 rfl rfl hg2054.1 hg2054.2 (by decide) hS2043) ?_
          rintro _ w2055 ⟨a2056, rfl, hS2058, hE2057⟩
          have hB2060 := hB2042.trans (Ext.stp hE2057 hS2043.base)
          obtain ⟨hg2061, hm⟩ := hm
          refine wl_val (q_index (i := v2032) SL37 rfl rfl (Tv.o (oT.vw hS2058.g4 hS2058.g5 he2031)) (Tv.g (oT.vw hS2058.g4 hS2058.g5 he2031) hg2061)) rfl ?_
          have hn2066 := oS.len hS2058.g0
          have hS2067 := hS2058.oneRow
          have he2065 : ers [((a2056, (Int.toNat ((x218[(Int.toNat v2032)]!).length : Int)), List.replicate (Int.toNat ((x218[(Int.toNat v2032)]!).length : Int)) (0 : Int)) : Hd Int)] = [List.replicate (Int.toNat ((x218[(Int.toNat v2032)]!).length : Int)) (0 : Int)] := rfl
          have hS2069 := hS2067.f5
          have hS2070 := hS2069.f5
          have hS2071 := hS2070.f2
          refine wl_step rfl (q_setT (i := v2032) hS2071 he2031 hg2061 ON23.sz rfl rfl (hd_cells hn2066)) ?_
          rintro _ w2062 ⟨rfl, y2072, he2073, hS2063, hb2064⟩
          have he2074 := he2073.trans (congrArg (List.set _ _) (ers_one he2065))
          have hB2075 := hB2060.trans hb2064
          refine wl_nil ?_
          refine hK2052 _ _ ?_
          refine w_seq fun K2076 hK2076 => ?_
          refine w_region ?_
          refine wl_val (g_move (v := .slice a219 n220 c221) rfl) rfl ?_
          refine wl_val (g_move (v := .int .i64 v2032) rfl) rfl ?_
          obtain ⟨hg2077, hm⟩ := hm
          refine wl_val (q_index (i := v2032) SL75 rfl rfl (Tt.o (oT.t3 hS2063.g2 hS2063.g3 hS2063.g4 he223)) (Tt.g (oT.t3 hS2063.g2 hS2063.g3 hS2063.g4 he223) hg2077)) rfl ?_
          refine wl_val (q_load (i := v2032) (v := .slice (((y222)[(Int.toNat v2032)]!).1) (((y222)[(Int.toNat v2032)]!).2.2.length) (((y222)[(Int.toNat v2032)]!).2.1)) ON37 (Tt.o (oT.t3 hS2063.g2 hS2063.g3 hS2063.g4 he223)) (Tt.g (oT.t3 hS2063.g2 hS2063.g3 hS2063.g4 he223) hg2077) rfl rfl) rfl ?_
          refine wl_val (q_len SL37 rfl (Tv.len (Tt.row (oT.t3 hS2063.g2 hS2063.g3 hS2063.g4 he223) hg2077))) rfl ?_
          refine wl_val (g_move (v := .int .i64 0) rfl) rfl ?_
          refine wl_nil ?_
          refine hK2076 _ _ ?_
          refine w_block ?_
          have hS2082 := hS2063.f1
          have hS2083 := hS2082.f1
          have hS2084 := hS2083.f4
          have hS2085 := hS2084.f4
          have hS2086 := hS2085.f4
          obtain ⟨I2087, μ2088, h02089, hr2090⟩ := hm
          refine w_for (σ := List (List Int) × List (Hd Int) × Int) (fun ⟨x2078, y2079, v2081⟩ => [(1, .slice a1 n1 c1), (7, .slice a219 n220 c221), (11, .slice a337 (Int.toNat (p1.length : Int)) (Int.toNat (p1.length : Int))), (12, .int .i64 v2032), (58, .int .i64 ((x218[(Int.toNat v2032)]!).length : Int)), (59, .int .i64 v2081)]) (fun ⟨x2078, y2079, v2081⟩ w' => I2087 x2078 v2081 ∧ ers y2079 = x2078 ∧ Below w.heap.size w w' ∧ Sep w' w.heap.size [oS 37 a219 n220 c221 (y222 : List (Hd (Hd Int))), oT 23 (y222 : List (Hd (Hd Int))), oT 3 (fl y222 : List (Hd Int)), oS 23 a337 (Int.toNat (p1.length : Int)) (Int.toNat (p1.length : Int)) (y2079 : List (Hd Int)), oT 3 (y2079 : List (Hd Int))]) (fun ⟨x2078, y2079, v2081⟩ => μ2088 x2078 v2081) ((x2029.set (Int.toNat v2032) (List.replicate (Int.toNat ((x218[(Int.toNat v2032)]!).length : Int)) (0 : Int))), y2072, 0) ⟨rfl, rfl, rfl, rfl, rfl, rfl, trivial⟩ ⟨h02089, he2074, hB2075, hS2086⟩ ?_
          rintro ⟨x2078, y2079, v2081⟩ b_ w2091 ⟨hi_, he2080, hB2092, hS2093⟩
          show Wp _ _ _ _ (upds b_ [(1, .slice a1 n1 c1), (7, .slice a219 n220 c221), (11, .slice a337 (Int.toNat (p1.length : Int)) (Int.toNat (p1.length : Int))), (12, .int .i64 v2032), (58, .int .i64 ((x218[(Int.toNat v2032)]!).length : Int)), (59, .int .i64 v2081)]) w2091
          have hm := hr2090 x2078 v2081 hi_
          refine w_seq fun K2095 hK2095 => ?_
          refine w_region ?_
          refine wl_val (g_lss (a := v2081) (b := ((x218[(Int.toNat v2032)]!).length : Int)) rfl rfl) rfl ?_
          refine wl_nil ?_
          refine hK2095 _ _ ?_
          refine w_seq fun K2096 hK2096 => ?_
          refine w_condI (p := v2081 < ((x218[(Int.toNat v2032)]!).length : Int)) (b := (decide (v2081 < ((x218[(Int.toNat v2032)]!).length : Int)))) rfl decide_eq_true_iff (fun h2097 => ?_) (fun h2097 => ?_)
          · replace hm := hm.1 h2097
            refine w_skip ?_
            refine hK2096 _ _ ?_
            refine w_cut (σ := List (List Int) × List (Hd Int)) (fun ⟨x2098, y2099⟩ => [(1, .slice a1 n1 c1), (7, .slice a219 n220 c221), (11, .slice a337 (Int.toNat (p1.length : Int)) (Int.toNat (p1.length : Int))), (12, .int .i64 v2032), (58, .int .i64 ((x218[(Int.toNat v2032)]!).length : Int)), (59, .int .i64 v2081)]) (fun ⟨x2098, y2099⟩ w' => m_impl_nightTable_K1 v2081 (fun x2078' v2081' => I2087 x2078' v2081' ∧ μ2088 x2078' v2081' < μ2088 x2078 v2081) x2098 ∧ ers y2099 = x2098 ∧ Below w.heap.size w w' ∧ Sep w' w.heap.size [oS 37 a219 n220 c221 (y222 : List (Hd (Hd Int))), oT 23 (y222 : List (Hd (Hd Int))), oT 3 (fl y222 : List (Hd Int)), oS 23 a337 (Int.toNat (p1.length : Int)) (Int.toNat (p1.length : Int)) (y2099 : List (Hd Int)), oT 3 (y2099 : List (Hd Int))]) ?_ ?_
            · refine w_block ?_
              refine w_seq fun K2102 hK2102 => ?_
              refine w_region ?_
              refine wl_val (g_move (v := .int .i64 v2081) rfl) rfl ?_
              refine wl_val (g_assign (v := .int .i64 v2081) rfl) rfl ?_
              refine wl_nil ?_
              refine hK2102 _ _ ?_
              refine w_seq fun K2103 hK2103 => ?_
              refine w_seq fun K2104 hK2104 => ?_
              refine w_region ?_
              refine wl_val (g_move (v := .int .i64 v2032) rfl) rfl ?_
              obtain ⟨hg2105, hm⟩ := hm
              refine wl_val (g_add (a := v2032) (b := 1) rfl rfl hg2105) rfl ?_
              refine wl_val (g_move (v := .slice a1 n1 c1) rfl) rfl ?_
              refine wl_val (q_len SL37 rfl (Tv.len (hp1.bel hB2092))) rfl ?_
              refine wl_val (g_eql (a := (v2032 + 1)) (b := (p1.length : Int)) rfl rfl) rfl ?_
              refine wl_nil ?_
              refine hK2104 _ _ ?_
              refine w_condI (p := (v2032 + 1) = (p1.length : Int)) (b := (decide ((v2032 + 1) = (p1.length : Int)))) rfl decide_eq_true_iff (fun h2106 => ?_) (fun h2106 => ?_)
              · replace hm := hm.1 h2106
                refine w_exit ?_
                exact ⟨(x2078, y2079), ⟨rfl, rfl, rfl, rfl, rfl, rfl, trivial⟩, ⟨hm, he2080, hB2092, hS2093⟩⟩
              · replace hm := hm.2 h2106
                refine w_skip ?_
                refine hK2103 _ _ ?_
                refine w_seq fun K2107 hK2107 => ?_
                refine w_region ?_
                refine wl_val (g_assign (v := .int .i64 (-1)) rfl) rfl ?_
                refine wl_nil ?_
                refine hK2107 _ _ ?_
                refine w_cut (σ := Int) (fun v2108 => [(1, .slice a1 n1 c1), (7, .slice a219 n220 c221), (11, .slice a337 (Int.toNat (p1.length : Int)) (Int.toNat (p1.length : Int))), (12, .int .i64 v2032), (13, .int .i64 v2081), (14, .int .i64 v2108), (58, .int .i64 ((x218[(Int.toNat v2032)]!).length : Int)), (59, .int .i64 v2081)]) (fun v2108 w' => m_impl_nightTable_K0 v2032 x2078 v2081 (m_impl_nightTable_K1 v2081 (fun x2078' v2081' => I2087 x2078' v2081' ∧ μ2088 x2078' v2081' < μ2088 x2078 v2081)) v2108 ∧ Below w.heap.size w w' ∧ Sep w' w.heap.size [oS 37 a219 n220 c221 (y222 : List (Hd (Hd Int))), oT 23 (y222 : List (Hd (Hd Int))), oT 3 (fl y222 : List (Hd Int)), oS 23 a337 (Int.toNat (p1.length : Int)) (Int.toNat (p1.length : Int)) (y2079 : List (Hd Int)), oT 3 (y2079 : List (Hd Int))]) ?_ ?_
                · refine w_seq fun K2110 hK2110 => ?_
                  refine w_region ?_
                  refine wl_val (g_move (v := .slice a219 n220 c221) rfl) rfl ?_
                  refine wl_val (g_move (v := .int .i64 v2032) rfl) rfl ?_
                  obtain ⟨hg2111, hm⟩ := hm
                  refine wl_val (g_add (a := v2032) (b := 1) rfl rfl hg2111) rfl ?_
                  obtain ⟨hg2112, hm⟩ := hm
                  refine wl_val (q_index (i := (v2032 + 1)) SL75 rfl rfl (Tt.o (oT.t3 hS2093.g0 hS2093.g1 hS2093.g2 he223)) (Tt.g (oT.t3 hS2093.g0 hS2093.g1 hS2093.g2 he223) hg2112)) rfl ?_
                  refine wl_val (q_load (i := (v2032 + 1)) (v := .slice (((y222)[(Int.toNat (v2032 + 1))]!).1) (((y222)[(Int.toNat (v2032 + 1))]!).2.2.length) (((y222)[(Int.toNat (v2032 + 1))]!).2.1)) ON37 (Tt.o (oT.t3 hS2093.g0 hS2093.g1 hS2093.g2 he223)) (Tt.g (oT.t3 hS2093.g0 hS2093.g1 hS2093.g2 he223) hg2112) rfl rfl) rfl ?_
                  refine wl_val (q_len SL37 rfl (Tv.len (Tt.row (oT.t3 hS2093.g0 hS2093.g1 hS2093.g2 he223) hg2112))) rfl ?_
                  refine wl_val (g_move (v := .int .i64 0) rfl) rfl ?_
                  refine wl_nil ?_
                  refine hK2110 _ _ ?_
                  refine w_block ?_
                  obtain ⟨I2115, μ2116, h02117, hr2118⟩ := hm
                  refine w_for (σ := Int × Int) (fun ⟨v2113, v2114⟩ => [(1, .slice a1 n1 c1), (7, .slice a219 n220 c221), (11, .slice a337 (Int.toNat (p1.length : Int)) (Int.toNat (p1.length : Int))), (12, .int .i64 v2032), (13, .int .i64 v2081), (14, .int .i64 v2113), (58, .int .i64 ((x218[(Int.toNat v2032)]!).length : Int)), (59, .int .i64 v2081), (72, .int .i64 ((x218[(Int.toNat (v2032 + 1))]!).length : Int)), (73, .int .i64 v2114)]) (fun ⟨v2113, v2114⟩ w' => I2115 v2113 v2114 ∧ Below w.heap.size w w' ∧ Sep w' w.heap.size [oS 37 a219 n220 c221 (y222 : List (Hd (Hd Int))), oT 23 (y222 : List (Hd (Hd Int))), oT 3 (fl y222 : List (Hd Int)), oS 23 a337 (Int.toNat (p1.length : Int)) (Int.toNat (p1.length : Int)) (y2079 : List (Hd Int)), oT 3 (y2079 : List (Hd Int))]) (fun ⟨v2113, v2114⟩ => μ2116 v2113 v2114) ((-1), 0) ⟨rfl, rfl, rfl, rfl, rfl, rfl, rfl, rfl, rfl, rfl, trivial⟩ ⟨h02117, hB2092, hS2093⟩ ?_
                  rintro ⟨v2113, v2114⟩ b_ w2119 ⟨hi_, hB2120, hS2121⟩
                  show Wp _ _ _ _ (upds b_ [(1, .slice a1 n1 c1), (7, .slice a219 n220 c221), (11, .slice a337 (Int.toNat (p1.length : Int)) (Int.toNat (p1.length : Int))), (12, .int .i64 v2032), (13, .int .i64 v2081), (14, .int .i64 v2113), (58, .int .i64 ((x218[(Int.toNat v2032)]!).length : Int)), (59, .int .i64 v2081), (72, .int .i64 ((x218[(Int.toNat (v2032 + 1))]!).length : Int)), (73, .int .i64 v2114)]) w2119
                  have hm := hr2118 v2113 v2114 hi_
                  refine w_seq fun K2123 hK2123 => ?_
                  refine w_region ?_
                  refine wl_val (g_lss (a := v2114) (b := ((x218[(Int.toNat (v2032 + 1))]!).length : Int)) rfl rfl) rfl ?_
                  refine wl_nil ?_
                  refine hK2123 _ _ ?_
                  refine w_seq fun K2124 hK2124 => ?_
                  refine w_condI (p := v2114 < ((x218[(Int.toNat (v2032 + 1))]!).length : Int)) (b := (decide (v2114 < ((x218[(Int.toNat (v2032 + 1))]!).length : Int)))) rfl decide_eq_true_iff (fun h2125 => ?_) (fun h2125 => ?_)
                  · replace hm := hm.1 h2125
                    refine w_skip ?_
                    refine hK2124 _ _ ?_
                    refine w_seq fun K2126 hK2126 => ?_
                    refine w_block ?_
                    refine w_seq fun K2127 hK2127 => ?_
                    refine w_region ?_
                    refine wl_val (g_move (v := .int .i64 v2114) rfl) rfl ?_
                    refine wl_val (g_assign (v := .int .i64 v2114) rfl) rfl ?_
                    refine wl_nil ?_
                    refine hK2127 _ _ ?_
                    refine w_seq fun K2128 hK2128 => ?_
                    refine w_draw (X := Ext) (Y := Ext) [] MIX (by decide +kernel) rfl Ext.refl (fun _ _ _ => Ext.trans) (fun _ _ _ => Chg.trans) (fun _ _ h => Ext.chg h _) (fun w2129 hE2130 => ?_)
                    have hB2131 := hB2120.trans (Ext.stp hE2130 hS2121.base)
                    have hS2132 := hS2121.ext hE2130
                    refine ⟨.slice a1 n1 c1, fun w2133 hX2134 => od_plain rfl (by have hS2135 := hS2132.ext hX2134; have hB2136 := hB2131.trans (Ext.stp hX2134 hS2132.base); exact is_ext (g_move (v := .slice a1 n1 c1) rfl)), ?_⟩
                    refine ⟨.int .i64 v2032, fun w2137 hX2138 => od_plain rfl (by have hS2139 := hS2132.ext hX2138; have hB2140 := hB2131.trans (Ext.stp hX2138 hS2132.base); exact is_ext (g_move (v := .int .i64 v2032) rfl)), ?_⟩
                    obtain ⟨hg2145, hm⟩ := hm
                    refine ⟨.pointer (some ((adr a1).add ((Int.toNat v2032) * El.m (Hd Int)))), fun w2141 hX2142 => od_plain rfl (by have hS2143 := hS2132.ext hX2142; have hB2144 := hB2131.trans (Ext.stp hX2142 hS2132.base); exact is_ext (q_index (i := v2032) SL37 rfl rfl (Tv.o (hp1.bel hB2144)) (Tv.g (hp1.bel hB2144) hg2145))), ?_⟩
                    refine ⟨.slice ((y1[(Int.toNat v2032)]!).1) ((y1[(Int.toNat v2032)]!).2.2.length) ((y1[(Int.toNat v2032)]!).2.1), fun w2146 hX2147 => od_plain rfl (by have hS2148 := hS2132.ext hX2147; have hB2149 := hB2131.trans (Ext.stp hX2147 hS2132.base); exact is_ext (q_load (i := v2032) (v := .slice ((y1[(Int.toNat v2032)]!).1) ((y1[(Int.toNat v2032)]!).2.2.length) ((y1[(Int.toNat v2032)]!).2.1)) ON23 (Tv.o (hp1.bel hB2149)) (Tv.g (hp1.bel hB2149) hg2145) rfl rfl)), ?_⟩
                    refine ⟨.slice a219 n220 c221, fun w2150 hX2151 => od_plain rfl (by have hS2152 := hS2132.ext hX2151; have hB2153 := hB2131.trans (Ext.stp hX2151 hS2132.base); exact is_ext (g_move (v := .slice a219 n220 c221) rfl)), ?_⟩
                    refine ⟨.int .i64 v2032, fun w2154 hX2155 => od_plain rfl (by have hS2156 := hS2132.ext hX2155; have hB2157 := hB2131.trans (Ext.stp hX2155 hS2132.base); exact is_ext (g_move (v := .int .i64 v2032) rfl)), ?_⟩
                    obtain ⟨hg2162, hm⟩ := hm
                    refine ⟨.pointer (some ((adr a219).add ((Int.toNat v2032) * El.m (Hd (Hd Int))))), fun w2158 hX2159 => od_plain rfl (by have hS2160 := hS2132.ext hX2159; have hB2161 := hB2131.trans (Ext.stp hX2159 hS2132.base); exact is_ext (q_index (i := v2032) SL75 rfl rfl (Tt.o (oT.t3 hS2160.g0 hS2160.g1 hS2160.g2 he223)) (Tt.g (oT.t3 hS2160.g0 hS2160.g1 hS2160.g2 he223) hg2162))), ?_⟩
                    refine ⟨.slice (((y222)[(Int.toNat v2032)]!).1) (((y222)[(Int.toNat v2032)]!).2.2.length) (((y222)[(Int.toNat v2032)]!).2.1), fun w2163 hX2164 => od_plain rfl (by have hS2165 := hS2132.ext hX2164; have hB2166 := hB2131.trans (Ext.stp hX2164 hS2132.base); exact is_ext (q_load (i := v2032) (v := .slice (((y222)[(Int.toNat v2032)]!).1) (((y222)[(Int.toNat v2032)]!).2.2.length) (((y222)[(Int.toNat v2032)]!).2.1)) ON37 (Tt.o (oT.t3 hS2165.g0 hS2165.g1 hS2165.g2 he223)) (Tt.g (oT.t3 hS2165.g0 hS2165.g1 hS2165.g2 he223) hg2162) rfl rfl)), ?_⟩
                    refine ⟨.int .i64 v2081, fun w2167 hX2168 => od_plain rfl (by have hS2169 := hS2132.ext hX2168; have hB2170 := hB2131.trans (Ext.stp hX2168 hS2132.base); exact is_ext (g_move (v := .int .i64 v2081) rfl)), ?_⟩
                    obtain ⟨hg2175, hm⟩ := hm
                    refine ⟨.pointer (some ((adr (((y222)[(Int.toNat v2032)]!).1)).add ((Int.toNat v2081) * El.m (Hd Int)))), fun w2171 hX2172 => od_plain rfl (by have hS2173 := hS2132.ext hX2172; have hB2174 := hB2131.trans (Ext.stp hX2172 hS2132.base); exact is_ext (q_index (i := v2081) SL37 rfl rfl (Tv.o (Tt.row (oT.t3 hS2173.g0 hS2173.g1 hS2173.g2 he223) hg2162)) (Tv.g (Tt.row (oT.t3 hS2173.g0 hS2173.g1 hS2173.g2 he223) hg2162) hg2175))), ?_⟩
                    refine ⟨.slice ((((y222)[(Int.toNat v2032)]!.2.2)[(Int.toNat v2081)]!).1) ((((y222)[(Int.toNat v2032)]!.2.2)[(Int.toNat v2081)]!).2.2.length) ((((y222)[(Int.toNat v2032)]!.2.2)[(Int.toNat v2081)]!).2.1), fun w2176 hX2177 => od_plain rfl (by have hS2178 := hS2132.ext hX2177; have hB2179 := hB2131.trans (Ext.stp hX2177 hS2132.base); exact is_ext (q_load (i := v2081) (v := .slice ((((y222)[(Int.toNat v2032)]!.2.2)[(Int.toNat v2081)]!).1) ((((y222)[(Int.toNat v2032)]!.2.2)[(Int.toNat v2081)]!).2.2.length) ((((y222)[(Int.toNat v2032)]!.2.2)[(Int.toNat v2081)]!).2.1)) ON23 (Tv.o (Tt.row (oT.t3 hS2178.g0 hS2178.g1 hS2178.g2 he223) hg2162)) (Tv.g (Tt.row (oT.t3 hS2178.g0 hS2178.g1 hS2178.g2 he223) hg2162) hg2175) rfl rfl)), ?_⟩
                    refine ⟨.slice a1 n1 c1, fun w2180 hX2181 => od_plain rfl (by have hS2182 := hS2132.ext hX2181; have hB2183 := hB2131.trans (Ext.stp hX2181 hS2132.base); exact is_ext (g_move (v := .slice a1 n1 c1) rfl)), ?_⟩
                    refine ⟨.int .i64 v2032, fun w2184 hX2185 => od_plain rfl (by have hS2186 := hS2132.ext hX2185; have hB2187 := hB2131.trans (Ext.stp hX2185 hS2132.base); exact is_ext (g_move (v := .int .i64 v2032) rfl)), ?_⟩
                    obtain ⟨hg2192, hm⟩ := hm
                    refine ⟨.int .i64 (v2032 + 1), fun w2188 hX2189 => od_plain rfl (by have hS2190 := hS2132.ext hX2189; have hB2191 := hB2131.trans (Ext.stp hX2189 hS2132.base); exact is_ext (g_add (a := v2032) (b := 1) rfl rfl hg2192)), ?_⟩
                    obtain ⟨hg2197, hm⟩ := hm
                    refine ⟨.pointer (some ((adr a1).add ((Int.toNat (v2032 + 1)) * El.m (Hd Int)))), fun w2193 hX2194 => od_plain rfl (by have hS2195 := hS2132.ext hX2194; have hB2196 := hB2131.trans (Ext.stp hX2194 hS2132.base); exact is_ext (q_index (i := (v2032 + 1)) SL37 rfl rfl (Tv.o (hp1.bel hB2196)) (Tv.g (hp1.bel hB2196) hg2197))), ?_⟩
                    refine ⟨.slice ((y1[(Int.toNat (v2032 + 1))]!).1) ((y1[(Int.toNat (v2032 + 1))]!).2.2.length) ((y1[(Int.toNat (v2032 + 1))]!).2.1), fun w2198 hX2199 => od_plain rfl (by have hS2200 := hS2132.ext hX2199; have hB2201 := hB2131.trans (Ext.stp hX2199 hS2132.base); exact is_ext (q_load (i := (v2032 + 1)) (v := .slice ((y1[(Int.toNat (v2032 + 1))]!).1) ((y1[(Int.toNat (v2032 + 1))]!).2.2.length) ((y1[(Int.toNat (v2032 + 1))]!).2.1)) ON23 (Tv.o (hp1.bel hB2201)) (Tv.g (hp1.bel hB2201) hg2197) rfl rfl)), ?_⟩
                    refine ⟨.slice a219 n220 c221, fun w2202 hX2203 => od_plain rfl (by have hS2204 := hS2132.ext hX2203; have hB2205 := hB2131.trans (Ext.stp hX2203 hS2132.base); exact is_ext (g_move (v := .slice a219 n220 c221) rfl)), ?_⟩
                    refine ⟨.int .i64 v2032, fun w2206 hX2207 => od_plain rfl (by have hS2208 := hS2132.ext hX2207; have hB2209 := hB2131.trans (Ext.stp hX2207 hS2132.base); exact is_ext (g_move (v := .int .i64 v2032) rfl)), ?_⟩
                    obtain ⟨hg2214, hm⟩ := hm
                    refine ⟨.int .i64 (v2032 + 1), fun w2210 hX2211 => od_plain rfl (by have hS2212 := hS2132.ext hX2211; have hB2213 := hB2131.trans (Ext.stp hX2211 hS2132.base); exact is_ext (g_add (a := v2032) (b := 1) rfl rfl hg2214)), ?_⟩
                    obtain ⟨hg2219, hm⟩ := hm
                    refine ⟨.pointer (some ((adr a219).add ((Int.toNat (v2032 + 1)) * El.m (Hd (Hd Int))))), fun w2215 hX2216 => od_plain rfl (by have hS2217 := hS2132.ext hX2216; have hB2218 := hB2131.trans (Ext.stp hX2216 hS2132.base); exact is_ext (q_index (i := (v2032 + 1)) SL75 rfl rfl (Tt.o (oT.t3 hS2217.g0 hS2217.g1 hS2217.g2 he223)) (Tt.g (oT.t3 hS2217.g0 hS2217.g1 hS2217.g2 he223) hg2219))), ?_⟩
                    refine ⟨.slice (((y222)[(Int.toNat (v2032 + 1))]!).1) (((y222)[(Int.toNat (v2032 + 1))]!).2.2.length) (((y222)[(Int.toNat (v2032 + 1))]!).2.1), fun w2220 hX2221 => od_plain rfl (by have hS2222 := hS2132.ext hX2221; have hB2223 := hB2131.trans (Ext.stp hX2221 hS2132.base); exact is_ext (q_load (i := (v2032 + 1)) (v := .slice (((y222)[(Int.toNat (v2032 + 1))]!).1) (((y222)[(Int.toNat (v2032 + 1))]!).2.2.length) (((y222)[(Int.toNat (v2032 + 1))]!).2.1)) ON37 (Tt.o (oT.t3 hS2222.g0 hS2222.g1 hS2222.g2 he223)) (Tt.g (oT.t3 hS2222.g0 hS2222.g1 hS2222.g2 he223) hg2219) rfl rfl)), ?_⟩
                    refine ⟨.int .i64 v2114, fun w2224 hX2225 => od_plain rfl (by have hS2226 := hS2132.ext hX2225; have hB2227 := hB2131.trans (Ext.stp hX2225 hS2132.base); exact is_ext (g_move (v := .int .i64 v2114) rfl)), ?_⟩
                    obtain ⟨hg2232, hm⟩ := hm
                    refine ⟨.pointer (some ((adr (((y222)[(Int.toNat (v2032 + 1))]!).1)).add ((Int.toNat v2114) * El.m (Hd Int)))), fun w2228 hX2229 => od_plain rfl (by have hS2230 := hS2132.ext hX2229; have hB2231 := hB2131.trans (Ext.stp hX2229 hS2132.base); exact is_ext (q_index (i := v2114) SL37 rfl rfl (Tv.o (Tt.row (oT.t3 hS2230.g0 hS2230.g1 hS2230.g2 he223) hg2219)) (Tv.g (Tt.row (oT.t3 hS2230.g0 hS2230.g1 hS2230.g2 he223) hg2219) hg2232))), ?_⟩
                    refine ⟨.slice ((((y222)[(Int.toNat (v2032 + 1))]!.2.2)[(Int.toNat v2114)]!).1) ((((y222)[(Int.toNat (v2032 + 1))]!.2.2)[(Int.toNat v2114)]!).2.2.length) ((((y222)[(Int.toNat (v2032 + 1))]!.2.2)[(Int.toNat v2114)]!).2.1), fun w2233 hX2234 => od_plain rfl (by have hS2235 := hS2132.ext hX2234; have hB2236 := hB2131.trans (Ext.stp hX2234 hS2132.base); exact is_ext (q_load (i := v2114) (v := .slice ((((y222)[(Int.toNat (v2032 + 1))]!.2.2)[(Int.toNat v2114)]!).1) ((((y222)[(Int.toNat (v2032 + 1))]!.2.2)[(Int.toNat v2114)]!).2.2.length) ((((y222)[(Int.toNat (v2032 + 1))]!.2.2)[(Int.toNat v2114)]!).2.1)) ON23 (Tv.o (Tt.row (oT.t3 hS2235.g0 hS2235.g1 hS2235.g2 he223) hg2219)) (Tv.g (Tt.row (oT.t3 hS2235.g0 hS2235.g1 hS2235.g2 he223) hg2219) hg2232) rfl rfl)), ?_⟩
                    obtain ⟨r2241, hk2242, hm⟩ := hm
                    refine ⟨.int .i64 r2241, fun w2237 hX2238 => od_plain rfl (by have hS2239 := hS2132.ext hX2238; have hB2240 := hB2131.trans (Ext.stp hX2238 hS2132.base); exact (g_call (vs := #[.slice ((y1[(Int.toNat v2032)]!).1) ((y1[(Int.toNat v2032)]!).2.2.length) ((y1[(Int.toNat v2032)]!).2.1), .slice ((((y222)[(Int.toNat v2032)]!.2.2)[(Int.toNat v2081)]!).1) ((((y222)[(Int.toNat v2032)]!.2.2)[(Int.toNat v2081)]!).2.2.length) ((((y222)[(Int.toNat v2032)]!.2.2)[(Int.toNat v2081)]!).2.1), .slice ((y1[(Int.toNat (v2032 + 1))]!).1) ((y1[(Int.toNat (v2032 + 1))]!).2.2.length) ((y1[(Int.toNat (v2032 + 1))]!).2.1), .slice ((((y222)[(Int.toNat (v2032 + 1))]!.2.2)[(Int.toNat v2114)]!).1) ((((y222)[(Int.toNat (v2032 + 1))]!.2.2)[(Int.toNat v2114)]!).2.2.length) ((((y222)[(Int.toNat (v2032 + 1))]!.2.2)[(Int.toNat v2114)]!).2.1)]) CF78 (args4 rfl rfl rfl rfl) ((m_impl_changes_fn ((Tv.row (hp1.bel hB2240) hg2145).up hS2239) (Tv.row (Tt.row (oT.t3 hS2239.g0 hS2239.g1 hS2239.g2 he223) hg2162) hg2175) ((Tv.row (hp1.bel hB2240) hg2197).up hS2239) (Tv.row (Tt.row (oT.t3 hS2239.g0 hS2239.g1 hS2239.g2 he223) hg2219) hg2232) hk2242).mono fun _ _ ⟨_, h1, h2, h3⟩ => ⟨by rw [h2, h1], h3⟩))), ?_⟩
                    refine ⟨.slice a337 (Int.toNat (p1.length : Int)) (Int.toNat (p1.length : Int)), fun w2243 hX2244 => od_plain rfl (by have hS2245 := hS2132.ext hX2244; have hB2246 := hB2131.trans (Ext.stp hX2244 hS2132.base); exact is_ext (g_move (v := .slice a337 (Int.toNat (p1.length : Int)) (Int.toNat (p1.length : Int))) rfl)), ?_⟩
                    refine ⟨.int .i64 v2032, fun w2247 hX2248 => od_plain rfl (by have hS2249 := hS2132.ext hX2248; have hB2250 := hB2131.trans (Ext.stp hX2248 hS2132.base); exact is_ext (g_move (v := .int .i64 v2032) rfl)), ?_⟩
                    obtain ⟨hg2255, hm⟩ := hm
                    refine ⟨.int .i64 (v2032 + 1), fun w2251 hX2252 => od_plain rfl (by have hS2253 := hS2132.ext hX2252; have hB2254 := hB2131.trans (Ext.stp hX2252 hS2132.base); exact is_ext (g_add (a := v2032) (b := 1) rfl rfl hg2255)), ?_⟩
                    obtain ⟨hg2260, hm⟩ := hm
                    refine ⟨.pointer (some ((adr a337).add ((Int.toNat (v2032 + 1)) * El.m (Hd Int)))), fun w2256 hX2257 => od_plain rfl (by have hS2258 := hS2132.ext hX2257; have hB2259 := hB2131.trans (Ext.stp hX2257 hS2132.base); exact is_ext (q_index (i := (v2032 + 1)) SL37 rfl rfl (Tv.o (oT.vw hS2258.g3 hS2258.g4 he2080)) (Tv.g (oT.vw hS2258.g3 hS2258.g4 he2080) hg2260))), ?_⟩
                    refine ⟨.slice ((y2079[(Int.toNat (v2032 + 1))]!).1) ((y2079[(Int.toNat (v2032 + 1))]!).2.2.length) ((y2079[(Int.toNat (v2032 + 1))]!).2.1), fun w2261 hX2262 => od_plain rfl (by have hS2263 := hS2132.ext hX2262; have hB2264 := hB2131.trans (Ext.stp hX2262 hS2132.base); exact is_ext (q_load (i := (v2032 + 1)) (v := .slice ((y2079[(Int.toNat (v2032 + 1))]!).1) ((y2079[(Int.toNat (v2032 + 1))]!).2.2.length) ((y2079[(Int.toNat (v2032 + 1))]!).2.1)) ON23 (Tv.o (oT.vw hS2263.g3 hS2263.g4 he2080)) (Tv.g (oT.vw hS2263.g3 hS2263.g4 he2080) hg2260) rfl rfl)), ?_⟩
                    refine ⟨.int .i64 v2114, fun w2265 hX2266 => od_plain rfl (by have hS2267 := hS2132.ext hX2266; have hB2268 := hB2131.trans (Ext.stp hX2266 hS2132.base); exact is_ext (g_move (v := .int .i64 v2114) rfl)), ?_⟩
                    obtain ⟨hg2273, hm⟩ := hm
                    refine ⟨.pointer (some ((adr ((y2079[(Int.toNat (v2032 + 1))]!).1)).add ((Int.toNat v2114) * El.m Int))), fun w2269 hX2270 => od_plain rfl (by have hS2271 := hS2132.ext hX2270; have hB2272 := hB2131.trans (Ext.stp hX2270 hS2132.base); exact is_ext (q_index (i := v2114) SL23 rfl rfl (Tv.row (oT.vw hS2271.g3 hS2271.g4 he2080) hg2260) hg2273)), ?_⟩
                    refine ⟨.int .i64 ((x2078[(Int.toNat (v2032 + 1))]!)[(Int.toNat v2114)]!), fun w2274 hX2275 => od_plain rfl (by have hS2276 := hS2132.ext hX2275; have hB2277 := hB2131.trans (Ext.stp hX2275 hS2132.base); exact is_ext (q_load (i := v2114) (v := .int .i64 ((x2078[(Int.toNat (v2032 + 1))]!)[(Int.toNat v2114)]!)) ON3 (Tv.row (oT.vw hS2276.g3 hS2276.g4 he2080) hg2260) hg2273 rfl rfl)), ?_⟩
                    obtain ⟨hg2282, hm⟩ := hm
                    refine ⟨.int .i64 (r2241 + (x2078[(Int.toNat (v2032 + 1))]!)[(Int.toNat v2114)]!), fun w2278 hX2279 => od_plain rfl (by have hS2280 := hS2132.ext hX2279; have hB2281 := hB2131.trans (Ext.stp hX2279 hS2132.base); exact is_ext (g_add (a := r2241) (b := (x2078[(Int.toNat (v2032 + 1))]!)[(Int.toNat v2114)]!) rfl rfl hg2282)), ?_⟩
                    refine ⟨.int .i64 (r2241 + (x2078[(Int.toNat (v2032 + 1))]!)[(Int.toNat v2114)]!), fun w2283 hX2284 => od_plain rfl (by have hS2285 := hS2132.ext hX2284; have hB2286 := hB2131.trans (Ext.stp hX2284 hS2132.base); exact is_ext (g_assign (v := .int .i64 (r2241 + (x2078[(Int.toNat (v2032 + 1))]!)[(Int.toNat v2114)]!)) rfl)), ?_⟩
                    intro w2287 hX2288
                    have hB2289 := hB2131.trans (Ext.stp hX2288 hS2132.base)
                    have hS2290 := hS2132.ext hX2288
                    refine hK2128 _ _ ?_
                    refine w_seq fun K2291 hK2291 => ?_
                    refine w_region ?_
                    refine wl_val (g_move (v := .int .i64 v2113) rfl) rfl ?_
                    refine wl_val (g_lss (a := v2113) (b := 0) rfl rfl) rfl ?_
                    refine wl_val (g_move (v := .bool (decide (v2113 < 0))) rfl) rfl ?_
                    refine wl_guard (c := (decide (v2113 < 0)) = false) (val := .int .i64 (r2241 + (x2078[(Int.toNat (v2032 + 1))]!)[(Int.toNat v2114)]!)) (b := ((decide (v2113 < 0)) == false)) (gv_some rfl rfl rfl) beq_iff_eq (fun hc2292 => ?_) ?_
                    · have hcq7 : ¬ (v2113 < 0) := (i_neg decide_eq_true_iff hc2292)
                      exact g_move (v := .int .i64 (r2241 + (x2078[(Int.toNat (v2032 + 1))]!)[(Int.toNat v2114)]!)) rfl
                    refine wl_guard (c := (decide (v2113 < 0)) = false) (val := .int .i64 v2113) (b := ((decide (v2113 < 0)) == false)) (gv_some rfl rfl rfl) beq_iff_eq (fun hc2293 => ?_) ?_
                    · have hcq7 : ¬ (v2113 < 0) := (i_neg decide_eq_true_iff hc2293)
                      exact g_move (v := .int .i64 v2113) rfl
                    refine wl_guard (c := (decide (v2113 < 0)) = false) (val := .bool (decide ((r2241 + (x2078[(Int.toNat (v2032 + 1))]!)[(Int.toNat v2114)]!) < v2113))) (b := ((decide (v2113 < 0)) == false)) (gv_some rfl rfl rfl) beq_iff_eq (fun hc2294 => ?_) ?_
                    · have hcq7 : ¬ (v2113 < 0) := (i_neg decide_eq_true_iff hc2294)
                      exact g_lss (a := (r2241 + (x2078[(Int.toNat (v2032 + 1))]!)[(Int.toNat v2114)]!)) (b := v2113) (if_pos hc2294) (if_pos hc2294)
                    refine wl_val (g_pick_or (b := (decide (v2113 < 0))) (q := (decide ((r2241 + (x2078[(Int.toNat (v2032 + 1))]!)[(Int.toNat v2114)]!) < v2113))) rfl rfl) rfl ?_
                    refine wl_nil ?_
                    refine hK2291 _ _ ?_
                    refine w_condI (p := ((v2113 < 0) ∨ ((r2241 + (x2078[(Int.toNat (v2032 + 1))]!)[(Int.toNat v2114)]!) < v2113))) (b := ((decide (v2113 < 0)) || (decide ((r2241 + (x2078[(Int.toNat (v2032 + 1))]!)[(Int.toNat v2114)]!) < v2113)))) rfl (i_or decide_eq_true_iff decide_eq_true_iff) (fun h2295 => ?_) (fun h2295 => ?_)
                    · replace hm := hm.1 h2295
                      refine w_region ?_
                      refine wl_val (g_move (v := .int .i64 (r2241 + (x2078[(Int.toNat (v2032 + 1))]!)[(Int.toNat v2114)]!)) rfl) rfl ?_
                      refine wl_val (g_assign (v := .int .i64 (r2241 + (x2078[(Int.toNat (v2032 + 1))]!)[(Int.toNat v2114)]!)) rfl) rfl ?_
                      refine wl_nil ?_
                      refine hK2126 _ _ ?_
                      refine w_region ?_
                      obtain ⟨hg2296, hm⟩ := hm
                      refine wl_val (g_add (a := v2114) (b := 1) rfl rfl hg2296) rfl ?_
                      refine wl_val (g_move (v := .int .i64 (v2114 + 1)) rfl) rfl ?_
                      refine wl_nil ?_
                      exact ⟨((r2241 + (x2078[(Int.toNat (v2032 + 1))]!)[(Int.toNat v2114)]!), (v2114 + 1)), hm.2, ⟨rfl, rfl, rfl, rfl, rfl, rfl, rfl, rfl, rfl, rfl, trivial⟩, ⟨hm.1, hB2289, hS2290⟩⟩
                    · replace hm := hm.2 h2295
                      refine w_skip ?_
                      refine hK2126 _ _ ?_
                      refine w_region ?_
                      obtain ⟨hg2297, hm⟩ := hm
                      refine wl_val (g_add (a := v2114) (b := 1) rfl rfl hg2297) rfl ?_
                      refine wl_val (g_move (v := .int .i64 (v2114 + 1)) rfl) rfl ?_
                      refine wl_nil ?_
                      exact ⟨(v2113, (v2114 + 1)), hm.2, ⟨rfl, rfl, rfl, rfl, rfl, rfl, rfl, rfl, rfl, rfl, trivial⟩, ⟨hm.1, hB2289, hS2290⟩⟩
                  · replace hm := hm.2 h2125
                    refine w_exit ?_
                    exact ⟨(v2113), ⟨rfl, rfl, rfl, rfl, rfl, rfl, rfl, rfl, trivial⟩, ⟨hm, hB2120, hS2121⟩⟩
                · rintro v2108 b_ w2298 ⟨hm, hB2299, hS2300⟩
                  show Wp _ _ _ _ (upds b_ [(1, .slice a1 n1 c1), (7, .slice a219 n220 c221), (11, .slice a337 (Int.toNat (p1.length : Int)) (Int.toNat (p1.length : Int))), (12, .int .i64 v2032), (13, .int .i64 v2081), (14, .int .i64 v2108), (58, .int .i64 ((x218[(Int.toNat v2032)]!).length : Int)), (59, .int .i64 v2081)]) w2298
                  refine w_region ?_
                  refine wl_val (g_move (v := .slice a337 (Int.toNat (p1.length : Int)) (Int.toNat (p1.length : Int))) rfl) rfl ?_
                  refine wl_val (g_move (v := .int .i64 v2032) rfl) rfl ?_
                  obtain ⟨hg2301, hm⟩ := hm
                  refine wl_val (q_index (i := v2032) SL37 rfl rfl (Tv.o (oT.vw hS2300.g3 hS2300.g4 he2080)) (Tv.g (oT.vw hS2300.g3 hS2300.g4 he2080) hg2301)) rfl ?_
                  refine wl_val (q_load (i := v2032) (v := .slice ((y2079[(Int.toNat v2032)]!).1) ((y2079[(Int.toNat v2032)]!).2.2.length) ((y2079[(Int.toNat v2032)]!).2.1)) ON23 (Tv.o (oT.vw hS2300.g3 hS2300.g4 he2080)) (Tv.g (oT.vw hS2300.g3 hS2300.g4 he2080) hg2301) rfl rfl) rfl ?_
                  refine wl_val (g_move (v := .int .i64 v2081) rfl) rfl ?_
                  refine wl_val (g_move (v := .int .i64 v2108) rfl) rfl ?_
                  obtain ⟨hg2302, hm⟩ := hm
                  refine wl_val (q_index (i := v2081) SL23 rfl rfl (Tv.row (oT.vw hS2300.g3 hS2300.g4 he2080) hg2301) hg2302) rfl ?_
                  have hS2306 := hS2300.f4
                  have hS2307 := hS2306.f4
                  refine wl_step rfl (q_row (i := v2032) (k := v2081) (v := (v2108 : Int)) hS2307 he2080 hg2301 hg2302 ON3.sz rfl rfl rfl) ?_
                  rintro _ w2303 ⟨rfl, y2308, he2309, hS2304, hb2305⟩
                  have hB2310 := hB2299.trans hb2305
                  refine wl_nil ?_
                  have hS2311 := hS2304.f1
                  have hS2312 := hS2311.f1
                  have hS2313 := hS2312.f4
                  have hS2314 := hS2313.f4
                  have hS2315 := hS2314.f4
                  exact ⟨((x2078.set (Int.toNat v2032) (x2078[(Int.toNat v2032)]!.set (Int.toNat v2081) v2108)), y2308), ⟨rfl, rfl, rfl, rfl, rfl, rfl, trivial⟩, ⟨hm, he2309, hB2310, hS2315⟩⟩
            · rintro ⟨x2098, y2099⟩ b_ w2316 ⟨hm, he2100, hB2317, hS2318⟩
              show Wp _ _ _ _ (upds b_ [(1, .slice a1 n1 c1), (7, .slice a219 n220 c221), (11, .slice a337 (Int.toNat (p1.length : Int)) (Int.toNat (p1.length : Int))), (12, .int .i64 v2032), (58, .int .i64 ((x218[(Int.toNat v2032)]!).length : Int)), (59, .int .i64 v2081)]) w2316
              refine w_region ?_
              obtain ⟨hg2319, hm⟩ := hm
              refine wl_val (g_add (a := v2081) (b := 1) rfl rfl hg2319) rfl ?_
              refine wl_val (g_move (v := .int .i64 (v2081 + 1)) rfl) rfl ?_
              refine wl_nil ?_
              exact ⟨(x2098, y2099, (v2081 + 1)), hm.2, ⟨rfl, rfl, rfl, rfl, rfl, rfl, trivial⟩, ⟨hm.1, he2100, hB2317, hS2318⟩⟩
          · replace hm := hm.2 h2097
            refine w_exit ?_
            exact ⟨(x2078, y2079), ⟨rfl, rfl, rfl, rfl, trivial⟩, ⟨hm, he2080, hB2092, hS2093⟩⟩
        · rintro ⟨x2048, y2049⟩ b_ w2320 ⟨hm, he2050, hB2321, hS2322⟩
          show Wp _ _ _ _ (upds b_ [(1, .slice a1 n1 c1), (7, .slice a219 n220 c221), (11, .slice a337 (Int.toNat (p1.length : Int)) (Int.toNat (p1.length : Int))), (12, .int .i64 v2032)]) w2320
          refine w_region ?_
          refine wl_val (g_move (v := .int .i64 v2032) rfl) rfl ?_
          obtain ⟨hg2323, hm⟩ := hm
          refine wl_val (g_sub (a := v2032) (b := 1) rfl rfl hg2323) rfl ?_
          refine wl_val (g_assign (v := .int .i64 (v2032 - 1)) rfl) rfl ?_
          refine wl_nil ?_
          exact ⟨(x2048, y2049, (v2032 - 1)), hm.2, ⟨rfl, rfl, rfl, rfl, trivial⟩, ⟨hm.1, he2050, hB2321, hS2322⟩⟩
      · replace hm := hm.2 h2047
        refine w_exit ?_
        exact ⟨(x2029, y2030), ⟨rfl, rfl, trivial⟩, ⟨hm, he2031, hB2042, hS2043⟩⟩
    · rintro ⟨x2023, y2024⟩ b_ w2324 ⟨hm, he2025, hB2325, hS2326⟩
      show Wp _ _ _ _ (upds b_ [(7, .slice a219 n220 c221), (11, .slice a337 (Int.toNat (p1.length : Int)) (Int.toNat (p1.length : Int)))]) w2324
      refine w_seq fun K2327 hK2327 => ?_
      refine w_region ?_
      refine wl_val (g_move (v := .slice a219 n220 c221) rfl) rfl ?_
      refine wl_val (g_move (v := .slice a337 (Int.toNat (p1.length : Int)) (Int.toNat (p1.length : Int))) rfl) rfl ?_
      refine wl_val (g_assign (v := .slice a219 n220 c221) rfl) rfl ?_
      refine wl_val (g_assign (v := .slice a337 (Int.toNat (p1.length : Int)) (Int.toNat (p1.length : Int))) rfl) rfl ?_
      refine wl_val (g_assign (v := .bool true) rfl) rfl ?_
      refine wl_nil ?_
      refine hK2327 _ _ ?_
      refine w_ret ?_
      repeat first | with_reducible refine q_then ?_ | with_reducible refine q_block ?_
      exact ret3 rfl (by decide) (by decide) (by decide) ⟨_, _, _, _, _, _, _, _, _, _, _, hm, he223, he2025, rfl, toExt hB2325, hS2326⟩

theorem m_impl_BestNight_fn {w : World} {a0 : Option Addr} {n0 c0 : Nat} {y0 : List PlayerD} {p0 : List PlayerC} {a1 : Option Addr} {n1 c1 : Nat} {y1 : List (Hd Int)} {p1 : List (List Int)} {Q : (List (List Int)) → Bool → Prop} (hp0 : Tv w.heap.size w a0 n0 c0 y0 p0) (hp1 : Tv w.heap.size w a1 n1 c1 y1 p1) (hm : m_impl_BestNight p0 p1 Q) :
    Fn Try.prog 36 #[.slice a0 n0 c0, .slice a1 n1 c1] w (fun v w' => ∃ (r0 : List (List Int)) (a0 : Option Addr) (n0 c0 : Nat) (y0 : List (Hd Int)) (r1 : Bool), Q r0 r1 ∧ ers y0 = r0 ∧ v = .tuple #[.slice a0 n0 c0, .bool r1] ∧ Ext w w' ∧ Sep w' w.heap.size [oS 23 a0 n0 c0 y0, oT 3 y0]) := by
  unfold m_impl_BestNight at hm
  have hB0 := Below.refl w.heap.size w
  have hS0 : Sep w w.heap.size [] := Sep.nil (Nat.le_refl _)
  refine fn_of_wp Try.func36 rfl (by kernel_rfl) (Nat.le_of_ble_eq_true rfl) ?_
  refine w_seq fun K1 hK1 => ?_
  refine w_region ?_
  refine wl_val (g_assign (v := .slice none 0 0) rfl) rfl ?_
  refine wl_val (g_assign (v := .bool false) rfl) rfl ?_
  refine wl_nil ?_
  refine hK1 _ _ ?_
  refine w_seq fun K2 hK2 => ?_
  refine w_seq fun K3 hK3 => ?_
  refine w_region ?_
  refine wl_val (g_move (v := .slice a0 n0 c0) rfl) rfl ?_
  refine wl_val (g_move (v := .slice a1 n1 c1) rfl) rfl ?_
  refine wl_step rfl (g_call (vs := #[.slice a0 n0 c0, .slice a1 n1 c1]) CF54 (args2 rfl rfl) (m_impl_NightOk_fn ((hp0.bel hB0).up hS0) ((hp1.bel hB0).up hS0) hm)) ?_
  rintro _ w4 ⟨r7, hm, rfl, hE5⟩
  have hB8 := hB0.trans (Ext.stp hE5 hS0.base)
  have hS9 := hS0.ext hE5
  refine wl_val (g_not (a := r7) rfl) rfl ?_
  refine wl_nil ?_
  refine hK3 _ _ ?_
  refine w_condI (p := ¬ (r7 = true)) (b := (!r7)) rfl (i_not Iff.rfl) (fun h10 => ?_) (fun h10 => ?_)
  · replace hm := hm.1 h10
    refine w_seq fun K11 hK11 => ?_
    refine w_region ?_
    refine wl_val (g_assign (v := .slice none 0 0) rfl) rfl ?_
    refine wl_val (g_assign (v := .bool false) rfl) rfl ?_
    refine wl_nil ?_
    refine hK11 _ _ ?_
    refine w_ret ?_
    have hS12 := hS9.nilS (α := (Hd Int)) (E := 23)
    have hS14 := hS12.noRows (δ := Hd Int) (E := 3)
    have he16 : ers ([] : List (Hd Int)) = ([] : List (List Int)) := rfl
    have hS18 := hS14.f1
    repeat first | with_reducible refine q_then ?_ | with_reducible refine q_block ?_
    exact ret2 rfl (by decide) (by decide) ⟨_, _, _, _, _, _, hm, he16, rfl, toExt hB8, hS18⟩
  · replace hm := hm.2 h10
    refine w_skip ?_
    refine hK2 _ _ ?_
    refine w_seq fun K19 hK19 => ?_
    refine w_region ?_
    refine wl_val (g_move (v := .slice a0 n0 c0) rfl) rfl ?_
    refine wl_val (g_move (v := .slice a1 n1 c1) rfl) rfl ?_
    refine wl_step rfl (g_call (vs := #[.slice a0 n0 c0, .slice a1 n1 c1]) CF77 (args2 rfl rfl) (m_impl_nightTable_fn ((hp0.bel hB8).up hS9) ((hp1.bel hB8).up hS9) hm)) ?_
    rintro _ w20 ⟨r23, a24, n25, c26, y27, r33, a34, n35, c36, y37, r42, hm, he28, he38, rfl, hE21, hN22⟩
    have hS43 := hS9.call5 hE21 hN22
    have hB44 := hB8.trans (Ext.stp hE21 hS9.base)
    refine wl_val (g_move (v := .tuple #[.slice a24 n25 c26, .slice a34 n35 c36, .bool r42]) rfl) rfl ?_
    refine wl_val (g_extract (vs := #[.slice a24 n25 c26, .slice a34 n35 c36, .bool r42]) rfl rfl) rfl ?_
    refine wl_val (g_extract (vs := #[.slice a24 n25 c26, .slice a34 n35 c36, .bool r42]) rfl rfl) rfl ?_
    refine wl_val (g_extract (vs := #[.slice a24 n25 c26, .slice a34 n35 c36, .bool r42]) rfl rfl) rfl ?_
    refine wl_val (g_assign (v := .slice a24 n25 c26) rfl) rfl ?_
    refine wl_val (g_assign (v := .slice a34 n35 c36) rfl) rfl ?_
    refine wl_val (g_assign (v := .bool r42) rfl) rfl ?_
    refine wl_nil ?_
    refine hK19 _ _ ?_
    refine w_seq fun K45 hK45 => ?_
    refine w_seq fun K46 hK46 => ?_
    refine w_region ?_
    refine wl_val (g_move (v := .bool r42) rfl) rfl ?_
    refine wl_val (g_not (a := r42) rfl) rfl ?_
    refine wl_nil ?_
    refine hK46 _ _ ?_
    refine w_condI (p := ¬ (r42 = true)) (b := (!r42)) rfl (i_not Iff.rfl) (fun h47 => ?_) (fun h47 => ?_)
    · replace hm := hm.1 h47
      refine w_seq fun K48 hK48 => ?_
      refine w_region ?_
      refine wl_val (g_assign (v := .slice none 0 0) rfl) rfl ?_
      refine wl_val (g_assign (v := .bool false) rfl) rfl ?_
      refine wl_nil ?_
      refine hK48 _ _ ?_
      refine w_ret ?_
      have hS49 := hS43.nilS (α := (Hd Int)) (E := 23)
      have hS51 := hS49.noRows (δ := Hd Int) (E := 3)
      have he53 : ers ([] : List (Hd Int)) = ([] : List (List Int)) := rfl
      have hS55 := hS51.f2
      have hS56 := hS55.tail
      have hS57 := hS56.f2
      have hS58 := hS57.tail
      have hS59 := hS58.f2
      have hS60 := hS59.tail
      have hS61 := hS60.f2
      have hS62 := hS61.tail
      have hS63 := hS62.f2
      have hS64 := hS63.tail
      have hS65 := hS64.f1
      repeat first | with_reducible refine q_then ?_ | with_reducible refine q_block ?_
      exact ret2 rfl (by decide) (by decide) ⟨_, _, _, _, _, _, hm, he53, rfl, toExt hB44, hS65⟩
    · replace hm := hm.2 h47
      refine w_skip ?_
      refine hK45 _ _ ?_
      refine w_seq fun K66 hK66 => ?_
      refine w_region ?_
      refine wl_step rfl (q_lit0 (α := (Hd Int)) rfl SL37 hS43) ?_
      rintro _ w67 ⟨a68, rfl, hS70, hE69⟩
      have hB72 := hB44.trans (Ext.stp hE69 hS43.base)
      have hS73 := hS70.noRows (δ := Hd Int) (E := 3)
      have he75 : ers ([] : List (Hd Int)) = ([] : List (List Int)) := rfl
      refine wl_val (g_assign (v := .slice a68 0 0) rfl) rfl ?_
      refine wl_nil ?_
      refine hK66 _ _ ?_
      refine w_cut (σ := List (List Int) × Option Addr × Nat × Nat × List (Hd Int)) (fun ⟨x1320, a1321, n1322, c1323, y1324⟩ => [(9, .slice a1321 n1322 c1323)]) (fun ⟨x1320, a1321, n1322, c1323, y1324⟩ w' => m_impl_BestNight_K3 Q x1320 ∧ ers y1324 = x1320 ∧ Below w.heap.size w w' ∧ Sep w' w.heap.size [oS 23 a1321 n1322 c1323 (y1324 : List (Hd Int)), oT 3 (y1324 : List (Hd Int))]) ?_ ?_
      · refine w_seq fun K1327 hK1327 => ?_
        refine w_region ?_
        refine wl_val (g_move (v := .slice a1 n1 c1) rfl) rfl ?_
        refine wl_val (q_len SL37 rfl (Tv.len (hp1.bel hB72))) rfl ?_
        refine wl_val (g_move (v := .int .i64 0) rfl) rfl ?_
        refine wl_nil ?_
        refine hK1327 _ _ ?_
        refine w_block ?_
        have hS1335 := hS73.f1
        have hS1336 := hS1335.f6
        have hS1337 := hS1336.f6
        have hS1338 := hS1337.f6
        have hS1339 := hS1338.f6
        have hS1340 := hS1339.f6
        obtain ⟨I1341, μ1342, h01343, hr1344⟩ := hm
        refine w_for (σ := List (List Int) × Option Addr × Nat × Nat × List (Hd Int) × Int) (fun ⟨x1328, a1329, n1330, c1331, y1332, v1334⟩ => [(1, .slice a1 n1 c1), (6, .slice a24 n25 c26), (7, .slice a34 n35 c36), (9, .slice a1329 n1330 c1331), (30, .int .i64 (p1.length : Int)), (31, .int .i64 v1334)]) (fun ⟨x1328, a1329, n1330, c1331, y1332, v1334⟩ w' => I1341 x1328 v1334 ∧ ers y1332 = x1328 ∧ Below w.heap.size w w' ∧ Sep w' w.heap.size [oS 37 a24 n25 c26 (y27 : List (Hd (Hd Int))), oT 23 (y27 : List (Hd (Hd Int))), oT 3 (fl y27 : List (Hd Int)), oS 23 a34 n35 c36 (y37 : List (Hd Int)), oT 3 (y37 : List (Hd Int)), oS 23 a1329 n1330 c1331 (y1332 : List (Hd Int)), oT 3 (y1332 : List (Hd Int))]) (fun ⟨x1328, a1329, n1330, c1331, y1332, v1334⟩ => μ1342 x1328 v1334) ([], a68, 0, 0, [], 0) ⟨rfl, rfl, rfl, rfl, rfl, rfl, trivial⟩ ⟨h01343, he75, hB72, hS1340⟩ ?_
        rintro ⟨x1328, a1329, n1330, c1331, y1332, v1334⟩ b_ w1345 ⟨hi_, he1333, hB1346, hS1347⟩
        show Wp _ _ _ _ (upds b_ [(1, .slice a1 n1 c1), (6, .slice a24 n25 c26), (7, .slice a34 n35 c36), (9, .slice a1329 n1330 c1331), (30, .int .i64 (p1.length : Int)), (31, .int .i64 v1334)]) w1345
        have hm := hr1344 x1328 v1334 hi_
        refine w_seq fun K1349 hK1349 => ?_
        refine w_region ?_
        refine wl_val (g_lss (a := v1334) (b := (p1.length : Int)) rfl rfl) rfl ?_
        refine wl_nil ?_
        refine hK1349 _ _ ?_
        refine w_seq fun K1350 hK1350 => ?_
        refine w_condI (p := v1334 < (p1.length : Int)) (b := (decide (v1334 < (p1.length : Int)))) rfl decide_eq_true_iff (fun h1351 => ?_) (fun h1351 => ?_)
        · replace hm := hm.1 h1351
          refine w_skip ?_
          refine hK1350 _ _ ?_
          refine w_cut (σ := List (List Int) × Option Addr × Nat × Nat × List (Hd Int)) (fun ⟨x1352, a1353, n1354, c1355, y1356⟩ => [(1, .slice a1 n1 c1), (6, .slice a24 n25 c26), (7, .slice a34 n35 c36), (9, .slice a1353 n1354 c1355), (30, .int .i64 (p1.length : Int)), (31, .int .i64 v1334)]) (fun ⟨x1352, a1353, n1354, c1355, y1356⟩ w' => m_impl_BestNight_K2 v1334 (fun x1328' v1334' => I1341 x1328' v1334' ∧ μ1342 x1328' v1334' < μ1342 x1328 v1334) x1352 ∧ ers y1356 = x1352 ∧ Below w.heap.size w w' ∧ Sep w' w.heap.size [oS 37 a24 n25 c26 (y27 : List (Hd (Hd Int))), oT 23 (y27 : List (Hd (Hd Int))), oT 3 (fl y27 : List (Hd Int)), oS 23 a34 n35 c36 (y37 : List (Hd Int)), oT 3 (y37 : List (Hd Int)), oS 23 a1353 n1354 c1355 (y1356 : List (Hd Int)), oT 3 (y1356 : List (Hd Int))]) ?_ ?_
          · refine w_block ?_
            refine w_seq fun K1359 hK1359 => ?_
            refine w_region ?_
            refine wl_val (g_move (v := .int .i64 v1334) rfl) rfl ?_
            refine wl_val (g_assign (v := .int .i64 v1334) rfl) rfl ?_
            refine wl_nil ?_
            refine hK1359 _ _ ?_
            refine w_seq fun K1360 hK1360 => ?_
            refine w_region ?_
            refine wl_val (g_assign (v := .int .i64 (-1)) rfl) rfl ?_
            refine wl_val (g_assign (v := .int .i64 0) rfl) rfl ?_
            refine wl_nil ?_
            refine hK1360 _ _ ?_
            refine w_cut (σ := Int) (fun v1361 => [(1, .slice a1 n1 c1), (6, .slice a24 n25 c26), (7, .slice a34 n35 c36), (9, .slice a1329 n1330 c1331), (10, .int .i64 v1334), (12, .int .i64 v1361), (30, .int .i64 (p1.length : Int)), (31, .int .i64 v1334)]) (fun v1361 w' => m_impl_BestNight_K1 r23 x1328 v1334 (m_impl_BestNight_K2 v1334 (fun x1328' v1334' => I1341 x1328' v1334' ∧ μ1342 x1328' v1334' < μ1342 x1328 v1334)) v1361 ∧ Below w.heap.size w w' ∧ Sep w' w.heap.size [oS 37 a24 n25 c26 (y27 : List (Hd (Hd Int))), oT 23 (y27 : List (Hd (Hd Int))), oT 3 (fl y27 : List (Hd Int)), oS 23 a34 n35 c36 (y37 : List (Hd Int)), oT 3 (y37 : List (Hd Int)), oS 23 a1329 n1330 c1331 (y1332 : List (Hd Int)), oT 3 (y1332 : List (Hd Int))]) ?_ ?_
            · refine w_seq fun K1363 hK1363 => ?_
              refine w_region ?_
              refine wl_val (g_move (v := .slice a24 n25 c26) rfl) rfl ?_
              refine wl_val (g_move (v := .int .i64 v1334) rfl) rfl ?_
              obtain ⟨hg1364, hm⟩ := hm
              refine wl_val (q_index (i := v1334) SL75 rfl rfl (Tt.o (oT.t3 hS1347.g0 hS1347.g1 hS1347.g2 he28)) (Tt.g (oT.t3 hS1347.g0 hS1347.g1 hS1347.g2 he28) hg1364)) rfl ?_
              refine wl_val (q_load (i := v1334) (v := .slice (((y27)[(Int.toNat v1334)]!).1) (((y27)[(Int.toNat v1334)]!).2.2.length) (((y27)[(Int.toNat v1334)]!).2.1)) ON37 (Tt.o (oT.t3 hS1347.g0 hS1347.g1 hS1347.g2 he28)) (Tt.g (oT.t3 hS1347.g0 hS1347.g1 hS1347.g2 he28) hg1364) rfl rfl) rfl ?_
              refine wl_val (q_len SL37 rfl (Tv.len (Tt.row (oT.t3 hS1347.g0 hS1347.g1 hS1347.g2 he28) hg1364))) rfl ?_
              refine wl_val (g_move (v := .int .i64 0) rfl) rfl ?_
              refine wl_nil ?_
              refine hK1363 _ _ ?_
              refine w_block ?_
              obtain ⟨I1368, μ1369, h01370, hr1371⟩ := hm
              refine w_for (σ := Int × Int × Int) (fun ⟨v1365, v1366, v1367⟩ => [(1, .slice a1 n1 c1), (6, .slice a24 n25 c26), (7, .slice a34 n35 c36), (9, .slice a1329 n1330 c1331), (10, .int .i64 v1334), (11, .int .i64 v1365), (12, .int .i64 v1366), (30, .int .i64 (p1.length : Int)), (31, .int .i64 v1334), (38, .int .i64 ((r23[(Int.toNat v1334)]!).length : Int)), (39, .int .i64 v1367)]) (fun ⟨v1365, v1366, v1367⟩ w' => I1368 v1365 v1366 v1367 ∧ Below w.heap.size w w' ∧ Sep w' w.heap.size [oS 37 a24 n25 c26 (y27 : List (Hd (Hd Int))), oT 23 (y27 : List (Hd (Hd Int))), oT 3 (fl y27 : List (Hd Int)), oS 23 a34 n35 c36 (y37 : List (Hd Int)), oT 3 (y37 : List (Hd Int)), oS 23 a1329 n1330 c1331 (y1332 : List (Hd Int)), oT 3 (y1332 : List (Hd Int))]) (fun ⟨v1365, v1366, v1367⟩ => μ1369 v1365 v1366 v1367) ((-1), 0, 0) ⟨rfl, rfl, rfl, rfl, rfl, rfl, rfl, rfl, rfl, rfl, rfl, trivial⟩ ⟨h01370, hB1346, hS1347⟩ ?_
              rintro ⟨v1365, v1366, v1367⟩ b_ w1372 ⟨hi_, hB1373, hS1374⟩
              show Wp _ _ _ _ (upds b_ [(1, .slice a1 n1 c1), (6, .slice a24 n25 c26), (7, .slice a34 n35 c36), (9, .slice a1329 n1330 c1331), (10, .int .i64 v1334), (11, .int .i64 v1365), (12, .int .i64 v1366), (30, .int .i64 (p1.length : Int)), (31, .int .i64 v1334), (38, .int .i64 ((r23[(Int.toNat v1334)]!).length : Int)), (39, .int .i64 v1367)]) w1372
              have hm := hr1371 v1365 v1366 v1367 hi_
              refine w_seq fun K1376 hK1376 => ?_
              refine w_region ?_
              refine wl_val (g_lss (a := v1367) (b := ((r23[(Int.toNat v1334)]!).length : Int)) rfl rfl) rfl ?_
              refine wl_nil ?_
              refine hK1376 _ _ ?_
              refine w_seq fun K1377 hK1377 => ?_
              refine w_condI (p := v1367 < ((r23[(Int.toNat v1334)]!).length : Int)) (b := (decide (v1367 < ((r23[(Int.toNat v1334)]!).length : Int)))) rfl decide_eq_true_iff (fun h1378 => ?_) (fun h1378 => ?_)
              · replace hm := hm.1 h1378
                refine w_skip ?_
                refine hK1377 _ _ ?_
                refine w_seq fun K1379 hK1379 => ?_
                refine w_block ?_
                refine w_seq fun K1380 hK1380 => ?_
                refine w_region ?_
                refine wl_val (g_move (v := .int .i64 v1367) rfl) rfl ?_
                refine wl_val (g_assign (v := .int .i64 v1367) rfl) rfl ?_
                refine wl_nil ?_
                refine hK1380 _ _ ?_
                refine w_seq fun K1381 hK1381 => ?_
                refine w_region ?_
                refine wl_val (g_move (v := .slice a34 n35 c36) rfl) rfl ?_
                refine wl_val (g_move (v := .int .i64 v1334) rfl) rfl ?_
                obtain ⟨hg1382, hm⟩ := hm
                refine wl_val (q_index (i := v1334) SL37 rfl rfl (Tv.o (oT.vw hS1374.g3 hS1374.g4 he38)) (Tv.g (oT.vw hS1374.g3 hS1374.g4 he38) hg1382)) rfl ?_
                refine wl_val (q_load (i := v1334) (v := .slice ((y37[(Int.toNat v1334)]!).1) ((y37[(Int.toNat v1334)]!).2.2.length) ((y37[(Int.toNat v1334)]!).2.1)) ON23 (Tv.o (oT.vw hS1374.g3 hS1374.g4 he38)) (Tv.g (oT.vw hS1374.g3 hS1374.g4 he38) hg1382) rfl rfl) rfl ?_
                refine wl_val (g_move (v := .int .i64 v1367) rfl) rfl ?_
                obtain ⟨hg1383, hm⟩ := hm
                refine wl_val (q_index (i := v1367) SL23 rfl rfl (Tv.row (oT.vw hS1374.g3 hS1374.g4 he38) hg1382) hg1383) rfl ?_
                refine wl_val (q_load (i := v1367) (v := .int .i64 ((r33[(Int.toNat v1334)]!)[(Int.toNat v1367)]!)) ON3 (Tv.row (oT.vw hS1374.g3 hS1374.g4 he38) hg1382) hg1383 rfl rfl) rfl ?_
                refine wl_val (g_assign (v := .int .i64 ((r33[(Int.toNat v1334)]!)[(Int.toNat v1367)]!)) rfl) rfl ?_
                refine wl_nil ?_
                refine hK1381 _ _ ?_
                refine w_cut (σ := Int) (fun v1384 => [(1, .slice a1 n1 c1), (6, .slice a24 n25 c26), (7, .slice a34 n35 c36), (9, .slice a1329 n1330 c1331), (10, .int .i64 v1334), (11, .int .i64 v1365), (12, .int .i64 v1366), (13, .int .i64 v1367), (14, .int .i64 v1384), (30, .int .i64 (p1.length : Int)), (31, .int .i64 v1334), (38, .int .i64 ((r23[(Int.toNat v1334)]!).length : Int)), (39, .int .i64 v1367)]) (fun v1384 w' => m_impl_BestNight_K0 v1365 v1366 v1367 (fun v1365' v1366' v1367' => I1368 v1365' v1366' v1367' ∧ μ1369 v1365' v1366' v1367' < μ1369 v1365 v1366 v1367) v1384 ∧ Below w.heap.size w w' ∧ Sep w' w.heap.size [oS 37 a24 n25 c26 (y27 : List (Hd (Hd Int))), oT 23 (y27 : List (Hd (Hd Int))), oT 3 (fl y27 : List (Hd Int)), oS 23 a34 n35 c36 (y37 : List (Hd Int)), oT 3 (y37 : List (Hd Int)), oS 23 a1329 n1330 c1331 (y1332 : List (Hd Int)), oT 3 (y1332 : List (Hd Int))]) ?_ ?_
                · refine w_seq fun K1386 hK1386 => ?_
                  refine w_region ?_
                  refine wl_val (g_move (v := .int .i64 v1334) rfl) rfl ?_
                  refine wl_val (g_gtr (a := v1334) (b := 0) rfl rfl) rfl ?_
                  refine wl_nil ?_
                  refine hK1386 _ _ ?_
                  refine w_condI (p := v1334 > 0) (b := (decide (v1334 > 0))) rfl decide_eq_true_iff (fun h1387 => ?_) (fun h1387 => ?_)
                  · replace hm := hm.1 h1387
                    refine w_draw (X := Ext) (Y := Ext) [] MIX (by decide +kernel) rfl Ext.refl (fun _ _ _ => Ext.trans) (fun _ _ _ => Chg.trans) (fun _ _ h => Ext.chg h _) (fun w1388 hE1389 => ?_)
                    have hB1390 := hB1373.trans (Ext.stp hE1389 hS1374.base)
                    have hS1391 := hS1374.ext hE1389
                    refine ⟨.int .i64 ((r33[(Int.toNat v1334)]!)[(Int.toNat v1367)]!), fun w1392 hX1393 => od_plain rfl (by have hS1394 := hS1391.ext hX1393; have hB1395 := hB1390.trans (Ext.stp hX1393 hS1391.base); exact is_ext (g_move (v := .int .i64 ((r33[(Int.toNat v1334)]!)[(Int.toNat v1367)]!)) rfl)), ?_⟩
                    refine ⟨.slice a1 n1 c1, fun w1396 hX1397 => od_plain rfl (by have hS1398 := hS1391.ext hX1397; have hB1399 := hB1390.trans (Ext.stp hX1397 hS1391.base); exact is_ext (g_move (v := .slice a1 n1 c1) rfl)), ?_⟩
                    refine ⟨.int .i64 v1334, fun w1400 hX1401 => od_plain rfl (by have hS1402 := hS1391.ext hX1401; have hB1403 := hB1390.trans (Ext.stp hX1401 hS1391.base); exact is_ext (g_move (v := .int .i64 v1334) rfl)), ?_⟩
                    obtain ⟨hg1408, hm⟩ := hm
                    refine ⟨.int .i64 (v1334 - 1), fun w1404 hX1405 => od_plain rfl (by have hS1406 := hS1391.ext hX1405; have hB1407 := hB1390.trans (Ext.stp hX1405 hS1391.base); exact is_ext (g_sub (a := v1334) (b := 1) rfl rfl hg1408)), ?_⟩
                    obtain ⟨hg1413, hm⟩ := hm
                    refine ⟨.pointer (some ((adr a1).add ((Int.toNat (v1334 - 1)) * El.m (Hd Int)))), fun w1409 hX1410 => od_plain rfl (by have hS1411 := hS1391.ext hX1410; have hB1412 := hB1390.trans (Ext.stp hX1410 hS1391.base); exact is_ext (q_index (i := (v1334 - 1)) SL37 rfl rfl (Tv.o (hp1.bel hB1412)) (Tv.g (hp1.bel hB1412) hg1413))), ?_⟩
                    refine ⟨.slice ((y1[(Int.toNat (v1334 - 1))]!).1) ((y1[(Int.toNat (v1334 - 1))]!).2.2.length) ((y1[(Int.toNat (v1334 - 1))]!).2.1), fun w1414 hX1415 => od_plain rfl (by have hS1416 := hS1391.ext hX1415; have hB1417 := hB1390.trans (Ext.stp hX1415 hS1391.base); exact is_ext (q_load (i := (v1334 - 1)) (v := .slice ((y1[(Int.toNat (v1334 - 1))]!).1) ((y1[(Int.toNat (v1334 - 1))]!).2.2.length) ((y1[(Int.toNat (v1334 - 1))]!).2.1)) ON23 (Tv.o (hp1.bel hB1417)) (Tv.g (hp1.bel hB1417) hg1413) rfl rfl)), ?_⟩
                    refine ⟨.slice a1329 n1330 c1331, fun w1418 hX1419 => od_plain rfl (by have hS1420 := hS1391.ext hX1419; have hB1421 := hB1390.trans (Ext.stp hX1419 hS1391.base); exact is_ext (g_move (v := .slice a1329 n1330 c1331) rfl)), ?_⟩
                    refine ⟨.int .i64 v1334, fun w1422 hX1423 => od_plain rfl (by have hS1424 := hS1391.ext hX1423; have hB1425 := hB1390.trans (Ext.stp hX1423 hS1391.base); exact is_ext (g_move (v := .int .i64 v1334) rfl)), ?_⟩
                    obtain ⟨hg1430, hm⟩ := hm
                    refine ⟨.int .i64 (v1334 - 1), fun w1426 hX1427 => od_plain rfl (by have hS1428 := hS1391.ext hX1427; have hB1429 := hB1390.trans (Ext.stp hX1427 hS1391.base); exact is_ext (g_sub (a := v1334) (b := 1) rfl rfl hg1430)), ?_⟩
                    obtain ⟨hg1435, hm⟩ := hm
                    refine ⟨.pointer (some ((adr a1329).add ((Int.toNat (v1334 - 1)) * El.m (Hd Int)))), fun w1431 hX1432 => od_plain rfl (by have hS1433 := hS1391.ext hX1432; have hB1434 := hB1390.trans (Ext.stp hX1432 hS1391.base); exact is_ext (q_index (i := (v1334 - 1)) SL37 rfl rfl (Tv.o (oT.vw hS1433.g5 hS1433.g6 he1333)) (Tv.g (oT.vw hS1433.g5 hS1433.g6 he1333) hg1435))), ?_⟩
                    refine ⟨.slice ((y1332[(Int.toNat (v1334 - 1))]!).1) ((y1332[(Int.toNat (v1334 - 1))]!).2.2.length) ((y1332[(Int.toNat (v1334 - 1))]!).2.1), fun w1436 hX1437 => od_plain rfl (by have hS1438 := hS1391.ext hX1437; have hB1439 := hB1390.trans (Ext.stp hX1437 hS1391.base); exact is_ext (q_load (i := (v1334 - 1)) (v := .slice ((y1332[(Int.toNat (v1334 - 1))]!).1) ((y1332[(Int.toNat (v1334 - 1))]!).2.2.length) ((y1332[(Int.toNat (v1334 - 1))]!).2.1)) ON23 (Tv.o (oT.vw hS1438.g5 hS1438.g6 he1333)) (Tv.g (oT.vw hS1438.g5 hS1438.g6 he1333) hg1435) rfl rfl)), ?_⟩
                    refine ⟨.slice a1 n1 c1, fun w1440 hX1441 => od_plain rfl (by have hS1442 := hS1391.ext hX1441; have hB1443 := hB1390.trans (Ext.stp hX1441 hS1391.base); exact is_ext (g_move (v := .slice a1 n1 c1) rfl)), ?_⟩
                    refine ⟨.int .i64 v1334, fun w1444 hX1445 => od_plain rfl (by have hS1446 := hS1391.ext hX1445; have hB1447 := hB1390.trans (Ext.stp hX1445 hS1391.base); exact is_ext (g_move (v := .int .i64 v1334) rfl)), ?_⟩
                    obtain ⟨hg1452, hm⟩ := hm
                    refine ⟨.pointer (some ((adr a1).add ((Int.toNat v1334) * El.m (Hd Int)))), fun w1448 hX1449 => od_plain rfl (by have hS1450 := hS1391.ext hX1449; have hB1451 := hB1390.trans (Ext.stp hX1449 hS1391.base); exact is_ext (q_index (i := v1334) SL37 rfl rfl (Tv.o (hp1.bel hB1451)) (Tv.g (hp1.bel hB1451) hg1452))), ?_⟩
                    refine ⟨.slice ((y1[(Int.toNat v1334)]!).1) ((y1[(Int.toNat v1334)]!).2.2.length) ((y1[(Int.toNat v1334)]!).2.1), fun w1453 hX1454 => od_plain rfl (by have hS1455 := hS1391.ext hX1454; have hB1456 := hB1390.trans (Ext.stp hX1454 hS1391.base); exact is_ext (q_load (i := v1334) (v := .slice ((y1[(Int.toNat v1334)]!).1) ((y1[(Int.toNat v1334)]!).2.2.length) ((y1[(Int.toNat v1334)]!).2.1)) ON23 (Tv.o (hp1.bel hB1456)) (Tv.g (hp1.bel hB1456) hg1452) rfl rfl)), ?_⟩
                    refine ⟨.slice a24 n25 c26, fun w1457 hX1458 => od_plain rfl (by have hS1459 := hS1391.ext hX1458; have hB1460 := hB1390.trans (Ext.stp hX1458 hS1391.base); exact is_ext (g_move (v := .slice a24 n25 c26) rfl)), ?_⟩
                    refine ⟨.int .i64 v1334, fun w1461 hX1462 => od_plain rfl (by have hS1463 := hS1391.ext hX1462; have hB1464 := hB1390.trans (Ext.stp hX1462 hS1391.base); exact is_ext (g_move (v := .int .i64 v1334) rfl)), ?_⟩
                    obtain ⟨hg1469, hm⟩ := hm
                    refine ⟨.pointer (some ((adr a24).add ((Int.toNat v1334) * El.m (Hd (Hd Int))))), fun w1465 hX1466 => od_plain rfl (by have hS1467 := hS1391.ext hX1466; have hB1468 := hB1390.trans (Ext.stp hX1466 hS1391.base); exact is_ext (q_index (i := v1334) SL75 rfl rfl (Tt.o (oT.t3 hS1467.g0 hS1467.g1 hS1467.g2 he28)) (Tt.g (oT.t3 hS1467.g0 hS1467.g1 hS1467.g2 he28) hg1469))), ?_⟩
                    refine ⟨.slice (((y27)[(Int.toNat v1334)]!).1) (((y27)[(Int.toNat v1334)]!).2.2.length) (((y27)[(Int.toNat v1334)]!).2.1), fun w1470 hX1471 => od_plain rfl (by have hS1472 := hS1391.ext hX1471; have hB1473 := hB1390.trans (Ext.stp hX1471 hS1391.base); exact is_ext (q_load (i := v1334) (v := .slice (((y27)[(Int.toNat v1334)]!).1) (((y27)[(Int.toNat v1334)]!).2.2.length) (((y27)[(Int.toNat v1334)]!).2.1)) ON37 (Tt.o (oT.t3 hS1472.g0 hS1472.g1 hS1472.g2 he28)) (Tt.g (oT.t3 hS1472.g0 hS1472.g1 hS1472.g2 he28) hg1469) rfl rfl)), ?_⟩
                    refine ⟨.int .i64 v1367, fun w1474 hX1475 => od_plain rfl (by have hS1476 := hS1391.ext hX1475; have hB1477 := hB1390.trans (Ext.stp hX1475 hS1391.base); exact is_ext (g_move (v := .int .i64 v1367) rfl)), ?_⟩
                    obtain ⟨hg1482, hm⟩ := hm
                    refine ⟨.pointer (some ((adr (((y27)[(Int.toNat v1334)]!).1)).add ((Int.toNat v1367) * El.m (Hd Int)))), fun w1478 hX1479 => od_plain rfl (by have hS1480 := hS1391.ext hX1479; have hB1481 := hB1390.trans (Ext.stp hX1479 hS1391.base); exact is_ext (q_index (i := v1367) SL37 rfl rfl (Tv.o (Tt.row (oT.t3 hS1480.g0 hS1480.g1 hS1480.g2 he28) hg1469)) (Tv.g (Tt.row (oT.t3 hS1480.g0 hS1480.g1 hS1480.g2 he28) hg1469) hg1482))), ?_⟩
                    refine ⟨.slice ((((y27)[(Int.toNat v1334)]!.2.2)[(Int.toNat v1367)]!).1) ((((y27)[(Int.toNat v1334)]!.2.2)[(Int.toNat v1367)]!).2.2.length) ((((y27)[(Int.toNat v1334)]!.2.2)[(Int.toNat v1367)]!).2.1), fun w1483 hX1484 => od_plain rfl (by have hS1485 := hS1391.ext hX1484; have hB1486 := hB1390.trans (Ext.stp hX1484 hS1391.base); exact is_ext (q_load (i := v1367) (v := .slice ((((y27)[(Int.toNat v1334)]!.2.2)[(Int.toNat v1367)]!).1) ((((y27)[(Int.toNat v1334)]!.2.2)[(Int.toNat v1367)]!).2.2.length) ((((y27)[(Int.toNat v1334)]!.2.2)[(Int.toNat v1367)]!).2.1)) ON23 (Tv.o (Tt.row (oT.t3 hS1485.g0 hS1485.g1 hS1485.g2 he28) hg1469)) (Tv.g (Tt.row (oT.t3 hS1485.g0 hS1485.g1 hS1485.g2 he28) hg1469) hg1482) rfl rfl)), ?_⟩
                    obtain ⟨r1491, hk1492, hm⟩ := hm
                    refine ⟨.int .i64 r1491, fun w1487 hX1488 => od_plain rfl (by have hS1489 := hS1391.ext hX1488; have hB1490 := hB1390.trans (Ext.stp hX1488 hS1391.base); exact (g_call (vs := #[.slice ((y1[(Int.toNat (v1334 - 1))]!).1) ((y1[(Int.toNat (v1334 - 1))]!).2.2.length) ((y1[(Int.toNat (v1334 - 1))]!).2.1), .slice ((y1332[(Int.toNat (v1334 - 1))]!).1) ((y1332[(Int.toNat (v1334 - 1))]!).2.2.length) ((y1332[(Int.toNat (v1334 - 1))]!).2.1), .slice ((y1[(Int.toNat v1334)]!).1) ((y1[(Int.toNat v1334)]!).2.2.length) ((y1[(Int.toNat v1334)]!).2.1), .slice ((((y27)[(Int.toNat v1334)]!.2.2)[(Int.toNat v1367)]!).1) ((((y27)[(Int.toNat v1334)]!.2.2)[(Int.toNat v1367)]!).2.2.length) ((((y27)[(Int.toNat v1334)]!.2.2)[(Int.toNat v1367)]!).2.1)]) CF78 (args4 rfl rfl rfl rfl) ((m_impl_changes_fn ((Tv.row (hp1.bel hB1490) hg1413).up hS1489) (Tv.row (oT.vw hS1489.g5 hS1489.g6 he1333) hg1435) ((Tv.row (hp1.bel hB1490) hg1452).up hS1489) (Tv.row (Tt.row (oT.t3 hS1489.g0 hS1489.g1 hS1489.g2 he28) hg1469) hg1482) hk1492).mono fun _ _ ⟨_, h1, h2, h3⟩ => ⟨by rw [h2, h1], h3⟩))), ?_⟩
                    obtain ⟨hg1497, hm⟩ := hm
                    refine ⟨.int .i64 ((r33[(Int.toNat v1334)]!)[(Int.toNat v1367)]! + r1491), fun w1493 hX1494 => od_plain rfl (by have hS1495 := hS1391.ext hX1494; have hB1496 := hB1390.trans (Ext.stp hX1494 hS1391.base); exact is_ext (g_add (a := (r33[(Int.toNat v1334)]!)[(Int.toNat v1367)]!) (b := r1491) rfl rfl hg1497)), ?_⟩
                    refine ⟨.int .i64 ((r33[(Int.toNat v1334)]!)[(Int.toNat v1367)]! + r1491), fun w1498 hX1499 => od_plain rfl (by have hS1500 := hS1391.ext hX1499; have hB1501 := hB1390.trans (Ext.stp hX1499 hS1391.base); exact is_ext (g_assign (v := .int .i64 ((r33[(Int.toNat v1334)]!)[(Int.toNat v1367)]! + r1491)) rfl)), ?_⟩
                    intro w1502 hX1503
                    have hB1504 := hB1390.trans (Ext.stp hX1503 hS1391.base)
                    have hS1505 := hS1391.ext hX1503
                    exact ⟨(((r33[(Int.toNat v1334)]!)[(Int.toNat v1367)]! + r1491)), ⟨rfl, rfl, rfl, rfl, rfl, rfl, rfl, rfl, rfl, rfl, rfl, rfl, rfl, trivial⟩, ⟨hm, hB1504, hS1505⟩⟩
                  · replace hm := hm.2 h1387
                    refine w_skip ?_
                    exact ⟨((r33[(Int.toNat v1334)]!)[(Int.toNat v1367)]!), ⟨rfl, rfl, rfl, rfl, rfl, rfl, rfl, rfl, rfl, rfl, rfl, rfl, rfl, trivial⟩, ⟨hm, hB1373, hS1374⟩⟩
                · rintro v1384 b_ w1506 ⟨hm, hB1507, hS1508⟩
                  show Wp _ _ _ _ (upds b_ [(1, .slice a1 n1 c1), (6, .slice a24 n25 c26), (7, .slice a34 n35 c36), (9, .slice a1329 n1330 c1331), (10, .int .i64 v1334), (11, .int .i64 v1365), (12, .int .i64 v1366), (13, .int .i64 v1367), (14, .int .i64 v1384), (30, .int .i64 (p1.length : Int)), (31, .int .i64 v1334), (38, .int .i64 ((r23[(Int.toNat v1334)]!).length : Int)), (39, .int .i64 v1367)]) w1506
                  refine w_seq fun K1509 hK1509 => ?_
                  refine w_region ?_
                  refine wl_val (g_move (v := .int .i64 v1365) rfl) rfl ?_
                  refine wl_val (g_lss (a := v1365) (b := 0) rfl rfl) rfl ?_
                  refine wl_val (g_move (v := .bool (decide (v1365 < 0))) rfl) rfl ?_
                  refine wl_guard (c := (decide (v1365 < 0)) = false) (val := .int .i64 v1384) (b := ((decide (v1365 < 0)) == false)) (gv_some rfl rfl rfl) beq_iff_eq (fun hc1510 => ?_) ?_
                  · have hcq6 : ¬ (v1365 < 0) := (i_neg decide_eq_true_iff hc1510)
                    exact g_move (v := .int .i64 v1384) rfl
                  refine wl_guard (c := (decide (v1365 < 0)) = false) (val := .int .i64 v1365) (b := ((decide (v1365 < 0)) == false)) (gv_some rfl rfl rfl) beq_iff_eq (fun hc1511 => ?_) ?_
                  · have hcq6 : ¬ (v1365 < 0) := (i_neg decide_eq_true_iff hc1511)
                    exact g_move (v := .int .i64 v1365) rfl
                  refine wl_guard (c := (decide (v1365 < 0)) = false) (val := .bool (decide (v1384 < v1365))) (b := ((decide (v1365 < 0)) == false)) (gv_some rfl rfl rfl) beq_iff_eq (fun hc1512 => ?_) ?_
                  · have hcq6 : ¬ (v1365 < 0) := (i_neg decide_eq_true_iff hc1512)
                    exact g_lss (a := v1384) (b := v1365) (if_pos hc1512) (if_pos hc1512)
                  refine wl_val (g_pick_or (b := (decide (v1365 < 0))) (q := (decide (v1384 < v1365))) rfl rfl) rfl ?_
                  refine wl_nil ?_
                  refine hK1509 _ _ ?_
                  refine w_condI (p := ((v1365 < 0) ∨ (v1384 < v1365))) (b := ((decide (v1365 < 0)) || (decide (v1384 < v1365)))) rfl (i_or decide_eq_true_iff decide_eq_true_iff) (fun h1513 => ?_) (fun h1513 => ?_)
                  · replace hm := hm.1 h1513
                    refine w_region ?_
                    refine wl_val (g_move (v := .int .i64 v1384) rfl) rfl ?_
                    refine wl_val (g_move (v := .int .i64 v1367) rfl) rfl ?_
                    refine wl_val (g_assign (v := .int .i64 v1384) rfl) rfl ?_
                    refine wl_val (g_assign (v := .int .i64 v1367) rfl) rfl ?_
                    refine wl_nil ?_
                    refine hK1379 _ _ ?_
                    refine w_region ?_
                    obtain ⟨hg1514, hm⟩ := hm
                    refine wl_val (g_add (a := v1367) (b := 1) rfl rfl hg1514) rfl ?_
                    refine wl_val (g_move (v := .int .i64 (v1367 + 1)) rfl) rfl ?_
                    refine wl_nil ?_
                    exact ⟨(v1384, v1367, (v1367 + 1)), hm.2, ⟨rfl, rfl, rfl, rfl, rfl, rfl, rfl, rfl, rfl, rfl, rfl, trivial⟩, ⟨hm.1, hB1507, hS1508⟩⟩
                  · replace hm := hm.2 h1513
                    refine w_skip ?_
                    refine hK1379 _ _ ?_
                    refine w_region ?_
                    obtain ⟨hg1515, hm⟩ := hm
                    refine wl_val (g_add (a := v1367) (b := 1) rfl rfl hg1515) rfl ?_
                    refine wl_val (g_move (v := .int .i64 (v1367 + 1)) rfl) rfl ?_
                    refine wl_nil ?_
                    exact ⟨(v1365, v1366, (v1367 + 1)), hm.2, ⟨rfl, rfl, rfl, rfl, rfl, rfl, rfl, rfl, rfl, rfl, rfl, trivial⟩, ⟨hm.1, hB1507, hS1508⟩⟩
              · replace hm := hm.2 h1378
                refine w_exit ?_
                exact ⟨(v1366), ⟨rfl, rfl, rfl, rfl, rfl, rfl, rfl, rfl, trivial⟩, ⟨hm, hB1373, hS1374⟩⟩
            · rintro v1361 b_ w1516 ⟨hm, hB1517, hS1518⟩
              show Wp _ _ _ _ (upds b_ [(1, .slice a1 n1 c1), (6, .slice a24 n25 c26), (7, .slice a34 n35 c36), (9, .slice a1329 n1330 c1331), (10, .int .i64 v1334), (12, .int .i64 v1361), (30, .int .i64 (p1.length : Int)), (31, .int .i64 v1334)]) w1516
              refine w_region ?_
              refine wl_val (g_move (v := .slice a1329 n1330 c1331) rfl) rfl ?_
              refine wl_val (g_move (v := .slice a24 n25 c26) rfl) rfl ?_
              refine wl_val (g_move (v := .int .i64 v1334) rfl) rfl ?_
              obtain ⟨hg1519, hm⟩ := hm
              refine wl_val (q_index (i := v1334) SL75 rfl rfl (Tt.o (oT.t3 hS1518.g0 hS1518.g1 hS1518.g2 he28)) (Tt.g (oT.t3 hS1518.g0 hS1518.g1 hS1518.g2 he28) hg1519)) rfl ?_
              refine wl_val (q_load (i := v1334) (v := .slice (((y27)[(Int.toNat v1334)]!).1) (((y27)[(Int.toNat v1334)]!).2.2.length) (((y27)[(Int.toNat v1334)]!).2.1)) ON37 (Tt.o (oT.t3 hS1518.g0 hS1518.g1 hS1518.g2 he28)) (Tt.g (oT.t3 hS1518.g0 hS1518.g1 hS1518.g2 he28) hg1519) rfl rfl) rfl ?_
              refine wl_val (g_move (v := .int .i64 v1361) rfl) rfl ?_
              obtain ⟨hg1520, hm⟩ := hm
              refine wl_val (q_index (i := v1361) SL37 rfl rfl (Tv.o (Tt.row (oT.t3 hS1518.g0 hS1518.g1 hS1518.g2 he28) hg1519)) (Tv.g (Tt.row (oT.t3 hS1518.g0 hS1518.g1 hS1518.g2 he28) hg1519) hg1520)) rfl ?_
              refine wl_val (q_load (i := v1361) (v := .slice ((((y27)[(Int.toNat v1334)]!.2.2)[(Int.toNat v1361)]!).1) ((((y27)[(Int.toNat v1334)]!.2.2)[(Int.toNat v1361)]!).2.2.length) ((((y27)[(Int.toNat v1334)]!.2.2)[(Int.toNat v1361)]!).2.1)) ON23 (Tv.o (Tt.row (oT.t3 hS1518.g0 hS1518.g1 hS1518.g2 he28) hg1519)) (Tv.g (Tt.row (oT.t3 hS1518.g0 hS1518.g1 hS1518.g2 he28) hg1519) hg1520) rfl rfl) rfl ?_
              refine wl_step rfl (g_call (vs := #[.slice ((((y27)[(Int.toNat v1334)]!.2.2)[(Int.toNat v1361)]!).1) ((((y27)[(Int.toNat v1334)]!.2.2)[(Int.toNat v1361)]!).2.2.length) ((((y27)[(Int.toNat v1334)]!.2.2)[(Int.toNat v1361)]!).2.1)]) CF79 (args1 rfl) (m_impl_copyOf_fn (Tv.row (Tt.row (oT.t3 hS1518.g0 hS1518.g1 hS1518.g2 he28) hg1519) hg1520) hm)) ?_
              rintro _ w1521 ⟨r1524, a1525, n1526, c1527, hm, rfl, hE1522, hN1523⟩
              have hS1529 := hS1518.call1 hE1522 hN1523
              have hB1530 := hB1517.trans (Ext.stp hE1522 hS1518.base)
              have hn1536 := oS.len hS1529.g0
              have hS1537 := hS1529.oneRow
              have he1535 : ers [((a1525, c1527, r1524) : Hd Int)] = [r1524] := rfl
              refine wl_step rfl (q_lit1 (y := ((a1525, c1527, r1524) : Hd Int)) SL37 rfl (hd_cells hn1536) (by decide) hS1537) ?_
              rintro _ w1531 ⟨a1532, rfl, hS1534, hE1533⟩
              have hB1540 := hB1530.trans (Ext.stp hE1533 hS1537.base)
              have hS1547 := hS1534.f7
              obtain ⟨hg1548, hm⟩ := hm
              have hl1549 : (y1332).length + ([(a1525, c1527, r1524)]).length ≤ 1099511627776 := by have h1 := congrArg List.length he1333; have h2 := congrArg List.length he1535; have h3 := hg1548; simp only [ers, List.length_map, List.length_append, List.length_cons, List.length_nil, List.length_replicate, List.length_set] at h1 h2 h3 ⊢; omega
              refine wl_step rfl (q_append SL37 rfl rfl hS1547 (oS.vw hS1547.g1) hl1549 (by decide)) ?_
              rintro _ w1542 ⟨a1543, c1544, rfl, hS1546, hb1545⟩
              have hB1550 := hB1540.trans hb1545
              have hS1551 := hS1546.f1
              have hS1552 := hS1551.tail
              have hS1553 := hS1552.f7
              have hS1554 := hS1553.f2
              have hS1555 := hS1554.catRows
              have he1556 : ers (y1332 ++ ([(a1525, c1527, r1524)])) = (x1328 ++ ([r1524])) := by rw [← he1333, ← he1535]; exact List.map_append
              refine wl_val (g_assign (v := .slice a1543 (n1330 + 1) c1544) rfl) rfl ?_
              refine wl_nil ?_
              have hS1557 := hS1555.f1
              have hS1558 := hS1557.f6
              have hS1559 := hS1558.f6
              have hS1560 := hS1559.f6
              have hS1561 := hS1560.f6
              have hS1562 := hS1561.f6
              exact ⟨((x1328 ++ ([r1524])), a1543, (n1330 + 1), c1544, (y1332 ++ ([(a1525, c1527, r1524)]))), ⟨rfl, rfl, rfl, rfl, rfl, rfl, trivial⟩, ⟨hm, he1556, hB1550, hS1562⟩⟩
          · rintro ⟨x1352, a1353, n1354, c1355, y1356⟩ b_ w1563 ⟨hm, he1357, hB1564, hS1565⟩
            show Wp _ _ _ _ (upds b_ [(1, .slice a1 n1 c1), (6, .slice a24 n25 c26), (7, .slice a34 n35 c36), (9, .slice a1353 n1354 c1355), (30, .int .i64 (p1.length : Int)), (31, .int .i64 v1334)]) w1563
            refine w_region ?_
            obtain ⟨hg1566, hm⟩ := hm
            refine wl_val (g_add (a := v1334) (b := 1) rfl rfl hg1566) rfl ?_
            refine wl_val (g_move (v := .int .i64 (v1334 + 1)) rfl) rfl ?_
            refine wl_nil ?_
            exact ⟨(x1352, a1353, n1354, c1355, y1356, (v1334 + 1)), hm.2, ⟨rfl, rfl, rfl, rfl, rfl, rfl, trivial⟩, ⟨hm.1, he1357, hB1564, hS1565⟩⟩
        · replace hm := hm.2 h1351
          refine w_exit ?_
          have hS1567 := hS1347.tail
          have hS1568 := hS1567.tail
          have hS1569 := hS1568.tail
          have hS1570 := hS1569.tail
          have hS1571 := hS1570.tail
          exact ⟨(x1328, a1329, n1330, c1331, y1332), ⟨rfl, trivial⟩, ⟨hm, he1333, hB1346, hS1571⟩⟩
      · rintro ⟨x1320, a1321, n1322, c1323, y1324⟩ b_ w1572 ⟨hm, he1325, hB1573, hS1574⟩
        show Wp _ _ _ _ (upds b_ [(9, .slice a1321 n1322 c1323)]) w1572
        refine w_seq fun K1575 hK1575 => ?_
        refine w_region ?_
        refine wl_val (g_move (v := .slice a1321 n1322 c1323) rfl) rfl ?_
        refine wl_val (g_assign (v := .slice a1321 n1322 c1323) rfl) rfl ?_
        refine wl_val (g_assign (v := .bool true) rfl) rfl ?_
        refine wl_nil ?_
        refine hK1575 _ _ ?_
        refine w_ret ?_
        repeat first | with_reducible refine q_then ?_ | with_reducible refine q_block ?_
        exact ret2 rfl (by decide) (by decide) ⟨_, _, _, _, _, _, hm, he1325, rfl, toExt hB1573, hS1574⟩

theorem m_impl_ChangesBetween_fn {w : World} {a0 : Option Addr} {n0 c0 : Nat} {p0 : List Int} {a1 : Option Addr} {n1 c1 : Nat} {p1 : List Int} {a2 : Option Addr} {n2 c2 : Nat} {p2 : List Int} {a3 : Option Addr} {n3 c3 : Nat} {p3 : List Int} {Q : Int → Prop} (hp0 : Vw w.heap.size w a0 n0 c0 p0) (hp1 : Vw w.heap.size w a1 n1 c1 p1) (hp2 : Vw w.heap.size w a2 n2 c2 p2) (hp3 : Vw w.heap.size w a3 n3 c3 p3) (hm : m_impl_ChangesBetween p0 p1 p2 p3 Q) :
    Fn Try.prog 55 #[.slice a0 n0 c0, .slice a1 n1 c1, .slice a2 n2 c2, .slice a3 n3 c3] w (fun v w' => ∃ (r0 : Int), Q r0 ∧ v = .int .i64 r0 ∧ Ext w w') := by
  unfold m_impl_ChangesBetween at hm
  have hB0 := Below.refl w.heap.size w
  have hS0 : Sep w w.heap.size [] := Sep.nil (Nat.le_refl _)
  refine fn_of_wp Try.func55 rfl (by kernel_rfl) (Nat.le_of_ble_eq_true rfl) ?_
  refine w_seq fun K1 hK1 => ?_
  refine w_region ?_
  refine wl_val (g_assign (v := .int .i64 0) rfl) rfl ?_
  refine wl_nil ?_
  refine hK1 _ _ ?_
  refine w_seq fun K2 hK2 => ?_
  refine w_seq fun K3 hK3 => ?_
  refine w_region ?_
  refine wl_val (g_move (v := .slice a0 n0 c0) rfl) rfl ?_
  refine wl_val (q_len SL23 rfl (Vw.len (hp0.bel hB0))) rfl ?_
  refine wl_val (g_move (v := .slice a1 n1 c1) rfl) rfl ?_
  refine wl_val (q_len SL23 rfl (Vw.len (hp1.bel hB0))) rfl ?_
  refine wl_val (g_neq (a := (p0.length : Int)) (b := (p1.length : Int)) rfl rfl) rfl ?_
  refine wl_val (g_move (v := .bool (decide ((p0.length : Int) ≠ (p1.length : Int)))) rfl) rfl ?_
  refine wl_guard (c := (decide ((p0.length : Int) ≠ (p1.length : Int))) = false) (val := .slice a2 n2 c2) (b := ((decide ((p0.length : Int) ≠ (p1.length : Int))) == false)) (gv_some rfl rfl rfl) beq_iff_eq (fun hc4 => ?_) ?_
  · have hcq0 : ¬ ((p0.length : Int) ≠ (p1.length : Int)) := (i_neg decide_eq_true_iff hc4)
    exact g_move (v := .slice a2 n2 c2) rfl
  refine wl_guard (c := (decide ((p0.length : Int) ≠ (p1.length : Int))) = false) (val := .int .i64 (p2.length : Int)) (b := ((decide ((p0.length : Int) ≠ (p1.length : Int))) == false)) (gv_some rfl rfl rfl) beq_iff_eq (fun hc5 => ?_) ?_
  · have hcq0 : ¬ ((p0.length : Int) ≠ (p1.length : Int)) := (i_neg decide_eq_true_iff hc5)
    exact q_len SL23 (if_pos hc5) (Vw.len (hp2.bel hB0))
  refine wl_guard (c := (decide ((p0.length : Int) ≠ (p1.length : Int))) = false) (val := .slice a3 n3 c3) (b := ((decide ((p0.length : Int) ≠ (p1.length : Int))) == false)) (gv_some rfl rfl rfl) beq_iff_eq (fun hc6 => ?_) ?_
  · have hcq0 : ¬ ((p0.length : Int) ≠ (p1.length : Int)) := (i_neg decide_eq_true_iff hc6)
    exact g_move (v := .slice a3 n3 c3) rfl
  refine wl_guard (c := (decide ((p0.length : Int) ≠ (p1.length : Int))) = false) (val := .int .i64 (p3.length : Int)) (b := ((decide ((p0.length : Int) ≠ (p1.length : Int))) == false)) (gv_some rfl rfl rfl) beq_iff_eq (fun hc7 => ?_) ?_
  · have hcq0 : ¬ ((p0.length : Int) ≠ (p1.length : Int)) := (i_neg decide_eq_true_iff hc7)
    exact q_len SL23 (if_pos hc7) (Vw.len (hp3.bel hB0))
  refine wl_guard (c := (decide ((p0.length : Int) ≠ (p1.length : Int))) = false) (val := .bool (decide ((p2.length : Int) ≠ (p3.length : Int)))) (b := ((decide ((p0.length : Int) ≠ (p1.length : Int))) == false)) (gv_some rfl rfl rfl) beq_iff_eq (fun hc8 => ?_) ?_
  · have hcq0 : ¬ ((p0.length : Int) ≠ (p1.length : Int)) := (i_neg decide_eq_true_iff hc8)
    exact g_neq (a := (p2.length : Int)) (b := (p3.length : Int)) (if_pos hc8) (if_pos hc8)
  refine wl_val (g_pick_or (b := (decide ((p0.length : Int) ≠ (p1.length : Int)))) (q := (decide ((p2.length : Int) ≠ (p3.length : Int)))) rfl rfl) rfl ?_
  refine wl_nil ?_
  refine hK3 _ _ ?_
  refine w_condI (p := (((p0.length : Int) ≠ (p1.length : Int)) ∨ ((p2.length : Int) ≠ (p3.length : Int)))) (b := ((decide ((p0.length : Int) ≠ (p1.length : Int))) || (decide ((p2.length : Int) ≠ (p3.length : Int))))) rfl (i_or decide_eq_true_iff decide_eq_true_iff) (fun h9 => ?_) (fun h9 => ?_)
  · replace hm := hm.1 h9
    refine w_seq fun K10 hK10 => ?_
    refine w_region ?_
    refine wl_val (g_assign (v := .int .i64 (-1)) rfl) rfl ?_
    refine wl_nil ?_
    refine hK10 _ _ ?_
    refine w_ret ?_
    repeat first | with_reducible refine q_then ?_ | with_reducible refine q_block ?_
    exact ret1 rfl (by decide) ⟨_, hm, rfl, toExt hB0⟩
  · replace hm := hm.2 h9
    refine w_skip ?_
    refine hK2 _ _ ?_
    refine w_seq fun K11 hK11 => ?_
    refine w_region ?_
    refine wl_val (g_move (v := .slice a0 n0 c0) rfl) rfl ?_
    refine wl_val (g_move (v := .slice a1 n1 c1) rfl) rfl ?_
    refine wl_val (g_move (v := .slice a2 n2 c2) rfl) rfl ?_
    refine wl_val (g_move (v := .slice a3 n3 c3) rfl) rfl ?_
    refine wl_step rfl (g_call (vs := #[.slice a0 n0 c0, .slice a1 n1 c1, .slice a2 n2 c2, .slice a3 n3 c3]) CF78 (args4 rfl rfl rfl rfl) (m_impl_changes_fn ((hp0.bel hB0).up hS0) ((hp1.bel hB0).up hS0) ((hp2.bel hB0).up hS0) ((hp3.bel hB0).up hS0) hm)) ?_
    rintro _ w12 ⟨r15, hm, rfl, hE13⟩
    have hB16 := hB0.trans (Ext.stp hE13 hS0.base)
    have hS17 := hS0.ext hE13
    refine wl_val (g_assign (v := .int .i64 r15) rfl) rfl ?_
    refine wl_nil ?_
    refine hK11 _ _ ?_
    refine w_ret ?_
    repeat first | with_reducible refine q_then ?_ | with_reducible refine q_block ?_
    exact ret1 rfl (by decide) ⟨_, hm, rfl, toExt hB16⟩

theorem m_impl_CountChanges_fn {w : World} {a0 : Option Addr} {n0 c0 : Nat} {y0 : List (Hd Int)} {p0 : List (List Int)} {a1 : Option Addr} {n1 c1 : Nat} {y1 : List (Hd Int)} {p1 : List (List Int)} {Q : Int → Prop} (hp0 : Tv w.heap.size w a0 n0 c0 y0 p0) (hp1 : Tv w.heap.size w a1 n1 c1 y1 p1) (hm : m_impl_CountChanges p0 p1 Q) :
    Fn Try.prog 51 #[.slice a0 n0 c0, .slice a1 n1 c1] w (fun v w' => ∃ (r0 : Int), Q r0 ∧ v = .int .i64 r0 ∧ Ext w w') := by
  unfold m_impl_CountChanges at hm
  have hB0 := Below.refl w.heap.size w
  have hS0 : Sep w w.heap.size [] := Sep.nil (Nat.le_refl _)
  refine fn_of_wp Try.func51 rfl (by kernel_rfl) (Nat.le_of_ble_eq_true rfl) ?_
  refine w_seq fun K1 hK1 => ?_
  refine w_region ?_
  refine wl_val (g_assign (v := .int .i64 0) rfl) rfl ?_
  refine wl_nil ?_
  refine hK1 _ _ ?_
  refine w_seq fun K2 hK2 => ?_
  refine w_seq fun K3 hK3 => ?_
  refine w_region ?_
  refine wl_val (g_move (v := .slice a0 n0 c0) rfl) rfl ?_
  refine wl_val (q_len SL37 rfl (Tv.len (hp0.bel hB0))) rfl ?_
  refine wl_val (g_move (v := .slice a1 n1 c1) rfl) rfl ?_
  refine wl_val (q_len SL37 rfl (Tv.len (hp1.bel hB0))) rfl ?_
  refine wl_val (g_neq (a := (p0.length : Int)) (b := (p1.length : Int)) rfl rfl) rfl ?_
  refine wl_nil ?_
  refine hK3 _ _ ?_
  refine w_condI (p := (p0.length : Int) ≠ (p1.length : Int)) (b := (decide ((p0.length : Int) ≠ (p1.length : Int)))) rfl decide_eq_true_iff (fun h4 => ?_) (fun h4 => ?_)
  · replace hm := hm.1 h4
    refine w_seq fun K5 hK5 => ?_
    refine w_region ?_
    refine wl_val (g_assign (v := .int .i64 (-1)) rfl) rfl ?_
    refine wl_nil ?_
    refine hK5 _ _ ?_
    refine w_ret ?_
    repeat first | with_reducible refine q_then ?_ | with_reducible refine q_block ?_
    exact ret1 rfl (by decide) ⟨_, hm, rfl, toExt hB0⟩
  · replace hm := hm.2 h4
    refine w_skip ?_
    refine hK2 _ _ ?_
    refine w_seq fun K6 hK6 => ?_
    refine w_region ?_
    refine wl_val (g_assign (v := .int .i64 0) rfl) rfl ?_
    refine wl_nil ?_
    refine hK6 _ _ ?_
    refine w_cut (σ := Int) (fun v243 => [(5, .int .i64 v243)]) (fun v243 w' => m_impl_CountChanges_K0 Q v243 ∧ Below w.heap.size w w' ∧ Sep w' w.heap.size []) ?_ ?_
    · refine w_seq fun K245 hK245 => ?_
      refine w_region ?_
      refine wl_val (g_assign (v := .int .i64 0) rfl) rfl ?_
      refine wl_nil ?_
      refine hK245 _ _ ?_
      refine w_block ?_
      obtain ⟨I248, μ249, h0250, hr251⟩ := hm
      refine w_for (σ := Int × Int) (fun ⟨v246, v247⟩ => [(0, .slice a0 n0 c0), (1, .slice a1 n1 c1), (5, .int .i64 v246), (6, .int .i64 v247)]) (fun ⟨v246, v247⟩ w' => I248 v246 v247 ∧ Below w.heap.size w w' ∧ Sep w' w.heap.size []) (fun ⟨v246, v247⟩ => μ249 v246 v247) (0, 0) ⟨rfl, rfl, rfl, rfl, trivial⟩ ⟨h0250, hB0, hS0⟩ ?_
      rintro ⟨v246, v247⟩ b_ w252 ⟨hi_, hB253, hS254⟩
      show Wp _ _ _ _ (upds b_ [(0, .slice a0 n0 c0), (1, .slice a1 n1 c1), (5, .int .i64 v246), (6, .int .i64 v247)]) w252
      have hm := hr251 v246 v247 hi_
      refine w_seq fun K256 hK256 => ?_
      refine w_seq fun K257 hK257 => ?_
      refine w_region ?_
      refine wl_val (g_move (v := .int .i64 v247) rfl) rfl ?_
      obtain ⟨hg258, hm⟩ := hm
      refine wl_val (g_add (a := v247) (b := 1) rfl rfl hg258) rfl ?_
      refine wl_val (g_move (v := .slice a0 n0 c0) rfl) rfl ?_
      refine wl_val (q_len SL37 rfl (Tv.len (hp0.bel hB253))) rfl ?_
      refine wl_val (g_lss (a := (v247 + 1)) (b := (p0.length : Int)) rfl rfl) rfl ?_
      refine wl_nil ?_
      refine hK257 _ _ ?_
      refine w_condI (p := (v247 + 1) < (p0.length : Int)) (b := (decide ((v247 + 1) < (p0.length : Int)))) rfl decide_eq_true_iff (fun h259 => ?_) (fun h259 => ?_)
      · replace hm := hm.1 h259
        refine w_skip ?_
        refine hK256 _ _ ?_
        refine w_seq fun K260 hK260 => ?_
        refine w_block ?_
        refine w_seq fun K261 hK261 => ?_
        refine w_draw (X := Ext) (Y := Ext) [] MIX (by decide +kernel) rfl Ext.refl (fun _ _ _ => Ext.trans) (fun _ _ _ => Chg.trans) (fun _ _ h => Ext.chg h _) (fun w262 hE263 => ?_)
        have hB264 := hB253.trans (Ext.stp hE263 hS254.base)
        have hS265 := hS254.ext hE263
        refine ⟨.slice a0 n0 c0, fun w266 hX267 => od_plain rfl (by have hS268 := hS265.ext hX267; have hB269 := hB264.trans (Ext.stp hX267 hS265.base); exact is_ext (g_move (v := .slice a0 n0 c0) rfl)), ?_⟩
        refine ⟨.int .i64 v247, fun w270 hX271 => od_plain rfl (by have hS272 := hS265.ext hX271; have hB273 := hB264.trans (Ext.stp hX271 hS265.base); exact is_ext (g_move (v := .int .i64 v247) rfl)), ?_⟩
        obtain ⟨hg278, hm⟩ := hm
        refine ⟨.pointer (some ((adr a0).add ((Int.toNat v247) * El.m (Hd Int)))), fun w274 hX275 => od_plain rfl (by have hS276 := hS265.ext hX275; have hB277 := hB264.trans (Ext.stp hX275 hS265.base); exact is_ext (q_index (i := v247) SL37 rfl rfl (Tv.o (hp0.bel hB277)) (Tv.g (hp0.bel hB277) hg278))), ?_⟩
        refine ⟨.slice ((y0[(Int.toNat v247)]!).1) ((y0[(Int.toNat v247)]!).2.2.length) ((y0[(Int.toNat v247)]!).2.1), fun w279 hX280 => od_plain rfl (by have hS281 := hS265.ext hX280; have hB282 := hB264.trans (Ext.stp hX280 hS265.base); exact is_ext (q_load (i := v247) (v := .slice ((y0[(Int.toNat v247)]!).1) ((y0[(Int.toNat v247)]!).2.2.length) ((y0[(Int.toNat v247)]!).2.1)) ON23 (Tv.o (hp0.bel hB282)) (Tv.g (hp0.bel hB282) hg278) rfl rfl)), ?_⟩
        refine ⟨.slice a1 n1 c1, fun w283 hX284 => od_plain rfl (by have hS285 := hS265.ext hX284; have hB286 := hB264.trans (Ext.stp hX284 hS265.base); exact is_ext (g_move (v := .slice a1 n1 c1) rfl)), ?_⟩
        refine ⟨.int .i64 v247, fun w287 hX288 => od_plain rfl (by have hS289 := hS265.ext hX288; have hB290 := hB264.trans (Ext.stp hX288 hS265.base); exact is_ext (g_move (v := .int .i64 v247) rfl)), ?_⟩
        obtain ⟨hg295, hm⟩ := hm
        refine ⟨.pointer (some ((adr a1).add ((Int.toNat v247) * El.m (Hd Int)))), fun w291 hX292 => od_plain rfl (by have hS293 := hS265.ext hX292; have hB294 := hB264.trans (Ext.stp hX292 hS265.base); exact is_ext (q_index (i := v247) SL37 rfl rfl (Tv.o (hp1.bel hB294)) (Tv.g (hp1.bel hB294) hg295))), ?_⟩
        refine ⟨.slice ((y1[(Int.toNat v247)]!).1) ((y1[(Int.toNat v247)]!).2.2.length) ((y1[(Int.toNat v247)]!).2.1), fun w296 hX297 => od_plain rfl (by have hS298 := hS265.ext hX297; have hB299 := hB264.trans (Ext.stp hX297 hS265.base); exact is_ext (q_load (i := v247) (v := .slice ((y1[(Int.toNat v247)]!).1) ((y1[(Int.toNat v247)]!).2.2.length) ((y1[(Int.toNat v247)]!).2.1)) ON23 (Tv.o (hp1.bel hB299)) (Tv.g (hp1.bel hB299) hg295) rfl rfl)), ?_⟩
        refine ⟨.slice a0 n0 c0, fun w300 hX301 => od_plain rfl (by have hS302 := hS265.ext hX301; have hB303 := hB264.trans (Ext.stp hX301 hS265.base); exact is_ext (g_move (v := .slice a0 n0 c0) rfl)), ?_⟩
        refine ⟨.int .i64 v247, fun w304 hX305 => od_plain rfl (by have hS306 := hS265.ext hX305; have hB307 := hB264.trans (Ext.stp hX305 hS265.base); exact is_ext (g_move (v := .int .i64 v247) rfl)), ?_⟩
        obtain ⟨hg312, hm⟩ := hm
        refine ⟨.int .i64 (v247 + 1), fun w308 hX309 => od_plain rfl (by have hS310 := hS265.ext hX309; have hB311 := hB264.trans (Ext.stp hX309 hS265.base); exact is_ext (g_add (a := v247) (b := 1) rfl rfl hg312)), ?_⟩
        obtain ⟨hg317, hm⟩ := hm
        refine ⟨.pointer (some ((adr a0).add ((Int.toNat (v247 + 1)) * El.m (Hd Int)))), fun w313 hX314 => od_plain rfl (by have hS315 := hS265.ext hX314; have hB316 := hB264.trans (Ext.stp hX314 hS265.base); exact is_ext (q_index (i := (v247 + 1)) SL37 rfl rfl (Tv.o (hp0.bel hB316)) (Tv.g (hp0.bel hB316) hg317))), ?_⟩
        refine ⟨.slice ((y0[(Int.toNat (v247 + 1))]!).1) ((y0[(Int.toNat (v247 + 1))]!).2.2.length) ((y0[(Int.toNat (v247 + 1))]!).2.1), fun w318 hX319 => od_plain rfl (by have hS320 := hS265.ext hX319; have hB321 := hB264.trans (Ext.stp hX319 hS265.base); exact is_ext (q_load (i := (v247 + 1)) (v := .slice ((y0[(Int.toNat (v247 + 1))]!).1) ((y0[(Int.toNat (v247 + 1))]!).2.2.length) ((y0[(Int.toNat (v247 + 1))]!).2.1)) ON23 (Tv.o (hp0.bel hB321)) (Tv.g (hp0.bel hB321) hg317) rfl rfl)), ?_⟩
        refine ⟨.slice a1 n1 c1, fun w322 hX323 => od_plain rfl (by have hS324 := hS265.ext hX323; have hB325 := hB264.trans (Ext.stp hX323 hS265.base); exact is_ext (g_move (v := .slice a1 n1 c1) rfl)), ?_⟩
        refine ⟨.int .i64 v247, fun w326 hX327 => od_plain rfl (by have hS328 := hS265.ext hX327; have hB329 := hB264.trans (Ext.stp hX327 hS265.base); exact is_ext (g_move (v := .int .i64 v247) rfl)), ?_⟩
        obtain ⟨hg334, hm⟩ := hm
        refine ⟨.int .i64 (v247 + 1), fun w330 hX331 => od_plain rfl (by have hS332 := hS265.ext hX331; have hB333 := hB264.trans (Ext.stp hX331 hS265.base); exact is_ext (g_add (a := v247) (b := 1) rfl rfl hg334)), ?_⟩
        obtain ⟨hg339, hm⟩ := hm
        refine ⟨.pointer (some ((adr a1).add ((Int.toNat (v247 + 1)) * El.m (Hd Int)))), fun w335 hX336 => od_plain rfl (by have hS337 := hS265.ext hX336; have hB338 := hB264.trans (Ext.stp hX336 hS265.base); exact is_ext (q_index (i := (v247 + 1)) SL37 rfl rfl (Tv.o (hp1.bel hB338)) (Tv.g (hp1.bel hB338) hg339))), ?_⟩
        refine ⟨.slice ((y1[(Int.toNat (v247 + 1))]!).1) ((y1[(Int.toNat (v247 + 1))]!).2.2.length) ((y1[(Int.toNat (v247 + 1))]!).2.1), fun w340 hX341 => od_plain rfl (by have hS342 := hS265.ext hX341; have hB343 := hB264.trans (Ext.stp hX341 hS265.base); exact is_ext (q_load (i := (v247 + 1)) (v := .slice ((y1[(Int.toNat (v247 + 1))]!).1) ((y1[(Int.toNat (v247 + 1))]!).2.2.length) ((y1[(Int.toNat (v247 + 1))]!).2.1)) ON23 (Tv.o (hp1.bel hB343)) (Tv.g (hp1.bel hB343) hg339) rfl rfl)), ?_⟩
        obtain ⟨r348, hk349, hm⟩ := hm
        refine ⟨.int .i64 r348, fun w344 hX345 => od_plain rfl (by have hS346 := hS265.ext hX345; have hB347 := hB264.trans (Ext.stp hX345 hS265.base); exact (g_call (vs := #[.slice ((y0[(Int.toNat v247)]!).1) ((y0[(Int.toNat v247)]!).2.2.length) ((y0[(Int.toNat v247)]!).2.1), .slice ((y1[(Int.toNat v247)]!).1) ((y1[(Int.toNat v247)]!).2.2.length) ((y1[(Int.toNat v247)]!).2.1), .slice ((y0[(Int.toNat (v247 + 1))]!).1) ((y0[(Int.toNat (v247 + 1))]!).2.2.length) ((y0[(Int.toNat (v247 + 1))]!).2.1), .slice ((y1[(Int.toNat (v247 + 1))]!).1) ((y1[(Int.toNat (v247 + 1))]!).2.2.length) ((y1[(Int.toNat (v247 + 1))]!).2.1)]) CF55 (args4 rfl rfl rfl rfl) ((m_impl_ChangesBetween_fn ((Tv.row (hp0.bel hB347) hg278).up hS346) ((Tv.row (hp1.bel hB347) hg295).up hS346) ((Tv.row (hp0.bel hB347) hg317).up hS346) ((Tv.row (hp1.bel hB347) hg339).up hS346) hk349).mono fun _ _ ⟨_, h1, h2, h3⟩ => ⟨by rw [h2, h1], h3⟩))), ?_⟩
        refine ⟨.int .i64 r348, fun w350 hX351 => od_plain rfl (by have hS352 := hS265.ext hX351; have hB353 := hB264.trans (Ext.stp hX351 hS265.base); exact is_ext (g_assign (v := .int .i64 r348) rfl)), ?_⟩
        intro w354 hX355
        have hB356 := hB264.trans (Ext.stp hX355 hS265.base)
        have hS357 := hS265.ext hX355
        refine hK261 _ _ ?_
        refine w_seq fun K358 hK358 => ?_
        refine w_seq fun K359 hK359 => ?_
        refine w_region ?_
        refine wl_val (g_move (v := .int .i64 r348) rfl) rfl ?_
        refine wl_val (g_lss (a := r348) (b := 0) rfl rfl) rfl ?_
        refine wl_nil ?_
        refine hK359 _ _ ?_
        refine w_condI (p := r348 < 0) (b := (decide (r348 < 0))) rfl decide_eq_true_iff (fun h360 => ?_) (fun h360 => ?_)
        · replace hm := hm.1 h360
          refine w_seq fun K361 hK361 => ?_
          refine w_region ?_
          refine wl_val (g_assign (v := .int .i64 (-1)) rfl) rfl ?_
          refine wl_nil ?_
          refine hK361 _ _ ?_
          refine w_ret ?_
          repeat first | with_reducible refine q_then ?_ | with_reducible refine q_block ?_
          exact ret1 rfl (by decide) ⟨_, hm, rfl, toExt hB356⟩
        · replace hm := hm.2 h360
          refine w_skip ?_
          refine hK358 _ _ ?_
          refine w_region ?_
          refine wl_val (g_move (v := .int .i64 v246) rfl) rfl ?_
          refine wl_val (g_move (v := .int .i64 r348) rfl) rfl ?_
          obtain ⟨hg362, hm⟩ := hm
          refine wl_val (g_add (a := v246) (b := r348) rfl rfl hg362) rfl ?_
          refine wl_val (g_assign (v := .int .i64 (v246 + r348)) rfl) rfl ?_
          refine wl_nil ?_
          refine hK260 _ _ ?_
          refine w_region ?_
          refine wl_val (g_move (v := .int .i64 v247) rfl) rfl ?_
          obtain ⟨hg363, hm⟩ := hm
          refine wl_val (g_add (a := v247) (b := 1) rfl rfl hg363) rfl ?_
          refine wl_val (g_assign (v := .int .i64 (v247 + 1)) rfl) rfl ?_
          refine wl_nil ?_
          exact ⟨((v246 + r348), (v247 + 1)), hm.2, ⟨rfl, rfl, rfl, rfl, trivial⟩, ⟨hm.1, hB356, hS357⟩⟩
      · replace hm := hm.2 h259
        refine w_exit ?_
        exact ⟨(v246), ⟨rfl, trivial⟩, ⟨hm, hB253, hS254⟩⟩
    · rintro v243 b_ w364 ⟨hm, hB365, hS366⟩
      show Wp _ _ _ _ (upds b_ [(5, .int .i64 v243)]) w364
      refine w_seq fun K367 hK367 => ?_
      refine w_region ?_
      refine wl_val (g_move (v := .int .i64 v243) rfl) rfl ?_
      refine wl_val (g_assign (v := .int .i64 v243) rfl) rfl ?_
      refine wl_nil ?_
      refine hK367 _ _ ?_
      refine w_ret ?_
      repeat first | with_reducible refine q_then ?_ | with_reducible refine q_block ?_
      exact ret1 rfl (by decide) ⟨_, hm, rfl, toExt hB365⟩

theorem m_impl_FewestChanges_fn {w : World} {a0 : Option Addr} {n0 c0 : Nat} {y0 : List PlayerD} {p0 : List PlayerC} {a1 : Option Addr} {n1 c1 : Nat} {y1 : List (Hd Int)} {p1 : List (List Int)} {Q : Int → Prop} (hp0 : Tv w.heap.size w a0 n0 c0 y0 p0) (hp1 : Tv w.heap.size w a1 n1 c1 y1 p1) (hm : m_impl_FewestChanges p0 p1 Q) :
    Fn Try.prog 34 #[.slice a0 n0 c0, .slice a1 n1 c1] w (fun v w' => ∃ (r0 : Int), Q r0 ∧ v = .int .i64 r0 ∧ Ext w w') := by
  unfold m_impl_FewestChanges at hm
  have hB0 := Below.refl w.heap.size w
  have hS0 : Sep w w.heap.size [] := Sep.nil (Nat.le_refl _)
  refine fn_of_wp Try.func34 rfl (by kernel_rfl) (Nat.le_of_ble_eq_true rfl) ?_
  refine w_seq fun K1 hK1 => ?_
  refine w_region ?_
  refine wl_val (g_assign (v := .int .i64 0) rfl) rfl ?_
  refine wl_nil ?_
  refine hK1 _ _ ?_
  refine w_seq fun K2 hK2 => ?_
  refine w_region ?_
  refine wl_val (g_move (v := .slice a0 n0 c0) rfl) rfl ?_
  refine wl_val (g_move (v := .slice a1 n1 c1) rfl) rfl ?_
  refine wl_step rfl (g_call (vs := #[.slice a0 n0 c0, .slice a1 n1 c1]) CF36 (args2 rfl rfl) (m_impl_BestNight_fn ((hp0.bel hB0).up hS0) ((hp1.bel hB0).up hS0) hm)) ?_
  rintro _ w3 ⟨r6, a7, n8, c9, y10, r15, hm, he11, rfl, hE4, hN5⟩
  have hS16 := hS0.call2 hE4 hN5
  have hB17 := hB0.trans (Ext.stp hE4 hS0.base)
  refine wl_val (g_move (v := .tuple #[.slice a7 n8 c9, .bool r15]) rfl) rfl ?_
  refine wl_val (g_extract (vs := #[.slice a7 n8 c9, .bool r15]) rfl rfl) rfl ?_
  refine wl_val (g_extract (vs := #[.slice a7 n8 c9, .bool r15]) rfl rfl) rfl ?_
  refine wl_val (g_assign (v := .slice a7 n8 c9) rfl) rfl ?_
  refine wl_val (g_assign (v := .bool r15) rfl) rfl ?_
  refine wl_nil ?_
  refine hK2 _ _ ?_
  refine w_seq fun K18 hK18 => ?_
  refine w_seq fun K19 hK19 => ?_
  refine w_region ?_
  refine wl_val (g_move (v := .bool r15) rfl) rfl ?_
  refine wl_val (g_not (a := r15) rfl) rfl ?_
  refine wl_nil ?_
  refine hK19 _ _ ?_
  refine w_condI (p := ¬ (r15 = true)) (b := (!r15)) rfl (i_not Iff.rfl) (fun h20 => ?_) (fun h20 => ?_)
  · replace hm := hm.1 h20
    refine w_seq fun K21 hK21 => ?_
    refine w_region ?_
    refine wl_val (g_assign (v := .int .i64 (-1)) rfl) rfl ?_
    refine wl_nil ?_
    refine hK21 _ _ ?_
    refine w_ret ?_
    repeat first | with_reducible refine q_then ?_ | with_reducible refine q_block ?_
    exact ret1 rfl (by decide) ⟨_, hm, rfl, toExt hB17⟩
  · replace hm := hm.2 h20
    refine w_skip ?_
    refine hK18 _ _ ?_
    refine w_seq fun K22 hK22 => ?_
    refine w_region ?_
    refine wl_val (g_move (v := .slice a1 n1 c1) rfl) rfl ?_
    refine wl_val (g_move (v := .slice a7 n8 c9) rfl) rfl ?_
    refine wl_step rfl (g_call (vs := #[.slice a1 n1 c1, .slice a7 n8 c9]) CF51 (args2 rfl rfl) (m_impl_CountChanges_fn ((hp1.bel hB17).up hS16) (oT.vw hS16.g0 hS16.g1 he11) hm)) ?_
    rintro _ w23 ⟨r26, hm, rfl, hE24⟩
    have hB27 := hB17.trans (Ext.stp hE24 hS16.base)
    have hS28 := hS16.ext hE24
    refine wl_val (g_assign (v := .int .i64 r26) rfl) rfl ?_
    refine wl_nil ?_
    refine hK22 _ _ ?_
    refine w_ret ?_
    repeat first | with_reducible refine q_then ?_ | with_reducible refine q_block ?_
    exact ret1 rfl (by decide) ⟨_, hm, rfl, toExt hB27⟩

theorem m_laws_eqIntS_fn {w : World} {a0 : Option Addr} {n0 c0 : Nat} {p0 : List Int} {a1 : Option Addr} {n1 c1 : Nat} {p1 : List Int} {Q : Bool → Prop} (hp0 : Vw w.heap.size w a0 n0 c0 p0) (hp1 : Vw w.heap.size w a1 n1 c1 p1) (hm : m_laws_eqIntS p0 p1 Q) :
    Fn Try.prog 17 #[.slice a0 n0 c0, .slice a1 n1 c1] w (fun v w' => ∃ (r0 : Bool), Q r0 ∧ v = .bool r0 ∧ Ext w w') := by
  unfold m_laws_eqIntS at hm
  have hB0 := Below.refl w.heap.size w
  have hS0 : Sep w w.heap.size [] := Sep.nil (Nat.le_refl _)
  refine fn_of_wp Try.func17 rfl (by kernel_rfl) (Nat.le_of_ble_eq_true rfl) ?_
  refine w_seq fun K1 hK1 => ?_
  refine w_region ?_
  refine wl_val (g_assign (v := .bool false) rfl) rfl ?_
  refine wl_nil ?_
  refine hK1 _ _ ?_
  refine w_seq fun K2 hK2 => ?_
  refine w_seq fun K3 hK3 => ?_
  refine w_region ?_
  refine wl_val (g_move (v := .slice a0 n0 c0) rfl) rfl ?_
  refine wl_val (q_len SL23 rfl (Vw.len (hp0.bel hB0))) rfl ?_
  refine wl_val (g_move (v := .slice a1 n1 c1) rfl) rfl ?_
  refine wl_val (q_len SL23 rfl (Vw.len (hp1.bel hB0))) rfl ?_
  refine wl_val (g_neq (a := (p0.length : Int)) (b := (p1.length : Int)) rfl rfl) rfl ?_
  refine wl_nil ?_
  refine hK3 _ _ ?_
  refine w_condI (p := (p0.length : Int) ≠ (p1.length : Int)) (b := (decide ((p0.length : Int) ≠ (p1.length : Int)))) rfl decide_eq_true_iff (fun h4 => ?_) (fun h4 => ?_)
  · replace hm := hm.1 h4
    refine w_seq fun K5 hK5 => ?_
    refine w_region ?_
    refine wl_val (g_assign (v := .bool false) rfl) rfl ?_
    refine wl_nil ?_
    refine hK5 _ _ ?_
    refine w_ret ?_
    repeat first | with_reducible refine q_then ?_ | with_reducible refine q_block ?_
    exact ret1 rfl (by decide) ⟨_, hm, rfl, toExt hB0⟩
  · replace hm := hm.2 h4
    refine w_skip ?_
    refine hK2 _ _ ?_
    refine w_cut (σ := Unit) (fun _ => []) (fun _ w' => m_laws_eqIntS_K0 Q ∧ Below w.heap.size w w' ∧ Sep w' w.heap.size []) ?_ ?_
    · refine w_seq fun K7 hK7 => ?_
      refine w_region ?_
      refine wl_val (g_assign (v := .int .i64 0) rfl) rfl ?_
      refine wl_nil ?_
      refine hK7 _ _ ?_
      refine w_block ?_
      obtain ⟨I71, μ72, h073, hr74⟩ := hm
      refine w_for (σ := Int) (fun v70 => [(0, .slice a0 n0 c0), (1, .slice a1 n1 c1), (5, .int .i64 v70)]) (fun v70 w' => I71 v70 ∧ Below w.heap.size w w' ∧ Sep w' w.heap.size []) (fun v70 => μ72 v70) (0) ⟨rfl, rfl, rfl, trivial⟩ ⟨h073, hB0, hS0⟩ ?_
      rintro v70 b_ w75 ⟨hi_, hB76, hS77⟩
      show Wp _ _ _ _ (upds b_ [(0, .slice a0 n0 c0), (1, .slice a1 n1 c1), (5, .int .i64 v70)]) w75
      have hm := hr74 v70 hi_
      refine w_seq fun K79 hK79 => ?_
      refine w_seq fun K80 hK80 => ?_
      refine w_region ?_
      refine wl_val (g_move (v := .int .i64 v70) rfl) rfl ?_
      refine wl_val (g_move (v := .slice a0 n0 c0) rfl) rfl ?_
      refine wl_val (q_len SL23 rfl (Vw.len (hp0.bel hB76))) rfl ?_
      refine wl_val (g_lss (a := v70) (b := (p0.length : Int)) rfl rfl) rfl ?_
      refine wl_nil ?_
      refine hK80 _ _ ?_
      refine w_condI (p := v70 < (p0.length : Int)) (b := (decide (v70 < (p0.length : Int)))) rfl decide_eq_true_iff (fun h81 => ?_) (fun h81 => ?_)
      · replace hm := hm.1 h81
        refine w_skip ?_
        refine hK79 _ _ ?_
        refine w_seq fun K82 hK82 => ?_
        refine w_block ?_
        refine w_seq fun K83 hK83 => ?_
        refine w_draw (X := Ext) (Y := Ext) [] MIX (by decide +kernel) rfl Ext.refl (fun _ _ _ => Ext.trans) (fun _ _ _ => Chg.trans) (fun _ _ h => Ext.chg h _) (fun w84 hE85 => ?_)
        have hB86 := hB76.trans (Ext.stp hE85 hS77.base)
        have hS87 := hS77.ext hE85
        refine ⟨.slice a0 n0 c0, fun w88 hX89 => od_plain rfl (by have hS90 := hS87.ext hX89; have hB91 := hB86.trans (Ext.stp hX89 hS87.base); exact is_ext (g_move (v := .slice a0 n0 c0) rfl)), ?_⟩
        refine ⟨.int .i64 v70, fun w92 hX93 => od_plain rfl (by have hS94 := hS87.ext hX93; have hB95 := hB86.trans (Ext.stp hX93 hS87.base); exact is_ext (g_move (v := .int .i64 v70) rfl)), ?_⟩
        obtain ⟨hg100, hm⟩ := hm
        refine ⟨.pointer (some ((adr a0).add ((Int.toNat v70) * El.m Int))), fun w96 hX97 => od_plain rfl (by have hS98 := hS87.ext hX97; have hB99 := hB86.trans (Ext.stp hX97 hS87.base); exact is_ext (q_index (i := v70) SL23 rfl rfl (hp0.bel hB99) hg100)), ?_⟩
        refine ⟨.int .i64 (p0[(Int.toNat v70)]!), fun w101 hX102 => od_plain rfl (by have hS103 := hS87.ext hX102; have hB104 := hB86.trans (Ext.stp hX102 hS87.base); exact is_ext (q_load (i := v70) (v := .int .i64 (p0[(Int.toNat v70)]!)) ON3 (hp0.bel hB104) hg100 rfl rfl)), ?_⟩
        refine ⟨.slice a1 n1 c1, fun w105 hX106 => od_plain rfl (by have hS107 := hS87.ext hX106; have hB108 := hB86.trans (Ext.stp hX106 hS87.base); exact is_ext (g_move (v := .slice a1 n1 c1) rfl)), ?_⟩
        refine ⟨.int .i64 v70, fun w109 hX110 => od_plain rfl (by have hS111 := hS87.ext hX110; have hB112 := hB86.trans (Ext.stp hX110 hS87.base); exact is_ext (g_move (v := .int .i64 v70) rfl)), ?_⟩
        obtain ⟨hg117, hm⟩ := hm
        refine ⟨.pointer (some ((adr a1).add ((Int.toNat v70) * El.m Int))), fun w113 hX114 => od_plain rfl (by have hS115 := hS87.ext hX114; have hB116 := hB86.trans (Ext.stp hX114 hS87.base); exact is_ext (q_index (i := v70) SL23 rfl rfl (hp1.bel hB116) hg117)), ?_⟩
        refine ⟨.int .i64 (p1[(Int.toNat v70)]!), fun w118 hX119 => od_plain rfl (by have hS120 := hS87.ext hX119; have hB121 := hB86.trans (Ext.stp hX119 hS87.base); exact is_ext (q_load (i := v70) (v := .int .i64 (p1[(Int.toNat v70)]!)) ON3 (hp1.bel hB121) hg117 rfl rfl)), ?_⟩
        refine ⟨.bool (decide (p0[(Int.toNat v70)]! ≠ p1[(Int.toNat v70)]!)), fun w122 hX123 => od_plain rfl (by have hS124 := hS87.ext hX123; have hB125 := hB86.trans (Ext.stp hX123 hS87.base); exact is_ext (g_neq (a := p0[(Int.toNat v70)]!) (b := p1[(Int.toNat v70)]!) rfl rfl)), ?_⟩
        intro w126 hX127
        have hB128 := hB86.trans (Ext.stp hX127 hS87.base)
        have hS129 := hS87.ext hX127
        refine hK83 _ _ ?_
        refine w_condI (p := p0[(Int.toNat v70)]! ≠ p1[(Int.toNat v70)]!) (b := (decide (p0[(Int.toNat v70)]! ≠ p1[(Int.toNat v70)]!))) rfl decide_eq_true_iff (fun h130 => ?_) (fun h130 => ?_)
        · replace hm := hm.1 h130
          refine w_seq fun K131 hK131 => ?_
          refine w_region ?_
          refine wl_val (g_assign (v := .bool false) rfl) rfl ?_
          refine wl_nil ?_
          refine hK131 _ _ ?_
          refine w_ret ?_
          repeat first | with_reducible refine q_then ?_ | with_reducible refine q_block ?_
          exact ret1 rfl (by decide) ⟨_, hm, rfl, toExt hB128⟩
        · replace hm := hm.2 h130
          refine w_skip ?_
          refine hK82 _ _ ?_
          refine w_region ?_
          refine wl_val (g_move (v := .int .i64 v70) rfl) rfl ?_
          obtain ⟨hg132, hm⟩ := hm
          refine wl_val (g_add (a := v70) (b := 1) rfl rfl hg132) rfl ?_
          refine wl_val (g_assign (v := .int .i64 (v70 + 1)) rfl) rfl ?_
          refine wl_nil ?_
          exact ⟨((v70 + 1)), hm.2, ⟨rfl, rfl, rfl, trivial⟩, ⟨hm.1, hB128, hS129⟩⟩
      · replace hm := hm.2 h81
        refine w_exit ?_
        exact ⟨(), trivial, ⟨hm, hB76, hS77⟩⟩
    · rintro _ b_ w133 ⟨hm, hB134, hS135⟩
      show Wp _ _ _ _ (upds b_ []) w133
      refine w_seq fun K136 hK136 => ?_
      refine w_region ?_
      refine wl_val (g_assign (v := .bool true) rfl) rfl ?_
      refine wl_nil ?_
      refine hK136 _ _ ?_
      refine w_ret ?_
      repeat first | with_reducible refine q_then ?_ | with_reducible refine q_block ?_
      exact ret1 rfl (by decide) ⟨_, hm, rfl, toExt hB134⟩

theorem m_laws_eqPlayer_fn {w : World} {a0_0 : Option Addr} {n0_0 c0_0 : Nat} {a1_0 : Option Addr} {n1_0 c1_0 : Nat} {Q : Bool → Prop} (p0 : PlayerC) (hp0_0 : Vw w.heap.size w a0_0 n0_0 c0_0 p0.1) (p1 : PlayerC) (hp1_0 : Vw w.heap.size w a1_0 n1_0 c1_0 p1.1) (hm : m_laws_eqPlayer p0 p1 Q) :
    Fn Try.prog 64 #[.agg #[.slice a0_0 n0_0 c0_0, .int .i64 p0.2], .agg #[.slice a1_0 n1_0 c1_0, .int .i64 p1.2]] w (fun v w' => ∃ (r0 : Bool), Q r0 ∧ v = .bool r0 ∧ Ext w w') := by
  unfold m_laws_eqPlayer at hm
  have hB0 := Below.refl w.heap.size w
  have hS0 : Sep w w.heap.size [] := Sep.nil (Nat.le_refl _)
  refine fn_of_wp Try.func64 rfl (by kernel_rfl) (Nat.le_of_ble_eq_true rfl) ?_
  refine w_seq fun K1 hK1 => ?_
  refine w_region ?_
  refine wl_step rfl (q_box (cs := #[.slice a0_0 n0_0 c0_0, .int .i64 p0.2]) rfl rfl hS0) ?_
  rintro _ w2 ⟨g3, rfl, hS5, hE4⟩
  have hB7 := hB0.trans (Ext.stp hE4 hS0.base)
  refine wl_step rfl (q_box (cs := #[.slice a1_0 n1_0 c1_0, .int .i64 p1.2]) rfl rfl hS5) ?_
  rintro _ w8 ⟨g9, rfl, hS11, hE10⟩
  have hB13 := hB7.trans (Ext.stp hE10 hS5.base)
  refine wl_val (g_assign (v := .bool false) rfl) rfl ?_
  refine wl_nil ?_
  refine hK1 _ _ ?_
  refine w_seq fun K14 hK14 => ?_
  refine w_seq fun K15 hK15 => ?_
  refine w_region ?_
  refine wl_val (g_fieldAddr (q := (⟨g3, 0, none⟩ : Addr)) FL54_0 ON23 rfl) rfl ?_
  refine wl_val (q_loadB (i := 0) (bs := #[.slice a0_0 n0_0 c0_0, .int .i64 p0.2]) hS11.g1 ON23 rfl rfl) rfl ?_
  refine wl_val (g_fieldAddr (q := (⟨g9, 0, none⟩ : Addr)) FL54_0 ON23 rfl) rfl ?_
  refine wl_val (q_loadB (i := 0) (bs := #[.slice a1_0 n1_0 c1_0, .int .i64 p1.2]) hS11.g0 ON23 rfl rfl) rfl ?_
  refine wl_step rfl (g_call (vs := #[.slice a0_0 n0_0 c0_0, .slice a1_0 n1_0 c1_0]) CF17 (args2 rfl rfl) (m_laws_eqIntS_fn ((hp0_0.bel hB13).up hS11) ((hp1_0.bel hB13).up hS11) hm)) ?_
  rintro _ w16 ⟨r19, hm, rfl, hE17⟩
  have hB20 := hB13.trans (Ext.stp hE17 hS11.base)
  have hS21 := hS11.ext hE17
  refine wl_val (g_not (a := r19) rfl) rfl ?_
  refine wl_nil ?_
  refine hK15 _ _ ?_
  refine w_condI (p := ¬ (r19 = true)) (b := (!r19)) rfl (i_not Iff.rfl) (fun h22 => ?_) (fun h22 => ?_)
  · replace hm := hm.1 h22
    refine w_seq fun K23 hK23 => ?_
    refine w_region ?_
    refine wl_val (g_assign (v := .bool false) rfl) rfl ?_
    refine wl_nil ?_
    refine hK23 _ _ ?_
    refine w_ret ?_
    repeat first | with_reducible refine q_then ?_ | with_reducible refine q_block ?_
    exact ret1 rfl (by decide) ⟨_, hm, rfl, toExt hB20⟩
  · replace hm := hm.2 h22
    refine w_skip ?_
    refine hK14 _ _ ?_
    refine w_seq fun K24 hK24 => ?_
    refine w_seq fun K25 hK25 => ?_
    refine w_region ?_
    refine wl_val (g_fieldAddr (q := (⟨g3, 0, none⟩ : Addr)) FL54_1 ON3 rfl) rfl ?_
    refine wl_val (q_loadB (i := 1) (bs := #[.slice a0_0 n0_0 c0_0, .int .i64 p0.2]) hS21.g1 ON3 rfl rfl) rfl ?_
    refine wl_val (g_fieldAddr (q := (⟨g9, 0, none⟩ : Addr)) FL54_1 ON3 rfl) rfl ?_
    refine wl_val (q_loadB (i := 1) (bs := #[.slice a1_0 n1_0 c1_0, .int .i64 p1.2]) hS21.g0 ON3 rfl rfl) rfl ?_
    refine wl_val (g_neq (a := p0.2) (b := p1.2) rfl rfl) rfl ?_
    refine wl_nil ?_
    refine hK25 _ _ ?_
    refine w_condI (p := p0.2 ≠ p1.2) (b := (decide (p0.2 ≠ p1.2))) rfl decide_eq_true_iff (fun h26 => ?_) (fun h26 => ?_)
    · replace hm := hm.1 h26
      refine w_seq fun K27 hK27 => ?_
      refine w_region ?_
      refine wl_val (g_assign (v := .bool false) rfl) rfl ?_
      refine wl_nil ?_
      refine hK27 _ _ ?_
      refine w_ret ?_
      repeat first | with_reducible refine q_then ?_ | with_reducible refine q_block ?_
      exact ret1 rfl (by decide) ⟨_, hm, rfl, toExt hB20⟩
    · replace hm := hm.2 h26
      refine w_skip ?_
      refine hK24 _ _ ?_
      refine w_seq fun K28 hK28 => ?_
      refine w_region ?_
      refine wl_val (g_assign (v := .bool true) rfl) rfl ?_
      refine wl_nil ?_
      refine hK28 _ _ ?_
      refine w_ret ?_
      repeat first | with_reducible refine q_then ?_ | with_reducible refine q_block ?_
      exact ret1 rfl (by decide) ⟨_, hm, rfl, toExt hB20⟩

theorem m_laws_eqPlayerS_fn {w : World} {a0 : Option Addr} {n0 c0 : Nat} {y0 : List PlayerD} {p0 : List PlayerC} {a1 : Option Addr} {n1 c1 : Nat} {y1 : List PlayerD} {p1 : List PlayerC} {Q : Bool → Prop} (hp0 : Tv w.heap.size w a0 n0 c0 y0 p0) (hp1 : Tv w.heap.size w a1 n1 c1 y1 p1) (hm : m_laws_eqPlayerS p0 p1 Q) :
    Fn Try.prog 18 #[.slice a0 n0 c0, .slice a1 n1 c1] w (fun v w' => ∃ (r0 : Bool), Q r0 ∧ v = .bool r0 ∧ Ext w w') := by
  unfold m_laws_eqPlayerS at hm
  have hB0 := Below.refl w.heap.size w
  have hS0 : Sep w w.heap.size [] := Sep.nil (Nat.le_refl _)
  refine fn_of_wp Try.func18 rfl (by kernel_rfl) (Nat.le_of_ble_eq_true rfl) ?_
  refine w_seq fun K1 hK1 => ?_
  refine w_region ?_
  refine wl_val (g_assign (v := .bool false) rfl) rfl ?_
  refine wl_nil ?_
  refine hK1 _ _ ?_
  refine w_seq fun K2 hK2 => ?_
  refine w_seq fun K3 hK3 => ?_
  refine w_region ?_
  refine wl_val (g_move (v := .slice a0 n0 c0) rfl) rfl ?_
  refine wl_val (q_len SL27 rfl (Tv.len (hp0.bel hB0))) rfl ?_
  refine wl_val (g_move (v := .slice a1 n1 c1) rfl) rfl ?_
  refine wl_val (q_len SL27 rfl (Tv.len (hp1.bel hB0))) rfl ?_
  refine wl_val (g_neq (a := (p0.length : Int)) (b := (p1.length : Int)) rfl rfl) rfl ?_
  refine wl_nil ?_
  refine hK3 _ _ ?_
  refine w_condI (p := (p0.length : Int) ≠ (p1.length : Int)) (b := (decide ((p0.length : Int) ≠ (p1.length : Int)))) rfl decide_eq_true_iff (fun h4 => ?_) (fun h4 => ?_)
  · replace hm := hm.1 h4
    refine w_seq fun K5 hK5 => ?_
    refine w_region ?_
    refine wl_val (g_assign (v := .bool false) rfl) rfl ?_
    refine wl_nil ?_
    refine hK5 _ _ ?_
    refine w_ret ?_
    repeat first | with_reducible refine q_then ?_ | with_reducible refine q_block ?_
    exact ret1 rfl (by decide) ⟨_, hm, rfl, toExt hB0⟩
  · replace hm := hm.2 h4
    refine w_skip ?_
    refine hK2 _ _ ?_
    refine w_cut (σ := Unit) (fun _ => []) (fun _ w' => m_laws_eqPlayerS_K0 Q ∧ Below w.heap.size w w' ∧ Sep w' w.heap.size []) ?_ ?_
    · refine w_seq fun K7 hK7 => ?_
      refine w_region ?_
      refine wl_val (g_assign (v := .int .i64 0) rfl) rfl ?_
      refine wl_nil ?_
      refine hK7 _ _ ?_
      refine w_block ?_
      obtain ⟨I77, μ78, h079, hr80⟩ := hm
      refine w_for (σ := Int) (fun v76 => [(0, .slice a0 n0 c0), (1, .slice a1 n1 c1), (5, .int .i64 v76)]) (fun v76 w' => I77 v76 ∧ Below w.heap.size w w' ∧ Sep w' w.heap.size []) (fun v76 => μ78 v76) (0) ⟨rfl, rfl, rfl, trivial⟩ ⟨h079, hB0, hS0⟩ ?_
      rintro v76 b_ w81 ⟨hi_, hB82, hS83⟩
      show Wp _ _ _ _ (upds b_ [(0, .slice a0 n0 c0), (1, .slice a1 n1 c1), (5, .int .i64 v76)]) w81
      have hm := hr80 v76 hi_
      refine w_seq fun K85 hK85 => ?_
      refine w_seq fun K86 hK86 => ?_
      refine w_region ?_
      refine wl_val (g_move (v := .int .i64 v76) rfl) rfl ?_
      refine wl_val (g_move (v := .slice a0 n0 c0) rfl) rfl ?_
      refine wl_val (q_len SL27 rfl (Tv.len (hp0.bel hB82))) rfl ?_
      refine wl_val (g_lss (a := v76) (b := (p0.length : Int)) rfl rfl) rfl ?_
      refine wl_nil ?_
      refine hK86 _ _ ?_
      refine w_condI (p := v76 < (p0.length : Int)) (b := (decide (v76 < (p0.length : Int)))) rfl decide_eq_true_iff (fun h87 => ?_) (fun h87 => ?_)
      · replace hm := hm.1 h87
        refine w_skip ?_
        refine hK85 _ _ ?_
        refine w_seq fun K88 hK88 => ?_
        refine w_block ?_
        refine w_seq fun K89 hK89 => ?_
        refine w_draw (X := Ext) (Y := Ext) [] MIX (by decide +kernel) rfl Ext.refl (fun _ _ _ => Ext.trans) (fun _ _ _ => Chg.trans) (fun _ _ h => Ext.chg h _) (fun w90 hE91 => ?_)
        have hB92 := hB82.trans (Ext.stp hE91 hS83.base)
        have hS93 := hS83.ext hE91
        refine ⟨.slice a0 n0 c0, fun w94 hX95 => od_plain rfl (by have hS96 := hS93.ext hX95; have hB97 := hB92.trans (Ext.stp hX95 hS93.base); exact is_ext (g_move (v := .slice a0 n0 c0) rfl)), ?_⟩
        refine ⟨.int .i64 v76, fun w98 hX99 => od_plain rfl (by have hS100 := hS93.ext hX99; have hB101 := hB92.trans (Ext.stp hX99 hS93.base); exact is_ext (g_move (v := .int .i64 v76) rfl)), ?_⟩
        obtain ⟨hg106, hm⟩ := hm
        refine ⟨.pointer (some ((adr a0).add ((Int.toNat v76) * El.m PlayerD))), fun w102 hX103 => od_plain rfl (by have hS104 := hS93.ext hX103; have hB105 := hB92.trans (Ext.stp hX103 hS93.base); exact is_ext (q_index (i := v76) SL27 rfl rfl (Tv.o (hp0.bel hB105)) (Tv.g (hp0.bel hB105) hg106))), ?_⟩
        refine ⟨.agg #[.slice ((y0[(Int.toNat v76)]!).1.1) ((y0[(Int.toNat v76)]!).1.2.2.length) ((y0[(Int.toNat v76)]!).1.2.1), .int .i64 (p0[(Int.toNat v76)]!.2)], fun w107 hX108 => od_plain rfl (by have hS109 := hS93.ext hX108; have hB110 := hB92.trans (Ext.stp hX108 hS93.base); exact is_ext (q_loadS (i := v76) (cs := [.slice ((y0[(Int.toNat v76)]!).1.1) ((y0[(Int.toNat v76)]!).1.2.2.length) ((y0[(Int.toNat v76)]!).1.2.1), .int .i64 (p0[(Int.toNat v76)]!.2)]) AG54 (Tv.o (hp0.bel hB110)) (Tv.g (hp0.bel hB110) hg106) (by rw [← Tv.free (hp0.bel hB110) hg106]; rfl) rfl)), ?_⟩
        refine ⟨.slice a1 n1 c1, fun w111 hX112 => od_plain rfl (by have hS113 := hS93.ext hX112; have hB114 := hB92.trans (Ext.stp hX112 hS93.base); exact is_ext (g_move (v := .slice a1 n1 c1) rfl)), ?_⟩
        refine ⟨.int .i64 v76, fun w115 hX116 => od_plain rfl (by have hS117 := hS93.ext hX116; have hB118 := hB92.trans (Ext.stp hX116 hS93.base); exact is_ext (g_move (v := .int .i64 v76) rfl)), ?_⟩
        obtain ⟨hg123, hm⟩ := hm
        refine ⟨.pointer (some ((adr a1).add ((Int.toNat v76) * El.m PlayerD))), fun w119 hX120 => od_plain rfl (by have hS121 := hS93.ext hX120; have hB122 := hB92.trans (Ext.stp hX120 hS93.base); exact is_ext (q_index (i := v76) SL27 rfl rfl (Tv.o (hp1.bel hB122)) (Tv.g (hp1.bel hB122) hg123))), ?_⟩
        refine ⟨.agg #[.slice ((y1[(Int.toNat v76)]!).1.1) ((y1[(Int.toNat v76)]!).1.2.2.length) ((y1[(Int.toNat v76)]!).1.2.1), .int .i64 (p1[(Int.toNat v76)]!.2)], fun w124 hX125 => od_plain rfl (by have hS126 := hS93.ext hX125; have hB127 := hB92.trans (Ext.stp hX125 hS93.base); exact is_ext (q_loadS (i := v76) (cs := [.slice ((y1[(Int.toNat v76)]!).1.1) ((y1[(Int.toNat v76)]!).1.2.2.length) ((y1[(Int.toNat v76)]!).1.2.1), .int .i64 (p1[(Int.toNat v76)]!.2)]) AG54 (Tv.o (hp1.bel hB127)) (Tv.g (hp1.bel hB127) hg123) (by rw [← Tv.free (hp1.bel hB127) hg123]; rfl) rfl)), ?_⟩
        obtain ⟨r132, hk133, hm⟩ := hm
        refine ⟨.bool r132, fun w128 hX129 => od_plain rfl (by have hS130 := hS93.ext hX129; have hB131 := hB92.trans (Ext.stp hX129 hS93.base); exact (g_call (vs := #[.agg #[.slice ((y0[(Int.toNat v76)]!).1.1) ((y0[(Int.toNat v76)]!).1.2.2.length) ((y0[(Int.toNat v76)]!).1.2.1), .int .i64 (p0[(Int.toNat v76)]!.2)], .agg #[.slice ((y1[(Int.toNat v76)]!).1.1) ((y1[(Int.toNat v76)]!).1.2.2.length) ((y1[(Int.toNat v76)]!).1.2.1), .int .i64 (p1[(Int.toNat v76)]!.2)]]) CF64 (args2 rfl rfl) ((m_laws_eqPlayer_fn (p0[(Int.toNat v76)]!) ((Tv.rowP (hp0.bel hB131) hg106).up hS130) (p1[(Int.toNat v76)]!) ((Tv.rowP (hp1.bel hB131) hg123).up hS130) hk133).mono fun _ _ ⟨_, h1, h2, h3⟩ => ⟨by rw [h2, h1], h3⟩))), ?_⟩
        refine ⟨.bool (!r132), fun w134 hX135 => od_plain rfl (by have hS136 := hS93.ext hX135; have hB137 := hB92.trans (Ext.stp hX135 hS93.base); exact is_ext (g_not (a := r132) rfl)), ?_⟩
        intro w138 hX139
        have hB140 := hB92.trans (Ext.stp hX139 hS93.base)
        have hS141 := hS93.ext hX139
        refine hK89 _ _ ?_
        refine w_condI (p := ¬ (r132 = true)) (b := (!r132)) rfl (i_not Iff.rfl) (fun h142 => ?_) (fun h142 => ?_)
        · replace hm := hm.1 h142
          refine w_seq fun K143 hK143 => ?_
          refine w_region ?_
          refine wl_val (g_assign (v := .bool false) rfl) rfl ?_
          refine wl_nil ?_
          refine hK143 _ _ ?_
          refine w_ret ?_
          repeat first | with_reducible refine q_then ?_ | with_reducible refine q_block ?_
          exact ret1 rfl (by decide) ⟨_, hm, rfl, toExt hB140⟩
        · replace hm := hm.2 h142
          refine w_skip ?_
          refine hK88 _ _ ?_
          refine w_region ?_
          refine wl_val (g_move (v := .int .i64 v76) rfl) rfl ?_
          obtain ⟨hg144, hm⟩ := hm
          refine wl_val (g_add (a := v76) (b := 1) rfl rfl hg144) rfl ?_
          refine wl_val (g_assign (v := .int .i64 (v76 + 1)) rfl) rfl ?_
          refine wl_nil ?_
          exact ⟨((v76 + 1)), hm.2, ⟨rfl, rfl, rfl, trivial⟩, ⟨hm.1, hB140, hS141⟩⟩
      · replace hm := hm.2 h87
        refine w_exit ?_
        exact ⟨(), trivial, ⟨hm, hB82, hS83⟩⟩
    · rintro _ b_ w145 ⟨hm, hB146, hS147⟩
      show Wp _ _ _ _ (upds b_ []) w145
      refine w_seq fun K148 hK148 => ?_
      refine w_region ?_
      refine wl_val (g_assign (v := .bool true) rfl) rfl ?_
      refine wl_nil ?_
      refine hK148 _ _ ?_
      refine w_ret ?_
      repeat first | with_reducible refine q_then ?_ | with_reducible refine q_block ?_
      exact ret1 rfl (by decide) ⟨_, hm, rfl, toExt hB146⟩

theorem m_laws_eqIntSS_fn {w : World} {a0 : Option Addr} {n0 c0 : Nat} {y0 : List (Hd Int)} {p0 : List (List Int)} {a1 : Option Addr} {n1 c1 : Nat} {y1 : List (Hd Int)} {p1 : List (List Int)} {Q : Bool → Prop} (hp0 : Tv w.heap.size w a0 n0 c0 y0 p0) (hp1 : Tv w.heap.size w a1 n1 c1 y1 p1) (hm : m_laws_eqIntSS p0 p1 Q) :
    Fn Try.prog 28 #[.slice a0 n0 c0, .slice a1 n1 c1] w (fun v w' => ∃ (r0 : Bool), Q r0 ∧ v = .bool r0 ∧ Ext w w') := by
  unfold m_laws_eqIntSS at hm
  have hB0 := Below.refl w.heap.size w
  have hS0 : Sep w w.heap.size [] := Sep.nil (Nat.le_refl _)
  refine fn_of_wp Try.func28 rfl (by kernel_rfl) (Nat.le_of_ble_eq_true rfl) ?_
  refine w_seq fun K1 hK1 => ?_
  refine w_region ?_
  refine wl_val (g_assign (v := .bool false) rfl) rfl ?_
  refine wl_nil ?_
  refine hK1 _ _ ?_
  refine w_seq fun K2 hK2 => ?_
  refine w_seq fun K3 hK3 => ?_
  refine w_region ?_
  refine wl_val (g_move (v := .slice a0 n0 c0) rfl) rfl ?_
  refine wl_val (q_len SL37 rfl (Tv.len (hp0.bel hB0))) rfl ?_
  refine wl_val (g_move (v := .slice a1 n1 c1) rfl) rfl ?_
  refine wl_val (q_len SL37 rfl (Tv.len (hp1.bel hB0))) rfl ?_
  refine wl_val (g_neq (a := (p0.length : Int)) (b := (p1.length : Int)) rfl rfl) rfl ?_
  refine wl_nil ?_
  refine hK3 _ _ ?_
  refine w_condI (p := (p0.length : Int) ≠ (p1.length : Int)) (b := (decide ((p0.length : Int) ≠ (p1.length : Int)))) rfl decide_eq_true_iff (fun h4 => ?_) (fun h4 => ?_)
  · replace hm := hm.1 h4
    refine w_seq fun K5 hK5 => ?_
    refine w_region ?_
    refine wl_val (g_assign (v := .bool false) rfl) rfl ?_
    refine wl_nil ?_
    refine hK5 _ _ ?_
    refine w_ret ?_
    repeat first | with_reducible refine q_then ?_ | with_reducible refine q_block ?_
    exact ret1 rfl (by decide) ⟨_, hm, rfl, toExt hB0⟩
  · replace hm := hm.2 h4
    refine w_skip ?_
    refine hK2 _ _ ?_
    refine w_cut (σ := Unit) (fun _ => []) (fun _ w' => m_laws_eqIntSS_K0 Q ∧ Below w.heap.size w w' ∧ Sep w' w.heap.size []) ?_ ?_
    · refine w_seq fun K7 hK7 => ?_
      refine w_region ?_
      refine wl_val (g_assign (v := .int .i64 0) rfl) rfl ?_
      refine wl_nil ?_
      refine hK7 _ _ ?_
      refine w_block ?_
      obtain ⟨I77, μ78, h079, hr80⟩ := hm
      refine w_for (σ := Int) (fun v76 => [(0, .slice a0 n0 c0), (1, .slice a1 n1 c1), (5, .int .i64 v76)]) (fun v76 w' => I77 v76 ∧ Below w.heap.size w w' ∧ Sep w' w.heap.size []) (fun v76 => μ78 v76) (0) ⟨rfl, rfl, rfl, trivial⟩ ⟨h079, hB0, hS0⟩ ?_
      rintro v76 b_ w81 ⟨hi_, hB82, hS83⟩
      show Wp _ _ _ _ (upds b_ [(0, .slice a0 n0 c0), (1, .slice a1 n1 c1), (5, .int .i64 v76)]) w81
      have hm := hr80 v76 hi_
      refine w_seq fun K85 hK85 => ?_
      refine w_seq fun K86 hK86 => ?_
      refine w_region ?_
      refine wl_val (g_move (v := .int .i64 v76) rfl) rfl ?_
      refine wl_val (g_move (v := .slice a0 n0 c0) rfl) rfl ?_
      refine wl_val (q_len SL37 rfl (Tv.len (hp0.bel hB82))) rfl ?_
      refine wl_val (g_lss (a := v76) (b := (p0.length : Int)) rfl rfl) rfl ?_
      refine wl_nil ?_
      refine hK86 _ _ ?_
      refine w_condI (p := v76 < (p0.length : Int)) (b := (decide (v76 < (p0.length : Int)))) rfl decide_eq_true_iff (fun h87 => ?_) (fun h87 => ?_)
      · replace hm := hm.1 h87
        refine w_skip ?_
        refine hK85 _ _ ?_
        refine w_seq fun K88 hK88 => ?_
        refine w_block ?_
        refine w_seq fun K89 hK89 => ?_
        refine w_draw (X := Ext) (Y := Ext) [] MIX (by decide +kernel) rfl Ext.refl (fun _ _ _ => Ext.trans) (fun _ _ _ => Chg.trans) (fun _ _ h => Ext.chg h _) (fun w90 hE91 => ?_)
        have hB92 := hB82.trans (Ext.stp hE91 hS83.base)
        have hS93 := hS83.ext hE91
        refine ⟨.slice a0 n0 c0, fun w94 hX95 => od_plain rfl (by have hS96 := hS93.ext hX95; have hB97 := hB92.trans (Ext.stp hX95 hS93.base); exact is_ext (g_move (v := .slice a0 n0 c0) rfl)), ?_⟩
        refine ⟨.int .i64 v76, fun w98 hX99 => od_plain rfl (by have hS100 := hS93.ext hX99; have hB101 := hB92.trans (Ext.stp hX99 hS93.base); exact is_ext (g_move (v := .int .i64 v76) rfl)), ?_⟩
        obtain ⟨hg106, hm⟩ := hm
        refine ⟨.pointer (some ((adr a0).add ((Int.toNat v76) * El.m (Hd Int)))), fun w102 hX103 => od_plain rfl (by have hS104 := hS93.ext hX103; have hB105 := hB92.trans (Ext.stp hX103 hS93.base); exact is_ext (q_index (i := v76) SL37 rfl rfl (Tv.o (hp0.bel hB105)) (Tv.g (hp0.bel hB105) hg106))), ?_⟩
        refine ⟨.slice ((y0[(Int.toNat v76)]!).1) ((y0[(Int.toNat v76)]!).2.2.length) ((y0[(Int.toNat v76)]!).2.1), fun w107 hX108 => od_plain rfl (by have hS109 := hS93.ext hX108; have hB110 := hB92.trans (Ext.stp hX108 hS93.base); exact is_ext (q_load (i := v76) (v := .slice ((y0[(Int.toNat v76)]!).1) ((y0[(Int.toNat v76)]!).2.2.length) ((y0[(Int.toNat v76)]!).2.1)) ON23 (Tv.o (hp0.bel hB110)) (Tv.g (hp0.bel hB110) hg106) rfl rfl)), ?_⟩
        refine ⟨.slice a1 n1 c1, fun w111 hX112 => od_plain rfl (by have hS113 := hS93.ext hX112; have hB114 := hB92.trans (Ext.stp hX112 hS93.base); exact is_ext (g_move (v := .slice a1 n1 c1) rfl)), ?_⟩
        refine ⟨.int .i64 v76, fun w115 hX116 => od_plain rfl (by have hS117 := hS93.ext hX116; have hB118 := hB92.trans (Ext.stp hX116 hS93.base); exact is_ext (g_move (v := .int .i64 v76) rfl)), ?_⟩
        obtain ⟨hg123, hm⟩ := hm
        refine ⟨.pointer (some ((adr a1).add ((Int.toNat v76) * El.m (Hd Int)))), fun w119 hX120 => od_plain rfl (by have hS121 := hS93.ext hX120; have hB122 := hB92.trans (Ext.stp hX120 hS93.base); exact is_ext (q_index (i := v76) SL37 rfl rfl (Tv.o (hp1.bel hB122)) (Tv.g (hp1.bel hB122) hg123))), ?_⟩
        refine ⟨.slice ((y1[(Int.toNat v76)]!).1) ((y1[(Int.toNat v76)]!).2.2.length) ((y1[(Int.toNat v76)]!).2.1), fun w124 hX125 => od_plain rfl (by have hS126 := hS93.ext hX125; have hB127 := hB92.trans (Ext.stp hX125 hS93.base); exact is_ext (q_load (i := v76) (v := .slice ((y1[(Int.toNat v76)]!).1) ((y1[(Int.toNat v76)]!).2.2.length) ((y1[(Int.toNat v76)]!).2.1)) ON23 (Tv.o (hp1.bel hB127)) (Tv.g (hp1.bel hB127) hg123) rfl rfl)), ?_⟩
        obtain ⟨r132, hk133, hm⟩ := hm
        refine ⟨.bool r132, fun w128 hX129 => od_plain rfl (by have hS130 := hS93.ext hX129; have hB131 := hB92.trans (Ext.stp hX129 hS93.base); exact (g_call (vs := #[.slice ((y0[(Int.toNat v76)]!).1) ((y0[(Int.toNat v76)]!).2.2.length) ((y0[(Int.toNat v76)]!).2.1), .slice ((y1[(Int.toNat v76)]!).1) ((y1[(Int.toNat v76)]!).2.2.length) ((y1[(Int.toNat v76)]!).2.1)]) CF17 (args2 rfl rfl) ((m_laws_eqIntS_fn ((Tv.row (hp0.bel hB131) hg106).up hS130) ((Tv.row (hp1.bel hB131) hg123).up hS130) hk133).mono fun _ _ ⟨_, h1, h2, h3⟩ => ⟨by rw [h2, h1], h3⟩))), ?_⟩
        refine ⟨.bool (!r132), fun w134 hX135 => od_plain rfl (by have hS136 := hS93.ext hX135; have hB137 := hB92.trans (Ext.stp hX135 hS93.base); exact is_ext (g_not (a := r132) rfl)), ?_⟩
        intro w138 hX139
        have hB140 := hB92.trans (Ext.stp hX139 hS93.base)
        have hS141 := hS93.ext hX139
        refine hK89 _ _ ?_
        refine w_condI (p := ¬ (r132 = true)) (b := (!r132)) rfl (i_not Iff.rfl) (fun h142 => ?_) (fun h142 => ?_)
        · replace hm := hm.1 h142
          refine w_seq fun K143 hK143 => ?_
          refine w_region ?_
          refine wl_val (g_assign (v := .bool false) rfl) rfl ?_
          refine wl_nil ?_
          refine hK143 _ _ ?_
          refine w_ret ?_
          repeat first | with_reducible refine q_then ?_ | with_reducible refine q_block ?_
          exact ret1 rfl (by decide) ⟨_, hm, rfl, toExt hB140⟩
        · replace hm := hm.2 h142
          refine w_skip ?_
          refine hK88 _ _ ?_
          refine w_region ?_
          refine wl_val (g_move (v := .int .i64 v76) rfl) rfl ?_
          obtain ⟨hg144, hm⟩ := hm
          refine wl_val (g_add (a := v76) (b := 1) rfl rfl hg144) rfl ?_
          refine wl_val (g_assign (v := .int .i64 (v76 + 1)) rfl) rfl ?_
          refine wl_nil ?_
          exact ⟨((v76 + 1)), hm.2, ⟨rfl, rfl, rfl, trivial⟩, ⟨hm.1, hB140, hS141⟩⟩
      · replace hm := hm.2 h87
        refine w_exit ?_
        exact ⟨(), trivial, ⟨hm, hB82, hS83⟩⟩
    · rintro _ b_ w145 ⟨hm, hB146, hS147⟩
      show Wp _ _ _ _ (upds b_ []) w145
      refine w_seq fun K148 hK148 => ?_
      refine w_region ?_
      refine wl_val (g_assign (v := .bool true) rfl) rfl ?_
      refine wl_nil ?_
      refine hK148 _ _ ?_
      refine w_ret ?_
      repeat first | with_reducible refine q_then ?_ | with_reducible refine q_block ?_
      exact ret1 rfl (by decide) ⟨_, hm, rfl, toExt hB146⟩

theorem m_spec_BestNight_fn {w : World} {a0 : Option Addr} {n0 c0 : Nat} {y0 : List PlayerD} {p0 : List PlayerC} {a1 : Option Addr} {n1 c1 : Nat} {y1 : List (Hd Int)} {p1 : List (List Int)} {Q : (List (List Int)) → Bool → Prop} (hp0 : Tv w.heap.size w a0 n0 c0 y0 p0) (hp1 : Tv w.heap.size w a1 n1 c1 y1 p1) (hm : m_spec_BestNight p0 p1 Q) :
    Fn Try.prog 35 #[.slice a0 n0 c0, .slice a1 n1 c1] w (fun v w' => ∃ (r0 : List (List Int)) (a0 : Option Addr) (n0 c0 : Nat) (y0 : List (Hd Int)) (r1 : Bool), Q r0 r1 ∧ ers y0 = r0 ∧ v = .tuple #[.slice a0 n0 c0, .bool r1] ∧ Ext w w' ∧ Sep w' w.heap.size [oS 23 a0 n0 c0 y0, oT 3 y0]) := by
  unfold m_spec_BestNight at hm
  have hB0 := Below.refl w.heap.size w
  have hS0 : Sep w w.heap.size [] := Sep.nil (Nat.le_refl _)
  refine fn_of_wp Try.func35 rfl (by kernel_rfl) (Nat.le_of_ble_eq_true rfl) ?_
  refine w_seq fun K1 hK1 => ?_
  refine w_region ?_
  refine wl_val (g_assign (v := .slice none 0 0) rfl) rfl ?_
  refine wl_val (g_assign (v := .bool false) rfl) rfl ?_
  refine wl_nil ?_
  refine hK1 _ _ ?_
  refine w_seq fun K2 hK2 => ?_
  refine w_region ?_
  refine wl_step rfl (q_lit0 (α := (Hd Int)) rfl SL37 hS0) ?_
  rintro _ w3 ⟨a4, rfl, hS6, hE5⟩
  have hB8 := hB0.trans (Ext.stp hE5 hS0.base)
  have hS9 := hS6.noRows (δ := Hd Int) (E := 3)
  have he11 : ers ([] : List (Hd Int)) = ([] : List (List Int)) := rfl
  refine wl_val (g_assign (v := .slice a4 0 0) rfl) rfl ?_
  refine wl_nil ?_
  refine hK2 _ _ ?_
  refine w_seq fun K13 hK13 => ?_
  refine w_region ?_
  refine wl_val (g_move (v := .slice a0 n0 c0) rfl) rfl ?_
  refine wl_val (g_move (v := .slice a1 n1 c1) rfl) rfl ?_
  refine wl_step rfl (g_call (vs := #[.slice a0 n0 c0, .slice a1 n1 c1]) CF32 (args2 rfl rfl) (m_spec_FewestChanges_fn ((hp0.bel hB8).up hS9) ((hp1.bel hB8).up hS9) hm)) ?_
  rintro _ w14 ⟨r17, hm, rfl, hE15⟩
  have hB18 := hB8.trans (Ext.stp hE15 hS9.base)
  have hS19 := hS9.ext hE15
  refine wl_val (g_assign (v := .int .i64 r17) rfl) rfl ?_
  refine wl_nil ?_
  refine hK13 _ _ ?_
  refine w_seq fun K20 hK20 => ?_
  refine w_seq fun K21 hK21 => ?_
  refine w_region ?_
  refine wl_val (g_move (v := .int .i64 r17) rfl) rfl ?_
  refine wl_val (g_lss (a := r17) (b := 0) rfl rfl) rfl ?_
  refine wl_nil ?_
  refine hK21 _ _ ?_
  refine w_condI (p := r17 < 0) (b := (decide (r17 < 0))) rfl decide_eq_true_iff (fun h22 => ?_) (fun h22 => ?_)
  · replace hm := hm.1 h22
    refine w_seq fun K23 hK23 => ?_
    refine w_region ?_
    refine wl_val (g_move (v := .slice a4 0 0) rfl) rfl ?_
    refine wl_val (g_assign (v := .slice a4 0 0) rfl) rfl ?_
    refine wl_val (g_assign (v := .bool false) rfl) rfl ?_
    refine wl_nil ?_
    refine hK23 _ _ ?_
    refine w_ret ?_
    have hS24 := hS19.f1
    repeat first | with_reducible refine q_then ?_ | with_reducible refine q_block ?_
    exact ret2 rfl (by decide) (by decide) ⟨_, _, _, _, _, _, hm, he11, rfl, toExt hB18, hS24⟩
  · replace hm := hm.2 h22
    refine w_skip ?_
    refine hK20 _ _ ?_
    refine w_seq fun K25 hK25 => ?_
    refine w_region ?_
    refine wl_val (g_move (v := .slice a0 n0 c0) rfl) rfl ?_
    refine wl_val (g_move (v := .slice a1 n1 c1) rfl) rfl ?_
    refine wl_step rfl (g_call (vs := #[.slice a0 n0 c0, .slice a1 n1 c1]) CF75 (args2 rfl rfl) (m_spec_l15Costs_fn ((hp0.bel hB18).up hS19) ((hp1.bel hB18).up hS19) hm)) ?_
    rintro _ w26 ⟨r29, a30, n31, c32, y33, hm, he34, rfl, hE27, hN28⟩
    have hS38 := hS19.call2 hE27 hN28
    have hB39 := hB18.trans (Ext.stp hE27 hS19.base)
    refine wl_val (g_assign (v := .slice a30 n31 c32) rfl) rfl ?_
    refine wl_nil ?_
    refine hK25 _ _ ?_
    refine w_cut (σ := List (List Int) × Option Addr × Nat × Nat × List (Hd Int)) (fun ⟨x976, a977, n978, c979, y980⟩ => [(6, .slice a977 n978 c979)]) (fun ⟨x976, a977, n978, c979, y980⟩ w' => m_spec_BestNight_K2 Q x976 ∧ ers y980 = x976 ∧ Below w.heap.size w w' ∧ Sep w' w.heap.size [oS 23 a977 n978 c979 (y980 : List (Hd Int)), oT 3 (y980 : List (Hd Int))]) ?_ ?_
    · refine w_seq fun K983 hK983 => ?_
      refine w_region ?_
      refine wl_val (g_assign (v := .int .i64 0) rfl) rfl ?_
      refine wl_nil ?_
      refine hK983 _ _ ?_
      refine w_block ?_
      have hS992 := hS38.f1
      have hS993 := hS992.f1
      have hS994 := hS993.f2
      have hS995 := hS994.f3
      obtain ⟨I996, μ997, h0998, hr999⟩ := hm
      refine w_for (σ := List (List Int) × Option Addr × Nat × Nat × List (Hd Int) × Int × Int) (fun ⟨x984, a985, n986, c987, y988, v990, v991⟩ => [(0, .slice a0 n0 c0), (1, .slice a1 n1 c1), (6, .slice a985 n986 c987), (7, .int .i64 v990), (8, .slice a30 n31 c32), (9, .int .i64 v991)]) (fun ⟨x984, a985, n986, c987, y988, v990, v991⟩ w' => I996 x984 v990 v991 ∧ ers y988 = x984 ∧ Below w.heap.size w w' ∧ Sep w' w.heap.size [oS 23 a985 n986 c987 (y988 : List (Hd Int)), oT 3 (y988 : List (Hd Int)), oS 23 a30 n31 c32 (y33 : List (Hd Int)), oT 3 (y33 : List (Hd Int))]) (fun ⟨x984, a985, n986, c987, y988, v990, v991⟩ => μ997 x984 v990 v991) ([], a4, 0, 0, [], r17, 0) ⟨rfl, rfl, rfl, rfl, rfl, rfl, trivial⟩ ⟨h0998, he11, hB39, hS995⟩ ?_
      rintro ⟨x984, a985, n986, c987, y988, v990, v991⟩ b_ w1000 ⟨hi_, he989, hB1001, hS1002⟩
      show Wp _ _ _ _ (upds b_ [(0, .slice a0 n0 c0), (1, .slice a1 n1 c1), (6, .slice a985 n986 c987), (7, .int .i64 v990), (8, .slice a30 n31 c32), (9, .int .i64 v991)]) w1000
      have hm := hr999 x984 v990 v991 hi_
      refine w_seq fun K1004 hK1004 => ?_
      refine w_seq fun K1005 hK1005 => ?_
      refine w_region ?_
      refine wl_val (g_move (v := .int .i64 v991) rfl) rfl ?_
      refine wl_val (g_move (v := .slice a1 n1 c1) rfl) rfl ?_
      refine wl_val (q_len SL37 rfl (Tv.len (hp1.bel hB1001))) rfl ?_
      refine wl_val (g_lss (a := v991) (b := (p1.length : Int)) rfl rfl) rfl ?_
      refine wl_nil ?_
      refine hK1005 _ _ ?_
      refine w_condI (p := v991 < (p1.length : Int)) (b := (decide (v991 < (p1.length : Int)))) rfl decide_eq_true_iff (fun h1006 => ?_) (fun h1006 => ?_)
      · replace hm := hm.1 h1006
        refine w_skip ?_
        refine hK1004 _ _ ?_
        refine w_cut (σ := List (List Int) × Option Addr × Nat × Nat × List (Hd Int) × Int) (fun ⟨x1007, a1008, n1009, c1010, y1011, v1013⟩ => [(0, .slice a0 n0 c0), (1, .slice a1 n1 c1), (6, .slice a1008 n1009 c1010), (7, .int .i64 v1013), (8, .slice a30 n31 c32), (9, .int .i64 v991)]) (fun ⟨x1007, a1008, n1009, c1010, y1011, v1013⟩ w' => m_spec_BestNight_K1 v991 (fun x984' v990' v991' => I996 x984' v990' v991' ∧ μ997 x984' v990' v991' < μ997 x984 v990 v991) x1007 v1013 ∧ ers y1011 = x1007 ∧ Below w.heap.size w w' ∧ Sep w' w.heap.size [oS 23 a1008 n1009 c1010 (y1011 : List (Hd Int)), oT 3 (y1011 : List (Hd Int)), oS 23 a30 n31 c32 (y33 : List (Hd Int)), oT 3 (y33 : List (Hd Int))]) ?_ ?_
        · refine w_block ?_
          refine w_seq fun K1015 hK1015 => ?_
          refine w_region ?_
          refine wl_val (g_move (v := .slice a0 n0 c0) rfl) rfl ?_
          refine wl_val (g_move (v := .slice a1 n1 c1) rfl) rfl ?_
          refine wl_val (g_move (v := .int .i64 v991) rfl) rfl ?_
          obtain ⟨hg1016, hm⟩ := hm
          refine wl_val (q_index (i := v991) SL37 rfl rfl (Tv.o (hp1.bel hB1001)) (Tv.g (hp1.bel hB1001) hg1016)) rfl ?_
          refine wl_val (q_load (i := v991) (v := .slice ((y1[(Int.toNat v991)]!).1) ((y1[(Int.toNat v991)]!).2.2.length) ((y1[(Int.toNat v991)]!).2.1)) ON23 (Tv.o (hp1.bel hB1001)) (Tv.g (hp1.bel hB1001) hg1016) rfl rfl) rfl ?_
          refine wl_step rfl (g_call (vs := #[.slice a0 n0 c0, .slice ((y1[(Int.toNat v991)]!).1) ((y1[(Int.toNat v991)]!).2.2.length) ((y1[(Int.toNat v991)]!).2.1)]) CF26 (args2 rfl rfl) (m_spec_CastingsOf_fn ((hp0.bel hB1001).up hS1002) ((Tv.row (hp1.bel hB1001) hg1016).up hS1002) hm)) ?_
          rintro _ w1017 ⟨r1020, a1021, n1022, c1023, y1024, hm, he1025, rfl, hE1018, hN1019⟩
          have hS1029 := hS1002.call2 hE1018 hN1019
          have hB1030 := hB1001.trans (Ext.stp hE1018 hS1002.base)
          refine wl_val (g_assign (v := .slice a1021 n1022 c1023) rfl) rfl ?_
          refine wl_nil ?_
          refine hK1015 _ _ ?_
          refine w_seq fun K1031 hK1031 => ?_
          refine w_region ?_
          refine wl_val (g_assign (v := .int .i64 0) rfl) rfl ?_
          refine wl_nil ?_
          refine hK1031 _ _ ?_
          refine w_block ?_
          have hS1033 := hS1029.f1
          have hS1034 := hS1033.f1
          have hS1035 := hS1034.f5
          have hS1036 := hS1035.f5
          have hS1037 := hS1036.f5
          have hS1038 := hS1037.f5
          obtain ⟨I1039, μ1040, h01041, hr1042⟩ := hm
          refine w_for (σ := Int) (fun v1032 => [(0, .slice a0 n0 c0), (1, .slice a1 n1 c1), (6, .slice a985 n986 c987), (7, .int .i64 v990), (8, .slice a30 n31 c32), (9, .int .i64 v991), (10, .slice a1021 n1022 c1023), (11, .int .i64 v1032)]) (fun v1032 w' => I1039 v1032 ∧ Below w.heap.size w w' ∧ Sep w' w.heap.size [oS 23 a985 n986 c987 (y988 : List (Hd Int)), oT 3 (y988 : List (Hd Int)), oS 23 a30 n31 c32 (y33 : List (Hd Int)), oT 3 (y33 : List (Hd Int)), oS 23 a1021 n1022 c1023 (y1024 : List (Hd Int)), oT 3 (y1024 : List (Hd Int))]) (fun v1032 => μ1040 v1032) (0) ⟨rfl, rfl, rfl, rfl, rfl, rfl, rfl, rfl, trivial⟩ ⟨h01041, hB1030, hS1038⟩ ?_
          rintro v1032 b_ w1043 ⟨hi_, hB1044, hS1045⟩
          show Wp _ _ _ _ (upds b_ [(0, .slice a0 n0 c0), (1, .slice a1 n1 c1), (6, .slice a985 n986 c987), (7, .int .i64 v990), (8, .slice a30 n31 c32), (9, .int .i64 v991), (10, .slice a1021 n1022 c1023), (11, .int .i64 v1032)]) w1043
          have hm := hr1042 v1032 hi_
          refine w_seq fun K1047 hK1047 => ?_
          refine w_seq fun K1048 hK1048 => ?_
          refine w_region ?_
          refine wl_val (g_move (v := .int .i64 v1032) rfl) rfl ?_
          refine wl_val (g_move (v := .slice a1021 n1022 c1023) rfl) rfl ?_
          refine wl_val (q_len SL37 rfl (Tv.len (oT.vw hS1045.g4 hS1045.g5 he1025))) rfl ?_
          refine wl_val (g_lss (a := v1032) (b := (r1020.length : Int)) rfl rfl) rfl ?_
          refine wl_nil ?_
          refine hK1048 _ _ ?_
          refine w_condI (p := v1032 < (r1020.length : Int)) (b := (decide (v1032 < (r1020.length : Int)))) rfl decide_eq_true_iff (fun h1049 => ?_) (fun h1049 => ?_)
          · replace hm := hm.1 h1049
            refine w_skip ?_
            refine hK1047 _ _ ?_
            refine w_seq fun K1050 hK1050 => ?_
            refine w_block ?_
            refine w_seq fun K1051 hK1051 => ?_
            refine w_region ?_
            refine wl_val (g_assign (v := .int .i64 0) rfl) rfl ?_
            refine wl_nil ?_
            refine hK1051 _ _ ?_
            refine w_cut (σ := Int) (fun v1052 => [(0, .slice a0 n0 c0), (1, .slice a1 n1 c1), (6, .slice a985 n986 c987), (7, .int .i64 v990), (8, .slice a30 n31 c32), (9, .int .i64 v991), (10, .slice a1021 n1022 c1023), (11, .int .i64 v1032), (12, .int .i64 v1052)]) (fun v1052 w' => m_spec_BestNight_K0 r29 x984 v990 v991 r1020 v1032 (m_spec_BestNight_K1 v991 (fun x984' v990' v991' => I996 x984' v990' v991' ∧ μ997 x984' v990' v991' < μ997 x984 v990 v991)) (fun v1032' => I1039 v1032' ∧ μ1040 v1032' < μ1040 v1032) v1052 ∧ Below w.heap.size w w' ∧ Sep w' w.heap.size [oS 23 a985 n986 c987 (y988 : List (Hd Int)), oT 3 (y988 : List (Hd Int)), oS 23 a30 n31 c32 (y33 : List (Hd Int)), oT 3 (y33 : List (Hd Int)), oS 23 a1021 n1022 c1023 (y1024 : List (Hd Int)), oT 3 (y1024 : List (Hd Int))]) ?_ ?_
            · refine w_seq fun K1054 hK1054 => ?_
              refine w_region ?_
              refine wl_val (g_move (v := .int .i64 v991) rfl) rfl ?_
              refine wl_val (g_gtr (a := v991) (b := 0) rfl rfl) rfl ?_
              refine wl_nil ?_
              refine hK1054 _ _ ?_
              refine w_condI (p := v991 > 0) (b := (decide (v991 > 0))) rfl decide_eq_true_iff (fun h1055 => ?_) (fun h1055 => ?_)
              · replace hm := hm.1 h1055
                refine w_draw (X := Ext) (Y := Ext) [] MIX (by decide +kernel) rfl Ext.refl (fun _ _ _ => Ext.trans) (fun _ _ _ => Chg.trans) (fun _ _ h => Ext.chg h _) (fun w1056 hE1057 => ?_)
                have hB1058 := hB1044.trans (Ext.stp hE1057 hS1045.base)
                have hS1059 := hS1045.ext hE1057
                refine ⟨.slice a1 n1 c1, fun w1060 hX1061 => od_plain rfl (by have hS1062 := hS1059.ext hX1061; have hB1063 := hB1058.trans (Ext.stp hX1061 hS1059.base); exact is_ext (g_move (v := .slice a1 n1 c1) rfl)), ?_⟩
                refine ⟨.int .i64 v991, fun w1064 hX1065 => od_plain rfl (by have hS1066 := hS1059.ext hX1065; have hB1067 := hB1058.trans (Ext.stp hX1065 hS1059.base); exact is_ext (g_move (v := .int .i64 v991) rfl)), ?_⟩
                obtain ⟨hg1072, hm⟩ := hm
                refine ⟨.int .i64 (v991 - 1), fun w1068 hX1069 => od_plain rfl (by have hS1070 := hS1059.ext hX1069; have hB1071 := hB1058.trans (Ext.stp hX1069 hS1059.base); exact is_ext (g_sub (a := v991) (b := 1) rfl rfl hg1072)), ?_⟩
                obtain ⟨hg1077, hm⟩ := hm
                refine ⟨.pointer (some ((adr a1).add ((Int.toNat (v991 - 1)) * El.m (Hd Int)))), fun w1073 hX1074 => od_plain rfl (by have hS1075 := hS1059.ext hX1074; have hB1076 := hB1058.trans (Ext.stp hX1074 hS1059.base); exact is_ext (q_index (i := (v991 - 1)) SL37 rfl rfl (Tv.o (hp1.bel hB1076)) (Tv.g (hp1.bel hB1076) hg1077))), ?_⟩
                refine ⟨.slice ((y1[(Int.toNat (v991 - 1))]!).1) ((y1[(Int.toNat (v991 - 1))]!).2.2.length) ((y1[(Int.toNat (v991 - 1))]!).2.1), fun w1078 hX1079 => od_plain rfl (by have hS1080 := hS1059.ext hX1079; have hB1081 := hB1058.trans (Ext.stp hX1079 hS1059.base); exact is_ext (q_load (i := (v991 - 1)) (v := .slice ((y1[(Int.toNat (v991 - 1))]!).1) ((y1[(Int.toNat (v991 - 1))]!).2.2.length) ((y1[(Int.toNat (v991 - 1))]!).2.1)) ON23 (Tv.o (hp1.bel hB1081)) (Tv.g (hp1.bel hB1081) hg1077) rfl rfl)), ?_⟩
                refine ⟨.slice a985 n986 c987, fun w1082 hX1083 => od_plain rfl (by have hS1084 := hS1059.ext hX1083; have hB1085 := hB1058.trans (Ext.stp hX1083 hS1059.base); exact is_ext (g_move (v := .slice a985 n986 c987) rfl)), ?_⟩
                refine ⟨.int .i64 v991, fun w1086 hX1087 => od_plain rfl (by have hS1088 := hS1059.ext hX1087; have hB1089 := hB1058.trans (Ext.stp hX1087 hS1059.base); exact is_ext (g_move (v := .int .i64 v991) rfl)), ?_⟩
                obtain ⟨hg1094, hm⟩ := hm
                refine ⟨.int .i64 (v991 - 1), fun w1090 hX1091 => od_plain rfl (by have hS1092 := hS1059.ext hX1091; have hB1093 := hB1058.trans (Ext.stp hX1091 hS1059.base); exact is_ext (g_sub (a := v991) (b := 1) rfl rfl hg1094)), ?_⟩
                obtain ⟨hg1099, hm⟩ := hm
                refine ⟨.pointer (some ((adr a985).add ((Int.toNat (v991 - 1)) * El.m (Hd Int)))), fun w1095 hX1096 => od_plain rfl (by have hS1097 := hS1059.ext hX1096; have hB1098 := hB1058.trans (Ext.stp hX1096 hS1059.base); exact is_ext (q_index (i := (v991 - 1)) SL37 rfl rfl (Tv.o (oT.vw hS1097.g0 hS1097.g1 he989)) (Tv.g (oT.vw hS1097.g0 hS1097.g1 he989) hg1099))), ?_⟩
                refine ⟨.slice ((y988[(Int.toNat (v991 - 1))]!).1) ((y988[(Int.toNat (v991 - 1))]!).2.2.length) ((y988[(Int.toNat (v991 - 1))]!).2.1), fun w1100 hX1101 => od_plain rfl (by have hS1102 := hS1059.ext hX1101; have hB1103 := hB1058.trans (Ext.stp hX1101 hS1059.base); exact is_ext (q_load (i := (v991 - 1)) (v := .slice ((y988[(Int.toNat (v991 - 1))]!).1) ((y988[(Int.toNat (v991 - 1))]!).2.2.length) ((y988[(Int.toNat (v991 - 1))]!).2.1)) ON23 (Tv.o (oT.vw hS1102.g0 hS1102.g1 he989)) (Tv.g (oT.vw hS1102.g0 hS1102.g1 he989) hg1099) rfl rfl)), ?_⟩
                refine ⟨.slice a1 n1 c1, fun w1104 hX1105 => od_plain rfl (by have hS1106 := hS1059.ext hX1105; have hB1107 := hB1058.trans (Ext.stp hX1105 hS1059.base); exact is_ext (g_move (v := .slice a1 n1 c1) rfl)), ?_⟩
                refine ⟨.int .i64 v991, fun w1108 hX1109 => od_plain rfl (by have hS1110 := hS1059.ext hX1109; have hB1111 := hB1058.trans (Ext.stp hX1109 hS1059.base); exact is_ext (g_move (v := .int .i64 v991) rfl)), ?_⟩
                obtain ⟨hg1116, hm⟩ := hm
                refine ⟨.pointer (some ((adr a1).add ((Int.toNat v991) * El.m (Hd Int)))), fun w1112 hX1113 => od_plain rfl (by have hS1114 := hS1059.ext hX1113; have hB1115 := hB1058.trans (Ext.stp hX1113 hS1059.base); exact is_ext (q_index (i := v991) SL37 rfl rfl (Tv.o (hp1.bel hB1115)) (Tv.g (hp1.bel hB1115) hg1116))), ?_⟩
                refine ⟨.slice ((y1[(Int.toNat v991)]!).1) ((y1[(Int.toNat v991)]!).2.2.length) ((y1[(Int.toNat v991)]!).2.1), fun w1117 hX1118 => od_plain rfl (by have hS1119 := hS1059.ext hX1118; have hB1120 := hB1058.trans (Ext.stp hX1118 hS1059.base); exact is_ext (q_load (i := v991) (v := .slice ((y1[(Int.toNat v991)]!).1) ((y1[(Int.toNat v991)]!).2.2.length) ((y1[(Int.toNat v991)]!).2.1)) ON23 (Tv.o (hp1.bel hB1120)) (Tv.g (hp1.bel hB1120) hg1116) rfl rfl)), ?_⟩
                refine ⟨.slice a1021 n1022 c1023, fun w1121 hX1122 => od_plain rfl (by have hS1123 := hS1059.ext hX1122; have hB1124 := hB1058.trans (Ext.stp hX1122 hS1059.base); exact is_ext (g_move (v := .slice a1021 n1022 c1023) rfl)), ?_⟩
                refine ⟨.int .i64 v1032, fun w1125 hX1126 => od_plain rfl (by have hS1127 := hS1059.ext hX1126; have hB1128 := hB1058.trans (Ext.stp hX1126 hS1059.base); exact is_ext (g_move (v := .int .i64 v1032) rfl)), ?_⟩
                obtain ⟨hg1133, hm⟩ := hm
                refine ⟨.pointer (some ((adr a1021).add ((Int.toNat v1032) * El.m (Hd Int)))), fun w1129 hX1130 => od_plain rfl (by have hS1131 := hS1059.ext hX1130; have hB1132 := hB1058.trans (Ext.stp hX1130 hS1059.base); exact is_ext (q_index (i := v1032) SL37 rfl rfl (Tv.o (oT.vw hS1131.g4 hS1131.g5 he1025)) (Tv.g (oT.vw hS1131.g4 hS1131.g5 he1025) hg1133))), ?_⟩
                refine ⟨.slice ((y1024[(Int.toNat v1032)]!).1) ((y1024[(Int.toNat v1032)]!).2.2.length) ((y1024[(Int.toNat v1032)]!).2.1), fun w1134 hX1135 => od_plain rfl (by have hS1136 := hS1059.ext hX1135; have hB1137 := hB1058.trans (Ext.stp hX1135 hS1059.base); exact is_ext (q_load (i := v1032) (v := .slice ((y1024[(Int.toNat v1032)]!).1) ((y1024[(Int.toNat v1032)]!).2.2.length) ((y1024[(Int.toNat v1032)]!).2.1)) ON23 (Tv.o (oT.vw hS1136.g4 hS1136.g5 he1025)) (Tv.g (oT.vw hS1136.g4 hS1136.g5 he1025) hg1133) rfl rfl)), ?_⟩
                obtain ⟨r1142, hk1143, hm⟩ := hm
                refine ⟨.int .i64 r1142, fun w1138 hX1139 => od_plain rfl (by have hS1140 := hS1059.ext hX1139; have hB1141 := hB1058.trans (Ext.stp hX1139 hS1059.base); exact (g_call (vs := #[.slice ((y1[(Int.toNat (v991 - 1))]!).1) ((y1[(Int.toNat (v991 - 1))]!).2.2.length) ((y1[(Int.toNat (v991 - 1))]!).2.1), .slice ((y988[(Int.toNat (v991 - 1))]!).1) ((y988[(Int.toNat (v991 - 1))]!).2.2.length) ((y988[(Int.toNat (v991 - 1))]!).2.1), .slice ((y1[(Int.toNat v991)]!).1) ((y1[(Int.toNat v991)]!).2.2.length) ((y1[(Int.toNat v991)]!).2.1), .slice ((y1024[(Int.toNat v1032)]!).1) ((y1024[(Int.toNat v1032)]!).2.2.length) ((y1024[(Int.toNat v1032)]!).2.1)]) CF76 (args4 rfl rfl rfl rfl) ((m_spec_ChangesBetween_fn ((Tv.row (hp1.bel hB1141) hg1077).up hS1140) (Tv.row (oT.vw hS1140.g0 hS1140.g1 he989) hg1099) ((Tv.row (hp1.bel hB1141) hg1116).up hS1140) (Tv.row (oT.vw hS1140.g4 hS1140.g5 he1025) hg1133) hk1143).mono fun _ _ ⟨_, h1, h2, h3⟩ => ⟨by rw [h2, h1], h3⟩))), ?_⟩
                refine ⟨.int .i64 r1142, fun w1144 hX1145 => od_plain rfl (by have hS1146 := hS1059.ext hX1145; have hB1147 := hB1058.trans (Ext.stp hX1145 hS1059.base); exact is_ext (g_assign (v := .int .i64 r1142) rfl)), ?_⟩
                intro w1148 hX1149
                have hB1150 := hB1058.trans (Ext.stp hX1149 hS1059.base)
                have hS1151 := hS1059.ext hX1149
                exact ⟨(r1142), ⟨rfl, rfl, rfl, rfl, rfl, rfl, rfl, rfl, rfl, trivial⟩, ⟨hm, hB1150, hS1151⟩⟩
              · replace hm := hm.2 h1055
                refine w_skip ?_
                exact ⟨(0), ⟨rfl, rfl, rfl, rfl, rfl, rfl, rfl, rfl, rfl, trivial⟩, ⟨hm, hB1044, hS1045⟩⟩
            · rintro v1052 b_ w1152 ⟨hm, hB1153, hS1154⟩
              show Wp _ _ _ _ (upds b_ [(0, .slice a0 n0 c0), (1, .slice a1 n1 c1), (6, .slice a985 n986 c987), (7, .int .i64 v990), (8, .slice a30 n31 c32), (9, .int .i64 v991), (10, .slice a1021 n1022 c1023), (11, .int .i64 v1032), (12, .int .i64 v1052)]) w1152
              refine w_seq fun K1155 hK1155 => ?_
              refine w_region ?_
              refine wl_val (g_move (v := .slice a30 n31 c32) rfl) rfl ?_
              refine wl_val (g_move (v := .int .i64 v991) rfl) rfl ?_
              obtain ⟨hg1156, hm⟩ := hm
              refine wl_val (q_index (i := v991) SL37 rfl rfl (Tv.o (oT.vw hS1154.g2 hS1154.g3 he34)) (Tv.g (oT.vw hS1154.g2 hS1154.g3 he34) hg1156)) rfl ?_
              refine wl_val (q_load (i := v991) (v := .slice ((y33[(Int.toNat v991)]!).1) ((y33[(Int.toNat v991)]!).2.2.length) ((y33[(Int.toNat v991)]!).2.1)) ON23 (Tv.o (oT.vw hS1154.g2 hS1154.g3 he34)) (Tv.g (oT.vw hS1154.g2 hS1154.g3 he34) hg1156) rfl rfl) rfl ?_
              refine wl_val (g_move (v := .int .i64 v1032) rfl) rfl ?_
              obtain ⟨hg1157, hm⟩ := hm
              refine wl_val (q_index (i := v1032) SL23 rfl rfl (Tv.row (oT.vw hS1154.g2 hS1154.g3 he34) hg1156) hg1157) rfl ?_
              refine wl_val (q_load (i := v1032) (v := .int .i64 ((r29[(Int.toNat v991)]!)[(Int.toNat v1032)]!)) ON3 (Tv.row (oT.vw hS1154.g2 hS1154.g3 he34) hg1156) hg1157 rfl rfl) rfl ?_
              refine wl_val (g_geq (a := (r29[(Int.toNat v991)]!)[(Int.toNat v1032)]!) (b := 0) rfl rfl) rfl ?_
              refine wl_val (g_move (v := .bool (decide ((r29[(Int.toNat v991)]!)[(Int.toNat v1032)]! ≥ 0))) rfl) rfl ?_
              refine wl_guard (c := (decide ((r29[(Int.toNat v991)]!)[(Int.toNat v1032)]! ≥ 0)) = true) (val := .int .i64 v1052) (b := ((decide ((r29[(Int.toNat v991)]!)[(Int.toNat v1032)]! ≥ 0)) == true)) (gv_some rfl rfl rfl) beq_iff_eq (fun hc1158 => ?_) ?_
              · have hcq3 : (r29[(Int.toNat v991)]!)[(Int.toNat v1032)]! ≥ 0 := (decide_eq_true_iff.mp hc1158)
                exact g_move (v := .int .i64 v1052) rfl
              refine wl_guard (c := (decide ((r29[(Int.toNat v991)]!)[(Int.toNat v1032)]! ≥ 0)) = true) (val := .slice a30 n31 c32) (b := ((decide ((r29[(Int.toNat v991)]!)[(Int.toNat v1032)]! ≥ 0)) == true)) (gv_some rfl rfl rfl) beq_iff_eq (fun hc1159 => ?_) ?_
              · have hcq3 : (r29[(Int.toNat v991)]!)[(Int.toNat v1032)]! ≥ 0 := (decide_eq_true_iff.mp hc1159)
                exact g_move (v := .slice a30 n31 c32) rfl
              refine wl_guard (c := (decide ((r29[(Int.toNat v991)]!)[(Int.toNat v1032)]! ≥ 0)) = true) (val := .int .i64 v991) (b := ((decide ((r29[(Int.toNat v991)]!)[(Int.toNat v1032)]! ≥ 0)) == true)) (gv_some rfl rfl rfl) beq_iff_eq (fun hc1160 => ?_) ?_
              · have hcq3 : (r29[(Int.toNat v991)]!)[(Int.toNat v1032)]! ≥ 0 := (decide_eq_true_iff.mp hc1160)
                exact g_move (v := .int .i64 v991) rfl
              obtain ⟨hg1162, hm⟩ := hm
              refine wl_guard (c := (decide ((r29[(Int.toNat v991)]!)[(Int.toNat v1032)]! ≥ 0)) = true) (val := .pointer (some ((adr a30).add ((Int.toNat v991) * El.m (Hd Int))))) (b := ((decide ((r29[(Int.toNat v991)]!)[(Int.toNat v1032)]! ≥ 0)) == true)) (gv_some rfl rfl rfl) beq_iff_eq (fun hc1161 => ?_) ?_
              · have hcq3 : (r29[(Int.toNat v991)]!)[(Int.toNat v1032)]! ≥ 0 := (decide_eq_true_iff.mp hc1161)
                exact q_index (i := v991) SL37 (if_pos hc1161) (if_pos hc1161) (Tv.o (oT.vw hS1154.g2 hS1154.g3 he34)) (Tv.g (oT.vw hS1154.g2 hS1154.g3 he34) (hg1162 hcq3))
              refine wl_guard (c := (decide ((r29[(Int.toNat v991)]!)[(Int.toNat v1032)]! ≥ 0)) = true) (val := .slice ((y33[(Int.toNat v991)]!).1) ((y33[(Int.toNat v991)]!).2.2.length) ((y33[(Int.toNat v991)]!).2.1)) (b := ((decide ((r29[(Int.toNat v991)]!)[(Int.toNat v1032)]! ≥ 0)) == true)) (gv_some rfl rfl rfl) beq_iff_eq (fun hc1163 => ?_) ?_
              · have hcq3 : (r29[(Int.toNat v991)]!)[(Int.toNat v1032)]! ≥ 0 := (decide_eq_true_iff.mp hc1163)
                exact q_load (i := v991) (v := .slice ((y33[(Int.toNat v991)]!).1) ((y33[(Int.toNat v991)]!).2.2.length) ((y33[(Int.toNat v991)]!).2.1)) ON23 (Tv.o (oT.vw hS1154.g2 hS1154.g3 he34)) (Tv.g (oT.vw hS1154.g2 hS1154.g3 he34) (hg1162 hcq3)) rfl (if_pos hc1163)
              refine wl_guard (c := (decide ((r29[(Int.toNat v991)]!)[(Int.toNat v1032)]! ≥ 0)) = true) (val := .int .i64 v1032) (b := ((decide ((r29[(Int.toNat v991)]!)[(Int.toNat v1032)]! ≥ 0)) == true)) (gv_some rfl rfl rfl) beq_iff_eq (fun hc1164 => ?_) ?_
              · have hcq3 : (r29[(Int.toNat v991)]!)[(Int.toNat v1032)]! ≥ 0 := (decide_eq_true_iff.mp hc1164)
                exact g_move (v := .int .i64 v1032) rfl
              obtain ⟨hg1166, hm⟩ := hm
              refine wl_guard (c := (decide ((r29[(Int.toNat v991)]!)[(Int.toNat v1032)]! ≥ 0)) = true) (val := .pointer (some ((adr ((y33[(Int.toNat v991)]!).1)).add ((Int.toNat v1032) * El.m Int)))) (b := ((decide ((r29[(Int.toNat v991)]!)[(Int.toNat v1032)]! ≥ 0)) == true)) (gv_some rfl rfl rfl) beq_iff_eq (fun hc1165 => ?_) ?_
              · have hcq3 : (r29[(Int.toNat v991)]!)[(Int.toNat v1032)]! ≥ 0 := (decide_eq_true_iff.mp hc1165)
                exact q_index (i := v1032) SL23 (if_pos hc1165) (if_pos hc1165) (Tv.row (oT.vw hS1154.g2 hS1154.g3 he34) (hg1162 hcq3)) (hg1166 hcq3)
              refine wl_guard (c := (decide ((r29[(Int.toNat v991)]!)[(Int.toNat v1032)]! ≥ 0)) = true) (val := .int .i64 ((r29[(Int.toNat v991)]!)[(Int.toNat v1032)]!)) (b := ((decide ((r29[(Int.toNat v991)]!)[(Int.toNat v1032)]! ≥ 0)) == true)) (gv_some rfl rfl rfl) beq_iff_eq (fun hc1167 => ?_) ?_
              · have hcq3 : (r29[(Int.toNat v991)]!)[(Int.toNat v1032)]! ≥ 0 := (decide_eq_true_iff.mp hc1167)
                exact q_load (i := v1032) (v := .int .i64 ((r29[(Int.toNat v991)]!)[(Int.toNat v1032)]!)) ON3 (Tv.row (oT.vw hS1154.g2 hS1154.g3 he34) (hg1162 hcq3)) (hg1166 hcq3) rfl (if_pos hc1167)
              obtain ⟨hg1169, hm⟩ := hm
              refine wl_guard (c := (decide ((r29[(Int.toNat v991)]!)[(Int.toNat v1032)]! ≥ 0)) = true) (val := .int .i64 (v1052 + (r29[(Int.toNat v991)]!)[(Int.toNat v1032)]!)) (b := ((decide ((r29[(Int.toNat v991)]!)[(Int.toNat v1032)]! ≥ 0)) == true)) (gv_some rfl rfl rfl) beq_iff_eq (fun hc1168 => ?_) ?_
              · have hcq3 : (r29[(Int.toNat v991)]!)[(Int.toNat v1032)]! ≥ 0 := (decide_eq_true_iff.mp hc1168)
                exact g_add (a := v1052) (b := (r29[(Int.toNat v991)]!)[(Int.toNat v1032)]!) (if_pos hc1168) (if_pos hc1168) (hg1169 hcq3)
              refine wl_guard (c := (decide ((r29[(Int.toNat v991)]!)[(Int.toNat v1032)]! ≥ 0)) = true) (val := .int .i64 v990) (b := ((decide ((r29[(Int.toNat v991)]!)[(Int.toNat v1032)]! ≥ 0)) == true)) (gv_some rfl rfl rfl) beq_iff_eq (fun hc1170 => ?_) ?_
              · have hcq3 : (r29[(Int.toNat v991)]!)[(Int.toNat v1032)]! ≥ 0 := (decide_eq_true_iff.mp hc1170)
                exact g_move (v := .int .i64 v990) rfl
              refine wl_guard (c := (decide ((r29[(Int.toNat v991)]!)[(Int.toNat v1032)]! ≥ 0)) = true) (val := .bool (decide ((v1052 + (r29[(Int.toNat v991)]!)[(Int.toNat v1032)]!) = v990))) (b := ((decide ((r29[(Int.toNat v991)]!)[(Int.toNat v1032)]! ≥ 0)) == true)) (gv_some rfl rfl rfl) beq_iff_eq (fun hc1171 => ?_) ?_
              · have hcq3 : (r29[(Int.toNat v991)]!)[(Int.toNat v1032)]! ≥ 0 := (decide_eq_true_iff.mp hc1171)
                exact g_eql (a := (v1052 + (r29[(Int.toNat v991)]!)[(Int.toNat v1032)]!)) (b := v990) (if_pos hc1171) (if_pos hc1171)
              refine wl_val (g_pick_and (b := (decide ((r29[(Int.toNat v991)]!)[(Int.toNat v1032)]! ≥ 0))) (q := (decide ((v1052 + (r29[(Int.toNat v991)]!)[(Int.toNat v1032)]!) = v990))) rfl rfl) rfl ?_
              refine wl_nil ?_
              refine hK1155 _ _ ?_
              refine w_condI (p := (((r29[(Int.toNat v991)]!)[(Int.toNat v1032)]! ≥ 0) ∧ ((v1052 + (r29[(Int.toNat v991)]!)[(Int.toNat v1032)]!) = v990))) (b := ((decide ((r29[(Int.toNat v991)]!)[(Int.toNat v1032)]! ≥ 0)) && (decide ((v1052 + (r29[(Int.toNat v991)]!)[(Int.toNat v1032)]!) = v990)))) rfl (i_and decide_eq_true_iff decide_eq_true_iff) (fun h1172 => ?_) (fun h1172 => ?_)
              · replace hm := hm.1 h1172
                refine w_seq fun K1173 hK1173 => ?_
                refine w_region ?_
                refine wl_val (g_move (v := .slice a985 n986 c987) rfl) rfl ?_
                refine wl_val (g_move (v := .slice a1021 n1022 c1023) rfl) rfl ?_
                refine wl_val (g_move (v := .int .i64 v1032) rfl) rfl ?_
                obtain ⟨hg1174, hm⟩ := hm
                refine wl_val (q_index (i := v1032) SL37 rfl rfl (Tv.o (oT.vw hS1154.g4 hS1154.g5 he1025)) (Tv.g (oT.vw hS1154.g4 hS1154.g5 he1025) hg1174)) rfl ?_
                refine wl_val (q_load (i := v1032) (v := .slice ((y1024[(Int.toNat v1032)]!).1) ((y1024[(Int.toNat v1032)]!).2.2.length) ((y1024[(Int.toNat v1032)]!).2.1)) ON23 (Tv.o (oT.vw hS1154.g4 hS1154.g5 he1025)) (Tv.g (oT.vw hS1154.g4 hS1154.g5 he1025) hg1174) rfl rfl) rfl ?_
                have hS1180 := hS1154.f4
                have hS1181 := hS1180.tail
                have hS1182 := hS1181.f4
                have hS1183 := hS1182.takeRow (i := (Int.toNat v1032)) (by have := (hg1174).1; have := (hg1174).2; have := congrArg List.length he1025; simp only [ers, List.length_map] at this; omega)
                have he1179 : ers [((y1024[(Int.toNat v1032)]!) : Hd Int)] = [r1020[(Int.toNat v1032)]!] := by rw [← he1025]; simp only [ers, List.map_cons, List.map_nil]; congr 1; exact (er_get (by have := (hg1174).1; have := (hg1174).2; have := congrArg List.length he1025; simp only [ers, List.length_map] at this; omega)).symm
                refine wl_step rfl (q_lit1 (y := ((y1024[(Int.toNat v1032)]!) : Hd Int)) SL37 rfl rfl (by decide) hS1183) ?_
                rintro _ w1175 ⟨a1176, rfl, hS1178, hE1177⟩
                have hB1187 := hB1153.trans (Ext.stp hE1177 hS1183.base)
                have hS1194 := hS1178.f2
                obtain ⟨hg1195, hm⟩ := hm
                have hl1196 : (y988).length + ([(y1024[(Int.toNat v1032)]!)]).length ≤ 1099511627776 := by have h1 := congrArg List.length he989; have h2 := congrArg List.length he1179; have h3 := hg1195; simp only [ers, List.length_map, List.length_append, List.length_cons, List.length_nil, List.length_replicate, List.length_set] at h1 h2 h3 ⊢; omega
                refine wl_step rfl (q_append SL37 rfl rfl hS1194 (oS.vw hS1194.g1) hl1196 (by decide)) ?_
                rintro _ w1189 ⟨a1190, c1191, rfl, hS1193, hb1192⟩
                have hB1197 := hB1187.trans hb1192
                have hS1198 := hS1193.f1
                have hS1199 := hS1198.tail
                have hS1200 := hS1199.f2
                have hS1201 := hS1200.f2
                have hS1202 := hS1201.catRows
                have he1203 : ers (y988 ++ ([(y1024[(Int.toNat v1032)]!)])) = (x984 ++ ([r1020[(Int.toNat v1032)]!])) := by rw [← he989, ← he1179]; exact List.map_append
                refine wl_val (g_assign (v := .slice a1190 (n986 + 1) c1191) rfl) rfl ?_
                refine wl_nil ?_
                refine hK1173 _ _ ?_
                refine w_seq fun K1204 hK1204 => ?_
                refine w_region ?_
                refine wl_val (g_move (v := .slice a30 n31 c32) rfl) rfl ?_
                refine wl_val (g_move (v := .int .i64 v991) rfl) rfl ?_
                obtain ⟨hg1205, hm⟩ := hm
                refine wl_val (q_index (i := v991) SL37 rfl rfl (Tv.o (oT.vw hS1202.g2 hS1202.g3 he34)) (Tv.g (oT.vw hS1202.g2 hS1202.g3 he34) hg1205)) rfl ?_
                refine wl_val (q_load (i := v991) (v := .slice ((y33[(Int.toNat v991)]!).1) ((y33[(Int.toNat v991)]!).2.2.length) ((y33[(Int.toNat v991)]!).2.1)) ON23 (Tv.o (oT.vw hS1202.g2 hS1202.g3 he34)) (Tv.g (oT.vw hS1202.g2 hS1202.g3 he34) hg1205) rfl rfl) rfl ?_
                refine wl_val (g_move (v := .int .i64 v1032) rfl) rfl ?_
                obtain ⟨hg1206, hm⟩ := hm
                refine wl_val (q_index (i := v1032) SL23 rfl rfl (Tv.row (oT.vw hS1202.g2 hS1202.g3 he34) hg1205) hg1206) rfl ?_
                refine wl_val (q_load (i := v1032) (v := .int .i64 ((r29[(Int.toNat v991)]!)[(Int.toNat v1032)]!)) ON3 (Tv.row (oT.vw hS1202.g2 hS1202.g3 he34) hg1205) hg1206 rfl rfl) rfl ?_
                refine wl_val (g_assign (v := .int .i64 ((r29[(Int.toNat v991)]!)[(Int.toNat v1032)]!)) rfl) rfl ?_
                refine wl_nil ?_
                refine hK1204 _ _ ?_
                refine w_exit ?_
                have hS1207 := hS1202.f3
                have hS1208 := hS1207.f3
                have hS1209 := hS1208.f2
                have hS1210 := hS1209.f3
                exact ⟨((x984 ++ ([r1020[(Int.toNat v1032)]!])), a1190, (n986 + 1), c1191, (y988 ++ ([(y1024[(Int.toNat v1032)]!)])), (r29[(Int.toNat v991)]!)[(Int.toNat v1032)]!), ⟨rfl, rfl, rfl, rfl, rfl, rfl, trivial⟩, ⟨hm, he1203, hB1197, hS1210⟩⟩
              · replace hm := hm.2 h1172
                refine w_skip ?_
                refine hK1050 _ _ ?_
                refine w_region ?_
                refine wl_val (g_move (v := .int .i64 v1032) rfl) rfl ?_
                obtain ⟨hg1211, hm⟩ := hm
                refine wl_val (g_add (a := v1032) (b := 1) rfl rfl hg1211) rfl ?_
                refine wl_val (g_assign (v := .int .i64 (v1032 + 1)) rfl) rfl ?_
                refine wl_nil ?_
                exact ⟨((v1032 + 1)), hm.2, ⟨rfl, rfl, rfl, rfl, rfl, rfl, rfl, rfl, trivial⟩, ⟨hm.1, hB1153, hS1154⟩⟩
          · replace hm := hm.2 h1049
            refine w_exit ?_
            have hS1212 := hS1045.f4
            have hS1213 := hS1212.tail
            have hS1214 := hS1213.f4
            have hS1215 := hS1214.tail
            exact ⟨(x984, a985, n986, c987, y988, v990), ⟨rfl, rfl, rfl, rfl, rfl, rfl, trivial⟩, ⟨hm, he989, hB1044, hS1215⟩⟩
        · rintro ⟨x1007, a1008, n1009, c1010, y1011, v1013⟩ b_ w1216 ⟨hm, he1012, hB1217, hS1218⟩
          show Wp _ _ _ _ (upds b_ [(0, .slice a0 n0 c0), (1, .slice a1 n1 c1), (6, .slice a1008 n1009 c1010), (7, .int .i64 v1013), (8, .slice a30 n31 c32), (9, .int .i64 v991)]) w1216
          refine w_region ?_
          refine wl_val (g_move (v := .int .i64 v991) rfl) rfl ?_
          obtain ⟨hg1219, hm⟩ := hm
          refine wl_val (g_add (a := v991) (b := 1) rfl rfl hg1219) rfl ?_
          refine wl_val (g_assign (v := .int .i64 (v991 + 1)) rfl) rfl ?_
          refine wl_nil ?_
          exact ⟨(x1007, a1008, n1009, c1010, y1011, v1013, (v991 + 1)), hm.2, ⟨rfl, rfl, rfl, rfl, rfl, rfl, trivial⟩, ⟨hm.1, he1012, hB1217, hS1218⟩⟩
      · replace hm := hm.2 h1006
        refine w_exit ?_
        have hS1220 := hS1002.f2
        have hS1221 := hS1220.tail
        have hS1222 := hS1221.f2
        have hS1223 := hS1222.tail
        exact ⟨(x984, a985, n986, c987, y988), ⟨rfl, trivial⟩, ⟨hm, he989, hB1001, hS1223⟩⟩
    · rintro ⟨x976, a977, n978, c979, y980⟩ b_ w1224 ⟨hm, he981, hB1225, hS1226⟩
      show Wp _ _ _ _ (upds b_ [(6, .slice a977 n978 c979)]) w1224
      refine w_seq fun K1227 hK1227 => ?_
      refine w_region ?_
      refine wl_val (g_move (v := .slice a977 n978 c979) rfl) rfl ?_
      refine wl_val (g_assign (v := .slice a977 n978 c979) rfl) rfl ?_
      refine wl_val (g_assign (v := .bool true) rfl) rfl ?_
      refine wl_nil ?_
      refine hK1227 _ _ ?_
      refine w_ret ?_
      repeat first | with_reducible refine q_then ?_ | with_reducible refine q_block ?_
      exact ret2 rfl (by decide) (by decide) ⟨_, _, _, _, _, _, hm, he981, rfl, toExt hB1225, hS1226⟩

theorem m_laws_markIntS_fn {w : World} {B_ : Nat} {L_ : List Ob} {a0 : Option Addr} {n0 c0 : Nat} {p0 : List Int} {Q : Int → (List Int) → Prop} (hS0 : Sep w B_ (oS 3 a0 n0 c0 (p0 : List Int) :: L_)) (p1 : Int) (hm : m_laws_markIntS p0 p1 Q) :
    Fn Try.prog 20 #[.slice a0 n0 c0, .int .i64 p1] w (fun v w' => ∃ (r0 : Int) (x0 : List Int), Q r0 x0 ∧ v = .int .i64 r0 ∧ Below B_ w w' ∧ Sep w' B_ (oS 3 a0 n0 c0 x0 :: L_)) := by
  unfold m_laws_markIntS at hm
  have hB0 := Below.refl B_ w
  refine fn_of_wp Try.func20 rfl (by kernel_rfl) (Nat.le_of_ble_eq_true rfl) ?_
  refine w_seq fun K2 hK2 => ?_
  refine w_region ?_
  refine wl_val (g_assign (v := .int .i64 0) rfl) rfl ?_
  refine wl_nil ?_
  refine hK2 _ _ ?_
  refine w_cut (σ := List Int × Int) (fun ⟨x48, v49⟩ => [(1, .int .i64 v49)]) (fun ⟨x48, v49⟩ w' => m_laws_markIntS_K0 Q x48 v49 ∧ Below B_ w w' ∧ Sep w' B_ (oS 3 a0 n0 c0 (x48 : List Int) :: L_)) ?_ ?_
  · refine w_seq fun K51 hK51 => ?_
    refine w_region ?_
    refine wl_val (g_assign (v := .int .i64 0) rfl) rfl ?_
    refine wl_nil ?_
    refine hK51 _ _ ?_
    refine w_block ?_
    obtain ⟨I55, μ56, h057, hr58⟩ := hm
    refine w_for (σ := List Int × Int × Int) (fun ⟨x52, v53, v54⟩ => [(0, .slice a0 n0 c0), (1, .int .i64 v53), (5, .int .i64 v54)]) (fun ⟨x52, v53, v54⟩ w' => I55 x52 v53 v54 ∧ Below B_ w w' ∧ Sep w' B_ (oS 3 a0 n0 c0 (x52 : List Int) :: L_)) (fun ⟨x52, v53, v54⟩ => μ56 x52 v53 v54) (p0, p1, 0) ⟨rfl, rfl, rfl, trivial⟩ ⟨h057, hB0, hS0⟩ ?_
    rintro ⟨x52, v53, v54⟩ b_ w59 ⟨hi_, hB60, hS61⟩
    show Wp _ _ _ _ (upds b_ [(0, .slice a0 n0 c0), (1, .int .i64 v53), (5, .int .i64 v54)]) w59
    have hm := hr58 x52 v53 v54 hi_
    refine w_seq fun K63 hK63 => ?_
    refine w_seq fun K64 hK64 => ?_
    refine w_region ?_
    refine wl_val (g_move (v := .int .i64 v54) rfl) rfl ?_
    refine wl_val (g_move (v := .slice a0 n0 c0) rfl) rfl ?_
    refine wl_val (q_len SL23 rfl (Vw.len (oS.vw hS61.g0))) rfl ?_
    refine wl_val (g_lss (a := v54) (b := (x52.length : Int)) rfl rfl) rfl ?_
    refine wl_nil ?_
    refine hK64 _ _ ?_
    refine w_condI (p := v54 < (x52.length : Int)) (b := (decide (v54 < (x52.length : Int)))) rfl decide_eq_true_iff (fun h65 => ?_) (fun h65 => ?_)
    · replace hm := hm.1 h65
      refine w_skip ?_
      refine hK63 _ _ ?_
      refine w_seq fun K66 hK66 => ?_
      refine w_block ?_
      refine w_seq fun K67 hK67 => ?_
      refine w_region ?_
      refine wl_val (g_move (v := .slice a0 n0 c0) rfl) rfl ?_
      refine wl_val (g_move (v := .int .i64 v54) rfl) rfl ?_
      refine wl_val (g_move (v := .int .i64 v53) rfl) rfl ?_
      obtain ⟨hg68, hm⟩ := hm
      refine wl_val (q_index (i := v54) SL23 rfl rfl (oS.vw hS61.g0) hg68) rfl ?_
      refine wl_step rfl (q_store (i := v54) (v := (v53 : Int)) hS61 ON3.sz hg68 rfl rfl rfl) ?_
      rintro _ w69 ⟨rfl, hS70, hb71⟩
      have hB72 := hB60.trans hb71
      refine wl_nil ?_
      refine hK67 _ _ ?_
      refine w_region ?_
      refine wl_val (g_move (v := .int .i64 v53) rfl) rfl ?_
      obtain ⟨hg73, hm⟩ := hm
      refine wl_val (g_add (a := v53) (b := 1) rfl rfl hg73) rfl ?_
      refine wl_val (g_assign (v := .int .i64 (v53 + 1)) rfl) rfl ?_
      refine wl_nil ?_
      refine hK66 _ _ ?_
      refine w_region ?_
      refine wl_val (g_move (v := .int .i64 v54) rfl) rfl ?_
      obtain ⟨hg74, hm⟩ := hm
      refine wl_val (g_add (a := v54) (b := 1) rfl rfl hg74) rfl ?_
      refine wl_val (g_assign (v := .int .i64 (v54 + 1)) rfl) rfl ?_
      refine wl_nil ?_
      exact ⟨((x52.set (Int.toNat v54) v53), (v53 + 1), (v54 + 1)), hm.2, ⟨rfl, rfl, rfl, trivial⟩, ⟨hm.1, hB72, hS70⟩⟩
    · replace hm := hm.2 h65
      refine w_exit ?_
      exact ⟨(x52, v53), ⟨rfl, trivial⟩, ⟨hm, hB60, hS61⟩⟩
  · rintro ⟨x48, v49⟩ b_ w75 ⟨hm, hB76, hS77⟩
    show Wp _ _ _ _ (upds b_ [(1, .int .i64 v49)]) w75
    refine w_seq fun K78 hK78 => ?_
    refine w_region ?_
    refine wl_val (g_move (v := .int .i64 v49) rfl) rfl ?_
    refine wl_val (g_assign (v := .int .i64 v49) rfl) rfl ?_
    refine wl_nil ?_
    refine hK78 _ _ ?_
    refine w_ret ?_
    repeat first | with_reducible refine q_then ?_ | with_reducible refine q_block ?_
    exact ret1 rfl (by decide) ⟨_, _, hm, rfl, hB76, hS77⟩

theorem m_laws_markPlayerS_fn {w : World} {B_ : Nat} {L_ : List Ob} {a0 : Option Addr} {n0 c0 : Nat} {p0 : List PlayerC} {y0 : List PlayerD} {Q : Int → (List PlayerC) → Prop} (hS0 : Sep w B_ (oS 54 a0 n0 c0 (y0 : List PlayerD) :: oT 3 (y0 : List PlayerD) :: L_)) (hep0 : ers y0 = p0) (p1 : Int) (hm : m_laws_markPlayerS p0 p1 Q) :
    Fn Try.prog 19 #[.slice a0 n0 c0, .int .i64 p1] w (fun v w' => ∃ (r0 : Int) (x0 : List PlayerC) (yy0 : List PlayerD), Q r0 x0 ∧ ers yy0 = x0 ∧ v = .int .i64 r0 ∧ Below B_ w w' ∧ Sep w' B_ (oS 54 a0 n0 c0 yy0 :: oT 3 yy0 :: L_)) := by
  unfold m_laws_markPlayerS at hm
  have hB0 := Below.refl B_ w
  refine fn_of_wp Try.func19 rfl (by kernel_rfl) (Nat.le_of_ble_eq_true rfl) ?_
  refine w_seq fun K4 hK4 => ?_
  refine w_region ?_
  refine wl_val (g_assign (v := .int .i64 0) rfl) rfl ?_
  refine wl_nil ?_
  refine hK4 _ _ ?_
  refine w_cut (σ := List PlayerC × List PlayerD × Int) (fun ⟨x103, y104, v106⟩ => [(1, .int .i64 v106)]) (fun ⟨x103, y104, v106⟩ w' => m_laws_markPlayerS_K0 Q x103 v106 ∧ ers y104 = x103 ∧ Below B_ w w' ∧ Sep w' B_ (oS 54 a0 n0 c0 (y104 : List PlayerD) :: oT 3 (y104 : List PlayerD) :: L_)) ?_ ?_
  · refine w_seq fun K108 hK108 => ?_
    refine w_region ?_
    refine wl_val (g_assign (v := .int .i64 0) rfl) rfl ?_
    refine wl_nil ?_
    refine hK108 _ _ ?_
    refine w_block ?_
    obtain ⟨I114, μ115, h0116, hr117⟩ := hm
    refine w_for (σ := List PlayerC × List PlayerD × Int × Int) (fun ⟨x109, y110, v112, v113⟩ => [(0, .slice a0 n0 c0), (1, .int .i64 v112), (5, .int .i64 v113)]) (fun ⟨x109, y110, v112, v113⟩ w' => I114 x109 v112 v113 ∧ ers y110 = x109 ∧ Below B_ w w' ∧ Sep w' B_ (oS 54 a0 n0 c0 (y110 : List PlayerD) :: oT 3 (y110 : List PlayerD) :: L_)) (fun ⟨x109, y110, v112, v113⟩ => μ115 x109 v112 v113) (p0, y0, p1, 0) ⟨rfl, rfl, rfl, trivial⟩ ⟨h0116, hep0, hB0, hS0⟩ ?_
    rintro ⟨x109, y110, v112, v113⟩ b_ w118 ⟨hi_, he111, hB119, hS120⟩
    show Wp _ _ _ _ (upds b_ [(0, .slice a0 n0 c0), (1, .int .i64 v112), (5, .int .i64 v113)]) w118
    have hm := hr117 x109 v112 v113 hi_
    refine w_seq fun K122 hK122 => ?_
    refine w_seq fun K123 hK123 => ?_
    refine w_region ?_
    refine wl_val (g_move (v := .int .i64 v113) rfl) rfl ?_
    refine wl_val (g_move (v := .slice a0 n0 c0) rfl) rfl ?_
    refine wl_val (q_len SL27 rfl (Tv.len (oT.vw hS120.g0 hS120.g1 he111))) rfl ?_
    refine wl_val (g_lss (a := v113) (b := (x109.length : Int)) rfl rfl) rfl ?_
    refine wl_nil ?_
    refine hK123 _ _ ?_
    refine w_condI (p := v113 < (x109.length : Int)) (b := (decide (v113 < (x109.length : Int)))) rfl decide_eq_true_iff (fun h124 => ?_) (fun h124 => ?_)
    · replace hm := hm.1 h124
      refine w_skip ?_
      refine hK122 _ _ ?_
      refine w_seq fun K125 hK125 => ?_
      refine w_block ?_
      refine w_seq fun K126 hK126 => ?_
      refine w_region ?_
      refine wl_val (g_move (v := .slice a0 n0 c0) rfl) rfl ?_
      refine wl_val (g_move (v := .int .i64 v113) rfl) rfl ?_
      obtain ⟨hg127, hm⟩ := hm
      refine wl_val (q_index (i := v113) SL27 rfl rfl (Tv.o (oT.vw hS120.g0 hS120.g1 he111)) (Tv.g (oT.vw hS120.g0 hS120.g1 he111) hg127)) rfl ?_
      refine wl_val (g_fieldAddr (q := (adr a0).add ((Int.toNat v113) * El.m PlayerD)) FL54_0 ON23 rfl) rfl ?_
      refine wl_val (q_loadF (i := v113) (j := 0) (v := .slice ((y110[(Int.toNat v113)]!).1.1) ((y110[(Int.toNat v113)]!).1.2.2.length) ((y110[(Int.toNat v113)]!).1.2.1)) ON23 (Tv.o (oT.vw hS120.g0 hS120.g1 he111)) (Tv.g (oT.vw hS120.g0 hS120.g1 he111) hg127) rfl rfl) rfl ?_
      refine wl_val (g_move (v := .int .i64 v112) rfl) rfl ?_
      have hS128 := hS120.f1
      have hS129 := hS128.f1
      have hd130 := Sep.dis hS129
      have hl131 : (Int.toNat v113) < (y110).length := by have h1 := (hg127).1; have h2 := (hg127).2; have h3 := congrArg List.length he111; simp only [ers, List.length_map] at h3; omega
      have he134 : (Rw.row (y110)[(Int.toNat v113)]! 0).2.2 = x109[(Int.toNat v113)]!.1 := by rw [← he111]; simp only [er_get hl131]; rfl
      have hS135 := Sep.foc (i := (Int.toNat v113)) (j := 0) hS129 hl131 (by decide) he134
      refine wl_step rfl (g_call (vs := #[.slice ((y110[(Int.toNat v113)]!).1.1) ((y110[(Int.toNat v113)]!).1.2.2.length) ((y110[(Int.toNat v113)]!).1.2.1), .int .i64 v112]) CF20 (args2 rfl rfl) (m_laws_markIntS_fn hS135 v112 hm)) ?_
      rintro _ w136 ⟨r139, x140, hm, rfl, hb137, hS138⟩
      have hB141 := hB119.trans hb137
      have hS142 := Sep.unfoc (i := (Int.toNat v113)) (j := 0) (ys := y110) hS138 hl131 (by decide) rfl hd130
      have he143 : ers (y110.set (Int.toNat v113) (Rs.rset (y110)[(Int.toNat v113)]! 0 x140)) = (x109.set (Int.toNat v113) (x140, x109[(Int.toNat v113)]!.2)) := ers_set he111 (by first | rfl | (rw [← he111, er_get hl131]; rfl)) _
      refine wl_val (g_assign (v := .int .i64 r139) rfl) rfl ?_
      refine wl_nil ?_
      refine hK126 _ _ ?_
      refine w_seq fun K144 hK144 => ?_
      refine w_region ?_
      refine wl_val (g_move (v := .slice a0 n0 c0) rfl) rfl ?_
      refine wl_val (g_move (v := .int .i64 v113) rfl) rfl ?_
      refine wl_val (g_move (v := .int .i64 r139) rfl) rfl ?_
      obtain ⟨hg145, hm⟩ := hm
      refine wl_val (q_index (i := v113) SL27 rfl rfl (Tv.o (oT.vw hS142.g0 hS142.g1 he143)) (Tv.g (oT.vw hS142.g0 hS142.g1 he143) hg145)) rfl ?_
      refine wl_val (g_fieldAddr (q := (adr a0).add ((Int.toNat v113) * El.m PlayerD)) FL54_1 ON3 rfl) rfl ?_
      have hS149 := hS142.f1
      have hS150 := hS149.f1
      have hl151 : ix v113 ((y110.set (Int.toNat v113) (Rs.rset (y110)[(Int.toNat v113)]! 0 x140))).length := by have h3 := congrArg List.length he143; simp only [ers, List.length_map] at h3; rw [h3]; exact hg145
      refine wl_step rfl (q_storeF (i := v113) (j := 1) (v := ((((y110.set (Int.toNat v113) (Rs.rset (y110)[(Int.toNat v113)]! 0 x140)))[(Int.toNat v113)]!.1, r139) : PlayerD)) hS150 ON3 hl151 rfl rfl rfl rfl (by decide) rfl) ?_
      rintro _ w146 ⟨rfl, hS147, hb148⟩
      have hB152 := hB141.trans hb148
      have hl153 : (Int.toNat v113) < ((y110.set (Int.toNat v113) (Rs.rset (y110)[(Int.toNat v113)]! 0 x140))).length := by have h1 := (hl151).1; have h2 := (hl151).2; omega
      have he154 : ers ((y110.set (Int.toNat v113) (Rs.rset (y110)[(Int.toNat v113)]! 0 x140)).set (Int.toNat v113) (((y110.set (Int.toNat v113) (Rs.rset (y110)[(Int.toNat v113)]! 0 x140)))[(Int.toNat v113)]!.1, r139)) = ((x109.set (Int.toNat v113) (x140, x109[(Int.toNat v113)]!.2)).set (Int.toNat v113) ((x109.set (Int.toNat v113) (x140, x109[(Int.toNat v113)]!.2))[(Int.toNat v113)]!.1, r139)) := ers_set he143 (by first | rfl | (rw [← he143, er_get hl153]; rfl)) _
      have hS155 := hS147.f1
      have hS156 := hS155.rowsSame (ys' := ((y110.set (Int.toNat v113) (Rs.rset (y110)[(Int.toNat v113)]! 0 x140)).set (Int.toNat v113) (((y110.set (Int.toNat v113) (Rs.rset (y110)[(Int.toNat v113)]! 0 x140)))[(Int.toNat v113)]!.1, r139))) (by simp) (fun i' j' h1 h2 => by rw [set_at _ _ _ hl153]; exact if hc : (Int.toNat v113) = i' then (by subst hc; rw [if_pos rfl]; rfl) else (by rw [if_neg hc]))
      refine wl_nil ?_
      refine hK144 _ _ ?_
      refine w_region ?_
      refine wl_val (g_move (v := .int .i64 r139) rfl) rfl ?_
      obtain ⟨hg157, hm⟩ := hm
      refine wl_val (g_add (a := r139) (b := 1) rfl rfl hg157) rfl ?_
      refine wl_val (g_assign (v := .int .i64 (r139 + 1)) rfl) rfl ?_
      refine wl_nil ?_
      refine hK125 _ _ ?_
      refine w_region ?_
      refine wl_val (g_move (v := .int .i64 v113) rfl) rfl ?_
      obtain ⟨hg158, hm⟩ := hm
      refine wl_val (g_add (a := v113) (b := 1) rfl rfl hg158) rfl ?_
      refine wl_val (g_assign (v := .int .i64 (v113 + 1)) rfl) rfl ?_
      refine wl_nil ?_
      have hS159 := hS156.f1
      exact ⟨(((x109.set (Int.toNat v113) (x140, x109[(Int.toNat v113)]!.2)).set (Int.toNat v113) ((x109.set (Int.toNat v113) (x140, x109[(Int.toNat v113)]!.2))[(Int.toNat v113)]!.1, r139)), ((y110.set (Int.toNat v113) (Rs.rset (y110)[(Int.toNat v113)]! 0 x140)).set (Int.toNat v113) (((y110.set (Int.toNat v113) (Rs.rset (y110)[(Int.toNat v113)]! 0 x140)))[(Int.toNat v113)]!.1, r139)), (r139 + 1), (v113 + 1)), hm.2, ⟨rfl, rfl, rfl, trivial⟩, ⟨hm.1, he154, hB152, hS159⟩⟩
    · replace hm := hm.2 h124
      refine w_exit ?_
      exact ⟨(x109, y110, v112), ⟨rfl, trivial⟩, ⟨hm, he111, hB119, hS120⟩⟩
  · rintro ⟨x103, y104, v106⟩ b_ w160 ⟨hm, he105, hB161, hS162⟩
    show Wp _ _ _ _ (upds b_ [(1, .int .i64 v106)]) w160
    refine w_seq fun K163 hK163 => ?_
    refine w_region ?_
    refine wl_val (g_move (v := .int .i64 v106) rfl) rfl ?_
    refine wl_val (g_assign (v := .int .i64 v106) rfl) rfl ?_
    refine wl_nil ?_
    refine hK163 _ _ ?_
    refine w_ret ?_
    repeat first | with_reducible refine q_then ?_ | with_reducible refine q_block ?_
    exact ret1 rfl (by decide) ⟨_, _, _, hm, he105, rfl, hB161, hS162⟩

theorem m_laws_markIntSS_fn {w : World} {B_ : Nat} {L_ : List Ob} {a0 : Option Addr} {n0 c0 : Nat} {p0 : List (List Int)} {y0 : List (Hd Int)} {Q : Int → (List (List Int)) → Prop} (hS0 : Sep w B_ (oS 23 a0 n0 c0 (y0 : List (Hd Int)) :: oT 3 (y0 : List (Hd Int)) :: L_)) (hep0 : ers y0 = p0) (p1 : Int) (hm : m_laws_markIntSS p0 p1 Q) :
    Fn Try.prog 29 #[.slice a0 n0 c0, .int .i64 p1] w (fun v w' => ∃ (r0 : Int) (x0 : List (List Int)) (yy0 : List (Hd Int)), Q r0 x0 ∧ ers yy0 = x0 ∧ v = .int .i64 r0 ∧ Below B_ w w' ∧ Sep w' B_ (oS 23 a0 n0 c0 yy0 :: oT 3 yy0 :: L_)) := by
  unfold m_laws_markIntSS at hm
  have hB0 := Below.refl B_ w
  refine fn_of_wp Try.func29 rfl (by kernel_rfl) (Nat.le_of_ble_eq_true rfl) ?_
  refine w_seq fun K4 hK4 => ?_
  refine w_region ?_
  refine wl_val (g_assign (v := .int .i64 0) rfl) rfl ?_
  refine wl_nil ?_
  refine hK4 _ _ ?_
  refine w_cut (σ := List (List Int) × List (Hd Int) × Int) (fun ⟨x72, y73, v75⟩ => [(1, .int .i64 v75)]) (fun ⟨x72, y73, v75⟩ w' => m_laws_markIntSS_K0 Q x72 v75 ∧ ers y73 = x72 ∧ Below B_ w w' ∧ Sep w' B_ (oS 23 a0 n0 c0 (y73 : List (Hd Int)) :: oT 3 (y73 : List (Hd Int)) :: L_)) ?_ ?_
  · refine w_seq fun K77 hK77 => ?_
    refine w_region ?_
    refine wl_val (g_assign (v := .int .i64 0) rfl) rfl ?_
    refine wl_nil ?_
    refine hK77 _ _ ?_
    refine w_block ?_
    obtain ⟨I83, μ84, h085, hr86⟩ := hm
    refine w_for (σ := List (List Int) × List (Hd Int) × Int × Int) (fun ⟨x78, y79, v81, v82⟩ => [(0, .slice a0 n0 c0), (1, .int .i64 v81), (5, .int .i64 v82)]) (fun ⟨x78, y79, v81, v82⟩ w' => I83 x78 v81 v82 ∧ ers y79 = x78 ∧ Below B_ w w' ∧ Sep w' B_ (oS 23 a0 n0 c0 (y79 : List (Hd Int)) :: oT 3 (y79 : List (Hd Int)) :: L_)) (fun ⟨x78, y79, v81, v82⟩ => μ84 x78 v81 v82) (p0, y0, p1, 0) ⟨rfl, rfl, rfl, trivial⟩ ⟨h085, hep0, hB0, hS0⟩ ?_
    rintro ⟨x78, y79, v81, v82⟩ b_ w87 ⟨hi_, he80, hB88, hS89⟩
    show Wp _ _ _ _ (upds b_ [(0, .slice a0 n0 c0), (1, .int .i64 v81), (5, .int .i64 v82)]) w87
    have hm := hr86 x78 v81 v82 hi_
    refine w_seq fun K91 hK91 => ?_
    refine w_seq fun K92 hK92 => ?_
    refine w_region ?_
    refine wl_val (g_move (v := .int .i64 v82) rfl) rfl ?_
    refine wl_val (g_move (v := .slice a0 n0 c0) rfl) rfl ?_
    refine wl_val (q_len SL37 rfl (Tv.len (oT.vw hS89.g0 hS89.g1 he80))) rfl ?_
    refine wl_val (g_lss (a := v82) (b := (x78.length : Int)) rfl rfl) rfl ?_
    refine wl_nil ?_
    refine hK92 _ _ ?_
    refine w_condI (p := v82 < (x78.length : Int)) (b := (decide (v82 < (x78.length : Int)))) rfl decide_eq_true_iff (fun h93 => ?_) (fun h93 => ?_)
    · replace hm := hm.1 h93
      refine w_skip ?_
      refine hK91 _ _ ?_
      refine w_seq fun K94 hK94 => ?_
      refine w_block ?_
      refine w_region ?_
      refine wl_val (g_move (v := .slice a0 n0 c0) rfl) rfl ?_
      refine wl_val (g_move (v := .int .i64 v82) rfl) rfl ?_
      obtain ⟨hg95, hm⟩ := hm
      refine wl_val (q_index (i := v82) SL37 rfl rfl (Tv.o (oT.vw hS89.g0 hS89.g1 he80)) (Tv.g (oT.vw hS89.g0 hS89.g1 he80) hg95)) rfl ?_
      refine wl_val (q_load (i := v82) (v := .slice ((y79[(Int.toNat v82)]!).1) ((y79[(Int.toNat v82)]!).2.2.length) ((y79[(Int.toNat v82)]!).2.1)) ON23 (Tv.o (oT.vw hS89.g0 hS89.g1 he80)) (Tv.g (oT.vw hS89.g0 hS89.g1 he80) hg95) rfl rfl) rfl ?_
      refine wl_val (g_move (v := .int .i64 v81) rfl) rfl ?_
      have hS96 := hS89.f1
      have hS97 := hS96.f1
      have hd98 := Sep.dis hS97
      have hl99 : (Int.toNat v82) < (y79).length := by have h1 := (hg95).1; have h2 := (hg95).2; have h3 := congrArg List.length he80; simp only [ers, List.length_map] at h3; omega
      have he102 : (Rw.row (y79)[(Int.toNat v82)]! 0).2.2 = x78[(Int.toNat v82)]! := by rw [← he80]; simp only [er_get hl99]; rfl
      have hS103 := Sep.foc (i := (Int.toNat v82)) (j := 0) hS97 hl99 (by decide) he102
      refine wl_step rfl (g_call (vs := #[.slice ((y79[(Int.toNat v82)]!).1) ((y79[(Int.toNat v82)]!).2.2.length) ((y79[(Int.toNat v82)]!).2.1), .int .i64 v81]) CF20 (args2 rfl rfl) (m_laws_markIntS_fn hS103 v81 hm)) ?_
      rintro _ w104 ⟨r107, x108, hm, rfl, hb105, hS106⟩
      have hB109 := hB88.trans hb105
      have hS110 := Sep.unfoc (i := (Int.toNat v82)) (j := 0) (ys := y79) hS106 hl99 (by decide) rfl hd98
      have he111 : ers (y79.set (Int.toNat v82) (Rs.rset (y79)[(Int.toNat v82)]! 0 x108)) = (x78.set (Int.toNat v82) x108) := ers_set he80 (by first | rfl | (rw [← he80, er_get hl99]; rfl)) _
      refine wl_val (g_assign (v := .int .i64 r107) rfl) rfl ?_
      refine wl_nil ?_
      refine hK94 _ _ ?_
      refine w_region ?_
      refine wl_val (g_move (v := .int .i64 v82) rfl) rfl ?_
      obtain ⟨hg112, hm⟩ := hm
      refine wl_val (g_add (a := v82) (b := 1) rfl rfl hg112) rfl ?_
      refine wl_val (g_assign (v := .int .i64 (v82 + 1)) rfl) rfl ?_
      refine wl_nil ?_
      exact ⟨((x78.set (Int.toNat v82) x108), (y79.set (Int.toNat v82) (Rs.rset (y79)[(Int.toNat v82)]! 0 x108)), r107, (v82 + 1)), hm.2, ⟨rfl, rfl, rfl, trivial⟩, ⟨hm.1, he111, hB109, hS110⟩⟩
    · replace hm := hm.2 h93
      refine w_exit ?_
      exact ⟨(x78, y79, v81), ⟨rfl, trivial⟩, ⟨hm, he80, hB88, hS89⟩⟩
  · rintro ⟨x72, y73, v75⟩ b_ w113 ⟨hm, he74, hB114, hS115⟩
    show Wp _ _ _ _ (upds b_ [(1, .int .i64 v75)]) w113
    refine w_seq fun K116 hK116 => ?_
    refine w_region ?_
    refine wl_val (g_move (v := .int .i64 v75) rfl) rfl ?_
    refine wl_val (g_assign (v := .int .i64 v75) rfl) rfl ?_
    refine wl_nil ?_
    refine hK116 _ _ ?_
    refine w_ret ?_
    repeat first | with_reducible refine q_then ?_ | with_reducible refine q_block ?_
    exact ret1 rfl (by decide) ⟨_, _, _, hm, he74, rfl, hB114, hS115⟩

end Go.Proofs.Ytddjkiefadiijaa
