/- The law FnExactJoinCrosses: for every input the call returns true, and each argument reads afterwards as it read before. No condition. -/
import Derived.Test.YtcgkcoogaieolaaB1
import Derived.Test.YtcgkcoogaieolaaOpen
import Derived.Test.YtcgkcoogaieolaaRows
import Derived.WalkKit
import Derived.ProofKit
import Derived.OpenShut
import Derived.ShutString
import Derived.ChangeOld
import Derived.Below
namespace Go.Proofs.Ytcgkcoogaieolaa
open Go Go.RowKit
theorem FnExactJoinCrosses_fn  {a0 : Option Addr} {c0 : Nat} {xs0 : List Cross} {a1 : Option Addr} {c1 : Nat} {xs1 : List Cross} {w : World} (hx0 : Cells 0 w.heap.size w a0 (xs0.flatMap crC)) (hn0 : a0 = none → c0 = 0) (hm0 : xs0.length ≤ 9223372036854775807) (hx1 : Cells 0 w.heap.size w a1 (xs1.flatMap crC)) (hn1 : a1 = none → c1 = 0) (hm1 : xs1.length ≤ 9223372036854775807) :
    Fn Try.prog 3 #[.slice a0 (xs0.length) (c0), .slice a1 (xs1.length) (c1)] w (LawR w) := by
  refine fn_of_wp Try.func3 rfl (by kernel_rfl) (Nat.le_of_ble_eq_true rfl) ?_
  have hB0 := Below.refl w.heap.size w
  have hz0 := hB0.size
  refine w_seq fun K1 hK1 => ?_
  refine w_region ?_
  refine wl_val (g_assign (v := .bool (false)) rfl) rfl ?_
  refine wl_nil ?_
  refine hK1 _ _ ?_
  refine w_seq fun K2 hK2 => ?_
  refine w_region ?_
  refine wl_val (g_assign (v := .int .i64 (1048576)) rfl) rfl ?_
  refine wl_nil ?_
  refine hK2 _ _ ?_
  refine w_seq fun K3 hK3 => ?_
  refine w_region ?_
  refine wl_val (g_move (v := .slice a0 (xs0.length) (c0)) rfl) rfl ?_
  refine wl_val (g_move (v := .int .i64 (1048576)) rfl) rfl ?_
  refine wl_step rfl (g_call (vs := #[.slice a0 (xs0.length) (c0), .int .i64 (1048576)]) CF14 (args2 rfl rfl) (szCrossS_fn (xs0.length) 1048576 (by omega) (by omega) (by omega))) ?_
  rintro _ w4 ⟨rfl, hE5⟩
  have hs6 := hE5.size
  have hB7 := Ext.below hB0 hE5 (by omega)
  have hz8 := hB7.size
  refine wl_val (g_assign (v := .int .i64 ((szR 1048576 ((xs0.length : Nat) : Int)))) rfl) rfl ?_
  refine wl_nil ?_
  refine hK3 _ _ ?_
  refine w_seq fun K9 hK9 => ?_
  refine w_seq fun K10 hK10 => ?_
  refine w_region ?_
  refine wl_val (g_move (v := .int .i64 ((szR 1048576 ((xs0.length : Nat) : Int)))) rfl) rfl ?_
  refine wl_val (g_lss (a := (szR 1048576 ((xs0.length : Nat) : Int))) (b := 0) rfl rfl) rfl ?_
  refine wl_nil ?_
  refine hK10 _ _ ?_
  refine w_cond_d (p := (szR 1048576 ((xs0.length : Nat) : Int)) < 0) rfl (fun h11 => ?_) (fun h11 => ?_)
  · refine w_seq fun K12 hK12 => ?_
    refine w_region ?_
    refine wl_val (g_assign (v := .bool (true)) rfl) rfl ?_
    refine wl_nil ?_
    refine hK12 _ _ ?_
    refine w_ret ?_
    exact ret1 rfl (by decide) ⟨rfl, hB7⟩
  · obtain ⟨hsz13, hsz13b⟩ := sz_ok h11
    refine w_skip ?_
    refine hK9 _ _ ?_
    refine w_seq fun K14 hK14 => ?_
    refine w_region ?_
    refine wl_val (g_move (v := .slice a1 (xs1.length) (c1)) rfl) rfl ?_
    refine wl_val (g_move (v := .int .i64 ((szR 1048576 ((xs0.length : Nat) : Int)))) rfl) rfl ?_
    refine wl_step rfl (g_call (vs := #[.slice a1 (xs1.length) (c1), .int .i64 ((szR 1048576 ((xs0.length : Nat) : Int)))]) CF14 (args2 rfl rfl) (szCrossS_fn (xs1.length) ((szR 1048576 ((xs0.length : Nat) : Int))) (by omega) (by omega) (by omega))) ?_
    rintro _ w15 ⟨rfl, hE16⟩
    have hs17 := hE16.size
    have hB18 := Ext.below hB7 hE16 (by omega)
    have hz19 := hB18.size
    refine wl_val (g_assign (v := .int .i64 ((szR ((szR 1048576 ((xs0.length : Nat) : Int))) ((xs1.length : Nat) : Int)))) rfl) rfl ?_
    refine wl_nil ?_
    refine hK14 _ _ ?_
    refine w_seq fun K20 hK20 => ?_
    refine w_seq fun K21 hK21 => ?_
    refine w_region ?_
    refine wl_val (g_move (v := .int .i64 ((szR ((szR 1048576 ((xs0.length : Nat) : Int))) ((xs1.length : Nat) : Int)))) rfl) rfl ?_
    refine wl_val (g_lss (a := (szR ((szR 1048576 ((xs0.length : Nat) : Int))) ((xs1.length : Nat) : Int))) (b := 0) rfl rfl) rfl ?_
    refine wl_nil ?_
    refine hK21 _ _ ?_
    refine w_cond_d (p := (szR ((szR 1048576 ((xs0.length : Nat) : Int))) ((xs1.length : Nat) : Int)) < 0) rfl (fun h22 => ?_) (fun h22 => ?_)
    · refine w_seq fun K23 hK23 => ?_
      refine w_region ?_
      refine wl_val (g_assign (v := .bool (true)) rfl) rfl ?_
      refine wl_nil ?_
      refine hK23 _ _ ?_
      refine w_ret ?_
      exact ret1 rfl (by decide) ⟨rfl, hB18⟩
    · obtain ⟨hsz24, hsz24b⟩ := sz_ok h22
      refine w_skip ?_
      refine hK20 _ _ ?_
      refine w_seq fun K25 hK25 => ?_
      refine w_region ?_
      refine wl_val (g_move (v := .slice a0 (xs0.length) (c0)) rfl) rfl ?_
      refine wl_step rfl (g_call (vs := #[.slice a0 (xs0.length) (c0)]) CF16 (args1 rfl) (toCrossS_fn (Cells.below hx0 hB18 (by omega)) (by omega) (by omega))) ?_
      rintro _ w26 ⟨a28, c29, rfl, hn30, hO31, hE27⟩
      have ht32 : ∀ k, blk a28 = some k → k < w26.heap.size := fun k hk => (hO31.lt k hk).2
      have hs33 := hE27.size
      have hB34 := Ext.below hB18 hE27 (by omega)
      have hz35 := hB34.size
      refine wl_val (g_move (v := .slice a1 (xs1.length) (c1)) rfl) rfl ?_
      refine wl_step rfl (g_call (vs := #[.slice a1 (xs1.length) (c1)]) CF16 (args1 rfl) (toCrossS_fn (Cells.below hx1 hB34 (by omega)) (by omega) (by omega))) ?_
      rintro _ w37 ⟨a39, c40, rfl, hn41, hO42, hE38⟩
      have ht43 : ∀ k, blk a39 = some k → k < w37.heap.size := fun k hk => (hO42.lt k hk).2
      have hs44 := hE38.size
      have hB45 := Ext.below hB34 hE38 (by omega)
      have hz46 := hB45.size
      have hr47 := hO31.ext hE38
      have hf49 := @List.length_append _ xs0 xs1
      refine wl_step rfl (g_call (vs := #[.slice a28 (xs0.length) (c29), .slice a39 (xs1.length) (c40)]) CF15 (args2 rfl rfl) (specJoin_fn (Own.cells hr47) (Own.cells hO42) hr47.nil0 hO42.nil0 (by omega) (by omega) (by omega) (by omega))) ?_
      rintro _ w50 ⟨a52, c53, rfl, hn54, hO55, hE51⟩
      have ht56 : ∀ k, blk a52 = some k → k < w50.heap.size := fun k hk => (hO55.lt k hk).2
      have hs57 := hE51.size
      have hB58 := Ext.below hB45 hE51 (by omega)
      have hz59 := hB58.size
      have hr60 := hr47.ext hE51
      have hr61 := hO42.ext hE51
      refine wl_val (g_assign (v := .slice a52 ((xs0 ++ xs1).length) (c53)) rfl) rfl ?_
      refine wl_nil ?_
      refine hK25 _ _ ?_
      refine w_seq fun K63 hK63 => ?_
      refine w_region ?_
      refine wl_val (g_move (v := .slice a0 (xs0.length) (c0)) rfl) rfl ?_
      refine wl_step rfl (g_call (vs := #[.slice a0 (xs0.length) (c0)]) CF16 (args1 rfl) (toCrossS_fn (Cells.below hx0 hB58 (by omega)) (by omega) (by omega))) ?_
      rintro _ w64 ⟨a66, c67, rfl, hn68, hO69, hE65⟩
      have ht70 : ∀ k, blk a66 = some k → k < w64.heap.size := fun k hk => (hO69.lt k hk).2
      have hs71 := hE65.size
      have hB72 := Ext.below hB58 hE65 (by omega)
      have hz73 := hB72.size
      have hr74 := hr60.ext hE65
      have hr75 := hr61.ext hE65
      have hr76 := hO55.ext hE65
      refine wl_val (g_assign (v := .slice a66 (xs0.length) (c67)) rfl) rfl ?_
      refine wl_nil ?_
      refine hK63 _ _ ?_
      refine w_seq fun K78 hK78 => ?_
      refine w_region ?_
      refine wl_val (g_move (v := .slice a1 (xs1.length) (c1)) rfl) rfl ?_
      refine wl_step rfl (g_call (vs := #[.slice a1 (xs1.length) (c1)]) CF16 (args1 rfl) (toCrossS_fn (Cells.below hx1 hB72 (by omega)) (by omega) (by omega))) ?_
      rintro _ w79 ⟨a81, c82, rfl, hn83, hO84, hE80⟩
      have ht85 : ∀ k, blk a81 = some k → k < w79.heap.size := fun k hk => (hO84.lt k hk).2
      have hs86 := hE80.size
      have hB87 := Ext.below hB72 hE80 (by omega)
      have hz88 := hB87.size
      have hr89 := hr74.ext hE80
      have hr90 := hr75.ext hE80
      have hr91 := hr76.ext hE80
      have hr92 := hO69.ext hE80
      refine wl_val (g_assign (v := .slice a81 (xs1.length) (c82)) rfl) rfl ?_
      refine wl_nil ?_
      refine hK78 _ _ ?_
      refine w_seq fun K94 hK94 => ?_
      refine w_region ?_
      refine wl_val (g_move (v := .slice a66 (xs0.length) (c67)) rfl) rfl ?_
      refine wl_val (g_move (v := .slice a81 (xs1.length) (c82)) rfl) rfl ?_
      have hf95 := @List.length_append _ xs0 xs1
      refine wl_step rfl (g_call (vs := #[.slice a66 (xs0.length) (c67), .slice a81 (xs1.length) (c82)]) CF17 (args2 rfl rfl) (implJoin_fn (Own.cells hr92) (Own.cells hO84) hr92.nil0 hO84.nil0 (by omega) (by omega) (by omega) (by omega))) ?_
      rintro _ w96 ⟨a98, c99, rfl, hn100, hO101, hE97⟩
      have ht102 : ∀ k, blk a98 = some k → k < w96.heap.size := fun k hk => (hO101.lt k hk).2
      have hs103 := hE97.size
      have hB104 := Ext.below hB87 hE97 (by omega)
      have hz105 := hB104.size
      have hr106 := hr89.ext hE97
      have hr107 := hr90.ext hE97
      have hr108 := hr91.ext hE97
      have hr109 := hr92.ext hE97
      have hr110 := hO84.ext hE97
      refine wl_val (g_assign (v := .slice a98 ((xs0 ++ xs1).length) (c99)) rfl) rfl ?_
      refine wl_nil ?_
      refine hK94 _ _ ?_
      refine w_seq fun K112 hK112 => ?_
      refine w_seq fun K113 hK113 => ?_
      refine w_region ?_
      refine wl_val (g_move (v := .slice a98 ((xs0 ++ xs1).length) (c99)) rfl) rfl ?_
      refine wl_val (g_move (v := .slice a52 ((xs0 ++ xs1).length) (c53)) rfl) rfl ?_
      refine wl_step rfl (g_call (vs := #[.slice a98 ((xs0 ++ xs1).length) (c99), .slice a52 ((xs0 ++ xs1).length) (c53)]) CF18 (args2 rfl rfl) (eqCrossS_fn (Own.cells hO101) (Own.cells hr108) (by omega) (by omega) (by omega))) ?_
      rintro _ w114 ⟨rfl, hE115⟩
      have hs116 := hE115.size
      have hB117 := Ext.below hB104 hE115 (by omega)
      have hz118 := hB117.size
      have hr119 := hr106.ext hE115
      have hr120 := hr107.ext hE115
      have hr121 := hr108.ext hE115
      have hr122 := hr109.ext hE115
      have hr123 := hr110.ext hE115
      have hr124 := hO101.ext hE115
      refine wl_val (g_not (a := (decide ((xs0 ++ xs1) = (xs0 ++ xs1)))) rfl) rfl ?_
      refine wl_nil ?_
      refine hK113 _ _ ?_
      refine w_cond (b := (!(decide ((xs0 ++ xs1) = (xs0 ++ xs1))))) rfl (fun h125 => ?_) (fun h125 => ?_)
      · replace h125 := (fun h => of_decide_eq_false (bt_not h)) h125
        refine w_seq fun K126 hK126 => ?_
        refine w_region ?_
        refine wl_val (g_assign (v := .bool (false)) rfl) rfl ?_
        refine wl_nil ?_
        refine hK126 _ _ ?_
        refine w_ret ?_
        exact False.elim (by first | exact h125 rfl | omega | simp at h125)
      · replace h125 := (fun h => of_decide_eq_true (bf_not h)) h125
        refine w_skip ?_
        refine hK112 _ _ ?_
        refine w_seq fun K127 hK127 => ?_
        refine w_seq fun K128 hK128 => ?_
        refine w_region ?_
        refine wl_val (g_move (v := .slice a66 (xs0.length) (c67)) rfl) rfl ?_
        refine wl_val (g_move (v := .slice a0 (xs0.length) (c0)) rfl) rfl ?_
        refine wl_step rfl (g_call (vs := #[.slice a0 (xs0.length) (c0)]) CF16 (args1 rfl) (toCrossS_fn (Cells.below hx0 hB117 (by omega)) (by omega) (by omega))) ?_
        rintro _ w129 ⟨a131, c132, rfl, hn133, hO134, hE130⟩
        have ht135 : ∀ k, blk a131 = some k → k < w129.heap.size := fun k hk => (hO134.lt k hk).2
        have hs136 := hE130.size
        have hB137 := Ext.below hB117 hE130 (by omega)
        have hz138 := hB137.size
        have hr139 := hr119.ext hE130
        have hr140 := hr120.ext hE130
        have hr141 := hr121.ext hE130
        have hr142 := hr122.ext hE130
        have hr143 := hr123.ext hE130
        have hr144 := hr124.ext hE130
        refine wl_step rfl (g_call (vs := #[.slice a66 (xs0.length) (c67), .slice a131 (xs0.length) (c132)]) CF18 (args2 rfl rfl) (eqCrossS_fn (Own.cells hr142) (Own.cells hO134) (by omega) (by omega) (by omega))) ?_
        rintro _ w146 ⟨rfl, hE147⟩
        have hs148 := hE147.size
        have hB149 := Ext.below hB137 hE147 (by omega)
        have hz150 := hB149.size
        have hr151 := hr139.ext hE147
        have hr152 := hr140.ext hE147
        have hr153 := hr141.ext hE147
        have hr154 := hr142.ext hE147
        have hr155 := hr143.ext hE147
        have hr156 := hr144.ext hE147
        have hr157 := hO134.ext hE147
        refine wl_val (g_not (a := (decide (xs0 = xs0))) rfl) rfl ?_
        refine wl_nil ?_
        refine hK128 _ _ ?_
        refine w_cond (b := (!(decide (xs0 = xs0)))) rfl (fun h158 => ?_) (fun h158 => ?_)
        · replace h158 := (fun h => of_decide_eq_false (bt_not h)) h158
          refine w_seq fun K159 hK159 => ?_
          refine w_region ?_
          refine wl_val (g_assign (v := .bool (false)) rfl) rfl ?_
          refine wl_nil ?_
          refine hK159 _ _ ?_
          refine w_ret ?_
          exact False.elim (by first | exact h158 rfl | omega | simp at h158)
        · replace h158 := (fun h => of_decide_eq_true (bf_not h)) h158
          refine w_skip ?_
          refine hK127 _ _ ?_
          refine w_seq fun K160 hK160 => ?_
          refine w_seq fun K161 hK161 => ?_
          refine w_region ?_
          refine wl_val (g_move (v := .slice a81 (xs1.length) (c82)) rfl) rfl ?_
          refine wl_val (g_move (v := .slice a1 (xs1.length) (c1)) rfl) rfl ?_
          refine wl_step rfl (g_call (vs := #[.slice a1 (xs1.length) (c1)]) CF16 (args1 rfl) (toCrossS_fn (Cells.below hx1 hB149 (by omega)) (by omega) (by omega))) ?_
          rintro _ w162 ⟨a164, c165, rfl, hn166, hO167, hE163⟩
          have ht168 : ∀ k, blk a164 = some k → k < w162.heap.size := fun k hk => (hO167.lt k hk).2
          have hs169 := hE163.size
          have hB170 := Ext.below hB149 hE163 (by omega)
          have hz171 := hB170.size
          have hr172 := hr151.ext hE163
          have hr173 := hr152.ext hE163
          have hr174 := hr153.ext hE163
          have hr175 := hr154.ext hE163
          have hr176 := hr155.ext hE163
          have hr177 := hr156.ext hE163
          have hr178 := hr157.ext hE163
          refine wl_step rfl (g_call (vs := #[.slice a81 (xs1.length) (c82), .slice a164 (xs1.length) (c165)]) CF18 (args2 rfl rfl) (eqCrossS_fn (Own.cells hr176) (Own.cells hO167) (by omega) (by omega) (by omega))) ?_
          rintro _ w180 ⟨rfl, hE181⟩
          have hs182 := hE181.size
          have hB183 := Ext.below hB170 hE181 (by omega)
          have hz184 := hB183.size
          have hr185 := hr172.ext hE181
          have hr186 := hr173.ext hE181
          have hr187 := hr174.ext hE181
          have hr188 := hr175.ext hE181
          have hr189 := hr176.ext hE181
          have hr190 := hr177.ext hE181
          have hr191 := hr178.ext hE181
          have hr192 := hO167.ext hE181
          refine wl_val (g_not (a := (decide (xs1 = xs1))) rfl) rfl ?_
          refine wl_nil ?_
          refine hK161 _ _ ?_
          refine w_cond (b := (!(decide (xs1 = xs1)))) rfl (fun h193 => ?_) (fun h193 => ?_)
          · replace h193 := (fun h => of_decide_eq_false (bt_not h)) h193
            refine w_seq fun K194 hK194 => ?_
            refine w_region ?_
            refine wl_val (g_assign (v := .bool (false)) rfl) rfl ?_
            refine wl_nil ?_
            refine hK194 _ _ ?_
            refine w_ret ?_
            exact False.elim (by first | exact h193 rfl | omega | simp at h193)
          · replace h193 := (fun h => of_decide_eq_true (bf_not h)) h193
            refine w_skip ?_
            refine hK160 _ _ ?_
            refine w_seq fun K195 hK195 => ?_
            refine w_region ?_
            refine wl_val (g_assign (v := .int .i64 (1)) rfl) rfl ?_
            refine wl_nil ?_
            refine hK195 _ _ ?_
            refine w_seq fun K196 hK196 => ?_
            refine w_region ?_
            refine wl_val (g_move (v := .slice a66 (xs0.length) (c67)) rfl) rfl ?_
            refine wl_val (g_move (v := .int .i64 (1)) rfl) rfl ?_
            refine wl_step rfl (g_call (vs := #[.slice a66 (xs0.length) (c67), .int .i64 (1)]) CF19 (args2 rfl rfl) (markCrossS_fn 1 hr188 (by first | rfl | omega | simp) (by omega) (by omega) (by omega))) ?_
            rintro _ w197 ⟨rfl, hO199, hE198⟩
            have hs200 := hE198.size
            have hB201 := Chg.below hB183 hE198 (by omega) (fun k hk => by have := hr188.lt k hk; omega)
            have hz202 := hB201.size
            have hr203 := hr185.chg hE198 (fun k hk hk2 => by have h1 := hr188.lt k hk; have h2 := hr185.lt k hk2; have h3 := ht70 k hk; have h4 := ht32 k hk2; omega)
            have hr204 := hr186.chg hE198 (fun k hk hk2 => by have h1 := hr188.lt k hk; have h2 := hr186.lt k hk2; have h3 := ht70 k hk; have h4 := ht43 k hk2; omega)
            have hr205 := hr187.chg hE198 (fun k hk hk2 => by have h1 := hr188.lt k hk; have h2 := hr187.lt k hk2; have h3 := ht70 k hk; have h4 := ht56 k hk2; omega)
            have hr206 := hr189.chg hE198 (fun k hk hk2 => by have h1 := hr188.lt k hk; have h2 := hr189.lt k hk2; have h3 := ht70 k hk; have h4 := ht85 k hk2; omega)
            have hr207 := hr190.chg hE198 (fun k hk hk2 => by have h1 := hr188.lt k hk; have h2 := hr190.lt k hk2; have h3 := ht70 k hk; have h4 := ht102 k hk2; omega)
            have hr208 := hr191.chg hE198 (fun k hk hk2 => by have h1 := hr188.lt k hk; have h2 := hr191.lt k hk2; have h3 := ht70 k hk; have h4 := ht135 k hk2; omega)
            have hr209 := hr192.chg hE198 (fun k hk hk2 => by have h1 := hr188.lt k hk; have h2 := hr192.lt k hk2; have h3 := ht70 k hk; have h4 := ht168 k hk2; omega)
            refine wl_val (g_assign (v := .int .i64 ((1 + 2 * ((xs0.length : Nat) : Int)))) rfl) rfl ?_
            refine wl_nil ?_
            refine hK196 _ _ ?_
            refine w_seq fun K210 hK210 => ?_
            refine w_region ?_
            refine wl_val (g_move (v := .slice a81 (xs1.length) (c82)) rfl) rfl ?_
            refine wl_val (g_move (v := .int .i64 ((1 + 2 * ((xs0.length : Nat) : Int)))) rfl) rfl ?_
            refine wl_step rfl (g_call (vs := #[.slice a81 (xs1.length) (c82), .int .i64 ((1 + 2 * ((xs0.length : Nat) : Int)))]) CF19 (args2 rfl rfl) (markCrossS_fn ((1 + 2 * ((xs0.length : Nat) : Int))) hr206 (by first | rfl | omega | simp) (by omega) (by omega) (by omega))) ?_
            rintro _ w211 ⟨rfl, hO213, hE212⟩
            have hs214 := hE212.size
            have hB215 := Chg.below hB201 hE212 (by omega) (fun k hk => by have := hr206.lt k hk; omega)
            have hz216 := hB215.size
            have hr217 := hr203.chg hE212 (fun k hk hk2 => by have h1 := hr206.lt k hk; have h2 := hr203.lt k hk2; have h3 := ht85 k hk; have h4 := ht32 k hk2; omega)
            have hr218 := hr204.chg hE212 (fun k hk hk2 => by have h1 := hr206.lt k hk; have h2 := hr204.lt k hk2; have h3 := ht85 k hk; have h4 := ht43 k hk2; omega)
            have hr219 := hr205.chg hE212 (fun k hk hk2 => by have h1 := hr206.lt k hk; have h2 := hr205.lt k hk2; have h3 := ht85 k hk; have h4 := ht56 k hk2; omega)
            have hr220 := hO199.chg hE212 (fun k hk hk2 => by have h1 := hr206.lt k hk; have h2 := hO199.lt k hk2; have h3 := ht85 k hk; have h4 := ht70 k hk2; omega)
            have hr221 := hr207.chg hE212 (fun k hk hk2 => by have h1 := hr206.lt k hk; have h2 := hr207.lt k hk2; have h3 := ht85 k hk; have h4 := ht102 k hk2; omega)
            have hr222 := hr208.chg hE212 (fun k hk hk2 => by have h1 := hr206.lt k hk; have h2 := hr208.lt k hk2; have h3 := ht85 k hk; have h4 := ht135 k hk2; omega)
            have hr223 := hr209.chg hE212 (fun k hk hk2 => by have h1 := hr206.lt k hk; have h2 := hr209.lt k hk2; have h3 := ht85 k hk; have h4 := ht168 k hk2; omega)
            refine wl_val (g_assign (v := .int .i64 (((1 + 2 * ((xs0.length : Nat) : Int)) + 2 * ((xs1.length : Nat) : Int)))) rfl) rfl ?_
            refine wl_nil ?_
            refine hK210 _ _ ?_
            refine w_seq fun K224 hK224 => ?_
            refine w_seq fun K225 hK225 => ?_
            refine w_region ?_
            refine wl_val (g_move (v := .int .i64 (((1 + 2 * ((xs0.length : Nat) : Int)) + 2 * ((xs1.length : Nat) : Int)))) rfl) rfl ?_
            refine wl_val (g_lss (a := ((1 + 2 * ((xs0.length : Nat) : Int)) + 2 * ((xs1.length : Nat) : Int))) (b := 0) rfl rfl) rfl ?_
            refine wl_val (g_move (v := .bool (decide (((1 + 2 * ((xs0.length : Nat) : Int)) + 2 * ((xs1.length : Nat) : Int)) < 0))) rfl) rfl ?_
            refine wl_guard (c := (decide (((1 + 2 * ((xs0.length : Nat) : Int)) + 2 * ((xs1.length : Nat) : Int)) < 0)) = false) (val := .slice a98 ((xs0 ++ xs1).length) (c99)) (b := ((decide (((1 + 2 * ((xs0.length : Nat) : Int)) + 2 * ((xs1.length : Nat) : Int)) < 0)) == false)) (gv_some rfl rfl rfl) beq_iff_eq (fun hg226 => ?_) ?_
            · have hg226p := of_decide_eq_false hg226
              exact g_move (v := .slice a98 ((xs0 ++ xs1).length) (c99)) rfl
            refine wl_guard (c := (decide (((1 + 2 * ((xs0.length : Nat) : Int)) + 2 * ((xs1.length : Nat) : Int)) < 0)) = false) (val := .slice a52 ((xs0 ++ xs1).length) (c53)) (b := ((decide (((1 + 2 * ((xs0.length : Nat) : Int)) + 2 * ((xs1.length : Nat) : Int)) < 0)) == false)) (gv_some rfl rfl rfl) beq_iff_eq (fun hg227 => ?_) ?_
            · have hg227p := of_decide_eq_false hg227
              exact g_move (v := .slice a52 ((xs0 ++ xs1).length) (c53)) rfl
            refine wl_guardE (X := Ext) (c := (decide (((1 + 2 * ((xs0.length : Nat) : Int)) + 2 * ((xs1.length : Nat) : Int)) < 0)) = false) (val := .bool (decide ((xs0 ++ xs1) = (xs0 ++ xs1)))) (b := ((decide (((1 + 2 * ((xs0.length : Nat) : Int)) + 2 * ((xs1.length : Nat) : Int)) < 0)) == false)) (Ext.refl _) (gv_some rfl rfl rfl) beq_iff_eq (fun hg228 => ?_) (fun w229 hE230 => ?_)
            · have hg228p := of_decide_eq_false hg228
              exact g_call (vs := #[.slice a98 ((xs0 ++ xs1).length) (c99), .slice a52 ((xs0 ++ xs1).length) (c53)]) CF18 (args2 (if_pos (e := undef) hg228) (if_pos (e := undef) hg228)) (eqCrossS_fn (Own.cells hr221) (Own.cells hr219) (by omega) (by omega) (by omega))
            have hs231 := hE230.size
            have hB232 := Ext.below hB215 hE230 (by omega)
            have hz233 := hB232.size
            have hr234 := hr217.ext hE230
            have hr235 := hr218.ext hE230
            have hr236 := hr219.ext hE230
            have hr237 := hr220.ext hE230
            have hr238 := hO213.ext hE230
            have hr239 := hr221.ext hE230
            have hr240 := hr222.ext hE230
            have hr241 := hr223.ext hE230
            refine wl_guard (c := (decide (((1 + 2 * ((xs0.length : Nat) : Int)) + 2 * ((xs1.length : Nat) : Int)) < 0)) = false) (val := .bool (!(decide ((xs0 ++ xs1) = (xs0 ++ xs1))))) (b := ((decide (((1 + 2 * ((xs0.length : Nat) : Int)) + 2 * ((xs1.length : Nat) : Int)) < 0)) == false)) (gv_some rfl rfl rfl) beq_iff_eq (fun hg242 => ?_) ?_
            · have hg242p := of_decide_eq_false hg242
              exact g_not (a := (decide ((xs0 ++ xs1) = (xs0 ++ xs1)))) (if_pos (e := undef) hg242)
            refine wl_val (g_pick_or (b := (decide (((1 + 2 * ((xs0.length : Nat) : Int)) + 2 * ((xs1.length : Nat) : Int)) < 0))) (q := (!(decide ((xs0 ++ xs1) = (xs0 ++ xs1))))) rfl rfl) rfl ?_
            refine wl_nil ?_
            refine hK225 _ _ ?_
            refine w_cond (b := ((decide (((1 + 2 * ((xs0.length : Nat) : Int)) + 2 * ((xs1.length : Nat) : Int)) < 0) || !(decide ((xs0 ++ xs1) = (xs0 ++ xs1)))))) rfl (fun h243 => ?_) (fun h243 => ?_)
            · replace h243 := (fun h => Or.imp of_decide_eq_true (fun h => of_decide_eq_false (bt_not h)) (bt_or h)) h243
              refine w_seq fun K244 hK244 => ?_
              refine w_region ?_
              refine wl_val (g_assign (v := .bool (false)) rfl) rfl ?_
              refine wl_nil ?_
              refine hK244 _ _ ?_
              refine w_ret ?_
              exact False.elim (Or.elim h243 (fun hc0 => (by first | exact hc0 rfl | omega | simp at hc0)) (fun hc0 => (by first | exact hc0 rfl | omega | simp at hc0)))
            · replace h243 := (fun h => And.imp of_decide_eq_false (fun h => of_decide_eq_true (bf_not h)) (bf_or h)) h243
              refine w_skip ?_
              refine hK224 _ _ ?_
              refine w_seq fun K245 hK245 => ?_
              refine w_region ?_
              refine wl_val (g_assign (v := .int .i64 (1)) rfl) rfl ?_
              refine wl_nil ?_
              refine hK245 _ _ ?_
              refine w_seq fun K246 hK246 => ?_
              refine w_region ?_
              refine wl_val (g_move (v := .slice a98 ((xs0 ++ xs1).length) (c99)) rfl) rfl ?_
              refine wl_val (g_move (v := .int .i64 (1)) rfl) rfl ?_
              refine wl_step rfl (g_call (vs := #[.slice a98 ((xs0 ++ xs1).length) (c99), .int .i64 (1)]) CF19 (args2 rfl rfl) (markCrossS_fn 1 hr239 (by first | rfl | omega | simp) (by omega) (by omega) (by omega))) ?_
              rintro _ w247 ⟨rfl, hO249, hE248⟩
              have hs250 := hE248.size
              have hB251 := Chg.below hB232 hE248 (by omega) (fun k hk => by have := hr239.lt k hk; omega)
              have hz252 := hB251.size
              have hr253 := hr234.chg hE248 (fun k hk hk2 => by have h1 := hr239.lt k hk; have h2 := hr234.lt k hk2; have h3 := ht102 k hk; have h4 := ht32 k hk2; omega)
              have hr254 := hr235.chg hE248 (fun k hk hk2 => by have h1 := hr239.lt k hk; have h2 := hr235.lt k hk2; have h3 := ht102 k hk; have h4 := ht43 k hk2; omega)
              have hr255 := hr236.chg hE248 (fun k hk hk2 => by have h1 := hr239.lt k hk; have h2 := hr236.lt k hk2; have h3 := ht102 k hk; have h4 := ht56 k hk2; omega)
              have hr256 := hr237.chg hE248 (fun k hk hk2 => by have h1 := hr239.lt k hk; have h2 := hr237.lt k hk2; have h3 := ht102 k hk; have h4 := ht70 k hk2; omega)
              have hr257 := hr238.chg hE248 (fun k hk hk2 => by have h1 := hr239.lt k hk; have h2 := hr238.lt k hk2; have h3 := ht102 k hk; have h4 := ht85 k hk2; omega)
              have hr258 := hr240.chg hE248 (fun k hk hk2 => by have h1 := hr239.lt k hk; have h2 := hr240.lt k hk2; have h3 := ht102 k hk; have h4 := ht135 k hk2; omega)
              have hr259 := hr241.chg hE248 (fun k hk hk2 => by have h1 := hr239.lt k hk; have h2 := hr241.lt k hk2; have h3 := ht102 k hk; have h4 := ht168 k hk2; omega)
              refine wl_val (g_assign (v := .int .i64 ((1 + 2 * (((xs0 ++ xs1).length : Nat) : Int)))) rfl) rfl ?_
              refine wl_nil ?_
              refine hK246 _ _ ?_
              refine w_seq fun K260 hK260 => ?_
              refine w_region ?_
              refine wl_val (g_assign (v := .int .i64 (1)) rfl) rfl ?_
              refine wl_nil ?_
              refine hK260 _ _ ?_
              refine w_seq fun K261 hK261 => ?_
              refine w_region ?_
              refine wl_val (g_move (v := .slice a98 ((xs0 ++ xs1).length) (c99)) rfl) rfl ?_
              refine wl_val (g_move (v := .int .i64 (1)) rfl) rfl ?_
              refine wl_step rfl (g_call (vs := #[.slice a98 ((xs0 ++ xs1).length) (c99), .int .i64 (1)]) CF20 (args2 rfl rfl) (heldCrossS_fn 1 ((xs0 ++ xs1).length) (Own.cells hO249) (by omega) (by omega) (by omega) (by omega))) ?_
              rintro _ w262 ⟨rfl, hE263⟩
              have hs264 := hE263.size
              have hB265 := Ext.below hB251 hE263 (by omega)
              have hz266 := hB265.size
              have hr267 := hr253.ext hE263
              have hr268 := hr254.ext hE263
              have hr269 := hr255.ext hE263
              have hr270 := hr256.ext hE263
              have hr271 := hr257.ext hE263
              have hr272 := hO249.ext hE263
              have hr273 := hr258.ext hE263
              have hr274 := hr259.ext hE263
              refine wl_val (g_assign (v := .int .i64 ((1 + 2 * (((xs0 ++ xs1).length : Nat) : Int)))) rfl) rfl ?_
              refine wl_nil ?_
              refine hK261 _ _ ?_
              refine w_seq fun K275 hK275 => ?_
              refine w_seq fun K276 hK276 => ?_
              refine w_region ?_
              refine wl_val (g_move (v := .int .i64 ((1 + 2 * (((xs0 ++ xs1).length : Nat) : Int)))) rfl) rfl ?_
              refine wl_val (g_lss (a := (1 + 2 * (((xs0 ++ xs1).length : Nat) : Int))) (b := 0) rfl rfl) rfl ?_
              refine wl_nil ?_
              refine hK276 _ _ ?_
              refine w_cond_d (p := (1 + 2 * (((xs0 ++ xs1).length : Nat) : Int)) < 0) rfl (fun h277 => ?_) (fun h277 => ?_)
              · refine w_seq fun K278 hK278 => ?_
                refine w_region ?_
                refine wl_val (g_assign (v := .bool (false)) rfl) rfl ?_
                refine wl_nil ?_
                refine hK278 _ _ ?_
                refine w_ret ?_
                exact False.elim (by first | exact h277 rfl | omega | simp at h277)
              · refine w_skip ?_
                refine hK275 _ _ ?_
                refine w_seq fun K279 hK279 => ?_
                refine w_seq fun K280 hK280 => ?_
                refine w_region ?_
                refine wl_val (g_move (v := .int .i64 ((1 + 2 * (((xs0 ++ xs1).length : Nat) : Int)))) rfl) rfl ?_
                refine wl_val (g_move (v := .int .i64 ((1 + 2 * (((xs0 ++ xs1).length : Nat) : Int)))) rfl) rfl ?_
                refine wl_val (g_neq (a := (1 + 2 * (((xs0 ++ xs1).length : Nat) : Int))) (b := (1 + 2 * (((xs0 ++ xs1).length : Nat) : Int))) rfl rfl) rfl ?_
                refine wl_nil ?_
                refine hK280 _ _ ?_
                refine w_cond_d (p := (1 + 2 * (((xs0 ++ xs1).length : Nat) : Int)) ≠ (1 + 2 * (((xs0 ++ xs1).length : Nat) : Int))) rfl (fun h281 => ?_) (fun h281 => ?_)
                · refine w_seq fun K282 hK282 => ?_
                  refine w_region ?_
                  refine wl_val (g_assign (v := .bool (false)) rfl) rfl ?_
                  refine wl_nil ?_
                  refine hK282 _ _ ?_
                  refine w_ret ?_
                  exact False.elim (by first | exact h281 rfl | omega | simp at h281)
                · refine w_skip ?_
                  refine hK279 _ _ ?_
                  refine w_seq fun K283 hK283 => ?_
                  refine w_region ?_
                  refine wl_val (g_move (v := .slice a0 (xs0.length) (c0)) rfl) rfl ?_
                  refine wl_step rfl (g_call (vs := #[.slice a0 (xs0.length) (c0)]) CF16 (args1 rfl) (toCrossS_fn (Cells.below hx0 hB265 (by omega)) (by omega) (by omega))) ?_
                  rintro _ w284 ⟨a286, c287, rfl, hn288, hO289, hE285⟩
                  have ht290 : ∀ k, blk a286 = some k → k < w284.heap.size := fun k hk => (hO289.lt k hk).2
                  have hs291 := hE285.size
                  have hB292 := Ext.below hB265 hE285 (by omega)
                  have hz293 := hB292.size
                  have hr294 := hr267.ext hE285
                  have hr295 := hr268.ext hE285
                  have hr296 := hr269.ext hE285
                  have hr297 := hr270.ext hE285
                  have hr298 := hr271.ext hE285
                  have hr299 := hr272.ext hE285
                  have hr300 := hr273.ext hE285
                  have hr301 := hr274.ext hE285
                  refine wl_val (g_move (v := .slice a1 (xs1.length) (c1)) rfl) rfl ?_
                  refine wl_step rfl (g_call (vs := #[.slice a1 (xs1.length) (c1)]) CF16 (args1 rfl) (toCrossS_fn (Cells.below hx1 hB292 (by omega)) (by omega) (by omega))) ?_
                  rintro _ w303 ⟨a305, c306, rfl, hn307, hO308, hE304⟩
                  have ht309 : ∀ k, blk a305 = some k → k < w303.heap.size := fun k hk => (hO308.lt k hk).2
                  have hs310 := hE304.size
                  have hB311 := Ext.below hB292 hE304 (by omega)
                  have hz312 := hB311.size
                  have hr313 := hr294.ext hE304
                  have hr314 := hr295.ext hE304
                  have hr315 := hr296.ext hE304
                  have hr316 := hr297.ext hE304
                  have hr317 := hr298.ext hE304
                  have hr318 := hr299.ext hE304
                  have hr319 := hr300.ext hE304
                  have hr320 := hr301.ext hE304
                  have hr321 := hO289.ext hE304
                  have hf323 := @List.length_append _ xs0 xs1
                  refine wl_step rfl (g_call (vs := #[.slice a286 (xs0.length) (c287), .slice a305 (xs1.length) (c306)]) CF17 (args2 rfl rfl) (implJoin_fn (Own.cells hr321) (Own.cells hO308) hr321.nil0 hO308.nil0 (by omega) (by omega) (by omega) (by omega))) ?_
                  rintro _ w324 ⟨a326, c327, rfl, hn328, hO329, hE325⟩
                  have ht330 : ∀ k, blk a326 = some k → k < w324.heap.size := fun k hk => (hO329.lt k hk).2
                  have hs331 := hE325.size
                  have hB332 := Ext.below hB311 hE325 (by omega)
                  have hz333 := hB332.size
                  have hr334 := hr313.ext hE325
                  have hr335 := hr314.ext hE325
                  have hr336 := hr315.ext hE325
                  have hr337 := hr316.ext hE325
                  have hr338 := hr317.ext hE325
                  have hr339 := hr318.ext hE325
                  have hr340 := hr319.ext hE325
                  have hr341 := hr320.ext hE325
                  have hr342 := hr321.ext hE325
                  have hr343 := hO308.ext hE325
                  refine wl_val (g_assign (v := .slice a326 ((xs0 ++ xs1).length) (c327)) rfl) rfl ?_
                  refine wl_nil ?_
                  refine hK283 _ _ ?_
                  refine w_seq fun K345 hK345 => ?_
                  refine w_seq fun K346 hK346 => ?_
                  refine w_region ?_
                  refine wl_val (g_move (v := .slice a326 ((xs0 ++ xs1).length) (c327)) rfl) rfl ?_
                  refine wl_val (g_move (v := .slice a52 ((xs0 ++ xs1).length) (c53)) rfl) rfl ?_
                  refine wl_step rfl (g_call (vs := #[.slice a326 ((xs0 ++ xs1).length) (c327), .slice a52 ((xs0 ++ xs1).length) (c53)]) CF18 (args2 rfl rfl) (eqCrossS_fn (Own.cells hO329) (Own.cells hr336) (by omega) (by omega) (by omega))) ?_
                  rintro _ w347 ⟨rfl, hE348⟩
                  have hs349 := hE348.size
                  have hB350 := Ext.below hB332 hE348 (by omega)
                  have hz351 := hB350.size
                  have hr352 := hr334.ext hE348
                  have hr353 := hr335.ext hE348
                  have hr354 := hr336.ext hE348
                  have hr355 := hr337.ext hE348
                  have hr356 := hr338.ext hE348
                  have hr357 := hr339.ext hE348
                  have hr358 := hr340.ext hE348
                  have hr359 := hr341.ext hE348
                  have hr360 := hr342.ext hE348
                  have hr361 := hr343.ext hE348
                  have hr362 := hO329.ext hE348
                  refine wl_val (g_not (a := (decide ((xs0 ++ xs1) = (xs0 ++ xs1)))) rfl) rfl ?_
                  refine wl_nil ?_
                  refine hK346 _ _ ?_
                  refine w_cond (b := (!(decide ((xs0 ++ xs1) = (xs0 ++ xs1))))) rfl (fun h363 => ?_) (fun h363 => ?_)
                  · replace h363 := (fun h => of_decide_eq_false (bt_not h)) h363
                    refine w_seq fun K364 hK364 => ?_
                    refine w_region ?_
                    refine wl_val (g_assign (v := .bool (false)) rfl) rfl ?_
                    refine wl_nil ?_
                    refine hK364 _ _ ?_
                    refine w_ret ?_
                    exact False.elim (by first | exact h363 rfl | omega | simp at h363)
                  · replace h363 := (fun h => of_decide_eq_true (bf_not h)) h363
                    refine w_skip ?_
                    refine hK345 _ _ ?_
                    refine w_seq fun K365 hK365 => ?_
                    refine w_region ?_
                    refine wl_val (g_assign (v := .int .i64 (1)) rfl) rfl ?_
                    refine wl_nil ?_
                    refine hK365 _ _ ?_
                    refine w_seq fun K366 hK366 => ?_
                    refine w_region ?_
                    refine wl_val (g_move (v := .slice a98 ((xs0 ++ xs1).length) (c99)) rfl) rfl ?_
                    refine wl_val (g_move (v := .int .i64 (1)) rfl) rfl ?_
                    refine wl_step rfl (g_call (vs := #[.slice a98 ((xs0 ++ xs1).length) (c99), .int .i64 (1)]) CF20 (args2 rfl rfl) (heldCrossS_fn 1 ((xs0 ++ xs1).length) (Own.cells hr357) (by omega) (by omega) (by omega) (by omega))) ?_
                    rintro _ w367 ⟨rfl, hE368⟩
                    have hs369 := hE368.size
                    have hB370 := Ext.below hB350 hE368 (by omega)
                    have hz371 := hB370.size
                    have hr372 := hr352.ext hE368
                    have hr373 := hr353.ext hE368
                    have hr374 := hr354.ext hE368
                    have hr375 := hr355.ext hE368
                    have hr376 := hr356.ext hE368
                    have hr377 := hr357.ext hE368
                    have hr378 := hr358.ext hE368
                    have hr379 := hr359.ext hE368
                    have hr380 := hr360.ext hE368
                    have hr381 := hr361.ext hE368
                    have hr382 := hr362.ext hE368
                    refine wl_val (g_assign (v := .int .i64 ((1 + 2 * (((xs0 ++ xs1).length : Nat) : Int)))) rfl) rfl ?_
                    refine wl_nil ?_
                    refine hK366 _ _ ?_
                    refine w_seq fun K383 hK383 => ?_
                    refine w_seq fun K384 hK384 => ?_
                    refine w_region ?_
                    refine wl_val (g_move (v := .int .i64 ((1 + 2 * (((xs0 ++ xs1).length : Nat) : Int)))) rfl) rfl ?_
                    refine wl_val (g_lss (a := (1 + 2 * (((xs0 ++ xs1).length : Nat) : Int))) (b := 0) rfl rfl) rfl ?_
                    refine wl_nil ?_
                    refine hK384 _ _ ?_
                    refine w_cond_d (p := (1 + 2 * (((xs0 ++ xs1).length : Nat) : Int)) < 0) rfl (fun h385 => ?_) (fun h385 => ?_)
                    · refine w_seq fun K386 hK386 => ?_
                      refine w_region ?_
                      refine wl_val (g_assign (v := .bool (false)) rfl) rfl ?_
                      refine wl_nil ?_
                      refine hK386 _ _ ?_
                      refine w_ret ?_
                      exact False.elim (by first | exact h385 rfl | omega | simp at h385)
                    · refine w_skip ?_
                      refine hK383 _ _ ?_
                      refine w_seq fun K387 hK387 => ?_
                      refine w_seq fun K388 hK388 => ?_
                      refine w_region ?_
                      refine wl_val (g_move (v := .int .i64 ((1 + 2 * (((xs0 ++ xs1).length : Nat) : Int)))) rfl) rfl ?_
                      refine wl_val (g_move (v := .int .i64 ((1 + 2 * (((xs0 ++ xs1).length : Nat) : Int)))) rfl) rfl ?_
                      refine wl_val (g_neq (a := (1 + 2 * (((xs0 ++ xs1).length : Nat) : Int))) (b := (1 + 2 * (((xs0 ++ xs1).length : Nat) : Int))) rfl rfl) rfl ?_
                      refine wl_nil ?_
                      refine hK388 _ _ ?_
                      refine w_cond_d (p := (1 + 2 * (((xs0 ++ xs1).length : Nat) : Int)) ≠ (1 + 2 * (((xs0 ++ xs1).length : Nat) : Int))) rfl (fun h389 => ?_) (fun h389 => ?_)
                      · refine w_seq fun K390 hK390 => ?_
                        refine w_region ?_
                        refine wl_val (g_assign (v := .bool (false)) rfl) rfl ?_
                        refine wl_nil ?_
                        refine hK390 _ _ ?_
                        refine w_ret ?_
                        exact False.elim (by first | exact h389 rfl | omega | simp at h389)
                      · refine w_skip ?_
                        refine hK387 _ _ ?_
                        refine w_seq fun K391 hK391 => ?_
                        refine w_region ?_
                        refine wl_val (g_assign (v := .bool (true)) rfl) rfl ?_
                        refine wl_nil ?_
                        refine hK391 _ _ ?_
                        refine w_ret ?_
                        exact ret1 rfl (by decide) ⟨rfl, hB370⟩
end Go.Proofs.Ytcgkcoogaieolaa
namespace Go.Proofs.Ytcgkcoogaieolaa.fnExactJoinCrosses
open Go.ChangeShapes Go.WideShapes Go.ChangeAt Go.RowKit
open Go.ChangeMaps (open_string shut_string)
set_option linter.unusedVariables false
theorem own : ownKnob Try.prog.godebug = none := by kernel_rfl
theorem laidOut : laidOutB Try.prog = true := by kernel_rfl
set_option maxRecDepth 100000 in
theorem lifted (os : Os) (started : os.Started) (H : Type) (enc : TypeId × Value → H) :
    ReturnsInHanded {} Try.checked os 3 .any (Rows.fnExactJoinCrossesSpec.pre6 enc Try.prog Try.f3 Rows.fnExactJoinCrossesRow.domain false) (Rows.fnExactJoinCrossesSpec.post enc Try.prog Try.f3 false true false false) := by
  refine returnsInHanded_of_change (C := Try.checked) own started (by kernel_rfl) Try.func3
    (ChangeSpec.witness6 (enc := enc) (C := Try.checked) false ⟨#[], #[.slice none 0 0, .slice none 0 0], []⟩ 8 (by kernel_rfl) (by kernel_rfl) (by kernel_rfl) (by kernel_rfl)) ?_
  intro W base args ds gs before hval0 hW hcnd _
  have hval : ∀ (j : Nat) t v, Try.f3.params[j]? = some t → args[j]? = some v → Value.okWide Try.prog W .any base t v := hval0
  have hW' := hW
  obtain ⟨p, q, hA0, hV, rfl, hfz, hnd⟩ := hW
  have hA : DataW.TrodAll enc Try.prog W 0 (fun _ => true) true Try.f3.params.toList args.toList ds p := hA0
  rw [Try.params3] at hA hval
  obtain ⟨v0, vs0, d0, ds0, p0, q0, hargs, rfl, rfl, h0, r0⟩ := trodAll_cons hA
  obtain ⟨v1, vs1, d1, ds1, p1, q1, rfl, rfl, rfl, h1, r1⟩ := trodAll_cons r0
  obtain ⟨rfl, rfl, rfl⟩ := trodAll_nil r1
  obtain rfl : args = #[v0, v1] := by cases args; simp_all
  obtain ⟨rfl, rfl⟩ := trodVars_none hV
  have k0 := h0
  have lt0 : ∀ x ∈ p0, x.block < W.heap.size := by obtain ⟨m, hm⟩ := k0; exact DataW.trod_lt m _ _ _ hm
  obtain ⟨a0, len0, cap0, rfl⟩ := okWide_slice Try.underlying22 (hval 0 22 v0 rfl rfl)
  obtain ⟨xs0, hl0, hx0, hn0, hm0⟩ : ∃ xs : List Cross, xs.length = len0 ∧ Cells 0 W.heap.size W a0 (xs.flatMap crC) ∧ (a0 = none → cap0 = 0) ∧ len0 ≤ 9223372036854775807 := by
    obtain ⟨fuel, hf⟩ := h0
    exact openCross (e := 58) (I := 3) (B := 4) ⟨by kernel_rfl, by kernel_rfl, by kernel_rfl, by kernel_rfl, by kernel_rfl⟩ (by simpa [Value.cells] using hf)
  subst hl0
  have k1 := h1
  have lt1 : ∀ x ∈ p1, x.block < W.heap.size := by obtain ⟨m, hm⟩ := k1; exact DataW.trod_lt m _ _ _ hm
  obtain ⟨a1, len1, cap1, rfl⟩ := okWide_slice Try.underlying22 (hval 1 22 v1 rfl rfl)
  obtain ⟨xs1, hl1, hx1, hn1, hm1⟩ : ∃ xs : List Cross, xs.length = len1 ∧ Cells 0 W.heap.size W a1 (xs.flatMap crC) ∧ (a1 = none → cap1 = 0) ∧ len1 ≤ 9223372036854775807 := by
    obtain ⟨fuel, hf⟩ := h1
    exact openCross (e := 58) (I := 3) (B := 4) ⟨by kernel_rfl, by kernel_rfl, by kernel_rfl, by kernel_rfl, by kernel_rfl⟩ (by simpa [Value.cells] using hf)
  subst hl1
  clear hA0 hval0
  refine Calls.mono (FnExactJoinCrosses_fn hx0 hn0 hm0 hx1 hn1 hm1) fun e W' ⟨vv, he, hv, bel⟩ => ?_
  subst hv; subst he
  exact ⟨_, rfl, _, _, _, [], _, [], hW', trodAll_mk1 (shut_bool Try.underlying4 _), (trodAll_cons_mk (Below.trod laidOut (by kernel_rfl) (of_decide_eq_true (by kernel_rfl)) k0 bel lt0) (trodAll_cons_mk (Below.trod laidOut (by kernel_rfl) (of_decide_eq_true (by kernel_rfl)) k1 bel lt1) trodAll_mk0)), rfl, bel.frame _, fun h => by cases h⟩
theorem over : Rows.fnExactJoinCrossesRow.holds Try.pinned (OpenSpec.ofChange Rows.fnExactJoinCrossesSpec) :=
  OpenClaim.holds_of_wide 3 Try.f3 rfl rfl rfl rfl rfl rfl rfl ⟨rfl, rfl, rfl, rfl, rfl⟩ rfl rfl rfl rfl rfl (by kernel_rfl) Try.func3 (by kernel_rfl)
    (of_decide_eq_true (by kernel_rfl)) (by unfold Func.isWrapper; first | (rw [if_pos (by decide +kernel)]; kernel_rfl) | (rw [if_neg (by decide +kernel)]; exact ⟨rfl, rfl⟩))
    (fun os started H enc _ => lifted os started H enc)
theorem proved : Rows.FnExactJoinCrossesSaid := over
#print axioms proved
end Go.Proofs.Ytcgkcoogaieolaa.fnExactJoinCrosses
