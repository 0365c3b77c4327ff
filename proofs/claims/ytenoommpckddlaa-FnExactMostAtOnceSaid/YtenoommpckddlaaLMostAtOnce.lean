/- The law FnExactMostAtOnce: for every input the call returns true, and each argument reads afterwards as it read before. No condition. -/
import Derived.Test.YtenoommpckddlaaA2
import Derived.Test.YtenoommpckddlaaOpen
import Derived.Test.YtenoommpckddlaaRows
import Derived.WalkKit
import Derived.ProofKit
import Derived.OpenShut
import Derived.ShutString
import Derived.ChangeOld
import Derived.Below
namespace Go.Proofs.Ytenoommpckddlaa
open Go Go.RowKit
theorem FnExactMostAtOnce_fn  {a0 : Option Addr} {c0 : Nat} {xs0 : List Stay} {w : World} (hx0 : Cells 0 w.heap.size w a0 (xs0.flatMap stC)) (hn0 : a0 = none → c0 = 0) (hm0 : xs0.length ≤ 9223372036854775807) :
    Fn Try.prog 5 #[.slice a0 (xs0.length) (c0)] w (LawR w) := by
  refine fn_of_wp Try.func5 rfl (by kernel_rfl) (Nat.le_of_ble_eq_true rfl) ?_
  have hB0 := Below.refl w.heap.size w
  have hz0 := hB0.size
  refine w_seq fun K1 hK1 => ?_
  refine w_region ?_
  refine wl_val (g_assign (v := .bool (false)) rfl) rfl ?_
  refine wl_nil ?_
  refine hK1 _ _ ?_
  refine w_seq fun K2 hK2 => ?_
  refine w_region ?_
  refine wl_val (g_assign (v := .int .i64 (1048576)) rfl) rfl ?_
  refine wl_nil ?_
  refine hK2 _ _ ?_
  refine w_seq fun K3 hK3 => ?_
  refine w_region ?_
  refine wl_val (g_move (v := .slice a0 (xs0.length) (c0)) rfl) rfl ?_
  refine wl_val (g_move (v := .int .i64 (1048576)) rfl) rfl ?_
  refine wl_step rfl (g_call (vs := #[.slice a0 (xs0.length) (c0), .int .i64 (1048576)]) CF14 (args2 rfl rfl) (szStayS_fn (xs0.length) 1048576 (by omega) (by omega) (by omega))) ?_
  rintro _ w4 ⟨rfl, hE5⟩
  have hs6 := hE5.size
  have hB7 := Ext.below hB0 hE5 (by omega)
  have hz8 := hB7.size
  refine wl_val (g_assign (v := .int .i64 ((szR 1048576 ((xs0.length : Nat) : Int)))) rfl) rfl ?_
  refine wl_nil ?_
  refine hK3 _ _ ?_
  refine w_seq fun K9 hK9 => ?_
  refine w_seq fun K10 hK10 => ?_
  refine w_region ?_
  refine wl_val (g_move (v := .int .i64 ((szR 1048576 ((xs0.length : Nat) : Int)))) rfl) rfl ?_
  refine wl_val (g_lss (a := (szR 1048576 ((xs0.length : Nat) : Int))) (b := 0) rfl rfl) rfl ?_
  refine wl_nil ?_
  refine hK10 _ _ ?_
  refine w_cond_d (p := (szR 1048576 ((xs0.length : Nat) : Int)) < 0) rfl (fun h11 => ?_) (fun h11 => ?_)
  · refine w_seq fun K12 hK12 => ?_
    refine w_region ?_
    refine wl_val (g_assign (v := .bool (true)) rfl) rfl ?_
    refine wl_nil ?_
    refine hK12 _ _ ?_
    refine w_ret ?_
    exact ret1 rfl (by decide) ⟨rfl, hB7⟩
  · obtain ⟨hsz13, hsz13b⟩ := sz_ok h11
    refine w_skip ?_
    refine hK9 _ _ ?_
    refine w_seq fun K14 hK14 => ?_
    refine w_region ?_
    refine wl_val (g_move (v := .slice a0 (xs0.length) (c0)) rfl) rfl ?_
    refine wl_step rfl (g_call (vs := #[.slice a0 (xs0.length) (c0)]) CF16 (args1 rfl) (toStayS_fn (Cells.below hx0 hB7 (by omega)) (by omega) (by omega))) ?_
    rintro _ w15 ⟨a17, c18, rfl, hn19, hO20, hE16⟩
    have hs21 := hE16.size
    have hB22 := Ext.below hB7 hE16 (by omega)
    have hz23 := hB22.size
    refine wl_step rfl (g_call (vs := #[.slice a17 (xs0.length) (c18)]) CF19 (args1 rfl) (specMost_fn  (Own.cells hO20) (by omega) (by omega))) ?_
    rintro _ w25 ⟨rfl, hE26⟩
    have hs27 := hE26.size
    have hB28 := Ext.below hB22 hE26 (by omega)
    have hz29 := hB28.size
    have hr30 := hO20.ext hE26
    refine wl_val (g_assign (v := .int .i64 ((mostAtOnce xs0))) rfl) rfl ?_
    refine wl_nil ?_
    refine hK14 _ _ ?_
    refine w_seq fun K31 hK31 => ?_
    refine w_region ?_
    refine wl_val (g_move (v := .slice a0 (xs0.length) (c0)) rfl) rfl ?_
    refine wl_step rfl (g_call (vs := #[.slice a0 (xs0.length) (c0)]) CF16 (args1 rfl) (toStayS_fn (Cells.below hx0 hB28 (by omega)) (by omega) (by omega))) ?_
    rintro _ w32 ⟨a34, c35, rfl, hn36, hO37, hE33⟩
    have hs38 := hE33.size
    have hB39 := Ext.below hB28 hE33 (by omega)
    have hz40 := hB39.size
    have hr41 := hr30.ext hE33
    refine wl_val (g_assign (v := .slice a34 (xs0.length) (c35)) rfl) rfl ?_
    refine wl_nil ?_
    refine hK31 _ _ ?_
    refine w_seq fun K43 hK43 => ?_
    refine w_region ?_
    refine wl_val (g_move (v := .slice a34 (xs0.length) (c35)) rfl) rfl ?_
    refine wl_step rfl (g_call (vs := #[.slice a34 (xs0.length) (c35)]) CF20 (args1 rfl) (implMost_fn  (Own.cells hO37) (by omega) (by omega))) ?_
    rintro _ w44 ⟨rfl, hE45⟩
    have hs46 := hE45.size
    have hB47 := Ext.below hB39 hE45 (by omega)
    have hz48 := hB47.size
    have hr49 := hr41.ext hE45
    have hr50 := hO37.ext hE45
    refine wl_val (g_assign (v := .int .i64 ((mostAtOnce xs0))) rfl) rfl ?_
    refine wl_nil ?_
    refine hK43 _ _ ?_
    refine w_seq fun K51 hK51 => ?_
    refine w_seq fun K52 hK52 => ?_
    refine w_region ?_
    refine wl_val (g_move (v := .int .i64 ((mostAtOnce xs0))) rfl) rfl ?_
    refine wl_val (g_move (v := .int .i64 ((mostAtOnce xs0))) rfl) rfl ?_
    refine wl_val (g_neq (a := (mostAtOnce xs0)) (b := (mostAtOnce xs0)) rfl rfl) rfl ?_
    refine wl_nil ?_
    refine hK52 _ _ ?_
    refine w_cond_d (p := (mostAtOnce xs0) ≠ (mostAtOnce xs0)) rfl (fun h53 => ?_) (fun h53 => ?_)
    · refine w_seq fun K54 hK54 => ?_
      refine w_region ?_
      refine wl_val (g_assign (v := .bool (false)) rfl) rfl ?_
      refine wl_nil ?_
      refine hK54 _ _ ?_
      refine w_ret ?_
      exact False.elim (by first | exact h53 rfl | (simp at h53))
    · refine w_skip ?_
      refine hK51 _ _ ?_
      refine w_seq fun K55 hK55 => ?_
      refine w_seq fun K56 hK56 => ?_
      refine w_region ?_
      refine wl_val (g_move (v := .slice a34 (xs0.length) (c35)) rfl) rfl ?_
      refine wl_val (g_move (v := .slice a0 (xs0.length) (c0)) rfl) rfl ?_
      refine wl_step rfl (g_call (vs := #[.slice a0 (xs0.length) (c0)]) CF16 (args1 rfl) (toStayS_fn (Cells.below hx0 hB47 (by omega)) (by omega) (by omega))) ?_
      rintro _ w57 ⟨a59, c60, rfl, hn61, hO62, hE58⟩
      have hs63 := hE58.size
      have hB64 := Ext.below hB47 hE58 (by omega)
      have hz65 := hB64.size
      have hr66 := hr49.ext hE58
      have hr67 := hr50.ext hE58
      refine wl_step rfl (g_call (vs := #[.slice a34 (xs0.length) (c35), .slice a59 (xs0.length) (c60)]) CF18 (args2 rfl rfl) (eqStayS_fn (Own.cells hr67) (Own.cells hO62) (by omega) (by omega) (by omega))) ?_
      rintro _ w69 ⟨rfl, hE70⟩
      have hs71 := hE70.size
      have hB72 := Ext.below hB64 hE70 (by omega)
      have hz73 := hB72.size
      have hr74 := hr66.ext hE70
      have hr75 := hr67.ext hE70
      have hr76 := hO62.ext hE70
      refine wl_val (g_not (a := (decide (xs0 = xs0))) rfl) rfl ?_
      refine wl_nil ?_
      refine hK56 _ _ ?_
      refine w_cond (b := (!(decide (xs0 = xs0)))) rfl (fun h77 => ?_) (fun h77 => ?_)
      · replace h77 := (fun h => of_decide_eq_false (bt_not h)) h77
        refine w_seq fun K78 hK78 => ?_
        refine w_region ?_
        refine wl_val (g_assign (v := .bool (false)) rfl) rfl ?_
        refine wl_nil ?_
        refine hK78 _ _ ?_
        refine w_ret ?_
        exact False.elim (by first | exact h77 rfl | (simp at h77))
      · replace h77 := (fun h => of_decide_eq_true (bf_not h)) h77
        refine w_skip ?_
        refine hK55 _ _ ?_
        refine w_seq fun K79 hK79 => ?_
        refine w_region ?_
        refine wl_val (g_assign (v := .bool (true)) rfl) rfl ?_
        refine wl_nil ?_
        refine hK79 _ _ ?_
        refine w_ret ?_
        exact ret1 rfl (by decide) ⟨rfl, hB72⟩
end Go.Proofs.Ytenoommpckddlaa
namespace Go.Proofs.Ytenoommpckddlaa.fnExactMostAtOnce
open Go.ChangeShapes Go.WideShapes Go.ChangeAt Go.RowKit
open Go.ChangeMaps (open_string shut_string)
set_option linter.unusedVariables false
theorem own : ownKnob Try.prog.godebug = none := by kernel_rfl
theorem laidOut : laidOutB Try.prog = true := by kernel_rfl
set_option maxRecDepth 100000 in
theorem lifted (os : Os) (started : os.Started) (H : Type) (enc : TypeId × Value → H) :
    ReturnsInHanded {} Try.checked os 5 .any (Rows.fnExactMostAtOnceSpec.pre6 enc Try.prog Try.f5 Rows.fnExactMostAtOnceRow.domain false) (Rows.fnExactMostAtOnceSpec.post enc Try.prog Try.f5 false true false false) := by
  refine returnsInHanded_of_change (C := Try.checked) own started (by kernel_rfl) Try.func5
    (ChangeSpec.witness6 (enc := enc) (C := Try.checked) false ⟨#[], #[.slice none 0 0], []⟩ 8 (by kernel_rfl) (by kernel_rfl) (by kernel_rfl) (by kernel_rfl)) ?_
  intro W base args ds gs before hval0 hW hcnd _
  have hval : ∀ (j : Nat) t v, Try.f5.params[j]? = some t → args[j]? = some v → Value.okWide Try.prog W .any base t v := hval0
  have hW' := hW
  obtain ⟨p, q, hA0, hV, rfl, hfz, hnd⟩ := hW
  have hA : DataW.TrodAll enc Try.prog W 0 (fun _ => true) true Try.f5.params.toList args.toList ds p := hA0
  rw [Try.params5] at hA hval
  obtain ⟨v0, vs0, d0, ds0, p0, q0, hargs, rfl, rfl, h0, r0⟩ := trodAll_cons hA
  obtain ⟨rfl, rfl, rfl⟩ := trodAll_nil r0
  obtain rfl : args = #[v0] := by cases args; simp_all
  obtain ⟨rfl, rfl⟩ := trodVars_none hV
  have k0 := h0
  have lt0 : ∀ x ∈ p0, x.block < W.heap.size := by obtain ⟨m, hm⟩ := k0; exact DataW.trod_lt m _ _ _ hm
  obtain ⟨a0, len0, cap0, rfl⟩ := okWide_slice Try.underlying27 (hval 0 27 v0 rfl rfl)
  obtain ⟨xs0, hl0, hx0, hn0, hm0⟩ : ∃ xs : List Stay, xs.length = len0 ∧ Cells 0 W.heap.size W a0 (xs.flatMap stC) ∧ (a0 = none → cap0 = 0) ∧ len0 ≤ 9223372036854775807 := by
    obtain ⟨fuel, hf⟩ := h0
    exact openStay (e := 46) (I := 3) ⟨by kernel_rfl, by kernel_rfl, by kernel_rfl, by kernel_rfl⟩ (by simpa [Value.cells] using hf)
  subst hl0
  clear hA0 hval0
  refine Calls.mono (FnExactMostAtOnce_fn hx0 hn0 hm0) fun e W' ⟨vv, he, hv, bel⟩ => ?_
  subst hv; subst he
  exact ⟨_, rfl, _, _, _, [], _, [], hW', trodAll_mk1 (shut_bool Try.underlying4 _), (trodAll_cons_mk (Below.trod laidOut (by kernel_rfl) (of_decide_eq_true (by kernel_rfl)) k0 bel lt0) trodAll_mk0), rfl, bel.frame _, fun h => by cases h⟩
theorem over : Rows.fnExactMostAtOnceRow.holds Try.pinned (OpenSpec.ofChange Rows.fnExactMostAtOnceSpec) :=
  OpenClaim.holds_of_wide 5 Try.f5 rfl rfl rfl rfl rfl rfl rfl ⟨rfl, rfl, rfl, rfl, rfl⟩ rfl rfl rfl rfl rfl (by kernel_rfl) Try.func5 (by kernel_rfl)
    (of_decide_eq_true (by kernel_rfl)) (by unfold Func.isWrapper; first | (rw [if_pos (by decide +kernel)]; kernel_rfl) | (rw [if_neg (by decide +kernel)]; exact ⟨rfl, rfl⟩))
    (fun os started H enc _ => lifted os started H enc)
theorem proved : Rows.FnExactMostAtOnceSaid := over
#print axioms proved
end Go.Proofs.Ytenoommpckddlaa.fnExactMostAtOnce
