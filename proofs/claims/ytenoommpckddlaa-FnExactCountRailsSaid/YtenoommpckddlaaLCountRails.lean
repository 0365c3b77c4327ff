/- The law FnExactCountRails: for every input the call returns true, and each argument reads afterwards as it read before. No condition. -/
import Derived.Test.YtenoommpckddlaaA1
import Derived.Test.YtenoommpckddlaaOpen
import Derived.Test.YtenoommpckddlaaRows
import Derived.WalkKit
import Derived.ProofKit
import Derived.OpenShut
import Derived.ShutString
import Derived.ChangeOld
import Derived.Below
namespace Go.Proofs.Ytenoommpckddlaa
open Go Go.RowKit
theorem FnExactCountRails_fn  {a0 : Option Addr} {c0 : Nat} {xs0 : List Int} {w : World} (hx0 : Cells 0 w.heap.size w a0 (intsC xs0)) (hn0 : a0 = none → c0 = 0) :
    Fn Try.prog 3 #[.slice a0 (xs0.length) (c0)] w (LawR w) := by
  refine fn_of_wp Try.func3 rfl (by kernel_rfl) (Nat.le_of_ble_eq_true rfl) ?_
  have hB0 := Below.refl w.heap.size w
  have hz0 := hB0.size
  refine w_seq fun K1 hK1 => ?_
  refine w_region ?_
  refine wl_val (g_assign (v := .bool (false)) rfl) rfl ?_
  refine wl_nil ?_
  refine hK1 _ _ ?_
  refine w_seq fun K2 hK2 => ?_
  refine w_seq fun K3 hK3 => ?_
  refine w_region ?_
  refine wl_val (g_move (v := .slice a0 (xs0.length) (c0)) rfl) rfl ?_
  refine wl_val (g_len' (a := a0) (l := (xs0.length)) (c := c0) SL22 rfl) rfl ?_
  refine wl_val (g_gtr (a := ((xs0.length : Nat) : Int)) (b := 1048576) rfl rfl) rfl ?_
  refine wl_nil ?_
  refine hK3 _ _ ?_
  refine w_cond_d (p := ((xs0.length : Nat) : Int) > 1048576) rfl (fun h4 => ?_) (fun h4 => ?_)
  · refine w_seq fun K5 hK5 => ?_
    refine w_region ?_
    refine wl_val (g_assign (v := .bool (true)) rfl) rfl ?_
    refine wl_nil ?_
    refine hK5 _ _ ?_
    refine w_ret ?_
    exact ret1 rfl (by decide) ⟨rfl, hB0⟩
  · refine w_skip ?_
    refine hK2 _ _ ?_
    refine w_seq fun K6 hK6 => ?_
    refine w_region ?_
    refine wl_val (g_move (v := .slice a0 (xs0.length) (c0)) rfl) rfl ?_
    refine wl_step rfl (g_call (vs := #[.slice a0 (xs0.length) (c0)]) CF11 (args1 rfl) (toIntS_fn (Cells.below hx0 hB0 (by omega)) (by omega) (by omega))) ?_
    rintro _ w7 ⟨a9, c10, rfl, hn11, hO12, hE8⟩
    have hs13 := hE8.size
    have hB14 := Ext.below hB0 hE8 (by omega)
    have hz15 := hB14.size
    refine wl_step rfl (g_call (vs := #[.slice a9 (xs0.length) (c10)]) CF10 (args1 rfl) (specCountRails_fn  (Own.cells hO12) (by omega) (by omega))) ?_
    rintro _ w17 ⟨rfl, hE18⟩
    have hs19 := hE18.size
    have hB20 := Ext.below hB14 hE18 (by omega)
    have hz21 := hB20.size
    have hr22 := hO12.ext hE18
    refine wl_val (g_assign (v := .int .i64 ((((countRails xs0) : Nat) : Int))) rfl) rfl ?_
    refine wl_nil ?_
    refine hK6 _ _ ?_
    refine w_seq fun K23 hK23 => ?_
    refine w_region ?_
    refine wl_val (g_move (v := .slice a0 (xs0.length) (c0)) rfl) rfl ?_
    refine wl_step rfl (g_call (vs := #[.slice a0 (xs0.length) (c0)]) CF11 (args1 rfl) (toIntS_fn (Cells.below hx0 hB20 (by omega)) (by omega) (by omega))) ?_
    rintro _ w24 ⟨a26, c27, rfl, hn28, hO29, hE25⟩
    have hs30 := hE25.size
    have hB31 := Ext.below hB20 hE25 (by omega)
    have hz32 := hB31.size
    have hr33 := hr22.ext hE25
    refine wl_val (g_assign (v := .slice a26 (xs0.length) (c27)) rfl) rfl ?_
    refine wl_nil ?_
    refine hK23 _ _ ?_
    refine w_seq fun K35 hK35 => ?_
    refine w_region ?_
    refine wl_val (g_move (v := .slice a26 (xs0.length) (c27)) rfl) rfl ?_
    refine wl_step rfl (g_call (vs := #[.slice a26 (xs0.length) (c27)]) CF12 (args1 rfl) (implCountRails_fn  (Own.cells hO29) (by omega) (by omega))) ?_
    rintro _ w36 ⟨rfl, hE37⟩
    have hs38 := hE37.size
    have hB39 := Ext.below hB31 hE37 (by omega)
    have hz40 := hB39.size
    have hr41 := hr33.ext hE37
    have hr42 := hO29.ext hE37
    refine wl_val (g_assign (v := .int .i64 ((((countRails xs0) : Nat) : Int))) rfl) rfl ?_
    refine wl_nil ?_
    refine hK35 _ _ ?_
    refine w_seq fun K43 hK43 => ?_
    refine w_seq fun K44 hK44 => ?_
    refine w_region ?_
    refine wl_val (g_move (v := .int .i64 ((((countRails xs0) : Nat) : Int))) rfl) rfl ?_
    refine wl_val (g_move (v := .int .i64 ((((countRails xs0) : Nat) : Int))) rfl) rfl ?_
    refine wl_val (g_neq (a := (((countRails xs0) : Nat) : Int)) (b := (((countRails xs0) : Nat) : Int)) rfl rfl) rfl ?_
    refine wl_nil ?_
    refine hK44 _ _ ?_
    refine w_cond_d (p := (((countRails xs0) : Nat) : Int) ≠ (((countRails xs0) : Nat) : Int)) rfl (fun h45 => ?_) (fun h45 => ?_)
    · refine w_seq fun K46 hK46 => ?_
      refine w_region ?_
      refine wl_val (g_assign (v := .bool (false)) rfl) rfl ?_
      refine wl_nil ?_
      refine hK46 _ _ ?_
      refine w_ret ?_
      exact False.elim (by first | exact h45 rfl | (simp at h45))
    · refine w_skip ?_
      refine hK43 _ _ ?_
      refine w_seq fun K47 hK47 => ?_
      refine w_seq fun K48 hK48 => ?_
      refine w_region ?_
      refine wl_val (g_move (v := .slice a26 (xs0.length) (c27)) rfl) rfl ?_
      refine wl_val (g_move (v := .slice a0 (xs0.length) (c0)) rfl) rfl ?_
      refine wl_step rfl (g_call (vs := #[.slice a0 (xs0.length) (c0)]) CF11 (args1 rfl) (toIntS_fn (Cells.below hx0 hB39 (by omega)) (by omega) (by omega))) ?_
      rintro _ w49 ⟨a51, c52, rfl, hn53, hO54, hE50⟩
      have hs55 := hE50.size
      have hB56 := Ext.below hB39 hE50 (by omega)
      have hz57 := hB56.size
      have hr58 := hr41.ext hE50
      have hr59 := hr42.ext hE50
      refine wl_step rfl (g_call (vs := #[.slice a26 (xs0.length) (c27), .slice a51 (xs0.length) (c52)]) CF13 (args2 rfl rfl) (eqIntS_fn (Own.cells hr59) (Own.cells hO54) (by omega) (by omega) (by omega))) ?_
      rintro _ w61 ⟨rfl, hE62⟩
      have hs63 := hE62.size
      have hB64 := Ext.below hB56 hE62 (by omega)
      have hz65 := hB64.size
      have hr66 := hr58.ext hE62
      have hr67 := hr59.ext hE62
      have hr68 := hO54.ext hE62
      refine wl_val (g_not (a := (decide (xs0 = xs0))) rfl) rfl ?_
      refine wl_nil ?_
      refine hK48 _ _ ?_
      refine w_cond (b := (!(decide (xs0 = xs0)))) rfl (fun h69 => ?_) (fun h69 => ?_)
      · try simp only [Bool.and_eq_true, Bool.or_eq_true, Bool.or_eq_false_iff, Bool.and_eq_false_iff, Bool.not_eq_true', Bool.not_eq_false', decide_eq_true_eq, decide_eq_false_iff_not, Bool.not_eq_true, Bool.not_eq_false] at h69
        refine w_seq fun K70 hK70 => ?_
        refine w_region ?_
        refine wl_val (g_assign (v := .bool (false)) rfl) rfl ?_
        refine wl_nil ?_
        refine hK70 _ _ ?_
        refine w_ret ?_
        exact False.elim (by first | exact h69 rfl | (simp at h69))
      · try simp only [Bool.and_eq_true, Bool.or_eq_true, Bool.or_eq_false_iff, Bool.and_eq_false_iff, Bool.not_eq_true', Bool.not_eq_false', decide_eq_true_eq, decide_eq_false_iff_not, Bool.not_eq_true, Bool.not_eq_false] at h69
        refine w_skip ?_
        refine hK47 _ _ ?_
        refine w_seq fun K71 hK71 => ?_
        refine w_region ?_
        refine wl_val (g_assign (v := .bool (true)) rfl) rfl ?_
        refine wl_nil ?_
        refine hK71 _ _ ?_
        refine w_ret ?_
        exact ret1 rfl (by decide) ⟨rfl, hB64⟩
end Go.Proofs.Ytenoommpckddlaa
namespace Go.Proofs.Ytenoommpckddlaa.fnExactCountRails
open Go.ChangeShapes Go.WideShapes Go.ChangeAt Go.RowKit
open Go.ChangeMaps (open_string shut_string)
set_option linter.unusedVariables false
theorem own : ownKnob Try.prog.godebug = none := by kernel_rfl
theorem laidOut : laidOutB Try.prog = true := by kernel_rfl
set_option maxRecDepth 100000 in
theorem lifted (os : Os) (started : os.Started) (H : Type) (enc : TypeId × Value → H) :
    ReturnsInHanded {} Try.checked os 3 .any (Rows.fnExactCountRailsSpec.pre6 enc Try.prog Try.f3 Rows.fnExactCountRailsRow.domain false) (Rows.fnExactCountRailsSpec.post enc Try.prog Try.f3 false true false false) := by
  refine returnsInHanded_of_change (C := Try.checked) own started (by kernel_rfl) Try.func3
    (ChangeSpec.witness6 (enc := enc) (C := Try.checked) false ⟨#[], #[.slice none 0 0], []⟩ 8 (by kernel_rfl) (by kernel_rfl) (by kernel_rfl) (by kernel_rfl)) ?_
  intro W base args ds gs before hval0 hW hcnd _
  have hval : ∀ (j : Nat) t v, Try.f3.params[j]? = some t → args[j]? = some v → Value.okWide Try.prog W .any base t v := hval0
  have hW' := hW
  obtain ⟨p, q, hA0, hV, rfl, hfz, hnd⟩ := hW
  have hA : DataW.TrodAll enc Try.prog W 0 (fun _ => true) true Try.f3.params.toList args.toList ds p := hA0
  rw [Try.params3] at hA hval
  obtain ⟨v0, vs0, d0, ds0, p0, q0, hargs, rfl, rfl, h0, r0⟩ := trodAll_cons hA
  obtain ⟨rfl, rfl, rfl⟩ := trodAll_nil r0
  obtain rfl : args = #[v0] := by cases args; simp_all
  obtain ⟨rfl, rfl⟩ := trodVars_none hV
  have k0 := h0
  have lt0 : ∀ x ∈ p0, x.block < W.heap.size := by obtain ⟨m, hm⟩ := k0; exact DataW.trod_lt m _ _ _ hm
  obtain ⟨a0, len0, cap0, rfl⟩ := okWide_slice Try.underlying22 (hval 0 22 v0 rfl rfl)
  obtain ⟨xs0, hl0, hx0, hn0⟩ : ∃ xs : List Int, xs.length = len0 ∧ Cells 0 W.heap.size W a0 (intsC xs) ∧ (a0 = none → cap0 = 0) := by
    obtain ⟨fuel, hf⟩ := h0
    rcases open_ints Try.underlying22 Try.underlying3 (by kernel_rfl) hf with ⟨hcs, _⟩ | ⟨x, l, c, zs, hcs, _, hl, hm, hz, _, hcell, hwz⟩
    · simp [Value.cells] at hcs
      obtain ⟨rfl, rfl, rfl⟩ := hcs
      exact ⟨[], rfl, Cells.nil, fun _ => rfl⟩
    · simp [Value.cells] at hcs
      obtain ⟨rfl, rfl, rfl⟩ := hcs
      exact ⟨zs.take len0, by simp at hz ⊢; omega, cells_of_ints hcell (by simp at hz; omega), fun h => by cases h⟩
  subst hl0
  clear hA0 hval0
  refine Calls.mono (FnExactCountRails_fn hx0 hn0) fun e W' ⟨vv, he, hv, bel⟩ => ?_
  subst hv; subst he
  exact ⟨_, rfl, _, _, _, [], _, [], hW', trodAll_mk1 (shut_bool Try.underlying4 _), (trodAll_cons_mk (Below.trod laidOut (by kernel_rfl) (of_decide_eq_true (by kernel_rfl)) k0 bel lt0) trodAll_mk0), rfl, bel.frame _, fun h => by cases h⟩
theorem over : Rows.fnExactCountRailsRow.holds Try.pinned (OpenSpec.ofChange Rows.fnExactCountRailsSpec) :=
  OpenClaim.holds_of_wide 3 Try.f3 rfl rfl rfl rfl rfl rfl rfl ⟨rfl, rfl, rfl, rfl, rfl⟩ rfl rfl rfl rfl rfl (by kernel_rfl) Try.func3 (by kernel_rfl)
    (of_decide_eq_true (by kernel_rfl)) (by unfold Func.isWrapper; first | (rw [if_pos (by decide +kernel)]; kernel_rfl) | (rw [if_neg (by decide +kernel)]; exact ⟨rfl, rfl⟩))
    (fun os started H enc _ => lifted os started H enc)
theorem proved : Rows.FnExactCountRailsSaid := over
#print axioms proved
end Go.Proofs.Ytenoommpckddlaa.fnExactCountRails
