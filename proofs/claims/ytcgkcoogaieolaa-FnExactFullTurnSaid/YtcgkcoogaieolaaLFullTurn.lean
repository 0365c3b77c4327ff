/- The law FnExactFullTurn: for every input the call returns true, and each argument reads afterwards as it read before. No condition. -/
import Derived.Test.YtcgkcoogaieolaaB1
import Derived.Test.YtcgkcoogaieolaaOpen
import Derived.Test.YtcgkcoogaieolaaRows
import Derived.WalkKit
import Derived.ProofKit
import Derived.OpenShut
import Derived.ShutString
import Derived.ChangeOld
import Derived.Below
namespace Go.Proofs.Ytcgkcoogaieolaa
open Go Go.RowKit
theorem FnExactFullTurn_fn  (x0 : Int) (x1 : Int) (x2 : Int) (x3 : Bool) {w : World} :
    Fn Try.prog 4 #[.int .i64 (x0), .int .i64 (x1), .int .i64 (x2), .bool (x3)] w (LawR w) := by
  refine fn_of_wp Try.func4 rfl (by kernel_rfl) (Nat.le_of_ble_eq_true rfl) ?_
  have hB0 := Below.refl w.heap.size w
  have hz0 := hB0.size
  refine w_seq fun K1 hK1 => ?_
  refine w_region ?_
  refine wl_val (g_assign (v := .bool (false)) rfl) rfl ?_
  refine wl_nil ?_
  refine hK1 _ _ ?_
  refine w_seq fun K2 hK2 => ?_
  refine w_region ?_
  refine wl_val (g_move (v := .int .i64 (x0)) rfl) rfl ?_
  refine wl_val (g_move (v := .int .i64 (x1)) rfl) rfl ?_
  refine wl_val (g_move (v := .int .i64 (x2)) rfl) rfl ?_
  refine wl_val (g_move (v := .bool (x3)) rfl) rfl ?_
  have hf3 := ftR_len x0 x1 x2 x3
  refine wl_step rfl (g_call (vs := #[.int .i64 (x0), .int .i64 (x1), .int .i64 (x2), .bool (x3)]) CF21 (args4 rfl rfl rfl rfl) (specFull_fn x0 x1 x2 x3)) ?_
  rintro _ w4 ⟨a6, c7, rfl, hn8, hO9, hE5⟩
  have ht10 : ∀ k, blk a6 = some k → k < w4.heap.size := fun k hk => (hO9.lt k hk).2
  have hs11 := hE5.size
  have hB12 := Ext.below hB0 hE5 (by omega)
  have hz13 := hB12.size
  refine wl_val (g_move (v := .tuple #[.slice a6 ((ftR x0 x1 x2 x3).length) (c7), .bool ((ftOk x0 x1 x2))]) rfl) rfl ?_
  refine wl_val (g_extract (vs := #[.slice a6 ((ftR x0 x1 x2 x3).length) (c7), .bool ((ftOk x0 x1 x2))]) rfl rfl) rfl ?_
  refine wl_val (g_extract (vs := #[.slice a6 ((ftR x0 x1 x2 x3).length) (c7), .bool ((ftOk x0 x1 x2))]) rfl rfl) rfl ?_
  refine wl_val (g_assign (v := .slice a6 ((ftR x0 x1 x2 x3).length) (c7)) rfl) rfl ?_
  refine wl_val (g_assign (v := .bool ((ftOk x0 x1 x2))) rfl) rfl ?_
  refine wl_nil ?_
  refine hK2 _ _ ?_
  refine w_seq fun K15 hK15 => ?_
  refine w_region ?_
  refine wl_val (g_move (v := .int .i64 (x0)) rfl) rfl ?_
  refine wl_val (g_move (v := .int .i64 (x1)) rfl) rfl ?_
  refine wl_val (g_move (v := .int .i64 (x2)) rfl) rfl ?_
  refine wl_val (g_move (v := .bool (x3)) rfl) rfl ?_
  have hf16 := ftR_len x0 x1 x2 x3
  refine wl_step rfl (g_call (vs := #[.int .i64 (x0), .int .i64 (x1), .int .i64 (x2), .bool (x3)]) CF22 (args4 rfl rfl rfl rfl) (implFull_fn x0 x1 x2 x3)) ?_
  rintro _ w17 ⟨a19, c20, rfl, hn21, hO22, hE18⟩
  have ht23 : ∀ k, blk a19 = some k → k < w17.heap.size := fun k hk => (hO22.lt k hk).2
  have hs24 := hE18.size
  have hB25 := Ext.below hB12 hE18 (by omega)
  have hz26 := hB25.size
  have hr27 := hO9.ext hE18
  refine wl_val (g_move (v := .tuple #[.slice a19 ((ftR x0 x1 x2 x3).length) (c20), .bool ((ftOk x0 x1 x2))]) rfl) rfl ?_
  refine wl_val (g_extract (vs := #[.slice a19 ((ftR x0 x1 x2 x3).length) (c20), .bool ((ftOk x0 x1 x2))]) rfl rfl) rfl ?_
  refine wl_val (g_extract (vs := #[.slice a19 ((ftR x0 x1 x2 x3).length) (c20), .bool ((ftOk x0 x1 x2))]) rfl rfl) rfl ?_
  refine wl_val (g_assign (v := .slice a19 ((ftR x0 x1 x2 x3).length) (c20)) rfl) rfl ?_
  refine wl_val (g_assign (v := .bool ((ftOk x0 x1 x2))) rfl) rfl ?_
  refine wl_nil ?_
  refine hK15 _ _ ?_
  refine w_seq fun K29 hK29 => ?_
  refine w_seq fun K30 hK30 => ?_
  refine w_region ?_
  refine wl_val (g_move (v := .slice a19 ((ftR x0 x1 x2 x3).length) (c20)) rfl) rfl ?_
  refine wl_val (g_move (v := .slice a6 ((ftR x0 x1 x2 x3).length) (c7)) rfl) rfl ?_
  refine wl_step rfl (g_call (vs := #[.slice a19 ((ftR x0 x1 x2 x3).length) (c20), .slice a6 ((ftR x0 x1 x2 x3).length) (c7)]) CF18 (args2 rfl rfl) (eqCrossS_fn (Own.cells hO22) (Own.cells hr27) (by omega) (by omega) (by omega))) ?_
  rintro _ w31 ⟨rfl, hE32⟩
  have hs33 := hE32.size
  have hB34 := Ext.below hB25 hE32 (by omega)
  have hz35 := hB34.size
  have hr36 := hr27.ext hE32
  have hr37 := hO22.ext hE32
  refine wl_val (g_not (a := (decide ((ftR x0 x1 x2 x3) = (ftR x0 x1 x2 x3)))) rfl) rfl ?_
  refine wl_val (g_move (v := .bool (!(decide ((ftR x0 x1 x2 x3) = (ftR x0 x1 x2 x3))))) rfl) rfl ?_
  refine wl_guard (c := (!(decide ((ftR x0 x1 x2 x3) = (ftR x0 x1 x2 x3)))) = false) (val := .bool ((ftOk x0 x1 x2))) (b := ((!(decide ((ftR x0 x1 x2 x3) = (ftR x0 x1 x2 x3)))) == false)) (gv_some rfl rfl rfl) beq_iff_eq (fun hg38 => ?_) ?_
  · have hg38p := (fun h => of_decide_eq_true (bf_not h)) hg38
    exact g_move (v := .bool ((ftOk x0 x1 x2))) rfl
  refine wl_guard (c := (!(decide ((ftR x0 x1 x2 x3) = (ftR x0 x1 x2 x3)))) = false) (val := .bool ((ftOk x0 x1 x2))) (b := ((!(decide ((ftR x0 x1 x2 x3) = (ftR x0 x1 x2 x3)))) == false)) (gv_some rfl rfl rfl) beq_iff_eq (fun hg39 => ?_) ?_
  · have hg39p := (fun h => of_decide_eq_true (bf_not h)) hg39
    exact g_move (v := .bool ((ftOk x0 x1 x2))) rfl
  refine wl_guard (c := (!(decide ((ftR x0 x1 x2 x3) = (ftR x0 x1 x2 x3)))) = false) (val := .bool (decide (((ftOk x0 x1 x2)) ≠ ((ftOk x0 x1 x2))))) (b := ((!(decide ((ftR x0 x1 x2 x3) = (ftR x0 x1 x2 x3)))) == false)) (gv_some rfl rfl rfl) beq_iff_eq (fun hg40 => ?_) ?_
  · have hg40p := (fun h => of_decide_eq_true (bf_not h)) hg40
    exact g_neq_b (a := ((ftOk x0 x1 x2))) (b := ((ftOk x0 x1 x2))) UB (if_pos (e := undef) hg40) (if_pos (e := undef) hg40)
  refine wl_val (g_pick_or (b := (!(decide ((ftR x0 x1 x2 x3) = (ftR x0 x1 x2 x3))))) (q := (decide (((ftOk x0 x1 x2)) ≠ ((ftOk x0 x1 x2))))) rfl rfl) rfl ?_
  refine wl_nil ?_
  refine hK30 _ _ ?_
  refine w_cond (b := ((!(decide ((ftR x0 x1 x2 x3) = (ftR x0 x1 x2 x3))) || decide (((ftOk x0 x1 x2)) ≠ ((ftOk x0 x1 x2)))))) rfl (fun h41 => ?_) (fun h41 => ?_)
  · replace h41 := (fun h => Or.imp (fun h => of_decide_eq_false (bt_not h)) of_decide_eq_true (bt_or h)) h41
    refine w_seq fun K42 hK42 => ?_
    refine w_region ?_
    refine wl_val (g_assign (v := .bool (false)) rfl) rfl ?_
    refine wl_nil ?_
    refine hK42 _ _ ?_
    refine w_ret ?_
    exact False.elim (Or.elim h41 (fun hc0 => (by first | exact hc0 rfl | omega | simp at hc0)) (fun hc0 => (by first | exact hc0 rfl | omega | simp at hc0)))
  · replace h41 := (fun h => And.imp (fun h => of_decide_eq_true (bf_not h)) of_decide_eq_false (bf_or h)) h41
    refine w_skip ?_
    refine hK29 _ _ ?_
    refine w_seq fun K43 hK43 => ?_
    refine w_region ?_
    refine wl_val (g_assign (v := .int .i64 (1)) rfl) rfl ?_
    refine wl_nil ?_
    refine hK43 _ _ ?_
    refine w_seq fun K44 hK44 => ?_
    refine w_region ?_
    refine wl_val (g_move (v := .slice a19 ((ftR x0 x1 x2 x3).length) (c20)) rfl) rfl ?_
    refine wl_val (g_move (v := .int .i64 (1)) rfl) rfl ?_
    refine wl_step rfl (g_call (vs := #[.slice a19 ((ftR x0 x1 x2 x3).length) (c20), .int .i64 (1)]) CF19 (args2 rfl rfl) (markCrossS_fn 1 hr37 (by first | rfl | omega | simp) (by omega) (by omega) (by omega))) ?_
    rintro _ w45 ⟨rfl, hO47, hE46⟩
    have hs48 := hE46.size
    have hB49 := Chg.below hB34 hE46 (by omega) (fun k hk => by have := hr37.lt k hk; omega)
    have hz50 := hB49.size
    have hr51 := hr36.chg hE46 (fun k hk hk2 => by have h1 := hr37.lt k hk; have h2 := hr36.lt k hk2; have h3 := ht23 k hk; have h4 := ht10 k hk2; omega)
    refine wl_val (g_assign (v := .int .i64 ((1 + 2 * (((ftR x0 x1 x2 x3).length : Nat) : Int)))) rfl) rfl ?_
    refine wl_nil ?_
    refine hK44 _ _ ?_
    refine w_seq fun K52 hK52 => ?_
    refine w_region ?_
    refine wl_val (g_assign (v := .int .i64 (1)) rfl) rfl ?_
    refine wl_nil ?_
    refine hK52 _ _ ?_
    refine w_seq fun K53 hK53 => ?_
    refine w_region ?_
    refine wl_val (g_move (v := .slice a19 ((ftR x0 x1 x2 x3).length) (c20)) rfl) rfl ?_
    refine wl_val (g_move (v := .int .i64 (1)) rfl) rfl ?_
    refine wl_step rfl (g_call (vs := #[.slice a19 ((ftR x0 x1 x2 x3).length) (c20), .int .i64 (1)]) CF20 (args2 rfl rfl) (heldCrossS_fn 1 ((ftR x0 x1 x2 x3).length) (Own.cells hO47) (by omega) (by omega) (by omega) (by omega))) ?_
    rintro _ w54 ⟨rfl, hE55⟩
    have hs56 := hE55.size
    have hB57 := Ext.below hB49 hE55 (by omega)
    have hz58 := hB57.size
    have hr59 := hr51.ext hE55
    have hr60 := hO47.ext hE55
    refine wl_val (g_assign (v := .int .i64 ((1 + 2 * (((ftR x0 x1 x2 x3).length : Nat) : Int)))) rfl) rfl ?_
    refine wl_nil ?_
    refine hK53 _ _ ?_
    refine w_seq fun K61 hK61 => ?_
    refine w_seq fun K62 hK62 => ?_
    refine w_region ?_
    refine wl_val (g_move (v := .int .i64 ((1 + 2 * (((ftR x0 x1 x2 x3).length : Nat) : Int)))) rfl) rfl ?_
    refine wl_val (g_lss (a := (1 + 2 * (((ftR x0 x1 x2 x3).length : Nat) : Int))) (b := 0) rfl rfl) rfl ?_
    refine wl_nil ?_
    refine hK62 _ _ ?_
    refine w_cond_d (p := (1 + 2 * (((ftR x0 x1 x2 x3).length : Nat) : Int)) < 0) rfl (fun h63 => ?_) (fun h63 => ?_)
    · refine w_seq fun K64 hK64 => ?_
      refine w_region ?_
      refine wl_val (g_assign (v := .bool (false)) rfl) rfl ?_
      refine wl_nil ?_
      refine hK64 _ _ ?_
      refine w_ret ?_
      exact False.elim (by first | exact h63 rfl | omega | simp at h63)
    · refine w_skip ?_
      refine hK61 _ _ ?_
      refine w_seq fun K65 hK65 => ?_
      refine w_seq fun K66 hK66 => ?_
      refine w_region ?_
      refine wl_val (g_move (v := .int .i64 ((1 + 2 * (((ftR x0 x1 x2 x3).length : Nat) : Int)))) rfl) rfl ?_
      refine wl_val (g_move (v := .int .i64 ((1 + 2 * (((ftR x0 x1 x2 x3).length : Nat) : Int)))) rfl) rfl ?_
      refine wl_val (g_neq (a := (1 + 2 * (((ftR x0 x1 x2 x3).length : Nat) : Int))) (b := (1 + 2 * (((ftR x0 x1 x2 x3).length : Nat) : Int))) rfl rfl) rfl ?_
      refine wl_nil ?_
      refine hK66 _ _ ?_
      refine w_cond_d (p := (1 + 2 * (((ftR x0 x1 x2 x3).length : Nat) : Int)) ≠ (1 + 2 * (((ftR x0 x1 x2 x3).length : Nat) : Int))) rfl (fun h67 => ?_) (fun h67 => ?_)
      · refine w_seq fun K68 hK68 => ?_
        refine w_region ?_
        refine wl_val (g_assign (v := .bool (false)) rfl) rfl ?_
        refine wl_nil ?_
        refine hK68 _ _ ?_
        refine w_ret ?_
        exact False.elim (by first | exact h67 rfl | omega | simp at h67)
      · refine w_skip ?_
        refine hK65 _ _ ?_
        refine w_seq fun K69 hK69 => ?_
        refine w_region ?_
        refine wl_val (g_move (v := .int .i64 (x0)) rfl) rfl ?_
        refine wl_val (g_move (v := .int .i64 (x1)) rfl) rfl ?_
        refine wl_val (g_move (v := .int .i64 (x2)) rfl) rfl ?_
        refine wl_val (g_move (v := .bool (x3)) rfl) rfl ?_
        have hf70 := ftR_len x0 x1 x2 x3
        refine wl_step rfl (g_call (vs := #[.int .i64 (x0), .int .i64 (x1), .int .i64 (x2), .bool (x3)]) CF22 (args4 rfl rfl rfl rfl) (implFull_fn x0 x1 x2 x3)) ?_
        rintro _ w71 ⟨a73, c74, rfl, hn75, hO76, hE72⟩
        have ht77 : ∀ k, blk a73 = some k → k < w71.heap.size := fun k hk => (hO76.lt k hk).2
        have hs78 := hE72.size
        have hB79 := Ext.below hB57 hE72 (by omega)
        have hz80 := hB79.size
        have hr81 := hr59.ext hE72
        have hr82 := hr60.ext hE72
        refine wl_val (g_move (v := .tuple #[.slice a73 ((ftR x0 x1 x2 x3).length) (c74), .bool ((ftOk x0 x1 x2))]) rfl) rfl ?_
        refine wl_val (g_extract (vs := #[.slice a73 ((ftR x0 x1 x2 x3).length) (c74), .bool ((ftOk x0 x1 x2))]) rfl rfl) rfl ?_
        refine wl_val (g_extract (vs := #[.slice a73 ((ftR x0 x1 x2 x3).length) (c74), .bool ((ftOk x0 x1 x2))]) rfl rfl) rfl ?_
        refine wl_val (g_assign (v := .slice a73 ((ftR x0 x1 x2 x3).length) (c74)) rfl) rfl ?_
        refine wl_val (g_assign (v := .bool ((ftOk x0 x1 x2))) rfl) rfl ?_
        refine wl_nil ?_
        refine hK69 _ _ ?_
        refine w_seq fun K84 hK84 => ?_
        refine w_seq fun K85 hK85 => ?_
        refine w_region ?_
        refine wl_val (g_move (v := .slice a73 ((ftR x0 x1 x2 x3).length) (c74)) rfl) rfl ?_
        refine wl_val (g_move (v := .slice a6 ((ftR x0 x1 x2 x3).length) (c7)) rfl) rfl ?_
        refine wl_step rfl (g_call (vs := #[.slice a73 ((ftR x0 x1 x2 x3).length) (c74), .slice a6 ((ftR x0 x1 x2 x3).length) (c7)]) CF18 (args2 rfl rfl) (eqCrossS_fn (Own.cells hO76) (Own.cells hr81) (by omega) (by omega) (by omega))) ?_
        rintro _ w86 ⟨rfl, hE87⟩
        have hs88 := hE87.size
        have hB89 := Ext.below hB79 hE87 (by omega)
        have hz90 := hB89.size
        have hr91 := hr81.ext hE87
        have hr92 := hr82.ext hE87
        have hr93 := hO76.ext hE87
        refine wl_val (g_not (a := (decide ((ftR x0 x1 x2 x3) = (ftR x0 x1 x2 x3)))) rfl) rfl ?_
        refine wl_val (g_move (v := .bool (!(decide ((ftR x0 x1 x2 x3) = (ftR x0 x1 x2 x3))))) rfl) rfl ?_
        refine wl_guard (c := (!(decide ((ftR x0 x1 x2 x3) = (ftR x0 x1 x2 x3)))) = false) (val := .bool ((ftOk x0 x1 x2))) (b := ((!(decide ((ftR x0 x1 x2 x3) = (ftR x0 x1 x2 x3)))) == false)) (gv_some rfl rfl rfl) beq_iff_eq (fun hg94 => ?_) ?_
        · have hg94p := (fun h => of_decide_eq_true (bf_not h)) hg94
          exact g_move (v := .bool ((ftOk x0 x1 x2))) rfl
        refine wl_guard (c := (!(decide ((ftR x0 x1 x2 x3) = (ftR x0 x1 x2 x3)))) = false) (val := .bool ((ftOk x0 x1 x2))) (b := ((!(decide ((ftR x0 x1 x2 x3) = (ftR x0 x1 x2 x3)))) == false)) (gv_some rfl rfl rfl) beq_iff_eq (fun hg95 => ?_) ?_
        · have hg95p := (fun h => of_decide_eq_true (bf_not h)) hg95
          exact g_move (v := .bool ((ftOk x0 x1 x2))) rfl
        refine wl_guard (c := (!(decide ((ftR x0 x1 x2 x3) = (ftR x0 x1 x2 x3)))) = false) (val := .bool (decide (((ftOk x0 x1 x2)) ≠ ((ftOk x0 x1 x2))))) (b := ((!(decide ((ftR x0 x1 x2 x3) = (ftR x0 x1 x2 x3)))) == false)) (gv_some rfl rfl rfl) beq_iff_eq (fun hg96 => ?_) ?_
        · have hg96p := (fun h => of_decide_eq_true (bf_not h)) hg96
          exact g_neq_b (a := ((ftOk x0 x1 x2))) (b := ((ftOk x0 x1 x2))) UB (if_pos (e := undef) hg96) (if_pos (e := undef) hg96)
        refine wl_val (g_pick_or (b := (!(decide ((ftR x0 x1 x2 x3) = (ftR x0 x1 x2 x3))))) (q := (decide (((ftOk x0 x1 x2)) ≠ ((ftOk x0 x1 x2))))) rfl rfl) rfl ?_
        refine wl_nil ?_
        refine hK85 _ _ ?_
        refine w_cond (b := ((!(decide ((ftR x0 x1 x2 x3) = (ftR x0 x1 x2 x3))) || decide (((ftOk x0 x1 x2)) ≠ ((ftOk x0 x1 x2)))))) rfl (fun h97 => ?_) (fun h97 => ?_)
        · replace h97 := (fun h => Or.imp (fun h => of_decide_eq_false (bt_not h)) of_decide_eq_true (bt_or h)) h97
          refine w_seq fun K98 hK98 => ?_
          refine w_region ?_
          refine wl_val (g_assign (v := .bool (false)) rfl) rfl ?_
          refine wl_nil ?_
          refine hK98 _ _ ?_
          refine w_ret ?_
          exact False.elim (Or.elim h97 (fun hc0 => (by first | exact hc0 rfl | omega | simp at hc0)) (fun hc0 => (by first | exact hc0 rfl | omega | simp at hc0)))
        · replace h97 := (fun h => And.imp (fun h => of_decide_eq_true (bf_not h)) of_decide_eq_false (bf_or h)) h97
          refine w_skip ?_
          refine hK84 _ _ ?_
          refine w_seq fun K99 hK99 => ?_
          refine w_region ?_
          refine wl_val (g_assign (v := .int .i64 (1)) rfl) rfl ?_
          refine wl_nil ?_
          refine hK99 _ _ ?_
          refine w_seq fun K100 hK100 => ?_
          refine w_region ?_
          refine wl_val (g_move (v := .slice a19 ((ftR x0 x1 x2 x3).length) (c20)) rfl) rfl ?_
          refine wl_val (g_move (v := .int .i64 (1)) rfl) rfl ?_
          refine wl_step rfl (g_call (vs := #[.slice a19 ((ftR x0 x1 x2 x3).length) (c20), .int .i64 (1)]) CF20 (args2 rfl rfl) (heldCrossS_fn 1 ((ftR x0 x1 x2 x3).length) (Own.cells hr92) (by omega) (by omega) (by omega) (by omega))) ?_
          rintro _ w101 ⟨rfl, hE102⟩
          have hs103 := hE102.size
          have hB104 := Ext.below hB89 hE102 (by omega)
          have hz105 := hB104.size
          have hr106 := hr91.ext hE102
          have hr107 := hr92.ext hE102
          have hr108 := hr93.ext hE102
          refine wl_val (g_assign (v := .int .i64 ((1 + 2 * (((ftR x0 x1 x2 x3).length : Nat) : Int)))) rfl) rfl ?_
          refine wl_nil ?_
          refine hK100 _ _ ?_
          refine w_seq fun K109 hK109 => ?_
          refine w_seq fun K110 hK110 => ?_
          refine w_region ?_
          refine wl_val (g_move (v := .int .i64 ((1 + 2 * (((ftR x0 x1 x2 x3).length : Nat) : Int)))) rfl) rfl ?_
          refine wl_val (g_lss (a := (1 + 2 * (((ftR x0 x1 x2 x3).length : Nat) : Int))) (b := 0) rfl rfl) rfl ?_
          refine wl_nil ?_
          refine hK110 _ _ ?_
          refine w_cond_d (p := (1 + 2 * (((ftR x0 x1 x2 x3).length : Nat) : Int)) < 0) rfl (fun h111 => ?_) (fun h111 => ?_)
          · refine w_seq fun K112 hK112 => ?_
            refine w_region ?_
            refine wl_val (g_assign (v := .bool (false)) rfl) rfl ?_
            refine wl_nil ?_
            refine hK112 _ _ ?_
            refine w_ret ?_
            exact False.elim (by first | exact h111 rfl | omega | simp at h111)
          · refine w_skip ?_
            refine hK109 _ _ ?_
            refine w_seq fun K113 hK113 => ?_
            refine w_seq fun K114 hK114 => ?_
            refine w_region ?_
            refine wl_val (g_move (v := .int .i64 ((1 + 2 * (((ftR x0 x1 x2 x3).length : Nat) : Int)))) rfl) rfl ?_
            refine wl_val (g_move (v := .int .i64 ((1 + 2 * (((ftR x0 x1 x2 x3).length : Nat) : Int)))) rfl) rfl ?_
            refine wl_val (g_neq (a := (1 + 2 * (((ftR x0 x1 x2 x3).length : Nat) : Int))) (b := (1 + 2 * (((ftR x0 x1 x2 x3).length : Nat) : Int))) rfl rfl) rfl ?_
            refine wl_nil ?_
            refine hK114 _ _ ?_
            refine w_cond_d (p := (1 + 2 * (((ftR x0 x1 x2 x3).length : Nat) : Int)) ≠ (1 + 2 * (((ftR x0 x1 x2 x3).length : Nat) : Int))) rfl (fun h115 => ?_) (fun h115 => ?_)
            · refine w_seq fun K116 hK116 => ?_
              refine w_region ?_
              refine wl_val (g_assign (v := .bool (false)) rfl) rfl ?_
              refine wl_nil ?_
              refine hK116 _ _ ?_
              refine w_ret ?_
              exact False.elim (by first | exact h115 rfl | omega | simp at h115)
            · refine w_skip ?_
              refine hK113 _ _ ?_
              refine w_seq fun K117 hK117 => ?_
              refine w_region ?_
              refine wl_val (g_assign (v := .bool (true)) rfl) rfl ?_
              refine wl_nil ?_
              refine hK117 _ _ ?_
              refine w_ret ?_
              exact ret1 rfl (by decide) ⟨rfl, hB104⟩
end Go.Proofs.Ytcgkcoogaieolaa
namespace Go.Proofs.Ytcgkcoogaieolaa.fnExactFullTurn
open Go.ChangeShapes Go.WideShapes Go.ChangeAt Go.RowKit
open Go.ChangeMaps (open_string shut_string)
set_option linter.unusedVariables false
theorem own : ownKnob Try.prog.godebug = none := by kernel_rfl
theorem laidOut : laidOutB Try.prog = true := by kernel_rfl
set_option maxRecDepth 100000 in
theorem lifted (os : Os) (started : os.Started) (H : Type) (enc : TypeId × Value → H) :
    ReturnsInHanded {} Try.checked os 4 .any (Rows.fnExactFullTurnSpec.pre6 enc Try.prog Try.f4 Rows.fnExactFullTurnRow.domain false) (Rows.fnExactFullTurnSpec.post enc Try.prog Try.f4 false true false false) := by
  refine returnsInHanded_of_change (C := Try.checked) own started (by kernel_rfl) Try.func4
    (ChangeSpec.witness6 (enc := enc) (C := Try.checked) false ⟨#[], #[.int .i64 0, .int .i64 0, .int .i64 0, .bool false], []⟩ 8 (by kernel_rfl) (by kernel_rfl) (by kernel_rfl) (by kernel_rfl)) ?_
  intro W base args ds gs before hval0 hW hcnd _
  have hval : ∀ (j : Nat) t v, Try.f4.params[j]? = some t → args[j]? = some v → Value.okWide Try.prog W .any base t v := hval0
  have hW' := hW
  obtain ⟨p, q, hA0, hV, rfl, hfz, hnd⟩ := hW
  have hA : DataW.TrodAll enc Try.prog W 0 (fun _ => true) true Try.f4.params.toList args.toList ds p := hA0
  rw [Try.params4] at hA hval
  obtain ⟨v0, vs0, d0, ds0, p0, q0, hargs, rfl, rfl, h0, r0⟩ := trodAll_cons hA
  obtain ⟨v1, vs1, d1, ds1, p1, q1, rfl, rfl, rfl, h1, r1⟩ := trodAll_cons r0
  obtain ⟨v2, vs2, d2, ds2, p2, q2, rfl, rfl, rfl, h2, r2⟩ := trodAll_cons r1
  obtain ⟨v3, vs3, d3, ds3, p3, q3, rfl, rfl, rfl, h3, r3⟩ := trodAll_cons r2
  obtain ⟨rfl, rfl, rfl⟩ := trodAll_nil r3
  obtain rfl : args = #[v0, v1, v2, v3] := by cases args; simp_all
  obtain ⟨rfl, rfl⟩ := trodVars_none hV
  have k0 := h0
  have lt0 : ∀ x ∈ p0, x.block < W.heap.size := by obtain ⟨m, hm⟩ := k0; exact DataW.trod_lt m _ _ _ hm
  obtain ⟨x0, rfl, rfl, rfl, wx0⟩ := open_int Try.underlying3 (hval 0 3 v0 rfl rfl) h0
  have k1 := h1
  have lt1 : ∀ x ∈ p1, x.block < W.heap.size := by obtain ⟨m, hm⟩ := k1; exact DataW.trod_lt m _ _ _ hm
  obtain ⟨x1, rfl, rfl, rfl, wx1⟩ := open_int Try.underlying3 (hval 1 3 v1 rfl rfl) h1
  have k2 := h2
  have lt2 : ∀ x ∈ p2, x.block < W.heap.size := by obtain ⟨m, hm⟩ := k2; exact DataW.trod_lt m _ _ _ hm
  obtain ⟨x2, rfl, rfl, rfl, wx2⟩ := open_int Try.underlying3 (hval 2 3 v2 rfl rfl) h2
  have k3 := h3
  have lt3 : ∀ x ∈ p3, x.block < W.heap.size := by obtain ⟨m, hm⟩ := k3; exact DataW.trod_lt m _ _ _ hm
  obtain ⟨x3, rfl, rfl, rfl⟩ := open_bool Try.underlying4 (hval 3 4 v3 rfl rfl) h3
  clear hA0 hval0
  refine Calls.mono (FnExactFullTurn_fn x0 x1 x2 x3) fun e W' ⟨vv, he, hv, bel⟩ => ?_
  subst hv; subst he
  exact ⟨_, rfl, _, _, _, [], _, [], hW', trodAll_mk1 (shut_bool Try.underlying4 _), (trodAll_cons_mk (shut_int Try.underlying3 wx0) (trodAll_cons_mk (shut_int Try.underlying3 wx1) (trodAll_cons_mk (shut_int Try.underlying3 wx2) (trodAll_cons_mk (shut_bool Try.underlying4 _) trodAll_mk0)))), rfl, bel.frame _, fun h => by cases h⟩
theorem over : Rows.fnExactFullTurnRow.holds Try.pinned (OpenSpec.ofChange Rows.fnExactFullTurnSpec) :=
  OpenClaim.holds_of_wide 4 Try.f4 rfl rfl rfl rfl rfl rfl rfl ⟨rfl, rfl, rfl, rfl, rfl⟩ rfl rfl rfl rfl rfl (by kernel_rfl) Try.func4 (by kernel_rfl)
    (of_decide_eq_true (by kernel_rfl)) (by unfold Func.isWrapper; first | (rw [if_pos (by decide +kernel)]; kernel_rfl) | (rw [if_neg (by decide +kernel)]; exact ⟨rfl, rfl⟩))
    (fun os started H enc _ => lifted os started H enc)
theorem proved : Rows.FnExactFullTurnSaid := over
#print axioms proved
end Go.Proofs.Ytcgkcoogaieolaa.fnExactFullTurn
