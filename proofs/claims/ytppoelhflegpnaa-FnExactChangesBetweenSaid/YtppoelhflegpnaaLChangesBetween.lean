/- The law FnExactChangesBetween: for every input the call returns true, and each argument reads afterwards as it read before. No condition. -/
import Derived.Test.YtppoelhflegpnaaD1
import Derived.Test.YtppoelhflegpnaaOpen
import Derived.Test.YtppoelhflegpnaaJoin
import Derived.Test.YtppoelhflegpnaaRows
import Derived.WalkKit
import Derived.ProofKit
import Derived.OpenShut
import Derived.ShutString
import Derived.ChangeOld
import Derived.Below
namespace Go.Proofs.Ytppoelhflegpnaa
open Go Go.RowKit
set_option maxRecDepth 100000
theorem FnExactChangesBetween_fn  {a0 : Option Addr} {c0 : Nat} {xs0 : List Int} {a1 : Option Addr} {c1 : Nat} {xs1 : List Int} {a2 : Option Addr} {c2 : Nat} {xs2 : List Int} {a3 : Option Addr} {c3 : Nat} {xs3 : List Int} {w : World} (hx0 : Cells 0 w.heap.size w a0 (intsC xs0)) (hn0 : a0 = none → c0 = 0) (hm0 : xs0.length ≤ 9223372036854775807) (hx1 : Cells 0 w.heap.size w a1 (intsC xs1)) (hn1 : a1 = none → c1 = 0) (hm1 : xs1.length ≤ 9223372036854775807) (hx2 : Cells 0 w.heap.size w a2 (intsC xs2)) (hn2 : a2 = none → c2 = 0) (hm2 : xs2.length ≤ 9223372036854775807) (hx3 : Cells 0 w.heap.size w a3 (intsC xs3)) (hn3 : a3 = none → c3 = 0) (hm3 : xs3.length ≤ 9223372036854775807) :
    Fn Try.prog 3 #[.slice a0 (xs0.length) (c0), .slice a1 (xs1.length) (c1), .slice a2 (xs2.length) (c2), .slice a3 (xs3.length) (c3)] w (LawR w) := by
  refine fn_of_wp Try.func3 rfl (by kernel_rfl) (Nat.le_of_ble_eq_true rfl) ?_
  have hB0 := Below.refl w.heap.size w
  have hz0 := hB0.size
  refine w_seq fun K1 hK1 => ?_
  refine w_region ?_
  refine wl_val (g_assign (v := .bool (false)) rfl) rfl ?_
  refine wl_nil ?_
  refine hK1 _ _ ?_
  refine w_seq fun K2 hK2 => ?_
  refine w_seq fun K3 hK3 => ?_
  refine w_region ?_
  refine wl_val (g_move (v := .slice a0 (xs0.length) (c0)) rfl) rfl ?_
  refine wl_val (g_len' (a := a0) (l := (xs0.length)) (c := c0) SL22 rfl) rfl ?_
  refine wl_val (g_gtr (a := ((xs0.length : Nat) : Int)) (b := 1048576) rfl rfl) rfl ?_
  refine wl_nil ?_
  refine hK3 _ _ ?_
  refine w_cond_d (p := ((xs0.length : Nat) : Int) > 1048576) rfl (fun h4 => ?_) (fun h4 => ?_)
  · refine w_seq fun K5 hK5 => ?_
    refine w_region ?_
    refine wl_val (g_assign (v := .bool (true)) rfl) rfl ?_
    refine wl_nil ?_
    refine hK5 _ _ ?_
    refine w_ret ?_
    exact ret1 rfl (by decide) ⟨rfl, hB0⟩
  · refine w_skip ?_
    refine hK2 _ _ ?_
    refine w_seq fun K6 hK6 => ?_
    refine w_seq fun K7 hK7 => ?_
    refine w_region ?_
    refine wl_val (g_move (v := .slice a1 (xs1.length) (c1)) rfl) rfl ?_
    refine wl_val (g_len' (a := a1) (l := (xs1.length)) (c := c1) SL22 rfl) rfl ?_
    refine wl_val (g_gtr (a := ((xs1.length : Nat) : Int)) (b := 1048576) rfl rfl) rfl ?_
    refine wl_nil ?_
    refine hK7 _ _ ?_
    refine w_cond_d (p := ((xs1.length : Nat) : Int) > 1048576) rfl (fun h8 => ?_) (fun h8 => ?_)
    · refine w_seq fun K9 hK9 => ?_
      refine w_region ?_
      refine wl_val (g_assign (v := .bool (true)) rfl) rfl ?_
      refine wl_nil ?_
      refine hK9 _ _ ?_
      refine w_ret ?_
      exact ret1 rfl (by decide) ⟨rfl, hB0⟩
    · refine w_skip ?_
      refine hK6 _ _ ?_
      refine w_seq fun K10 hK10 => ?_
      refine w_seq fun K11 hK11 => ?_
      refine w_region ?_
      refine wl_val (g_move (v := .slice a2 (xs2.length) (c2)) rfl) rfl ?_
      refine wl_val (g_len' (a := a2) (l := (xs2.length)) (c := c2) SL22 rfl) rfl ?_
      refine wl_val (g_gtr (a := ((xs2.length : Nat) : Int)) (b := 1048576) rfl rfl) rfl ?_
      refine wl_nil ?_
      refine hK11 _ _ ?_
      refine w_cond_d (p := ((xs2.length : Nat) : Int) > 1048576) rfl (fun h12 => ?_) (fun h12 => ?_)
      · refine w_seq fun K13 hK13 => ?_
        refine w_region ?_
        refine wl_val (g_assign (v := .bool (true)) rfl) rfl ?_
        refine wl_nil ?_
        refine hK13 _ _ ?_
        refine w_ret ?_
        exact ret1 rfl (by decide) ⟨rfl, hB0⟩
      · refine w_skip ?_
        refine hK10 _ _ ?_
        refine w_seq fun K14 hK14 => ?_
        refine w_seq fun K15 hK15 => ?_
        refine w_region ?_
        refine wl_val (g_move (v := .slice a3 (xs3.length) (c3)) rfl) rfl ?_
        refine wl_val (g_len' (a := a3) (l := (xs3.length)) (c := c3) SL22 rfl) rfl ?_
        refine wl_val (g_gtr (a := ((xs3.length : Nat) : Int)) (b := 1048576) rfl rfl) rfl ?_
        refine wl_nil ?_
        refine hK15 _ _ ?_
        refine w_cond_d (p := ((xs3.length : Nat) : Int) > 1048576) rfl (fun h16 => ?_) (fun h16 => ?_)
        · refine w_seq fun K17 hK17 => ?_
          refine w_region ?_
          refine wl_val (g_assign (v := .bool (true)) rfl) rfl ?_
          refine wl_nil ?_
          refine hK17 _ _ ?_
          refine w_ret ?_
          exact ret1 rfl (by decide) ⟨rfl, hB0⟩
        · refine w_skip ?_
          refine hK14 _ _ ?_
          refine w_seq fun K18 hK18 => ?_
          refine w_region ?_
          refine wl_val (g_move (v := .slice a0 (xs0.length) (c0)) rfl) rfl ?_
          refine wl_step rfl (g_call (vs := #[.slice a0 (xs0.length) (c0)]) CF27 (args1 rfl) (toIntS_fn (Cells.below hx0 hB0 (by omega)) (by omega) (by omega))) ?_
          rintro _ w19 ⟨a21, c22, rfl, hn23, hO24, hE20⟩
          have ht25 : ∀ k, blk a21 = some k → k < w19.heap.size := fun k hk => (hO24.lt k hk).2
          have hs26 := hE20.size
          have hB27 := Ext.below hB0 hE20 (by omega)
          have hz28 := hB27.size
          refine wl_val (g_move (v := .slice a1 (xs1.length) (c1)) rfl) rfl ?_
          refine wl_step rfl (g_call (vs := #[.slice a1 (xs1.length) (c1)]) CF27 (args1 rfl) (toIntS_fn (Cells.below hx1 hB27 (by omega)) (by omega) (by omega))) ?_
          rintro _ w30 ⟨a32, c33, rfl, hn34, hO35, hE31⟩
          have ht36 : ∀ k, blk a32 = some k → k < w30.heap.size := fun k hk => (hO35.lt k hk).2
          have hs37 := hE31.size
          have hB38 := Ext.below hB27 hE31 (by omega)
          have hz39 := hB38.size
          have hr40 := hO24.ext hE31
          refine wl_val (g_move (v := .slice a2 (xs2.length) (c2)) rfl) rfl ?_
          refine wl_step rfl (g_call (vs := #[.slice a2 (xs2.length) (c2)]) CF27 (args1 rfl) (toIntS_fn (Cells.below hx2 hB38 (by omega)) (by omega) (by omega))) ?_
          rintro _ w42 ⟨a44, c45, rfl, hn46, hO47, hE43⟩
          have ht48 : ∀ k, blk a44 = some k → k < w42.heap.size := fun k hk => (hO47.lt k hk).2
          have hs49 := hE43.size
          have hB50 := Ext.below hB38 hE43 (by omega)
          have hz51 := hB50.size
          have hr52 := hr40.ext hE43
          have hr53 := hO35.ext hE43
          refine wl_val (g_move (v := .slice a3 (xs3.length) (c3)) rfl) rfl ?_
          refine wl_step rfl (g_call (vs := #[.slice a3 (xs3.length) (c3)]) CF27 (args1 rfl) (toIntS_fn (Cells.below hx3 hB50 (by omega)) (by omega) (by omega))) ?_
          rintro _ w55 ⟨a57, c58, rfl, hn59, hO60, hE56⟩
          have ht61 : ∀ k, blk a57 = some k → k < w55.heap.size := fun k hk => (hO60.lt k hk).2
          have hs62 := hE56.size
          have hB63 := Ext.below hB50 hE56 (by omega)
          have hz64 := hB63.size
          have hr65 := hr52.ext hE56
          have hr66 := hr53.ext hE56
          have hr67 := hO47.ext hE56
          refine wl_step rfl (g_call (vs := #[.slice a21 (xs0.length) (c22), .slice a32 (xs1.length) (c33), .slice a44 (xs2.length) (c45), .slice a57 (xs3.length) (c58)]) CF26 (args4 rfl rfl rfl rfl) (specChanges_fn (Own.cells hr65) (Own.cells hr66) (Own.cells hr67) (Own.cells hO60) (by omega) (by omega) (by omega) (by omega) (by omega) (by omega) (by omega) (by omega) )) ?_
          rintro _ w69 ⟨rfl, hE70⟩
          have hs71 := hE70.size
          have hB72 := Ext.below hB63 hE70 (by omega)
          have hz73 := hB72.size
          have hr74 := hr65.ext hE70
          have hr75 := hr66.ext hE70
          have hr76 := hr67.ext hE70
          have hr77 := hO60.ext hE70
          refine wl_val (g_assign (v := .int .i64 ((changesB xs0 xs1 xs2 xs3))) rfl) rfl ?_
          refine wl_nil ?_
          refine hK18 _ _ ?_
          refine w_seq fun K78 hK78 => ?_
          refine w_region ?_
          refine wl_val (g_move (v := .slice a0 (xs0.length) (c0)) rfl) rfl ?_
          refine wl_step rfl (g_call (vs := #[.slice a0 (xs0.length) (c0)]) CF27 (args1 rfl) (toIntS_fn (Cells.below hx0 hB72 (by omega)) (by omega) (by omega))) ?_
          rintro _ w79 ⟨a81, c82, rfl, hn83, hO84, hE80⟩
          have ht85 : ∀ k, blk a81 = some k → k < w79.heap.size := fun k hk => (hO84.lt k hk).2
          have hs86 := hE80.size
          have hB87 := Ext.below hB72 hE80 (by omega)
          have hz88 := hB87.size
          have hr89 := hr74.ext hE80
          have hr90 := hr75.ext hE80
          have hr91 := hr76.ext hE80
          have hr92 := hr77.ext hE80
          refine wl_val (g_assign (v := .slice a81 (xs0.length) (c82)) rfl) rfl ?_
          refine wl_nil ?_
          refine hK78 _ _ ?_
          refine w_seq fun K94 hK94 => ?_
          refine w_region ?_
          refine wl_val (g_move (v := .slice a1 (xs1.length) (c1)) rfl) rfl ?_
          refine wl_step rfl (g_call (vs := #[.slice a1 (xs1.length) (c1)]) CF27 (args1 rfl) (toIntS_fn (Cells.below hx1 hB87 (by omega)) (by omega) (by omega))) ?_
          rintro _ w95 ⟨a97, c98, rfl, hn99, hO100, hE96⟩
          have ht101 : ∀ k, blk a97 = some k → k < w95.heap.size := fun k hk => (hO100.lt k hk).2
          have hs102 := hE96.size
          have hB103 := Ext.below hB87 hE96 (by omega)
          have hz104 := hB103.size
          have hr105 := hr89.ext hE96
          have hr106 := hr90.ext hE96
          have hr107 := hr91.ext hE96
          have hr108 := hr92.ext hE96
          have hr109 := hO84.ext hE96
          refine wl_val (g_assign (v := .slice a97 (xs1.length) (c98)) rfl) rfl ?_
          refine wl_nil ?_
          refine hK94 _ _ ?_
          refine w_seq fun K111 hK111 => ?_
          refine w_region ?_
          refine wl_val (g_move (v := .slice a2 (xs2.length) (c2)) rfl) rfl ?_
          refine wl_step rfl (g_call (vs := #[.slice a2 (xs2.length) (c2)]) CF27 (args1 rfl) (toIntS_fn (Cells.below hx2 hB103 (by omega)) (by omega) (by omega))) ?_
          rintro _ w112 ⟨a114, c115, rfl, hn116, hO117, hE113⟩
          have ht118 : ∀ k, blk a114 = some k → k < w112.heap.size := fun k hk => (hO117.lt k hk).2
          have hs119 := hE113.size
          have hB120 := Ext.below hB103 hE113 (by omega)
          have hz121 := hB120.size
          have hr122 := hr105.ext hE113
          have hr123 := hr106.ext hE113
          have hr124 := hr107.ext hE113
          have hr125 := hr108.ext hE113
          have hr126 := hr109.ext hE113
          have hr127 := hO100.ext hE113
          refine wl_val (g_assign (v := .slice a114 (xs2.length) (c115)) rfl) rfl ?_
          refine wl_nil ?_
          refine hK111 _ _ ?_
          refine w_seq fun K129 hK129 => ?_
          refine w_region ?_
          refine wl_val (g_move (v := .slice a3 (xs3.length) (c3)) rfl) rfl ?_
          refine wl_step rfl (g_call (vs := #[.slice a3 (xs3.length) (c3)]) CF27 (args1 rfl) (toIntS_fn (Cells.below hx3 hB120 (by omega)) (by omega) (by omega))) ?_
          rintro _ w130 ⟨a132, c133, rfl, hn134, hO135, hE131⟩
          have ht136 : ∀ k, blk a132 = some k → k < w130.heap.size := fun k hk => (hO135.lt k hk).2
          have hs137 := hE131.size
          have hB138 := Ext.below hB120 hE131 (by omega)
          have hz139 := hB138.size
          have hr140 := hr122.ext hE131
          have hr141 := hr123.ext hE131
          have hr142 := hr124.ext hE131
          have hr143 := hr125.ext hE131
          have hr144 := hr126.ext hE131
          have hr145 := hr127.ext hE131
          have hr146 := hO117.ext hE131
          refine wl_val (g_assign (v := .slice a132 (xs3.length) (c133)) rfl) rfl ?_
          refine wl_nil ?_
          refine hK129 _ _ ?_
          refine w_seq fun K148 hK148 => ?_
          refine w_region ?_
          refine wl_val (g_move (v := .slice a81 (xs0.length) (c82)) rfl) rfl ?_
          refine wl_val (g_move (v := .slice a97 (xs1.length) (c98)) rfl) rfl ?_
          refine wl_val (g_move (v := .slice a114 (xs2.length) (c115)) rfl) rfl ?_
          refine wl_val (g_move (v := .slice a132 (xs3.length) (c133)) rfl) rfl ?_
          refine wl_step rfl (g_call (vs := #[.slice a81 (xs0.length) (c82), .slice a97 (xs1.length) (c98), .slice a114 (xs2.length) (c115), .slice a132 (xs3.length) (c133)]) CF28 (args4 rfl rfl rfl rfl) (implChanges_fn (Own.cells hr144) (Own.cells hr145) (Own.cells hr146) (Own.cells hO135) (by omega) (by omega) (by omega) (by omega) (by omega) (by omega) (by omega) (by omega) )) ?_
          rintro _ w149 ⟨rfl, hE150⟩
          have hs151 := hE150.size
          have hB152 := Ext.below hB138 hE150 (by omega)
          have hz153 := hB152.size
          have hr154 := hr140.ext hE150
          have hr155 := hr141.ext hE150
          have hr156 := hr142.ext hE150
          have hr157 := hr143.ext hE150
          have hr158 := hr144.ext hE150
          have hr159 := hr145.ext hE150
          have hr160 := hr146.ext hE150
          have hr161 := hO135.ext hE150
          refine wl_val (g_assign (v := .int .i64 ((changesB xs0 xs1 xs2 xs3))) rfl) rfl ?_
          refine wl_nil ?_
          refine hK148 _ _ ?_
          refine w_seq fun K162 hK162 => ?_
          refine w_seq fun K163 hK163 => ?_
          refine w_region ?_
          refine wl_val (g_move (v := .int .i64 ((changesB xs0 xs1 xs2 xs3))) rfl) rfl ?_
          refine wl_val (g_move (v := .int .i64 ((changesB xs0 xs1 xs2 xs3))) rfl) rfl ?_
          refine wl_val (g_neq (a := (changesB xs0 xs1 xs2 xs3)) (b := (changesB xs0 xs1 xs2 xs3)) rfl rfl) rfl ?_
          refine wl_nil ?_
          refine hK163 _ _ ?_
          refine w_cond_d (p := (changesB xs0 xs1 xs2 xs3) ≠ (changesB xs0 xs1 xs2 xs3)) rfl (fun h164 => ?_) (fun h164 => ?_)
          · refine w_seq fun K165 hK165 => ?_
            refine w_region ?_
            refine wl_val (g_assign (v := .bool (false)) rfl) rfl ?_
            refine wl_nil ?_
            refine hK165 _ _ ?_
            refine w_ret ?_
            exact False.elim (by first | exact h164 rfl | omega | simp at h164)
          · refine w_skip ?_
            refine hK162 _ _ ?_
            refine w_seq fun K166 hK166 => ?_
            refine w_seq fun K167 hK167 => ?_
            refine w_region ?_
            refine wl_val (g_move (v := .slice a81 (xs0.length) (c82)) rfl) rfl ?_
            refine wl_val (g_move (v := .slice a0 (xs0.length) (c0)) rfl) rfl ?_
            refine wl_step rfl (g_call (vs := #[.slice a0 (xs0.length) (c0)]) CF27 (args1 rfl) (toIntS_fn (Cells.below hx0 hB152 (by omega)) (by omega) (by omega))) ?_
            rintro _ w168 ⟨a170, c171, rfl, hn172, hO173, hE169⟩
            have ht174 : ∀ k, blk a170 = some k → k < w168.heap.size := fun k hk => (hO173.lt k hk).2
            have hs175 := hE169.size
            have hB176 := Ext.below hB152 hE169 (by omega)
            have hz177 := hB176.size
            have hr178 := hr154.ext hE169
            have hr179 := hr155.ext hE169
            have hr180 := hr156.ext hE169
            have hr181 := hr157.ext hE169
            have hr182 := hr158.ext hE169
            have hr183 := hr159.ext hE169
            have hr184 := hr160.ext hE169
            have hr185 := hr161.ext hE169
            refine wl_step rfl (g_call (vs := #[.slice a81 (xs0.length) (c82), .slice a170 (xs0.length) (c171)]) CF29 (args2 rfl rfl) (eqIntS_fn (Own.cells hr182) (Own.cells hO173) (by omega) (by omega) (by omega))) ?_
            rintro _ w187 ⟨rfl, hE188⟩
            have hs189 := hE188.size
            have hB190 := Ext.below hB176 hE188 (by omega)
            have hz191 := hB190.size
            have hr192 := hr178.ext hE188
            have hr193 := hr179.ext hE188
            have hr194 := hr180.ext hE188
            have hr195 := hr181.ext hE188
            have hr196 := hr182.ext hE188
            have hr197 := hr183.ext hE188
            have hr198 := hr184.ext hE188
            have hr199 := hr185.ext hE188
            have hr200 := hO173.ext hE188
            refine wl_val (g_not (a := (decide (xs0 = xs0))) rfl) rfl ?_
            refine wl_nil ?_
            refine hK167 _ _ ?_
            refine w_cond (b := (!(decide (xs0 = xs0)))) rfl (fun h201 => ?_) (fun h201 => ?_)
            · replace h201 := (fun h => of_decide_eq_false (bt_not h)) h201
              refine w_seq fun K202 hK202 => ?_
              refine w_region ?_
              refine wl_val (g_assign (v := .bool (false)) rfl) rfl ?_
              refine wl_nil ?_
              refine hK202 _ _ ?_
              refine w_ret ?_
              exact False.elim (by first | exact h201 rfl | omega | simp at h201)
            · replace h201 := (fun h => of_decide_eq_true (bf_not h)) h201
              refine w_skip ?_
              refine hK166 _ _ ?_
              refine w_seq fun K203 hK203 => ?_
              refine w_seq fun K204 hK204 => ?_
              refine w_region ?_
              refine wl_val (g_move (v := .slice a97 (xs1.length) (c98)) rfl) rfl ?_
              refine wl_val (g_move (v := .slice a1 (xs1.length) (c1)) rfl) rfl ?_
              refine wl_step rfl (g_call (vs := #[.slice a1 (xs1.length) (c1)]) CF27 (args1 rfl) (toIntS_fn (Cells.below hx1 hB190 (by omega)) (by omega) (by omega))) ?_
              rintro _ w205 ⟨a207, c208, rfl, hn209, hO210, hE206⟩
              have ht211 : ∀ k, blk a207 = some k → k < w205.heap.size := fun k hk => (hO210.lt k hk).2
              have hs212 := hE206.size
              have hB213 := Ext.below hB190 hE206 (by omega)
              have hz214 := hB213.size
              have hr215 := hr192.ext hE206
              have hr216 := hr193.ext hE206
              have hr217 := hr194.ext hE206
              have hr218 := hr195.ext hE206
              have hr219 := hr196.ext hE206
              have hr220 := hr197.ext hE206
              have hr221 := hr198.ext hE206
              have hr222 := hr199.ext hE206
              have hr223 := hr200.ext hE206
              refine wl_step rfl (g_call (vs := #[.slice a97 (xs1.length) (c98), .slice a207 (xs1.length) (c208)]) CF29 (args2 rfl rfl) (eqIntS_fn (Own.cells hr220) (Own.cells hO210) (by omega) (by omega) (by omega))) ?_
              rintro _ w225 ⟨rfl, hE226⟩
              have hs227 := hE226.size
              have hB228 := Ext.below hB213 hE226 (by omega)
              have hz229 := hB228.size
              have hr230 := hr215.ext hE226
              have hr231 := hr216.ext hE226
              have hr232 := hr217.ext hE226
              have hr233 := hr218.ext hE226
              have hr234 := hr219.ext hE226
              have hr235 := hr220.ext hE226
              have hr236 := hr221.ext hE226
              have hr237 := hr222.ext hE226
              have hr238 := hr223.ext hE226
              have hr239 := hO210.ext hE226
              refine wl_val (g_not (a := (decide (xs1 = xs1))) rfl) rfl ?_
              refine wl_nil ?_
              refine hK204 _ _ ?_
              refine w_cond (b := (!(decide (xs1 = xs1)))) rfl (fun h240 => ?_) (fun h240 => ?_)
              · replace h240 := (fun h => of_decide_eq_false (bt_not h)) h240
                refine w_seq fun K241 hK241 => ?_
                refine w_region ?_
                refine wl_val (g_assign (v := .bool (false)) rfl) rfl ?_
                refine wl_nil ?_
                refine hK241 _ _ ?_
                refine w_ret ?_
                exact False.elim (by first | exact h240 rfl | omega | simp at h240)
              · replace h240 := (fun h => of_decide_eq_true (bf_not h)) h240
                refine w_skip ?_
                refine hK203 _ _ ?_
                refine w_seq fun K242 hK242 => ?_
                refine w_seq fun K243 hK243 => ?_
                refine w_region ?_
                refine wl_val (g_move (v := .slice a114 (xs2.length) (c115)) rfl) rfl ?_
                refine wl_val (g_move (v := .slice a2 (xs2.length) (c2)) rfl) rfl ?_
                refine wl_step rfl (g_call (vs := #[.slice a2 (xs2.length) (c2)]) CF27 (args1 rfl) (toIntS_fn (Cells.below hx2 hB228 (by omega)) (by omega) (by omega))) ?_
                rintro _ w244 ⟨a246, c247, rfl, hn248, hO249, hE245⟩
                have ht250 : ∀ k, blk a246 = some k → k < w244.heap.size := fun k hk => (hO249.lt k hk).2
                have hs251 := hE245.size
                have hB252 := Ext.below hB228 hE245 (by omega)
                have hz253 := hB252.size
                have hr254 := hr230.ext hE245
                have hr255 := hr231.ext hE245
                have hr256 := hr232.ext hE245
                have hr257 := hr233.ext hE245
                have hr258 := hr234.ext hE245
                have hr259 := hr235.ext hE245
                have hr260 := hr236.ext hE245
                have hr261 := hr237.ext hE245
                have hr262 := hr238.ext hE245
                have hr263 := hr239.ext hE245
                refine wl_step rfl (g_call (vs := #[.slice a114 (xs2.length) (c115), .slice a246 (xs2.length) (c247)]) CF29 (args2 rfl rfl) (eqIntS_fn (Own.cells hr260) (Own.cells hO249) (by omega) (by omega) (by omega))) ?_
                rintro _ w265 ⟨rfl, hE266⟩
                have hs267 := hE266.size
                have hB268 := Ext.below hB252 hE266 (by omega)
                have hz269 := hB268.size
                have hr270 := hr254.ext hE266
                have hr271 := hr255.ext hE266
                have hr272 := hr256.ext hE266
                have hr273 := hr257.ext hE266
                have hr274 := hr258.ext hE266
                have hr275 := hr259.ext hE266
                have hr276 := hr260.ext hE266
                have hr277 := hr261.ext hE266
                have hr278 := hr262.ext hE266
                have hr279 := hr263.ext hE266
                have hr280 := hO249.ext hE266
                refine wl_val (g_not (a := (decide (xs2 = xs2))) rfl) rfl ?_
                refine wl_nil ?_
                refine hK243 _ _ ?_
                refine w_cond (b := (!(decide (xs2 = xs2)))) rfl (fun h281 => ?_) (fun h281 => ?_)
                · replace h281 := (fun h => of_decide_eq_false (bt_not h)) h281
                  refine w_seq fun K282 hK282 => ?_
                  refine w_region ?_
                  refine wl_val (g_assign (v := .bool (false)) rfl) rfl ?_
                  refine wl_nil ?_
                  refine hK282 _ _ ?_
                  refine w_ret ?_
                  exact False.elim (by first | exact h281 rfl | omega | simp at h281)
                · replace h281 := (fun h => of_decide_eq_true (bf_not h)) h281
                  refine w_skip ?_
                  refine hK242 _ _ ?_
                  refine w_seq fun K283 hK283 => ?_
                  refine w_seq fun K284 hK284 => ?_
                  refine w_region ?_
                  refine wl_val (g_move (v := .slice a132 (xs3.length) (c133)) rfl) rfl ?_
                  refine wl_val (g_move (v := .slice a3 (xs3.length) (c3)) rfl) rfl ?_
                  refine wl_step rfl (g_call (vs := #[.slice a3 (xs3.length) (c3)]) CF27 (args1 rfl) (toIntS_fn (Cells.below hx3 hB268 (by omega)) (by omega) (by omega))) ?_
                  rintro _ w285 ⟨a287, c288, rfl, hn289, hO290, hE286⟩
                  have ht291 : ∀ k, blk a287 = some k → k < w285.heap.size := fun k hk => (hO290.lt k hk).2
                  have hs292 := hE286.size
                  have hB293 := Ext.below hB268 hE286 (by omega)
                  have hz294 := hB293.size
                  have hr295 := hr270.ext hE286
                  have hr296 := hr271.ext hE286
                  have hr297 := hr272.ext hE286
                  have hr298 := hr273.ext hE286
                  have hr299 := hr274.ext hE286
                  have hr300 := hr275.ext hE286
                  have hr301 := hr276.ext hE286
                  have hr302 := hr277.ext hE286
                  have hr303 := hr278.ext hE286
                  have hr304 := hr279.ext hE286
                  have hr305 := hr280.ext hE286
                  refine wl_step rfl (g_call (vs := #[.slice a132 (xs3.length) (c133), .slice a287 (xs3.length) (c288)]) CF29 (args2 rfl rfl) (eqIntS_fn (Own.cells hr302) (Own.cells hO290) (by omega) (by omega) (by omega))) ?_
                  rintro _ w307 ⟨rfl, hE308⟩
                  have hs309 := hE308.size
                  have hB310 := Ext.below hB293 hE308 (by omega)
                  have hz311 := hB310.size
                  have hr312 := hr295.ext hE308
                  have hr313 := hr296.ext hE308
                  have hr314 := hr297.ext hE308
                  have hr315 := hr298.ext hE308
                  have hr316 := hr299.ext hE308
                  have hr317 := hr300.ext hE308
                  have hr318 := hr301.ext hE308
                  have hr319 := hr302.ext hE308
                  have hr320 := hr303.ext hE308
                  have hr321 := hr304.ext hE308
                  have hr322 := hr305.ext hE308
                  have hr323 := hO290.ext hE308
                  refine wl_val (g_not (a := (decide (xs3 = xs3))) rfl) rfl ?_
                  refine wl_nil ?_
                  refine hK284 _ _ ?_
                  refine w_cond (b := (!(decide (xs3 = xs3)))) rfl (fun h324 => ?_) (fun h324 => ?_)
                  · replace h324 := (fun h => of_decide_eq_false (bt_not h)) h324
                    refine w_seq fun K325 hK325 => ?_
                    refine w_region ?_
                    refine wl_val (g_assign (v := .bool (false)) rfl) rfl ?_
                    refine wl_nil ?_
                    refine hK325 _ _ ?_
                    refine w_ret ?_
                    exact False.elim (by first | exact h324 rfl | omega | simp at h324)
                  · replace h324 := (fun h => of_decide_eq_true (bf_not h)) h324
                    refine w_skip ?_
                    refine hK283 _ _ ?_
                    refine w_seq fun K326 hK326 => ?_
                    refine w_region ?_
                    refine wl_val (g_assign (v := .bool (true)) rfl) rfl ?_
                    refine wl_nil ?_
                    refine hK326 _ _ ?_
                    refine w_ret ?_
                    exact ret1 rfl (by decide) ⟨rfl, hB310⟩
end Go.Proofs.Ytppoelhflegpnaa
namespace Go.Proofs.Ytppoelhflegpnaa.fnExactChangesBetween
open Go.ChangeShapes Go.WideShapes Go.ChangeAt Go.RowKit
open Go.ChangeMaps (open_string shut_string)
set_option linter.unusedVariables false
theorem own : ownKnob Try.prog.godebug = none := by kernel_rfl
theorem laidOut : laidOutB Try.prog = true := by kernel_rfl
set_option maxRecDepth 100000 in
theorem lifted (os : Os) (started : os.Started) (H : Type) (enc : TypeId × Value → H) :
    ReturnsInHanded {} Try.checked os 3 .any (Rows.fnExactChangesBetweenSpec.pre6 enc Try.prog Try.f3 Rows.fnExactChangesBetweenRow.domain false) (Rows.fnExactChangesBetweenSpec.post enc Try.prog Try.f3 false true false false) := by
  refine returnsInHanded_of_change (C := Try.checked) own started (by kernel_rfl) Try.func3
    (ChangeSpec.witness6 (enc := enc) (C := Try.checked) false ⟨#[], #[.slice none 0 0, .slice none 0 0, .slice none 0 0, .slice none 0 0], []⟩ 8 (by kernel_rfl) (by kernel_rfl) (by kernel_rfl) (by kernel_rfl)) ?_
  intro W base args ds gs before hval0 hW hcnd _
  have hval : ∀ (j : Nat) t v, Try.f3.params[j]? = some t → args[j]? = some v → Value.okWide Try.prog W .any base t v := hval0
  have hW' := hW
  obtain ⟨p, q, hA0, hV, rfl, hfz, hnd⟩ := hW
  have hA : DataW.TrodAll enc Try.prog W 0 (fun _ => true) true Try.f3.params.toList args.toList ds p := hA0
  rw [Try.params3] at hA hval
  obtain ⟨v0, vs0, d0, ds0, p0, q0, hargs, rfl, rfl, h0, r0⟩ := trodAll_cons hA
  obtain ⟨v1, vs1, d1, ds1, p1, q1, rfl, rfl, rfl, h1, r1⟩ := trodAll_cons r0
  obtain ⟨v2, vs2, d2, ds2, p2, q2, rfl, rfl, rfl, h2, r2⟩ := trodAll_cons r1
  obtain ⟨v3, vs3, d3, ds3, p3, q3, rfl, rfl, rfl, h3, r3⟩ := trodAll_cons r2
  obtain ⟨rfl, rfl, rfl⟩ := trodAll_nil r3
  obtain rfl : args = #[v0, v1, v2, v3] := by cases args; simp_all
  obtain ⟨rfl, rfl⟩ := trodVars_none hV
  have k0 := h0
  have lt0 : ∀ x ∈ p0, x.block < W.heap.size := by obtain ⟨m, hm⟩ := k0; exact DataW.trod_lt m _ _ _ hm
  obtain ⟨a0, len0, cap0, rfl⟩ := okWide_slice Try.underlying22 (hval 0 22 v0 rfl rfl)
  obtain ⟨xs0, hl0, hx0, hn0, hm0⟩ : ∃ xs : List Int, xs.length = len0 ∧ Cells 0 W.heap.size W a0 (intsC xs) ∧ (a0 = none → cap0 = 0) ∧ len0 ≤ 9223372036854775807 := by
    obtain ⟨fuel, hf⟩ := h0
    rcases open_ints Try.underlying22 Try.underlying3 (by kernel_rfl) hf with ⟨hcs, _⟩ | ⟨x, l, c, zs, hcs, _, hl, hm, hz, _, hcell, hwz⟩
    · simp [Value.cells] at hcs
      obtain ⟨rfl, rfl, rfl⟩ := hcs
      exact ⟨[], rfl, Cells.nil, (fun _ => rfl), by omega⟩
    · simp [Value.cells] at hcs
      obtain ⟨rfl, rfl, rfl⟩ := hcs
      exact ⟨zs.take len0, by simp at hz ⊢; omega, cells_of_ints hcell (by simp at hz; omega), (fun h => by cases h), by unfold maxLen at hm; omega⟩
  subst hl0
  have k1 := h1
  have lt1 : ∀ x ∈ p1, x.block < W.heap.size := by obtain ⟨m, hm⟩ := k1; exact DataW.trod_lt m _ _ _ hm
  obtain ⟨a1, len1, cap1, rfl⟩ := okWide_slice Try.underlying22 (hval 1 22 v1 rfl rfl)
  obtain ⟨xs1, hl1, hx1, hn1, hm1⟩ : ∃ xs : List Int, xs.length = len1 ∧ Cells 0 W.heap.size W a1 (intsC xs) ∧ (a1 = none → cap1 = 0) ∧ len1 ≤ 9223372036854775807 := by
    obtain ⟨fuel, hf⟩ := h1
    rcases open_ints Try.underlying22 Try.underlying3 (by kernel_rfl) hf with ⟨hcs, _⟩ | ⟨x, l, c, zs, hcs, _, hl, hm, hz, _, hcell, hwz⟩
    · simp [Value.cells] at hcs
      obtain ⟨rfl, rfl, rfl⟩ := hcs
      exact ⟨[], rfl, Cells.nil, (fun _ => rfl), by omega⟩
    · simp [Value.cells] at hcs
      obtain ⟨rfl, rfl, rfl⟩ := hcs
      exact ⟨zs.take len1, by simp at hz ⊢; omega, cells_of_ints hcell (by simp at hz; omega), (fun h => by cases h), by unfold maxLen at hm; omega⟩
  subst hl1
  have k2 := h2
  have lt2 : ∀ x ∈ p2, x.block < W.heap.size := by obtain ⟨m, hm⟩ := k2; exact DataW.trod_lt m _ _ _ hm
  obtain ⟨a2, len2, cap2, rfl⟩ := okWide_slice Try.underlying22 (hval 2 22 v2 rfl rfl)
  obtain ⟨xs2, hl2, hx2, hn2, hm2⟩ : ∃ xs : List Int, xs.length = len2 ∧ Cells 0 W.heap.size W a2 (intsC xs) ∧ (a2 = none → cap2 = 0) ∧ len2 ≤ 9223372036854775807 := by
    obtain ⟨fuel, hf⟩ := h2
    rcases open_ints Try.underlying22 Try.underlying3 (by kernel_rfl) hf with ⟨hcs, _⟩ | ⟨x, l, c, zs, hcs, _, hl, hm, hz, _, hcell, hwz⟩
    · simp [Value.cells] at hcs
      obtain ⟨rfl, rfl, rfl⟩ := hcs
      exact ⟨[], rfl, Cells.nil, (fun _ => rfl), by omega⟩
    · simp [Value.cells] at hcs
      obtain ⟨rfl, rfl, rfl⟩ := hcs
      exact ⟨zs.take len2, by simp at hz ⊢; omega, cells_of_ints hcell (by simp at hz; omega), (fun h => by cases h), by unfold maxLen at hm; omega⟩
  subst hl2
  have k3 := h3
  have lt3 : ∀ x ∈ p3, x.block < W.heap.size := by obtain ⟨m, hm⟩ := k3; exact DataW.trod_lt m _ _ _ hm
  obtain ⟨a3, len3, cap3, rfl⟩ := okWide_slice Try.underlying22 (hval 3 22 v3 rfl rfl)
  obtain ⟨xs3, hl3, hx3, hn3, hm3⟩ : ∃ xs : List Int, xs.length = len3 ∧ Cells 0 W.heap.size W a3 (intsC xs) ∧ (a3 = none → cap3 = 0) ∧ len3 ≤ 9223372036854775807 := by
    obtain ⟨fuel, hf⟩ := h3
    rcases open_ints Try.underlying22 Try.underlying3 (by kernel_rfl) hf with ⟨hcs, _⟩ | ⟨x, l, c, zs, hcs, _, hl, hm, hz, _, hcell, hwz⟩
    · simp [Value.cells] at hcs
      obtain ⟨rfl, rfl, rfl⟩ := hcs
      exact ⟨[], rfl, Cells.nil, (fun _ => rfl), by omega⟩
    · simp [Value.cells] at hcs
      obtain ⟨rfl, rfl, rfl⟩ := hcs
      exact ⟨zs.take len3, by simp at hz ⊢; omega, cells_of_ints hcell (by simp at hz; omega), (fun h => by cases h), by unfold maxLen at hm; omega⟩
  subst hl3
  clear hA0 hval0
  refine Calls.mono (FnExactChangesBetween_fn hx0 hn0 hm0 hx1 hn1 hm1 hx2 hn2 hm2 hx3 hn3 hm3) fun e W' ⟨vv, he, hv, bel⟩ => ?_
  subst hv; subst he
  exact ⟨_, rfl, _, _, _, [], _, [], hW', trodAll_mk1 (shut_bool Try.underlying4 _), (trodAll_cons_mk (Below.trod laidOut (by kernel_rfl) (of_decide_eq_true (by kernel_rfl)) k0 bel lt0) (trodAll_cons_mk (Below.trod laidOut (by kernel_rfl) (of_decide_eq_true (by kernel_rfl)) k1 bel lt1) (trodAll_cons_mk (Below.trod laidOut (by kernel_rfl) (of_decide_eq_true (by kernel_rfl)) k2 bel lt2) (trodAll_cons_mk (Below.trod laidOut (by kernel_rfl) (of_decide_eq_true (by kernel_rfl)) k3 bel lt3) trodAll_mk0)))), rfl, bel.frame _, fun h => by cases h⟩
set_option maxRecDepth 1000000 in
theorem over : Rows.fnExactChangesBetweenRow.holds Try.pinned (OpenSpec.ofChange Rows.fnExactChangesBetweenSpec) :=
  OpenClaim.holds_of_wide 3 Try.f3 rfl rfl rfl rfl rfl rfl rfl ⟨rfl, rfl, rfl, rfl, rfl⟩ rfl rfl rfl rfl rfl (by kernel_rfl) Try.func3 (joined_of rfl (of_decide_eq_true (by kernel_rfl)))
    (of_decide_eq_true (by kernel_rfl)) (by unfold Func.isWrapper; first | (rw [if_pos (by decide +kernel)]; kernel_rfl) | (rw [if_neg (by decide +kernel)]; exact ⟨rfl, rfl⟩))
    (fun os started H enc _ => lifted os started H enc)
theorem proved : Rows.FnExactChangesBetweenSaid := over
#print axioms proved
end Go.Proofs.Ytppoelhflegpnaa.fnExactChangesBetween
