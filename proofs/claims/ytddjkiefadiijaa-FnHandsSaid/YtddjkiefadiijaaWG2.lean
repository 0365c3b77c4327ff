/- The walks: the code does what its model says. Printed by a program (gen2.py). No statement of the claim stands here. -/
import Derived.Test.YtddjkiefadiijaaSop
import Derived.Test.YtddjkiefadiijaaFacts
import Derived.Test.YtddjkiefadiijaaMG
import Derived.Test.YtddjkiefadiijaaWG1
namespace Go.Proofs.Ytddjkiefadiijaa
open Go Go.RowKit
set_option maxRecDepth 100000
theorem m_impl_WhoKnows_fn {w : World} {a0 : Option Addr} {n0 c0 : Nat} {y0 : List PlayerD} {p0 : List PlayerC} {Q : (List Int) → Prop} (hp0 : Tv w.heap.size w a0 n0 c0 y0 p0) (p1 : Int) (hm : m_impl_WhoKnows p0 p1 Q) :
    Fn Try.prog 42 #[.slice a0 n0 c0, .int .i64 p1] w (fun v w' => ∃ (r0 : List Int) (a0 : Option Addr) (n0 c0 : Nat), Q r0 ∧ v = .slice a0 n0 c0 ∧ Ext w w' ∧ Sep w' w.heap.size [oS 3 a0 n0 c0 r0]) := by
  unfold m_impl_WhoKnows at hm
  have hB0 := Below.refl w.heap.size w
  have hS0 : Sep w w.heap.size [] := Sep.nil (Nat.le_refl _)
  refine fn_of_wp Try.func42 rfl (by kernel_rfl) (Nat.le_of_ble_eq_true rfl) ?_
  refine w_seq fun K1 hK1 => ?_
  refine w_region ?_
  refine wl_val (g_assign (v := .slice none 0 0) rfl) rfl ?_
  refine wl_nil ?_
  refine hK1 _ _ ?_
  refine w_seq fun K2 hK2 => ?_
  refine w_seq fun K3 hK3 => ?_
  refine w_region ?_
  refine wl_val (g_move (v := .slice a0 n0 c0) rfl) rfl ?_
  refine wl_step rfl (g_call (vs := #[.slice a0 n0 c0]) CF44 (args1 rfl) (m_impl_PlayersOk_fn ((hp0.bel hB0).up hS0) hm)) ?_
  rintro _ w4 ⟨r7, hm, rfl, hE5⟩
  have hB8 := hB0.trans (Ext.stp hE5 hS0.base)
  have hS9 := hS0.ext hE5
  refine wl_val (g_not (a := r7) rfl) rfl ?_
  refine wl_nil ?_
  refine hK3 _ _ ?_
  refine w_condI (p := ¬ (r7 = true)) (b := (!r7)) rfl (i_not Iff.rfl) (fun h10 => ?_) (fun h10 => ?_)
  · replace hm := hm.1 h10
    refine w_seq fun K11 hK11 => ?_
    refine w_region ?_
    refine wl_val (g_assign (v := .slice none 0 0) rfl) rfl ?_
    refine wl_nil ?_
    refine hK11 _ _ ?_
    refine w_ret ?_
    have hS12 := hS9.nilS (α := Int) (E := 3)
    repeat first | with_reducible refine q_then ?_ | with_reducible refine q_block ?_
    exact ret1 rfl (by decide) ⟨_, _, _, _, hm, rfl, toExt hB8, hS12⟩
  · replace hm := hm.2 h10
    refine w_skip ?_
    refine hK2 _ _ ?_
    refine w_seq fun K14 hK14 => ?_
    refine w_region ?_
    refine wl_step rfl (q_lit0 (α := Int) rfl SL23 hS9) ?_
    rintro _ w15 ⟨a16, rfl, hS18, hE17⟩
    have hB20 := hB8.trans (Ext.stp hE17 hS9.base)
    refine wl_val (g_assign (v := .slice a16 0 0) rfl) rfl ?_
    refine wl_nil ?_
    refine hK14 _ _ ?_
    refine w_cut (σ := List Int × Option Addr × Nat × Nat) (fun ⟨x128, a129, n130, c131⟩ => [(5, .slice a129 n130 c131)]) (fun ⟨x128, a129, n130, c131⟩ w' => m_impl_WhoKnows_K0 Q x128 ∧ Below w.heap.size w w' ∧ Sep w' w.heap.size [oS 3 a129 n130 c131 (x128 : List Int)]) ?_ ?_
    · refine w_seq fun K133 hK133 => ?_
      refine w_region ?_
      refine wl_val (g_move (v := .slice a0 n0 c0) rfl) rfl ?_
      refine wl_val (q_len SL27 rfl (Tv.len (hp0.bel hB20))) rfl ?_
      refine wl_val (g_move (v := .int .i64 0) rfl) rfl ?_
      refine wl_nil ?_
      refine hK133 _ _ ?_
      refine w_block ?_
      obtain ⟨I139, μ140, h0141, hr142⟩ := hm
      refine w_for (σ := List Int × Option Addr × Nat × Nat × Int) (fun ⟨x134, a135, n136, c137, v138⟩ => [(1, .int .i64 p1), (5, .slice a135 n136 c137), (12, .slice a0 n0 c0), (13, .int .i64 (p0.length : Int)), (14, .int .i64 v138)]) (fun ⟨x134, a135, n136, c137, v138⟩ w' => I139 x134 v138 ∧ Below w.heap.size w w' ∧ Sep w' w.heap.size [oS 3 a135 n136 c137 (x134 : List Int)]) (fun ⟨x134, a135, n136, c137, v138⟩ => μ140 x134 v138) ([], a16, 0, 0, 0) ⟨rfl, rfl, rfl, rfl, rfl, trivial⟩ ⟨h0141, hB20, hS18⟩ ?_
      rintro ⟨x134, a135, n136, c137, v138⟩ b_ w143 ⟨hi_, hB144, hS145⟩
      show Wp _ _ _ _ (upds b_ [(1, .int .i64 p1), (5, .slice a135 n136 c137), (12, .slice a0 n0 c0), (13, .int .i64 (p0.length : Int)), (14, .int .i64 v138)]) w143
      have hm := hr142 x134 v138 hi_
      refine w_seq fun K147 hK147 => ?_
      refine w_region ?_
      refine wl_val (g_lss (a := v138) (b := (p0.length : Int)) rfl rfl) rfl ?_
      refine wl_nil ?_
      refine hK147 _ _ ?_
      refine w_seq fun K148 hK148 => ?_
      refine w_condI (p := v138 < (p0.length : Int)) (b := (decide (v138 < (p0.length : Int)))) rfl decide_eq_true_iff (fun h149 => ?_) (fun h149 => ?_)
      · replace hm := hm.1 h149
        refine w_skip ?_
        refine hK148 _ _ ?_
        refine w_seq fun K150 hK150 => ?_
        refine w_block ?_
        refine w_seq fun K151 hK151 => ?_
        refine w_region ?_
        refine wl_val (g_move (v := .int .i64 v138) rfl) rfl ?_
        obtain ⟨hg152, hm⟩ := hm
        refine wl_val (q_index (i := v138) SL27 rfl rfl (Tv.o (hp0.bel hB144)) (Tv.g (hp0.bel hB144) hg152)) rfl ?_
        refine wl_val (q_loadS (i := v138) (cs := [.slice ((y0[(Int.toNat v138)]!).1.1) ((y0[(Int.toNat v138)]!).1.2.2.length) ((y0[(Int.toNat v138)]!).1.2.1), .int .i64 (p0[(Int.toNat v138)]!.2)]) AG54 (Tv.o (hp0.bel hB144)) (Tv.g (hp0.bel hB144) hg152) (by rw [← Tv.free (hp0.bel hB144) hg152]; rfl) rfl) rfl ?_
        refine wl_step rfl (q_alloc (cs := #[.slice none 0 0, .int .i64 0]) ZR54 rfl hS145) ?_
        rintro _ w153 ⟨g154, rfl, hS156, hE155⟩
        have hB158 := hB144.trans (Ext.stp hE155 hS145.base)
        refine wl_val (g_assign (v := .int .i64 v138) rfl) rfl ?_
        refine wl_step rfl (q_storeB (i := 0) (bs' := #[.slice ((y0[(Int.toNat v138)]!).1.1) ((y0[(Int.toNat v138)]!).1.2.2.length) ((y0[(Int.toNat v138)]!).1.2.1), .int .i64 (p0[(Int.toNat v138)]!.2)]) (vs := [.slice ((y0[(Int.toNat v138)]!).1.1) ((y0[(Int.toNat v138)]!).1.2.2.length) ((y0[(Int.toNat v138)]!).1.2.1), .int .i64 (p0[(Int.toNat v138)]!.2)]) hS156 AG54.sz rfl rfl rfl (by simp [Value.oneCell']) (Nat.le_of_ble_eq_true rfl) rfl) ?_
        rintro _ w159 ⟨rfl, hS160, hb161⟩
        have hB162 := hB158.trans hb161
        refine wl_nil ?_
        refine hK151 _ _ ?_
        refine w_seq fun K163 hK163 => ?_
        refine w_region ?_
        refine wl_val (g_fieldAddr (q := (⟨g154, 0, none⟩ : Addr)) FL54_0 ON23 rfl) rfl ?_
        refine wl_val (q_loadB (i := 0) (bs := #[.slice ((y0[(Int.toNat v138)]!).1.1) ((y0[(Int.toNat v138)]!).1.2.2.length) ((y0[(Int.toNat v138)]!).1.2.1), .int .i64 (p0[(Int.toNat v138)]!.2)]) hS160.g0 ON23 rfl rfl) rfl ?_
        refine wl_val (g_move (v := .int .i64 p1) rfl) rfl ?_
        refine wl_step rfl (g_call (vs := #[.slice ((y0[(Int.toNat v138)]!).1.1) ((y0[(Int.toNat v138)]!).1.2.2.length) ((y0[(Int.toNat v138)]!).1.2.1), .int .i64 p1]) CF84 (args2 rfl rfl) (m_impl_indexOf_fn ((Tv.rowP (hp0.bel hB162) hg152).up hS160) p1 hm)) ?_
        rintro _ w164 ⟨r167, hm, rfl, hE165⟩
        have hB168 := hB162.trans (Ext.stp hE165 hS160.base)
        have hS169 := hS160.ext hE165
        refine wl_val (g_geq (a := r167) (b := 0) rfl rfl) rfl ?_
        refine wl_nil ?_
        refine hK163 _ _ ?_
        refine w_condI (p := r167 ≥ 0) (b := (decide (r167 ≥ 0))) rfl decide_eq_true_iff (fun h170 => ?_) (fun h170 => ?_)
        · replace hm := hm.1 h170
          refine w_region ?_
          refine wl_val (g_move (v := .slice a135 n136 c137) rfl) rfl ?_
          refine wl_val (g_move (v := .int .i64 v138) rfl) rfl ?_
          refine wl_step rfl (q_lit1 (y := (v138 : Int)) SL23 rfl rfl (by decide) hS169) ?_
          rintro _ w171 ⟨a172, rfl, hS174, hE173⟩
          have hB176 := hB168.trans (Ext.stp hE173 hS169.base)
          have hS182 := hS174.f2
          obtain ⟨hg183, hm⟩ := hm
          refine wl_step rfl (q_append SL23 rfl rfl hS182 (oS.vw hS182.g1) hg183 (by decide)) ?_
          rintro _ w177 ⟨a178, c179, rfl, hS181, hb180⟩
          have hB184 := hB176.trans hb180
          refine wl_val (g_assign (v := .slice a178 (n136 + 1) c179) rfl) rfl ?_
          refine wl_nil ?_
          refine hK150 _ _ ?_
          refine w_region ?_
          obtain ⟨hg185, hm⟩ := hm
          refine wl_val (g_add (a := v138) (b := 1) rfl rfl hg185) rfl ?_
          refine wl_val (g_move (v := .int .i64 (v138 + 1)) rfl) rfl ?_
          refine wl_nil ?_
          have hS186 := hS181.f1
          have hS187 := hS186.tail
          have hS188 := hS187.f1
          have hS189 := hS188.tail
          exact ⟨((x134 ++ ([v138])), a178, (n136 + 1), c179, (v138 + 1)), hm.2, ⟨rfl, rfl, rfl, rfl, rfl, trivial⟩, ⟨hm.1, hB184, hS189⟩⟩
        · replace hm := hm.2 h170
          refine w_skip ?_
          refine hK150 _ _ ?_
          refine w_region ?_
          obtain ⟨hg190, hm⟩ := hm
          refine wl_val (g_add (a := v138) (b := 1) rfl rfl hg190) rfl ?_
          refine wl_val (g_move (v := .int .i64 (v138 + 1)) rfl) rfl ?_
          refine wl_nil ?_
          have hS191 := hS169.tail
          exact ⟨(x134, a135, n136, c137, (v138 + 1)), hm.2, ⟨rfl, rfl, rfl, rfl, rfl, trivial⟩, ⟨hm.1, hB168, hS191⟩⟩
      · replace hm := hm.2 h149
        refine w_exit ?_
        exact ⟨(x134, a135, n136, c137), ⟨rfl, trivial⟩, ⟨hm, hB144, hS145⟩⟩
    · rintro ⟨x128, a129, n130, c131⟩ b_ w192 ⟨hm, hB193, hS194⟩
      show Wp _ _ _ _ (upds b_ [(5, .slice a129 n130 c131)]) w192
      refine w_seq fun K195 hK195 => ?_
      refine w_region ?_
      refine wl_val (g_move (v := .slice a129 n130 c131) rfl) rfl ?_
      refine wl_val (g_assign (v := .slice a129 n130 c131) rfl) rfl ?_
      refine wl_nil ?_
      refine hK195 _ _ ?_
      refine w_ret ?_
      repeat first | with_reducible refine q_then ?_ | with_reducible refine q_block ?_
      exact ret1 rfl (by decide) ⟨_, _, _, _, hm, rfl, toExt hB193, hS194⟩

theorem m_laws_has_fn {w : World} {a0 : Option Addr} {n0 c0 : Nat} {p0 : List Int} {Q : Bool → Prop} (hp0 : Vw w.heap.size w a0 n0 c0 p0) (p1 : Int) (hm : m_laws_has p0 p1 Q) :
    Fn Try.prog 43 #[.slice a0 n0 c0, .int .i64 p1] w (fun v w' => ∃ (r0 : Bool), Q r0 ∧ v = .bool r0 ∧ Ext w w') := by
  unfold m_laws_has at hm
  have hB0 := Below.refl w.heap.size w
  have hS0 : Sep w w.heap.size [] := Sep.nil (Nat.le_refl _)
  refine fn_of_wp Try.func43 rfl (by kernel_rfl) (Nat.le_of_ble_eq_true rfl) ?_
  refine w_seq fun K1 hK1 => ?_
  refine w_region ?_
  refine wl_val (g_assign (v := .bool false) rfl) rfl ?_
  refine wl_nil ?_
  refine hK1 _ _ ?_
  refine w_cut (σ := Unit) (fun _ => []) (fun _ w' => m_laws_has_K0 Q ∧ Below w.heap.size w w' ∧ Sep w' w.heap.size []) ?_ ?_
  · refine w_seq fun K3 hK3 => ?_
    refine w_region ?_
    refine wl_val (g_assign (v := .int .i64 0) rfl) rfl ?_
    refine wl_nil ?_
    refine hK3 _ _ ?_
    refine w_block ?_
    obtain ⟨I22, μ23, h024, hr25⟩ := hm
    refine w_for (σ := Int) (fun v21 => [(0, .slice a0 n0 c0), (1, .int .i64 p1), (5, .int .i64 v21)]) (fun v21 w' => I22 v21 ∧ Below w.heap.size w w' ∧ Sep w' w.heap.size []) (fun v21 => μ23 v21) (0) ⟨rfl, rfl, rfl, trivial⟩ ⟨h024, hB0, hS0⟩ ?_
    rintro v21 b_ w26 ⟨hi_, hB27, hS28⟩
    show Wp _ _ _ _ (upds b_ [(0, .slice a0 n0 c0), (1, .int .i64 p1), (5, .int .i64 v21)]) w26
    have hm := hr25 v21 hi_
    refine w_seq fun K30 hK30 => ?_
    refine w_seq fun K31 hK31 => ?_
    refine w_region ?_
    refine wl_val (g_move (v := .int .i64 v21) rfl) rfl ?_
    refine wl_val (g_move (v := .slice a0 n0 c0) rfl) rfl ?_
    refine wl_val (q_len SL23 rfl (Vw.len (hp0.bel hB27))) rfl ?_
    refine wl_val (g_lss (a := v21) (b := (p0.length : Int)) rfl rfl) rfl ?_
    refine wl_nil ?_
    refine hK31 _ _ ?_
    refine w_condI (p := v21 < (p0.length : Int)) (b := (decide (v21 < (p0.length : Int)))) rfl decide_eq_true_iff (fun h32 => ?_) (fun h32 => ?_)
    · replace hm := hm.1 h32
      refine w_skip ?_
      refine hK30 _ _ ?_
      refine w_seq fun K33 hK33 => ?_
      refine w_block ?_
      refine w_seq fun K34 hK34 => ?_
      refine w_region ?_
      refine wl_val (g_move (v := .slice a0 n0 c0) rfl) rfl ?_
      refine wl_val (g_move (v := .int .i64 v21) rfl) rfl ?_
      obtain ⟨hg35, hm⟩ := hm
      refine wl_val (q_index (i := v21) SL23 rfl rfl (hp0.bel hB27) hg35) rfl ?_
      refine wl_val (q_load (i := v21) (v := .int .i64 (p0[(Int.toNat v21)]!)) ON3 (hp0.bel hB27) hg35 rfl rfl) rfl ?_
      refine wl_val (g_move (v := .int .i64 p1) rfl) rfl ?_
      refine wl_val (g_eql (a := p0[(Int.toNat v21)]!) (b := p1) rfl rfl) rfl ?_
      refine wl_nil ?_
      refine hK34 _ _ ?_
      refine w_condI (p := p0[(Int.toNat v21)]! = p1) (b := (decide (p0[(Int.toNat v21)]! = p1))) rfl decide_eq_true_iff (fun h36 => ?_) (fun h36 => ?_)
      · replace hm := hm.1 h36
        refine w_seq fun K37 hK37 => ?_
        refine w_region ?_
        refine wl_val (g_assign (v := .bool true) rfl) rfl ?_
        refine wl_nil ?_
        refine hK37 _ _ ?_
        refine w_ret ?_
        repeat first | with_reducible refine q_then ?_ | with_reducible refine q_block ?_
        exact ret1 rfl (by decide) ⟨_, hm, rfl, toExt hB27⟩
      · replace hm := hm.2 h36
        refine w_skip ?_
        refine hK33 _ _ ?_
        refine w_region ?_
        refine wl_val (g_move (v := .int .i64 v21) rfl) rfl ?_
        obtain ⟨hg38, hm⟩ := hm
        refine wl_val (g_add (a := v21) (b := 1) rfl rfl hg38) rfl ?_
        refine wl_val (g_assign (v := .int .i64 (v21 + 1)) rfl) rfl ?_
        refine wl_nil ?_
        exact ⟨((v21 + 1)), hm.2, ⟨rfl, rfl, rfl, trivial⟩, ⟨hm.1, hB27, hS28⟩⟩
    · replace hm := hm.2 h32
      refine w_exit ?_
      exact ⟨(), trivial, ⟨hm, hB27, hS28⟩⟩
  · rintro _ b_ w39 ⟨hm, hB40, hS41⟩
    show Wp _ _ _ _ (upds b_ []) w39
    refine w_seq fun K42 hK42 => ?_
    refine w_region ?_
    refine wl_val (g_assign (v := .bool false) rfl) rfl ?_
    refine wl_nil ?_
    refine hK42 _ _ ?_
    refine w_ret ?_
    repeat first | with_reducible refine q_then ?_ | with_reducible refine q_block ?_
    exact ret1 rfl (by decide) ⟨_, hm, rfl, toExt hB40⟩

end Go.Proofs.Ytddjkiefadiijaa
