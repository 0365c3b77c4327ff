/- The walks: the code does what its model says. Printed by a program (gen2.py). No statement of the claim stands here. -/
import Derived.Test.YtddjkiefadiijaaSop
import Derived.Test.YtddjkiefadiijaaFacts
import Derived.Test.YtddjkiefadiijaaMG
import Derived.Test.YtddjkiefadiijaaWG1
namespace Go.Proofs.Ytddjkiefadiijaa
open Go Go.RowKit
set_option maxRecDepth 100000
theorem m_spec_l15Costs_fn {w : World} {a0 : Option Addr} {n0 c0 : Nat} {y0 : List PlayerD} {p0 : List PlayerC} {a1 : Option Addr} {n1 c1 : Nat} {y1 : List (Hd Int)} {p1 : List (List Int)} {Q : (List (List Int)) → Prop} (hp0 : Tv w.heap.size w a0 n0 c0 y0 p0) (hp1 : Tv w.heap.size w a1 n1 c1 y1 p1) (hm : m_spec_l15Costs p0 p1 Q) :
    Fn Try.prog 75 #[.slice a0 n0 c0, .slice a1 n1 c1] w (fun v w' => ∃ (r0 : List (List Int)) (a0 : Option Addr) (n0 c0 : Nat) (y0 : List (Hd Int)), Q r0 ∧ ers y0 = r0 ∧ v = .slice a0 n0 c0 ∧ Ext w w' ∧ Sep w' w.heap.size [oS 23 a0 n0 c0 y0, oT 3 y0]) := by
  unfold m_spec_l15Costs at hm
  have hB0 := Below.refl w.heap.size w
  have hS0 : Sep w w.heap.size [] := Sep.nil (Nat.le_refl _)
  refine fn_of_wp Try.func75 rfl (by kernel_rfl) (Nat.le_of_ble_eq_true rfl) ?_
  refine w_seq fun K1 hK1 => ?_
  refine w_region ?_
  refine wl_val (g_assign (v := .slice none 0 0) rfl) rfl ?_
  refine wl_nil ?_
  refine hK1 _ _ ?_
  refine w_seq fun K2 hK2 => ?_
  refine w_region ?_
  refine wl_val (g_move (v := .slice a1 n1 c1) rfl) rfl ?_
  refine wl_val (q_len SL37 rfl (Tv.len (hp1.bel hB0))) rfl ?_
  refine wl_val (g_assign (v := .int .i64 (p1.length : Int)) rfl) rfl ?_
  refine wl_nil ?_
  refine hK2 _ _ ?_
  refine w_seq fun K3 hK3 => ?_
  refine w_region ?_
  refine wl_val (g_move (v := .int .i64 (p1.length : Int)) rfl) rfl ?_
  obtain ⟨hg4, hm⟩ := hm
  refine wl_step rfl (q_make (y := ((none, 0, []) : Hd Int)) SL37 rfl rfl hg4.1 hg4.2 (by decide) hS0) ?_
  rintro _ w5 ⟨a6, rfl, hS8, hE7⟩
  have hB10 := hB0.trans (Ext.stp hE7 hS0.base)
  have hS11 := hS8.nilRows (y := ((none, 0, []) : Hd Int)) (E := 3) (fun j hj => by first | rfl | (show (if j = 0 then _ else _) = _; split <;> rfl)) (Int.toNat (p1.length : Int))
  have he13 : ers (List.replicate (Int.toNat (p1.length : Int)) ((none, 0, []) : Hd Int)) = List.replicate (Int.toNat (p1.length : Int)) ([] : List Int) := by simp only [ers, List.map_replicate]; rfl
  refine wl_val (g_assign (v := .slice a6 (Int.toNat (p1.length : Int)) (Int.toNat (p1.length : Int))) rfl) rfl ?_
  refine wl_nil ?_
  refine hK3 _ _ ?_
  refine w_cut (σ := List (List Int) × List (Hd Int)) (fun ⟨x1677, y1678⟩ => [(6, .slice a6 (Int.toNat (p1.length : Int)) (Int.toNat (p1.length : Int)))]) (fun ⟨x1677, y1678⟩ w' => m_spec_l15Costs_K3 Q x1677 ∧ ers y1678 = x1677 ∧ Below w.heap.size w w' ∧ Sep w' w.heap.size [oS 23 a6 (Int.toNat (p1.length : Int)) (Int.toNat (p1.length : Int)) (y1678 : List (Hd Int)), oT 3 (y1678 : List (Hd Int))]) ?_ ?_
  · refine w_seq fun K1681 hK1681 => ?_
    refine w_region ?_
    refine wl_val (g_move (v := .int .i64 (p1.length : Int)) rfl) rfl ?_
    obtain ⟨hg1682, hm⟩ := hm
    refine wl_val (g_sub (a := (p1.length : Int)) (b := 1) rfl rfl hg1682) rfl ?_
    refine wl_val (g_assign (v := .int .i64 ((p1.length : Int) - 1)) rfl) rfl ?_
    refine wl_nil ?_
    refine hK1681 _ _ ?_
    refine w_block ?_
    have hS1687 := hS11.f1
    obtain ⟨I1688, μ1689, h01690, hr1691⟩ := hm
    refine w_for (σ := List (List Int) × List (Hd Int) × Int) (fun ⟨x1683, y1684, v1686⟩ => [(0, .slice a0 n0 c0), (1, .slice a1 n1 c1), (5, .int .i64 (p1.length : Int)), (6, .slice a6 (Int.toNat (p1.length : Int)) (Int.toNat (p1.length : Int))), (7, .int .i64 v1686)]) (fun ⟨x1683, y1684, v1686⟩ w' => I1688 x1683 v1686 ∧ ers y1684 = x1683 ∧ Below w.heap.size w w' ∧ Sep w' w.heap.size [oS 23 a6 (Int.toNat (p1.length : Int)) (Int.toNat (p1.length : Int)) (y1684 : List (Hd Int)), oT 3 (y1684 : List (Hd Int))]) (fun ⟨x1683, y1684, v1686⟩ => μ1689 x1683 v1686) (List.replicate (Int.toNat (p1.length : Int)) ([] : List Int), List.replicate (Int.toNat (p1.length : Int)) ((none, 0, []) : Hd Int), ((p1.length : Int) - 1)) ⟨rfl, rfl, rfl, rfl, rfl, trivial⟩ ⟨h01690, he13, hB10, hS1687⟩ ?_
    rintro ⟨x1683, y1684, v1686⟩ b_ w1692 ⟨hi_, he1685, hB1693, hS1694⟩
    show Wp _ _ _ _ (upds b_ [(0, .slice a0 n0 c0), (1, .slice a1 n1 c1), (5, .int .i64 (p1.length : Int)), (6, .slice a6 (Int.toNat (p1.length : Int)) (Int.toNat (p1.length : Int))), (7, .int .i64 v1686)]) w1692
    have hm := hr1691 x1683 v1686 hi_
    refine w_seq fun K1696 hK1696 => ?_
    refine w_seq fun K1697 hK1697 => ?_
    refine w_region ?_
    refine wl_val (g_move (v := .int .i64 v1686) rfl) rfl ?_
    refine wl_val (g_geq (a := v1686) (b := 0) rfl rfl) rfl ?_
    refine wl_nil ?_
    refine hK1697 _ _ ?_
    refine w_condI (p := v1686 ≥ 0) (b := (decide (v1686 ≥ 0))) rfl decide_eq_true_iff (fun h1698 => ?_) (fun h1698 => ?_)
    · replace hm := hm.1 h1698
      refine w_skip ?_
      refine hK1696 _ _ ?_
      refine w_cut (σ := List (List Int) × List (Hd Int)) (fun ⟨x1699, y1700⟩ => [(0, .slice a0 n0 c0), (1, .slice a1 n1 c1), (5, .int .i64 (p1.length : Int)), (6, .slice a6 (Int.toNat (p1.length : Int)) (Int.toNat (p1.length : Int))), (7, .int .i64 v1686)]) (fun ⟨x1699, y1700⟩ w' => m_spec_l15Costs_K2 v1686 (fun x1683' v1686' => I1688 x1683' v1686' ∧ μ1689 x1683' v1686' < μ1689 x1683 v1686) x1699 ∧ ers y1700 = x1699 ∧ Below w.heap.size w w' ∧ Sep w' w.heap.size [oS 23 a6 (Int.toNat (p1.length : Int)) (Int.toNat (p1.length : Int)) (y1700 : List (Hd Int)), oT 3 (y1700 : List (Hd Int))]) ?_ ?_
      · refine w_block ?_
        refine w_seq fun K1703 hK1703 => ?_
        refine w_region ?_
        refine wl_val (g_move (v := .slice a0 n0 c0) rfl) rfl ?_
        refine wl_val (g_move (v := .slice a1 n1 c1) rfl) rfl ?_
        refine wl_val (g_move (v := .int .i64 v1686) rfl) rfl ?_
        obtain ⟨hg1704, hm⟩ := hm
        refine wl_val (q_index (i := v1686) SL37 rfl rfl (Tv.o (hp1.bel hB1693)) (Tv.g (hp1.bel hB1693) hg1704)) rfl ?_
        refine wl_val (q_load (i := v1686) (v := .slice ((y1[(Int.toNat v1686)]!).1) ((y1[(Int.toNat v1686)]!).2.2.length) ((y1[(Int.toNat v1686)]!).2.1)) ON23 (Tv.o (hp1.bel hB1693)) (Tv.g (hp1.bel hB1693) hg1704) rfl rfl) rfl ?_
        refine wl_step rfl (g_call (vs := #[.slice a0 n0 c0, .slice ((y1[(Int.toNat v1686)]!).1) ((y1[(Int.toNat v1686)]!).2.2.length) ((y1[(Int.toNat v1686)]!).2.1)]) CF26 (args2 rfl rfl) (m_spec_CastingsOf_fn ((hp0.bel hB1693).up hS1694) ((Tv.row (hp1.bel hB1693) hg1704).up hS1694) hm)) ?_
        rintro _ w1705 ⟨r1708, a1709, n1710, c1711, y1712, hm, he1713, rfl, hE1706, hN1707⟩
        have hS1717 := hS1694.call2 hE1706 hN1707
        have hB1718 := hB1693.trans (Ext.stp hE1706 hS1694.base)
        refine wl_val (g_assign (v := .slice a1709 n1710 c1711) rfl) rfl ?_
        refine wl_nil ?_
        refine hK1703 _ _ ?_
        refine w_seq fun K1719 hK1719 => ?_
        refine w_region ?_
        refine wl_val (g_move (v := .slice a6 (Int.toNat (p1.length : Int)) (Int.toNat (p1.length : Int))) rfl) rfl ?_
        refine wl_val (g_move (v := .int .i64 v1686) rfl) rfl ?_
        refine wl_val (g_move (v := .slice a1709 n1710 c1711) rfl) rfl ?_
        refine wl_val (q_len SL37 rfl (Tv.len (oT.vw hS1717.g0 hS1717.g1 he1713))) rfl ?_
        obtain ⟨hg1720, hm⟩ := hm
        refine wl_step rfl (q_make (y := (0 : Int)) SL23 rfl rfl hg1720.1 hg1720.2 (by decide) hS1717) ?_
        rintro _ w1721 ⟨a1722, rfl, hS1724, hE1723⟩
        have hB1726 := hB1718.trans (Ext.stp hE1723 hS1717.base)
        obtain ⟨hg1727, hm⟩ := hm
        refine wl_val (q_index (i := v1686) SL37 rfl rfl (Tv.o (oT.vw hS1724.g3 hS1724.g4 he1685)) (Tv.g (oT.vw hS1724.g3 hS1724.g4 he1685) hg1727)) rfl ?_
        have hn1732 := oS.len hS1724.g0
        have hS1733 := hS1724.oneRow
        have he1731 : ers [((a1722, (Int.toNat (r1708.length : Int)), List.replicate (Int.toNat (r1708.length : Int)) (0 : Int)) : Hd Int)] = [List.replicate (Int.toNat (r1708.length : Int)) (0 : Int)] := rfl
        have hS1735 := hS1733.f4
        have hS1736 := hS1735.f4
        have hS1737 := hS1736.f2
        refine wl_step rfl (q_setT (i := v1686) hS1737 he1685 hg1727 ON23.sz rfl rfl (hd_cells hn1732)) ?_
        rintro _ w1728 ⟨rfl, y1738, he1739, hS1729, hb1730⟩
        have he1740 := he1739.trans (congrArg (List.set _ _) (ers_one he1731))
        have hB1741 := hB1726.trans hb1730
        refine wl_nil ?_
        refine hK1719 _ _ ?_
        refine w_seq fun K1742 hK1742 => ?_
        refine w_region ?_
        refine wl_val (g_assign (v := .int .i64 0) rfl) rfl ?_
        refine wl_nil ?_
        refine hK1742 _ _ ?_
        refine w_block ?_
        obtain ⟨I1747, μ1748, h01749, hr1750⟩ := hm
        refine w_for (σ := List (List Int) × List (Hd Int) × Int) (fun ⟨x1743, y1744, v1746⟩ => [(0, .slice a0 n0 c0), (1, .slice a1 n1 c1), (5, .int .i64 (p1.length : Int)), (6, .slice a6 (Int.toNat (p1.length : Int)) (Int.toNat (p1.length : Int))), (7, .int .i64 v1686), (8, .slice a1709 n1710 c1711), (9, .int .i64 v1746)]) (fun ⟨x1743, y1744, v1746⟩ w' => I1747 x1743 v1746 ∧ ers y1744 = x1743 ∧ Below w.heap.size w w' ∧ Sep w' w.heap.size [oS 23 a6 (Int.toNat (p1.length : Int)) (Int.toNat (p1.length : Int)) (y1744 : List (Hd Int)), oT 3 (y1744 : List (Hd Int)), oS 23 a1709 n1710 c1711 (y1712 : List (Hd Int)), oT 3 (y1712 : List (Hd Int))]) (fun ⟨x1743, y1744, v1746⟩ => μ1748 x1743 v1746) ((x1683.set (Int.toNat v1686) (List.replicate (Int.toNat (r1708.length : Int)) (0 : Int))), y1738, 0) ⟨rfl, rfl, rfl, rfl, rfl, rfl, rfl, trivial⟩ ⟨h01749, he1740, hB1741, hS1729⟩ ?_
        rintro ⟨x1743, y1744, v1746⟩ b_ w1751 ⟨hi_, he1745, hB1752, hS1753⟩
        show Wp _ _ _ _ (upds b_ [(0, .slice a0 n0 c0), (1, .slice a1 n1 c1), (5, .int .i64 (p1.length : Int)), (6, .slice a6 (Int.toNat (p1.length : Int)) (Int.toNat (p1.length : Int))), (7, .int .i64 v1686), (8, .slice a1709 n1710 c1711), (9, .int .i64 v1746)]) w1751
        have hm := hr1750 x1743 v1746 hi_
        refine w_seq fun K1755 hK1755 => ?_
        refine w_seq fun K1756 hK1756 => ?_
        refine w_region ?_
        refine wl_val (g_move (v := .int .i64 v1746) rfl) rfl ?_
        refine wl_val (g_move (v := .slice a1709 n1710 c1711) rfl) rfl ?_
        refine wl_val (q_len SL37 rfl (Tv.len (oT.vw hS1753.g2 hS1753.g3 he1713))) rfl ?_
        refine wl_val (g_lss (a := v1746) (b := (r1708.length : Int)) rfl rfl) rfl ?_
        refine wl_val (g_move (v := .bool (decide (v1746 < (r1708.length : Int)))) rfl) rfl ?_
        refine wl_guard (c := (decide (v1746 < (r1708.length : Int))) = true) (val := .int .i64 v1686) (b := ((decide (v1746 < (r1708.length : Int))) == true)) (gv_some rfl rfl rfl) beq_iff_eq (fun hc1757 => ?_) ?_
        · have hcq11 : v1746 < (r1708.length : Int) := (decide_eq_true_iff.mp hc1757)
          exact g_move (v := .int .i64 v1686) rfl
        refine wl_guard (c := (decide (v1746 < (r1708.length : Int))) = true) (val := .int .i64 (p1.length : Int)) (b := ((decide (v1746 < (r1708.length : Int))) == true)) (gv_some rfl rfl rfl) beq_iff_eq (fun hc1758 => ?_) ?_
        · have hcq11 : v1746 < (r1708.length : Int) := (decide_eq_true_iff.mp hc1758)
          exact g_move (v := .int .i64 (p1.length : Int)) rfl
        obtain ⟨hg1760, hm⟩ := hm
        refine wl_guard (c := (decide (v1746 < (r1708.length : Int))) = true) (val := .int .i64 ((p1.length : Int) - 1)) (b := ((decide (v1746 < (r1708.length : Int))) == true)) (gv_some rfl rfl rfl) beq_iff_eq (fun hc1759 => ?_) ?_
        · have hcq11 : v1746 < (r1708.length : Int) := (decide_eq_true_iff.mp hc1759)
          exact g_sub (a := (p1.length : Int)) (b := 1) (if_pos hc1759) rfl (hg1760 hcq11)
        refine wl_guard (c := (decide (v1746 < (r1708.length : Int))) = true) (val := .bool (decide (v1686 < ((p1.length : Int) - 1)))) (b := ((decide (v1746 < (r1708.length : Int))) == true)) (gv_some rfl rfl rfl) beq_iff_eq (fun hc1761 => ?_) ?_
        · have hcq11 : v1746 < (r1708.length : Int) := (decide_eq_true_iff.mp hc1761)
          exact g_lss (a := v1686) (b := ((p1.length : Int) - 1)) (if_pos hc1761) (if_pos hc1761)
        refine wl_val (g_pick_and (b := (decide (v1746 < (r1708.length : Int)))) (q := (decide (v1686 < ((p1.length : Int) - 1)))) rfl rfl) rfl ?_
        refine wl_nil ?_
        refine hK1756 _ _ ?_
        refine w_condI (p := ((v1746 < (r1708.length : Int)) ∧ (v1686 < ((p1.length : Int) - 1)))) (b := ((decide (v1746 < (r1708.length : Int))) && (decide (v1686 < ((p1.length : Int) - 1))))) rfl (i_and decide_eq_true_iff decide_eq_true_iff) (fun h1762 => ?_) (fun h1762 => ?_)
        · replace hm := hm.1 h1762
          refine w_skip ?_
          refine hK1755 _ _ ?_
          refine w_cut (σ := List (List Int) × List (Hd Int)) (fun ⟨x1763, y1764⟩ => [(0, .slice a0 n0 c0), (1, .slice a1 n1 c1), (5, .int .i64 (p1.length : Int)), (6, .slice a6 (Int.toNat (p1.length : Int)) (Int.toNat (p1.length : Int))), (7, .int .i64 v1686), (8, .slice a1709 n1710 c1711), (9, .int .i64 v1746)]) (fun ⟨x1763, y1764⟩ w' => m_spec_l15Costs_K1 v1746 (fun x1743' v1746' => I1747 x1743' v1746' ∧ μ1748 x1743' v1746' < μ1748 x1743 v1746) x1763 ∧ ers y1764 = x1763 ∧ Below w.heap.size w w' ∧ Sep w' w.heap.size [oS 23 a6 (Int.toNat (p1.length : Int)) (Int.toNat (p1.length : Int)) (y1764 : List (Hd Int)), oT 3 (y1764 : List (Hd Int)), oS 23 a1709 n1710 c1711 (y1712 : List (Hd Int)), oT 3 (y1712 : List (Hd Int))]) ?_ ?_
          · refine w_block ?_
            refine w_seq fun K1767 hK1767 => ?_
            refine w_region ?_
            refine wl_val (g_move (v := .slice a0 n0 c0) rfl) rfl ?_
            refine wl_val (g_move (v := .slice a1 n1 c1) rfl) rfl ?_
            refine wl_val (g_move (v := .int .i64 v1686) rfl) rfl ?_
            obtain ⟨hg1768, hm⟩ := hm
            refine wl_val (g_add (a := v1686) (b := 1) rfl rfl hg1768) rfl ?_
            obtain ⟨hg1769, hm⟩ := hm
            refine wl_val (q_index (i := (v1686 + 1)) SL37 rfl rfl (Tv.o (hp1.bel hB1752)) (Tv.g (hp1.bel hB1752) hg1769)) rfl ?_
            refine wl_val (q_load (i := (v1686 + 1)) (v := .slice ((y1[(Int.toNat (v1686 + 1))]!).1) ((y1[(Int.toNat (v1686 + 1))]!).2.2.length) ((y1[(Int.toNat (v1686 + 1))]!).2.1)) ON23 (Tv.o (hp1.bel hB1752)) (Tv.g (hp1.bel hB1752) hg1769) rfl rfl) rfl ?_
            refine wl_step rfl (g_call (vs := #[.slice a0 n0 c0, .slice ((y1[(Int.toNat (v1686 + 1))]!).1) ((y1[(Int.toNat (v1686 + 1))]!).2.2.length) ((y1[(Int.toNat (v1686 + 1))]!).2.1)]) CF26 (args2 rfl rfl) (m_spec_CastingsOf_fn ((hp0.bel hB1752).up hS1753) ((Tv.row (hp1.bel hB1752) hg1769).up hS1753) hm)) ?_
            rintro _ w1770 ⟨r1773, a1774, n1775, c1776, y1777, hm, he1778, rfl, hE1771, hN1772⟩
            have hS1782 := hS1753.call2 hE1771 hN1772
            have hB1783 := hB1752.trans (Ext.stp hE1771 hS1753.base)
            refine wl_val (g_assign (v := .slice a1774 n1775 c1776) rfl) rfl ?_
            refine wl_nil ?_
            refine hK1767 _ _ ?_
            refine w_seq fun K1784 hK1784 => ?_
            refine w_region ?_
            refine wl_val (g_assign (v := .int .i64 (-1)) rfl) rfl ?_
            refine wl_nil ?_
            refine hK1784 _ _ ?_
            refine w_cut (σ := Int) (fun v1785 => [(0, .slice a0 n0 c0), (1, .slice a1 n1 c1), (5, .int .i64 (p1.length : Int)), (6, .slice a6 (Int.toNat (p1.length : Int)) (Int.toNat (p1.length : Int))), (7, .int .i64 v1686), (8, .slice a1709 n1710 c1711), (9, .int .i64 v1746), (11, .int .i64 v1785)]) (fun v1785 w' => m_spec_l15Costs_K0 v1686 x1743 v1746 (m_spec_l15Costs_K1 v1746 (fun x1743' v1746' => I1747 x1743' v1746' ∧ μ1748 x1743' v1746' < μ1748 x1743 v1746)) v1785 ∧ Below w.heap.size w w' ∧ Sep w' w.heap.size [oS 23 a6 (Int.toNat (p1.length : Int)) (Int.toNat (p1.length : Int)) (y1744 : List (Hd Int)), oT 3 (y1744 : List (Hd Int)), oS 23 a1709 n1710 c1711 (y1712 : List (Hd Int)), oT 3 (y1712 : List (Hd Int))]) ?_ ?_
            · refine w_seq fun K1787 hK1787 => ?_
              refine w_region ?_
              refine wl_val (g_assign (v := .int .i64 0) rfl) rfl ?_
              refine wl_nil ?_
              refine hK1787 _ _ ?_
              refine w_block ?_
              have hS1790 := hS1782.f1
              have hS1791 := hS1790.f1
              have hS1792 := hS1791.f5
              have hS1793 := hS1792.f5
              have hS1794 := hS1793.f5
              have hS1795 := hS1794.f5
              obtain ⟨I1796, μ1797, h01798, hr1799⟩ := hm
              refine w_for (σ := Int × Int) (fun ⟨v1788, v1789⟩ => [(0, .slice a0 n0 c0), (1, .slice a1 n1 c1), (5, .int .i64 (p1.length : Int)), (6, .slice a6 (Int.toNat (p1.length : Int)) (Int.toNat (p1.length : Int))), (7, .int .i64 v1686), (8, .slice a1709 n1710 c1711), (9, .int .i64 v1746), (10, .slice a1774 n1775 c1776), (11, .int .i64 v1788), (12, .int .i64 v1789)]) (fun ⟨v1788, v1789⟩ w' => I1796 v1788 v1789 ∧ Below w.heap.size w w' ∧ Sep w' w.heap.size [oS 23 a6 (Int.toNat (p1.length : Int)) (Int.toNat (p1.length : Int)) (y1744 : List (Hd Int)), oT 3 (y1744 : List (Hd Int)), oS 23 a1709 n1710 c1711 (y1712 : List (Hd Int)), oT 3 (y1712 : List (Hd Int)), oS 23 a1774 n1775 c1776 (y1777 : List (Hd Int)), oT 3 (y1777 : List (Hd Int))]) (fun ⟨v1788, v1789⟩ => μ1797 v1788 v1789) ((-1), 0) ⟨rfl, rfl, rfl, rfl, rfl, rfl, rfl, rfl, rfl, rfl, trivial⟩ ⟨h01798, hB1783, hS1795⟩ ?_
              rintro ⟨v1788, v1789⟩ b_ w1800 ⟨hi_, hB1801, hS1802⟩
              show Wp _ _ _ _ (upds b_ [(0, .slice a0 n0 c0), (1, .slice a1 n1 c1), (5, .int .i64 (p1.length : Int)), (6, .slice a6 (Int.toNat (p1.length : Int)) (Int.toNat (p1.length : Int))), (7, .int .i64 v1686), (8, .slice a1709 n1710 c1711), (9, .int .i64 v1746), (10, .slice a1774 n1775 c1776), (11, .int .i64 v1788), (12, .int .i64 v1789)]) w1800
              have hm := hr1799 v1788 v1789 hi_
              refine w_seq fun K1804 hK1804 => ?_
              refine w_seq fun K1805 hK1805 => ?_
              refine w_region ?_
              refine wl_val (g_move (v := .int .i64 v1789) rfl) rfl ?_
              refine wl_val (g_move (v := .slice a1774 n1775 c1776) rfl) rfl ?_
              refine wl_val (q_len SL37 rfl (Tv.len (oT.vw hS1802.g4 hS1802.g5 he1778))) rfl ?_
              refine wl_val (g_lss (a := v1789) (b := (r1773.length : Int)) rfl rfl) rfl ?_
              refine wl_nil ?_
              refine hK1805 _ _ ?_
              refine w_condI (p := v1789 < (r1773.length : Int)) (b := (decide (v1789 < (r1773.length : Int)))) rfl decide_eq_true_iff (fun h1806 => ?_) (fun h1806 => ?_)
              · replace hm := hm.1 h1806
                refine w_skip ?_
                refine hK1804 _ _ ?_
                refine w_seq fun K1807 hK1807 => ?_
                refine w_block ?_
                refine w_seq fun K1808 hK1808 => ?_
                refine w_seq fun K1809 hK1809 => ?_
                refine w_region ?_
                refine wl_val (g_move (v := .slice a6 (Int.toNat (p1.length : Int)) (Int.toNat (p1.length : Int))) rfl) rfl ?_
                refine wl_val (g_move (v := .int .i64 v1686) rfl) rfl ?_
                obtain ⟨hg1810, hm⟩ := hm
                refine wl_val (g_add (a := v1686) (b := 1) rfl rfl hg1810) rfl ?_
                obtain ⟨hg1811, hm⟩ := hm
                refine wl_val (q_index (i := (v1686 + 1)) SL37 rfl rfl (Tv.o (oT.vw hS1802.g0 hS1802.g1 he1745)) (Tv.g (oT.vw hS1802.g0 hS1802.g1 he1745) hg1811)) rfl ?_
                refine wl_val (q_load (i := (v1686 + 1)) (v := .slice ((y1744[(Int.toNat (v1686 + 1))]!).1) ((y1744[(Int.toNat (v1686 + 1))]!).2.2.length) ((y1744[(Int.toNat (v1686 + 1))]!).2.1)) ON23 (Tv.o (oT.vw hS1802.g0 hS1802.g1 he1745)) (Tv.g (oT.vw hS1802.g0 hS1802.g1 he1745) hg1811) rfl rfl) rfl ?_
                refine wl_val (g_move (v := .int .i64 v1789) rfl) rfl ?_
                obtain ⟨hg1812, hm⟩ := hm
                refine wl_val (q_index (i := v1789) SL23 rfl rfl (Tv.row (oT.vw hS1802.g0 hS1802.g1 he1745) hg1811) hg1812) rfl ?_
                refine wl_val (q_load (i := v1789) (v := .int .i64 ((x1743[(Int.toNat (v1686 + 1))]!)[(Int.toNat v1789)]!)) ON3 (Tv.row (oT.vw hS1802.g0 hS1802.g1 he1745) hg1811) hg1812 rfl rfl) rfl ?_
                refine wl_val (g_lss (a := (x1743[(Int.toNat (v1686 + 1))]!)[(Int.toNat v1789)]!) (b := 0) rfl rfl) rfl ?_
                refine wl_nil ?_
                refine hK1809 _ _ ?_
                refine w_condI (p := (x1743[(Int.toNat (v1686 + 1))]!)[(Int.toNat v1789)]! < 0) (b := (decide ((x1743[(Int.toNat (v1686 + 1))]!)[(Int.toNat v1789)]! < 0))) rfl decide_eq_true_iff (fun h1813 => ?_) (fun h1813 => ?_)
                · replace hm := hm.1 h1813
                  refine w_exit ?_
                  refine hK1807 _ _ ?_
                  refine w_region ?_
                  refine wl_val (g_move (v := .int .i64 v1789) rfl) rfl ?_
                  obtain ⟨hg1814, hm⟩ := hm
                  refine wl_val (g_add (a := v1789) (b := 1) rfl rfl hg1814) rfl ?_
                  refine wl_val (g_assign (v := .int .i64 (v1789 + 1)) rfl) rfl ?_
                  refine wl_nil ?_
                  exact ⟨(v1788, (v1789 + 1)), hm.2, ⟨rfl, rfl, rfl, rfl, rfl, rfl, rfl, rfl, rfl, rfl, trivial⟩, ⟨hm.1, hB1801, hS1802⟩⟩
                · replace hm := hm.2 h1813
                  refine w_skip ?_
                  refine hK1808 _ _ ?_
                  refine w_seq fun K1815 hK1815 => ?_
                  refine w_draw (X := Ext) (Y := Ext) [] MIX (by decide +kernel) rfl Ext.refl (fun _ _ _ => Ext.trans) (fun _ _ _ => Chg.trans) (fun _ _ h => Ext.chg h _) (fun w1816 hE1817 => ?_)
                  have hB1818 := hB1801.trans (Ext.stp hE1817 hS1802.base)
                  have hS1819 := hS1802.ext hE1817
                  refine ⟨.slice a6 (Int.toNat (p1.length : Int)) (Int.toNat (p1.length : Int)), fun w1820 hX1821 => od_plain rfl (by have hS1822 := hS1819.ext hX1821; have hB1823 := hB1818.trans (Ext.stp hX1821 hS1819.base); exact is_ext (g_move (v := .slice a6 (Int.toNat (p1.length : Int)) (Int.toNat (p1.length : Int))) rfl)), ?_⟩
                  refine ⟨.int .i64 v1686, fun w1824 hX1825 => od_plain rfl (by have hS1826 := hS1819.ext hX1825; have hB1827 := hB1818.trans (Ext.stp hX1825 hS1819.base); exact is_ext (g_move (v := .int .i64 v1686) rfl)), ?_⟩
                  obtain ⟨hg1832, hm⟩ := hm
                  refine ⟨.int .i64 (v1686 + 1), fun w1828 hX1829 => od_plain rfl (by have hS1830 := hS1819.ext hX1829; have hB1831 := hB1818.trans (Ext.stp hX1829 hS1819.base); exact is_ext (g_add (a := v1686) (b := 1) rfl rfl hg1832)), ?_⟩
                  obtain ⟨hg1837, hm⟩ := hm
                  refine ⟨.pointer (some ((adr a6).add ((Int.toNat (v1686 + 1)) * El.m (Hd Int)))), fun w1833 hX1834 => od_plain rfl (by have hS1835 := hS1819.ext hX1834; have hB1836 := hB1818.trans (Ext.stp hX1834 hS1819.base); exact is_ext (q_index (i := (v1686 + 1)) SL37 rfl rfl (Tv.o (oT.vw hS1835.g0 hS1835.g1 he1745)) (Tv.g (oT.vw hS1835.g0 hS1835.g1 he1745) hg1837))), ?_⟩
                  refine ⟨.slice ((y1744[(Int.toNat (v1686 + 1))]!).1) ((y1744[(Int.toNat (v1686 + 1))]!).2.2.length) ((y1744[(Int.toNat (v1686 + 1))]!).2.1), fun w1838 hX1839 => od_plain rfl (by have hS1840 := hS1819.ext hX1839; have hB1841 := hB1818.trans (Ext.stp hX1839 hS1819.base); exact is_ext (q_load (i := (v1686 + 1)) (v := .slice ((y1744[(Int.toNat (v1686 + 1))]!).1) ((y1744[(Int.toNat (v1686 + 1))]!).2.2.length) ((y1744[(Int.toNat (v1686 + 1))]!).2.1)) ON23 (Tv.o (oT.vw hS1840.g0 hS1840.g1 he1745)) (Tv.g (oT.vw hS1840.g0 hS1840.g1 he1745) hg1837) rfl rfl)), ?_⟩
                  refine ⟨.int .i64 v1789, fun w1842 hX1843 => od_plain rfl (by have hS1844 := hS1819.ext hX1843; have hB1845 := hB1818.trans (Ext.stp hX1843 hS1819.base); exact is_ext (g_move (v := .int .i64 v1789) rfl)), ?_⟩
                  obtain ⟨hg1850, hm⟩ := hm
                  refine ⟨.pointer (some ((adr ((y1744[(Int.toNat (v1686 + 1))]!).1)).add ((Int.toNat v1789) * El.m Int))), fun w1846 hX1847 => od_plain rfl (by have hS1848 := hS1819.ext hX1847; have hB1849 := hB1818.trans (Ext.stp hX1847 hS1819.base); exact is_ext (q_index (i := v1789) SL23 rfl rfl (Tv.row (oT.vw hS1848.g0 hS1848.g1 he1745) hg1837) hg1850)), ?_⟩
                  refine ⟨.int .i64 ((x1743[(Int.toNat (v1686 + 1))]!)[(Int.toNat v1789)]!), fun w1851 hX1852 => od_plain rfl (by have hS1853 := hS1819.ext hX1852; have hB1854 := hB1818.trans (Ext.stp hX1852 hS1819.base); exact is_ext (q_load (i := v1789) (v := .int .i64 ((x1743[(Int.toNat (v1686 + 1))]!)[(Int.toNat v1789)]!)) ON3 (Tv.row (oT.vw hS1853.g0 hS1853.g1 he1745) hg1837) hg1850 rfl rfl)), ?_⟩
                  refine ⟨.slice a1 n1 c1, fun w1855 hX1856 => od_plain rfl (by have hS1857 := hS1819.ext hX1856; have hB1858 := hB1818.trans (Ext.stp hX1856 hS1819.base); exact is_ext (g_move (v := .slice a1 n1 c1) rfl)), ?_⟩
                  refine ⟨.int .i64 v1686, fun w1859 hX1860 => od_plain rfl (by have hS1861 := hS1819.ext hX1860; have hB1862 := hB1818.trans (Ext.stp hX1860 hS1819.base); exact is_ext (g_move (v := .int .i64 v1686) rfl)), ?_⟩
                  obtain ⟨hg1867, hm⟩ := hm
                  refine ⟨.pointer (some ((adr a1).add ((Int.toNat v1686) * El.m (Hd Int)))), fun w1863 hX1864 => od_plain rfl (by have hS1865 := hS1819.ext hX1864; have hB1866 := hB1818.trans (Ext.stp hX1864 hS1819.base); exact is_ext (q_index (i := v1686) SL37 rfl rfl (Tv.o (hp1.bel hB1866)) (Tv.g (hp1.bel hB1866) hg1867))), ?_⟩
                  refine ⟨.slice ((y1[(Int.toNat v1686)]!).1) ((y1[(Int.toNat v1686)]!).2.2.length) ((y1[(Int.toNat v1686)]!).2.1), fun w1868 hX1869 => od_plain rfl (by have hS1870 := hS1819.ext hX1869; have hB1871 := hB1818.trans (Ext.stp hX1869 hS1819.base); exact is_ext (q_load (i := v1686) (v := .slice ((y1[(Int.toNat v1686)]!).1) ((y1[(Int.toNat v1686)]!).2.2.length) ((y1[(Int.toNat v1686)]!).2.1)) ON23 (Tv.o (hp1.bel hB1871)) (Tv.g (hp1.bel hB1871) hg1867) rfl rfl)), ?_⟩
                  refine ⟨.slice a1709 n1710 c1711, fun w1872 hX1873 => od_plain rfl (by have hS1874 := hS1819.ext hX1873; have hB1875 := hB1818.trans (Ext.stp hX1873 hS1819.base); exact is_ext (g_move (v := .slice a1709 n1710 c1711) rfl)), ?_⟩
                  refine ⟨.int .i64 v1746, fun w1876 hX1877 => od_plain rfl (by have hS1878 := hS1819.ext hX1877; have hB1879 := hB1818.trans (Ext.stp hX1877 hS1819.base); exact is_ext (g_move (v := .int .i64 v1746) rfl)), ?_⟩
                  obtain ⟨hg1884, hm⟩ := hm
                  refine ⟨.pointer (some ((adr a1709).add ((Int.toNat v1746) * El.m (Hd Int)))), fun w1880 hX1881 => od_plain rfl (by have hS1882 := hS1819.ext hX1881; have hB1883 := hB1818.trans (Ext.stp hX1881 hS1819.base); exact is_ext (q_index (i := v1746) SL37 rfl rfl (Tv.o (oT.vw hS1882.g2 hS1882.g3 he1713)) (Tv.g (oT.vw hS1882.g2 hS1882.g3 he1713) hg1884))), ?_⟩
                  refine ⟨.slice ((y1712[(Int.toNat v1746)]!).1) ((y1712[(Int.toNat v1746)]!).2.2.length) ((y1712[(Int.toNat v1746)]!).2.1), fun w1885 hX1886 => od_plain rfl (by have hS1887 := hS1819.ext hX1886; have hB1888 := hB1818.trans (Ext.stp hX1886 hS1819.base); exact is_ext (q_load (i := v1746) (v := .slice ((y1712[(Int.toNat v1746)]!).1) ((y1712[(Int.toNat v1746)]!).2.2.length) ((y1712[(Int.toNat v1746)]!).2.1)) ON23 (Tv.o (oT.vw hS1887.g2 hS1887.g3 he1713)) (Tv.g (oT.vw hS1887.g2 hS1887.g3 he1713) hg1884) rfl rfl)), ?_⟩
                  refine ⟨.slice a1 n1 c1, fun w1889 hX1890 => od_plain rfl (by have hS1891 := hS1819.ext hX1890; have hB1892 := hB1818.trans (Ext.stp hX1890 hS1819.base); exact is_ext (g_move (v := .slice a1 n1 c1) rfl)), ?_⟩
                  refine ⟨.int .i64 v1686, fun w1893 hX1894 => od_plain rfl (by have hS1895 := hS1819.ext hX1894; have hB1896 := hB1818.trans (Ext.stp hX1894 hS1819.base); exact is_ext (g_move (v := .int .i64 v1686) rfl)), ?_⟩
                  obtain ⟨hg1901, hm⟩ := hm
                  refine ⟨.int .i64 (v1686 + 1), fun w1897 hX1898 => od_plain rfl (by have hS1899 := hS1819.ext hX1898; have hB1900 := hB1818.trans (Ext.stp hX1898 hS1819.base); exact is_ext (g_add (a := v1686) (b := 1) rfl rfl hg1901)), ?_⟩
                  obtain ⟨hg1906, hm⟩ := hm
                  refine ⟨.pointer (some ((adr a1).add ((Int.toNat (v1686 + 1)) * El.m (Hd Int)))), fun w1902 hX1903 => od_plain rfl (by have hS1904 := hS1819.ext hX1903; have hB1905 := hB1818.trans (Ext.stp hX1903 hS1819.base); exact is_ext (q_index (i := (v1686 + 1)) SL37 rfl rfl (Tv.o (hp1.bel hB1905)) (Tv.g (hp1.bel hB1905) hg1906))), ?_⟩
                  refine ⟨.slice ((y1[(Int.toNat (v1686 + 1))]!).1) ((y1[(Int.toNat (v1686 + 1))]!).2.2.length) ((y1[(Int.toNat (v1686 + 1))]!).2.1), fun w1907 hX1908 => od_plain rfl (by have hS1909 := hS1819.ext hX1908; have hB1910 := hB1818.trans (Ext.stp hX1908 hS1819.base); exact is_ext (q_load (i := (v1686 + 1)) (v := .slice ((y1[(Int.toNat (v1686 + 1))]!).1) ((y1[(Int.toNat (v1686 + 1))]!).2.2.length) ((y1[(Int.toNat (v1686 + 1))]!).2.1)) ON23 (Tv.o (hp1.bel hB1910)) (Tv.g (hp1.bel hB1910) hg1906) rfl rfl)), ?_⟩
                  refine ⟨.slice a1774 n1775 c1776, fun w1911 hX1912 => od_plain rfl (by have hS1913 := hS1819.ext hX1912; have hB1914 := hB1818.trans (Ext.stp hX1912 hS1819.base); exact is_ext (g_move (v := .slice a1774 n1775 c1776) rfl)), ?_⟩
                  refine ⟨.int .i64 v1789, fun w1915 hX1916 => od_plain rfl (by have hS1917 := hS1819.ext hX1916; have hB1918 := hB1818.trans (Ext.stp hX1916 hS1819.base); exact is_ext (g_move (v := .int .i64 v1789) rfl)), ?_⟩
                  obtain ⟨hg1923, hm⟩ := hm
                  refine ⟨.pointer (some ((adr a1774).add ((Int.toNat v1789) * El.m (Hd Int)))), fun w1919 hX1920 => od_plain rfl (by have hS1921 := hS1819.ext hX1920; have hB1922 := hB1818.trans (Ext.stp hX1920 hS1819.base); exact is_ext (q_index (i := v1789) SL37 rfl rfl (Tv.o (oT.vw hS1921.g4 hS1921.g5 he1778)) (Tv.g (oT.vw hS1921.g4 hS1921.g5 he1778) hg1923))), ?_⟩
                  refine ⟨.slice ((y1777[(Int.toNat v1789)]!).1) ((y1777[(Int.toNat v1789)]!).2.2.length) ((y1777[(Int.toNat v1789)]!).2.1), fun w1924 hX1925 => od_plain rfl (by have hS1926 := hS1819.ext hX1925; have hB1927 := hB1818.trans (Ext.stp hX1925 hS1819.base); exact is_ext (q_load (i := v1789) (v := .slice ((y1777[(Int.toNat v1789)]!).1) ((y1777[(Int.toNat v1789)]!).2.2.length) ((y1777[(Int.toNat v1789)]!).2.1)) ON23 (Tv.o (oT.vw hS1926.g4 hS1926.g5 he1778)) (Tv.g (oT.vw hS1926.g4 hS1926.g5 he1778) hg1923) rfl rfl)), ?_⟩
                  obtain ⟨r1932, hk1933, hm⟩ := hm
                  refine ⟨.int .i64 r1932, fun w1928 hX1929 => od_plain rfl (by have hS1930 := hS1819.ext hX1929; have hB1931 := hB1818.trans (Ext.stp hX1929 hS1819.base); exact (g_call (vs := #[.slice ((y1[(Int.toNat v1686)]!).1) ((y1[(Int.toNat v1686)]!).2.2.length) ((y1[(Int.toNat v1686)]!).2.1), .slice ((y1712[(Int.toNat v1746)]!).1) ((y1712[(Int.toNat v1746)]!).2.2.length) ((y1712[(Int.toNat v1746)]!).2.1), .slice ((y1[(Int.toNat (v1686 + 1))]!).1) ((y1[(Int.toNat (v1686 + 1))]!).2.2.length) ((y1[(Int.toNat (v1686 + 1))]!).2.1), .slice ((y1777[(Int.toNat v1789)]!).1) ((y1777[(Int.toNat v1789)]!).2.2.length) ((y1777[(Int.toNat v1789)]!).2.1)]) CF76 (args4 rfl rfl rfl rfl) ((m_spec_ChangesBetween_fn ((Tv.row (hp1.bel hB1931) hg1867).up hS1930) (Tv.row (oT.vw hS1930.g2 hS1930.g3 he1713) hg1884) ((Tv.row (hp1.bel hB1931) hg1906).up hS1930) (Tv.row (oT.vw hS1930.g4 hS1930.g5 he1778) hg1923) hk1933).mono fun _ _ ⟨_, h1, h2, h3⟩ => ⟨by rw [h2, h1], h3⟩))), ?_⟩
                  obtain ⟨hg1938, hm⟩ := hm
                  refine ⟨.int .i64 ((x1743[(Int.toNat (v1686 + 1))]!)[(Int.toNat v1789)]! + r1932), fun w1934 hX1935 => od_plain rfl (by have hS1936 := hS1819.ext hX1935; have hB1937 := hB1818.trans (Ext.stp hX1935 hS1819.base); exact is_ext (g_add (a := (x1743[(Int.toNat (v1686 + 1))]!)[(Int.toNat v1789)]!) (b := r1932) rfl rfl hg1938)), ?_⟩
                  refine ⟨.int .i64 ((x1743[(Int.toNat (v1686 + 1))]!)[(Int.toNat v1789)]! + r1932), fun w1939 hX1940 => od_plain rfl (by have hS1941 := hS1819.ext hX1940; have hB1942 := hB1818.trans (Ext.stp hX1940 hS1819.base); exact is_ext (g_assign (v := .int .i64 ((x1743[(Int.toNat (v1686 + 1))]!)[(Int.toNat v1789)]! + r1932)) rfl)), ?_⟩
                  intro w1943 hX1944
                  have hB1945 := hB1818.trans (Ext.stp hX1944 hS1819.base)
                  have hS1946 := hS1819.ext hX1944
                  refine hK1815 _ _ ?_
                  refine w_seq fun K1947 hK1947 => ?_
                  refine w_region ?_
                  refine wl_val (g_move (v := .int .i64 v1788) rfl) rfl ?_
                  refine wl_val (g_lss (a := v1788) (b := 0) rfl rfl) rfl ?_
                  refine wl_val (g_move (v := .bool (decide (v1788 < 0))) rfl) rfl ?_
                  refine wl_guard (c := (decide (v1788 < 0)) = false) (val := .int .i64 ((x1743[(Int.toNat (v1686 + 1))]!)[(Int.toNat v1789)]! + r1932)) (b := ((decide (v1788 < 0)) == false)) (gv_some rfl rfl rfl) beq_iff_eq (fun hc1948 => ?_) ?_
                  · have hcq12 : ¬ (v1788 < 0) := (i_neg decide_eq_true_iff hc1948)
                    exact g_move (v := .int .i64 ((x1743[(Int.toNat (v1686 + 1))]!)[(Int.toNat v1789)]! + r1932)) rfl
                  refine wl_guard (c := (decide (v1788 < 0)) = false) (val := .int .i64 v1788) (b := ((decide (v1788 < 0)) == false)) (gv_some rfl rfl rfl) beq_iff_eq (fun hc1949 => ?_) ?_
                  · have hcq12 : ¬ (v1788 < 0) := (i_neg decide_eq_true_iff hc1949)
                    exact g_move (v := .int .i64 v1788) rfl
                  refine wl_guard (c := (decide (v1788 < 0)) = false) (val := .bool (decide (((x1743[(Int.toNat (v1686 + 1))]!)[(Int.toNat v1789)]! + r1932) < v1788))) (b := ((decide (v1788 < 0)) == false)) (gv_some rfl rfl rfl) beq_iff_eq (fun hc1950 => ?_) ?_
                  · have hcq12 : ¬ (v1788 < 0) := (i_neg decide_eq_true_iff hc1950)
                    exact g_lss (a := ((x1743[(Int.toNat (v1686 + 1))]!)[(Int.toNat v1789)]! + r1932)) (b := v1788) (if_pos hc1950) (if_pos hc1950)
                  refine wl_val (g_pick_or (b := (decide (v1788 < 0))) (q := (decide (((x1743[(Int.toNat (v1686 + 1))]!)[(Int.toNat v1789)]! + r1932) < v1788))) rfl rfl) rfl ?_
                  refine wl_nil ?_
                  refine hK1947 _ _ ?_
                  refine w_condI (p := ((v1788 < 0) ∨ (((x1743[(Int.toNat (v1686 + 1))]!)[(Int.toNat v1789)]! + r1932) < v1788))) (b := ((decide (v1788 < 0)) || (decide (((x1743[(Int.toNat (v1686 + 1))]!)[(Int.toNat v1789)]! + r1932) < v1788)))) rfl (i_or decide_eq_true_iff decide_eq_true_iff) (fun h1951 => ?_) (fun h1951 => ?_)
                  · replace hm := hm.1 h1951
                    refine w_region ?_
                    refine wl_val (g_move (v := .int .i64 ((x1743[(Int.toNat (v1686 + 1))]!)[(Int.toNat v1789)]! + r1932)) rfl) rfl ?_
                    refine wl_val (g_assign (v := .int .i64 ((x1743[(Int.toNat (v1686 + 1))]!)[(Int.toNat v1789)]! + r1932)) rfl) rfl ?_
                    refine wl_nil ?_
                    refine hK1807 _ _ ?_
                    refine w_region ?_
                    refine wl_val (g_move (v := .int .i64 v1789) rfl) rfl ?_
                    obtain ⟨hg1952, hm⟩ := hm
                    refine wl_val (g_add (a := v1789) (b := 1) rfl rfl hg1952) rfl ?_
                    refine wl_val (g_assign (v := .int .i64 (v1789 + 1)) rfl) rfl ?_
                    refine wl_nil ?_
                    exact ⟨(((x1743[(Int.toNat (v1686 + 1))]!)[(Int.toNat v1789)]! + r1932), (v1789 + 1)), hm.2, ⟨rfl, rfl, rfl, rfl, rfl, rfl, rfl, rfl, rfl, rfl, trivial⟩, ⟨hm.1, hB1945, hS1946⟩⟩
                  · replace hm := hm.2 h1951
                    refine w_skip ?_
                    refine hK1807 _ _ ?_
                    refine w_region ?_
                    refine wl_val (g_move (v := .int .i64 v1789) rfl) rfl ?_
                    obtain ⟨hg1953, hm⟩ := hm
                    refine wl_val (g_add (a := v1789) (b := 1) rfl rfl hg1953) rfl ?_
                    refine wl_val (g_assign (v := .int .i64 (v1789 + 1)) rfl) rfl ?_
                    refine wl_nil ?_
                    exact ⟨(v1788, (v1789 + 1)), hm.2, ⟨rfl, rfl, rfl, rfl, rfl, rfl, rfl, rfl, rfl, rfl, trivial⟩, ⟨hm.1, hB1945, hS1946⟩⟩
              · replace hm := hm.2 h1806
                refine w_exit ?_
                have hS1954 := hS1802.f4
                have hS1955 := hS1954.tail
                have hS1956 := hS1955.f4
                have hS1957 := hS1956.tail
                exact ⟨(v1788), ⟨rfl, rfl, rfl, rfl, rfl, rfl, rfl, rfl, trivial⟩, ⟨hm, hB1801, hS1957⟩⟩
            · rintro v1785 b_ w1958 ⟨hm, hB1959, hS1960⟩
              show Wp _ _ _ _ (upds b_ [(0, .slice a0 n0 c0), (1, .slice a1 n1 c1), (5, .int .i64 (p1.length : Int)), (6, .slice a6 (Int.toNat (p1.length : Int)) (Int.toNat (p1.length : Int))), (7, .int .i64 v1686), (8, .slice a1709 n1710 c1711), (9, .int .i64 v1746), (11, .int .i64 v1785)]) w1958
              refine w_region ?_
              refine wl_val (g_move (v := .slice a6 (Int.toNat (p1.length : Int)) (Int.toNat (p1.length : Int))) rfl) rfl ?_
              refine wl_val (g_move (v := .int .i64 v1686) rfl) rfl ?_
              obtain ⟨hg1961, hm⟩ := hm
              refine wl_val (q_index (i := v1686) SL37 rfl rfl (Tv.o (oT.vw hS1960.g0 hS1960.g1 he1745)) (Tv.g (oT.vw hS1960.g0 hS1960.g1 he1745) hg1961)) rfl ?_
              refine wl_val (q_load (i := v1686) (v := .slice ((y1744[(Int.toNat v1686)]!).1) ((y1744[(Int.toNat v1686)]!).2.2.length) ((y1744[(Int.toNat v1686)]!).2.1)) ON23 (Tv.o (oT.vw hS1960.g0 hS1960.g1 he1745)) (Tv.g (oT.vw hS1960.g0 hS1960.g1 he1745) hg1961) rfl rfl) rfl ?_
              refine wl_val (g_move (v := .int .i64 v1746) rfl) rfl ?_
              refine wl_val (g_move (v := .int .i64 v1785) rfl) rfl ?_
              obtain ⟨hg1962, hm⟩ := hm
              refine wl_val (q_index (i := v1746) SL23 rfl rfl (Tv.row (oT.vw hS1960.g0 hS1960.g1 he1745) hg1961) hg1962) rfl ?_
              have hS1966 := hS1960.f1
              have hS1967 := hS1966.f1
              refine wl_step rfl (q_row (i := v1686) (k := v1746) (v := (v1785 : Int)) hS1967 he1745 hg1961 hg1962 ON3.sz rfl rfl rfl) ?_
              rintro _ w1963 ⟨rfl, y1968, he1969, hS1964, hb1965⟩
              have hB1970 := hB1959.trans hb1965
              refine wl_nil ?_
              exact ⟨((x1743.set (Int.toNat v1686) (x1743[(Int.toNat v1686)]!.set (Int.toNat v1746) v1785)), y1968), ⟨rfl, rfl, rfl, rfl, rfl, rfl, rfl, trivial⟩, ⟨hm, he1969, hB1970, hS1964⟩⟩
          · rintro ⟨x1763, y1764⟩ b_ w1971 ⟨hm, he1765, hB1972, hS1973⟩
            show Wp _ _ _ _ (upds b_ [(0, .slice a0 n0 c0), (1, .slice a1 n1 c1), (5, .int .i64 (p1.length : Int)), (6, .slice a6 (Int.toNat (p1.length : Int)) (Int.toNat (p1.length : Int))), (7, .int .i64 v1686), (8, .slice a1709 n1710 c1711), (9, .int .i64 v1746)]) w1971
            refine w_region ?_
            refine wl_val (g_move (v := .int .i64 v1746) rfl) rfl ?_
            obtain ⟨hg1974, hm⟩ := hm
            refine wl_val (g_add (a := v1746) (b := 1) rfl rfl hg1974) rfl ?_
            refine wl_val (g_assign (v := .int .i64 (v1746 + 1)) rfl) rfl ?_
            refine wl_nil ?_
            exact ⟨(x1763, y1764, (v1746 + 1)), hm.2, ⟨rfl, rfl, rfl, rfl, rfl, rfl, rfl, trivial⟩, ⟨hm.1, he1765, hB1972, hS1973⟩⟩
        · replace hm := hm.2 h1762
          refine w_exit ?_
          have hS1975 := hS1753.f2
          have hS1976 := hS1975.tail
          have hS1977 := hS1976.f2
          have hS1978 := hS1977.tail
          exact ⟨(x1743, y1744), ⟨rfl, rfl, rfl, rfl, rfl, trivial⟩, ⟨hm, he1745, hB1752, hS1978⟩⟩
      · rintro ⟨x1699, y1700⟩ b_ w1979 ⟨hm, he1701, hB1980, hS1981⟩
        show Wp _ _ _ _ (upds b_ [(0, .slice a0 n0 c0), (1, .slice a1 n1 c1), (5, .int .i64 (p1.length : Int)), (6, .slice a6 (Int.toNat (p1.length : Int)) (Int.toNat (p1.length : Int))), (7, .int .i64 v1686)]) w1979
        refine w_region ?_
        refine wl_val (g_move (v := .int .i64 v1686) rfl) rfl ?_
        obtain ⟨hg1982, hm⟩ := hm
        refine wl_val (g_sub (a := v1686) (b := 1) rfl rfl hg1982) rfl ?_
        refine wl_val (g_assign (v := .int .i64 (v1686 - 1)) rfl) rfl ?_
        refine wl_nil ?_
        exact ⟨(x1699, y1700, (v1686 - 1)), hm.2, ⟨rfl, rfl, rfl, rfl, rfl, trivial⟩, ⟨hm.1, he1701, hB1980, hS1981⟩⟩
    · replace hm := hm.2 h1698
      refine w_exit ?_
      exact ⟨(x1683, y1684), ⟨rfl, trivial⟩, ⟨hm, he1685, hB1693, hS1694⟩⟩
  · rintro ⟨x1677, y1678⟩ b_ w1983 ⟨hm, he1679, hB1984, hS1985⟩
    show Wp _ _ _ _ (upds b_ [(6, .slice a6 (Int.toNat (p1.length : Int)) (Int.toNat (p1.length : Int)))]) w1983
    refine w_seq fun K1986 hK1986 => ?_
    refine w_region ?_
    refine wl_val (g_move (v := .slice a6 (Int.toNat (p1.length : Int)) (Int.toNat (p1.length : Int))) rfl) rfl ?_
    refine wl_val (g_assign (v := .slice a6 (Int.toNat (p1.length : Int)) (Int.toNat (p1.length : Int))) rfl) rfl ?_
    refine wl_nil ?_
    refine hK1986 _ _ ?_
    refine w_ret ?_
    repeat first | with_reducible refine q_then ?_ | with_reducible refine q_block ?_
    exact ret1 rfl (by decide) ⟨_, _, _, _, _, hm, he1679, rfl, toExt hB1984, hS1985⟩

theorem m_spec_FewestChanges_fn {w : World} {a0 : Option Addr} {n0 c0 : Nat} {y0 : List PlayerD} {p0 : List PlayerC} {a1 : Option Addr} {n1 c1 : Nat} {y1 : List (Hd Int)} {p1 : List (List Int)} {Q : Int → Prop} (hp0 : Tv w.heap.size w a0 n0 c0 y0 p0) (hp1 : Tv w.heap.size w a1 n1 c1 y1 p1) (hm : m_spec_FewestChanges p0 p1 Q) :
    Fn Try.prog 32 #[.slice a0 n0 c0, .slice a1 n1 c1] w (fun v w' => ∃ (r0 : Int), Q r0 ∧ v = .int .i64 r0 ∧ Ext w w') := by
  unfold m_spec_FewestChanges at hm
  have hB0 := Below.refl w.heap.size w
  have hS0 : Sep w w.heap.size [] := Sep.nil (Nat.le_refl _)
  refine fn_of_wp Try.func32 rfl (by kernel_rfl) (Nat.le_of_ble_eq_true rfl) ?_
  refine w_seq fun K1 hK1 => ?_
  refine w_region ?_
  refine wl_val (g_assign (v := .int .i64 0) rfl) rfl ?_
  refine wl_nil ?_
  refine hK1 _ _ ?_
  refine w_seq fun K2 hK2 => ?_
  refine w_seq fun K3 hK3 => ?_
  refine w_region ?_
  refine wl_val (g_move (v := .slice a0 n0 c0) rfl) rfl ?_
  refine wl_val (g_move (v := .slice a1 n1 c1) rfl) rfl ?_
  refine wl_step rfl (g_call (vs := #[.slice a0 n0 c0, .slice a1 n1 c1]) CF74 (args2 rfl rfl) (m_spec_NightOk_fn ((hp0.bel hB0).up hS0) ((hp1.bel hB0).up hS0) hm)) ?_
  rintro _ w4 ⟨r7, hm, rfl, hE5⟩
  have hB8 := hB0.trans (Ext.stp hE5 hS0.base)
  have hS9 := hS0.ext hE5
  refine wl_val (g_not (a := r7) rfl) rfl ?_
  refine wl_nil ?_
  refine hK3 _ _ ?_
  refine w_condI (p := ¬ (r7 = true)) (b := (!r7)) rfl (i_not Iff.rfl) (fun h10 => ?_) (fun h10 => ?_)
  · replace hm := hm.1 h10
    refine w_seq fun K11 hK11 => ?_
    refine w_region ?_
    refine wl_val (g_assign (v := .int .i64 (-1)) rfl) rfl ?_
    refine wl_nil ?_
    refine hK11 _ _ ?_
    refine w_ret ?_
    repeat first | with_reducible refine q_then ?_ | with_reducible refine q_block ?_
    exact ret1 rfl (by decide) ⟨_, hm, rfl, toExt hB8⟩
  · replace hm := hm.2 h10
    refine w_skip ?_
    refine hK2 _ _ ?_
    refine w_seq fun K12 hK12 => ?_
    refine w_region ?_
    refine wl_val (g_assign (v := .int .i64 (-1)) rfl) rfl ?_
    refine wl_nil ?_
    refine hK12 _ _ ?_
    refine w_seq fun K13 hK13 => ?_
    refine w_region ?_
    refine wl_val (g_move (v := .slice a0 n0 c0) rfl) rfl ?_
    refine wl_val (g_move (v := .slice a1 n1 c1) rfl) rfl ?_
    refine wl_step rfl (g_call (vs := #[.slice a0 n0 c0, .slice a1 n1 c1]) CF75 (args2 rfl rfl) (m_spec_l15Costs_fn ((hp0.bel hB8).up hS9) ((hp1.bel hB8).up hS9) hm)) ?_
    rintro _ w14 ⟨r17, a18, n19, c20, y21, hm, he22, rfl, hE15, hN16⟩
    have hS26 := hS9.call2 hE15 hN16
    have hB27 := hB8.trans (Ext.stp hE15 hS9.base)
    obtain ⟨hg28, hm⟩ := hm
    refine wl_val (q_index (i := 0) SL37 rfl rfl (Tv.o (oT.vw hS26.g0 hS26.g1 he22)) (Tv.g (oT.vw hS26.g0 hS26.g1 he22) hg28)) rfl ?_
    refine wl_val (q_load (i := 0) (v := .slice ((y21[0]!).1) ((y21[0]!).2.2.length) ((y21[0]!).2.1)) ON23 (Tv.o (oT.vw hS26.g0 hS26.g1 he22)) (Tv.g (oT.vw hS26.g0 hS26.g1 he22) hg28) rfl rfl) rfl ?_
    refine wl_val (g_assign (v := .slice ((y21[0]!).1) ((y21[0]!).2.2.length) ((y21[0]!).2.1)) rfl) rfl ?_
    refine wl_nil ?_
    refine hK13 _ _ ?_
    refine w_cut (σ := Int) (fun v90 => [(5, .int .i64 v90)]) (fun v90 w' => m_spec_FewestChanges_K0 Q v90 ∧ Below w.heap.size w w' ∧ Sep w' w.heap.size []) ?_ ?_
    · refine w_seq fun K92 hK92 => ?_
      refine w_region ?_
      refine wl_val (g_assign (v := .int .i64 0) rfl) rfl ?_
      refine wl_nil ?_
      refine hK92 _ _ ?_
      refine w_block ?_
      obtain ⟨I95, μ96, h097, hr98⟩ := hm
      refine w_for (σ := Int × Int) (fun ⟨v93, v94⟩ => [(5, .int .i64 v93), (6, .slice ((y21[0]!).1) ((y21[0]!).2.2.length) ((y21[0]!).2.1)), (7, .int .i64 v94)]) (fun ⟨v93, v94⟩ w' => I95 v93 v94 ∧ Below w.heap.size w w' ∧ Sep w' w.heap.size [oS 23 a18 n19 c20 (y21 : List (Hd Int)), oT 3 (y21 : List (Hd Int))]) (fun ⟨v93, v94⟩ => μ96 v93 v94) ((-1), 0) ⟨rfl, rfl, rfl, trivial⟩ ⟨h097, hB27, hS26⟩ ?_
      rintro ⟨v93, v94⟩ b_ w99 ⟨hi_, hB100, hS101⟩
      show Wp _ _ _ _ (upds b_ [(5, .int .i64 v93), (6, .slice ((y21[0]!).1) ((y21[0]!).2.2.length) ((y21[0]!).2.1)), (7, .int .i64 v94)]) w99
      have hm := hr98 v93 v94 hi_
      refine w_seq fun K103 hK103 => ?_
      refine w_seq fun K104 hK104 => ?_
      refine w_region ?_
      refine wl_val (g_move (v := .int .i64 v94) rfl) rfl ?_
      refine wl_val (g_move (v := .slice ((y21[0]!).1) ((y21[0]!).2.2.length) ((y21[0]!).2.1)) rfl) rfl ?_
      refine wl_val (q_len SL23 rfl (Vw.len (Tv.row (oT.vw hS101.g0 hS101.g1 he22) hg28))) rfl ?_
      refine wl_val (g_lss (a := v94) (b := ((r17[0]!).length : Int)) rfl rfl) rfl ?_
      refine wl_nil ?_
      refine hK104 _ _ ?_
      refine w_condI (p := v94 < ((r17[0]!).length : Int)) (b := (decide (v94 < ((r17[0]!).length : Int)))) rfl decide_eq_true_iff (fun h105 => ?_) (fun h105 => ?_)
      · replace hm := hm.1 h105
        refine w_skip ?_
        refine hK103 _ _ ?_
        refine w_seq fun K106 hK106 => ?_
        refine w_block ?_
        refine w_seq fun K107 hK107 => ?_
        refine w_region ?_
        refine wl_val (g_move (v := .slice ((y21[0]!).1) ((y21[0]!).2.2.length) ((y21[0]!).2.1)) rfl) rfl ?_
        refine wl_val (g_move (v := .int .i64 v94) rfl) rfl ?_
        obtain ⟨hg108, hm⟩ := hm
        refine wl_val (q_index (i := v94) SL23 rfl rfl (Tv.row (oT.vw hS101.g0 hS101.g1 he22) hg28) hg108) rfl ?_
        refine wl_val (q_load (i := v94) (v := .int .i64 ((r17[0]!)[(Int.toNat v94)]!)) ON3 (Tv.row (oT.vw hS101.g0 hS101.g1 he22) hg28) hg108 rfl rfl) rfl ?_
        refine wl_val (g_geq (a := (r17[0]!)[(Int.toNat v94)]!) (b := 0) rfl rfl) rfl ?_
        refine wl_val (g_move (v := .bool (decide ((r17[0]!)[(Int.toNat v94)]! ≥ 0))) rfl) rfl ?_
        refine wl_guard (c := (decide ((r17[0]!)[(Int.toNat v94)]! ≥ 0)) = true) (val := .int .i64 v93) (b := ((decide ((r17[0]!)[(Int.toNat v94)]! ≥ 0)) == true)) (gv_some rfl rfl rfl) beq_iff_eq (fun hc109 => ?_) ?_
        · have hcq4 : (r17[0]!)[(Int.toNat v94)]! ≥ 0 := (decide_eq_true_iff.mp hc109)
          exact g_move (v := .int .i64 v93) rfl
        refine wl_guard (c := (decide ((r17[0]!)[(Int.toNat v94)]! ≥ 0)) = true) (val := .bool (decide (v93 < 0))) (b := ((decide ((r17[0]!)[(Int.toNat v94)]! ≥ 0)) == true)) (gv_some rfl rfl rfl) beq_iff_eq (fun hc110 => ?_) ?_
        · have hcq4 : (r17[0]!)[(Int.toNat v94)]! ≥ 0 := (decide_eq_true_iff.mp hc110)
          exact g_lss (a := v93) (b := 0) (if_pos hc110) rfl
        refine wl_guard (c := (decide ((r17[0]!)[(Int.toNat v94)]! ≥ 0)) = true) (val := .bool (decide (v93 < 0))) (b := ((decide ((r17[0]!)[(Int.toNat v94)]! ≥ 0)) == true)) (gv_some rfl rfl rfl) beq_iff_eq (fun hc111 => ?_) ?_
        · have hcq4 : (r17[0]!)[(Int.toNat v94)]! ≥ 0 := (decide_eq_true_iff.mp hc111)
          exact g_move (v := .bool (decide (v93 < 0))) (if_pos hc111)
        refine wl_guard (c := ((decide ((r17[0]!)[(Int.toNat v94)]! ≥ 0)) = true) ∧ (decide (v93 < 0)) = false) (val := .slice ((y21[0]!).1) ((y21[0]!).2.2.length) ((y21[0]!).2.1)) (b := decide (((decide ((r17[0]!)[(Int.toNat v94)]! ≥ 0)) = true) ∧ (decide (v93 < 0)) = false)) (gv_gd rfl rfl rfl) decide_eq_true_iff (fun hc112 => ?_) ?_
        · have hcq5 : ((r17[0]!)[(Int.toNat v94)]! ≥ 0) ∧ (¬ (v93 < 0)) := ⟨(decide_eq_true_iff.mp (hc112).1), i_neg decide_eq_true_iff (hc112).2⟩
          have hcq4 := (hcq5).1
          exact g_move (v := .slice ((y21[0]!).1) ((y21[0]!).2.2.length) ((y21[0]!).2.1)) rfl
        refine wl_guard (c := ((decide ((r17[0]!)[(Int.toNat v94)]! ≥ 0)) = true) ∧ (decide (v93 < 0)) = false) (val := .int .i64 v94) (b := decide (((decide ((r17[0]!)[(Int.toNat v94)]! ≥ 0)) = true) ∧ (decide (v93 < 0)) = false)) (gv_gd rfl rfl rfl) decide_eq_true_iff (fun hc113 => ?_) ?_
        · have hcq5 : ((r17[0]!)[(Int.toNat v94)]! ≥ 0) ∧ (¬ (v93 < 0)) := ⟨(decide_eq_true_iff.mp (hc113).1), i_neg decide_eq_true_iff (hc113).2⟩
          have hcq4 := (hcq5).1
          exact g_move (v := .int .i64 v94) rfl
        obtain ⟨hg115, hm⟩ := hm
        refine wl_guard (c := ((decide ((r17[0]!)[(Int.toNat v94)]! ≥ 0)) = true) ∧ (decide (v93 < 0)) = false) (val := .pointer (some ((adr ((y21[0]!).1)).add ((Int.toNat v94) * El.m Int)))) (b := decide (((decide ((r17[0]!)[(Int.toNat v94)]! ≥ 0)) = true) ∧ (decide (v93 < 0)) = false)) (gv_gd rfl rfl rfl) decide_eq_true_iff (fun hc114 => ?_) ?_
        · have hcq5 : ((r17[0]!)[(Int.toNat v94)]! ≥ 0) ∧ (¬ (v93 < 0)) := ⟨(decide_eq_true_iff.mp (hc114).1), i_neg decide_eq_true_iff (hc114).2⟩
          have hcq4 := (hcq5).1
          exact q_index (i := v94) SL23 (if_pos hc114) (if_pos hc114) (Tv.row (oT.vw hS101.g0 hS101.g1 he22) hg28) (hg115 hcq5)
        refine wl_guard (c := ((decide ((r17[0]!)[(Int.toNat v94)]! ≥ 0)) = true) ∧ (decide (v93 < 0)) = false) (val := .int .i64 ((r17[0]!)[(Int.toNat v94)]!)) (b := decide (((decide ((r17[0]!)[(Int.toNat v94)]! ≥ 0)) = true) ∧ (decide (v93 < 0)) = false)) (gv_gd rfl rfl rfl) decide_eq_true_iff (fun hc116 => ?_) ?_
        · have hcq5 : ((r17[0]!)[(Int.toNat v94)]! ≥ 0) ∧ (¬ (v93 < 0)) := ⟨(decide_eq_true_iff.mp (hc116).1), i_neg decide_eq_true_iff (hc116).2⟩
          have hcq4 := (hcq5).1
          exact q_load (i := v94) (v := .int .i64 ((r17[0]!)[(Int.toNat v94)]!)) ON3 (Tv.row (oT.vw hS101.g0 hS101.g1 he22) hg28) (hg115 hcq5) rfl (if_pos hc116)
        refine wl_guard (c := ((decide ((r17[0]!)[(Int.toNat v94)]! ≥ 0)) = true) ∧ (decide (v93 < 0)) = false) (val := .int .i64 v93) (b := decide (((decide ((r17[0]!)[(Int.toNat v94)]! ≥ 0)) = true) ∧ (decide (v93 < 0)) = false)) (gv_gd rfl rfl rfl) decide_eq_true_iff (fun hc117 => ?_) ?_
        · have hcq5 : ((r17[0]!)[(Int.toNat v94)]! ≥ 0) ∧ (¬ (v93 < 0)) := ⟨(decide_eq_true_iff.mp (hc117).1), i_neg decide_eq_true_iff (hc117).2⟩
          have hcq4 := (hcq5).1
          exact g_move (v := .int .i64 v93) rfl
        refine wl_guard (c := ((decide ((r17[0]!)[(Int.toNat v94)]! ≥ 0)) = true) ∧ (decide (v93 < 0)) = false) (val := .bool (decide ((r17[0]!)[(Int.toNat v94)]! < v93))) (b := decide (((decide ((r17[0]!)[(Int.toNat v94)]! ≥ 0)) = true) ∧ (decide (v93 < 0)) = false)) (gv_gd rfl rfl rfl) decide_eq_true_iff (fun hc118 => ?_) ?_
        · have hcq5 : ((r17[0]!)[(Int.toNat v94)]! ≥ 0) ∧ (¬ (v93 < 0)) := ⟨(decide_eq_true_iff.mp (hc118).1), i_neg decide_eq_true_iff (hc118).2⟩
          have hcq4 := (hcq5).1
          exact g_lss (a := (r17[0]!)[(Int.toNat v94)]!) (b := v93) (if_pos hc118) (if_pos hc118)
        refine wl_guard (c := (decide ((r17[0]!)[(Int.toNat v94)]! ≥ 0)) = true) (val := .bool ((decide (v93 < 0)) || (decide ((r17[0]!)[(Int.toNat v94)]! < v93)))) (b := ((decide ((r17[0]!)[(Int.toNat v94)]! ≥ 0)) == true)) (gv_some rfl rfl rfl) beq_iff_eq (fun hc119 => ?_) ?_
        · have hcq4 : (r17[0]!)[(Int.toNat v94)]! ≥ 0 := (decide_eq_true_iff.mp hc119)
          exact g_pick_or (b := (decide (v93 < 0))) (q := (decide ((r17[0]!)[(Int.toNat v94)]! < v93))) (if_pos hc119) (gd_in hc119)
        refine wl_val (g_pick_and (b := (decide ((r17[0]!)[(Int.toNat v94)]! ≥ 0))) (q := ((decide (v93 < 0)) || (decide ((r17[0]!)[(Int.toNat v94)]! < v93)))) rfl rfl) rfl ?_
        refine wl_nil ?_
        refine hK107 _ _ ?_
        refine w_condI (p := (((r17[0]!)[(Int.toNat v94)]! ≥ 0) ∧ (((v93 < 0) ∨ ((r17[0]!)[(Int.toNat v94)]! < v93))))) (b := ((decide ((r17[0]!)[(Int.toNat v94)]! ≥ 0)) && ((decide (v93 < 0)) || (decide ((r17[0]!)[(Int.toNat v94)]! < v93))))) rfl (i_and decide_eq_true_iff (i_or decide_eq_true_iff decide_eq_true_iff)) (fun h120 => ?_) (fun h120 => ?_)
        · replace hm := hm.1 h120
          refine w_region ?_
          refine wl_val (g_move (v := .slice ((y21[0]!).1) ((y21[0]!).2.2.length) ((y21[0]!).2.1)) rfl) rfl ?_
          refine wl_val (g_move (v := .int .i64 v94) rfl) rfl ?_
          obtain ⟨hg121, hm⟩ := hm
          refine wl_val (q_index (i := v94) SL23 rfl rfl (Tv.row (oT.vw hS101.g0 hS101.g1 he22) hg28) hg121) rfl ?_
          refine wl_val (q_load (i := v94) (v := .int .i64 ((r17[0]!)[(Int.toNat v94)]!)) ON3 (Tv.row (oT.vw hS101.g0 hS101.g1 he22) hg28) hg121 rfl rfl) rfl ?_
          refine wl_val (g_assign (v := .int .i64 ((r17[0]!)[(Int.toNat v94)]!)) rfl) rfl ?_
          refine wl_nil ?_
          refine hK106 _ _ ?_
          refine w_region ?_
          refine wl_val (g_move (v := .int .i64 v94) rfl) rfl ?_
          obtain ⟨hg122, hm⟩ := hm
          refine wl_val (g_add (a := v94) (b := 1) rfl rfl hg122) rfl ?_
          refine wl_val (g_assign (v := .int .i64 (v94 + 1)) rfl) rfl ?_
          refine wl_nil ?_
          exact ⟨((r17[0]!)[(Int.toNat v94)]!, (v94 + 1)), hm.2, ⟨rfl, rfl, rfl, trivial⟩, ⟨hm.1, hB100, hS101⟩⟩
        · replace hm := hm.2 h120
          refine w_skip ?_
          refine hK106 _ _ ?_
          refine w_region ?_
          refine wl_val (g_move (v := .int .i64 v94) rfl) rfl ?_
          obtain ⟨hg123, hm⟩ := hm
          refine wl_val (g_add (a := v94) (b := 1) rfl rfl hg123) rfl ?_
          refine wl_val (g_assign (v := .int .i64 (v94 + 1)) rfl) rfl ?_
          refine wl_nil ?_
          exact ⟨(v93, (v94 + 1)), hm.2, ⟨rfl, rfl, rfl, trivial⟩, ⟨hm.1, hB100, hS101⟩⟩
      · replace hm := hm.2 h105
        refine w_exit ?_
        have hS124 := hS101.tail
        have hS125 := hS124.tail
        exact ⟨(v93), ⟨rfl, trivial⟩, ⟨hm, hB100, hS125⟩⟩
    · rintro v90 b_ w126 ⟨hm, hB127, hS128⟩
      show Wp _ _ _ _ (upds b_ [(5, .int .i64 v90)]) w126
      refine w_seq fun K129 hK129 => ?_
      refine w_region ?_
      refine wl_val (g_move (v := .int .i64 v90) rfl) rfl ?_
      refine wl_val (g_assign (v := .int .i64 v90) rfl) rfl ?_
      refine wl_nil ?_
      refine hK129 _ _ ?_
      refine w_ret ?_
      repeat first | with_reducible refine q_then ?_ | with_reducible refine q_block ?_
      exact ret1 rfl (by decide) ⟨_, hm, rfl, toExt hB127⟩

theorem m_impl_within_fn {w : World}  {Q : Bool → Prop} (p0 : Int) (p1 : Int) (p2 : Int) (hm : m_impl_within p0 p1 p2 Q) :
    Fn Try.prog 83 #[.int .i64 p0, .int .i64 p1, .int .i64 p2] w (fun v w' => ∃ (r0 : Bool), Q r0 ∧ v = .bool r0 ∧ Ext w w') := by
  unfold m_impl_within at hm
  have hB0 := Below.refl w.heap.size w
  have hS0 : Sep w w.heap.size [] := Sep.nil (Nat.le_refl _)
  refine fn_of_wp Try.func83 rfl (by kernel_rfl) (Nat.le_of_ble_eq_true rfl) ?_
  refine w_seq fun K1 hK1 => ?_
  refine w_region ?_
  refine wl_val (g_assign (v := .bool false) rfl) rfl ?_
  refine wl_nil ?_
  refine hK1 _ _ ?_
  refine w_seq fun K2 hK2 => ?_
  refine w_region ?_
  refine wl_val (g_move (v := .int .i64 p0) rfl) rfl ?_
  refine wl_val (g_move (v := .int .i64 p1) rfl) rfl ?_
  refine wl_val (g_geq (a := p0) (b := p1) rfl rfl) rfl ?_
  refine wl_val (g_move (v := .bool (decide (p0 ≥ p1))) rfl) rfl ?_
  refine wl_guard (c := (decide (p0 ≥ p1)) = true) (val := .int .i64 p0) (b := ((decide (p0 ≥ p1)) == true)) (gv_some rfl rfl rfl) beq_iff_eq (fun hc3 => ?_) ?_
  · have hcq0 : p0 ≥ p1 := (decide_eq_true_iff.mp hc3)
    exact g_move (v := .int .i64 p0) rfl
  refine wl_guard (c := (decide (p0 ≥ p1)) = true) (val := .int .i64 p2) (b := ((decide (p0 ≥ p1)) == true)) (gv_some rfl rfl rfl) beq_iff_eq (fun hc4 => ?_) ?_
  · have hcq0 : p0 ≥ p1 := (decide_eq_true_iff.mp hc4)
    exact g_move (v := .int .i64 p2) rfl
  refine wl_guard (c := (decide (p0 ≥ p1)) = true) (val := .bool (decide (p0 ≤ p2))) (b := ((decide (p0 ≥ p1)) == true)) (gv_some rfl rfl rfl) beq_iff_eq (fun hc5 => ?_) ?_
  · have hcq0 : p0 ≥ p1 := (decide_eq_true_iff.mp hc5)
    exact g_leq (a := p0) (b := p2) (if_pos hc5) (if_pos hc5)
  refine wl_val (g_pick_and (b := (decide (p0 ≥ p1))) (q := (decide (p0 ≤ p2))) rfl rfl) rfl ?_
  refine wl_val (g_assign (v := .bool ((decide (p0 ≥ p1)) && (decide (p0 ≤ p2)))) rfl) rfl ?_
  refine wl_nil ?_
  refine hK2 _ _ ?_
  refine w_ret ?_
  repeat first | with_reducible refine q_then ?_ | with_reducible refine q_block ?_
  exact ret1 rfl (by decide) ⟨_, hm, rfl, toExt hB0⟩

theorem m_impl_allWithin_fn {w : World} {a0 : Option Addr} {n0 c0 : Nat} {p0 : List Int} {Q : Bool → Prop} (hp0 : Vw w.heap.size w a0 n0 c0 p0) (p1 : Int) (p2 : Int) (hm : m_impl_allWithin p0 p1 p2 Q) :
    Fn Try.prog 96 #[.slice a0 n0 c0, .int .i64 p1, .int .i64 p2] w (fun v w' => ∃ (r0 : Bool), Q r0 ∧ v = .bool r0 ∧ Ext w w') := by
  unfold m_impl_allWithin at hm
  have hB0 := Below.refl w.heap.size w
  have hS0 : Sep w w.heap.size [] := Sep.nil (Nat.le_refl _)
  refine fn_of_wp Try.func96 rfl (by kernel_rfl) (Nat.le_of_ble_eq_true rfl) ?_
  refine w_seq fun K1 hK1 => ?_
  refine w_region ?_
  refine wl_val (g_assign (v := .bool false) rfl) rfl ?_
  refine wl_nil ?_
  refine hK1 _ _ ?_
  refine w_cut (σ := Unit) (fun _ => []) (fun _ w' => m_impl_allWithin_K0 Q ∧ Below w.heap.size w w' ∧ Sep w' w.heap.size []) ?_ ?_
  · refine w_seq fun K3 hK3 => ?_
    refine w_region ?_
    refine wl_val (g_move (v := .slice a0 n0 c0) rfl) rfl ?_
    refine wl_val (q_len SL23 rfl (Vw.len (hp0.bel hB0))) rfl ?_
    refine wl_val (g_move (v := .int .i64 0) rfl) rfl ?_
    refine wl_nil ?_
    refine hK3 _ _ ?_
    refine w_block ?_
    obtain ⟨I29, μ30, h031, hr32⟩ := hm
    refine w_for (σ := Int) (fun v28 => [(1, .int .i64 p1), (2, .int .i64 p2), (9, .slice a0 n0 c0), (10, .int .i64 (p0.length : Int)), (11, .int .i64 v28)]) (fun v28 w' => I29 v28 ∧ Below w.heap.size w w' ∧ Sep w' w.heap.size []) (fun v28 => μ30 v28) (0) ⟨rfl, rfl, rfl, rfl, rfl, trivial⟩ ⟨h031, hB0, hS0⟩ ?_
    rintro v28 b_ w33 ⟨hi_, hB34, hS35⟩
    show Wp _ _ _ _ (upds b_ [(1, .int .i64 p1), (2, .int .i64 p2), (9, .slice a0 n0 c0), (10, .int .i64 (p0.length : Int)), (11, .int .i64 v28)]) w33
    have hm := hr32 v28 hi_
    refine w_seq fun K37 hK37 => ?_
    refine w_region ?_
    refine wl_val (g_lss (a := v28) (b := (p0.length : Int)) rfl rfl) rfl ?_
    refine wl_nil ?_
    refine hK37 _ _ ?_
    refine w_seq fun K38 hK38 => ?_
    refine w_condI (p := v28 < (p0.length : Int)) (b := (decide (v28 < (p0.length : Int)))) rfl decide_eq_true_iff (fun h39 => ?_) (fun h39 => ?_)
    · replace hm := hm.1 h39
      refine w_skip ?_
      refine hK38 _ _ ?_
      refine w_seq fun K40 hK40 => ?_
      refine w_block ?_
      refine w_seq fun K41 hK41 => ?_
      refine w_region ?_
      obtain ⟨hg42, hm⟩ := hm
      refine wl_val (q_index (i := v28) SL23 rfl rfl (hp0.bel hB34) hg42) rfl ?_
      refine wl_val (q_load (i := v28) (v := .int .i64 (p0[(Int.toNat v28)]!)) ON3 (hp0.bel hB34) hg42 rfl rfl) rfl ?_
      refine wl_val (g_assign (v := .int .i64 (p0[(Int.toNat v28)]!)) rfl) rfl ?_
      refine wl_nil ?_
      refine hK41 _ _ ?_
      refine w_seq fun K43 hK43 => ?_
      refine w_region ?_
      refine wl_val (g_move (v := .int .i64 (p0[(Int.toNat v28)]!)) rfl) rfl ?_
      refine wl_val (g_move (v := .int .i64 p1) rfl) rfl ?_
      refine wl_val (g_move (v := .int .i64 p2) rfl) rfl ?_
      refine wl_step rfl (g_call (vs := #[.int .i64 (p0[(Int.toNat v28)]!), .int .i64 p1, .int .i64 p2]) CF83 (args3 rfl rfl rfl) (m_impl_within_fn (p0[(Int.toNat v28)]!) p1 p2 hm)) ?_
      rintro _ w44 ⟨r47, hm, rfl, hE45⟩
      have hB48 := hB34.trans (Ext.stp hE45 hS35.base)
      have hS49 := hS35.ext hE45
      refine wl_val (g_not (a := r47) rfl) rfl ?_
      refine wl_nil ?_
      refine hK43 _ _ ?_
      refine w_condI (p := ¬ (r47 = true)) (b := (!r47)) rfl (i_not Iff.rfl) (fun h50 => ?_) (fun h50 => ?_)
      · replace hm := hm.1 h50
        refine w_seq fun K51 hK51 => ?_
        refine w_region ?_
        refine wl_val (g_assign (v := .bool false) rfl) rfl ?_
        refine wl_nil ?_
        refine hK51 _ _ ?_
        refine w_ret ?_
        repeat first | with_reducible refine q_then ?_ | with_reducible refine q_block ?_
        exact ret1 rfl (by decide) ⟨_, hm, rfl, toExt hB48⟩
      · replace hm := hm.2 h50
        refine w_skip ?_
        refine hK40 _ _ ?_
        refine w_region ?_
        obtain ⟨hg52, hm⟩ := hm
        refine wl_val (g_add (a := v28) (b := 1) rfl rfl hg52) rfl ?_
        refine wl_val (g_move (v := .int .i64 (v28 + 1)) rfl) rfl ?_
        refine wl_nil ?_
        exact ⟨((v28 + 1)), hm.2, ⟨rfl, rfl, rfl, rfl, rfl, trivial⟩, ⟨hm.1, hB48, hS49⟩⟩
    · replace hm := hm.2 h39
      refine w_exit ?_
      exact ⟨(), trivial, ⟨hm, hB34, hS35⟩⟩
  · rintro _ b_ w53 ⟨hm, hB54, hS55⟩
    show Wp _ _ _ _ (upds b_ []) w53
    refine w_seq fun K56 hK56 => ?_
    refine w_region ?_
    refine wl_val (g_assign (v := .bool true) rfl) rfl ?_
    refine wl_nil ?_
    refine hK56 _ _ ?_
    refine w_ret ?_
    repeat first | with_reducible refine q_then ?_ | with_reducible refine q_block ?_
    exact ret1 rfl (by decide) ⟨_, hm, rfl, toExt hB54⟩

theorem m_impl_isStrict_fn {w : World} {a0 : Option Addr} {n0 c0 : Nat} {p0 : List Int} {Q : Bool → Prop} (hp0 : Vw w.heap.size w a0 n0 c0 p0) (p1 : Int) (p2 : Int) (hm : m_impl_isStrict p0 p1 p2 Q) :
    Fn Try.prog 85 #[.slice a0 n0 c0, .int .i64 p1, .int .i64 p2] w (fun v w' => ∃ (r0 : Bool), Q r0 ∧ v = .bool r0 ∧ Ext w w') := by
  unfold m_impl_isStrict at hm
  have hB0 := Below.refl w.heap.size w
  have hS0 : Sep w w.heap.size [] := Sep.nil (Nat.le_refl _)
  refine fn_of_wp Try.func85 rfl (by kernel_rfl) (Nat.le_of_ble_eq_true rfl) ?_
  refine w_seq fun K1 hK1 => ?_
  refine w_region ?_
  refine wl_val (g_assign (v := .bool false) rfl) rfl ?_
  refine wl_nil ?_
  refine hK1 _ _ ?_
  refine w_cut (σ := Unit) (fun _ => [(0, .slice a0 n0 c0), (1, .int .i64 p1), (2, .int .i64 p2)]) (fun _ w' => m_impl_isStrict_K0 p0 p1 p2 Q ∧ Below w.heap.size w w' ∧ Sep w' w.heap.size []) ?_ ?_
  · refine w_seq fun K3 hK3 => ?_
    refine w_region ?_
    refine wl_val (g_move (v := .slice a0 n0 c0) rfl) rfl ?_
    refine wl_val (q_len SL23 rfl (Vw.len (hp0.bel hB0))) rfl ?_
    refine wl_val (g_move (v := .int .i64 0) rfl) rfl ?_
    refine wl_nil ?_
    refine hK3 _ _ ?_
    refine w_block ?_
    obtain ⟨I99, μ100, h0101, hr102⟩ := hm
    refine w_for (σ := Int) (fun v98 => [(0, .slice a0 n0 c0), (1, .int .i64 p1), (2, .int .i64 p2), (9, .int .i64 (p0.length : Int)), (10, .int .i64 v98)]) (fun v98 w' => I99 v98 ∧ Below w.heap.size w w' ∧ Sep w' w.heap.size []) (fun v98 => μ100 v98) (0) ⟨rfl, rfl, rfl, rfl, rfl, trivial⟩ ⟨h0101, hB0, hS0⟩ ?_
    rintro v98 b_ w103 ⟨hi_, hB104, hS105⟩
    show Wp _ _ _ _ (upds b_ [(0, .slice a0 n0 c0), (1, .int .i64 p1), (2, .int .i64 p2), (9, .int .i64 (p0.length : Int)), (10, .int .i64 v98)]) w103
    have hm := hr102 v98 hi_
    refine w_seq fun K107 hK107 => ?_
    refine w_region ?_
    refine wl_val (g_lss (a := v98) (b := (p0.length : Int)) rfl rfl) rfl ?_
    refine wl_nil ?_
    refine hK107 _ _ ?_
    refine w_seq fun K108 hK108 => ?_
    refine w_condI (p := v98 < (p0.length : Int)) (b := (decide (v98 < (p0.length : Int)))) rfl decide_eq_true_iff (fun h109 => ?_) (fun h109 => ?_)
    · replace hm := hm.1 h109
      refine w_skip ?_
      refine hK108 _ _ ?_
      refine w_seq fun K110 hK110 => ?_
      refine w_block ?_
      refine w_seq fun K111 hK111 => ?_
      refine w_region ?_
      refine wl_val (g_move (v := .int .i64 v98) rfl) rfl ?_
      refine wl_val (g_assign (v := .int .i64 v98) rfl) rfl ?_
      refine wl_nil ?_
      refine hK111 _ _ ?_
      refine w_seq fun K112 hK112 => ?_
      refine w_draw (X := Ext) (Y := Ext) [] MIX (by decide +kernel) rfl Ext.refl (fun _ _ _ => Ext.trans) (fun _ _ _ => Chg.trans) (fun _ _ h => Ext.chg h _) (fun w113 hE114 => ?_)
      have hB115 := hB104.trans (Ext.stp hE114 hS105.base)
      have hS116 := hS105.ext hE114
      refine ⟨.int .i64 v98, fun w117 hX118 => od_plain rfl (by have hS119 := hS116.ext hX118; have hB120 := hB115.trans (Ext.stp hX118 hS116.base); exact is_ext (g_move (v := .int .i64 v98) rfl)), ?_⟩
      refine ⟨.bool (decide (v98 > 0)), fun w121 hX122 => od_plain rfl (by have hS123 := hS116.ext hX122; have hB124 := hB115.trans (Ext.stp hX122 hS116.base); exact is_ext (g_gtr (a := v98) (b := 0) rfl rfl)), ?_⟩
      refine ⟨.bool (decide (v98 > 0)), fun w125 hX126 => od_plain rfl (by have hS127 := hS116.ext hX126; have hB128 := hB115.trans (Ext.stp hX126 hS116.base); exact is_ext (g_move (v := .bool (decide (v98 > 0))) rfl)), ?_⟩
      refine ⟨if (decide (v98 > 0)) = true then .slice a0 n0 c0 else undef, fun w129 hX130 => od_guard (c := (decide (v98 > 0)) = true) (val := .slice a0 n0 c0) (b := ((decide (v98 > 0)) == true)) (gv_some rfl rfl rfl) beq_iff_eq (fun hc133 => ?_), ?_⟩
      · have hS131 := hS116.ext hX130
        have hB132 := hB115.trans (Ext.stp hX130 hS116.base)
        have hcq1 : v98 > 0 := (decide_eq_true_iff.mp hc133)
        exact is_ext (g_move (v := .slice a0 n0 c0) rfl)
      refine ⟨if (decide (v98 > 0)) = true then .int .i64 v98 else undef, fun w134 hX135 => od_guard (c := (decide (v98 > 0)) = true) (val := .int .i64 v98) (b := ((decide (v98 > 0)) == true)) (gv_some rfl rfl rfl) beq_iff_eq (fun hc138 => ?_), ?_⟩
      · have hS136 := hS116.ext hX135
        have hB137 := hB115.trans (Ext.stp hX135 hS116.base)
        have hcq1 : v98 > 0 := (decide_eq_true_iff.mp hc138)
        exact is_ext (g_move (v := .int .i64 v98) rfl)
      obtain ⟨hg144, hm⟩ := hm
      refine ⟨if (decide (v98 > 0)) = true then .pointer (some ((adr a0).add ((Int.toNat v98) * El.m Int))) else undef, fun w139 hX140 => od_guard (c := (decide (v98 > 0)) = true) (val := .pointer (some ((adr a0).add ((Int.toNat v98) * El.m Int)))) (b := ((decide (v98 > 0)) == true)) (gv_some rfl rfl rfl) beq_iff_eq (fun hc143 => ?_), ?_⟩
      · have hS141 := hS116.ext hX140
        have hB142 := hB115.trans (Ext.stp hX140 hS116.base)
        have hcq1 : v98 > 0 := (decide_eq_true_iff.mp hc143)
        exact is_ext (q_index (i := v98) SL23 (if_pos hc143) (if_pos hc143) (hp0.bel hB142) (hg144 hcq1))
      refine ⟨if (decide (v98 > 0)) = true then .int .i64 (p0[(Int.toNat v98)]!) else undef, fun w145 hX146 => od_guard (c := (decide (v98 > 0)) = true) (val := .int .i64 (p0[(Int.toNat v98)]!)) (b := ((decide (v98 > 0)) == true)) (gv_some rfl rfl rfl) beq_iff_eq (fun hc149 => ?_), ?_⟩
      · have hS147 := hS116.ext hX146
        have hB148 := hB115.trans (Ext.stp hX146 hS116.base)
        have hcq1 : v98 > 0 := (decide_eq_true_iff.mp hc149)
        exact is_ext (q_load (i := v98) (v := .int .i64 (p0[(Int.toNat v98)]!)) ON3 (hp0.bel hB148) (hg144 hcq1) rfl (if_pos hc149))
      refine ⟨if (decide (v98 > 0)) = true then .slice a0 n0 c0 else undef, fun w150 hX151 => od_guard (c := (decide (v98 > 0)) = true) (val := .slice a0 n0 c0) (b := ((decide (v98 > 0)) == true)) (gv_some rfl rfl rfl) beq_iff_eq (fun hc154 => ?_), ?_⟩
      · have hS152 := hS116.ext hX151
        have hB153 := hB115.trans (Ext.stp hX151 hS116.base)
        have hcq1 : v98 > 0 := (decide_eq_true_iff.mp hc154)
        exact is_ext (g_move (v := .slice a0 n0 c0) rfl)
      refine ⟨if (decide (v98 > 0)) = true then .int .i64 v98 else undef, fun w155 hX156 => od_guard (c := (decide (v98 > 0)) = true) (val := .int .i64 v98) (b := ((decide (v98 > 0)) == true)) (gv_some rfl rfl rfl) beq_iff_eq (fun hc159 => ?_), ?_⟩
      · have hS157 := hS116.ext hX156
        have hB158 := hB115.trans (Ext.stp hX156 hS116.base)
        have hcq1 : v98 > 0 := (decide_eq_true_iff.mp hc159)
        exact is_ext (g_move (v := .int .i64 v98) rfl)
      obtain ⟨hg165, hm⟩ := hm
      refine ⟨if (decide (v98 > 0)) = true then .int .i64 (v98 - 1) else undef, fun w160 hX161 => od_guard (c := (decide (v98 > 0)) = true) (val := .int .i64 (v98 - 1)) (b := ((decide (v98 > 0)) == true)) (gv_some rfl rfl rfl) beq_iff_eq (fun hc164 => ?_), ?_⟩
      · have hS162 := hS116.ext hX161
        have hB163 := hB115.trans (Ext.stp hX161 hS116.base)
        have hcq1 : v98 > 0 := (decide_eq_true_iff.mp hc164)
        exact is_ext (g_sub (a := v98) (b := 1) (if_pos hc164) rfl (hg165 hcq1))
      obtain ⟨hg171, hm⟩ := hm
      refine ⟨if (decide (v98 > 0)) = true then .pointer (some ((adr a0).add ((Int.toNat (v98 - 1)) * El.m Int))) else undef, fun w166 hX167 => od_guard (c := (decide (v98 > 0)) = true) (val := .pointer (some ((adr a0).add ((Int.toNat (v98 - 1)) * El.m Int)))) (b := ((decide (v98 > 0)) == true)) (gv_some rfl rfl rfl) beq_iff_eq (fun hc170 => ?_), ?_⟩
      · have hS168 := hS116.ext hX167
        have hB169 := hB115.trans (Ext.stp hX167 hS116.base)
        have hcq1 : v98 > 0 := (decide_eq_true_iff.mp hc170)
        exact is_ext (q_index (i := (v98 - 1)) SL23 (if_pos hc170) (if_pos hc170) (hp0.bel hB169) (hg171 hcq1))
      refine ⟨if (decide (v98 > 0)) = true then .int .i64 (p0[(Int.toNat (v98 - 1))]!) else undef, fun w172 hX173 => od_guard (c := (decide (v98 > 0)) = true) (val := .int .i64 (p0[(Int.toNat (v98 - 1))]!)) (b := ((decide (v98 > 0)) == true)) (gv_some rfl rfl rfl) beq_iff_eq (fun hc176 => ?_), ?_⟩
      · have hS174 := hS116.ext hX173
        have hB175 := hB115.trans (Ext.stp hX173 hS116.base)
        have hcq1 : v98 > 0 := (decide_eq_true_iff.mp hc176)
        exact is_ext (q_load (i := (v98 - 1)) (v := .int .i64 (p0[(Int.toNat (v98 - 1))]!)) ON3 (hp0.bel hB175) (hg171 hcq1) rfl (if_pos hc176))
      refine ⟨if (decide (v98 > 0)) = true then .bool (decide (p0[(Int.toNat v98)]! ≤ p0[(Int.toNat (v98 - 1))]!)) else undef, fun w177 hX178 => od_guard (c := (decide (v98 > 0)) = true) (val := .bool (decide (p0[(Int.toNat v98)]! ≤ p0[(Int.toNat (v98 - 1))]!))) (b := ((decide (v98 > 0)) == true)) (gv_some rfl rfl rfl) beq_iff_eq (fun hc181 => ?_), ?_⟩
      · have hS179 := hS116.ext hX178
        have hB180 := hB115.trans (Ext.stp hX178 hS116.base)
        have hcq1 : v98 > 0 := (decide_eq_true_iff.mp hc181)
        exact is_ext (g_leq (a := p0[(Int.toNat v98)]!) (b := p0[(Int.toNat (v98 - 1))]!) (if_pos hc181) (if_pos hc181))
      refine ⟨.bool ((decide (v98 > 0)) && (decide (p0[(Int.toNat v98)]! ≤ p0[(Int.toNat (v98 - 1))]!))), fun w182 hX183 => od_plain rfl (by have hS184 := hS116.ext hX183; have hB185 := hB115.trans (Ext.stp hX183 hS116.base); exact is_ext (g_pick_and (b := (decide (v98 > 0))) (q := (decide (p0[(Int.toNat v98)]! ≤ p0[(Int.toNat (v98 - 1))]!))) rfl rfl)), ?_⟩
      intro w186 hX187
      have hB188 := hB115.trans (Ext.stp hX187 hS116.base)
      have hS189 := hS116.ext hX187
      refine hK112 _ _ ?_
      refine w_condI (p := ((v98 > 0) ∧ (p0[(Int.toNat v98)]! ≤ p0[(Int.toNat (v98 - 1))]!))) (b := ((decide (v98 > 0)) && (decide (p0[(Int.toNat v98)]! ≤ p0[(Int.toNat (v98 - 1))]!)))) rfl (i_and decide_eq_true_iff decide_eq_true_iff) (fun h190 => ?_) (fun h190 => ?_)
      · replace hm := hm.1 h190
        refine w_seq fun K191 hK191 => ?_
        refine w_region ?_
        refine wl_val (g_assign (v := .bool false) rfl) rfl ?_
        refine wl_nil ?_
        refine hK191 _ _ ?_
        refine w_ret ?_
        repeat first | with_reducible refine q_then ?_ | with_reducible refine q_block ?_
        exact ret1 rfl (by decide) ⟨_, hm, rfl, toExt hB188⟩
      · replace hm := hm.2 h190
        refine w_skip ?_
        refine hK110 _ _ ?_
        refine w_region ?_
        obtain ⟨hg192, hm⟩ := hm
        refine wl_val (g_add (a := v98) (b := 1) rfl rfl hg192) rfl ?_
        refine wl_val (g_move (v := .int .i64 (v98 + 1)) rfl) rfl ?_
        refine wl_nil ?_
        exact ⟨((v98 + 1)), hm.2, ⟨rfl, rfl, rfl, rfl, rfl, trivial⟩, ⟨hm.1, hB188, hS189⟩⟩
    · replace hm := hm.2 h109
      refine w_exit ?_
      exact ⟨(), ⟨rfl, rfl, rfl, trivial⟩, ⟨hm, hB104, hS105⟩⟩
  · rintro _ b_ w193 ⟨hm, hB194, hS195⟩
    show Wp _ _ _ _ (upds b_ [(0, .slice a0 n0 c0), (1, .int .i64 p1), (2, .int .i64 p2)]) w193
    refine w_seq fun K196 hK196 => ?_
    refine w_region ?_
    refine wl_val (g_move (v := .slice a0 n0 c0) rfl) rfl ?_
    refine wl_val (g_move (v := .int .i64 p1) rfl) rfl ?_
    refine wl_val (g_move (v := .int .i64 p2) rfl) rfl ?_
    refine wl_step rfl (g_call (vs := #[.slice a0 n0 c0, .int .i64 p1, .int .i64 p2]) CF96 (args3 rfl rfl rfl) (m_impl_allWithin_fn ((hp0.bel hB194).up hS195) p1 p2 hm)) ?_
    rintro _ w197 ⟨r200, hm, rfl, hE198⟩
    have hB201 := hB194.trans (Ext.stp hE198 hS195.base)
    have hS202 := hS195.ext hE198
    refine wl_val (g_assign (v := .bool r200) rfl) rfl ?_
    refine wl_nil ?_
    refine hK196 _ _ ?_
    refine w_ret ?_
    repeat first | with_reducible refine q_then ?_ | with_reducible refine q_block ?_
    exact ret1 rfl (by decide) ⟨_, hm, rfl, toExt hB201⟩

theorem m_impl_PlayersOk_fn {w : World} {a0 : Option Addr} {n0 c0 : Nat} {y0 : List PlayerD} {p0 : List PlayerC} {Q : Bool → Prop} (hp0 : Tv w.heap.size w a0 n0 c0 y0 p0) (hm : m_impl_PlayersOk p0 Q) :
    Fn Try.prog 44 #[.slice a0 n0 c0] w (fun v w' => ∃ (r0 : Bool), Q r0 ∧ v = .bool r0 ∧ Ext w w') := by
  unfold m_impl_PlayersOk at hm
  have hB0 := Below.refl w.heap.size w
  have hS0 : Sep w w.heap.size [] := Sep.nil (Nat.le_refl _)
  refine fn_of_wp Try.func44 rfl (by kernel_rfl) (Nat.le_of_ble_eq_true rfl) ?_
  refine w_seq fun K1 hK1 => ?_
  refine w_region ?_
  refine wl_val (g_assign (v := .bool false) rfl) rfl ?_
  refine wl_nil ?_
  refine hK1 _ _ ?_
  refine w_cut (σ := Unit) (fun _ => [(0, .slice a0 n0 c0)]) (fun _ w' => m_impl_PlayersOk_K0 p0 Q ∧ Below w.heap.size w w' ∧ Sep w' w.heap.size []) ?_ ?_
  · refine w_seq fun K3 hK3 => ?_
    refine w_region ?_
    refine wl_val (g_move (v := .slice a0 n0 c0) rfl) rfl ?_
    refine wl_val (q_len SL27 rfl (Tv.len (hp0.bel hB0))) rfl ?_
    refine wl_val (g_move (v := .int .i64 0) rfl) rfl ?_
    refine wl_nil ?_
    refine hK3 _ _ ?_
    refine w_block ?_
    obtain ⟨I49, μ50, h051, hr52⟩ := hm
    refine w_for (σ := Int) (fun v48 => [(0, .slice a0 n0 c0), (5, .slice a0 n0 c0), (6, .int .i64 (p0.length : Int)), (7, .int .i64 v48)]) (fun v48 w' => I49 v48 ∧ Below w.heap.size w w' ∧ Sep w' w.heap.size []) (fun v48 => μ50 v48) (0) ⟨rfl, rfl, rfl, rfl, trivial⟩ ⟨h051, hB0, hS0⟩ ?_
    rintro v48 b_ w53 ⟨hi_, hB54, hS55⟩
    show Wp _ _ _ _ (upds b_ [(0, .slice a0 n0 c0), (5, .slice a0 n0 c0), (6, .int .i64 (p0.length : Int)), (7, .int .i64 v48)]) w53
    have hm := hr52 v48 hi_
    refine w_seq fun K57 hK57 => ?_
    refine w_region ?_
    refine wl_val (g_lss (a := v48) (b := (p0.length : Int)) rfl rfl) rfl ?_
    refine wl_nil ?_
    refine hK57 _ _ ?_
    refine w_seq fun K58 hK58 => ?_
    refine w_condI (p := v48 < (p0.length : Int)) (b := (decide (v48 < (p0.length : Int)))) rfl decide_eq_true_iff (fun h59 => ?_) (fun h59 => ?_)
    · replace hm := hm.1 h59
      refine w_skip ?_
      refine hK58 _ _ ?_
      refine w_seq fun K60 hK60 => ?_
      refine w_block ?_
      refine w_seq fun K61 hK61 => ?_
      refine w_region ?_
      obtain ⟨hg62, hm⟩ := hm
      refine wl_val (q_index (i := v48) SL27 rfl rfl (Tv.o (hp0.bel hB54)) (Tv.g (hp0.bel hB54) hg62)) rfl ?_
      refine wl_val (q_loadS (i := v48) (cs := [.slice ((y0[(Int.toNat v48)]!).1.1) ((y0[(Int.toNat v48)]!).1.2.2.length) ((y0[(Int.toNat v48)]!).1.2.1), .int .i64 (p0[(Int.toNat v48)]!.2)]) AG54 (Tv.o (hp0.bel hB54)) (Tv.g (hp0.bel hB54) hg62) (by rw [← Tv.free (hp0.bel hB54) hg62]; rfl) rfl) rfl ?_
      refine wl_step rfl (q_alloc (cs := #[.slice none 0 0, .int .i64 0]) ZR54 rfl hS55) ?_
      rintro _ w63 ⟨g64, rfl, hS66, hE65⟩
      have hB68 := hB54.trans (Ext.stp hE65 hS55.base)
      refine wl_step rfl (q_storeB (i := 0) (bs' := #[.slice ((y0[(Int.toNat v48)]!).1.1) ((y0[(Int.toNat v48)]!).1.2.2.length) ((y0[(Int.toNat v48)]!).1.2.1), .int .i64 (p0[(Int.toNat v48)]!.2)]) (vs := [.slice ((y0[(Int.toNat v48)]!).1.1) ((y0[(Int.toNat v48)]!).1.2.2.length) ((y0[(Int.toNat v48)]!).1.2.1), .int .i64 (p0[(Int.toNat v48)]!.2)]) hS66 AG54.sz rfl rfl rfl (by simp [Value.oneCell']) (Nat.le_of_ble_eq_true rfl) rfl) ?_
      rintro _ w69 ⟨rfl, hS70, hb71⟩
      have hB72 := hB68.trans hb71
      refine wl_nil ?_
      refine hK61 _ _ ?_
      refine w_seq fun K73 hK73 => ?_
      refine w_region ?_
      refine wl_val (g_fieldAddr (q := (⟨g64, 0, none⟩ : Addr)) FL54_0 ON23 rfl) rfl ?_
      refine wl_val (q_loadB (i := 0) (bs := #[.slice ((y0[(Int.toNat v48)]!).1.1) ((y0[(Int.toNat v48)]!).1.2.2.length) ((y0[(Int.toNat v48)]!).1.2.1), .int .i64 (p0[(Int.toNat v48)]!.2)]) hS70.g0 ON23 rfl rfl) rfl ?_
      refine wl_step rfl (g_call (vs := #[.slice ((y0[(Int.toNat v48)]!).1.1) ((y0[(Int.toNat v48)]!).1.2.2.length) ((y0[(Int.toNat v48)]!).1.2.1), .int .i64 0, .int .i64 6]) CF85 (args3 rfl rfl rfl) (m_impl_isStrict_fn ((Tv.rowP (hp0.bel hB72) hg62).up hS70) 0 6 hm)) ?_
      rintro _ w74 ⟨r77, hm, rfl, hE75⟩
      have hB78 := hB72.trans (Ext.stp hE75 hS70.base)
      have hS79 := hS70.ext hE75
      refine wl_val (g_not (a := r77) rfl) rfl ?_
      refine wl_val (g_move (v := .bool (!r77)) rfl) rfl ?_
      refine wl_guard (c := (!r77) = false) (val := .pointer (some (((⟨g64, 0, none⟩ : Addr)).add 1))) (b := ((!r77) == false)) (gv_some rfl rfl rfl) beq_iff_eq (fun hc80 => ?_) ?_
      · have hcq1 : ¬ (¬ (r77 = true)) := (i_neg (i_not Iff.rfl) hc80)
        exact g_fieldAddr (q := (⟨g64, 0, none⟩ : Addr)) FL54_1 ON3 rfl
      refine wl_guard (c := (!r77) = false) (val := .int .i64 (p0[(Int.toNat v48)]!.2)) (b := ((!r77) == false)) (gv_some rfl rfl rfl) beq_iff_eq (fun hc81 => ?_) ?_
      · have hcq1 : ¬ (¬ (r77 = true)) := (i_neg (i_not Iff.rfl) hc81)
        exact q_loadB (i := 1) (bs := #[.slice ((y0[(Int.toNat v48)]!).1.1) ((y0[(Int.toNat v48)]!).1.2.2.length) ((y0[(Int.toNat v48)]!).1.2.1), .int .i64 (p0[(Int.toNat v48)]!.2)]) hS79.g0 ON3 (if_pos hc81) rfl
      obtain ⟨r83, hk84, hm⟩ := hm
      refine wl_guardE (X := Ext) (c := (!r77) = false) (val := .bool r83) (Ext.refl _) (b := ((!r77) == false)) (gv_some rfl rfl rfl) beq_iff_eq (fun hc82 => ?_) (fun w85 hE86 => ?_)
      · have hcq1 : ¬ (¬ (r77 = true)) := (i_neg (i_not Iff.rfl) hc82)
        exact (g_call (vs := #[.int .i64 (p0[(Int.toNat v48)]!.2), .int .i64 0, .int .i64 2]) CF83 (args3 (if_pos hc82) rfl rfl) ((m_impl_within_fn (p0[(Int.toNat v48)]!.2) 0 2 (hk84 hcq1)).mono fun _ _ ⟨_, h1, h2, h3⟩ => ⟨by rw [h2, h1], h3⟩))
      have hB87 := hB78.trans (Ext.stp hE86 hS79.base)
      have hS88 := hS79.ext hE86
      refine wl_guard (c := (!r77) = false) (val := .bool (!r83)) (b := ((!r77) == false)) (gv_some rfl rfl rfl) beq_iff_eq (fun hc89 => ?_) ?_
      · have hcq1 : ¬ (¬ (r77 = true)) := (i_neg (i_not Iff.rfl) hc89)
        exact g_not (a := r83) (if_pos hc89)
      refine wl_val (g_pick_or (b := (!r77)) (q := (!r83)) rfl rfl) rfl ?_
      refine wl_nil ?_
      refine hK73 _ _ ?_
      refine w_condI (p := ((¬ (r77 = true)) ∨ (¬ (r83 = true)))) (b := ((!r77) || (!r83))) rfl (i_or (i_not Iff.rfl) (i_not Iff.rfl)) (fun h90 => ?_) (fun h90 => ?_)
      · replace hm := hm.1 h90
        refine w_seq fun K91 hK91 => ?_
        refine w_region ?_
        refine wl_val (g_assign (v := .bool false) rfl) rfl ?_
        refine wl_nil ?_
        refine hK91 _ _ ?_
        refine w_ret ?_
        repeat first | with_reducible refine q_then ?_ | with_reducible refine q_block ?_
        exact ret1 rfl (by decide) ⟨_, hm, rfl, toExt hB87⟩
      · replace hm := hm.2 h90
        refine w_skip ?_
        refine hK60 _ _ ?_
        refine w_region ?_
        obtain ⟨hg92, hm⟩ := hm
        refine wl_val (g_add (a := v48) (b := 1) rfl rfl hg92) rfl ?_
        refine wl_val (g_move (v := .int .i64 (v48 + 1)) rfl) rfl ?_
        refine wl_nil ?_
        have hS93 := hS88.tail
        exact ⟨((v48 + 1)), hm.2, ⟨rfl, rfl, rfl, rfl, trivial⟩, ⟨hm.1, hB87, hS93⟩⟩
    · replace hm := hm.2 h59
      refine w_exit ?_
      exact ⟨(), ⟨rfl, trivial⟩, ⟨hm, hB54, hS55⟩⟩
  · rintro _ b_ w94 ⟨hm, hB95, hS96⟩
    show Wp _ _ _ _ (upds b_ [(0, .slice a0 n0 c0)]) w94
    refine w_seq fun K97 hK97 => ?_
    refine w_region ?_
    refine wl_val (g_move (v := .slice a0 n0 c0) rfl) rfl ?_
    refine wl_val (q_len SL27 rfl (Tv.len (hp0.bel hB95))) rfl ?_
    refine wl_step rfl (g_call (vs := #[.int .i64 (p0.length : Int), .int .i64 1, .int .i64 6]) CF83 (args3 rfl rfl rfl) (m_impl_within_fn (p0.length : Int) 1 6 hm)) ?_
    rintro _ w98 ⟨r101, hm, rfl, hE99⟩
    have hB102 := hB95.trans (Ext.stp hE99 hS96.base)
    have hS103 := hS96.ext hE99
    refine wl_val (g_assign (v := .bool r101) rfl) rfl ?_
    refine wl_nil ?_
    refine hK97 _ _ ?_
    refine w_ret ?_
    repeat first | with_reducible refine q_then ?_ | with_reducible refine q_block ?_
    exact ret1 rfl (by decide) ⟨_, hm, rfl, toExt hB102⟩

theorem m_impl_arePuppets_fn {w : World} {a0 : Option Addr} {n0 c0 : Nat} {p0 : List Int} {Q : Bool → Prop} (hp0 : Vw w.heap.size w a0 n0 c0 p0) (hm : m_impl_arePuppets p0 Q) :
    Fn Try.prog 61 #[.slice a0 n0 c0] w (fun v w' => ∃ (r0 : Bool), Q r0 ∧ v = .bool r0 ∧ Ext w w') := by
  unfold m_impl_arePuppets at hm
  have hB0 := Below.refl w.heap.size w
  have hS0 : Sep w w.heap.size [] := Sep.nil (Nat.le_refl _)
  refine fn_of_wp Try.func61 rfl (by kernel_rfl) (Nat.le_of_ble_eq_true rfl) ?_
  refine w_seq fun K1 hK1 => ?_
  refine w_region ?_
  refine wl_val (g_assign (v := .bool false) rfl) rfl ?_
  refine wl_nil ?_
  refine hK1 _ _ ?_
  refine w_seq fun K2 hK2 => ?_
  refine w_region ?_
  refine wl_val (g_move (v := .slice a0 n0 c0) rfl) rfl ?_
  refine wl_step rfl (g_call (vs := #[.slice a0 n0 c0, .int .i64 0, .int .i64 6]) CF85 (args3 rfl rfl rfl) (m_impl_isStrict_fn ((hp0.bel hB0).up hS0) 0 6 hm)) ?_
  rintro _ w3 ⟨r6, hm, rfl, hE4⟩
  have hB7 := hB0.trans (Ext.stp hE4 hS0.base)
  have hS8 := hS0.ext hE4
  refine wl_val (g_assign (v := .bool r6) rfl) rfl ?_
  refine wl_nil ?_
  refine hK2 _ _ ?_
  refine w_ret ?_
  repeat first | with_reducible refine q_then ?_ | with_reducible refine q_block ?_
  exact ret1 rfl (by decide) ⟨_, hm, rfl, toExt hB7⟩

theorem m_impl_NightOk_fn {w : World} {a0 : Option Addr} {n0 c0 : Nat} {y0 : List PlayerD} {p0 : List PlayerC} {a1 : Option Addr} {n1 c1 : Nat} {y1 : List (Hd Int)} {p1 : List (List Int)} {Q : Bool → Prop} (hp0 : Tv w.heap.size w a0 n0 c0 y0 p0) (hp1 : Tv w.heap.size w a1 n1 c1 y1 p1) (hm : m_impl_NightOk p0 p1 Q) :
    Fn Try.prog 54 #[.slice a0 n0 c0, .slice a1 n1 c1] w (fun v w' => ∃ (r0 : Bool), Q r0 ∧ v = .bool r0 ∧ Ext w w') := by
  unfold m_impl_NightOk at hm
  have hB0 := Below.refl w.heap.size w
  have hS0 : Sep w w.heap.size [] := Sep.nil (Nat.le_refl _)
  refine fn_of_wp Try.func54 rfl (by kernel_rfl) (Nat.le_of_ble_eq_true rfl) ?_
  refine w_seq fun K1 hK1 => ?_
  refine w_region ?_
  refine wl_val (g_assign (v := .bool false) rfl) rfl ?_
  refine wl_nil ?_
  refine hK1 _ _ ?_
  refine w_seq fun K2 hK2 => ?_
  refine w_seq fun K3 hK3 => ?_
  refine w_region ?_
  refine wl_val (g_move (v := .slice a0 n0 c0) rfl) rfl ?_
  refine wl_step rfl (g_call (vs := #[.slice a0 n0 c0]) CF44 (args1 rfl) (m_impl_PlayersOk_fn ((hp0.bel hB0).up hS0) hm)) ?_
  rintro _ w4 ⟨r7, hm, rfl, hE5⟩
  have hB8 := hB0.trans (Ext.stp hE5 hS0.base)
  have hS9 := hS0.ext hE5
  refine wl_val (g_not (a := r7) rfl) rfl ?_
  refine wl_val (g_move (v := .bool (!r7)) rfl) rfl ?_
  refine wl_guard (c := (!r7) = false) (val := .slice a1 n1 c1) (b := ((!r7) == false)) (gv_some rfl rfl rfl) beq_iff_eq (fun hc10 => ?_) ?_
  · have hcq0 : ¬ (¬ (r7 = true)) := (i_neg (i_not Iff.rfl) hc10)
    exact g_move (v := .slice a1 n1 c1) rfl
  refine wl_guard (c := (!r7) = false) (val := .int .i64 (p1.length : Int)) (b := ((!r7) == false)) (gv_some rfl rfl rfl) beq_iff_eq (fun hc11 => ?_) ?_
  · have hcq0 : ¬ (¬ (r7 = true)) := (i_neg (i_not Iff.rfl) hc11)
    exact q_len SL37 (if_pos hc11) (Tv.len (hp1.bel hB8))
  obtain ⟨r13, hk14, hm⟩ := hm
  refine wl_guardE (X := Ext) (c := (!r7) = false) (val := .bool r13) (Ext.refl _) (b := ((!r7) == false)) (gv_some rfl rfl rfl) beq_iff_eq (fun hc12 => ?_) (fun w15 hE16 => ?_)
  · have hcq0 : ¬ (¬ (r7 = true)) := (i_neg (i_not Iff.rfl) hc12)
    exact (g_call (vs := #[.int .i64 (p1.length : Int), .int .i64 1, .int .i64 6]) CF83 (args3 (if_pos hc12) rfl rfl) ((m_impl_within_fn (p1.length : Int) 1 6 (hk14 hcq0)).mono fun _ _ ⟨_, h1, h2, h3⟩ => ⟨by rw [h2, h1], h3⟩))
  have hB17 := hB8.trans (Ext.stp hE16 hS9.base)
  have hS18 := hS9.ext hE16
  refine wl_guard (c := (!r7) = false) (val := .bool (!r13)) (b := ((!r7) == false)) (gv_some rfl rfl rfl) beq_iff_eq (fun hc19 => ?_) ?_
  · have hcq0 : ¬ (¬ (r7 = true)) := (i_neg (i_not Iff.rfl) hc19)
    exact g_not (a := r13) (if_pos hc19)
  refine wl_val (g_pick_or (b := (!r7)) (q := (!r13)) rfl rfl) rfl ?_
  refine wl_nil ?_
  refine hK3 _ _ ?_
  refine w_condI (p := ((¬ (r7 = true)) ∨ (¬ (r13 = true)))) (b := ((!r7) || (!r13))) rfl (i_or (i_not Iff.rfl) (i_not Iff.rfl)) (fun h20 => ?_) (fun h20 => ?_)
  · replace hm := hm.1 h20
    refine w_seq fun K21 hK21 => ?_
    refine w_region ?_
    refine wl_val (g_assign (v := .bool false) rfl) rfl ?_
    refine wl_nil ?_
    refine hK21 _ _ ?_
    refine w_ret ?_
    repeat first | with_reducible refine q_then ?_ | with_reducible refine q_block ?_
    exact ret1 rfl (by decide) ⟨_, hm, rfl, toExt hB17⟩
  · replace hm := hm.2 h20
    refine w_skip ?_
    refine hK2 _ _ ?_
    refine w_cut (σ := Unit) (fun _ => []) (fun _ w' => m_impl_NightOk_K0 Q ∧ Below w.heap.size w w' ∧ Sep w' w.heap.size []) ?_ ?_
    · refine w_seq fun K23 hK23 => ?_
      refine w_region ?_
      refine wl_val (g_move (v := .slice a1 n1 c1) rfl) rfl ?_
      refine wl_val (q_len SL37 rfl (Tv.len (hp1.bel hB17))) rfl ?_
      refine wl_val (g_move (v := .int .i64 0) rfl) rfl ?_
      refine wl_nil ?_
      refine hK23 _ _ ?_
      refine w_block ?_
      obtain ⟨I52, μ53, h054, hr55⟩ := hm
      refine w_for (σ := Int) (fun v51 => [(16, .slice a1 n1 c1), (17, .int .i64 (p1.length : Int)), (18, .int .i64 v51)]) (fun v51 w' => I52 v51 ∧ Below w.heap.size w w' ∧ Sep w' w.heap.size []) (fun v51 => μ53 v51) (0) ⟨rfl, rfl, rfl, trivial⟩ ⟨h054, hB17, hS18⟩ ?_
      rintro v51 b_ w56 ⟨hi_, hB57, hS58⟩
      show Wp _ _ _ _ (upds b_ [(16, .slice a1 n1 c1), (17, .int .i64 (p1.length : Int)), (18, .int .i64 v51)]) w56
      have hm := hr55 v51 hi_
      refine w_seq fun K60 hK60 => ?_
      refine w_region ?_
      refine wl_val (g_lss (a := v51) (b := (p1.length : Int)) rfl rfl) rfl ?_
      refine wl_nil ?_
      refine hK60 _ _ ?_
      refine w_seq fun K61 hK61 => ?_
      refine w_condI (p := v51 < (p1.length : Int)) (b := (decide (v51 < (p1.length : Int)))) rfl decide_eq_true_iff (fun h62 => ?_) (fun h62 => ?_)
      · replace hm := hm.1 h62
        refine w_skip ?_
        refine hK61 _ _ ?_
        refine w_seq fun K63 hK63 => ?_
        refine w_block ?_
        refine w_seq fun K64 hK64 => ?_
        refine w_region ?_
        obtain ⟨hg65, hm⟩ := hm
        refine wl_val (q_index (i := v51) SL37 rfl rfl (Tv.o (hp1.bel hB57)) (Tv.g (hp1.bel hB57) hg65)) rfl ?_
        refine wl_val (q_load (i := v51) (v := .slice ((y1[(Int.toNat v51)]!).1) ((y1[(Int.toNat v51)]!).2.2.length) ((y1[(Int.toNat v51)]!).2.1)) ON23 (Tv.o (hp1.bel hB57)) (Tv.g (hp1.bel hB57) hg65) rfl rfl) rfl ?_
        refine wl_val (g_assign (v := .slice ((y1[(Int.toNat v51)]!).1) ((y1[(Int.toNat v51)]!).2.2.length) ((y1[(Int.toNat v51)]!).2.1)) rfl) rfl ?_
        refine wl_nil ?_
        refine hK64 _ _ ?_
        refine w_seq fun K66 hK66 => ?_
        refine w_region ?_
        refine wl_val (g_move (v := .slice ((y1[(Int.toNat v51)]!).1) ((y1[(Int.toNat v51)]!).2.2.length) ((y1[(Int.toNat v51)]!).2.1)) rfl) rfl ?_
        refine wl_val (q_len SL23 rfl (Vw.len (Tv.row (hp1.bel hB57) hg65))) rfl ?_
        refine wl_val (g_gtr (a := ((p1[(Int.toNat v51)]!).length : Int)) (b := 4) rfl rfl) rfl ?_
        refine wl_val (g_move (v := .bool (decide (((p1[(Int.toNat v51)]!).length : Int) > 4))) rfl) rfl ?_
        refine wl_guard (c := (decide (((p1[(Int.toNat v51)]!).length : Int) > 4)) = false) (val := .slice ((y1[(Int.toNat v51)]!).1) ((y1[(Int.toNat v51)]!).2.2.length) ((y1[(Int.toNat v51)]!).2.1)) (b := ((decide (((p1[(Int.toNat v51)]!).length : Int) > 4)) == false)) (gv_some rfl rfl rfl) beq_iff_eq (fun hc67 => ?_) ?_
        · have hcq2 : ¬ (((p1[(Int.toNat v51)]!).length : Int) > 4) := (i_neg decide_eq_true_iff hc67)
          exact g_move (v := .slice ((y1[(Int.toNat v51)]!).1) ((y1[(Int.toNat v51)]!).2.2.length) ((y1[(Int.toNat v51)]!).2.1)) rfl
        obtain ⟨r69, hk70, hm⟩ := hm
        refine wl_guardE (X := Ext) (c := (decide (((p1[(Int.toNat v51)]!).length : Int) > 4)) = false) (val := .bool r69) (Ext.refl _) (b := ((decide (((p1[(Int.toNat v51)]!).length : Int) > 4)) == false)) (gv_some rfl rfl rfl) beq_iff_eq (fun hc68 => ?_) (fun w71 hE72 => ?_)
        · have hcq2 : ¬ (((p1[(Int.toNat v51)]!).length : Int) > 4) := (i_neg decide_eq_true_iff hc68)
          exact (g_call (vs := #[.slice ((y1[(Int.toNat v51)]!).1) ((y1[(Int.toNat v51)]!).2.2.length) ((y1[(Int.toNat v51)]!).2.1)]) CF61 (args1 (if_pos hc68)) ((m_impl_arePuppets_fn ((Tv.row (hp1.bel hB57) hg65).up hS58) (hk70 hcq2)).mono fun _ _ ⟨_, h1, h2, h3⟩ => ⟨by rw [h2, h1], h3⟩))
        have hB73 := hB57.trans (Ext.stp hE72 hS58.base)
        have hS74 := hS58.ext hE72
        refine wl_guard (c := (decide (((p1[(Int.toNat v51)]!).length : Int) > 4)) = false) (val := .bool (!r69)) (b := ((decide (((p1[(Int.toNat v51)]!).length : Int) > 4)) == false)) (gv_some rfl rfl rfl) beq_iff_eq (fun hc75 => ?_) ?_
        · have hcq2 : ¬ (((p1[(Int.toNat v51)]!).length : Int) > 4) := (i_neg decide_eq_true_iff hc75)
          exact g_not (a := r69) (if_pos hc75)
        refine wl_val (g_pick_or (b := (decide (((p1[(Int.toNat v51)]!).length : Int) > 4))) (q := (!r69)) rfl rfl) rfl ?_
        refine wl_nil ?_
        refine hK66 _ _ ?_
        refine w_condI (p := ((((p1[(Int.toNat v51)]!).length : Int) > 4) ∨ (¬ (r69 = true)))) (b := ((decide (((p1[(Int.toNat v51)]!).length : Int) > 4)) || (!r69))) rfl (i_or decide_eq_true_iff (i_not Iff.rfl)) (fun h76 => ?_) (fun h76 => ?_)
        · replace hm := hm.1 h76
          refine w_seq fun K77 hK77 => ?_
          refine w_region ?_
          refine wl_val (g_assign (v := .bool false) rfl) rfl ?_
          refine wl_nil ?_
          refine hK77 _ _ ?_
          refine w_ret ?_
          repeat first | with_reducible refine q_then ?_ | with_reducible refine q_block ?_
          exact ret1 rfl (by decide) ⟨_, hm, rfl, toExt hB73⟩
        · replace hm := hm.2 h76
          refine w_skip ?_
          refine hK63 _ _ ?_
          refine w_region ?_
          obtain ⟨hg78, hm⟩ := hm
          refine wl_val (g_add (a := v51) (b := 1) rfl rfl hg78) rfl ?_
          refine wl_val (g_move (v := .int .i64 (v51 + 1)) rfl) rfl ?_
          refine wl_nil ?_
          exact ⟨((v51 + 1)), hm.2, ⟨rfl, rfl, rfl, trivial⟩, ⟨hm.1, hB73, hS74⟩⟩
      · replace hm := hm.2 h62
        refine w_exit ?_
        exact ⟨(), trivial, ⟨hm, hB57, hS58⟩⟩
    · rintro _ b_ w79 ⟨hm, hB80, hS81⟩
      show Wp _ _ _ _ (upds b_ []) w79
      refine w_seq fun K82 hK82 => ?_
      refine w_region ?_
      refine wl_val (g_assign (v := .bool true) rfl) rfl ?_
      refine wl_nil ?_
      refine hK82 _ _ ?_
      refine w_ret ?_
      repeat first | with_reducible refine q_then ?_ | with_reducible refine q_block ?_
      exact ret1 rfl (by decide) ⟨_, hm, rfl, toExt hB80⟩

theorem m_impl_CastingsOf_1_fn {w : World} {B_ : Nat} {L_ : List Ob} {a0 : Option Addr} {n0 c0 : Nat} {p0 : List Int} {gq0 : Nat} {aq0 : Option Addr} {nq0 cq0 : Nat} {q0 : List (List Int)} {yq0 : List (Hd Int)} {Q : Bool → (List (List Int)) → Prop} (hS0 : Sep w B_ (oS 3 a0 n0 c0 (p0 : List Int) :: oB gq0 37 #[.slice aq0 nq0 cq0] :: oS 23 aq0 nq0 cq0 (yq0 : List (Hd Int)) :: oT 3 (yq0 : List (Hd Int)) :: L_)) (heq0 : ers yq0 = q0) (hm : m_impl_CastingsOf_1 p0 q0 Q) :
    Fn Try.prog 72 #[.slice a0 n0 c0, .pointer (some (⟨gq0, 0, none⟩ : Addr))] w (fun v w' => ∃ (r0 : Bool) (x0 : List (List Int)) (aa0 : Option Addr) (nn0 cc0 : Nat) (yy0 : List (Hd Int)), Q r0 x0 ∧ ers yy0 = x0 ∧ v = .bool r0 ∧ Below B_ w w' ∧ Sep w' B_ (oB gq0 37 #[.slice aa0 nn0 cc0] :: oS 23 aa0 nn0 cc0 yy0 :: oT 3 yy0 :: L_)) := by
  unfold m_impl_CastingsOf_1 at hm
  have hB0 := Below.refl B_ w
  refine fn_of_wp Try.func72 rfl (by kernel_rfl) (Nat.le_of_ble_eq_true rfl) ?_
  refine w_seq fun K6 hK6 => ?_
  refine w_region ?_
  refine wl_val (g_assign (v := .bool false) rfl) rfl ?_
  refine wl_nil ?_
  refine hK6 _ _ ?_
  refine w_seq fun K7 hK7 => ?_
  refine w_region ?_
  refine wl_val (q_loadB (i := 0) (bs := #[.slice aq0 nq0 cq0]) hS0.g1 ON37 rfl rfl) rfl ?_
  refine wl_val (g_move (v := .slice a0 n0 c0) rfl) rfl ?_
  have hn13 := oS.len hS0.g0
  have hS14 := hS0.oneRow
  have he12 : ers [((a0, c0, p0) : Hd Int)] = [p0] := rfl
  refine wl_step rfl (q_lit1 (y := ((a0, c0, p0) : Hd Int)) SL37 rfl (hd_cells hn13) (by decide) hS14) ?_
  rintro _ w8 ⟨a9, rfl, hS11, hE10⟩
  have hB17 := hB0.trans (Ext.stp hE10 hS14.base)
  have hS24 := hS11.f3
  obtain ⟨hg25, hm⟩ := hm
  have hl26 : (yq0).length + ([(a0, c0, p0)]).length ≤ 1099511627776 := by have h1 := congrArg List.length heq0; have h2 := congrArg List.length he12; have h3 := hg25; simp only [ers, List.length_map, List.length_append, List.length_cons, List.length_nil, List.length_replicate, List.length_set] at h1 h2 h3 ⊢; omega
  refine wl_step rfl (q_append SL37 rfl rfl hS24 (oS.vw hS24.g1) hl26 (by decide)) ?_
  rintro _ w19 ⟨a20, c21, rfl, hS23, hb22⟩
  have hB27 := hB17.trans hb22
  have hS28 := hS23.f1
  have hS29 := hS28.tail
  have hS30 := hS29.f3
  have hS31 := hS30.f2
  have hS32 := hS31.catRows
  have he33 : ers (yq0 ++ ([(a0, c0, p0)])) = (q0 ++ ([p0])) := by rw [← heq0, ← he12]; exact List.map_append
  have hS37 := hS32.f2
  refine wl_step rfl (q_storeB (i := 0) (bs' := #[.slice a20 (nq0 + 1) c21]) (vs := [.slice a20 (nq0 + 1) c21]) hS37 ON37.sz rfl rfl rfl (by simp [Value.oneCell']) (Nat.le_of_ble_eq_true rfl) rfl) ?_
  rintro _ w34 ⟨rfl, hS35, hb36⟩
  have hB38 := hB27.trans hb36
  refine wl_nil ?_
  refine hK7 _ _ ?_
  refine w_seq fun K39 hK39 => ?_
  refine w_region ?_
  refine wl_val (g_assign (v := .bool true) rfl) rfl ?_
  refine wl_nil ?_
  refine hK39 _ _ ?_
  refine w_ret ?_
  have hS40 := hS35.f1
  have hS41 := hS40.f2
  have hS42 := hS41.f2
  repeat first | with_reducible refine q_then ?_ | with_reducible refine q_block ?_
  exact ret1 rfl (by decide) ⟨_, _, _, _, _, _, hm, he33, rfl, hB38, hS42⟩

theorem m_impl_copyOf_fn {w : World} {a0 : Option Addr} {n0 c0 : Nat} {p0 : List Int} {Q : (List Int) → Prop} (hp0 : Vw w.heap.size w a0 n0 c0 p0) (hm : m_impl_copyOf p0 Q) :
    Fn Try.prog 79 #[.slice a0 n0 c0] w (fun v w' => ∃ (r0 : List Int) (a0 : Option Addr) (n0 c0 : Nat), Q r0 ∧ v = .slice a0 n0 c0 ∧ Ext w w' ∧ Sep w' w.heap.size [oS 3 a0 n0 c0 r0]) := by
  unfold m_impl_copyOf at hm
  have hB0 := Below.refl w.heap.size w
  have hS0 : Sep w w.heap.size [] := Sep.nil (Nat.le_refl _)
  refine fn_of_wp Try.func79 rfl (by kernel_rfl) (Nat.le_of_ble_eq_true rfl) ?_
  refine w_seq fun K1 hK1 => ?_
  refine w_region ?_
  refine wl_val (g_assign (v := .slice none 0 0) rfl) rfl ?_
  refine wl_nil ?_
  refine hK1 _ _ ?_
  refine w_seq fun K2 hK2 => ?_
  refine w_region ?_
  refine wl_step rfl (q_lit0 (α := Int) rfl SL23 hS0) ?_
  rintro _ w3 ⟨a4, rfl, hS6, hE5⟩
  have hB8 := hB0.trans (Ext.stp hE5 hS0.base)
  refine wl_val (g_move (v := .slice a0 n0 c0) rfl) rfl ?_
  obtain ⟨hg14, hm⟩ := hm
  refine wl_step rfl (q_append SL23 rfl rfl hS6 (hp0.bel hB8) hg14 (by decide)) ?_
  rintro _ w9 ⟨a10, c11, rfl, hS13, hb12⟩
  have hB15 := hB8.trans hb12
  refine wl_val (g_assign (v := .slice a10 (0 + n0) c11) rfl) rfl ?_
  refine wl_nil ?_
  refine hK2 _ _ ?_
  refine w_ret ?_
  repeat first | with_reducible refine q_then ?_ | with_reducible refine q_block ?_
  exact ret1 rfl (by decide) ⟨_, _, _, _, hm, rfl, toExt hB15, hS13⟩

theorem m_impl_indexOf_fn {w : World} {a0 : Option Addr} {n0 c0 : Nat} {p0 : List Int} {Q : Int → Prop} (hp0 : Vw w.heap.size w a0 n0 c0 p0) (p1 : Int) (hm : m_impl_indexOf p0 p1 Q) :
    Fn Try.prog 84 #[.slice a0 n0 c0, .int .i64 p1] w (fun v w' => ∃ (r0 : Int), Q r0 ∧ v = .int .i64 r0 ∧ Ext w w') := by
  unfold m_impl_indexOf at hm
  have hB0 := Below.refl w.heap.size w
  have hS0 : Sep w w.heap.size [] := Sep.nil (Nat.le_refl _)
  refine fn_of_wp Try.func84 rfl (by kernel_rfl) (Nat.le_of_ble_eq_true rfl) ?_
  refine w_seq fun K1 hK1 => ?_
  refine w_region ?_
  refine wl_val (g_assign (v := .int .i64 0) rfl) rfl ?_
  refine wl_nil ?_
  refine hK1 _ _ ?_
  refine w_cut (σ := Unit) (fun _ => []) (fun _ w' => m_impl_indexOf_K0 Q ∧ Below w.heap.size w w' ∧ Sep w' w.heap.size []) ?_ ?_
  · refine w_seq fun K3 hK3 => ?_
    refine w_region ?_
    refine wl_val (g_move (v := .slice a0 n0 c0) rfl) rfl ?_
    refine wl_val (q_len SL23 rfl (Vw.len (hp0.bel hB0))) rfl ?_
    refine wl_val (g_move (v := .int .i64 0) rfl) rfl ?_
    refine wl_nil ?_
    refine hK3 _ _ ?_
    refine w_block ?_
    obtain ⟨I23, μ24, h025, hr26⟩ := hm
    refine w_for (σ := Int) (fun v22 => [(1, .int .i64 p1), (7, .slice a0 n0 c0), (8, .int .i64 (p0.length : Int)), (9, .int .i64 v22)]) (fun v22 w' => I23 v22 ∧ Below w.heap.size w w' ∧ Sep w' w.heap.size []) (fun v22 => μ24 v22) (0) ⟨rfl, rfl, rfl, rfl, trivial⟩ ⟨h025, hB0, hS0⟩ ?_
    rintro v22 b_ w27 ⟨hi_, hB28, hS29⟩
    show Wp _ _ _ _ (upds b_ [(1, .int .i64 p1), (7, .slice a0 n0 c0), (8, .int .i64 (p0.length : Int)), (9, .int .i64 v22)]) w27
    have hm := hr26 v22 hi_
    refine w_seq fun K31 hK31 => ?_
    refine w_region ?_
    refine wl_val (g_lss (a := v22) (b := (p0.length : Int)) rfl rfl) rfl ?_
    refine wl_nil ?_
    refine hK31 _ _ ?_
    refine w_seq fun K32 hK32 => ?_
    refine w_condI (p := v22 < (p0.length : Int)) (b := (decide (v22 < (p0.length : Int)))) rfl decide_eq_true_iff (fun h33 => ?_) (fun h33 => ?_)
    · replace hm := hm.1 h33
      refine w_skip ?_
      refine hK32 _ _ ?_
      refine w_seq fun K34 hK34 => ?_
      refine w_block ?_
      refine w_seq fun K35 hK35 => ?_
      refine w_region ?_
      refine wl_val (g_move (v := .int .i64 v22) rfl) rfl ?_
      obtain ⟨hg36, hm⟩ := hm
      refine wl_val (q_index (i := v22) SL23 rfl rfl (hp0.bel hB28) hg36) rfl ?_
      refine wl_val (q_load (i := v22) (v := .int .i64 (p0[(Int.toNat v22)]!)) ON3 (hp0.bel hB28) hg36 rfl rfl) rfl ?_
      refine wl_val (g_assign (v := .int .i64 v22) rfl) rfl ?_
      refine wl_val (g_assign (v := .int .i64 (p0[(Int.toNat v22)]!)) rfl) rfl ?_
      refine wl_nil ?_
      refine hK35 _ _ ?_
      refine w_seq fun K37 hK37 => ?_
      refine w_region ?_
      refine wl_val (g_move (v := .int .i64 (p0[(Int.toNat v22)]!)) rfl) rfl ?_
      refine wl_val (g_move (v := .int .i64 p1) rfl) rfl ?_
      refine wl_val (g_eql (a := p0[(Int.toNat v22)]!) (b := p1) rfl rfl) rfl ?_
      refine wl_nil ?_
      refine hK37 _ _ ?_
      refine w_condI (p := p0[(Int.toNat v22)]! = p1) (b := (decide (p0[(Int.toNat v22)]! = p1))) rfl decide_eq_true_iff (fun h38 => ?_) (fun h38 => ?_)
      · replace hm := hm.1 h38
        refine w_seq fun K39 hK39 => ?_
        refine w_region ?_
        refine wl_val (g_move (v := .int .i64 v22) rfl) rfl ?_
        refine wl_val (g_assign (v := .int .i64 v22) rfl) rfl ?_
        refine wl_nil ?_
        refine hK39 _ _ ?_
        refine w_ret ?_
        repeat first | with_reducible refine q_then ?_ | with_reducible refine q_block ?_
        exact ret1 rfl (by decide) ⟨_, hm, rfl, toExt hB28⟩
      · replace hm := hm.2 h38
        refine w_skip ?_
        refine hK34 _ _ ?_
        refine w_region ?_
        obtain ⟨hg40, hm⟩ := hm
        refine wl_val (g_add (a := v22) (b := 1) rfl rfl hg40) rfl ?_
        refine wl_val (g_move (v := .int .i64 (v22 + 1)) rfl) rfl ?_
        refine wl_nil ?_
        exact ⟨((v22 + 1)), hm.2, ⟨rfl, rfl, rfl, rfl, trivial⟩, ⟨hm.1, hB28, hS29⟩⟩
    · replace hm := hm.2 h33
      refine w_exit ?_
      exact ⟨(), trivial, ⟨hm, hB28, hS29⟩⟩
  · rintro _ b_ w41 ⟨hm, hB42, hS43⟩
    show Wp _ _ _ _ (upds b_ []) w41
    refine w_seq fun K44 hK44 => ?_
    refine w_region ?_
    refine wl_val (g_assign (v := .int .i64 (-1)) rfl) rfl ?_
    refine wl_nil ?_
    refine hK44 _ _ ?_
    refine w_ret ?_
    repeat first | with_reducible refine q_then ?_ | with_reducible refine q_block ?_
    exact ret1 rfl (by decide) ⟨_, hm, rfl, toExt hB42⟩

theorem m_impl_castings_1_CastingsOf_1_step_fn {rec_ : (List Int) → (List Int) → (List PlayerC) → (List Int) → (List (List Int)) → (Bool → (List Int) → (List Int) → (List (List Int)) → Prop) → Prop} (ih : ∀ {w : World} {B_ : Nat} {L_ : List Ob} {gq0 : Nat} {aq0 : Option Addr} {nq0 cq0 : Nat} {q0 : List Int} {gq1 : Nat} {aq1 : Option Addr} {nq1 cq1 : Nat} {q1 : List Int} {gq2 : Nat} {gq3 : Nat} {aq3 : Option Addr} {nq3 cq3 : Nat} {yq3 : List PlayerD} {q3 : List PlayerC} {gq4 : Nat} {aq4 : Option Addr} {nq4 cq4 : Nat} {q4 : List Int} {gq5 : Nat} {gq2_0 : Nat} {aq2_0 : Option Addr} {nq2_0 cq2_0 : Nat} {q2_0 : List (List Int)} {yq2_0 : List (Hd Int)} {Q : Bool → (List Int) → (List Int) → (List (List Int)) → Prop} (hS0 : Sep w B_ (oB gq0 23 #[.slice aq0 nq0 cq0] :: oS 3 aq0 nq0 cq0 (q0 : List Int) :: oB gq1 23 #[.slice aq1 nq1 cq1] :: oB gq2 67 #[.func (.func 72) #[] #[.pointer (some (⟨gq2_0, 0, none⟩ : Addr))]] :: oB gq3 27 #[.slice aq3 nq3 cq3] :: oB gq4 23 #[.slice aq4 nq4 cq4] :: oS 3 aq4 nq4 cq4 (q4 : List Int) :: oB gq5 86 #[.func (.func 91) #[] #[.pointer (some (⟨gq0, 0, none⟩ : Addr)), .pointer (some (⟨gq1, 0, none⟩ : Addr)), .pointer (some (⟨gq2, 0, none⟩ : Addr)), .pointer (some (⟨gq3, 0, none⟩ : Addr)), .pointer (some (⟨gq4, 0, none⟩ : Addr)), .pointer (some (⟨gq5, 0, none⟩ : Addr))]] :: oB gq2_0 37 #[.slice aq2_0 nq2_0 cq2_0] :: oS 23 aq2_0 nq2_0 cq2_0 (yq2_0 : List (Hd Int)) :: oT 3 (yq2_0 : List (Hd Int)) :: L_)) (hq1 : Vw B_ w aq1 nq1 cq1 q1) (hq3 : Tv B_ w aq3 nq3 cq3 yq3 q3) (heq2_0 : ers yq2_0 = q2_0) (hm : rec_ q0 q1 q3 q4 q2_0 Q), Fn Try.prog 91 #[.pointer (some (⟨gq0, 0, none⟩ : Addr)), .pointer (some (⟨gq1, 0, none⟩ : Addr)), .pointer (some (⟨gq2, 0, none⟩ : Addr)), .pointer (some (⟨gq3, 0, none⟩ : Addr)), .pointer (some (⟨gq4, 0, none⟩ : Addr)), .pointer (some (⟨gq5, 0, none⟩ : Addr))] w (fun v w' => ∃ (r0 : Bool) (x0 : List Int) (aa0 : Option Addr) (nn0 cc0 : Nat) (x1 : List Int) (aa1 : Option Addr) (nn1 cc1 : Nat) (x2 : List (List Int)) (aa2 : Option Addr) (nn2 cc2 : Nat) (yy2 : List (Hd Int)), Q r0 x0 x1 x2 ∧ ers yy2 = x2 ∧ v = .bool r0 ∧ Below B_ w w' ∧ Sep w' B_ (oB gq0 23 #[.slice aa0 nn0 cc0] :: oS 3 aa0 nn0 cc0 x0 :: oB gq1 23 #[.slice aq1 nq1 cq1] :: oB gq2 67 #[.func (.func 72) #[] #[.pointer (some (⟨gq2_0, 0, none⟩ : Addr))]] :: oB gq3 27 #[.slice aq3 nq3 cq3] :: oB gq4 23 #[.slice aa1 nn1 cc1] :: oS 3 aa1 nn1 cc1 x1 :: oB gq5 86 #[.func (.func 91) #[] #[.pointer (some (⟨gq0, 0, none⟩ : Addr)), .pointer (some (⟨gq1, 0, none⟩ : Addr)), .pointer (some (⟨gq2, 0, none⟩ : Addr)), .pointer (some (⟨gq3, 0, none⟩ : Addr)), .pointer (some (⟨gq4, 0, none⟩ : Addr)), .pointer (some (⟨gq5, 0, none⟩ : Addr))]] :: oB gq2_0 37 #[.slice aa2 nn2 cc2] :: oS 23 aa2 nn2 cc2 yy2 :: oT 3 yy2 :: L_))) {w : World} {B_ : Nat} {L_ : List Ob} {gq0 : Nat} {aq0 : Option Addr} {nq0 cq0 : Nat} {q0 : List Int} {gq1 : Nat} {aq1 : Option Addr} {nq1 cq1 : Nat} {q1 : List Int} {gq2 : Nat} {gq3 : Nat} {aq3 : Option Addr} {nq3 cq3 : Nat} {yq3 : List PlayerD} {q3 : List PlayerC} {gq4 : Nat} {aq4 : Option Addr} {nq4 cq4 : Nat} {q4 : List Int} {gq5 : Nat} {gq2_0 : Nat} {aq2_0 : Option Addr} {nq2_0 cq2_0 : Nat} {q2_0 : List (List Int)} {yq2_0 : List (Hd Int)} {Q : Bool → (List Int) → (List Int) → (List (List Int)) → Prop} (hS0 : Sep w B_ (oB gq0 23 #[.slice aq0 nq0 cq0] :: oS 3 aq0 nq0 cq0 (q0 : List Int) :: oB gq1 23 #[.slice aq1 nq1 cq1] :: oB gq2 67 #[.func (.func 72) #[] #[.pointer (some (⟨gq2_0, 0, none⟩ : Addr))]] :: oB gq3 27 #[.slice aq3 nq3 cq3] :: oB gq4 23 #[.slice aq4 nq4 cq4] :: oS 3 aq4 nq4 cq4 (q4 : List Int) :: oB gq5 86 #[.func (.func 91) #[] #[.pointer (some (⟨gq0, 0, none⟩ : Addr)), .pointer (some (⟨gq1, 0, none⟩ : Addr)), .pointer (some (⟨gq2, 0, none⟩ : Addr)), .pointer (some (⟨gq3, 0, none⟩ : Addr)), .pointer (some (⟨gq4, 0, none⟩ : Addr)), .pointer (some (⟨gq5, 0, none⟩ : Addr))]] :: oB gq2_0 37 #[.slice aq2_0 nq2_0 cq2_0] :: oS 23 aq2_0 nq2_0 cq2_0 (yq2_0 : List (Hd Int)) :: oT 3 (yq2_0 : List (Hd Int)) :: L_)) (hq1 : Vw B_ w aq1 nq1 cq1 q1) (hq3 : Tv B_ w aq3 nq3 cq3 yq3 q3) (heq2_0 : ers yq2_0 = q2_0) (hm : m_impl_castings_1_CastingsOf_1_step rec_ q0 q1 q3 q4 q2_0 Q) :
    Fn Try.prog 91 #[.pointer (some (⟨gq0, 0, none⟩ : Addr)), .pointer (some (⟨gq1, 0, none⟩ : Addr)), .pointer (some (⟨gq2, 0, none⟩ : Addr)), .pointer (some (⟨gq3, 0, none⟩ : Addr)), .pointer (some (⟨gq4, 0, none⟩ : Addr)), .pointer (some (⟨gq5, 0, none⟩ : Addr))] w (fun v w' => ∃ (r0 : Bool) (x0 : List Int) (aa0 : Option Addr) (nn0 cc0 : Nat) (x1 : List Int) (aa1 : Option Addr) (nn1 cc1 : Nat) (x2 : List (List Int)) (aa2 : Option Addr) (nn2 cc2 : Nat) (yy2 : List (Hd Int)), Q r0 x0 x1 x2 ∧ ers yy2 = x2 ∧ v = .bool r0 ∧ Below B_ w w' ∧ Sep w' B_ (oB gq0 23 #[.slice aa0 nn0 cc0] :: oS 3 aa0 nn0 cc0 x0 :: oB gq1 23 #[.slice aq1 nq1 cq1] :: oB gq2 67 #[.func (.func 72) #[] #[.pointer (some (⟨gq2_0, 0, none⟩ : Addr))]] :: oB gq3 27 #[.slice aq3 nq3 cq3] :: oB gq4 23 #[.slice aa1 nn1 cc1] :: oS 3 aa1 nn1 cc1 x1 :: oB gq5 86 #[.func (.func 91) #[] #[.pointer (some (⟨gq0, 0, none⟩ : Addr)), .pointer (some (⟨gq1, 0, none⟩ : Addr)), .pointer (some (⟨gq2, 0, none⟩ : Addr)), .pointer (some (⟨gq3, 0, none⟩ : Addr)), .pointer (some (⟨gq4, 0, none⟩ : Addr)), .pointer (some (⟨gq5, 0, none⟩ : Addr))]] :: oB gq2_0 37 #[.slice aa2 nn2 cc2] :: oS 23 aa2 nn2 cc2 yy2 :: oT 3 yy2 :: L_)) := by
  unfold m_impl_castings_1_CastingsOf_1_step at hm
  have hB0 := Below.refl B_ w
  refine fn_of_wp Try.func91 rfl (by kernel_rfl) (Nat.le_of_ble_eq_true rfl) ?_
  refine w_seq fun K13 hK13 => ?_
  refine w_region ?_
  refine wl_val (g_assign (v := .bool false) rfl) rfl ?_
  refine wl_nil ?_
  refine hK13 _ _ ?_
  refine w_seq fun K14 hK14 => ?_
  refine w_seq fun K15 hK15 => ?_
  refine w_region ?_
  refine wl_val (q_loadB (i := 0) (bs := #[.slice aq0 nq0 cq0]) hS0.g0 ON23 rfl rfl) rfl ?_
  refine wl_val (q_len SL23 rfl (Vw.len (oS.vw hS0.g1))) rfl ?_
  refine wl_val (q_loadB (i := 0) (bs := #[.slice aq1 nq1 cq1]) hS0.g2 ON23 rfl rfl) rfl ?_
  refine wl_val (q_len SL23 rfl (Vw.len (hq1.bel hB0))) rfl ?_
  refine wl_val (g_eql (a := (q0.length : Int)) (b := (q1.length : Int)) rfl rfl) rfl ?_
  refine wl_nil ?_
  refine hK15 _ _ ?_
  refine w_condI (p := (q0.length : Int) = (q1.length : Int)) (b := (decide ((q0.length : Int) = (q1.length : Int)))) rfl decide_eq_true_iff (fun h16 => ?_) (fun h16 => ?_)
  · replace hm := hm.1 h16
    refine w_seq fun K17 hK17 => ?_
    refine w_draw (X := Ext) (Y := Ext) [0, 0, 2, 1, 0] MIX (by decide +kernel) rfl Ext.refl (fun _ _ _ => Ext.trans) (fun _ _ _ => Chg.trans) (fun _ _ h => Ext.chg h _) (fun w18 hE19 => ?_)
    have hB20 := hB0.trans (Ext.stp hE19 hS0.base)
    have hS21 := hS0.ext hE19
    refine ⟨.func (.func 72) #[] #[.pointer (some (⟨gq2_0, 0, none⟩ : Addr))], fun w22 hX23 => od_plain rfl (by have hS24 := hS21.ext hX23; have hB25 := hB20.trans (Ext.stp hX23 hS21.base); exact is_ext (q_loadB (i := 0) (bs := #[.func (.func 72) #[] #[.pointer (some (⟨gq2_0, 0, none⟩ : Addr))]]) hS24.g3 ON67 rfl rfl)), ?_⟩
    refine ⟨.slice aq0 nq0 cq0, fun w26 hX27 => od_plain rfl (by have hS28 := hS21.ext hX27; have hB29 := hB20.trans (Ext.stp hX27 hS21.base); exact is_ext (q_loadB (i := 0) (bs := #[.slice aq0 nq0 cq0]) hS28.g0 ON23 rfl rfl)), ?_⟩
    intro w30 hX31
    have hB32 := hB20.trans (Ext.stp hX31 hS21.base)
    have hS33 := hS21.ext hX31
    refine ⟨_, od_plain rfl (g_call (vs := #[.slice aq0 nq0 cq0]) CF79 (args1 rfl) (m_impl_copyOf_fn (oS.vw hS33.g1) hm)), ?_⟩
    rintro _ w34 ⟨r37, a38, n39, c40, hm, rfl, hE35, hN36⟩
    have hS42 := hS33.call1 hE35 hN36
    refine ⟨hE35, ?_⟩
    have hB43 := hB32.trans (Ext.stp hE35 hS33.base)
    intro w44 hX45
    have hB46 := hB43.trans (Ext.stp hX45 hS42.base)
    have hS47 := hS42.ext hX45
    have hS48 := hS47.f11
    have hS49 := hS48.f11
    have hS50 := hS49.f11
    have hS51 := hS50.f3
    refine ⟨_, od_plain rfl (g_callvc (f := 72) (va := #[.slice a38 n39 c40]) (cap := #[.pointer (some (⟨gq2_0, 0, none⟩ : Addr))]) (vs := #[.slice a38 n39 c40, .pointer (some (⟨gq2_0, 0, none⟩ : Addr))]) CF72 rfl (args1 rfl) rfl (m_impl_CastingsOf_1_fn hS51 heq2_0 hm)), ?_⟩
    rintro _ w52 ⟨r55, x56, a57, n58, c59, y60, hm, he61, rfl, hb53, hS54⟩
    have hB62 := hB46.trans hb53
    refine ⟨.bool r55, fun w63 hX64 => od_plain rfl (by have hS65 := hS54.ext hX64; have hB66 := hB62.trans (Ext.stp hX64 hS54.base); exact is_ext (g_assign (v := .bool r55) rfl)), ?_⟩
    intro w67 hX68
    have hB69 := hB62.trans (Ext.stp hX68 hS54.base)
    have hS70 := hS54.ext hX68
    refine hK17 _ _ ?_
    refine w_ret ?_
    have hS71 := hS70.f2
    have hS72 := hS71.f2
    have hS73 := hS72.f2
    have hS74 := hS73.f10
    have hS75 := hS74.f10
    have hS76 := hS75.f10
    have hS77 := hS76.f10
    have hS78 := hS77.f10
    have hS79 := hS78.f10
    have hS80 := hS79.f10
    have hS81 := hS80.f10
    repeat first | with_reducible refine q_then ?_ | with_reducible refine q_block ?_
    exact ret1 rfl (by decide) ⟨_, _, _, _, _, _, _, _, _, _, _, _, _, _, hm, he61, rfl, hB69, hS81⟩
  · replace hm := hm.2 h16
    refine w_skip ?_
    refine hK14 _ _ ?_
    refine w_cut (σ := List (List Int) × Option Addr × Nat × Nat × List (Hd Int) × List Int × Option Addr × Nat × Nat × List Int × Option Addr × Nat × Nat) (fun ⟨x685, a686, n687, c688, y689, x691, a692, n693, c694, x695, a696, n697, c698⟩ => []) (fun ⟨x685, a686, n687, c688, y689, x691, a692, n693, c694, x695, a696, n697, c698⟩ w' => m_impl_castings_1_CastingsOf_1_K0 Q x685 x691 x695 ∧ ers y689 = x685 ∧ Below B_ w w' ∧ Sep w' B_ (oB gq2_0 37 #[.slice a686 n687 c688] :: oB gq5 86 #[.func (.func 91) #[] #[.pointer (some (⟨gq0, 0, none⟩ : Addr)), .pointer (some (⟨gq1, 0, none⟩ : Addr)), .pointer (some (⟨gq2, 0, none⟩ : Addr)), .pointer (some (⟨gq3, 0, none⟩ : Addr)), .pointer (some (⟨gq4, 0, none⟩ : Addr)), .pointer (some (⟨gq5, 0, none⟩ : Addr))]] :: oB gq4 23 #[.slice a692 n693 c694] :: oB gq3 27 #[.slice aq3 nq3 cq3] :: oB gq2 67 #[.func (.func 72) #[] #[.pointer (some (⟨gq2_0, 0, none⟩ : Addr))]] :: oB gq1 23 #[.slice aq1 nq1 cq1] :: oB gq0 23 #[.slice a696 n697 c698] :: oS 23 a686 n687 c688 (y689 : List (Hd Int)) :: oT 3 (y689 : List (Hd Int)) :: oS 3 a692 n693 c694 (x691 : List Int) :: oS 3 a696 n697 c698 (x695 : List Int) :: L_)) ?_ ?_
    · refine w_seq fun K700 hK700 => ?_
      refine w_region ?_
      refine wl_val (q_loadB (i := 0) (bs := #[.slice aq3 nq3 cq3]) hS0.g4 ON27 rfl rfl) rfl ?_
      refine wl_val (q_len SL27 rfl (Tv.len (hq3.bel hB0))) rfl ?_
      refine wl_val (g_move (v := .int .i64 0) rfl) rfl ?_
      refine wl_nil ?_
      refine hK700 _ _ ?_
      refine w_block ?_
      have hS716 := hS0.f1
      have hS717 := hS716.f6
      have hS718 := hS717.f10
      have hS719 := hS718.f10
      have hS720 := hS719.f4
      have hS721 := hS720.f5
      have hS722 := hS721.f6
      have hS723 := hS722.f7
      have hS724 := hS723.f8
      have hS725 := hS724.f9
      have hS726 := hS725.f10
      obtain ⟨I727, μ728, h0729, hr730⟩ := hm
      refine w_for (σ := Int × List (List Int) × Option Addr × Nat × Nat × List (Hd Int) × List Int × Option Addr × Nat × Nat × List Int × Option Addr × Nat × Nat) (fun ⟨v701, x702, a703, n704, c705, y706, x708, a709, n710, c711, x712, a713, n714, c715⟩ => [(0, .pointer (some (⟨gq0, 0, none⟩ : Addr))), (1, .pointer (some (⟨gq1, 0, none⟩ : Addr))), (4, .pointer (some (⟨gq4, 0, none⟩ : Addr))), (5, .pointer (some (⟨gq5, 0, none⟩ : Addr))), (19, .slice aq3 nq3 cq3), (20, .int .i64 (q3.length : Int)), (21, .int .i64 v701)]) (fun ⟨v701, x702, a703, n704, c705, y706, x708, a709, n710, c711, x712, a713, n714, c715⟩ w' => I727 v701 x702 x708 x712 ∧ ers y706 = x702 ∧ Below B_ w w' ∧ Sep w' B_ (oB gq2_0 37 #[.slice a703 n704 c705] :: oB gq5 86 #[.func (.func 91) #[] #[.pointer (some (⟨gq0, 0, none⟩ : Addr)), .pointer (some (⟨gq1, 0, none⟩ : Addr)), .pointer (some (⟨gq2, 0, none⟩ : Addr)), .pointer (some (⟨gq3, 0, none⟩ : Addr)), .pointer (some (⟨gq4, 0, none⟩ : Addr)), .pointer (some (⟨gq5, 0, none⟩ : Addr))]] :: oB gq4 23 #[.slice a709 n710 c711] :: oB gq3 27 #[.slice aq3 nq3 cq3] :: oB gq2 67 #[.func (.func 72) #[] #[.pointer (some (⟨gq2_0, 0, none⟩ : Addr))]] :: oB gq1 23 #[.slice aq1 nq1 cq1] :: oB gq0 23 #[.slice a713 n714 c715] :: oS 23 a703 n704 c705 (y706 : List (Hd Int)) :: oT 3 (y706 : List (Hd Int)) :: oS 3 a709 n710 c711 (x708 : List Int) :: oS 3 a713 n714 c715 (x712 : List Int) :: L_)) (fun ⟨v701, x702, a703, n704, c705, y706, x708, a709, n710, c711, x712, a713, n714, c715⟩ => μ728 v701 x702 x708 x712) (0, q2_0, aq2_0, nq2_0, cq2_0, yq2_0, q4, aq4, nq4, cq4, q0, aq0, nq0, cq0) ⟨rfl, rfl, rfl, rfl, rfl, rfl, rfl, trivial⟩ ⟨h0729, heq2_0, hB0, hS726⟩ ?_
      rintro ⟨v701, x702, a703, n704, c705, y706, x708, a709, n710, c711, x712, a713, n714, c715⟩ b_ w731 ⟨hi_, he707, hB732, hS733⟩
      show Wp _ _ _ _ (upds b_ [(0, .pointer (some (⟨gq0, 0, none⟩ : Addr))), (1, .pointer (some (⟨gq1, 0, none⟩ : Addr))), (4, .pointer (some (⟨gq4, 0, none⟩ : Addr))), (5, .pointer (some (⟨gq5, 0, none⟩ : Addr))), (19, .slice aq3 nq3 cq3), (20, .int .i64 (q3.length : Int)), (21, .int .i64 v701)]) w731
      have hm := hr730 v701 x702 x708 x712 hi_
      refine w_seq fun K735 hK735 => ?_
      refine w_region ?_
      refine wl_val (g_lss (a := v701) (b := (q3.length : Int)) rfl rfl) rfl ?_
      refine wl_nil ?_
      refine hK735 _ _ ?_
      refine w_seq fun K736 hK736 => ?_
      refine w_condI (p := v701 < (q3.length : Int)) (b := (decide (v701 < (q3.length : Int)))) rfl decide_eq_true_iff (fun h737 => ?_) (fun h737 => ?_)
      · replace hm := hm.1 h737
        refine w_skip ?_
        refine hK736 _ _ ?_
        refine w_seq fun K738 hK738 => ?_
        refine w_block ?_
        refine w_seq fun K739 hK739 => ?_
        refine w_region ?_
        refine wl_val (g_move (v := .int .i64 v701) rfl) rfl ?_
        obtain ⟨hg740, hm⟩ := hm
        refine wl_val (q_index (i := v701) SL27 rfl rfl (Tv.o (hq3.bel hB732)) (Tv.g (hq3.bel hB732) hg740)) rfl ?_
        refine wl_val (q_loadS (i := v701) (cs := [.slice ((yq3[(Int.toNat v701)]!).1.1) ((yq3[(Int.toNat v701)]!).1.2.2.length) ((yq3[(Int.toNat v701)]!).1.2.1), .int .i64 (q3[(Int.toNat v701)]!.2)]) AG54 (Tv.o (hq3.bel hB732)) (Tv.g (hq3.bel hB732) hg740) (by rw [← Tv.free (hq3.bel hB732) hg740]; rfl) rfl) rfl ?_
        refine wl_step rfl (q_alloc (cs := #[.slice none 0 0, .int .i64 0]) ZR54 rfl hS733) ?_
        rintro _ w741 ⟨g742, rfl, hS744, hE743⟩
        have hB746 := hB732.trans (Ext.stp hE743 hS733.base)
        refine wl_val (g_assign (v := .int .i64 v701) rfl) rfl ?_
        refine wl_step rfl (q_storeB (i := 0) (bs' := #[.slice ((yq3[(Int.toNat v701)]!).1.1) ((yq3[(Int.toNat v701)]!).1.2.2.length) ((yq3[(Int.toNat v701)]!).1.2.1), .int .i64 (q3[(Int.toNat v701)]!.2)]) (vs := [.slice ((yq3[(Int.toNat v701)]!).1.1) ((yq3[(Int.toNat v701)]!).1.2.2.length) ((yq3[(Int.toNat v701)]!).1.2.1), .int .i64 (q3[(Int.toNat v701)]!.2)]) hS744 AG54.sz rfl rfl rfl (by simp [Value.oneCell']) (Nat.le_of_ble_eq_true rfl) rfl) ?_
        rintro _ w747 ⟨rfl, hS748, hb749⟩
        have hB750 := hB746.trans hb749
        refine wl_nil ?_
        refine hK739 _ _ ?_
        refine w_seq fun K751 hK751 => ?_
        refine w_seq fun K752 hK752 => ?_
        refine w_draw (X := Ext) (Y := Ext) [] MIX (by decide +kernel) rfl Ext.refl (fun _ _ _ => Ext.trans) (fun _ _ _ => Chg.trans) (fun _ _ h => Ext.chg h _) (fun w753 hE754 => ?_)
        have hB755 := hB750.trans (Ext.stp hE754 hS748.base)
        have hS756 := hS748.ext hE754
        refine ⟨.slice a709 n710 c711, fun w757 hX758 => od_plain rfl (by have hS759 := hS756.ext hX758; have hB760 := hB755.trans (Ext.stp hX758 hS756.base); exact is_ext (q_loadB (i := 0) (bs := #[.slice a709 n710 c711]) hS759.g3 ON23 rfl rfl)), ?_⟩
        refine ⟨.int .i64 v701, fun w761 hX762 => od_plain rfl (by have hS763 := hS756.ext hX762; have hB764 := hB755.trans (Ext.stp hX762 hS756.base); exact is_ext (g_move (v := .int .i64 v701) rfl)), ?_⟩
        obtain ⟨hg769, hm⟩ := hm
        refine ⟨.pointer (some ((adr a709).add ((Int.toNat v701) * El.m Int))), fun w765 hX766 => od_plain rfl (by have hS767 := hS756.ext hX766; have hB768 := hB755.trans (Ext.stp hX766 hS756.base); exact is_ext (q_index (i := v701) SL23 rfl rfl (oS.vw hS767.g10) hg769)), ?_⟩
        refine ⟨.int .i64 (x708[(Int.toNat v701)]!), fun w770 hX771 => od_plain rfl (by have hS772 := hS756.ext hX771; have hB773 := hB755.trans (Ext.stp hX771 hS756.base); exact is_ext (q_load (i := v701) (v := .int .i64 (x708[(Int.toNat v701)]!)) ON3 (oS.vw hS772.g10) hg769 rfl rfl)), ?_⟩
        refine ⟨.bool (decide (x708[(Int.toNat v701)]! = 0)), fun w774 hX775 => od_plain rfl (by have hS776 := hS756.ext hX775; have hB777 := hB755.trans (Ext.stp hX775 hS756.base); exact is_ext (g_eql (a := x708[(Int.toNat v701)]!) (b := 0) rfl rfl)), ?_⟩
        refine ⟨.bool (decide (x708[(Int.toNat v701)]! = 0)), fun w778 hX779 => od_plain rfl (by have hS780 := hS756.ext hX779; have hB781 := hB755.trans (Ext.stp hX779 hS756.base); exact is_ext (g_move (v := .bool (decide (x708[(Int.toNat v701)]! = 0))) rfl)), ?_⟩
        refine ⟨if (decide (x708[(Int.toNat v701)]! = 0)) = false then .pointer (some (((⟨g742, 0, none⟩ : Addr)).add 0)) else undef, fun w782 hX783 => od_guard (c := (decide (x708[(Int.toNat v701)]! = 0)) = false) (val := .pointer (some (((⟨g742, 0, none⟩ : Addr)).add 0))) (b := ((decide (x708[(Int.toNat v701)]! = 0)) == false)) (gv_some rfl rfl rfl) beq_iff_eq (fun hc786 => ?_), ?_⟩
        · have hS784 := hS756.ext hX783
          have hB785 := hB755.trans (Ext.stp hX783 hS756.base)
          have hcq3 : ¬ (x708[(Int.toNat v701)]! = 0) := (i_neg decide_eq_true_iff hc786)
          exact is_ext (g_fieldAddr (q := (⟨g742, 0, none⟩ : Addr)) FL54_0 ON23 rfl)
        refine ⟨if (decide (x708[(Int.toNat v701)]! = 0)) = false then .slice ((yq3[(Int.toNat v701)]!).1.1) ((yq3[(Int.toNat v701)]!).1.2.2.length) ((yq3[(Int.toNat v701)]!).1.2.1) else undef, fun w787 hX788 => od_guard (c := (decide (x708[(Int.toNat v701)]! = 0)) = false) (val := .slice ((yq3[(Int.toNat v701)]!).1.1) ((yq3[(Int.toNat v701)]!).1.2.2.length) ((yq3[(Int.toNat v701)]!).1.2.1)) (b := ((decide (x708[(Int.toNat v701)]! = 0)) == false)) (gv_some rfl rfl rfl) beq_iff_eq (fun hc791 => ?_), ?_⟩
        · have hS789 := hS756.ext hX788
          have hB790 := hB755.trans (Ext.stp hX788 hS756.base)
          have hcq3 : ¬ (x708[(Int.toNat v701)]! = 0) := (i_neg decide_eq_true_iff hc791)
          exact is_ext (q_loadB (i := 0) (bs := #[.slice ((yq3[(Int.toNat v701)]!).1.1) ((yq3[(Int.toNat v701)]!).1.2.2.length) ((yq3[(Int.toNat v701)]!).1.2.1), .int .i64 (q3[(Int.toNat v701)]!.2)]) hS789.g0 ON23 (if_pos hc791) rfl)
        refine ⟨if (decide (x708[(Int.toNat v701)]! = 0)) = false then .slice aq1 nq1 cq1 else undef, fun w792 hX793 => od_guard (c := (decide (x708[(Int.toNat v701)]! = 0)) = false) (val := .slice aq1 nq1 cq1) (b := ((decide (x708[(Int.toNat v701)]! = 0)) == false)) (gv_some rfl rfl rfl) beq_iff_eq (fun hc796 => ?_), ?_⟩
        · have hS794 := hS756.ext hX793
          have hB795 := hB755.trans (Ext.stp hX793 hS756.base)
          have hcq3 : ¬ (x708[(Int.toNat v701)]! = 0) := (i_neg decide_eq_true_iff hc796)
          exact is_ext (q_loadB (i := 0) (bs := #[.slice aq1 nq1 cq1]) hS794.g6 ON23 rfl rfl)
        refine ⟨if (decide (x708[(Int.toNat v701)]! = 0)) = false then .slice a713 n714 c715 else undef, fun w797 hX798 => od_guard (c := (decide (x708[(Int.toNat v701)]! = 0)) = false) (val := .slice a713 n714 c715) (b := ((decide (x708[(Int.toNat v701)]! = 0)) == false)) (gv_some rfl rfl rfl) beq_iff_eq (fun hc801 => ?_), ?_⟩
        · have hS799 := hS756.ext hX798
          have hB800 := hB755.trans (Ext.stp hX798 hS756.base)
          have hcq3 : ¬ (x708[(Int.toNat v701)]! = 0) := (i_neg decide_eq_true_iff hc801)
          exact is_ext (q_loadB (i := 0) (bs := #[.slice a713 n714 c715]) hS799.g7 ON23 rfl rfl)
        refine ⟨if (decide (x708[(Int.toNat v701)]! = 0)) = false then .int .i64 (x712.length : Int) else undef, fun w802 hX803 => od_guard (c := (decide (x708[(Int.toNat v701)]! = 0)) = false) (val := .int .i64 (x712.length : Int)) (b := ((decide (x708[(Int.toNat v701)]! = 0)) == false)) (gv_some rfl rfl rfl) beq_iff_eq (fun hc806 => ?_), ?_⟩
        · have hS804 := hS756.ext hX803
          have hB805 := hB755.trans (Ext.stp hX803 hS756.base)
          have hcq3 : ¬ (x708[(Int.toNat v701)]! = 0) := (i_neg decide_eq_true_iff hc806)
          exact is_ext (q_len SL23 (if_pos hc806) (Vw.len (oS.vw hS804.g11)))
        obtain ⟨hg812, hm⟩ := hm
        refine ⟨if (decide (x708[(Int.toNat v701)]! = 0)) = false then .pointer (some ((adr aq1).add ((Int.toNat (x712.length : Int)) * El.m Int))) else undef, fun w807 hX808 => od_guard (c := (decide (x708[(Int.toNat v701)]! = 0)) = false) (val := .pointer (some ((adr aq1).add ((Int.toNat (x712.length : Int)) * El.m Int)))) (b := ((decide (x708[(Int.toNat v701)]! = 0)) == false)) (gv_some rfl rfl rfl) beq_iff_eq (fun hc811 => ?_), ?_⟩
        · have hS809 := hS756.ext hX808
          have hB810 := hB755.trans (Ext.stp hX808 hS756.base)
          have hcq3 : ¬ (x708[(Int.toNat v701)]! = 0) := (i_neg decide_eq_true_iff hc811)
          exact is_ext (q_index (i := (x712.length : Int)) SL23 (if_pos hc811) (if_pos hc811) (hq1.bel hB810) (hg812 hcq3))
        refine ⟨if (decide (x708[(Int.toNat v701)]! = 0)) = false then .int .i64 (q1[(Int.toNat (x712.length : Int))]!) else undef, fun w813 hX814 => od_guard (c := (decide (x708[(Int.toNat v701)]! = 0)) = false) (val := .int .i64 (q1[(Int.toNat (x712.length : Int))]!)) (b := ((decide (x708[(Int.toNat v701)]! = 0)) == false)) (gv_some rfl rfl rfl) beq_iff_eq (fun hc817 => ?_), ?_⟩
        · have hS815 := hS756.ext hX814
          have hB816 := hB755.trans (Ext.stp hX814 hS756.base)
          have hcq3 : ¬ (x708[(Int.toNat v701)]! = 0) := (i_neg decide_eq_true_iff hc817)
          exact is_ext (q_load (i := (x712.length : Int)) (v := .int .i64 (q1[(Int.toNat (x712.length : Int))]!)) ON3 (hq1.bel hB816) (hg812 hcq3) rfl (if_pos hc817))
        obtain ⟨r823, hk824, hm⟩ := hm
        refine ⟨if (decide (x708[(Int.toNat v701)]! = 0)) = false then .int .i64 r823 else undef, fun w818 hX819 => od_guard (c := (decide (x708[(Int.toNat v701)]! = 0)) = false) (val := .int .i64 r823) (b := ((decide (x708[(Int.toNat v701)]! = 0)) == false)) (gv_some rfl rfl rfl) beq_iff_eq (fun hc822 => ?_), ?_⟩
        · have hS820 := hS756.ext hX819
          have hB821 := hB755.trans (Ext.stp hX819 hS756.base)
          have hcq3 : ¬ (x708[(Int.toNat v701)]! = 0) := (i_neg decide_eq_true_iff hc822)
          exact (g_call (vs := #[.slice ((yq3[(Int.toNat v701)]!).1.1) ((yq3[(Int.toNat v701)]!).1.2.2.length) ((yq3[(Int.toNat v701)]!).1.2.1), .int .i64 (q1[(Int.toNat (x712.length : Int))]!)]) CF84 (args2 (if_pos hc822) (if_pos hc822)) ((m_impl_indexOf_fn ((Tv.rowP (hq3.bel hB821) hg740).up hS820) (q1[(Int.toNat (x712.length : Int))]!) (hk824 hcq3)).mono fun _ _ ⟨_, h1, h2, h3⟩ => ⟨by rw [h2, h1], h3⟩))
        refine ⟨if (decide (x708[(Int.toNat v701)]! = 0)) = false then .bool (decide (r823 < 0)) else undef, fun w825 hX826 => od_guard (c := (decide (x708[(Int.toNat v701)]! = 0)) = false) (val := .bool (decide (r823 < 0))) (b := ((decide (x708[(Int.toNat v701)]! = 0)) == false)) (gv_some rfl rfl rfl) beq_iff_eq (fun hc829 => ?_), ?_⟩
        · have hS827 := hS756.ext hX826
          have hB828 := hB755.trans (Ext.stp hX826 hS756.base)
          have hcq3 : ¬ (x708[(Int.toNat v701)]! = 0) := (i_neg decide_eq_true_iff hc829)
          exact is_ext (g_lss (a := r823) (b := 0) (if_pos hc829) rfl)
        refine ⟨.bool ((decide (x708[(Int.toNat v701)]! = 0)) || (decide (r823 < 0))), fun w830 hX831 => od_plain rfl (by have hS832 := hS756.ext hX831; have hB833 := hB755.trans (Ext.stp hX831 hS756.base); exact is_ext (g_pick_or (b := (decide (x708[(Int.toNat v701)]! = 0))) (q := (decide (r823 < 0))) rfl rfl)), ?_⟩
        intro w834 hX835
        have hB836 := hB755.trans (Ext.stp hX835 hS756.base)
        have hS837 := hS756.ext hX835
        refine hK752 _ _ ?_
        refine w_condI (p := ((x708[(Int.toNat v701)]! = 0) ∨ (r823 < 0))) (b := ((decide (x708[(Int.toNat v701)]! = 0)) || (decide (r823 < 0)))) rfl (i_or decide_eq_true_iff decide_eq_true_iff) (fun h838 => ?_) (fun h838 => ?_)
        · replace hm := hm.1 h838
          refine w_exit ?_
          refine hK738 _ _ ?_
          refine w_region ?_
          obtain ⟨hg839, hm⟩ := hm
          refine wl_val (g_add (a := v701) (b := 1) rfl rfl hg839) rfl ?_
          refine wl_val (g_move (v := .int .i64 (v701 + 1)) rfl) rfl ?_
          refine wl_nil ?_
          have hS840 := hS837.tail
          exact ⟨((v701 + 1), x702, a703, n704, c705, y706, x708, a709, n710, c711, x712, a713, n714, c715), hm.2, ⟨rfl, rfl, rfl, rfl, rfl, rfl, rfl, trivial⟩, ⟨hm.1, he707, hB836, hS840⟩⟩
        · replace hm := hm.2 h838
          refine w_skip ?_
          refine hK751 _ _ ?_
          refine w_seq fun K841 hK841 => ?_
          refine w_region ?_
          refine wl_val (q_loadB (i := 0) (bs := #[.slice a709 n710 c711]) hS837.g3 ON23 rfl rfl) rfl ?_
          refine wl_val (g_move (v := .int .i64 v701) rfl) rfl ?_
          obtain ⟨hg842, hm⟩ := hm
          refine wl_val (q_index (i := v701) SL23 rfl rfl (oS.vw hS837.g10) hg842) rfl ?_
          refine wl_val (q_load (i := v701) (v := .int .i64 (x708[(Int.toNat v701)]!)) ON3 (oS.vw hS837.g10) hg842 rfl rfl) rfl ?_
          obtain ⟨hg843, hm⟩ := hm
          refine wl_val (g_sub (a := x708[(Int.toNat v701)]!) (b := 1) rfl rfl hg843) rfl ?_
          obtain ⟨hg844, hm⟩ := hm
          refine wl_val (q_index (i := v701) SL23 rfl rfl (oS.vw hS837.g10) hg844) rfl ?_
          have hS848 := hS837.f10
          refine wl_step rfl (q_store (i := v701) (v := ((x708[(Int.toNat v701)]! - 1) : Int)) hS848 ON3.sz hg844 rfl rfl rfl) ?_
          rintro _ w845 ⟨rfl, hS846, hb847⟩
          have hB849 := hB836.trans hb847
          refine wl_nil ?_
          refine hK841 _ _ ?_
          refine w_seq fun K850 hK850 => ?_
          refine w_region ?_
          refine wl_val (q_loadB (i := 0) (bs := #[.slice a713 n714 c715]) hS846.g8 ON23 rfl rfl) rfl ?_
          refine wl_val (g_move (v := .int .i64 v701) rfl) rfl ?_
          refine wl_step rfl (q_lit1 (y := (v701 : Int)) SL23 rfl rfl (by decide) hS846) ?_
          rintro _ w851 ⟨a852, rfl, hS854, hE853⟩
          have hB856 := hB849.trans (Ext.stp hE853 hS846.base)
          have hS862 := hS854.f12
          obtain ⟨hg863, hm⟩ := hm
          refine wl_step rfl (q_append SL23 rfl rfl hS862 (oS.vw hS862.g1) hg863 (by decide)) ?_
          rintro _ w857 ⟨a858, c859, rfl, hS861, hb860⟩
          have hB864 := hB856.trans hb860
          have hS868 := hS861.f10
          refine wl_step rfl (q_storeB (i := 0) (bs' := #[.slice a858 (n714 + 1) c859]) (vs := [.slice a858 (n714 + 1) c859]) hS868 ON23.sz rfl rfl rfl (by simp [Value.oneCell']) (Nat.le_of_ble_eq_true rfl) rfl) ?_
          rintro _ w865 ⟨rfl, hS866, hb867⟩
          have hB869 := hB864.trans hb867
          refine wl_nil ?_
          refine hK850 _ _ ?_
          refine w_seq fun K870 hK870 => ?_
          refine w_region ?_
          refine wl_val (q_loadB (i := 0) (bs := #[.func (.func 91) #[] #[.pointer (some (⟨gq0, 0, none⟩ : Addr)), .pointer (some (⟨gq1, 0, none⟩ : Addr)), .pointer (some (⟨gq2, 0, none⟩ : Addr)), .pointer (some (⟨gq3, 0, none⟩ : Addr)), .pointer (some (⟨gq4, 0, none⟩ : Addr)), .pointer (some (⟨gq5, 0, none⟩ : Addr))]]) hS866.g6 ON86 rfl rfl) rfl ?_
          have hS871 := hS866.f12
          have hS872 := hS871.f12
          have hS873 := hS872.f7
          have hS874 := hS873.f8
          have hS875 := hS874.f7
          have hS876 := hS875.f9
          have hS877 := hS876.f10
          have hS878 := hS877.f11
          have hS879 := hS878.f12
          have hS880 := hS879.f10
          have hS881 := hS880.f10
          refine wl_step rfl (g_callvc (f := 91) (va := #[]) (cap := #[.pointer (some (⟨gq0, 0, none⟩ : Addr)), .pointer (some (⟨gq1, 0, none⟩ : Addr)), .pointer (some (⟨gq2, 0, none⟩ : Addr)), .pointer (some (⟨gq3, 0, none⟩ : Addr)), .pointer (some (⟨gq4, 0, none⟩ : Addr)), .pointer (some (⟨gq5, 0, none⟩ : Addr))]) (vs := #[.pointer (some (⟨gq0, 0, none⟩ : Addr)), .pointer (some (⟨gq1, 0, none⟩ : Addr)), .pointer (some (⟨gq2, 0, none⟩ : Addr)), .pointer (some (⟨gq3, 0, none⟩ : Addr)), .pointer (some (⟨gq4, 0, none⟩ : Addr)), .pointer (some (⟨gq5, 0, none⟩ : Addr))]) CF91 rfl args0 rfl (ih hS881 (hq1.bel hB869) (hq3.bel hB869) he707 hm)) ?_
          rintro _ w882 ⟨r885, x886, a887, n888, c889, x890, a891, n892, c893, x894, a895, n896, c897, y898, hm, he899, rfl, hb883, hS884⟩
          have hB900 := hB869.trans hb883
          refine wl_val (g_assign (v := .bool r885) rfl) rfl ?_
          refine wl_nil ?_
          refine hK870 _ _ ?_
          refine w_seq fun K901 hK901 => ?_
          refine w_region ?_
          refine wl_val (q_loadB (i := 0) (bs := #[.slice a887 n888 c889]) hS884.g0 ON23 rfl rfl) rfl ?_
          refine wl_val (q_loadB (i := 0) (bs := #[.slice a887 n888 c889]) hS884.g0 ON23 rfl rfl) rfl ?_
          refine wl_val (q_len SL23 rfl (Vw.len (oS.vw hS884.g1))) rfl ?_
          obtain ⟨hg902, hm⟩ := hm
          refine wl_val (g_sub (a := (x886.length : Int)) (b := 1) rfl rfl hg902) rfl ?_
          obtain ⟨hg903, hm⟩ := hm
          refine wl_val (q_sliceH (h := ((x886.length : Int) - 1)) SL23 rfl rfl (oS.vw hS884.g1) hg903) rfl ?_
          have hS907 := hS884.f1
          have hS908 := hS907.cut (Int.toNat ((x886.length : Int) - 1)) (tn_le hg903)
          have hS909 := hS908.f1
          refine wl_step rfl (q_storeB (i := 0) (bs' := #[.slice a887 (Int.toNat ((x886.length : Int) - 1)) c889]) (vs := [.slice a887 (Int.toNat ((x886.length : Int) - 1)) c889]) hS909 ON23.sz rfl rfl rfl (by simp [Value.oneCell']) (Nat.le_of_ble_eq_true rfl) rfl) ?_
          rintro _ w904 ⟨rfl, hS905, hb906⟩
          have hB910 := hB900.trans hb906
          refine wl_nil ?_
          refine hK901 _ _ ?_
          refine w_seq fun K911 hK911 => ?_
          refine w_region ?_
          refine wl_val (q_loadB (i := 0) (bs := #[.slice a891 n892 c893]) hS905.g5 ON23 rfl rfl) rfl ?_
          refine wl_val (g_move (v := .int .i64 v701) rfl) rfl ?_
          obtain ⟨hg912, hm⟩ := hm
          refine wl_val (q_index (i := v701) SL23 rfl rfl (oS.vw hS905.g6) hg912) rfl ?_
          refine wl_val (q_load (i := v701) (v := .int .i64 (x890[(Int.toNat v701)]!)) ON3 (oS.vw hS905.g6) hg912 rfl rfl) rfl ?_
          obtain ⟨hg913, hm⟩ := hm
          refine wl_val (g_add (a := x890[(Int.toNat v701)]!) (b := 1) rfl rfl hg913) rfl ?_
          obtain ⟨hg914, hm⟩ := hm
          refine wl_val (q_index (i := v701) SL23 rfl rfl (oS.vw hS905.g6) hg914) rfl ?_
          have hS918 := hS905.f6
          refine wl_step rfl (q_store (i := v701) (v := ((x890[(Int.toNat v701)]! + 1) : Int)) hS918 ON3.sz hg914 rfl rfl rfl) ?_
          rintro _ w915 ⟨rfl, hS916, hb917⟩
          have hB919 := hB910.trans hb917
          refine wl_nil ?_
          refine hK911 _ _ ?_
          refine w_seq fun K920 hK920 => ?_
          refine w_region ?_
          refine wl_val (g_move (v := .bool r885) rfl) rfl ?_
          refine wl_val (g_not (a := r885) rfl) rfl ?_
          refine wl_nil ?_
          refine hK920 _ _ ?_
          refine w_condI (p := ¬ (r885 = true)) (b := (!r885)) rfl (i_not Iff.rfl) (fun h921 => ?_) (fun h921 => ?_)
          · replace hm := hm.1 h921
            refine w_seq fun K922 hK922 => ?_
            refine w_region ?_
            refine wl_val (g_assign (v := .bool false) rfl) rfl ?_
            refine wl_nil ?_
            refine hK922 _ _ ?_
            refine w_ret ?_
            have hS923 := hS916.f11
            have hS924 := hS923.tail
            have hS925 := hS924.f11
            have hS926 := hS925.tail
            have hS927 := hS926.f10
            have hS928 := hS927.f10
            have hS929 := hS928.f10
            have hS930 := hS929.f10
            have hS931 := hS930.f4
            have hS932 := hS931.f10
            have hS933 := hS932.f10
            have hS934 := hS933.f10
            have hS935 := hS934.f10
            have hS936 := hS935.f10
            have hS937 := hS936.f10
            repeat first | with_reducible refine q_then ?_ | with_reducible refine q_block ?_
            exact ret1 rfl (by decide) ⟨_, _, _, _, _, _, _, _, _, _, _, _, _, _, hm, he899, rfl, hB919, hS937⟩
          · replace hm := hm.2 h921
            refine w_skip ?_
            refine hK738 _ _ ?_
            refine w_region ?_
            obtain ⟨hg938, hm⟩ := hm
            refine wl_val (g_add (a := v701) (b := 1) rfl rfl hg938) rfl ?_
            refine wl_val (g_move (v := .int .i64 (v701 + 1)) rfl) rfl ?_
            refine wl_nil ?_
            have hS939 := hS916.f11
            have hS940 := hS939.tail
            have hS941 := hS940.f11
            have hS942 := hS941.tail
            have hS943 := hS942.f2
            have hS944 := hS943.f1
            have hS945 := hS944.f10
            have hS946 := hS945.f10
            have hS947 := hS946.f4
            have hS948 := hS947.f5
            have hS949 := hS948.f6
            have hS950 := hS949.f7
            have hS951 := hS950.f8
            have hS952 := hS951.f9
            have hS953 := hS952.f10
            exact ⟨((v701 + 1), x894, a895, n896, c897, y898, (x890.set (Int.toNat v701) (x890[(Int.toNat v701)]! + 1)), a891, n892, c893, (x886.take (Int.toNat ((x886.length : Int) - 1))), a887, (Int.toNat ((x886.length : Int) - 1)), c889), hm.2, ⟨rfl, rfl, rfl, rfl, rfl, rfl, rfl, trivial⟩, ⟨hm.1, he899, hB919, hS953⟩⟩
      · replace hm := hm.2 h737
        refine w_exit ?_
        exact ⟨(x702, a703, n704, c705, y706, x708, a709, n710, c711, x712, a713, n714, c715), trivial, ⟨hm, he707, hB732, hS733⟩⟩
    · rintro ⟨x685, a686, n687, c688, y689, x691, a692, n693, c694, x695, a696, n697, c698⟩ b_ w954 ⟨hm, he690, hB955, hS956⟩
      show Wp _ _ _ _ (upds b_ []) w954
      refine w_seq fun K957 hK957 => ?_
      refine w_region ?_
      refine wl_val (g_assign (v := .bool true) rfl) rfl ?_
      refine wl_nil ?_
      refine hK957 _ _ ?_
      refine w_ret ?_
      have hS958 := hS956.f8
      have hS959 := hS958.f8
      have hS960 := hS959.f2
      have hS961 := hS960.f3
      have hS962 := hS961.f9
      have hS963 := hS962.f5
      have hS964 := hS963.f6
      have hS965 := hS964.f7
      have hS966 := hS965.f8
      have hS967 := hS966.f10
      have hS968 := hS967.f10
      repeat first | with_reducible refine q_then ?_ | with_reducible refine q_block ?_
      exact ret1 rfl (by decide) ⟨_, _, _, _, _, _, _, _, _, _, _, _, _, _, hm, he690, rfl, hB955, hS968⟩
theorem m_impl_castings_1_CastingsOf_1_fn : ∀ (f_ : Nat) {w : World} {B_ : Nat} {L_ : List Ob} {gq0 : Nat} {aq0 : Option Addr} {nq0 cq0 : Nat} {q0 : List Int} {gq1 : Nat} {aq1 : Option Addr} {nq1 cq1 : Nat} {q1 : List Int} {gq2 : Nat} {gq3 : Nat} {aq3 : Option Addr} {nq3 cq3 : Nat} {yq3 : List PlayerD} {q3 : List PlayerC} {gq4 : Nat} {aq4 : Option Addr} {nq4 cq4 : Nat} {q4 : List Int} {gq5 : Nat} {gq2_0 : Nat} {aq2_0 : Option Addr} {nq2_0 cq2_0 : Nat} {q2_0 : List (List Int)} {yq2_0 : List (Hd Int)} {Q : Bool → (List Int) → (List Int) → (List (List Int)) → Prop} (hS0 : Sep w B_ (oB gq0 23 #[.slice aq0 nq0 cq0] :: oS 3 aq0 nq0 cq0 (q0 : List Int) :: oB gq1 23 #[.slice aq1 nq1 cq1] :: oB gq2 67 #[.func (.func 72) #[] #[.pointer (some (⟨gq2_0, 0, none⟩ : Addr))]] :: oB gq3 27 #[.slice aq3 nq3 cq3] :: oB gq4 23 #[.slice aq4 nq4 cq4] :: oS 3 aq4 nq4 cq4 (q4 : List Int) :: oB gq5 86 #[.func (.func 91) #[] #[.pointer (some (⟨gq0, 0, none⟩ : Addr)), .pointer (some (⟨gq1, 0, none⟩ : Addr)), .pointer (some (⟨gq2, 0, none⟩ : Addr)), .pointer (some (⟨gq3, 0, none⟩ : Addr)), .pointer (some (⟨gq4, 0, none⟩ : Addr)), .pointer (some (⟨gq5, 0, none⟩ : Addr))]] :: oB gq2_0 37 #[.slice aq2_0 nq2_0 cq2_0] :: oS 23 aq2_0 nq2_0 cq2_0 (yq2_0 : List (Hd Int)) :: oT 3 (yq2_0 : List (Hd Int)) :: L_)) (hq1 : Vw B_ w aq1 nq1 cq1 q1) (hq3 : Tv B_ w aq3 nq3 cq3 yq3 q3) (heq2_0 : ers yq2_0 = q2_0) (hm : m_impl_castings_1_CastingsOf_1 f_ q0 q1 q3 q4 q2_0 Q), Fn Try.prog 91 #[.pointer (some (⟨gq0, 0, none⟩ : Addr)), .pointer (some (⟨gq1, 0, none⟩ : Addr)), .pointer (some (⟨gq2, 0, none⟩ : Addr)), .pointer (some (⟨gq3, 0, none⟩ : Addr)), .pointer (some (⟨gq4, 0, none⟩ : Addr)), .pointer (some (⟨gq5, 0, none⟩ : Addr))] w (fun v w' => ∃ (r0 : Bool) (x0 : List Int) (aa0 : Option Addr) (nn0 cc0 : Nat) (x1 : List Int) (aa1 : Option Addr) (nn1 cc1 : Nat) (x2 : List (List Int)) (aa2 : Option Addr) (nn2 cc2 : Nat) (yy2 : List (Hd Int)), Q r0 x0 x1 x2 ∧ ers yy2 = x2 ∧ v = .bool r0 ∧ Below B_ w w' ∧ Sep w' B_ (oB gq0 23 #[.slice aa0 nn0 cc0] :: oS 3 aa0 nn0 cc0 x0 :: oB gq1 23 #[.slice aq1 nq1 cq1] :: oB gq2 67 #[.func (.func 72) #[] #[.pointer (some (⟨gq2_0, 0, none⟩ : Addr))]] :: oB gq3 27 #[.slice aq3 nq3 cq3] :: oB gq4 23 #[.slice aa1 nn1 cc1] :: oS 3 aa1 nn1 cc1 x1 :: oB gq5 86 #[.func (.func 91) #[] #[.pointer (some (⟨gq0, 0, none⟩ : Addr)), .pointer (some (⟨gq1, 0, none⟩ : Addr)), .pointer (some (⟨gq2, 0, none⟩ : Addr)), .pointer (some (⟨gq3, 0, none⟩ : Addr)), .pointer (some (⟨gq4, 0, none⟩ : Addr)), .pointer (some (⟨gq5, 0, none⟩ : Addr))]] :: oB gq2_0 37 #[.slice aa2 nn2 cc2] :: oS 23 aa2 nn2 cc2 yy2 :: oT 3 yy2 :: L_)) := by
  intro f_
  induction f_ with
  | zero =>
    intro w B_ L_ gq0 aq0 nq0 cq0 q0 gq1 aq1 nq1 cq1 q1 gq2 gq3 aq3 nq3 cq3 yq3 q3 gq4 aq4 nq4 cq4 q4 gq5 gq2_0 aq2_0 nq2_0 cq2_0 q2_0 yq2_0 Q hS0 hq1 hq3 heq2_0 hm
    exact False.elim hm
  | succ f_ ih =>
    intro w B_ L_ gq0 aq0 nq0 cq0 q0 gq1 aq1 nq1 cq1 q1 gq2 gq3 aq3 nq3 cq3 yq3 q3 gq4 aq4 nq4 cq4 q4 gq5 gq2_0 aq2_0 nq2_0 cq2_0 q2_0 yq2_0 Q hS0 hq1 hq3 heq2_0 hm
    exact m_impl_castings_1_CastingsOf_1_step_fn @ih hS0 hq1 hq3 heq2_0 hm

theorem m_impl_castings_CastingsOf_1_fn {w : World} {B_ : Nat} {L_ : List Ob} {a0 : Option Addr} {n0 c0 : Nat} {y0 : List PlayerD} {p0 : List PlayerC} {a1 : Option Addr} {n1 c1 : Nat} {p1 : List Int} {gp2_0 : Nat} {ap2_0 : Option Addr} {np2_0 cp2_0 : Nat} {p2_0 : List (List Int)} {yp2_0 : List (Hd Int)} {Q : (List (List Int)) → Prop} (hS0 : Sep w B_ (oB gp2_0 37 #[.slice ap2_0 np2_0 cp2_0] :: oS 23 ap2_0 np2_0 cp2_0 (yp2_0 : List (Hd Int)) :: oT 3 (yp2_0 : List (Hd Int)) :: L_)) (hp0 : Tv B_ w a0 n0 c0 y0 p0) (hp1 : Vw B_ w a1 n1 c1 p1) (hep2_0 : ers yp2_0 = p2_0) (hm : m_impl_castings_CastingsOf_1 p0 p1 p2_0 Q) :
    Fn Try.prog 62 #[.slice a0 n0 c0, .slice a1 n1 c1, .func (.func 72) #[] #[.pointer (some (⟨gp2_0, 0, none⟩ : Addr))]] w (fun v w' => ∃ (x0 : List (List Int)) (aa0 : Option Addr) (nn0 cc0 : Nat) (yy0 : List (Hd Int)), Q x0 ∧ ers yy0 = x0 ∧ v = .tuple #[] ∧ Below B_ w w' ∧ Sep w' B_ (oB gp2_0 37 #[.slice aa0 nn0 cc0] :: oS 23 aa0 nn0 cc0 yy0 :: oT 3 yy0 :: L_)) := by
  unfold m_impl_castings_CastingsOf_1 at hm
  have hB0 := Below.refl B_ w
  refine fn_of_wp Try.func62 rfl (by kernel_rfl) (Nat.le_of_ble_eq_true rfl) ?_
  refine w_seq fun K5 hK5 => ?_
  refine w_region ?_
  refine wl_step rfl (q_box (cs := #[.slice a0 n0 c0]) rfl rfl hS0) ?_
  rintro _ w6 ⟨g7, rfl, hS9, hE8⟩
  have hB11 := hB0.trans (Ext.stp hE8 hS0.base)
  refine wl_step rfl (q_box (cs := #[.slice a1 n1 c1]) rfl rfl hS9) ?_
  rintro _ w12 ⟨g13, rfl, hS15, hE14⟩
  have hB17 := hB11.trans (Ext.stp hE14 hS9.base)
  refine wl_step rfl (q_box (cs := #[.func (.func 72) #[] #[.pointer (some (⟨gp2_0, 0, none⟩ : Addr))]]) rfl rfl hS15) ?_
  rintro _ w18 ⟨g19, rfl, hS21, hE20⟩
  have hB23 := hB17.trans (Ext.stp hE20 hS15.base)
  refine wl_nil ?_
  refine hK5 _ _ ?_
  refine w_seq fun K24 hK24 => ?_
  refine w_region ?_
  refine wl_step rfl (q_lit0 (α := Int) rfl SL23 hS21) ?_
  rintro _ w25 ⟨a26, rfl, hS28, hE27⟩
  have hB30 := hB23.trans (Ext.stp hE27 hS21.base)
  refine wl_step rfl (q_lit0 (α := Int) rfl SL23 hS28) ?_
  rintro _ w31 ⟨a32, rfl, hS34, hE33⟩
  have hB36 := hB30.trans (Ext.stp hE33 hS28.base)
  refine wl_step rfl (q_alloc (cs := #[.slice none 0 0]) ZR23 rfl hS34) ?_
  rintro _ w37 ⟨g38, rfl, hS40, hE39⟩
  have hB42 := hB36.trans (Ext.stp hE39 hS34.base)
  refine wl_step rfl (q_alloc (cs := #[.slice none 0 0]) ZR23 rfl hS40) ?_
  rintro _ w43 ⟨g44, rfl, hS46, hE45⟩
  have hB48 := hB42.trans (Ext.stp hE45 hS40.base)
  have hS52 := hS46.f1
  refine wl_step rfl (q_storeB (i := 0) (bs' := #[.slice a26 0 0]) (vs := [.slice a26 0 0]) hS52 ON23.sz rfl rfl rfl (by simp [Value.oneCell']) (Nat.le_of_ble_eq_true rfl) rfl) ?_
  rintro _ w49 ⟨rfl, hS50, hb51⟩
  have hB53 := hB48.trans hb51
  have hS57 := hS50.f1
  refine wl_step rfl (q_storeB (i := 0) (bs' := #[.slice a32 0 0]) (vs := [.slice a32 0 0]) hS57 ON23.sz rfl rfl rfl (by simp [Value.oneCell']) (Nat.le_of_ble_eq_true rfl) rfl) ?_
  rintro _ w54 ⟨rfl, hS55, hb56⟩
  have hB58 := hB53.trans hb56
  refine wl_nil ?_
  refine hK24 _ _ ?_
  refine w_cut (σ := List Int × Option Addr × Nat × Nat) (fun ⟨x188, a189, n190, c191⟩ => [(3, .pointer (some (⟨g7, 0, none⟩ : Addr))), (4, .pointer (some (⟨g13, 0, none⟩ : Addr))), (5, .pointer (some (⟨g19, 0, none⟩ : Addr))), (6, .pointer (some (⟨g38, 0, none⟩ : Addr))), (7, .pointer (some (⟨g44, 0, none⟩ : Addr)))]) (fun ⟨x188, a189, n190, c191⟩ w' => m_impl_castings_CastingsOf_1_K0 p0 p1 p2_0 Q x188 ∧ Below B_ w w' ∧ Sep w' B_ (oB gp2_0 37 #[.slice ap2_0 np2_0 cp2_0] :: oB g7 27 #[.slice a0 n0 c0] :: oB g13 23 #[.slice a1 n1 c1] :: oB g19 67 #[.func (.func 72) #[] #[.pointer (some (⟨gp2_0, 0, none⟩ : Addr))]] :: oB g38 23 #[.slice a189 n190 c191] :: oB g44 23 #[.slice a32 0 0] :: oS 23 ap2_0 np2_0 cp2_0 (yp2_0 : List (Hd Int)) :: oT 3 (yp2_0 : List (Hd Int)) :: oS 3 a189 n190 c191 (x188 : List Int) :: oS 3 a32 0 0 ([] : List Int) :: L_)) ?_ ?_
  · refine w_seq fun K193 hK193 => ?_
    refine w_region ?_
    refine wl_val (q_loadB (i := 0) (bs := #[.slice a0 n0 c0]) hS55.g6 ON27 rfl rfl) rfl ?_
    refine wl_val (q_len SL27 rfl (Tv.len (hp0.bel hB58))) rfl ?_
    refine wl_val (g_move (v := .int .i64 0) rfl) rfl ?_
    refine wl_nil ?_
    refine hK193 _ _ ?_
    refine w_block ?_
    have hS199 := hS55.f2
    have hS200 := hS199.f3
    have hS201 := hS200.f9
    have hS202 := hS201.f9
    have hS203 := hS202.f4
    have hS204 := hS203.f5
    have hS205 := hS204.f6
    have hS206 := hS205.f7
    have hS207 := hS206.f8
    have hS208 := hS207.f9
    obtain ⟨I209, μ210, h0211, hr212⟩ := hm
    refine w_for (σ := Int × List Int × Option Addr × Nat × Nat) (fun ⟨v194, x195, a196, n197, c198⟩ => [(3, .pointer (some (⟨g7, 0, none⟩ : Addr))), (4, .pointer (some (⟨g13, 0, none⟩ : Addr))), (5, .pointer (some (⟨g19, 0, none⟩ : Addr))), (6, .pointer (some (⟨g38, 0, none⟩ : Addr))), (7, .pointer (some (⟨g44, 0, none⟩ : Addr))), (13, .slice a0 n0 c0), (14, .int .i64 (p0.length : Int)), (15, .int .i64 v194)]) (fun ⟨v194, x195, a196, n197, c198⟩ w' => I209 v194 x195 ∧ Below B_ w w' ∧ Sep w' B_ (oB gp2_0 37 #[.slice ap2_0 np2_0 cp2_0] :: oB g7 27 #[.slice a0 n0 c0] :: oB g13 23 #[.slice a1 n1 c1] :: oB g19 67 #[.func (.func 72) #[] #[.pointer (some (⟨gp2_0, 0, none⟩ : Addr))]] :: oB g38 23 #[.slice a196 n197 c198] :: oB g44 23 #[.slice a32 0 0] :: oS 23 ap2_0 np2_0 cp2_0 (yp2_0 : List (Hd Int)) :: oT 3 (yp2_0 : List (Hd Int)) :: oS 3 a196 n197 c198 (x195 : List Int) :: oS 3 a32 0 0 ([] : List Int) :: L_)) (fun ⟨v194, x195, a196, n197, c198⟩ => μ210 v194 x195) (0, [], a26, 0, 0) ⟨rfl, rfl, rfl, rfl, rfl, rfl, rfl, rfl, trivial⟩ ⟨h0211, hB58, hS208⟩ ?_
    rintro ⟨v194, x195, a196, n197, c198⟩ b_ w213 ⟨hi_, hB214, hS215⟩
    show Wp _ _ _ _ (upds b_ [(3, .pointer (some (⟨g7, 0, none⟩ : Addr))), (4, .pointer (some (⟨g13, 0, none⟩ : Addr))), (5, .pointer (some (⟨g19, 0, none⟩ : Addr))), (6, .pointer (some (⟨g38, 0, none⟩ : Addr))), (7, .pointer (some (⟨g44, 0, none⟩ : Addr))), (13, .slice a0 n0 c0), (14, .int .i64 (p0.length : Int)), (15, .int .i64 v194)]) w213
    have hm := hr212 v194 x195 hi_
    refine w_seq fun K217 hK217 => ?_
    refine w_region ?_
    refine wl_val (g_lss (a := v194) (b := (p0.length : Int)) rfl rfl) rfl ?_
    refine wl_nil ?_
    refine hK217 _ _ ?_
    refine w_seq fun K218 hK218 => ?_
    refine w_condI (p := v194 < (p0.length : Int)) (b := (decide (v194 < (p0.length : Int)))) rfl decide_eq_true_iff (fun h219 => ?_) (fun h219 => ?_)
    · replace hm := hm.1 h219
      refine w_skip ?_
      refine hK218 _ _ ?_
      refine w_seq fun K220 hK220 => ?_
      refine w_block ?_
      refine w_seq fun K221 hK221 => ?_
      refine w_region ?_
      obtain ⟨hg222, hm⟩ := hm
      refine wl_val (q_index (i := v194) SL27 rfl rfl (Tv.o (hp0.bel hB214)) (Tv.g (hp0.bel hB214) hg222)) rfl ?_
      refine wl_val (q_loadS (i := v194) (cs := [.slice ((y0[(Int.toNat v194)]!).1.1) ((y0[(Int.toNat v194)]!).1.2.2.length) ((y0[(Int.toNat v194)]!).1.2.1), .int .i64 (p0[(Int.toNat v194)]!.2)]) AG54 (Tv.o (hp0.bel hB214)) (Tv.g (hp0.bel hB214) hg222) (by rw [← Tv.free (hp0.bel hB214) hg222]; rfl) rfl) rfl ?_
      refine wl_step rfl (q_alloc (cs := #[.slice none 0 0, .int .i64 0]) ZR54 rfl hS215) ?_
      rintro _ w223 ⟨g224, rfl, hS226, hE225⟩
      have hB228 := hB214.trans (Ext.stp hE225 hS215.base)
      refine wl_step rfl (q_storeB (i := 0) (bs' := #[.slice ((y0[(Int.toNat v194)]!).1.1) ((y0[(Int.toNat v194)]!).1.2.2.length) ((y0[(Int.toNat v194)]!).1.2.1), .int .i64 (p0[(Int.toNat v194)]!.2)]) (vs := [.slice ((y0[(Int.toNat v194)]!).1.1) ((y0[(Int.toNat v194)]!).1.2.2.length) ((y0[(Int.toNat v194)]!).1.2.1), .int .i64 (p0[(Int.toNat v194)]!.2)]) hS226 AG54.sz rfl rfl rfl (by simp [Value.oneCell']) (Nat.le_of_ble_eq_true rfl) rfl) ?_
      rintro _ w229 ⟨rfl, hS230, hb231⟩
      have hB232 := hB228.trans hb231
      refine wl_nil ?_
      refine hK221 _ _ ?_
      refine w_region ?_
      refine wl_val (q_loadB (i := 0) (bs := #[.slice a196 n197 c198]) hS230.g5 ON23 rfl rfl) rfl ?_
      refine wl_val (g_fieldAddr (q := (⟨g224, 0, none⟩ : Addr)) FL54_1 ON3 rfl) rfl ?_
      refine wl_val (q_loadB (i := 1) (bs := #[.slice ((y0[(Int.toNat v194)]!).1.1) ((y0[(Int.toNat v194)]!).1.2.2.length) ((y0[(Int.toNat v194)]!).1.2.1), .int .i64 (p0[(Int.toNat v194)]!.2)]) hS230.g0 ON3 rfl rfl) rfl ?_
      refine wl_step rfl (q_lit1 (y := (p0[(Int.toNat v194)]!.2 : Int)) SL23 rfl rfl (by decide) hS230) ?_
      rintro _ w233 ⟨a234, rfl, hS236, hE235⟩
      have hB238 := hB232.trans (Ext.stp hE235 hS230.base)
      have hS244 := hS236.f10
      obtain ⟨hg245, hm⟩ := hm
      refine wl_step rfl (q_append SL23 rfl rfl hS244 (oS.vw hS244.g1) hg245 (by decide)) ?_
      rintro _ w239 ⟨a240, c241, rfl, hS243, hb242⟩
      have hB246 := hB238.trans hb242
      have hS250 := hS243.f7
      refine wl_step rfl (q_storeB (i := 0) (bs' := #[.slice a240 (n197 + 1) c241]) (vs := [.slice a240 (n197 + 1) c241]) hS250 ON23.sz rfl rfl rfl (by simp [Value.oneCell']) (Nat.le_of_ble_eq_true rfl) rfl) ?_
      rintro _ w247 ⟨rfl, hS248, hb249⟩
      have hB251 := hB246.trans hb249
      refine wl_nil ?_
      refine hK220 _ _ ?_
      refine w_region ?_
      obtain ⟨hg252, hm⟩ := hm
      refine wl_val (g_add (a := v194) (b := 1) rfl rfl hg252) rfl ?_
      refine wl_val (g_move (v := .int .i64 (v194 + 1)) rfl) rfl ?_
      refine wl_nil ?_
      have hS253 := hS248.f2
      have hS254 := hS253.tail
      have hS255 := hS254.f2
      have hS256 := hS255.tail
      have hS257 := hS256.f9
      have hS258 := hS257.f2
      have hS259 := hS258.f9
      have hS260 := hS259.f9
      have hS261 := hS260.f9
      have hS262 := hS261.f5
      have hS263 := hS262.f9
      have hS264 := hS263.f9
      have hS265 := hS264.f9
      have hS266 := hS265.f9
      exact ⟨((v194 + 1), (x195 ++ ([p0[(Int.toNat v194)]!.2])), a240, (n197 + 1), c241), hm.2, ⟨rfl, rfl, rfl, rfl, rfl, rfl, rfl, rfl, trivial⟩, ⟨hm.1, hB251, hS266⟩⟩
    · replace hm := hm.2 h219
      refine w_exit ?_
      exact ⟨(x195, a196, n197, c198), ⟨rfl, rfl, rfl, rfl, rfl, trivial⟩, ⟨hm, hB214, hS215⟩⟩
  · rintro ⟨x188, a189, n190, c191⟩ b_ w267 ⟨hm, hB268, hS269⟩
    show Wp _ _ _ _ (upds b_ [(3, .pointer (some (⟨g7, 0, none⟩ : Addr))), (4, .pointer (some (⟨g13, 0, none⟩ : Addr))), (5, .pointer (some (⟨g19, 0, none⟩ : Addr))), (6, .pointer (some (⟨g38, 0, none⟩ : Addr))), (7, .pointer (some (⟨g44, 0, none⟩ : Addr)))]) w267
    refine w_seq fun K270 hK270 => ?_
    refine w_region ?_
    refine wl_step rfl (q_alloc (cs := #[.nilFunc]) ZR86 rfl hS269) ?_
    rintro _ w271 ⟨g272, rfl, hS274, hE273⟩
    have hB276 := hB268.trans (Ext.stp hE273 hS269.base)
    refine wl_nil ?_
    refine hK270 _ _ ?_
    refine w_seq fun K277 hK277 => ?_
    refine w_region ?_
    refine wl_val (g_makeFunc (vs := #[.pointer (some (⟨g44, 0, none⟩ : Addr)), .pointer (some (⟨g13, 0, none⟩ : Addr)), .pointer (some (⟨g19, 0, none⟩ : Addr)), .pointer (some (⟨g7, 0, none⟩ : Addr)), .pointer (some (⟨g38, 0, none⟩ : Addr)), .pointer (some (⟨g272, 0, none⟩ : Addr))]) (args6 rfl rfl rfl rfl rfl rfl)) rfl ?_
    refine wl_step rfl (q_storeB (i := 0) (bs' := #[.func (.func 91) #[] #[.pointer (some (⟨g44, 0, none⟩ : Addr)), .pointer (some (⟨g13, 0, none⟩ : Addr)), .pointer (some (⟨g19, 0, none⟩ : Addr)), .pointer (some (⟨g7, 0, none⟩ : Addr)), .pointer (some (⟨g38, 0, none⟩ : Addr)), .pointer (some (⟨g272, 0, none⟩ : Addr))]]) (vs := [.func (.func 91) #[] #[.pointer (some (⟨g44, 0, none⟩ : Addr)), .pointer (some (⟨g13, 0, none⟩ : Addr)), .pointer (some (⟨g19, 0, none⟩ : Addr)), .pointer (some (⟨g7, 0, none⟩ : Addr)), .pointer (some (⟨g38, 0, none⟩ : Addr)), .pointer (some (⟨g272, 0, none⟩ : Addr))]]) hS274 ON86.sz rfl rfl rfl (by simp [Value.oneCell']) (Nat.le_of_ble_eq_true rfl) rfl) ?_
    rintro _ w278 ⟨rfl, hS279, hb280⟩
    have hB281 := hB276.trans hb280
    refine wl_nil ?_
    refine hK277 _ _ ?_
    refine w_region ?_
    refine wl_val (q_loadB (i := 0) (bs := #[.func (.func 91) #[] #[.pointer (some (⟨g44, 0, none⟩ : Addr)), .pointer (some (⟨g13, 0, none⟩ : Addr)), .pointer (some (⟨g19, 0, none⟩ : Addr)), .pointer (some (⟨g7, 0, none⟩ : Addr)), .pointer (some (⟨g38, 0, none⟩ : Addr)), .pointer (some (⟨g272, 0, none⟩ : Addr))]]) hS279.g0 ON86 rfl rfl) rfl ?_
    have hS282 := hS279.f8
    have hS283 := hS282.f8
    have hS284 := hS283.f3
    have hS285 := hS284.f3
    have hS286 := hS285.f9
    have hS287 := hS286.f8
    have hS288 := hS287.f6
    have hS289 := hS288.f8
    have hS290 := hS289.f8
    have hS291 := hS290.f10
    have hS292 := hS291.f10
    obtain ⟨f293, hm⟩ := hm
    refine wl_step rfl (g_callvc (f := 91) (va := #[]) (cap := #[.pointer (some (⟨g44, 0, none⟩ : Addr)), .pointer (some (⟨g13, 0, none⟩ : Addr)), .pointer (some (⟨g19, 0, none⟩ : Addr)), .pointer (some (⟨g7, 0, none⟩ : Addr)), .pointer (some (⟨g38, 0, none⟩ : Addr)), .pointer (some (⟨g272, 0, none⟩ : Addr))]) (vs := #[.pointer (some (⟨g44, 0, none⟩ : Addr)), .pointer (some (⟨g13, 0, none⟩ : Addr)), .pointer (some (⟨g19, 0, none⟩ : Addr)), .pointer (some (⟨g7, 0, none⟩ : Addr)), .pointer (some (⟨g38, 0, none⟩ : Addr)), .pointer (some (⟨g272, 0, none⟩ : Addr))]) CF91 rfl args0 rfl (m_impl_castings_1_CastingsOf_1_fn f293 hS292 (hp1.bel hB281) (hp0.bel hB281) hep2_0 hm)) ?_
    rintro _ w294 ⟨r297, x298, a299, n300, c301, x302, a303, n304, c305, x306, a307, n308, c309, y310, hm, he311, rfl, hb295, hS296⟩
    have hB312 := hB281.trans hb295
    refine wl_nil ?_
    have hS313 := hS296.tail
    have hS314 := hS313.tail
    have hS315 := hS314.tail
    have hS316 := hS315.tail
    have hS317 := hS316.tail
    have hS318 := hS317.tail
    have hS319 := hS318.tail
    have hS320 := hS319.tail
    repeat first | with_reducible refine q_then ?_ | with_reducible refine q_block ?_
    exact ret0n rfl ⟨_, _, _, _, _, hm, he311, rfl, hB312, hS320⟩

theorem m_impl_CastingsOf_fn {w : World} {a0 : Option Addr} {n0 c0 : Nat} {y0 : List PlayerD} {p0 : List PlayerC} {a1 : Option Addr} {n1 c1 : Nat} {p1 : List Int} {Q : (List (List Int)) → Prop} (hp0 : Tv w.heap.size w a0 n0 c0 y0 p0) (hp1 : Vw w.heap.size w a1 n1 c1 p1) (hm : m_impl_CastingsOf p0 p1 Q) :
    Fn Try.prog 27 #[.slice a0 n0 c0, .slice a1 n1 c1] w (fun v w' => ∃ (r0 : List (List Int)) (a0 : Option Addr) (n0 c0 : Nat) (y0 : List (Hd Int)), Q r0 ∧ ers y0 = r0 ∧ v = .slice a0 n0 c0 ∧ Ext w w' ∧ Sep w' w.heap.size [oS 23 a0 n0 c0 y0, oT 3 y0]) := by
  unfold m_impl_CastingsOf at hm
  have hB0 := Below.refl w.heap.size w
  have hS0 : Sep w w.heap.size [] := Sep.nil (Nat.le_refl _)
  refine fn_of_wp Try.func27 rfl (by kernel_rfl) (Nat.le_of_ble_eq_true rfl) ?_
  refine w_seq fun K1 hK1 => ?_
  refine w_region ?_
  refine wl_val (g_assign (v := .slice none 0 0) rfl) rfl ?_
  refine wl_nil ?_
  refine hK1 _ _ ?_
  refine w_seq fun K2 hK2 => ?_
  refine w_seq fun K3 hK3 => ?_
  refine w_region ?_
  refine wl_val (g_move (v := .slice a0 n0 c0) rfl) rfl ?_
  refine wl_step rfl (g_call (vs := #[.slice a0 n0 c0]) CF44 (args1 rfl) (m_impl_PlayersOk_fn ((hp0.bel hB0).up hS0) hm)) ?_
  rintro _ w4 ⟨r7, hm, rfl, hE5⟩
  have hB8 := hB0.trans (Ext.stp hE5 hS0.base)
  have hS9 := hS0.ext hE5
  refine wl_val (g_not (a := r7) rfl) rfl ?_
  refine wl_val (g_move (v := .bool (!r7)) rfl) rfl ?_
  refine wl_guard (c := (!r7) = false) (val := .slice a1 n1 c1) (b := ((!r7) == false)) (gv_some rfl rfl rfl) beq_iff_eq (fun hc10 => ?_) ?_
  · have hcq0 : ¬ (¬ (r7 = true)) := (i_neg (i_not Iff.rfl) hc10)
    exact g_move (v := .slice a1 n1 c1) rfl
  obtain ⟨r12, hk13, hm⟩ := hm
  refine wl_guardE (X := Ext) (c := (!r7) = false) (val := .bool r12) (Ext.refl _) (b := ((!r7) == false)) (gv_some rfl rfl rfl) beq_iff_eq (fun hc11 => ?_) (fun w14 hE15 => ?_)
  · have hcq0 : ¬ (¬ (r7 = true)) := (i_neg (i_not Iff.rfl) hc11)
    exact (g_call (vs := #[.slice a1 n1 c1]) CF61 (args1 (if_pos hc11)) ((m_impl_arePuppets_fn ((hp1.bel hB8).up hS9) (hk13 hcq0)).mono fun _ _ ⟨_, h1, h2, h3⟩ => ⟨by rw [h2, h1], h3⟩))
  have hB16 := hB8.trans (Ext.stp hE15 hS9.base)
  have hS17 := hS9.ext hE15
  refine wl_guard (c := (!r7) = false) (val := .bool (!r12)) (b := ((!r7) == false)) (gv_some rfl rfl rfl) beq_iff_eq (fun hc18 => ?_) ?_
  · have hcq0 : ¬ (¬ (r7 = true)) := (i_neg (i_not Iff.rfl) hc18)
    exact g_not (a := r12) (if_pos hc18)
  refine wl_val (g_pick_or (b := (!r7)) (q := (!r12)) rfl rfl) rfl ?_
  refine wl_val (g_move (v := .bool ((!r7) || (!r12))) rfl) rfl ?_
  refine wl_guard (c := ((!r7) || (!r12)) = false) (val := .slice a1 n1 c1) (b := (((!r7) || (!r12)) == false)) (gv_some rfl rfl rfl) beq_iff_eq (fun hc19 => ?_) ?_
  · have hcq1 : ¬ (((¬ (r7 = true)) ∨ (¬ (r12 = true)))) := (i_neg (i_or (i_not Iff.rfl) (i_not Iff.rfl)) hc19)
    exact g_move (v := .slice a1 n1 c1) rfl
  refine wl_guard (c := ((!r7) || (!r12)) = false) (val := .int .i64 (p1.length : Int)) (b := (((!r7) || (!r12)) == false)) (gv_some rfl rfl rfl) beq_iff_eq (fun hc20 => ?_) ?_
  · have hcq1 : ¬ (((¬ (r7 = true)) ∨ (¬ (r12 = true)))) := (i_neg (i_or (i_not Iff.rfl) (i_not Iff.rfl)) hc20)
    exact q_len SL23 (if_pos hc20) (Vw.len (hp1.bel hB16))
  refine wl_guard (c := ((!r7) || (!r12)) = false) (val := .bool (decide ((p1.length : Int) > 4))) (b := (((!r7) || (!r12)) == false)) (gv_some rfl rfl rfl) beq_iff_eq (fun hc21 => ?_) ?_
  · have hcq1 : ¬ (((¬ (r7 = true)) ∨ (¬ (r12 = true)))) := (i_neg (i_or (i_not Iff.rfl) (i_not Iff.rfl)) hc21)
    exact g_gtr (a := (p1.length : Int)) (b := 4) (if_pos hc21) rfl
  refine wl_val (g_pick_or (b := ((!r7) || (!r12))) (q := (decide ((p1.length : Int) > 4))) rfl rfl) rfl ?_
  refine wl_nil ?_
  refine hK3 _ _ ?_
  refine w_condI (p := ((((¬ (r7 = true)) ∨ (¬ (r12 = true)))) ∨ ((p1.length : Int) > 4))) (b := (((!r7) || (!r12)) || (decide ((p1.length : Int) > 4)))) rfl (i_or (i_or (i_not Iff.rfl) (i_not Iff.rfl)) decide_eq_true_iff) (fun h22 => ?_) (fun h22 => ?_)
  · replace hm := hm.1 h22
    refine w_seq fun K23 hK23 => ?_
    refine w_region ?_
    refine wl_val (g_assign (v := .slice none 0 0) rfl) rfl ?_
    refine wl_nil ?_
    refine hK23 _ _ ?_
    refine w_ret ?_
    have hS24 := hS17.nilS (α := (Hd Int)) (E := 23)
    have hS26 := hS24.noRows (δ := Hd Int) (E := 3)
    have he28 : ers ([] : List (Hd Int)) = ([] : List (List Int)) := rfl
    have hS30 := hS26.f1
    repeat first | with_reducible refine q_then ?_ | with_reducible refine q_block ?_
    exact ret1 rfl (by decide) ⟨_, _, _, _, _, hm, he28, rfl, toExt hB16, hS30⟩
  · replace hm := hm.2 h22
    refine w_skip ?_
    refine hK2 _ _ ?_
    refine w_seq fun K31 hK31 => ?_
    refine w_region ?_
    refine wl_step rfl (q_lit0 (α := (Hd Int)) rfl SL37 hS17) ?_
    rintro _ w32 ⟨a33, rfl, hS35, hE34⟩
    have hB37 := hB16.trans (Ext.stp hE34 hS17.base)
    have hS38 := hS35.noRows (δ := Hd Int) (E := 3)
    have he40 : ers ([] : List (Hd Int)) = ([] : List (List Int)) := rfl
    refine wl_step rfl (q_alloc (cs := #[.slice none 0 0]) ZR37 rfl hS38) ?_
    rintro _ w42 ⟨g43, rfl, hS45, hE44⟩
    have hB47 := hB37.trans (Ext.stp hE44 hS38.base)
    refine wl_step rfl (q_storeB (i := 0) (bs' := #[.slice a33 0 0]) (vs := [.slice a33 0 0]) hS45 ON37.sz rfl rfl rfl (by simp [Value.oneCell']) (Nat.le_of_ble_eq_true rfl) rfl) ?_
    rintro _ w48 ⟨rfl, hS49, hb50⟩
    have hB51 := hB47.trans hb50
    refine wl_nil ?_
    refine hK31 _ _ ?_
    refine w_seq fun K52 hK52 => ?_
    refine w_region ?_
    refine wl_val (g_move (v := .slice a0 n0 c0) rfl) rfl ?_
    refine wl_val (g_move (v := .slice a1 n1 c1) rfl) rfl ?_
    refine wl_val (g_makeFunc (vs := #[.pointer (some (⟨g43, 0, none⟩ : Addr))]) (args1 rfl)) rfl ?_
    have hS53 := hS49.f1
    have hS54 := hS53.f2
    have hS55 := hS54.f2
    refine wl_step rfl (g_call (vs := #[.slice a0 n0 c0, .slice a1 n1 c1, .func (.func 72) #[] #[.pointer (some (⟨g43, 0, none⟩ : Addr))]]) CF62 (args3 rfl rfl rfl) (m_impl_castings_CastingsOf_1_fn hS55 (hp0.bel hB51) (hp1.bel hB51) he40 hm)) ?_
    rintro _ w56 ⟨x59, a60, n61, c62, y63, hm, he64, rfl, hb57, hS58⟩
    have hB65 := hB51.trans hb57
    refine wl_nil ?_
    refine hK52 _ _ ?_
    refine w_seq fun K66 hK66 => ?_
    refine w_region ?_
    refine wl_val (q_loadB (i := 0) (bs := #[.slice a60 n61 c62]) hS58.g0 ON37 rfl rfl) rfl ?_
    refine wl_val (g_assign (v := .slice a60 n61 c62) rfl) rfl ?_
    refine wl_nil ?_
    refine hK66 _ _ ?_
    refine w_ret ?_
    have hS67 := hS58.tail
    repeat first | with_reducible refine q_then ?_ | with_reducible refine q_block ?_
    exact ret1 rfl (by decide) ⟨_, _, _, _, _, hm, he64, rfl, toExt hB65, hS67⟩

theorem m_impl_changes_fn {w : World} {a0 : Option Addr} {n0 c0 : Nat} {p0 : List Int} {a1 : Option Addr} {n1 c1 : Nat} {p1 : List Int} {a2 : Option Addr} {n2 c2 : Nat} {p2 : List Int} {a3 : Option Addr} {n3 c3 : Nat} {p3 : List Int} {Q : Int → Prop} (hp0 : Vw w.heap.size w a0 n0 c0 p0) (hp1 : Vw w.heap.size w a1 n1 c1 p1) (hp2 : Vw w.heap.size w a2 n2 c2 p2) (hp3 : Vw w.heap.size w a3 n3 c3 p3) (hm : m_impl_changes p0 p1 p2 p3 Q) :
    Fn Try.prog 78 #[.slice a0 n0 c0, .slice a1 n1 c1, .slice a2 n2 c2, .slice a3 n3 c3] w (fun v w' => ∃ (r0 : Int), Q r0 ∧ v = .int .i64 r0 ∧ Ext w w') := by
  unfold m_impl_changes at hm
  have hB0 := Below.refl w.heap.size w
  have hS0 : Sep w w.heap.size [] := Sep.nil (Nat.le_refl _)
  refine fn_of_wp Try.func78 rfl (by kernel_rfl) (Nat.le_of_ble_eq_true rfl) ?_
  refine w_seq fun K1 hK1 => ?_
  refine w_region ?_
  refine wl_val (g_assign (v := .int .i64 0) rfl) rfl ?_
  refine wl_nil ?_
  refine hK1 _ _ ?_
  refine w_seq fun K2 hK2 => ?_
  refine w_region ?_
  refine wl_val (g_assign (v := .int .i64 0) rfl) rfl ?_
  refine wl_nil ?_
  refine hK2 _ _ ?_
  refine w_cut (σ := Int) (fun v432 => [(9, .int .i64 v432)]) (fun v432 w' => m_impl_changes_K1 Q v432 ∧ Below w.heap.size w w' ∧ Sep w' w.heap.size []) ?_ ?_
  · refine w_seq fun K434 hK434 => ?_
    refine w_region ?_
    refine wl_val (g_move (v := .slice a0 n0 c0) rfl) rfl ?_
    refine wl_val (q_len SL23 rfl (Vw.len (hp0.bel hB0))) rfl ?_
    refine wl_val (g_move (v := .int .i64 0) rfl) rfl ?_
    refine wl_nil ?_
    refine hK434 _ _ ?_
    refine w_block ?_
    obtain ⟨I437, μ438, h0439, hr440⟩ := hm
    refine w_for (σ := Int × Int) (fun ⟨v435, v436⟩ => [(1, .slice a1 n1 c1), (2, .slice a2 n2 c2), (3, .slice a3 n3 c3), (9, .int .i64 v435), (14, .slice a0 n0 c0), (15, .int .i64 (p0.length : Int)), (16, .int .i64 v436)]) (fun ⟨v435, v436⟩ w' => I437 v435 v436 ∧ Below w.heap.size w w' ∧ Sep w' w.heap.size []) (fun ⟨v435, v436⟩ => μ438 v435 v436) (0, 0) ⟨rfl, rfl, rfl, rfl, rfl, rfl, rfl, trivial⟩ ⟨h0439, hB0, hS0⟩ ?_
    rintro ⟨v435, v436⟩ b_ w441 ⟨hi_, hB442, hS443⟩
    show Wp _ _ _ _ (upds b_ [(1, .slice a1 n1 c1), (2, .slice a2 n2 c2), (3, .slice a3 n3 c3), (9, .int .i64 v435), (14, .slice a0 n0 c0), (15, .int .i64 (p0.length : Int)), (16, .int .i64 v436)]) w441
    have hm := hr440 v435 v436 hi_
    refine w_seq fun K445 hK445 => ?_
    refine w_region ?_
    refine wl_val (g_lss (a := v436) (b := (p0.length : Int)) rfl rfl) rfl ?_
    refine wl_nil ?_
    refine hK445 _ _ ?_
    refine w_seq fun K446 hK446 => ?_
    refine w_condI (p := v436 < (p0.length : Int)) (b := (decide (v436 < (p0.length : Int)))) rfl decide_eq_true_iff (fun h447 => ?_) (fun h447 => ?_)
    · replace hm := hm.1 h447
      refine w_skip ?_
      refine hK446 _ _ ?_
      refine w_cut (σ := Int) (fun v448 => [(1, .slice a1 n1 c1), (2, .slice a2 n2 c2), (3, .slice a3 n3 c3), (9, .int .i64 v448), (14, .slice a0 n0 c0), (15, .int .i64 (p0.length : Int)), (16, .int .i64 v436)]) (fun v448 w' => m_impl_changes_K0 v436 (fun v435' v436' => I437 v435' v436' ∧ μ438 v435' v436' < μ438 v435 v436) v448 ∧ Below w.heap.size w w' ∧ Sep w' w.heap.size []) ?_ ?_
      · refine w_block ?_
        refine w_seq fun K450 hK450 => ?_
        refine w_region ?_
        refine wl_val (g_move (v := .int .i64 v436) rfl) rfl ?_
        obtain ⟨hg451, hm⟩ := hm
        refine wl_val (q_index (i := v436) SL23 rfl rfl (hp0.bel hB442) hg451) rfl ?_
        refine wl_val (q_load (i := v436) (v := .int .i64 (p0[(Int.toNat v436)]!)) ON3 (hp0.bel hB442) hg451 rfl rfl) rfl ?_
        refine wl_val (g_assign (v := .int .i64 v436) rfl) rfl ?_
        refine wl_val (g_assign (v := .int .i64 (p0[(Int.toNat v436)]!)) rfl) rfl ?_
        refine wl_nil ?_
        refine hK450 _ _ ?_
        refine w_seq fun K452 hK452 => ?_
        refine w_region ?_
        refine wl_val (g_move (v := .slice a2 n2 c2) rfl) rfl ?_
        refine wl_val (q_len SL23 rfl (Vw.len (hp2.bel hB442))) rfl ?_
        refine wl_val (g_move (v := .int .i64 0) rfl) rfl ?_
        refine wl_nil ?_
        refine hK452 _ _ ?_
        refine w_block ?_
        obtain ⟨I455, μ456, h0457, hr458⟩ := hm
        refine w_for (σ := Int × Int) (fun ⟨v453, v454⟩ => [(1, .slice a1 n1 c1), (2, .slice a2 n2 c2), (3, .slice a3 n3 c3), (9, .int .i64 v453), (10, .int .i64 v436), (11, .int .i64 (p0[(Int.toNat v436)]!)), (14, .slice a0 n0 c0), (15, .int .i64 (p0.length : Int)), (16, .int .i64 v436), (21, .slice a2 n2 c2), (22, .int .i64 (p2.length : Int)), (23, .int .i64 v454)]) (fun ⟨v453, v454⟩ w' => I455 v453 v454 ∧ Below w.heap.size w w' ∧ Sep w' w.heap.size []) (fun ⟨v453, v454⟩ => μ456 v453 v454) (v435, 0) ⟨rfl, rfl, rfl, rfl, rfl, rfl, rfl, rfl, rfl, rfl, rfl, rfl, trivial⟩ ⟨h0457, hB442, hS443⟩ ?_
        rintro ⟨v453, v454⟩ b_ w459 ⟨hi_, hB460, hS461⟩
        show Wp _ _ _ _ (upds b_ [(1, .slice a1 n1 c1), (2, .slice a2 n2 c2), (3, .slice a3 n3 c3), (9, .int .i64 v453), (10, .int .i64 v436), (11, .int .i64 (p0[(Int.toNat v436)]!)), (14, .slice a0 n0 c0), (15, .int .i64 (p0.length : Int)), (16, .int .i64 v436), (21, .slice a2 n2 c2), (22, .int .i64 (p2.length : Int)), (23, .int .i64 v454)]) w459
        have hm := hr458 v453 v454 hi_
        refine w_seq fun K463 hK463 => ?_
        refine w_region ?_
        refine wl_val (g_lss (a := v454) (b := (p2.length : Int)) rfl rfl) rfl ?_
        refine wl_nil ?_
        refine hK463 _ _ ?_
        refine w_seq fun K464 hK464 => ?_
        refine w_condI (p := v454 < (p2.length : Int)) (b := (decide (v454 < (p2.length : Int)))) rfl decide_eq_true_iff (fun h465 => ?_) (fun h465 => ?_)
        · replace hm := hm.1 h465
          refine w_skip ?_
          refine hK464 _ _ ?_
          refine w_seq fun K466 hK466 => ?_
          refine w_block ?_
          refine w_seq fun K467 hK467 => ?_
          refine w_region ?_
          refine wl_val (g_move (v := .int .i64 v454) rfl) rfl ?_
          obtain ⟨hg468, hm⟩ := hm
          refine wl_val (q_index (i := v454) SL23 rfl rfl (hp2.bel hB460) hg468) rfl ?_
          refine wl_val (q_load (i := v454) (v := .int .i64 (p2[(Int.toNat v454)]!)) ON3 (hp2.bel hB460) hg468 rfl rfl) rfl ?_
          refine wl_val (g_assign (v := .int .i64 v454) rfl) rfl ?_
          refine wl_val (g_assign (v := .int .i64 (p2[(Int.toNat v454)]!)) rfl) rfl ?_
          refine wl_nil ?_
          refine hK467 _ _ ?_
          refine w_seq fun K469 hK469 => ?_
          refine w_draw (X := Ext) (Y := Ext) [] MIX (by decide +kernel) rfl Ext.refl (fun _ _ _ => Ext.trans) (fun _ _ _ => Chg.trans) (fun _ _ h => Ext.chg h _) (fun w470 hE471 => ?_)
          have hB472 := hB460.trans (Ext.stp hE471 hS461.base)
          have hS473 := hS461.ext hE471
          refine ⟨.int .i64 (p0[(Int.toNat v436)]!), fun w474 hX475 => od_plain rfl (by have hS476 := hS473.ext hX475; have hB477 := hB472.trans (Ext.stp hX475 hS473.base); exact is_ext (g_move (v := .int .i64 (p0[(Int.toNat v436)]!)) rfl)), ?_⟩
          refine ⟨.int .i64 (p2[(Int.toNat v454)]!), fun w478 hX479 => od_plain rfl (by have hS480 := hS473.ext hX479; have hB481 := hB472.trans (Ext.stp hX479 hS473.base); exact is_ext (g_move (v := .int .i64 (p2[(Int.toNat v454)]!)) rfl)), ?_⟩
          refine ⟨.bool (decide (p0[(Int.toNat v436)]! = p2[(Int.toNat v454)]!)), fun w482 hX483 => od_plain rfl (by have hS484 := hS473.ext hX483; have hB485 := hB472.trans (Ext.stp hX483 hS473.base); exact is_ext (g_eql (a := p0[(Int.toNat v436)]!) (b := p2[(Int.toNat v454)]!) rfl rfl)), ?_⟩
          refine ⟨.bool (decide (p0[(Int.toNat v436)]! = p2[(Int.toNat v454)]!)), fun w486 hX487 => od_plain rfl (by have hS488 := hS473.ext hX487; have hB489 := hB472.trans (Ext.stp hX487 hS473.base); exact is_ext (g_move (v := .bool (decide (p0[(Int.toNat v436)]! = p2[(Int.toNat v454)]!))) rfl)), ?_⟩
          refine ⟨if (decide (p0[(Int.toNat v436)]! = p2[(Int.toNat v454)]!)) = true then .slice a1 n1 c1 else undef, fun w490 hX491 => od_guard (c := (decide (p0[(Int.toNat v436)]! = p2[(Int.toNat v454)]!)) = true) (val := .slice a1 n1 c1) (b := ((decide (p0[(Int.toNat v436)]! = p2[(Int.toNat v454)]!)) == true)) (gv_some rfl rfl rfl) beq_iff_eq (fun hc494 => ?_), ?_⟩
          · have hS492 := hS473.ext hX491
            have hB493 := hB472.trans (Ext.stp hX491 hS473.base)
            have hcq4 : p0[(Int.toNat v436)]! = p2[(Int.toNat v454)]! := (decide_eq_true_iff.mp hc494)
            exact is_ext (g_move (v := .slice a1 n1 c1) rfl)
          refine ⟨if (decide (p0[(Int.toNat v436)]! = p2[(Int.toNat v454)]!)) = true then .int .i64 v436 else undef, fun w495 hX496 => od_guard (c := (decide (p0[(Int.toNat v436)]! = p2[(Int.toNat v454)]!)) = true) (val := .int .i64 v436) (b := ((decide (p0[(Int.toNat v436)]! = p2[(Int.toNat v454)]!)) == true)) (gv_some rfl rfl rfl) beq_iff_eq (fun hc499 => ?_), ?_⟩
          · have hS497 := hS473.ext hX496
            have hB498 := hB472.trans (Ext.stp hX496 hS473.base)
            have hcq4 : p0[(Int.toNat v436)]! = p2[(Int.toNat v454)]! := (decide_eq_true_iff.mp hc499)
            exact is_ext (g_move (v := .int .i64 v436) rfl)
          obtain ⟨hg505, hm⟩ := hm
          refine ⟨if (decide (p0[(Int.toNat v436)]! = p2[(Int.toNat v454)]!)) = true then .pointer (some ((adr a1).add ((Int.toNat v436) * El.m Int))) else undef, fun w500 hX501 => od_guard (c := (decide (p0[(Int.toNat v436)]! = p2[(Int.toNat v454)]!)) = true) (val := .pointer (some ((adr a1).add ((Int.toNat v436) * El.m Int)))) (b := ((decide (p0[(Int.toNat v436)]! = p2[(Int.toNat v454)]!)) == true)) (gv_some rfl rfl rfl) beq_iff_eq (fun hc504 => ?_), ?_⟩
          · have hS502 := hS473.ext hX501
            have hB503 := hB472.trans (Ext.stp hX501 hS473.base)
            have hcq4 : p0[(Int.toNat v436)]! = p2[(Int.toNat v454)]! := (decide_eq_true_iff.mp hc504)
            exact is_ext (q_index (i := v436) SL23 (if_pos hc504) (if_pos hc504) (hp1.bel hB503) (hg505 hcq4))
          refine ⟨if (decide (p0[(Int.toNat v436)]! = p2[(Int.toNat v454)]!)) = true then .int .i64 (p1[(Int.toNat v436)]!) else undef, fun w506 hX507 => od_guard (c := (decide (p0[(Int.toNat v436)]! = p2[(Int.toNat v454)]!)) = true) (val := .int .i64 (p1[(Int.toNat v436)]!)) (b := ((decide (p0[(Int.toNat v436)]! = p2[(Int.toNat v454)]!)) == true)) (gv_some rfl rfl rfl) beq_iff_eq (fun hc510 => ?_), ?_⟩
          · have hS508 := hS473.ext hX507
            have hB509 := hB472.trans (Ext.stp hX507 hS473.base)
            have hcq4 : p0[(Int.toNat v436)]! = p2[(Int.toNat v454)]! := (decide_eq_true_iff.mp hc510)
            exact is_ext (q_load (i := v436) (v := .int .i64 (p1[(Int.toNat v436)]!)) ON3 (hp1.bel hB509) (hg505 hcq4) rfl (if_pos hc510))
          refine ⟨if (decide (p0[(Int.toNat v436)]! = p2[(Int.toNat v454)]!)) = true then .slice a3 n3 c3 else undef, fun w511 hX512 => od_guard (c := (decide (p0[(Int.toNat v436)]! = p2[(Int.toNat v454)]!)) = true) (val := .slice a3 n3 c3) (b := ((decide (p0[(Int.toNat v436)]! = p2[(Int.toNat v454)]!)) == true)) (gv_some rfl rfl rfl) beq_iff_eq (fun hc515 => ?_), ?_⟩
          · have hS513 := hS473.ext hX512
            have hB514 := hB472.trans (Ext.stp hX512 hS473.base)
            have hcq4 : p0[(Int.toNat v436)]! = p2[(Int.toNat v454)]! := (decide_eq_true_iff.mp hc515)
            exact is_ext (g_move (v := .slice a3 n3 c3) rfl)
          refine ⟨if (decide (p0[(Int.toNat v436)]! = p2[(Int.toNat v454)]!)) = true then .int .i64 v454 else undef, fun w516 hX517 => od_guard (c := (decide (p0[(Int.toNat v436)]! = p2[(Int.toNat v454)]!)) = true) (val := .int .i64 v454) (b := ((decide (p0[(Int.toNat v436)]! = p2[(Int.toNat v454)]!)) == true)) (gv_some rfl rfl rfl) beq_iff_eq (fun hc520 => ?_), ?_⟩
          · have hS518 := hS473.ext hX517
            have hB519 := hB472.trans (Ext.stp hX517 hS473.base)
            have hcq4 : p0[(Int.toNat v436)]! = p2[(Int.toNat v454)]! := (decide_eq_true_iff.mp hc520)
            exact is_ext (g_move (v := .int .i64 v454) rfl)
          obtain ⟨hg526, hm⟩ := hm
          refine ⟨if (decide (p0[(Int.toNat v436)]! = p2[(Int.toNat v454)]!)) = true then .pointer (some ((adr a3).add ((Int.toNat v454) * El.m Int))) else undef, fun w521 hX522 => od_guard (c := (decide (p0[(Int.toNat v436)]! = p2[(Int.toNat v454)]!)) = true) (val := .pointer (some ((adr a3).add ((Int.toNat v454) * El.m Int)))) (b := ((decide (p0[(Int.toNat v436)]! = p2[(Int.toNat v454)]!)) == true)) (gv_some rfl rfl rfl) beq_iff_eq (fun hc525 => ?_), ?_⟩
          · have hS523 := hS473.ext hX522
            have hB524 := hB472.trans (Ext.stp hX522 hS473.base)
            have hcq4 : p0[(Int.toNat v436)]! = p2[(Int.toNat v454)]! := (decide_eq_true_iff.mp hc525)
            exact is_ext (q_index (i := v454) SL23 (if_pos hc525) (if_pos hc525) (hp3.bel hB524) (hg526 hcq4))
          refine ⟨if (decide (p0[(Int.toNat v436)]! = p2[(Int.toNat v454)]!)) = true then .int .i64 (p3[(Int.toNat v454)]!) else undef, fun w527 hX528 => od_guard (c := (decide (p0[(Int.toNat v436)]! = p2[(Int.toNat v454)]!)) = true) (val := .int .i64 (p3[(Int.toNat v454)]!)) (b := ((decide (p0[(Int.toNat v436)]! = p2[(Int.toNat v454)]!)) == true)) (gv_some rfl rfl rfl) beq_iff_eq (fun hc531 => ?_), ?_⟩
          · have hS529 := hS473.ext hX528
            have hB530 := hB472.trans (Ext.stp hX528 hS473.base)
            have hcq4 : p0[(Int.toNat v436)]! = p2[(Int.toNat v454)]! := (decide_eq_true_iff.mp hc531)
            exact is_ext (q_load (i := v454) (v := .int .i64 (p3[(Int.toNat v454)]!)) ON3 (hp3.bel hB530) (hg526 hcq4) rfl (if_pos hc531))
          refine ⟨if (decide (p0[(Int.toNat v436)]! = p2[(Int.toNat v454)]!)) = true then .bool (decide (p1[(Int.toNat v436)]! ≠ p3[(Int.toNat v454)]!)) else undef, fun w532 hX533 => od_guard (c := (decide (p0[(Int.toNat v436)]! = p2[(Int.toNat v454)]!)) = true) (val := .bool (decide (p1[(Int.toNat v436)]! ≠ p3[(Int.toNat v454)]!))) (b := ((decide (p0[(Int.toNat v436)]! = p2[(Int.toNat v454)]!)) == true)) (gv_some rfl rfl rfl) beq_iff_eq (fun hc536 => ?_), ?_⟩
          · have hS534 := hS473.ext hX533
            have hB535 := hB472.trans (Ext.stp hX533 hS473.base)
            have hcq4 : p0[(Int.toNat v436)]! = p2[(Int.toNat v454)]! := (decide_eq_true_iff.mp hc536)
            exact is_ext (g_neq (a := p1[(Int.toNat v436)]!) (b := p3[(Int.toNat v454)]!) (if_pos hc536) (if_pos hc536))
          refine ⟨.bool ((decide (p0[(Int.toNat v436)]! = p2[(Int.toNat v454)]!)) && (decide (p1[(Int.toNat v436)]! ≠ p3[(Int.toNat v454)]!))), fun w537 hX538 => od_plain rfl (by have hS539 := hS473.ext hX538; have hB540 := hB472.trans (Ext.stp hX538 hS473.base); exact is_ext (g_pick_and (b := (decide (p0[(Int.toNat v436)]! = p2[(Int.toNat v454)]!))) (q := (decide (p1[(Int.toNat v436)]! ≠ p3[(Int.toNat v454)]!))) rfl rfl)), ?_⟩
          intro w541 hX542
          have hB543 := hB472.trans (Ext.stp hX542 hS473.base)
          have hS544 := hS473.ext hX542
          refine hK469 _ _ ?_
          refine w_condI (p := ((p0[(Int.toNat v436)]! = p2[(Int.toNat v454)]!) ∧ (p1[(Int.toNat v436)]! ≠ p3[(Int.toNat v454)]!))) (b := ((decide (p0[(Int.toNat v436)]! = p2[(Int.toNat v454)]!)) && (decide (p1[(Int.toNat v436)]! ≠ p3[(Int.toNat v454)]!)))) rfl (i_and decide_eq_true_iff decide_eq_true_iff) (fun h545 => ?_) (fun h545 => ?_)
          · replace hm := hm.1 h545
            refine w_region ?_
            refine wl_val (g_move (v := .int .i64 v453) rfl) rfl ?_
            obtain ⟨hg546, hm⟩ := hm
            refine wl_val (g_add (a := v453) (b := 1) rfl rfl hg546) rfl ?_
            refine wl_val (g_assign (v := .int .i64 (v453 + 1)) rfl) rfl ?_
            refine wl_nil ?_
            refine hK466 _ _ ?_
            refine w_region ?_
            obtain ⟨hg547, hm⟩ := hm
            refine wl_val (g_add (a := v454) (b := 1) rfl rfl hg547) rfl ?_
            refine wl_val (g_move (v := .int .i64 (v454 + 1)) rfl) rfl ?_
            refine wl_nil ?_
            exact ⟨((v453 + 1), (v454 + 1)), hm.2, ⟨rfl, rfl, rfl, rfl, rfl, rfl, rfl, rfl, rfl, rfl, rfl, rfl, trivial⟩, ⟨hm.1, hB543, hS544⟩⟩
          · replace hm := hm.2 h545
            refine w_skip ?_
            refine hK466 _ _ ?_
            refine w_region ?_
            obtain ⟨hg548, hm⟩ := hm
            refine wl_val (g_add (a := v454) (b := 1) rfl rfl hg548) rfl ?_
            refine wl_val (g_move (v := .int .i64 (v454 + 1)) rfl) rfl ?_
            refine wl_nil ?_
            exact ⟨(v453, (v454 + 1)), hm.2, ⟨rfl, rfl, rfl, rfl, rfl, rfl, rfl, rfl, rfl, rfl, rfl, rfl, trivial⟩, ⟨hm.1, hB543, hS544⟩⟩
        · replace hm := hm.2 h465
          refine w_exit ?_
          exact ⟨(v453), ⟨rfl, rfl, rfl, rfl, rfl, rfl, rfl, trivial⟩, ⟨hm, hB460, hS461⟩⟩
      · rintro v448 b_ w549 ⟨hm, hB550, hS551⟩
        show Wp _ _ _ _ (upds b_ [(1, .slice a1 n1 c1), (2, .slice a2 n2 c2), (3, .slice a3 n3 c3), (9, .int .i64 v448), (14, .slice a0 n0 c0), (15, .int .i64 (p0.length : Int)), (16, .int .i64 v436)]) w549
        refine w_region ?_
        obtain ⟨hg552, hm⟩ := hm
        refine wl_val (g_add (a := v436) (b := 1) rfl rfl hg552) rfl ?_
        refine wl_val (g_move (v := .int .i64 (v436 + 1)) rfl) rfl ?_
        refine wl_nil ?_
        exact ⟨(v448, (v436 + 1)), hm.2, ⟨rfl, rfl, rfl, rfl, rfl, rfl, rfl, trivial⟩, ⟨hm.1, hB550, hS551⟩⟩
    · replace hm := hm.2 h447
      refine w_exit ?_
      exact ⟨(v435), ⟨rfl, trivial⟩, ⟨hm, hB442, hS443⟩⟩
  · rintro v432 b_ w553 ⟨hm, hB554, hS555⟩
    show Wp _ _ _ _ (upds b_ [(9, .int .i64 v432)]) w553
    refine w_seq fun K556 hK556 => ?_
    refine w_region ?_
    refine wl_val (g_move (v := .int .i64 v432) rfl) rfl ?_
    refine wl_val (g_assign (v := .int .i64 v432) rfl) rfl ?_
    refine wl_nil ?_
    refine hK556 _ _ ?_
    refine w_ret ?_
    repeat first | with_reducible refine q_then ?_ | with_reducible refine q_block ?_
    exact ret1 rfl (by decide) ⟨_, hm, rfl, toExt hB554⟩

end Go.Proofs.Ytddjkiefadiijaa
