/- Plain laws over the models: rails. No program, no statement of the claim. -/
import Derived.Test.YtebfcpninegcgaaPH1
import Derived.Test.YtebfcpninegcgaaPI
import Derived.Test.YtebfcpninegcgaaPJ
import Derived.Test.YtebfcpninegcgaaPBit
namespace Go.Proofs.Ytebfcpninegcgaa

theorem so_len {l : List Stay} (h : staysOk l = true) : l.length ≤ 20 := by
  unfold staysOk at h
  rw [Bool.and_eq_true] at h
  exact of_decide_eq_true h.2
theorem implSO_ok {l : List Stay} {Q : Bool → Prop} (hl : l.length ≤ 1048576) (h : Q (staysOk l)) : m_impl_StaysOk l Q := by
  refine ⟨fun v => 0 ≤ v ∧ v ≤ l.length ∧ (l.take v.toNat).all okS = true, fun v => (l.length - v).toNat, ⟨by omega, by omega, rfl⟩, ?_⟩
  rintro v ⟨v0, v1, v2⟩
  refine ⟨fun hd => ⟨⟨v0, hd⟩, within_ok ⟨fun hb => ?_, fun hb => ?_⟩⟩, fun hd => ?_⟩
  · rw [so_bad (k := v.toNat) (by omega) (fun ho => by
      have := okS_iff.1 ho
      rcases hb with ((hb | hb) | hb) | hb
      · exact hb (decide_eq_true (by omega))
      · omega
      · omega
      · omega)] at h
    exact h
  · have a1 := of_decide_eq_true (Classical.byContradiction fun hn => hb (.inl (.inl (.inl hn))))
    have a2 : ¬ (l[v.toNat]!.2.1 < 0) := fun hn => hb (.inl (.inl (.inr hn)))
    have a3 : ¬ (l[v.toNat]!.2.1 ≥ l[v.toNat]!.2.2) := fun hn => hb (.inl (.inr hn))
    have a4 : ¬ (l[v.toNat]!.2.2 > 1000) := fun hn => hb (.inr hn)
    have hok : okS l[v.toNat]! = true := okS_iff.2 (by omega)
    exact ⟨by omega, ⟨by omega, by omega, by rw [tn1 v0]; exact so_step (by omega) v2 hok⟩, by dsimp only; omega⟩
  · rw [so_good (k := v.toNat) (by omega) v2] at h
    have e : decide (l.length ≤ 20) = decide ((l.length : Int) ≤ 20) := by rw [decide_eq_decide]; omega
    show Q (decide ((l.length : Int) ≤ 20))
    rw [← e]; exact h
theorem lext! {x y : List Int} (hl : x.length = y.length) (h : ∀ i, i < x.length → x[i]! = y[i]!) : x = y := by
  apply List.ext_getElem hl
  intro i h1 h2
  have := h i h1
  simpa [h1, h2] using this
theorem set_self {x : List Int} {k : Nat} {v : Int} (hk : k < x.length) (h : x[k]! = v) : x.set k v = x := by
  apply lext! (by simp)
  intro i hi
  rw [gset' _ _ _ hk]
  by_cases e : k = i
  · subst e; rw [if_pos rfl, h]
  · rw [if_neg e]
theorem set_set {x : List Int} {k : Nat} {v v' : Int} : (x.set k v).set k v' = x.set k v' := by simp

/- the reference -/
/- the program -/
theorem ins_eq {c : List Int} {k : Nat} {i : Int} (hk : k ≤ c.length) : (cpL (c ++ [0]) (k + 1) ((c ++ [0]).drop k)).set k i = c.take k ++ [i] ++ c.drop k := by
  have h1 : cpL (c ++ [0]) (k + 1) ((c ++ [0]).drop k) = (c ++ [0]).take (k + 1) ++ c.drop k := by
    unfold cpL
    rw [List.drop_of_length_le (i := k + 1 + _) (by simp only [List.length_drop, List.length_append, List.length_singleton]; omega), List.append_nil, List.drop_append_of_le_length hk, List.length_append, List.length_singleton, show c.length + 1 - (k + 1) = c.length - k by omega]
    congr 1
    rw [List.take_append_of_le_length (by rw [List.length_drop]; omega), List.take_of_length_le (by rw [List.length_drop]; omega)]
  rw [h1]
  have h2 : (c ++ [0]).take (k + 1) = (c ++ [0]).take k ++ [(c ++ [0])[k]!] := take_snoc! _ _ (by simp; omega)
  have h3 : (c ++ [0]).take k = c.take k := List.take_append_of_le_length hk
  rw [h2, h3, List.append_assoc, List.append_assoc, List.set_append_right _ _ (by rw [List.length_take]; omega), List.length_take, Nat.min_eq_left hk, Nat.sub_self]
  rfl
theorem mapc_get {o : List Nat} {j : Nat} (h : j < o.length) : (o.map fun x : Nat => (x : Int))[j]! = ((o[j]! : Nat) : Int) := by simp [h]
theorem implRF_ok {l : List Stay} {Q : List Int → Prop} (hl : l.length ≤ 1048576) (h : Q (railsL l)) : m_impl_RailsFor l Q := by
  unfold railsL at h
  refine implSO_ok hl ⟨fun hc => by rw [if_neg hc] at h; exact h, fun hc => ?_⟩
  have hok := Classical.not_not.1 hc
  rw [if_pos hok] at h
  have h20 := so_len hok
  refine ⟨fun o i => 0 ≤ i ∧ i ≤ l.length ∧ o = (ordN l i.toNat).map fun x : Nat => (x : Int), fun o i => (l.length - i).toNat, ⟨by omega, by omega, rfl⟩, ?_⟩
  rintro o i ⟨i0, i1, rfl⟩
  have hlen := ordN_len l i.toNat
  have hmem := ordN_mem l i.toNat
  have hml : ((ordN l i.toNat).map fun x : Nat => (x : Int)).length = i.toNat := by rw [List.length_map, hlen]
  refine ⟨fun hi => ⟨⟨i0, hi⟩, fun k => 0 ≤ k ∧ k ≤ i ∧ posO l (ordN l i.toNat) i.toNat (ordN l i.toNat).length = posO l (ordN l i.toNat) i.toNat k.toNat, fun k => k.toNat, ⟨by omega, by omega, by rw [hml, hlen]; rfl⟩, ?_⟩, fun hi => ?_⟩
  · rintro k ⟨k0, k1, k2⟩
    have hgk : k > 0 → ((ordN l i.toNat).map fun x : Nat => (x : Int))[(k - 1).toNat]! = (((ordN l i.toNat)[k.toNat - 1]! : Nat) : Int) ∧ (ordN l i.toNat)[k.toNat - 1]! < i.toNat := fun hk => by
      rw [mapc_get (by omega), show (k - 1).toNat = k.toNat - 1 by omega]
      exact ⟨rfl, (hmem _).1 (get_mem (by omega))⟩
    refine ⟨fun _ => by omega, fun hk => ⟨by omega, by omega⟩, fun hk => ?_, fun hp => ?_, fun hp => ?_⟩
    · have := hgk hk
      rw [this.1]; exact ⟨by omega, by omega⟩
    · have hg := hgk hp.1
      have hp2 := hp.2
      rw [hg.1, show Int.toNat (((ordN l i.toNat)[k.toNat - 1]! : Nat) : Int) = (ordN l i.toNat)[k.toNat - 1]! by omega] at hp2
      refine ⟨by omega, ⟨by omega, by omega, ?_⟩, (by dsimp only; omega)⟩
      have e : k.toNat = (k - 1).toNat + 1 := by omega
      rw [k2, e, posO, if_pos (by rw [show (k - 1).toNat = k.toNat - 1 by omega]; exact hp2)]
    · have hpos : posO l (ordN l i.toNat) i.toNat (ordN l i.toNat).length = k.toNat := by
        rw [k2]
        rcases Int.lt_or_le 0 k with hk | hk
        · have hg := hgk hk
          have e : k.toNat = (k - 1).toNat + 1 := by omega
          rw [e, posO, if_neg]
          intro hx
          refine hp ⟨hk, ?_⟩
          rw [hg.1, show Int.toNat (((ordN l i.toNat)[k.toNat - 1]! : Nat) : Int) = (ordN l i.toNat)[k.toNat - 1]! by omega]
          rw [show (k - 1).toNat = k.toNat - 1 by omega] at hx
          exact hx
        · rw [show k.toNat = 0 by omega]; rfl
      have hle : k.toNat ≤ ((ordN l i.toNat).map fun x : Nat => (x : Int)).length := by omega
      have hins := ins_eq (c := (ordN l i.toNat).map fun x : Nat => (x : Int)) (k := k.toNat) (i := i) hle
      have hcl : (cpL (((ordN l i.toNat).map fun x : Nat => (x : Int)) ++ [0]) (k + 1).toNat ((((ordN l i.toNat).map fun x : Nat => (x : Int)) ++ [0]).drop k.toNat)).length = i.toNat + 1 := by
        rw [tn1 k0]
        have := congrArg List.length hins
        rw [List.length_set] at this
        rw [this]
        simp only [List.length_append, List.length_take, List.length_drop, List.length_singleton]; omega
      have hal : (((ordN l i.toNat).map fun x : Nat => (x : Int)) ++ [0]).length = i.toNat + 1 := by rw [List.length_append, hml, List.length_singleton]
      refine ⟨by omega, by omega, ⟨by omega, by omega⟩, ⟨by omega, by omega⟩, ⟨by omega, by omega⟩, by omega, ⟨by omega, by omega, ?_⟩, (by dsimp only; omega)⟩
      rw [tn1 k0, hins, tn1 i0, ordN, insO, hpos, List.map_append, List.map_append, List.map_take, List.map_drop]
      have : ((i.toNat : Nat) : Int) = i := by omega
      simp [this]
  · have hin : i.toNat = l.length := by omega
    rw [hin] at hlen hmem hml
    rw [hin]
    refine ⟨⟨by omega, by omega⟩, fun out x => 0 ≤ x ∧ x ≤ l.length ∧ out = outR l l.length x.toNat, fun out x => (l.length - x).toNat, ⟨by omega, by omega, by rw [show Int.toNat (l.length : Int) = l.length by omega]; rfl⟩, ?_⟩
    rintro out x ⟨x0, x1, hout⟩
    obtain ⟨bd1, bd2⟩ := outR_bd (l := l) (n := l.length) x.toNat (by omega)
    have hol := outR_len l l.length x.toNat
    rw [← hout] at bd1 bd2 hol
    refine ⟨fun hd => ?_, fun hd => ?_⟩
    · rw [hml] at hd
      have hx : x.toNat < l.length := by omega
      have hxo := ord_not (l := l) hx (Nat.le_refl x.toNat)
      have hxn := (hmem _).1 (get_mem (o := ordN l l.length) (j := x.toNat) (by omega))
      have hgx := mapc_get (o := ordN l l.length) (j := x.toNat) (by omega)
      have hgy : ∀ j, j < x.toNat → (((ordN l l.length).map fun x : Nat => (x : Int)).take x.toNat)[j]! = (((ordN l l.length)[j]! : Nat) : Int) := fun j hj => by
        rw [← List.map_take, mapc_get (by rw [List.length_take]; omega)]
        congr 1
        simp [List.getElem!_eq_getElem?_getD, List.getElem?_take, hj]
      have htl : (((ordN l l.length).map fun x : Nat => (x : Int)).take x.toNat).length = x.toNat := by rw [List.length_take, hml]; omega
      have hok0 := bd2 _ hxn hxo
      rw [hgx]
      generalize hkk : (ordN l l.length)[x.toNat]! = k at *
      rw [show Int.toNat ((k : Nat) : Int) = k by omega]
      refine ⟨⟨x0, by omega⟩, ⟨by omega, by omega⟩, fun t y => 0 ≤ y ∧ y ≤ x ∧ t = tkL l (ordN l l.length) out y.toNat k, fun t y => (x - y).toNat, ⟨by omega, by omega, rfl⟩, ?_⟩
      rintro t y ⟨y0, y1, rfl⟩
      rw [htl]
      have htk := tk_step (l := l) (o := ordN l l.length) (out := out) (x := y.toNat) (i := k)
      refine ⟨fun hy => ?_, fun hy => ?_⟩
      · have hgj := hgy y.toNat (by omega)
        have hj := (hmem _).1 (get_mem (o := ordN l l.length) (j := y.toNat) (by omega))
        have hst := htk (by omega)
        have htkl : (tkL l (ordN l l.length) out y.toNat k).length ≤ 20 := by
          unfold tkL
          rw [List.length_map]
          exact Nat.le_trans (List.length_filter_le _ _) (by rw [List.length_take]; omega)
        rw [hgj]
        generalize (ordN l l.length)[y.toNat]! = j at *
        rw [show Int.toNat ((j : Nat) : Int) = j by omega]
        refine ⟨⟨y0, by omega⟩, ⟨by omega, by omega⟩, ⟨by omega, by omega⟩, fun _ => ⟨by omega, by omega⟩, fun _ => ⟨by omega, by omega⟩, fun hp => ?_, fun hp => ?_⟩
        · have hov : ov l k j = true := ov_iff.2 hp
          refine ⟨⟨by omega, by omega⟩, by omega, by omega, ⟨by omega, by omega, ?_⟩, (by dsimp only; omega)⟩
          rw [tn1 y0, hst, if_pos hov]
        · refine ⟨by omega, ⟨by omega, by omega, ?_⟩, (by dsimp only; omega)⟩
          rw [tn1 y0, hst, if_neg (fun hov => hp (ov_iff.1 hov)), List.append_nil]
      · have hyx : y.toNat = x.toNat := by omega
        rw [hyx]
        have hsb : ∀ r, r ∈ tkL l (ordN l l.length) out x.toNat k → r < (x.toNat : Int) := fun r hr => by
          obtain ⟨j, hj, _, e⟩ := tk_mem.1 hr
          rw [← e]; exact (bd1 j hj).2
        have htkl : (tkL l (ordN l l.length) out x.toNat k).length ≤ 20 := by
          unfold tkL
          rw [List.length_map]
          exact Nat.le_trans (List.length_filter_le _ _) (by rw [List.length_take]; omega)
        refine ⟨fun y => ∃ v : Nat, v ≤ x.toNat ∧ y = out.set k (v : Int) ∧ mexF (tkL l (ordN l l.length) out x.toNat k) 21 0 = mexF (tkL l (ordN l l.length) out x.toNat k) (21 - v) (v : Int), fun y => (21 - y[k]!).toNat, ⟨0, by omega, (set_self (by omega) hok0).symm, rfl⟩, ?_⟩
        rintro y ⟨v, v1, rfl, v2⟩
        have hg : (out.set k (v : Int))[k]! = (v : Int) := by rw [gset' _ _ _ (by omega), if_pos rfl]
        have hyl : (out.set k (v : Int)).length = l.length := by rw [List.length_set, hol]
        rw [hgx, show Int.toNat ((k : Nat) : Int) = k by omega, hg]
        refine ⟨⟨by omega, by omega⟩, indexOf_ok (by omega) ⟨fun hb => ?_, fun hb => ?_⟩⟩
        · have hin := (ixOf_mem _ _).1 hb
          have := hsb _ hin
          refine ⟨⟨by omega, by omega⟩, by omega, ⟨by omega, by omega⟩, ⟨v + 1, by omega, by rw [set_set]; rfl, ?_⟩, ?_⟩
          · rw [v2, show 21 - v = (21 - (v + 1)) + 1 by omega, mexF, if_pos hin]; rfl
          · dsimp only
            rw [set_set, hg, gset' _ _ _ (by omega), if_pos rfl]; omega
        · have hnin : ¬ (v : Int) ∈ tkL l (ordN l l.length) out x.toNat k := fun hx => hb ((ixOf_mem _ _).2 hx)
          have hv : mexF (tkL l (ordN l l.length) out x.toNat k) 21 0 = (v : Int) := by
            rw [v2, show 21 - v = (20 - v) + 1 by omega, mexF, if_neg hnin]
          refine ⟨by omega, ⟨by omega, by omega, ?_⟩, (by dsimp only; omega)⟩
          rw [tn1 x0, outR, hkk, ← hout, hv]
    · show Q out
      rw [hml] at hd
      rw [hout, show x.toNat = l.length by omega]; exact h
end Go.Proofs.Ytebfcpninegcgaa
