/- The plain law of twists: its model answers true. No program. -/
import Derived.Test.YtcgkcoogaieolaaPBY
namespace Go.Proofs.Ytcgkcoogaieolaa
theorem law_PTwists {b : List Byte} (hb : b.length ≤ 9223372036854775807) : m_laws_FnTwists b (fun r => r = true) := by
  refine ⟨fun _ => rfl, fun hn => ?_⟩
  have hbl : b.length ≤ 1099511627776 := by
    have : ¬ ((b.length : Int) > 1048576) := fun hx => hn (decide_eq_true hx)
    omega
  refine ⟨hbl, crosses_ok fun n l n2 n5 hin hl9 => implTT_ok (specOA_ok ?_)⟩
  have hc := co_of (n := n) (l := l) (by omega) (by omega) (by omega) hin
  have hup : Pm n (upL (n : Int)) := upL_pm (n : Int)
  have hpo : Pm n (ord (n : Int) l) := ord_pm' hc
  have hsu : Su n (ord (n : Int) l) := fo_su hup (upL_su n) hin
  have hta : twA (n : Int) l = twT (n : Int) l := by unfold twA; rw [if_pos hc]
  have hoa : ordA (n : Int) l = ord (n : Int) l := by unfold ordA; rw [if_pos hc]
  have htb := tw_tb hc l.length (Nat.le_refl _)
  have hlen : (twT (n : Int) l).length = n := htb.len
  have hrow : ∀ i, i < n → ((twT (n : Int) l)[i]!).length = n := htb.row
  have hval : ∀ i j, i < n → j < n → ((twT (n : Int) l)[i]!)[j]! = twf i j (upL (n : Int)) l := fun i j hi hj => twT_at hc (by omega) (by omega)
  have hbd : ∀ i j, i < n → j < n → -9 ≤ ((twT (n : Int) l)[i]!)[j]! ∧ ((twT (n : Int) l)[i]!)[j]! ≤ 9 := fun i j hi hj => by
    have := htb.bd i j hi hj
    have e : (tw (n : Int) l l.length) = twT (n : Int) l := rfl
    rw [e] at this; omega
  have hsym : ∀ i j : Nat, ((twT (n : Int) l)[i]!)[j]! = ((twT (n : Int) l)[j]!)[i]! := fun i j => tw_sym hc l.length (Nat.le_refl _) i j
  have hdia : ∀ i, i < n → ((twT (n : Int) l)[i]!)[i]! = 0 := fun i hi => tw_diag hc l.length (Nat.le_refl _) i (by omega)
  rw [hta, hoa]
  have hpl : ∀ x : Nat, x < n → ∃ p : Nat, p < n ∧ (ord (n : Int) l)[p]! = (x : Int) ∧ m_spec_PlaceOf (ord (n : Int) l) (x : Int) (fun z => z = (p : Int)) := fun x hx => by
    obtain ⟨p, hp, e⟩ := hsu x hx
    exact ⟨p, hp, e, place_ok hpo hsu (by omega) (by omega) hx fun q hq eq => by rw [hpo.inj q p hq hp (by rw [eq, e])]⟩
  have htl : m_laws_FnTwists_K1 (n : Int) l (ord (n : Int) l) (fun r => r = true) (sumTo (fun a => sumTo (fun c => ((twT (n : Int) l)[a]!)[c]!) a) n) (sumTo (fun a => sumTo (gT (twT (n : Int) l) a) a) n) (sumTo (fun a => sumTo (fun c => if ((twT (n : Int) l)[a]!)[c]! ≠ 0 then 1 else 0) a) n) := by
    have hp1 : psum (fun j i => twf i j (upL (n : Int)) l) n = sgs l := ptw_sum hup hin
    have e1 : sumTo (fun a => sumTo (fun c => ((twT (n : Int) l)[a]!)[c]!) a) n = sgs l := by
      rw [← hp1]
      exact sumTo_congr fun i hi => sumTo_congr fun j hj => hval i j hi (by omega)
    obtain ⟨r1, r2, r3⟩ := red_same hin hup l.length (Nat.le_refl _)
    rw [List.take_length] at r3
    obtain ⟨u1, u2⟩ := undo_same hup hin
    have hul : (undo l).length = l.length := by unfold undo; simp
    have hrc := co_of (n := n) (l := redS l l.length) (by omega) (by omega) (by omega) r1
    have huc := co_of (n := n) (l := l ++ undo l) (by omega) (by omega) (by rw [List.length_append]; omega) (inC_app hin u2)
    have hsr : sgs (redS l l.length) = sgs l := by
      rw [← ptw_sum hup r1, ← hp1]
      exact psum_congr fun i j _ _ => r3.tw i j
    have hab := ptw_abs hup r1
    have e2 : sumTo (fun a => sumTo (gT (twT (n : Int) l) a) a) n = psum (fun j i => max (twf i j (upL (n : Int)) (redS l l.length)) (-(twf i j (upL (n : Int)) (redS l l.length)))) n :=
      sumTo_congr fun i hi => sumTo_congr fun j hj => by
        unfold gT
        dsimp only
        rw [hval i j hi (by omega), r3.tw]
    have e3 : luA (n : Int) l = sumTo (fun a => sumTo (gT (twT (n : Int) l) a) a) n := by unfold luA; rw [if_pos hc]; rfl
    have e4 : ((wpA (n : Int) l).length : Int) = sumTo (fun a => sumTo (fun c => if ((twT (n : Int) l)[a]!)[c]! ≠ 0 then 1 else 0) a) n := by
      unfold wpA
      rw [hta, hlen, wound_cnt]
      exact sumTo_congr fun i hi => sumTo_congr fun j hj => by dsimp only; rw [hsym j i]
    have hiu : iuA (n : Int) (l ++ undo l) = true := untw huc (by rw [ord_fo, u1.fo]; rfl) fun a b _ _ => u1.tw a b
    have hil : iuA (n : Int) l = ((decide (sumTo (fun a => sumTo (fun c => if ((twT (n : Int) l)[a]!)[c]! ≠ 0 then 1 else 0) a) n = 0)) && (decide (inv (ord (n : Int) l) = 0))) := by
      rw [← e4, Bool.eq_iff_iff]
      unfold iuA
      rw [Bool.and_eq_true, Bool.and_eq_true, home_iff, decide_eq_true_eq, decide_eq_true_eq, decide_eq_true_eq, inv_iff hc]
      constructor
      · rintro ⟨⟨_, h1⟩, h2⟩; exact ⟨by omega, h1⟩
      · rintro ⟨h1, h2⟩; exact ⟨⟨hc, h2⟩, by omega⟩
    refine ⟨by omega, undo_ok (by omega) ⟨by omega, red_ok hc (total_ok hc ⟨luA (n : Int) l, fun _ => implLU_ok rfl, fun _ => implWP_ok ⟨true, fun _ => implIU_ok hiu, iuA (n : Int) l, fun _ => implIU_ok rfl, inv (ord (n : Int) l), fun _ => inv_ok hpo (by omega) (by omega) rfl, sgs l, fun _ => total_ok hrc hsr, ?_⟩, fun h => absurd ⟨⟨e1, e3.symm⟩, by rw [e2]; exact hab⟩ h⟩)⟩⟩
    rw [hil, e4, e1]
    simp
  refine ⟨fun h => absurd h (by omega), fun _ => ⟨fun s le w i => 0 ≤ i ∧ i ≤ n ∧ (s = sumTo (fun a => sumTo (fun c => ((twT (n : Int) l)[a]!)[c]!) a) i.toNat ∧ -50 * i ≤ s ∧ s ≤ 50 * i) ∧ (le = sumTo (fun a => sumTo (gT (twT (n : Int) l) a) a) i.toNat ∧ 0 ≤ le ∧ le ≤ 50 * i) ∧ (w = sumTo (fun a => sumTo (fun c => if ((twT (n : Int) l)[a]!)[c]! ≠ 0 then 1 else 0) a) i.toNat ∧ 0 ≤ w ∧ w ≤ 50 * i), fun s le w i => (n - i).toNat, ⟨by omega, by omega, ⟨rfl, by omega, by omega⟩, ⟨rfl, by omega, by omega⟩, ⟨rfl, by omega, by omega⟩⟩, ?_⟩⟩
  rintro s le w i ⟨i0, i1, ⟨hs, s0, s1⟩, ⟨hle, l0, l1⟩, ⟨hw, w0, w1⟩⟩
  refine ⟨fun hi => ?_, fun hi => ?_⟩
  · have hin' : i.toNat < n := by omega
    have hri := hrow _ hin'
    refine ⟨⟨i0, by omega⟩, fun _ => ⟨i0, by omega⟩, fun _ => ⟨i0, by omega⟩, fun h => ?_, fun _ => ⟨fun s' le' w' k => 0 ≤ k ∧ k ≤ i ∧ (s' = s + sumTo (fun c => ((twT (n : Int) l)[i.toNat]!)[c]!) k.toNat ∧ s - 9 * k ≤ s' ∧ s' ≤ s + 9 * k) ∧ (le' = le + sumTo (gT (twT (n : Int) l) i.toNat) k.toNat ∧ le ≤ le' ∧ le' ≤ le + 9 * k) ∧ (w' = w + sumTo (fun c => if ((twT (n : Int) l)[i.toNat]!)[c]! ≠ 0 then 1 else 0) k.toNat ∧ w ≤ w' ∧ w' ≤ w + k), fun s' le' w' k => (i - k).toNat, ⟨by omega, by omega, ⟨by simp [sumTo], by omega, by omega⟩, ⟨by simp [sumTo], by omega, by omega⟩, ⟨by simp [sumTo], by omega, by omega⟩⟩, ?_⟩⟩
    · rcases h with h | h
      · omega
      · exact absurd (hdia _ hin') h
    rintro s' le' w' k ⟨k0, k1, ⟨hs', s0', s1'⟩, ⟨hle', l0', l1'⟩, ⟨hw', w0', w1'⟩⟩
    refine ⟨fun hk => ?_, fun hk => ?_⟩
    · have hkn : k.toNat < n := by omega
      have hrk := hrow _ hkn
      have hb := hbd i.toNat k.toNat hin' hkn
      have hsy := hsym i.toNat k.toNat
      obtain ⟨pk, pk1, pk2, pk3⟩ := hpl k.toNat hkn
      obtain ⟨pi, pi1, pi2, pi3⟩ := hpl i.toNat hin'
      rw [show ((k.toNat : Nat) : Int) = k by omega] at pk3
      rw [show ((i.toNat : Nat) : Int) = i by omega] at pi3
      have hto : toA (n : Int) l i k = ((twT (n : Int) l)[i.toNat]!)[k.toNat]! := by
        have := toA_in (n := (n : Int)) (l := l) hc (a := i.toNat) (b := k.toNat) (by omega) (by omega)
        rwa [show ((i.toNat : Nat) : Int) = i by omega, show ((k.toNat : Nat) : Int) = k by omega] at this
      have hev : (decide (Int.tmod (((twT (n : Int) l)[i.toNat]!)[k.toNat]!) 2 = 0)) = decide ((pk : Int) < (pi : Int)) := by
        rw [decide_eq_decide, hsy, hval k.toNat i.toNat hkn hin']
        have h1 := twf_even (n := n) (a := k.toNat) (b := i.toNat) (l := l) hup hin
        have h2 := bef_place hpo pk1 pi1 pk2 pi2
        have h3 : bef n (upL (n : Int)) k.toNat i.toNat := ⟨k.toNat, i.toNat, by omega, hin', by rw [upL_get _ _ (by omega)], by rw [upL_get _ _ (by omega)]⟩
        rw [← ord_fo] at h1
        have h4 : Int.tmod (twf k.toNat i.toNat (upL (n : Int)) l) 2 = 0 ↔ twf k.toNat i.toNat (upL (n : Int)) l % 2 = 0 := ⟨fun h => Int.emod_eq_zero_of_dvd (Int.dvd_of_tmod_eq_zero h), fun h => Int.tmod_eq_zero_of_dvd (Int.dvd_of_emod_eq_zero h)⟩
        rw [h4, h1, h2]
        constructor
        · intro h; have := h.1 h3; omega
        · intro h; exact ⟨fun _ => by omega, fun _ => h3⟩
      refine ⟨⟨k0, by omega⟩, fun _ => ⟨i0, by omega⟩, fun _ => ⟨k0, by omega⟩, fun _ => ⟨k0, by omega⟩, fun _ => ⟨i0, by omega⟩, fun _ => ⟨i0, by omega⟩, fun _ => ⟨k0, by omega⟩, _, fun _ => implTO_ok rfl, fun _ => ⟨i0, by omega⟩, fun _ => ⟨k0, by omega⟩, (pk : Int), fun _ => pk3, (pi : Int), fun _ => pi3, fun h => ?_, fun _ => ⟨⟨i0, by omega⟩, ⟨k0, by omega⟩, by omega, ⟨i0, by omega⟩, ⟨k0, by omega⟩, ⟨i0, by omega⟩, ⟨k0, by omega⟩, by omega, by omega, ⟨i0, by omega⟩, ⟨k0, by omega⟩, ⟨fun h => ?_, fun h => ?_⟩⟩⟩
      · rcases h with ((h | h) | h) | h
        · omega
        · exact absurd hsy h
        · exact absurd hto.symm h
        · exact absurd hev h
      · have h := of_decide_eq_true h
        refine ⟨by omega, by omega, ⟨by omega, by omega, ⟨?_, by omega, by omega⟩, ⟨?_, by omega, by omega⟩, ⟨?_, by omega, by omega⟩⟩, (by dsimp only; omega)⟩
        · rw [tn1 k0, sumTo, hs']; omega
        · rw [tn1 k0, sumTo, hle']; unfold gT; omega
        · rw [tn1 k0, sumTo, hw', if_pos h]; omega
      · have h : ¬ ((twT (n : Int) l)[i.toNat]!)[k.toNat]! ≠ 0 := fun hx => h (decide_eq_true hx)
        refine ⟨by omega, by omega, ⟨by omega, by omega, ⟨?_, by omega, by omega⟩, ⟨?_, by omega, by omega⟩, ⟨?_, by omega, by omega⟩⟩, (by dsimp only; omega)⟩
        · rw [tn1 k0, sumTo, hs']; omega
        · rw [tn1 k0, sumTo, hle']; unfold gT; omega
        · rw [tn1 k0, sumTo, hw', if_neg h]; omega
    · have hki : k.toNat = i.toNat := by omega
      rw [hki] at hs' hle' hw'
      refine ⟨by omega, ⟨by omega, by omega, ⟨?_, by omega, by omega⟩, ⟨?_, by omega, by omega⟩, ⟨?_, by omega, by omega⟩⟩, (by dsimp only; omega)⟩
      · rw [tn1 i0, sumTo, hs', hs]
      · rw [tn1 i0, sumTo, hle', hle]
      · rw [tn1 i0, sumTo, hw', hw]
  · rw [show i.toNat = n by omega] at hs hle hw
    rw [hs, hle, hw]
    exact htl
end Go.Proofs.Ytcgkcoogaieolaa
