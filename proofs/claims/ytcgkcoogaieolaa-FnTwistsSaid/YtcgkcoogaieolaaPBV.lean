/- The plain law of untwisting: whoever is at home can be untwisted pair by pair. No program. -/
import Derived.Test.YtcgkcoogaieolaaPBU
namespace Go.Proofs.Ytcgkcoogaieolaa

theorem inC_app {n : Nat} {x y : List Cross} (h1 : inC n x) (h2 : inC n y) : inC n (x ++ y) := fun c hc => (List.mem_append.1 hc).elim (h1 c) (h2 c)
theorem inC_of {n : Nat} {l : List Cross} (hc : crossesOk (n : Int) l = true) : inC n l := fun c h => by
  obtain ⟨_, _, _, h4⟩ := co_yes hc
  obtain ⟨j, hj, e⟩ := List.mem_iff_getElem.1 h
  have := h4 j hj
  rw [getElem!_pos l j hj, e] at this
  omega
theorem co_of {n : Nat} {l : List Cross} (h1 : 1 ≤ n) (h7 : n ≤ 7) (hl : l.length ≤ 40) (h : inC n l) : crossesOk (n : Int) l = true := by
  unfold crossesOk
  rw [Bool.and_eq_true]
  exact ⟨decide_eq_true ⟨by omega, by omega, hl⟩, List.all_eq_true.2 fun c hc => okCr_iff.2 (by have := h c hc; omega)⟩
structure UnS (n : Nat) (l u : List Cross) (f : Nat → Nat → Bool) : Prop where
  inn : inC n u
  home : fo (upL (n : Int)) u = upL (n : Int)
  tws : ∀ a b, a < b → b < n → twf a b (upL (n : Int)) u = if f a b = true then - twf a b (upL (n : Int)) l else 0
theorem un_row {n : Nat} {l : List Cross} (hn : n ≤ 5) (hn2 : 2 ≤ n) (hc : crossesOk (n : Int) l = true) (hh : ord (n : Int) l = upL (n : Int)) {i : Nat} (hi : i < n) : ∀ k, k ≤ n → UnS n l ((wpr (twT (n : Int) l) i k).flatMap (unP (n : Int) l)) fun a b => decide (a = i ∧ b < k)
  | 0, _ => by
    rw [wpr_start _ _ _ (Nat.zero_le _)]
    exact ⟨fun c hc => (by cases hc), rfl, fun a b _ _ => by
      rw [decide_eq_false (by omega)]; rfl⟩
  | k + 1, hk => by
    have ih := un_row hn hn2 hc hh hi k (by omega)
    have hT : ((twT (n : Int) l)[i]!)[k]! = twf i k (upL (n : Int)) l := twT_at hc (by omega) (by omega)
    by_cases hik : i < k
    · by_cases h0 : ((twT (n : Int) l)[i]!)[k]! = 0
      · rw [wpr_no _ _ _ (fun h => h h0)]
        refine ⟨ih.inn, ih.home, fun a b hab hb => ?_⟩
        rw [ih.tws a b hab hb]
        by_cases h : a = i ∧ b = k
        · obtain ⟨rfl, rfl⟩ := h
          rw [decide_eq_false (by omega), decide_eq_true (by omega), ← hT, h0]; rfl
        · have : decide (a = i ∧ b < k) = decide (a = i ∧ b < k + 1) := by rw [decide_eq_decide]; omega
          rw [this]
      · have he : twf i k (upL (n : Int)) l % 2 = 0 := (twf_even (n := n) (upL_pm (n : Int)) (inC_of hc)).2 (by rw [← ord_fo, hh])
        obtain ⟨g1, g2, g3⟩ := unP_at hn hn2 hc hik (by omega) he
        rw [wpr_yes _ _ _ hik h0, List.flatMap_append]
        have e1 : [[(i : Int), (k : Int)]].flatMap (unP (n : Int) l) = unP (n : Int) l [(i : Int), (k : Int)] := by simp
        rw [e1]
        refine ⟨inC_app ih.inn g1, by rw [fo_app, ih.home, g2], fun a b hab hb => ?_⟩
        rw [twf_app, ih.home, ih.tws a b hab hb, g3 a b hab hb]
        by_cases h : a = i ∧ b = k
        · rw [if_pos h, decide_eq_false (by omega), decide_eq_true (by omega)]; simp
        · have : decide (a = i ∧ b < k) = decide (a = i ∧ b < k + 1) := by rw [decide_eq_decide]; omega
          rw [if_neg h, this, Int.add_zero]
    · rw [wpr_start _ _ _ (by omega)]
      refine ⟨fun c hc => (by cases hc), rfl, fun a b hab _ => ?_⟩
      rw [decide_eq_false (by omega)]; rfl
theorem un_tab {n : Nat} {l : List Cross} (hn : n ≤ 5) (hn2 : 2 ≤ n) (hc : crossesOk (n : Int) l = true) (hh : ord (n : Int) l = upL (n : Int)) : ∀ m, m ≤ n → UnS n l ((W (twT (n : Int) l) n m).flatMap (unP (n : Int) l)) fun a _ => decide (a < m)
  | 0, _ => ⟨fun c hc => (by cases hc), rfl, fun a b _ _ => by
    rw [decide_eq_false (by omega)]; rfl⟩
  | m + 1, hm => by
    have ih := un_tab hn hn2 hc hh m (by omega)
    have hr := un_row hn hn2 hc hh (i := m) (by omega) n (Nat.le_refl _)
    rw [W_step, List.flatMap_append]
    refine ⟨inC_app ih.inn hr.inn, by rw [fo_app, ih.home, hr.home], fun a b hab hb => ?_⟩
    rw [twf_app, ih.home, ih.tws a b hab hb, hr.tws a b hab hb]
    rcases Nat.lt_trichotomy a m with h | h | h
    · rw [decide_eq_true h, decide_eq_false (by omega), decide_eq_true (by omega)]; simp
    · rw [decide_eq_false (by omega), decide_eq_true (by omega), decide_eq_true (by omega)]; simp
    · rw [decide_eq_false (by omega), decide_eq_false (by omega), decide_eq_false (by omega)]; simp
theorem un_all {n : Nat} {l : List Cross} (hn : n ≤ 5) (hn2 : 2 ≤ n) (hc : crossesOk (n : Int) l = true) (hh : ord (n : Int) l = upL (n : Int)) : inC n (unW (n : Int) l) ∧ fo (upL (n : Int)) (unW (n : Int) l) = upL (n : Int) ∧ ∀ a b, a < b → b < n → twf a b (upL (n : Int)) (unW (n : Int) l) = - twf a b (upL (n : Int)) l := by
  have h := un_tab hn hn2 hc hh n (Nat.le_refl _)
  have hlen : (twT (n : Int) l).length = n := (tw_tb hc l.length (Nat.le_refl _)).len
  have e : unW (n : Int) l = (W (twT (n : Int) l) n n).flatMap (unP (n : Int) l) := by
    unfold unW wpA twA
    rw [if_pos (home_iff.2 ⟨hc, hh⟩), if_pos hc, hlen]
  rw [e]
  exact ⟨h.inn, h.home, fun a b hab hb => by rw [h.tws a b hab hb, decide_eq_true (by omega), if_pos rfl]⟩
theorem untw {n : Nat} {x : List Cross} (hc : crossesOk (n : Int) x = true) (hh : ord (n : Int) x = upL (n : Int)) (ht : ∀ a b, a < b → b < n → twf a b (upL (n : Int)) x = 0) : iuA (n : Int) x = true := by
  unfold iuA
  rw [Bool.and_eq_true]
  refine ⟨home_iff.2 ⟨hc, hh⟩, decide_eq_true ?_⟩
  have hlen : (twT (n : Int) x).length = n := (tw_tb hc x.length (Nat.le_refl _)).len
  have : wpA (n : Int) x = [] := by
    refine List.eq_nil_iff_forall_not_mem.2 fun p hp => ?_
    unfold wpA twA at hp
    rw [if_pos hc, hlen] at hp
    obtain ⟨a, b, hab, hb, _, h0⟩ := W_mem hp
    exact h0 (by rw [twT_at hc (by omega) (by omega)]; exact ht a b hab hb)
  rw [this]; rfl
/- draws -/
theorem below_ok {k : Int} {Q : Int → Prop} (h0 : 0 < k) (h1 : k ≤ 256) (h : ∀ r, 0 ≤ r → r < k → Q r) : m_spec_l01Below k Q :=
  ⟨fun hx => absurd hx (by omega), fun _ => ⟨fun _ r h2 h3 => ⟨by omega, h _ (Int.tmod_nonneg k h2) (Int.tmod_lt_of_pos r h0)⟩, fun hx => absurd h1 hx⟩⟩
theorem once_ok {k : Int} {Q : Bool → Prop} (h0 : 0 < k) (h1 : k ≤ 256) (h : ∀ b, Q b) : m_spec_l01Once k Q := below_ok h0 h1 fun _ _ _ => h _
theorem crosses_ok {Q : Int → List Cross → Prop} (h : ∀ (n : Nat) l, 2 ≤ n → n ≤ 5 → inC n l → l.length ≤ 9 → Q (n : Int) l) : m_spec_l08List Q := by
  refine below_ok (by decide) (by decide) fun r r0 r1 => ⟨by omega, below_ok (by decide) (by decide) fun m m0 m1 => ⟨fun x v => 0 ≤ v ∧ (x.length : Int) + v ≤ 9 ∧ inC (2 + r).toNat x, fun x v => v.toNat, ⟨m0, by simp; omega, fun c hc => (by cases hc)⟩, ?_⟩⟩
  rintro x v ⟨v0, v1, v2⟩
  refine ⟨fun hv => ⟨by omega, below_ok (by omega) (by omega) fun a a0 a1 => once_ok (by decide) (by decide) fun b => ?_⟩, fun hv => ?_⟩
  · have add : ∀ c : Cross, 0 ≤ c.1 → c.1 + 1 < (((2 + r).toNat : Nat) : Int) → m_spec_l08List_K0 x v (fun x' v' => (0 ≤ v' ∧ (x'.length : Int) + v' ≤ 9 ∧ inC (2 + r).toNat x') ∧ v'.toNat < v.toNat) c.1 c.2 := fun c c0 c1 => by
      refine ⟨by omega, by omega, ⟨by omega, by rw [List.length_append, List.length_singleton]; omega, inC_app v2 fun d hd => ?_⟩, by omega⟩
      rw [List.mem_singleton.1 hd]; exact ⟨c0, c1⟩
    refine ⟨fun hx => once_ok (by decide) (by decide) fun b2 => ⟨fun _ => ?_, fun _ => add (a, b) a0 (by dsimp only; omega)⟩, fun _ => add (a, b) a0 (by dsimp only; omega)⟩
    have hm : x[((x.length : Int) - 1).toNat]! ∈ x := by
      rw [getElem!_pos x _ (by omega)]; exact List.getElem_mem _
    have := v2 _ hm
    exact ⟨by omega, ⟨by omega, by omega⟩, by omega, ⟨by omega, by omega⟩, add (x[((x.length : Int) - 1).toNat]!.1, !(x[((x.length : Int) - 1).toNat]!.2)) this.1 this.2⟩
  · have e : 2 + r = (((2 + r).toNat : Nat) : Int) := by omega
    show Q (2 + r) x
    rw [e]
    exact h _ x (by omega) (by omega) v2 (by omega)
theorem inv_le {n : Nat} {o : List Int} (hp : Pm n o) (hn : n ≤ 5) : 0 ≤ inv o ∧ inv o ≤ 20 := by
  have := sumTo_bd (f := cI o) (c := 4) (m := n) (fun k hk => by have := cI_bd o k; omega)
  unfold inv
  rw [hp.len]; omega
theorem home_len {n : Nat} {l : List Cross} (hn : n ≤ 5) (hc : crossesOk (n : Int) l = true) : ((homeW (n : Int) l).length : Int) = inv (ord (n : Int) l) ∧ (homeW (n : Int) l).length ≤ 20 := by
  have hp : Pm n (ord (n : Int) l) := ord_pm' hc
  have h1 := inv_le hp hn
  have h2 := ss_len (n := n) (o := ord (n : Int) l) (by omega) _ _ hp rfl
  unfold homeW
  rw [if_pos hc, List.length_map, h2]; omega
theorem home_good {n : Nat} {l : List Cross} (hn2 : 2 ≤ n) (hn : n ≤ 5) (hin : inC n l) (hl : l.length ≤ 9) : crossesOk (n : Int) (l ++ homeW (n : Int) l) = true ∧ ord (n : Int) (l ++ homeW (n : Int) l) = upL (n : Int) ∧ (l ++ homeW (n : Int) l).length ≤ 29 := by
  have hc := co_of (by omega) (by omega) (by omega) hin
  have hp : Pm n (ord (n : Int) l) := ord_pm' hc
  obtain ⟨h1, h2⟩ := ss_home _ hp rfl
  have h3 := home_len hn hc
  have e : homeW (n : Int) l = (ss (ord (n : Int) l)).map fun k => (k, true) := by unfold homeW; rw [if_pos hc]
  rw [← e] at h1 h2
  have hlen : (l ++ homeW (n : Int) l).length ≤ 29 := by rw [List.length_append]; omega
  refine ⟨co_of (by omega) (by omega) (by omega) (inC_app hin h2), ?_, hlen⟩
  rw [ord_fo, fo_app, ← ord_fo]; exact h1
end Go.Proofs.Ytcgkcoogaieolaa
