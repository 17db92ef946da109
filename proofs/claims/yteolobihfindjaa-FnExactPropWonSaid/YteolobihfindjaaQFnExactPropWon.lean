/- The plain law FnExactPropWon and what it needs: no program in sight. -/
import Derived.Test.YteolobihfindjaaUFnExactPropWon
set_option linter.unusedVariables false
set_option linter.unusedSimpArgs false

/- Small plain facts: numbers, and the laws' own helpers over lists of numbers. -/
namespace Go.Proofs.Yteolobihfindjaa
open Go

theorem w64_id {n : Int} (h1 : -9223372036854775808 ≤ n) (h2 : n ≤ 9223372036854775807) : w64 n = n := by
  unfold w64; rw [IntKind.wrap_i64]; omega
theorem room_of {b n : Nat} (hb : b ≤ 4096) (hn : n ≤ 34359738368) : room b n := by
  have : n * b ≤ 34359738368 * 4096 := Nat.mul_le_mul hn hb
  exact ⟨by omega, by omega⟩
theorem gO_t {α : Type} {c : Prop} [Decidable c] {k : Option α} (h : c) : gO c k = k := by simp [gO, h]
theorem drop_cons {α : Type} {L t : List α} {x : α} {i : Nat} (h : x :: t = L.drop i) : t = L.drop (i + 1) ∧ L[i]? = some x ∧ i < L.length := by
  have h1 := dnext h
  have h2 := ix_get (dget h)
  exact ⟨h1, by simpa using h2, dlt h⟩
theorem ix_nat {α : Type} (l : List α) (i : Nat) : ix l (i : Int) = l[i]? := by simp [ix]
theorem ix_lt {α : Type} {l : List α} {i : Int} (h0 : 0 ≤ i) (h1 : i < l.length) : ∃ x, ix l i = some x := by
  unfold ix
  rw [if_pos h0]
  exact ⟨l[i.toNat]'(by omega), by simp⟩
theorem w64_pred {i : Nat} (h0 : 0 < i) (h1 : i ≤ maxLen) : w64 ((i : Int) - 1) = ((i - 1 : Nat) : Int) := by
  have h2 : i ≤ 9223372036854775807 := h1
  rw [w64_id (by omega) (by omega)]; omega

theorem beq_dec {α : Type} [DecidableEq α] (x y : α) : (x == y) = decide (x = y) := by by_cases h : x = y <;> simp [h]
theorem bne_dec {α : Type} [DecidableEq α] (x y : α) : (x != y) = !decide (x = y) := by unfold bne; rw [beq_dec]
theorem beq_int (x y : Int) : (x == y) = decide (x = y) := beq_dec x y
theorem bne_int (x y : Int) : (x != y) = !decide (x = y) := bne_dec x y
theorem and_dec (p q : Prop) [Decidable p] [Decidable q] : (decide p && decide q) = decide (p ∧ q) := by simp
theorem or_dec (p q : Prop) [Decidable p] [Decidable q] : (decide p || decide q) = decide (p ∨ q) := by simp
theorem not_dec (p : Prop) [Decidable p] : (!decide p) = decide (¬ p) := by simp
theorem bind_id {α : Type} (x : Option α) : (x.bind fun v => some v) = x := by cases x <;> rfl

end Go.Proofs.Yteolobihfindjaa

/- The laws' own helpers over []int. -/
namespace Go.Proofs.Yteolobihfindjaa
open Go

theorem szIntS_eq (l : List Int) (k : Int) : laws_szIntS l k = some (if w64 (k - (l.length : Int)) < 0 then -1 else w64 (k - (l.length : Int))) := by
  unfold laws_szIntS
  by_cases h : w64 (k - (l.length : Int)) < 0 <;> simp [h]
theorem szIntS_ok {l : List Int} {k : Int} (hl : l.length ≤ maxLen) (hk0 : -1 ≤ k) (hk : k ≤ 1048576) : ∃ v, laws_szIntS l k = some v ∧ -1 ≤ v ∧ v ≤ k ∧ (0 ≤ v → 0 ≤ k → l.length ≤ 1048576) := by
  have h2 : l.length ≤ 9223372036854775807 := hl
  have h3 : (maxLen : Int) = 9223372036854775807 ∨ maxLen ≤ 140737488355328 := by decide
  rw [szIntS_eq]
  have hw : w64 (k - (l.length : Int)) = k - l.length := w64_id (by rcases h3 with h3 | h3 <;> omega) (by omega)
  rw [hw]
  refine ⟨_, rfl, ?_⟩
  split <;> omega
theorem toIntS_l1_eq : ∀ (t : List Int) (L : List Int) (i : Nat) (y : List Int), t = L.drop i → y.length = L.length → y.take i = L.take i → i ≤ L.length → laws_toIntS_l1 t i y = some L
  | [], L, i, y, hd, hl, ht, hi => by
    have := List.drop_eq_nil_iff.1 hd.symm
    rw [laws_toIntS_l1]
    rw [List.take_of_length_le (by omega), List.take_of_length_le (by omega)] at ht
    rw [ht]
  | x :: t, L, i, y, hd, hl, ht, hi => by
    obtain ⟨h1, h2, h3⟩ := drop_cons hd
    rw [laws_toIntS_l1, ix_nat]
    have hy : y[i]? = some (y[i]'(by omega)) := by simp [show i < y.length by omega]
    rw [hy, Option.bind_some]
    refine toIntS_l1_eq t L (i + 1) _ h1 (by simp [hl]) ?_ (by omega)
    have hx : x = L[i] := by
      have := (List.getElem?_eq_some_iff.1 h2).2; exact this.symm
    rw [List.take_add_one, List.take_add_one, List.take_set_of_le (by simp), ht]
    simp [show i < y.length by omega, h2]
theorem toIntS_eq {l : List Int} (h : l.length ≤ 1048576) : laws_toIntS l = some l := by
  unfold laws_toIntS
  rw [gO_t ⟨by omega, room_of (by omega) (by simp; omega)⟩]
  exact toIntS_l1_eq l l 0 _ rfl (by simp) (by simp) (by omega)
theorem eqIntS_l1_eq : ∀ (t L : List Int) (i : Nat) (b : List Int), t = L.drop i → b.length = L.length → i ≤ L.length → laws_eqIntS_l1 b t i = some (decide (t = b.drop i))
  | [], L, i, b, hd, hl, hi => by
    have := List.drop_eq_nil_iff.1 hd.symm
    rw [laws_eqIntS_l1, List.drop_eq_nil_of_le (by omega)]; simp
  | x :: t, L, i, b, hd, hl, hi => by
    obtain ⟨h1, h2, h3⟩ := drop_cons hd
    have hlt : i < b.length := by omega
    rw [laws_eqIntS_l1, ix_nat]
    have hy : b[i]? = some b[i] := by simp [hlt]
    rw [hy, Option.bind_some, List.drop_eq_getElem_cons hlt]
    by_cases hx : x = b[i]
    · have hb : (x != b[i]) = false := by simpa using hx
      rw [hb, cond_false]
      rw [eqIntS_l1_eq t L (i + 1) b h1 hl (by omega)]
      simp only [List.cons.injEq, hx, true_and]
    · have hb : (x != b[i]) = true := by simpa using hx
      rw [hb, cond_true]
      simp only [List.cons.injEq, hx, false_and, decide_false]
theorem eqIntS_eq (a b : List Int) : laws_eqIntS a b = some (decide (a = b)) := by
  unfold laws_eqIntS
  by_cases h : a.length = b.length
  · have hb : ((a.length : Int) != (b.length : Int)) = false := by simp [h]
    rw [hb, cond_false, eqIntS_l1_eq a a 0 b rfl h.symm (by omega)]; simp
  · have hb : ((a.length : Int) != (b.length : Int)) = true := by simp; omega
    rw [hb, cond_true]
    have : a ≠ b := fun he => h (by rw [he])
    simp [this]

end Go.Proofs.Yteolobihfindjaa

/- Proposers: the reference and the program agree. -/
namespace Go.Proofs.Yteolobihfindjaa
open Go

theorem spec_in_impl : spec_l01In = impl_in := rfl
theorem impl_in_eq (n lo hi : Int) : impl_in n lo hi = some (decide (lo ≤ n ∧ n ≤ hi)) := by
  unfold impl_in
  by_cases h : n ≥ lo
  · simp [h]
  · have : ¬ lo ≤ n := h
    simp [h, this]
theorem impl_nodesOk_l1_tot : ∀ (t L : List Int) (n : Int) (i : Nat), t = L.drop i → i ≤ L.length → L.length ≤ maxLen → ∃ b, impl_nodesOk_l1 L n t i = some b
  | [], L, n, i, hd, hi, hL => ⟨true, by rw [impl_nodesOk_l1]⟩
  | x :: t, L, n, i, hd, hi, hL => by
    obtain ⟨h1, h2, h3⟩ := drop_cons hd
    obtain ⟨b, hb⟩ := impl_nodesOk_l1_tot t L n (i + 1) h1 (by omega) hL
    rw [impl_nodesOk_l1, impl_in_eq, Option.bind_some, hb]
    have hx : 0 < i → ∃ z, ix L (w64 ((i : Int) - 1)) = some z := fun h0 => by
      rw [w64_pred h0 (by omega)]
      exact ix_lt (by omega) (by omega)
    by_cases h0 : 0 < i
    · obtain ⟨z, hz⟩ := hx h0
      rw [hz, Option.bind_some]
      cases (!decide (0 ≤ x ∧ x ≤ w64 (n - 1))) <;> cases (decide ((i : Int) > 0)) <;> cases (decide (z ≥ x)) <;> exact ⟨_, rfl⟩
    · have : decide ((i : Int) > 0) = false := by simp; omega
      rw [this]
      cases (!decide (0 ≤ x ∧ x ≤ w64 (n - 1))) <;> exact ⟨_, rfl⟩
theorem rise_nodes_l1 : ∀ (t L : List Int) (i : Nat), spec_l07Rise_l1 L t i = impl_nodesOk_l1 L 4 t i
  | [], L, i => by rw [spec_l07Rise_l1, impl_nodesOk_l1]
  | x :: t, L, i => by
    have hw : w64 (4 - 1) = 3 := by decide
    rw [spec_l07Rise_l1, impl_nodesOk_l1, rise_nodes_l1 t L (i + 1)]
    unfold spec_l07Node
    rw [spec_in_impl, hw]
    simp only [impl_in_eq, Option.bind_some]
theorem impl_nodesOk_tot {l : List Int} (n : Int) (h : l.length ≤ maxLen) : ∃ b, impl_nodesOk l n = some b := impl_nodesOk_l1_tot l l n 0 rfl (by omega) h
theorem rise_nodes (l : List Int) : spec_l07Rise l = impl_nodesOk l 4 := rise_nodes_l1 l l 0
theorem propOk_same (p : SProp) : spec_PropOk p = impl_PropOk p := by
  unfold spec_PropOk impl_PropOk
  simp only [rise_nodes]
  unfold spec_l07Val impl_isChoice impl_isBallot
  rw [spec_in_impl]
  simp only [impl_in_eq, Option.bind_some]
theorem propOk_tot {p : SProp} (h1 : p.fFrom.length ≤ maxLen) (h2 : p.fGot.length ≤ maxLen) : ∃ b, impl_PropOk p = some b := by
  obtain ⟨b1, hb1⟩ := impl_nodesOk_tot (l := p.fFrom) 4 h1
  obtain ⟨b2, hb2⟩ := impl_nodesOk_tot (l := p.fGot) 4 h2
  unfold impl_PropOk impl_isChoice impl_isBallot
  simp only [impl_in_eq, Option.bind_some, hb1, hb2]
  cases (decide (1 ≤ p.fBal ∧ p.fBal ≤ 1125899906842624)) <;> cases (decide (1 ≤ p.fVal ∧ p.fVal ≤ 4)) <;> cases b1 <;> cases b2 <;> exact ⟨_, rfl⟩

theorem toProp_eq {p : SProp} (h1 : p.fFrom.length ≤ 1048576) (h2 : p.fGot.length ≤ 1048576) : laws_toProp p = some p := by
  unfold laws_toProp
  rw [toIntS_eq h1, Option.bind_some, toIntS_eq h2, Option.bind_some]
theorem eqProp_refl (p : SProp) : laws_eqProp p p = some true := by
  unfold laws_eqProp
  simp [eqIntS_eq]
/-- The budget: either it is spent, or the lists are short. -/
theorem szProp_ok {p : SProp} (h1 : p.fFrom.length ≤ maxLen) (h2 : p.fGot.length ≤ maxLen) : ∃ v, laws_szProp p 1048576 = some v ∧ (decide (v < 0) = false → p.fFrom.length ≤ 1048576 ∧ p.fGot.length ≤ 1048576) := by
  unfold laws_szProp
  obtain ⟨v, hv, q1, q2, q3⟩ := szIntS_ok (k := 1048576) h1 (by omega) (by omega)
  rw [hv, Option.bind_some]
  by_cases hn : v < 0
  · simp [hn]
  · have hd : decide (v < 0) = false := by simpa using hn
    obtain ⟨u, hu, r1, r2, r3⟩ := szIntS_ok (k := v) h2 (by omega) (by omega)
    rw [hd, cond_false, hu, Option.bind_some]
    by_cases hm : u < 0
    · simp [hm]
    · have hd2 : decide (u < 0) = false := by simpa using hm
      rw [hd2, cond_false]
      exact ⟨u, rfl, fun _ => ⟨q3 (by omega) (by omega), r3 (by omega) (by omega)⟩⟩
theorem wf_lens {p : SProp} (h : p.fFrom.length ≤ maxLen ∧ p.fGot.length ≤ maxLen) : True := trivial

end Go.Proofs.Yteolobihfindjaa

/- The law FnExactPropWon answers true. -/
namespace Go.Proofs.Yteolobihfindjaa
open Go

theorem same_PropWon (p : SProp) (n : Int) : spec_PropWon p n = impl_PropWon p n := by
  unfold spec_PropWon impl_PropWon spec_PropReady impl_PropReady
  rw [propOk_same]; rfl
theorem tot_PropWon {p : SProp} (n : Int) (h1 : p.fFrom.length ≤ maxLen) (h2 : p.fGot.length ≤ maxLen) : ∃ b, impl_PropWon p n = some b := by
  obtain ⟨b, hb⟩ := propOk_tot h1 h2
  unfold impl_PropWon impl_PropReady impl_IsMost
  simp only [hb, Option.bind_some]
  cases b <;> cases (decide ((p.fFrom.length : Int) > Int.fdiv n (2 ^ 1))) <;> exact ⟨_, rfl⟩
theorem pure_FnExactPropWon (p : SProp) (h : wfProp p) (n : Int) (hn : wfI n) : laws_FnExactPropWon p n = some true := by
  obtain ⟨-, -, hf, -, hg⟩ := h
  unfold laws_FnExactPropWon
  obtain ⟨v, hv, hs⟩ := szProp_ok hf.1 hg.1
  rw [hv, Option.bind_some]
  cases hd : decide (v < 0) with
  | true => rfl
  | false =>
    obtain ⟨k1, k2⟩ := hs hd
    obtain ⟨b, hb⟩ := tot_PropWon n hf.1 hg.1
    simp only [cond_false, toProp_eq k1 k2, Option.bind_some, same_PropWon, hb, eqProp_refl]
    simp

end Go.Proofs.Yteolobihfindjaa

