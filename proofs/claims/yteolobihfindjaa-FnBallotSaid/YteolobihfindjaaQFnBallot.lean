/- The plain law FnBallot and what it needs: no program in sight. -/
import Derived.Test.YteolobihfindjaaUFnBallot
set_option linter.unusedVariables false
set_option linter.unusedSimpArgs false

/- Small plain facts: numbers, and the laws' own helpers over lists of numbers. -/
namespace Go.Proofs.Yteolobihfindjaa
open Go

theorem w64_id {n : Int} (h1 : -9223372036854775808 ≤ n) (h2 : n ≤ 9223372036854775807) : w64 n = n := by
  unfold w64; rw [IntKind.wrap_i64]; omega
theorem room_of {b n : Nat} (hb : b ≤ 4096) (hn : n ≤ 34359738368) : room b n := by
  have : n * b ≤ 34359738368 * 4096 := Nat.mul_le_mul hn hb
  exact ⟨by omega, by omega⟩
theorem gO_t {α : Type} {c : Prop} [Decidable c] {k : Option α} (h : c) : gO c k = k := by simp [gO, h]
theorem drop_cons {α : Type} {L t : List α} {x : α} {i : Nat} (h : x :: t = L.drop i) : t = L.drop (i + 1) ∧ L[i]? = some x ∧ i < L.length := by
  have h1 := dnext h
  have h2 := ix_get (dget h)
  exact ⟨h1, by simpa using h2, dlt h⟩
theorem ix_nat {α : Type} (l : List α) (i : Nat) : ix l (i : Int) = l[i]? := by simp [ix]
theorem ix_lt {α : Type} {l : List α} {i : Int} (h0 : 0 ≤ i) (h1 : i < l.length) : ∃ x, ix l i = some x := by
  unfold ix
  rw [if_pos h0]
  exact ⟨l[i.toNat]'(by omega), by simp⟩
theorem w64_pred {i : Nat} (h0 : 0 < i) (h1 : i ≤ maxLen) : w64 ((i : Int) - 1) = ((i - 1 : Nat) : Int) := by
  have h2 : i ≤ 9223372036854775807 := h1
  rw [w64_id (by omega) (by omega)]; omega

theorem beq_dec {α : Type} [DecidableEq α] (x y : α) : (x == y) = decide (x = y) := by by_cases h : x = y <;> simp [h]
theorem bne_dec {α : Type} [DecidableEq α] (x y : α) : (x != y) = !decide (x = y) := by unfold bne; rw [beq_dec]
theorem beq_int (x y : Int) : (x == y) = decide (x = y) := beq_dec x y
theorem bne_int (x y : Int) : (x != y) = !decide (x = y) := bne_dec x y
theorem and_dec (p q : Prop) [Decidable p] [Decidable q] : (decide p && decide q) = decide (p ∧ q) := by simp
theorem or_dec (p q : Prop) [Decidable p] [Decidable q] : (decide p || decide q) = decide (p ∨ q) := by simp
theorem not_dec (p : Prop) [Decidable p] : (!decide p) = decide (¬ p) := by simp
theorem bind_id {α : Type} (x : Option α) : (x.bind fun v => some v) = x := by cases x <;> rfl

end Go.Proofs.Yteolobihfindjaa

/- The source of numbers: what it gives lies in range. -/
namespace Go.Proofs.Yteolobihfindjaa
open Go

theorem and_le (x : Int) (m : Nat) (h : m ≤ 2147483647) : 0 ≤ bits .and .i64 x (m : Int) ∧ bits .and .i64 x (m : Int) ≤ (m : Int) := by
  have e : bits .and .i64 x (m : Int) = IntKind.i64.wrap (((BitVec.ofInt 64 x &&& BitVec.ofInt 64 (m : Int)).toNat : Nat) : Int) := rfl
  have h2 : (BitVec.ofInt 64 (m : Int)).toNat = m := by
    rw [BitVec.ofInt_natCast, BitVec.toNat_ofNat]; exact Nat.mod_eq_of_lt (by omega)
  have h3 : (BitVec.ofInt 64 x).toNat &&& m ≤ m := Nat.and_le_right
  rw [e, BitVec.toNat_and, h2, IntKind.wrap_i64]
  omega
def curOk (c : SCur) : Prop := 0 ≤ c.fI ∧ c.fI ≤ (c.fB.length : Int) ∧ c.fB.length ≤ 1048576
theorem l01Byte_ok {c : SCur} (h : curOk c) : ∃ v d, spec_l01Byte c = some (v, d) ∧ 0 ≤ v ∧ v ≤ 255 ∧ curOk d ∧ d.fB = c.fB := by
  obtain ⟨h1, h2, h3⟩ := h
  unfold spec_l01Byte
  by_cases hi : c.fI < (c.fB.length : Int)
  · obtain ⟨x, hx⟩ := ix_lt (l := c.fB) h1 hi
    rw [decide_eq_true hi, cond_true, hx, Option.bind_some, w64_id (n := c.fI + 1) (by omega) (by omega)]
    have := and_le
    exact ⟨_, _, rfl, (and_le _ 255 (by omega)).1, (and_le _ 255 (by omega)).2, ⟨by show (0 : Int) ≤ c.fI + 1; omega, by show c.fI + 1 ≤ (c.fB.length : Int); omega, h3⟩, rfl⟩
  · rw [decide_eq_false hi, cond_false]
    exact ⟨_, _, rfl, (and_le _ 255 (by omega)).1, (and_le _ 255 (by omega)).2, ⟨h1, h2, h3⟩, rfl⟩
theorem remO_ok {v n : Int} (hv : 0 ≤ v) (hn : 0 < n) : ∃ r, remO .i64 v n = some r ∧ 0 ≤ r ∧ r < n := by
  unfold remO
  rw [if_neg (by omega)]
  exact ⟨_, rfl, Int.tmod_nonneg _ hv, Int.tmod_lt_of_pos _ hn⟩
theorem l01Below_ok {c : SCur} (n : Int) (h : curOk c) : ∃ v d, spec_l01Below c n = some (v, d) ∧ 0 ≤ v ∧ (0 < n → v < n) ∧ (n ≤ 0 → v = 0) ∧ curOk d ∧ d.fB = c.fB := by
  unfold spec_l01Below
  by_cases h0 : n ≤ 0
  · rw [decide_eq_true h0, cond_true]; exact ⟨_, _, rfl, by omega, by omega, fun _ => rfl, h, rfl⟩
  rw [decide_eq_false h0, cond_false]
  by_cases h1 : n ≤ 256
  · obtain ⟨v, d, e, b1, b2, b3, b4⟩ := l01Byte_ok h
    obtain ⟨r, er, r1, r2⟩ := remO_ok b1 (show 0 < n by omega)
    rw [decide_eq_true h1, cond_true, e, Option.bind_some, er, Option.bind_some]
    exact ⟨_, _, rfl, r1, fun _ => r2, fun hh => absurd hh h0, b3, b4⟩
  · obtain ⟨v1, d1, e1, b1, c1, k1, l1⟩ := l01Byte_ok h
    obtain ⟨v2, d2, e2, b2, c2, k2, l2⟩ := l01Byte_ok k1
    obtain ⟨v3, d3, e3, b3, c3, k3, l3⟩ := l01Byte_ok k2
    obtain ⟨v4, d4, e4, b4, c4, k4, l4⟩ := l01Byte_ok k3
    rw [decide_eq_false h1, cond_false, e1, Option.bind_some, e2, Option.bind_some, e3, Option.bind_some, e4, Option.bind_some]
    simp only []
    rw [w64_id (n := v1 * 16777216) (by omega) (by omega), w64_id (n := v2 * 65536) (by omega) (by omega), w64_id (n := v3 * 256) (by omega) (by omega),
      w64_id (n := v1 * 16777216 + v2 * 65536) (by omega) (by omega), w64_id (n := v1 * 16777216 + v2 * 65536 + v3 * 256) (by omega) (by omega), w64_id (n := v1 * 16777216 + v2 * 65536 + v3 * 256 + v4) (by omega) (by omega)]
    obtain ⟨r, er, r1, r2⟩ := remO_ok (v := v1 * 16777216 + v2 * 65536 + v3 * 256 + v4) (by omega) (show 0 < n by omega)
    rw [er, Option.bind_some]
    exact ⟨_, _, rfl, r1, fun _ => r2, fun hh => absurd hh h0, k4, l4.trans (l3.trans (l2.trans l1))⟩
theorem l01New_l2 (a : List Int) : ∀ (f i : Nat) (h : Int), i ≤ a.length → a.length - i < f → a.length ≤ 1048576 → ∃ v, spec_l01New_l2 a f (i : Int) h = some (SCur.mk a 0 v)
  | 0, i, h, hi, hf, hL => by omega
  | f + 1, i, h, hi, hf, hL => by
    rw [spec_l01New_l2]
    unfold spec_l01New_j1
    by_cases hlt : i < a.length
    · have hd : decide ((i : Int) < (a.length : Int)) = true := by simp; omega
      obtain ⟨x, hx⟩ := ix_lt (l := a) (i := (i : Int)) (by omega) (by omega)
      rw [hd, cond_true]
      cases decide ((i : Int) < 4000) with
      | false => exact ⟨_, rfl⟩
      | true =>
        rw [cond_true, hx, Option.bind_some, w64_id (by omega) (by omega), show (i : Int) + 1 = ((i + 1 : Nat) : Int) by omega]
        exact l01New_l2 a f (i + 1) _ (by omega) (by omega) hL
    · have hd : decide ((i : Int) < (a.length : Int)) = false := by simp; omega
      rw [hd]; exact ⟨_, rfl⟩
theorem l01New_ok {a : List Int} (h : a.length ≤ 1048576) : ∃ v, spec_l01New a = some (SCur.mk a 0 v) := l01New_l2 a fuel 0 _ (by omega) (by unfold fuel; omega) h

end Go.Proofs.Yteolobihfindjaa

/- A number made from bytes. -/
namespace Go.Proofs.Yteolobihfindjaa
open Go

theorem makeNum_ok {a : List Int} (n : Int) (h : a.length ≤ 1048576) : ∃ v, spec_MakeNum a n = some v ∧ 0 ≤ v ∧ (0 < n → v < n) ∧ (n ≤ 0 → v = 0) := by
  unfold spec_MakeNum
  obtain ⟨w, hw⟩ := l01New_ok h
  rw [hw, Option.bind_some]
  obtain ⟨v, d, e, b1, b2, b3, -, -⟩ := l01Below_ok (c := SCur.mk a 0 (w64 (w + 777))) n ⟨by show (0 : Int) ≤ 0; omega, by show (0 : Int) ≤ (a.length : Int); omega, h⟩
  rw [e, Option.bind_some]
  exact ⟨_, rfl, b1, b2, b3⟩

end Go.Proofs.Yteolobihfindjaa

/- Ranges. -/
namespace Go.Proofs.Yteolobihfindjaa
open Go

theorem impl_in_eq (n lo hi : Int) : impl_in n lo hi = some (decide (lo ≤ n ∧ n ≤ hi)) := by
  unfold impl_in
  by_cases h : n ≥ lo
  · simp [h]
  · have : ¬ lo ≤ n := h
    simp [h, this]

end Go.Proofs.Yteolobihfindjaa

/- The law FnBallot answers true. -/
namespace Go.Proofs.Yteolobihfindjaa
open Go

theorem ballotAbove_eq {b n : Int} (h0 : 0 ≤ b) (h1 : b < 1000) (h2 : 0 ≤ n) (h3 : n < 4) : ∃ x, impl_BallotAbove b n = some x ∧ b < x ∧ x ≤ b + 4 ∧ (x - 1) % 4 = n := by
  unfold impl_BallotAbove impl_isNode
  rw [impl_in_eq, impl_in_eq, Option.bind_some, Option.bind_some, decide_eq_true (by omega), decide_eq_true (by omega), w64_id (n := n + 1) (by omega) (by omega)]
  simp only [Bool.not_true, _root_.cond_false, Option.bind_some]
  by_cases hb : b < n + 1
  · rw [decide_eq_true hb, _root_.cond_true]
    exact ⟨_, rfl, by omega, by omega, by omega⟩
  · rw [decide_eq_false hb, _root_.cond_false, w64_id (n := b - n) (by omega) (by omega), w64_id (n := b - n - 1) (by omega) (by omega), Int.tdiv_eq_ediv_of_nonneg (by omega),
      w64_id (n := (b - n - 1) / 4) (by omega) (by omega), w64_id (n := (b - n - 1) / 4 + 1) (by omega) (by omega), w64_id (n := ((b - n - 1) / 4 + 1) * 4) (by omega) (by omega),
      w64_id (n := ((b - n - 1) / 4 + 1) * 4 + n) (by omega) (by omega), w64_id (n := ((b - n - 1) / 4 + 1) * 4 + n + 1) (by omega) (by omega)]
    exact ⟨_, rfl, by omega, by omega, by omega⟩
theorem ballotOf_eq {b n : Int} (h0 : 0 ≤ b) (h1 : b < 1000) (h2 : 0 ≤ n) (h3 : n < 4) : impl_BallotOf b n = some (b * 4 + n + 1) := by
  unfold impl_BallotOf impl_isNode
  rw [impl_in_eq, impl_in_eq, Option.bind_some, Option.bind_some, decide_eq_true (by omega), decide_eq_true (by omega)]
  simp only [Bool.not_true, _root_.cond_false, Option.bind_some]
  rw [w64_id (n := b * 4) (by omega) (by omega), w64_id (n := b * 4 + n) (by omega) (by omega), w64_id (n := b * 4 + n + 1) (by omega) (by omega)]
theorem pure_FnBallot (l : List Int) (hl : l.length ≤ maxLen ∧ ∀ a ∈ l, wfU a) : laws_FnBallot l = some true := by
  unfold laws_FnBallot
  by_cases hn : (l.length : Int) > 1048576
  · rw [decide_eq_true hn]; rfl
  · obtain ⟨b, eb, b1, b2, -⟩ := makeNum_ok (a := l) 1000 (by omega)
    obtain ⟨n, en, n1, n2, -⟩ := makeNum_ok (a := l) 4 (by omega)
    have b2 := b2 (by omega)
    have n2 := n2 (by omega)
    obtain ⟨x, ex, x1, x2, x3⟩ := ballotAbove_eq b1 b2 n1 n2
    rw [decide_eq_false hn, _root_.cond_false, eb, Option.bind_some, en, Option.bind_some, ex, Option.bind_some, w64_id (n := x - 1) (by omega) (by omega), Int.tdiv_eq_ediv_of_nonneg (by omega),
      w64_id (n := (x - 1) / 4) (by omega) (by omega), ballotOf_eq (by omega) (by omega) n1 n2, Option.bind_some, w64_id (n := x - b) (by omega) (by omega), beq_int, decide_eq_true x1, decide_eq_true (show x - b ≤ 4 by omega),
      decide_eq_true (show (x - 1) / 4 * 4 + n + 1 = x by omega)]
    rfl

end Go.Proofs.Yteolobihfindjaa

