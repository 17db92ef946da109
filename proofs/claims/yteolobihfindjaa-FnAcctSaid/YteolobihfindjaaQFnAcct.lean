/- The plain law FnAcct and what it needs: no program in sight. -/
import Derived.Test.YteolobihfindjaaUFnAcct
set_option linter.unusedVariables false
set_option linter.unusedSimpArgs false

/- Small plain facts: numbers, and the laws' own helpers over lists of numbers. -/
namespace Go.Proofs.Yteolobihfindjaa
open Go

theorem w64_id {n : Int} (h1 : -9223372036854775808 ≤ n) (h2 : n ≤ 9223372036854775807) : w64 n = n := by
  unfold w64; rw [IntKind.wrap_i64]; omega
theorem room_of {b n : Nat} (hb : b ≤ 4096) (hn : n ≤ 34359738368) : room b n := by
  have : n * b ≤ 34359738368 * 4096 := Nat.mul_le_mul hn hb
  exact ⟨by omega, by omega⟩
theorem gO_t {α : Type} {c : Prop} [Decidable c] {k : Option α} (h : c) : gO c k = k := by simp [gO, h]
theorem drop_cons {α : Type} {L t : List α} {x : α} {i : Nat} (h : x :: t = L.drop i) : t = L.drop (i + 1) ∧ L[i]? = some x ∧ i < L.length := by
  have h1 := dnext h
  have h2 := ix_get (dget h)
  exact ⟨h1, by simpa using h2, dlt h⟩
theorem ix_nat {α : Type} (l : List α) (i : Nat) : ix l (i : Int) = l[i]? := by simp [ix]
theorem ix_lt {α : Type} {l : List α} {i : Int} (h0 : 0 ≤ i) (h1 : i < l.length) : ∃ x, ix l i = some x := by
  unfold ix
  rw [if_pos h0]
  exact ⟨l[i.toNat]'(by omega), by simp⟩
theorem w64_pred {i : Nat} (h0 : 0 < i) (h1 : i ≤ maxLen) : w64 ((i : Int) - 1) = ((i - 1 : Nat) : Int) := by
  have h2 : i ≤ 9223372036854775807 := h1
  rw [w64_id (by omega) (by omega)]; omega

theorem beq_dec {α : Type} [DecidableEq α] (x y : α) : (x == y) = decide (x = y) := by by_cases h : x = y <;> simp [h]
theorem bne_dec {α : Type} [DecidableEq α] (x y : α) : (x != y) = !decide (x = y) := by unfold bne; rw [beq_dec]
theorem beq_int (x y : Int) : (x == y) = decide (x = y) := beq_dec x y
theorem bne_int (x y : Int) : (x != y) = !decide (x = y) := bne_dec x y
theorem and_dec (p q : Prop) [Decidable p] [Decidable q] : (decide p && decide q) = decide (p ∧ q) := by simp
theorem or_dec (p q : Prop) [Decidable p] [Decidable q] : (decide p || decide q) = decide (p ∨ q) := by simp
theorem not_dec (p : Prop) [Decidable p] : (!decide p) = decide (¬ p) := by simp
theorem bind_id {α : Type} (x : Option α) : (x.bind fun v => some v) = x := by cases x <;> rfl

end Go.Proofs.Yteolobihfindjaa

/- The source of numbers: what it gives lies in range. -/
namespace Go.Proofs.Yteolobihfindjaa
open Go

theorem and_le (x : Int) (m : Nat) (h : m ≤ 2147483647) : 0 ≤ bits .and .i64 x (m : Int) ∧ bits .and .i64 x (m : Int) ≤ (m : Int) := by
  have e : bits .and .i64 x (m : Int) = IntKind.i64.wrap (((BitVec.ofInt 64 x &&& BitVec.ofInt 64 (m : Int)).toNat : Nat) : Int) := rfl
  have h2 : (BitVec.ofInt 64 (m : Int)).toNat = m := by
    rw [BitVec.ofInt_natCast, BitVec.toNat_ofNat]; exact Nat.mod_eq_of_lt (by omega)
  have h3 : (BitVec.ofInt 64 x).toNat &&& m ≤ m := Nat.and_le_right
  rw [e, BitVec.toNat_and, h2, IntKind.wrap_i64]
  omega
def curOk (c : SCur) : Prop := 0 ≤ c.fI ∧ c.fI ≤ (c.fB.length : Int) ∧ c.fB.length ≤ 1048576
theorem l01Byte_ok {c : SCur} (h : curOk c) : ∃ v d, spec_l01Byte c = some (v, d) ∧ 0 ≤ v ∧ v ≤ 255 ∧ curOk d ∧ d.fB = c.fB := by
  obtain ⟨h1, h2, h3⟩ := h
  unfold spec_l01Byte
  by_cases hi : c.fI < (c.fB.length : Int)
  · obtain ⟨x, hx⟩ := ix_lt (l := c.fB) h1 hi
    rw [decide_eq_true hi, cond_true, hx, Option.bind_some, w64_id (n := c.fI + 1) (by omega) (by omega)]
    have := and_le
    exact ⟨_, _, rfl, (and_le _ 255 (by omega)).1, (and_le _ 255 (by omega)).2, ⟨by show (0 : Int) ≤ c.fI + 1; omega, by show c.fI + 1 ≤ (c.fB.length : Int); omega, h3⟩, rfl⟩
  · rw [decide_eq_false hi, cond_false]
    exact ⟨_, _, rfl, (and_le _ 255 (by omega)).1, (and_le _ 255 (by omega)).2, ⟨h1, h2, h3⟩, rfl⟩
theorem remO_ok {v n : Int} (hv : 0 ≤ v) (hn : 0 < n) : ∃ r, remO .i64 v n = some r ∧ 0 ≤ r ∧ r < n := by
  unfold remO
  rw [if_neg (by omega)]
  exact ⟨_, rfl, Int.tmod_nonneg _ hv, Int.tmod_lt_of_pos _ hn⟩
theorem l01Below_ok {c : SCur} (n : Int) (h : curOk c) : ∃ v d, spec_l01Below c n = some (v, d) ∧ 0 ≤ v ∧ (0 < n → v < n) ∧ (n ≤ 0 → v = 0) ∧ curOk d ∧ d.fB = c.fB := by
  unfold spec_l01Below
  by_cases h0 : n ≤ 0
  · rw [decide_eq_true h0, cond_true]; exact ⟨_, _, rfl, by omega, by omega, fun _ => rfl, h, rfl⟩
  rw [decide_eq_false h0, cond_false]
  by_cases h1 : n ≤ 256
  · obtain ⟨v, d, e, b1, b2, b3, b4⟩ := l01Byte_ok h
    obtain ⟨r, er, r1, r2⟩ := remO_ok b1 (show 0 < n by omega)
    rw [decide_eq_true h1, cond_true, e, Option.bind_some, er, Option.bind_some]
    exact ⟨_, _, rfl, r1, fun _ => r2, fun hh => absurd hh h0, b3, b4⟩
  · obtain ⟨v1, d1, e1, b1, c1, k1, l1⟩ := l01Byte_ok h
    obtain ⟨v2, d2, e2, b2, c2, k2, l2⟩ := l01Byte_ok k1
    obtain ⟨v3, d3, e3, b3, c3, k3, l3⟩ := l01Byte_ok k2
    obtain ⟨v4, d4, e4, b4, c4, k4, l4⟩ := l01Byte_ok k3
    rw [decide_eq_false h1, cond_false, e1, Option.bind_some, e2, Option.bind_some, e3, Option.bind_some, e4, Option.bind_some]
    simp only []
    rw [w64_id (n := v1 * 16777216) (by omega) (by omega), w64_id (n := v2 * 65536) (by omega) (by omega), w64_id (n := v3 * 256) (by omega) (by omega),
      w64_id (n := v1 * 16777216 + v2 * 65536) (by omega) (by omega), w64_id (n := v1 * 16777216 + v2 * 65536 + v3 * 256) (by omega) (by omega), w64_id (n := v1 * 16777216 + v2 * 65536 + v3 * 256 + v4) (by omega) (by omega)]
    obtain ⟨r, er, r1, r2⟩ := remO_ok (v := v1 * 16777216 + v2 * 65536 + v3 * 256 + v4) (by omega) (show 0 < n by omega)
    rw [er, Option.bind_some]
    exact ⟨_, _, rfl, r1, fun _ => r2, fun hh => absurd hh h0, k4, l4.trans (l3.trans (l2.trans l1))⟩
theorem l01New_l2 (a : List Int) : ∀ (f i : Nat) (h : Int), i ≤ a.length → a.length - i < f → a.length ≤ 1048576 → ∃ v, spec_l01New_l2 a f (i : Int) h = some (SCur.mk a 0 v)
  | 0, i, h, hi, hf, hL => by omega
  | f + 1, i, h, hi, hf, hL => by
    rw [spec_l01New_l2]
    unfold spec_l01New_j1
    by_cases hlt : i < a.length
    · have hd : decide ((i : Int) < (a.length : Int)) = true := by simp; omega
      obtain ⟨x, hx⟩ := ix_lt (l := a) (i := (i : Int)) (by omega) (by omega)
      rw [hd, cond_true]
      cases decide ((i : Int) < 4000) with
      | false => exact ⟨_, rfl⟩
      | true =>
        rw [cond_true, hx, Option.bind_some, w64_id (by omega) (by omega), show (i : Int) + 1 = ((i + 1 : Nat) : Int) by omega]
        exact l01New_l2 a f (i + 1) _ (by omega) (by omega) hL
    · have hd : decide ((i : Int) < (a.length : Int)) = false := by simp; omega
      rw [hd]; exact ⟨_, rfl⟩
theorem l01New_ok {a : List Int} (h : a.length ≤ 1048576) : ∃ v, spec_l01New a = some (SCur.mk a 0 v) := l01New_l2 a fuel 0 _ (by omega) (by unfold fuel; omega) h

end Go.Proofs.Yteolobihfindjaa

/- A number made from bytes. -/
namespace Go.Proofs.Yteolobihfindjaa
open Go

theorem makeNum_ok {a : List Int} (n : Int) (h : a.length ≤ 1048576) : ∃ v, spec_MakeNum a n = some v ∧ 0 ≤ v ∧ (0 < n → v < n) ∧ (n ≤ 0 → v = 0) := by
  unfold spec_MakeNum
  obtain ⟨w, hw⟩ := l01New_ok h
  rw [hw, Option.bind_some]
  obtain ⟨v, d, e, b1, b2, b3, -, -⟩ := l01Below_ok (c := SCur.mk a 0 (w64 (w + 777))) n ⟨by show (0 : Int) ≤ 0; omega, by show (0 : Int) ≤ (a.length : Int); omega, h⟩
  rw [e, Option.bind_some]
  exact ⟨_, rfl, b1, b2, b3⟩

end Go.Proofs.Yteolobihfindjaa

/- Ranges. -/
namespace Go.Proofs.Yteolobihfindjaa
open Go

theorem impl_in_eq (n lo hi : Int) : impl_in n lo hi = some (decide (lo ≤ n ∧ n ≤ hi)) := by
  unfold impl_in
  by_cases h : n ≥ lo
  · simp [h]
  · have : ¬ lo ≤ n := h
    simp [h, this]

end Go.Proofs.Yteolobihfindjaa

/- Membership in a list of numbers. -/
namespace Go.Proofs.Yteolobihfindjaa
open Go

theorem hasInt_l1 (n : Int) : ∀ (t : List Int) (i : Nat), impl_hasInt_l1 n t i = some (decide (n ∈ t))
  | [], i => by rw [impl_hasInt_l1]; simp
  | x :: t, i => by
    rw [impl_hasInt_l1, hasInt_l1 n t (i + 1), beq_int]
    by_cases h : x = n
    · simp [h]
    · have : ¬ n = x := fun e => h e.symm
      simp [h, this]
theorem hasInt_eq (l : List Int) (n : Int) : impl_hasInt l n = some (decide (n ∈ l)) := hasInt_l1 n l 0

end Go.Proofs.Yteolobihfindjaa

/- Loops over lists, in general. -/
namespace Go.Proofs.Yteolobihfindjaa
open Go

theorem eqL_gen {α : Type} [DecidableEq α] {f : List α → Nat → Option Bool} {b : List α} (hn : ∀ i, f [] i = some true)
    (hc : ∀ x t (i : Nat), f (x :: t) i = (ix b (i : Int)).bind fun y => bif decide (x = y) then f t (i + 1) else some false) :
    ∀ (t L : List α) (i : Nat), t = L.drop i → b.length = L.length → i ≤ L.length → f t i = some (decide (t = b.drop i))
  | [], L, i, hd, hl, hi => by
    have := List.drop_eq_nil_iff.1 hd.symm
    rw [hn, List.drop_eq_nil_of_le (by omega)]; simp
  | x :: t, L, i, hd, hl, hi => by
    obtain ⟨h1, h2, h3⟩ := drop_cons hd
    have hlt : i < b.length := by omega
    rw [hc, ix_nat]
    have hy : b[i]? = some b[i] := by simp [hlt]
    rw [hy, Option.bind_some, List.drop_eq_getElem_cons hlt]
    by_cases hx : x = b[i]
    · simp only [hx, decide_true, cond_true]
      rw [eqL_gen hn hc t L (i + 1) h1 hl (by omega)]
      simp only [List.cons.injEq, true_and]
    · simp only [hx, decide_false, cond_false, List.cons.injEq, false_and]
theorem eqS_gen {α : Type} [DecidableEq α] {f : List α → Nat → Option Bool} {a b : List α} (hn : ∀ i, f [] i = some true)
    (hc : ∀ x t (i : Nat), f (x :: t) i = (ix b (i : Int)).bind fun y => bif decide (x = y) then f t (i + 1) else some false) :
    (bif ((a.length : Int) != (b.length : Int)) then some false else f a 0) = some (decide (a = b)) := by
  by_cases h : a.length = b.length
  · have hb : ((a.length : Int) != (b.length : Int)) = false := by simp [h]
    rw [hb, cond_false, eqL_gen hn hc a a 0 rfl h.symm (by omega)]; simp
  · have hb : ((a.length : Int) != (b.length : Int)) = true := by simp; omega
    rw [hb, cond_true]
    have : a ≠ b := fun he => h (by rw [he])
    simp [this]
theorem toL_gen {α : Type} {f : List α → Nat → List α → Option (List α)} {q : α → Prop} (hn : ∀ i y, f [] i y = some y)
    (hc : ∀ x t (i : Nat) y, q x → f (x :: t) i y = (ix y (i : Int)).bind fun _ => f t (i + 1) (List.set y (Int.toNat (i : Int)) x)) :
    ∀ (t L : List α) (i : Nat) (y : List α), t = L.drop i → y.length = L.length → y.take i = L.take i → i ≤ L.length → (∀ x ∈ t, q x) → f t i y = some L
  | [], L, i, y, hd, hl, ht, hi, hq => by
    have := List.drop_eq_nil_iff.1 hd.symm
    rw [hn]
    rw [List.take_of_length_le (by omega), List.take_of_length_le (by omega)] at ht
    rw [ht]
  | x :: t, L, i, y, hd, hl, ht, hi, hq => by
    obtain ⟨h1, h2, h3⟩ := drop_cons hd
    rw [hc x t i y (hq x (by simp)), ix_nat]
    have hy : y[i]? = some (y[i]'(by omega)) := by simp [show i < y.length by omega]
    rw [hy, Option.bind_some]
    refine toL_gen hn hc t L (i + 1) _ h1 (by simp [hl]) ?_ (by omega) (fun x hx => hq x (by simp [hx]))
    rw [List.take_add_one, List.take_add_one, List.take_set_of_le (by simp), ht]
    simp [show i < y.length by omega, h2]
theorem toS_gen {α : Type} {f : List α → Nat → List α → Option (List α)} {q : α → Prop} {b : Nat} {z : α} {l : List α} (hb : b ≤ 4096) (h : l.length ≤ 1048576) (hq : ∀ x ∈ l, q x) (hn : ∀ i y, f [] i y = some y)
    (hc : ∀ x t (i : Nat) y, q x → f (x :: t) i y = (ix y (i : Int)).bind fun _ => f t (i + 1) (List.set y (Int.toNat (i : Int)) x)) :
    gO (0 ≤ (l.length : Int) ∧ room b (Int.toNat (l.length : Int))) (f l 0 (List.replicate (Int.toNat (l.length : Int)) z)) = some l := by
  rw [gO_t ⟨by omega, room_of hb (by simp; omega)⟩]
  exact toL_gen hn hc l l 0 _ rfl (by simp) (by simp) (by omega) hq
/-- A budget that is lessened by a length. -/
theorem szL_gen {n : Nat} {k : Int} (hl : n ≤ maxLen) (hk0 : -1 ≤ k) (hk : k ≤ 1048576) :
    ∃ v, (bif (decide ((w64 (k - (n : Int))) < 0)) then some (-1) else some (w64 (k - (n : Int)))) = some v ∧ -1 ≤ v ∧ v ≤ k ∧ (0 ≤ v → 0 ≤ k → n ≤ 1048576) := by
  have h3 : (maxLen : Int) = 9223372036854775807 ∨ maxLen ≤ 140737488355328 := by decide
  have h2 : n ≤ 9223372036854775807 := hl
  have hw : w64 (k - (n : Int)) = k - n := w64_id (by rcases h3 with h3 | h3 <;> omega) (by omega)
  rw [hw]
  by_cases h : k - (n : Int) < 0
  · simp only [h, decide_true, cond_true]; exact ⟨_, rfl, by omega, by omega, by omega⟩
  · simp only [h, decide_false, cond_false]; exact ⟨_, rfl, by omega, by omega, by omega⟩

end Go.Proofs.Yteolobihfindjaa

/- Accounts alike: the program. -/
namespace Go.Proofs.Yteolobihfindjaa
open Go

theorem sameInts_eq (a b : List Int) : impl_sameInts a b = some (decide (a = b)) := by
  unfold impl_sameInts
  exact eqS_gen (f := impl_sameInts_l1 b) (fun i => by rw [impl_sameInts_l1]) (fun x t i => by rw [impl_sameInts_l1]; congr 1; funext y; rw [bne_int]; cases decide (x = y) <;> rfl)
theorem rep_dec (x y : SRep) : ((x.fNode == y.fNode) && ((x.fAmt == y.fAmt) && true)) = decide (x = y) := by
  obtain ⟨x1, x2⟩ := x; obtain ⟨y1, y2⟩ := y
  simp only [beq_int, Bool.and_true, and_dec, SRep.mk.injEq]
theorem acctSame_reps (a b : SAcct) : (bif ((a.fReps.length : Int) != (b.fReps.length : Int)) then some false else impl_AcctSame_l1 b a.fReps 0) = some (decide (a.fReps = b.fReps)) :=
  eqS_gen (f := impl_AcctSame_l1 b) (b := b.fReps) (fun i => by rw [impl_AcctSame_l1]) (fun x t i => by rw [impl_AcctSame_l1]; congr 1; funext y; rw [rep_dec]; cases decide (x = y) <;> rfl)
theorem impl_AcctSame_eq {a b : SAcct} (h : a.fReps.length ≤ maxLen) : impl_AcctSame a b = some (decide (a = b)) := by
  have hr := acctSame_reps a b
  unfold impl_AcctSame
  rw [gO_t h, hr]
  simp only [sameInts_eq, Option.bind_some]
  obtain ⟨x0, x1, x2, x3, x4⟩ := a; obtain ⟨y0, y1, y2, y3, y4⟩ := b
  simp only [bne_int, Bool.cond_not, Bool.cond_decide, SAcct.mk.injEq]
  by_cases h0 : x0 = y0 <;> by_cases h1 : x1 = y1 <;> by_cases h2 : x2 = y2 <;> by_cases h3 : x3 = y3 <;> simp [h0, h1, h2, h3]

end Go.Proofs.Yteolobihfindjaa

/- The law FnAcct answers true. -/
namespace Go.Proofs.Yteolobihfindjaa
open Go

theorem cp0 (h s b : Int) : impl_copyAcct (SAcct.mk h s b [] []) = some (SAcct.mk h s b [] []) := by
  unfold impl_copyAcct impl_copyInts
  rw [gO_t (room_of (by omega) (by simp)), Option.bind_some, gO_t (room_of (by omega) (by simp))]
theorem ac_add {m : Int} (h0 : 1 ≤ m) (h1 : m ≤ 1000) : impl_AcctAdd (SAcct.mk 0 0 0 [] []) m = some (SAcct.mk m 0 0 [] [], true) := by
  unfold impl_AcctAdd impl_AcctAdd_j1 impl_IsAmt impl_isNum
  simp only [impl_in_eq, Option.bind_some, cp0, Int.zero_add, w64_id (n := m) (by omega) (by omega)]
  rw [decide_eq_true (show 1 ≤ m ∧ m ≤ 1000000000 by omega), decide_eq_true (show 0 ≤ m ∧ m ≤ 1125899906842624 by omega)]
  rfl
theorem ac_take {m k : Int} (h0 : 1 ≤ k) (h1 : k ≤ m) (h2 : m ≤ 1000) : impl_AcctTake (SAcct.mk m 0 0 [] []) k = some (SAcct.mk (m - k) 0 0 [] [], true) := by
  unfold impl_AcctTake impl_AcctTake_j1 impl_IsAmt
  simp only [impl_in_eq, Option.bind_some, cp0, w64_id (n := m - k) (by omega) (by omega)]
  rw [decide_eq_true (show 1 ≤ k ∧ k ≤ 1000000000 by omega), decide_eq_false (show ¬ k > m by omega)]
  rfl
theorem ac_much {m : Int} (h0 : 1 ≤ m) (h2 : m ≤ 1000) : impl_AcctTake (SAcct.mk m 0 0 [] []) (m + 1) = some (SAcct.mk 0 0 0 [] [], false) := by
  unfold impl_AcctTake impl_AcctTake_j1 impl_IsAmt
  simp only [impl_in_eq, Option.bind_some, cp0]
  rw [decide_eq_true (show 1 ≤ m + 1 ∧ m + 1 ≤ 1000000000 by omega), decide_eq_true (show m + 1 > m by omega)]
  rfl
theorem ac_shut (h : Int) : impl_AcctShut (SAcct.mk h 0 0 [] []) 2 = some (SAcct.mk h 1 2 [] [], true) := by
  unfold impl_AcctShut impl_AcctShut_j1 impl_isNode
  simp only [impl_in_eq, Option.bind_some, cp0]
  rfl
theorem ac_again (h : Int) : impl_AcctShut (SAcct.mk h 1 2 [] []) 2 = some (SAcct.mk 0 0 0 [] [], false) := by
  unfold impl_AcctShut impl_AcctShut_j1 impl_isNode
  simp only [impl_in_eq, Option.bind_some, cp0]
  rfl
theorem ac_mark (h : Int) : impl_AcctMark (SAcct.mk h 1 2 [] []) 1 = some (SAcct.mk h 1 2 [1] [], true) := by
  unfold impl_AcctMark impl_AcctMark_j1 impl_isNode
  simp only [impl_in_eq, Option.bind_some, cp0, hasInt_eq]
  rw [impl_AcctMark_l2, gO_t (room_of (by omega) (by simp)), gO_t (room_of (by omega) (by simp))]
  rfl
theorem ac_open (h : Int) : impl_AcctMark (SAcct.mk h 0 0 [] []) 1 = some (SAcct.mk 0 0 0 [] [], false) := by
  unfold impl_AcctMark impl_AcctMark_j1 impl_isNode
  simp only [impl_in_eq, Option.bind_some, cp0, hasInt_eq]
  rfl
theorem nodes0 : impl_nodesOk [] 3 = some true := by unfold impl_nodesOk; rw [impl_nodesOk_l1]
theorem nodes1 : impl_nodesOk [1] 3 = some true := by
  unfold impl_nodesOk; rw [impl_nodesOk_l1, impl_nodesOk_l1, impl_in_eq, w64_id (by omega) (by omega)]; rfl
theorem reps0 (h s b : Int) (l : List Int) : impl_repsOk (SAcct.mk h s b l []) 3 = some true := by unfold impl_repsOk; rw [impl_repsOk_l1]
theorem repat0 (h s b d : Int) (l : List Int) : impl_repAt (SAcct.mk h s b l []) d = some (-1) := by unfold impl_repAt; rw [impl_repAt_l1]
theorem ac_ok0 {h : Int} (h0 : 0 ≤ h) (h1 : h ≤ 1000) : impl_AcctOk (SAcct.mk h 0 0 [] []) 3 0 = some true := by
  unfold impl_AcctOk impl_isNum
  simp only [impl_in_eq, Option.bind_some, w64_id (n := 3 - 1) (by omega) (by omega)]
  rw [decide_eq_true (show 0 ≤ h ∧ h ≤ 1125899906842624 by omega)]
  rfl
theorem ac_ok1 {h : Int} (h0 : 0 ≤ h) (h1 : h ≤ 1000) : impl_AcctOk (SAcct.mk h 1 2 [] []) 3 0 = some true := by
  unfold impl_AcctOk impl_isNum impl_AcctOk_j1
  simp only [impl_in_eq, Option.bind_some, w64_id (n := 3 - 1) (by omega) (by omega), nodes0, reps0, repat0, hasInt_eq]
  rw [decide_eq_true (show 0 ≤ h ∧ h ≤ 1125899906842624 by omega)]
  rfl
theorem ac_ok2 {h : Int} (h0 : 0 ≤ h) (h1 : h ≤ 1000) : impl_AcctOk (SAcct.mk h 1 2 [1] []) 3 0 = some true := by
  unfold impl_AcctOk impl_isNum impl_AcctOk_j1
  simp only [impl_in_eq, Option.bind_some, w64_id (n := 3 - 1) (by omega) (by omega), nodes1, reps0, repat0, hasInt_eq]
  rw [decide_eq_true (show 0 ≤ h ∧ h ≤ 1125899906842624 by omega)]
  rfl
theorem pure_FnAcct (l : List Int) (hl : l.length ≤ maxLen ∧ ∀ a ∈ l, wfU a) : laws_FnAcct l = some true := by
  unfold laws_FnAcct
  by_cases hn : (l.length : Int) > 1048576
  · rw [decide_eq_true hn]; rfl
  · obtain ⟨m, em, m1, m2, -⟩ := makeNum_ok (a := l) 1000 (by omega)
    have m2 := m2 (by omega)
    obtain ⟨k, ek, k1, k2, -⟩ := makeNum_ok (a := l) (1 + m) (by omega)
    have k2 := k2 (by omega)
    have e1 : w64 (1 + m) = 1 + m := w64_id (by omega) (by omega)
    have e2 : w64 (1 + k) = 1 + k := w64_id (by omega) (by omega)
    have e3 : w64 (1 + m + 1) = 1 + m + 1 := w64_id (by omega) (by omega)
    have e4 : w64 (1 + m - (1 + k)) = 1 + m - (1 + k) := w64_id (by omega) (by omega)
    have t1 := ac_take (m := 1 + m) (k := 1 + k) (by omega) (by omega) (by omega)
    have t2 := ac_much (m := 1 + m) (by omega) (by omega)
    have t3 := ac_add (m := 1 + m) (by omega) (by omega)
    have t4 := ac_ok0 (h := 1 + m) (by omega) (by omega)
    have t5 := ac_ok1 (h := 1 + m - (1 + k)) (by omega) (by omega)
    have t6 := ac_ok2 (h := 1 + m - (1 + k)) (by omega) (by omega)
    have s1 : impl_AcctSame (SAcct.mk (1 + m - (1 + k)) 1 2 [] []) (SAcct.mk (1 + m - (1 + k)) 1 2 [] []) = some true := by
      rw [impl_AcctSame_eq (by simp), decide_eq_true rfl]
    have s2 : impl_AcctSame (SAcct.mk (1 + m - (1 + k)) 1 2 [] []) (SAcct.mk (1 + m - (1 + k)) 1 2 [1] []) = some false := by
      rw [impl_AcctSame_eq (by simp), decide_eq_false (by simp)]
    have a0 : impl_AcctNew = some (SAcct.mk 0 0 0 [] []) := rfl
    rw [decide_eq_false hn, _root_.cond_false]
    simp only [em, Option.bind_some, a0, e1, t3, ek, e2, t1, e3, t2, ac_shut, ac_again, ac_mark, ac_open, e4, beq_self_eq_true, _root_.cond_true, _root_.cond_false, Bool.not_true, Bool.not_false, t4, t5, t6, s1, s2]

end Go.Proofs.Yteolobihfindjaa

