/- The plain law FnExactAcctRep and what it needs: no program in sight. -/
import Derived.Test.YtncjcbdbdocjaaaUFnExactAcctRep
set_option linter.unusedVariables false
set_option linter.unusedSimpArgs false

/- Small plain facts: numbers, and the laws' own helpers over lists of numbers. -/
namespace Go.Proofs.Ytncjcbdbdocjaaa
open Go

theorem w64_id {n : Int} (h1 : -9223372036854775808 ≤ n) (h2 : n ≤ 9223372036854775807) : w64 n = n := by
  unfold w64; rw [IntKind.wrap_i64]; omega
theorem room_of {b n : Nat} (hb : b ≤ 4096) (hn : n ≤ 34359738368) : room b n := by
  have : n * b ≤ 34359738368 * 4096 := Nat.mul_le_mul hn hb
  exact ⟨by omega, by omega⟩
theorem gO_t {α : Type} {c : Prop} [Decidable c] {k : Option α} (h : c) : gO c k = k := by simp [gO, h]
theorem drop_cons {α : Type} {L t : List α} {x : α} {i : Nat} (h : x :: t = L.drop i) : t = L.drop (i + 1) ∧ L[i]? = some x ∧ i < L.length := by
  have h1 := dnext h
  have h2 := ix_get (dget h)
  exact ⟨h1, by simpa using h2, dlt h⟩
theorem ix_nat {α : Type} (l : List α) (i : Nat) : ix l (i : Int) = l[i]? := by simp [ix]
theorem ix_lt {α : Type} {l : List α} {i : Int} (h0 : 0 ≤ i) (h1 : i < l.length) : ∃ x, ix l i = some x := by
  unfold ix
  rw [if_pos h0]
  exact ⟨l[i.toNat]'(by omega), by simp⟩
theorem w64_pred {i : Nat} (h0 : 0 < i) (h1 : i ≤ maxLen) : w64 ((i : Int) - 1) = ((i - 1 : Nat) : Int) := by
  have h2 : i ≤ 9223372036854775807 := h1
  rw [w64_id (by omega) (by omega)]; omega

theorem beq_dec {α : Type} [DecidableEq α] (x y : α) : (x == y) = decide (x = y) := by by_cases h : x = y <;> simp [h]
theorem bne_dec {α : Type} [DecidableEq α] (x y : α) : (x != y) = !decide (x = y) := by unfold bne; rw [beq_dec]
theorem beq_int (x y : Int) : (x == y) = decide (x = y) := beq_dec x y
theorem bne_int (x y : Int) : (x != y) = !decide (x = y) := bne_dec x y
theorem and_dec (p q : Prop) [Decidable p] [Decidable q] : (decide p && decide q) = decide (p ∧ q) := by simp
theorem or_dec (p q : Prop) [Decidable p] [Decidable q] : (decide p || decide q) = decide (p ∨ q) := by simp
theorem not_dec (p : Prop) [Decidable p] : (!decide p) = decide (¬ p) := by simp
theorem bind_id {α : Type} (x : Option α) : (x.bind fun v => some v) = x := by cases x <;> rfl

end Go.Proofs.Ytncjcbdbdocjaaa

/- Ranges. -/
namespace Go.Proofs.Ytncjcbdbdocjaaa
open Go

theorem impl_in_eq (n lo hi : Int) : impl_in n lo hi = some (decide (lo ≤ n ∧ n ≤ hi)) := by
  unfold impl_in
  by_cases h : n ≥ lo
  · simp [h]
  · have : ¬ lo ≤ n := h
    simp [h, this]

end Go.Proofs.Ytncjcbdbdocjaaa

/- Ranges: the reference's are the program's. -/
namespace Go.Proofs.Ytncjcbdbdocjaaa
open Go

theorem spec_in_impl : spec_l01In = impl_in := rfl
theorem spec_in_eq (n lo hi : Int) : spec_l01In n lo hi = some (decide (lo ≤ n ∧ n ≤ hi)) := by rw [spec_in_impl, impl_in_eq]

end Go.Proofs.Ytncjcbdbdocjaaa

/- Loops over lists, in general. -/
namespace Go.Proofs.Ytncjcbdbdocjaaa
open Go

theorem eqL_gen {α : Type} [DecidableEq α] {f : List α → Nat → Option Bool} {b : List α} (hn : ∀ i, f [] i = some true)
    (hc : ∀ x t (i : Nat), f (x :: t) i = (ix b (i : Int)).bind fun y => bif decide (x = y) then f t (i + 1) else some false) :
    ∀ (t L : List α) (i : Nat), t = L.drop i → b.length = L.length → i ≤ L.length → f t i = some (decide (t = b.drop i))
  | [], L, i, hd, hl, hi => by
    have := List.drop_eq_nil_iff.1 hd.symm
    rw [hn, List.drop_eq_nil_of_le (by omega)]; simp
  | x :: t, L, i, hd, hl, hi => by
    obtain ⟨h1, h2, h3⟩ := drop_cons hd
    have hlt : i < b.length := by omega
    rw [hc, ix_nat]
    have hy : b[i]? = some b[i] := by simp [hlt]
    rw [hy, Option.bind_some, List.drop_eq_getElem_cons hlt]
    by_cases hx : x = b[i]
    · simp only [hx, decide_true, cond_true]
      rw [eqL_gen hn hc t L (i + 1) h1 hl (by omega)]
      simp only [List.cons.injEq, true_and]
    · simp only [hx, decide_false, cond_false, List.cons.injEq, false_and]
theorem eqS_gen {α : Type} [DecidableEq α] {f : List α → Nat → Option Bool} {a b : List α} (hn : ∀ i, f [] i = some true)
    (hc : ∀ x t (i : Nat), f (x :: t) i = (ix b (i : Int)).bind fun y => bif decide (x = y) then f t (i + 1) else some false) :
    (bif ((a.length : Int) != (b.length : Int)) then some false else f a 0) = some (decide (a = b)) := by
  by_cases h : a.length = b.length
  · have hb : ((a.length : Int) != (b.length : Int)) = false := by simp [h]
    rw [hb, cond_false, eqL_gen hn hc a a 0 rfl h.symm (by omega)]; simp
  · have hb : ((a.length : Int) != (b.length : Int)) = true := by simp; omega
    rw [hb, cond_true]
    have : a ≠ b := fun he => h (by rw [he])
    simp [this]
theorem toL_gen {α : Type} {f : List α → Nat → List α → Option (List α)} {q : α → Prop} (hn : ∀ i y, f [] i y = some y)
    (hc : ∀ x t (i : Nat) y, q x → f (x :: t) i y = (ix y (i : Int)).bind fun _ => f t (i + 1) (List.set y (Int.toNat (i : Int)) x)) :
    ∀ (t L : List α) (i : Nat) (y : List α), t = L.drop i → y.length = L.length → y.take i = L.take i → i ≤ L.length → (∀ x ∈ t, q x) → f t i y = some L
  | [], L, i, y, hd, hl, ht, hi, hq => by
    have := List.drop_eq_nil_iff.1 hd.symm
    rw [hn]
    rw [List.take_of_length_le (by omega), List.take_of_length_le (by omega)] at ht
    rw [ht]
  | x :: t, L, i, y, hd, hl, ht, hi, hq => by
    obtain ⟨h1, h2, h3⟩ := drop_cons hd
    rw [hc x t i y (hq x (by simp)), ix_nat]
    have hy : y[i]? = some (y[i]'(by omega)) := by simp [show i < y.length by omega]
    rw [hy, Option.bind_some]
    refine toL_gen hn hc t L (i + 1) _ h1 (by simp [hl]) ?_ (by omega) (fun x hx => hq x (by simp [hx]))
    rw [List.take_add_one, List.take_add_one, List.take_set_of_le (by simp), ht]
    simp [show i < y.length by omega, h2]
theorem toS_gen {α : Type} {f : List α → Nat → List α → Option (List α)} {q : α → Prop} {b : Nat} {z : α} {l : List α} (hb : b ≤ 4096) (h : l.length ≤ 1048576) (hq : ∀ x ∈ l, q x) (hn : ∀ i y, f [] i y = some y)
    (hc : ∀ x t (i : Nat) y, q x → f (x :: t) i y = (ix y (i : Int)).bind fun _ => f t (i + 1) (List.set y (Int.toNat (i : Int)) x)) :
    gO (0 ≤ (l.length : Int) ∧ room b (Int.toNat (l.length : Int))) (f l 0 (List.replicate (Int.toNat (l.length : Int)) z)) = some l := by
  rw [gO_t ⟨by omega, room_of hb (by simp; omega)⟩]
  exact toL_gen hn hc l l 0 _ rfl (by simp) (by simp) (by omega) hq
/-- A budget that is lessened by a length. -/
theorem szL_gen {n : Nat} {k : Int} (hl : n ≤ maxLen) (hk0 : -1 ≤ k) (hk : k ≤ 1048576) :
    ∃ v, (bif (decide ((w64 (k - (n : Int))) < 0)) then some (-1) else some (w64 (k - (n : Int)))) = some v ∧ -1 ≤ v ∧ v ≤ k ∧ (0 ≤ v → 0 ≤ k → n ≤ 1048576) := by
  have h3 : (maxLen : Int) = 9223372036854775807 ∨ maxLen ≤ 140737488355328 := by decide
  have h2 : n ≤ 9223372036854775807 := hl
  have hw : w64 (k - (n : Int)) = k - n := w64_id (by rcases h3 with h3 | h3 <;> omega) (by omega)
  rw [hw]
  by_cases h : k - (n : Int) < 0
  · simp only [h, decide_true, cond_true]; exact ⟨_, rfl, by omega, by omega, by omega⟩
  · simp only [h, decide_false, cond_false]; exact ⟨_, rfl, by omega, by omega, by omega⟩

end Go.Proofs.Ytncjcbdbdocjaaa

/- The laws' own helpers over Acct. -/
namespace Go.Proofs.Ytncjcbdbdocjaaa
open Go

def shAcct (a : SAcct) : Prop := a.fMarks.length ≤ 1048576 ∧ a.fReps.length ≤ 1048576
def wflAcct (a : SAcct) : Prop := (a.fMarks.length ≤ maxLen) ∧ (a.fReps.length ≤ maxLen)

end Go.Proofs.Ytncjcbdbdocjaaa

/- Copies of accounts. -/
namespace Go.Proofs.Ytncjcbdbdocjaaa
open Go

theorem copyInts_eq {l : List Int} (h : l.length ≤ 1048576) : impl_copyInts l = some l := by
  unfold impl_copyInts; exact gO_t (room_of (by omega) (by simp; omega))
theorem copyAcct_eq {a : SAcct} (h : shAcct a) : impl_copyAcct a = some a := by
  obtain ⟨h1, h2⟩ := h
  unfold impl_copyAcct; rw [copyInts_eq h1, Option.bind_some]; exact gO_t (room_of (by omega) (by simp; omega))
theorem l08Copy_eq {a : SAcct} (h : shAcct a) : spec_l08Copy a = some a := by
  obtain ⟨h1, h2⟩ := h
  unfold spec_l08Copy; rw [gO_t (room_of (by omega) (by simp; omega)), gO_t (room_of (by omega) (by simp; omega))]

end Go.Proofs.Ytncjcbdbdocjaaa

/- What is well formed lies in its range. -/
namespace Go.Proofs.Ytncjcbdbdocjaaa
open Go

theorem wfI_bd {n : Int} (h : wfI n) : -9223372036854775808 ≤ n ∧ n ≤ 9223372036854775807 := by
  have := bounds_i64 h
  omega
theorem w64_eq (n : Int) : w64 n = (n + 9223372036854775808) % 18446744073709551616 - 9223372036854775808 := by unfold w64; rw [IntKind.wrap_i64]

end Go.Proofs.Ytncjcbdbdocjaaa

/- The place of a node's report. -/
namespace Go.Proofs.Ytncjcbdbdocjaaa
open Go

theorem repAt_l1 (n : Int) : ∀ (t : List SRep) (i : Nat), ((∃ x ∈ t, x.fNode = n) ∧ ∃ k : Nat, impl_repAt_l1 n t i = some ((i + k : Nat) : Int) ∧ ∃ x, t[k]? = some x ∧ x.fNode = n ∧ ∀ j, j < k → ∀ y, t[j]? = some y → y.fNode ≠ n) ∨ ((∀ x ∈ t, x.fNode ≠ n) ∧ impl_repAt_l1 n t i = some (-1))
  | [], i => .inr ⟨by simp, by rw [impl_repAt_l1]⟩
  | x :: t, i => by
    rw [impl_repAt_l1, beq_int]
    by_cases h : x.fNode = n
    · rw [decide_eq_true h, cond_true]
      exact .inl ⟨⟨x, by simp, h⟩, 0, rfl, x, rfl, h, fun j hj => by omega⟩
    · rw [decide_eq_false h, cond_false]
      rcases repAt_l1 n t (i + 1) with ⟨⟨y, hy, hn⟩, k, hk, z, hz, hzn, hb⟩ | ⟨hall, hk⟩
      · refine .inl ⟨⟨y, by simp [hy], hn⟩, k + 1, by rw [hk]; congr 1; omega, z, by simpa using hz, hzn, fun j hj y' hy' => ?_⟩
        cases j with
        | zero => simp at hy'; subst hy'; exact h
        | succ j => exact hb j (by omega) y' (by simpa using hy')
      · exact .inr ⟨by simpa [h] using hall, hk⟩
theorem repAt_no {a : SAcct} {n : Int} (h : ∀ x ∈ a.fReps, x.fNode ≠ n) : impl_repAt a n = some (-1) := by
  rcases repAt_l1 n a.fReps 0 with ⟨⟨x, hx, he⟩, -⟩ | ⟨-, hk⟩
  · exact absurd he (h x hx)
  · exact hk
theorem repAt_yes {a : SAcct} {n : Int} (h : ∃ x ∈ a.fReps, x.fNode = n) : ∃ k : Nat, impl_repAt a n = some (k : Int) ∧ ∃ x, a.fReps[k]? = some x ∧ x.fNode = n ∧ ∀ j, j < k → ∀ y, a.fReps[j]? = some y → y.fNode ≠ n := by
  rcases repAt_l1 n a.fReps 0 with ⟨-, k, hk, hr⟩ | ⟨hall, -⟩
  · refine ⟨k, ?_, hr⟩
    rw [Nat.zero_add] at hk; exact hk
  · obtain ⟨x, hx, he⟩ := h; exact absurd he (hall x hx)

end Go.Proofs.Ytncjcbdbdocjaaa

/- The laws' own helpers over IntS. -/
namespace Go.Proofs.Ytncjcbdbdocjaaa
open Go

theorem toIntS_eq {l : List Int} (h : l.length ≤ 1048576) : laws_toIntS l = some l := by
  unfold laws_toIntS
  exact toS_gen (f := laws_toIntS_l1) (q := fun _ => True) (by omega) h (fun _ _ => trivial) (fun i y => by rw [laws_toIntS_l1]) (fun x t i y _ => by rw [laws_toIntS_l1])

end Go.Proofs.Ytncjcbdbdocjaaa

/- The laws' own helpers over Rep. -/
namespace Go.Proofs.Ytncjcbdbdocjaaa
open Go

theorem toRep_eq (a : SRep) : laws_toRep a = some a := rfl

end Go.Proofs.Ytncjcbdbdocjaaa

/- The laws' own helpers over RepS. -/
namespace Go.Proofs.Ytncjcbdbdocjaaa
open Go

theorem toRepS_eq {l : List SRep} (h : l.length ≤ 1048576) : laws_toRepS l = some l := by
  unfold laws_toRepS
  exact toS_gen (f := laws_toRepS_l1) (q := fun _ => True) (by omega) h (fun _ _ => trivial) (fun i y => by rw [laws_toRepS_l1]) (fun x t i y _ => by rw [laws_toRepS_l1, toRep_eq, Option.bind_some])

end Go.Proofs.Ytncjcbdbdocjaaa

/- The laws' own helpers over Acct. -/
namespace Go.Proofs.Ytncjcbdbdocjaaa
open Go

theorem toAcct_eq {a : SAcct} (h : shAcct a) : laws_toAcct a = some a := by
  unfold laws_toAcct
  simp only [toIntS_eq h.1, toRepS_eq h.2, Option.bind_some]

end Go.Proofs.Ytncjcbdbdocjaaa

/- The laws' own helpers over IntS. -/
namespace Go.Proofs.Ytncjcbdbdocjaaa
open Go

theorem eqIntS_eq (a b : List Int) : laws_eqIntS a b = some (decide (a = b)) := by
  unfold laws_eqIntS
  exact eqS_gen (f := laws_eqIntS_l1 b) (fun i => by rw [laws_eqIntS_l1]) (fun x t i => by rw [laws_eqIntS_l1]; congr 1; funext y; rw [bne_int]; cases decide (x = y) <;> rfl)

end Go.Proofs.Ytncjcbdbdocjaaa

/- The laws' own helpers over Rep. -/
namespace Go.Proofs.Ytncjcbdbdocjaaa
open Go

theorem eqRep_eq (a b : SRep) : laws_eqRep a b = some (decide (a = b)) := by
  obtain ⟨x0, x1⟩ := a
  obtain ⟨y0, y1⟩ := b
  unfold laws_eqRep
  by_cases h0 : x0 = y0
  · subst h0
    by_cases h1 : x1 = y1
    · subst h1
      simp [bne_int, SRep.mk.injEq]
    · simp [bne_int, SRep.mk.injEq, h1]
  · simp [bne_int, SRep.mk.injEq, h0]

end Go.Proofs.Ytncjcbdbdocjaaa

/- The laws' own helpers over RepS. -/
namespace Go.Proofs.Ytncjcbdbdocjaaa
open Go

theorem eqRepS_eq (a b : List SRep) : laws_eqRepS a b = some (decide (a = b)) := by
  unfold laws_eqRepS
  exact eqS_gen (f := laws_eqRepS_l1 b) (fun i => by rw [laws_eqRepS_l1]) (fun x t i => by rw [laws_eqRepS_l1]; congr 1; funext y; rw [eqRep_eq, Option.bind_some]; cases decide (x = y) <;> rfl)

end Go.Proofs.Ytncjcbdbdocjaaa

/- The laws' own helpers over Acct. -/
namespace Go.Proofs.Ytncjcbdbdocjaaa
open Go

theorem eqAcct_eq (a b : SAcct) : laws_eqAcct a b = some (decide (a = b)) := by
  obtain ⟨x0, x1, x2, x3, x4⟩ := a
  obtain ⟨y0, y1, y2, y3, y4⟩ := b
  unfold laws_eqAcct
  by_cases h0 : x0 = y0
  · subst h0
    by_cases h1 : x1 = y1
    · subst h1
      by_cases h2 : x2 = y2
      · subst h2
        by_cases h3 : x3 = y3
        · subst h3
          by_cases h4 : x4 = y4
          · subst h4
            simp [bne_int, SAcct.mk.injEq, eqIntS_eq, eqRepS_eq]
          · simp [bne_int, SAcct.mk.injEq, eqIntS_eq, eqRepS_eq, h4]
        · simp [bne_int, SAcct.mk.injEq, eqIntS_eq, eqRepS_eq, h3]
      · simp [bne_int, SAcct.mk.injEq, eqIntS_eq, eqRepS_eq, h2]
    · simp [bne_int, SAcct.mk.injEq, eqIntS_eq, eqRepS_eq, h1]
  · simp [bne_int, SAcct.mk.injEq, eqIntS_eq, eqRepS_eq, h0]

end Go.Proofs.Ytncjcbdbdocjaaa

/- The laws' own helpers over IntS. -/
namespace Go.Proofs.Ytncjcbdbdocjaaa
open Go

theorem szIntS_ok {l : List Int} {k : Int} (hl : l.length ≤ maxLen) (hk0 : -1 ≤ k) (hk : k ≤ 1048576) : ∃ v, laws_szIntS l k = some v ∧ -1 ≤ v ∧ v ≤ k ∧ (0 ≤ v → 0 ≤ k → l.length ≤ 1048576) := by
  unfold laws_szIntS; exact szL_gen hl hk0 hk

end Go.Proofs.Ytncjcbdbdocjaaa

/- The laws' own helpers over RepS. -/
namespace Go.Proofs.Ytncjcbdbdocjaaa
open Go

theorem szRepS_ok {l : List SRep} {k : Int} (hl : l.length ≤ maxLen) (hk0 : -1 ≤ k) (hk : k ≤ 1048576) : ∃ v, laws_szRepS l k = some v ∧ -1 ≤ v ∧ v ≤ k ∧ (0 ≤ v → 0 ≤ k → l.length ≤ 1048576) := by
  unfold laws_szRepS; exact szL_gen hl hk0 hk

end Go.Proofs.Ytncjcbdbdocjaaa

/- The laws' own helpers over Acct. -/
namespace Go.Proofs.Ytncjcbdbdocjaaa
open Go

theorem szAcct_ok {a : SAcct} {k : Int} (h : wflAcct a) (hk0 : -1 ≤ k) (hk : k ≤ 1048576) : ∃ v, laws_szAcct a k = some v ∧ -1 ≤ v ∧ v ≤ k ∧ (0 ≤ v → 0 ≤ k → shAcct a) := by
  unfold laws_szAcct
  obtain ⟨v0, hv0, p0, q0, r0⟩ := szIntS_ok (k := k) h.1 (by omega) (by omega)
  rw [hv0, Option.bind_some]
  by_cases hn0 : v0 < 0
  · simp only [hn0, decide_true, cond_true]; exact ⟨_, rfl, by omega, by omega, by omega⟩
  simp only [hn0, decide_false, cond_false]
  obtain ⟨v1, hv1, p1, q1, r1⟩ := szRepS_ok (k := v0) h.2 (by omega) (by omega)
  rw [hv1, Option.bind_some]
  by_cases hn1 : v1 < 0
  · simp only [hn1, decide_true, cond_true]; exact ⟨_, rfl, by omega, by omega, by omega⟩
  simp only [hn1, decide_false, cond_false]
  exact ⟨_, rfl, by omega, by omega, fun _ _ => ⟨r0 (by omega) (by omega), r1 (by omega) (by omega)⟩⟩

end Go.Proofs.Ytncjcbdbdocjaaa

/- Marking a list's elements, and finding the marks again: in general. -/
namespace Go.Proofs.Ytncjcbdbdocjaaa
open Go

def mkL {α : Type} (m : Int → α → Int × α) : Int → List α → Int × List α
  | k, [] => (k, [])
  | k, x :: t => ((mkL m (m k x).1 t).1, (m k x).2 :: (mkL m (m k x).1 t).2)
theorem w64_succ {j : Int} (h0 : 0 ≤ j) (h1 : j ≤ 2305843009213693952) : w64 (j + 1) = j + 1 := w64_id (by omega) (by omega)
theorem mark_gen {α : Type} {m : Int → α → Int × α} {f : Nat → Int → Int → List α → Option (Int × List α)}
    (hc : ∀ n i k l, f (n + 1) i k l = bif decide (i < (l.length : Int)) then (ix l i).bind fun x => f n (w64 (i + 1)) (m k x).1 (List.set l (Int.toNat i) (m k x).2) else some (k, l)) :
    ∀ (n i : Nat) (k : Int) (l : List α), l.length - i < n → i ≤ l.length → l.length ≤ 1099511627776 → f n (i : Int) k l = some ((mkL m k (l.drop i)).1, l.take i ++ (mkL m k (l.drop i)).2)
  | 0, i, k, l, h1, h2, h3 => by omega
  | n + 1, i, k, l, h1, h2, h3 => by
    rw [hc]
    by_cases hi : i < l.length
    · have hd : decide ((i : Int) < (l.length : Int)) = true := by simp; omega
      have hx : l[i]? = some l[i] := by simp [hi]
      rw [hd, cond_true, ix_nat, hx, Option.bind_some, w64_succ (by omega) (by omega), show (i : Int) + 1 = ((i + 1 : Nat) : Int) by omega, show Int.toNat (i : Int) = i by omega]
      rw [mark_gen hc n (i + 1) _ _ (by simp; omega) (by simp; omega) (by simpa using h3)]
      have e1 : l.drop i = l[i] :: l.drop (i + 1) := List.drop_eq_getElem_cons hi
      have e2 : (l.set i (m k l[i]).2).drop (i + 1) = l.drop (i + 1) := by rw [List.drop_set_of_lt (by omega)]
      have e3 : (l.set i (m k l[i]).2).take (i + 1) = l.take i ++ [(m k l[i]).2] := by
        rw [List.take_add_one, List.take_set_of_le (by omega)]
        simp [hi]
      rw [e1, e2, e3]
      simp [mkL]
    · have hd : decide ((i : Int) < (l.length : Int)) = false := by simp; omega
      rw [hd, cond_false, List.drop_eq_nil_of_le (by omega), List.take_of_length_le (by omega)]
      simp [mkL]
theorem markS_gen {α : Type} {m : Int → α → Int × α} {f : Nat → Int → Int → List α → Option (Int × List α)}
    (hc : ∀ n i k l, f (n + 1) i k l = bif decide (i < (l.length : Int)) then (ix l i).bind fun x => f n (w64 (i + 1)) (m k x).1 (List.set l (Int.toNat i) (m k x).2) else some (k, l))
    (k : Int) {l : List α} (h : l.length ≤ 1099511627776) : f fuel 0 k l = some (mkL m k l) := by
  have := mark_gen hc fuel 0 k l (by unfold fuel; omega) (by omega) h
  simpa using this
theorem held_gen {α : Type} {m : Int → α → Int × α} {g : List α → Nat → Int → Option Int} (hn : ∀ i k, g [] i k = some k) (hc : ∀ k x t i, g ((m k x).2 :: t) i k = g t (i + 1) (m k x).1) :
    ∀ (l : List α) (i : Nat) (k : Int), g (mkL m k l).2 i k = some (mkL m k l).1
  | [], i, k => by simp [mkL, hn]
  | x :: t, i, k => by
    simp only [mkL]
    rw [hc, held_gen hn hc t (i + 1)]
theorem mkL_len {α : Type} {m : Int → α → Int × α} : ∀ (l : List α) (k : Int), (mkL m k l).2.length = l.length
  | [], k => rfl
  | x :: t, k => by simp [mkL, mkL_len t]
theorem mkL_fst {α : Type} {m : Int → α → Int × α} (c : Nat) (hm : ∀ k x, 0 ≤ k → k ≤ 1152921504606846976 → (m k x).1 = k + c) : ∀ (l : List α) (k : Int), 0 ≤ k → k + c * l.length ≤ 1152921504606846976 → (mkL m k l).1 = k + c * l.length
  | [], k, h0, h1 => by simp [mkL]
  | x :: t, k, h0, h1 => by
    have e : (c : Int) * ((x :: t).length : Int) = c + c * (t.length : Int) := by simp [Int.mul_add, Int.add_comm]
    rw [e] at h1 ⊢
    have hp : (0 : Int) ≤ (c : Int) * (t.length : Int) := Int.mul_nonneg (by omega) (by omega)
    simp only [mkL]
    rw [hm k x h0 (by omega), mkL_fst c hm t (k + c) (by omega) (by omega)]
    omega

end Go.Proofs.Ytncjcbdbdocjaaa

/- The laws' own helpers over mark and held, []Int. -/
namespace Go.Proofs.Ytncjcbdbdocjaaa
open Go

def mInt (k : Int) (x : Int) : Int × Int := (w64 (k + 1), k)
theorem markIntS_eq (k : Int) {l : List Int} (h : l.length ≤ 1099511627776) : laws_markIntS l k = some (mkL mInt k l) := by
  unfold laws_markIntS
  exact markS_gen (f := laws_markIntS_l1) (fun n i k l => by rw [laws_markIntS_l1]; rfl) k h
theorem heldIntS_eq (k : Int) (l : List Int) : laws_heldIntS (mkL mInt k l).2 k = some (mkL mInt k l).1 := by
  unfold laws_heldIntS
  exact held_gen (g := laws_heldIntS_l1) (fun i k => by rw [laws_heldIntS_l1]) (fun k x t i => by rw [laws_heldIntS_l1]; simp [mInt]) l 0 k
theorem mkIntS_fst {k : Int} (l : List Int) (h0 : 0 ≤ k) (h1 : k + 1 * l.length ≤ 1152921504606846976) : (mkL mInt k l).1 = k + 1 * l.length :=
  mkL_fst 1 (fun k x h0 h1 => by simp (disch := omega) only [mInt, w64_succ]; omega) l k h0 h1
theorem mhIntS {l : List Int} (h : l.length ≤ 1099511627776) : ∃ k q, laws_markIntS l 1 = some (k, q) ∧ decide (k < 0) = false ∧ laws_heldIntS q 1 = some k := by
  refine ⟨_, _, markIntS_eq 1 h, ?_, heldIntS_eq 1 l⟩
  rw [mkIntS_fst l (by omega) (by omega)]; simp; omega

end Go.Proofs.Ytncjcbdbdocjaaa

/- The laws' own helpers over mark and held, []Rep. -/
namespace Go.Proofs.Ytncjcbdbdocjaaa
open Go

def mRep (k : Int) (x : SRep) : Int × SRep := (w64 ((w64 (k + 1)) + 1), (SRep.mk (k) (w64 (k + 1))))
theorem markRepS_eq (k : Int) {l : List SRep} (h : l.length ≤ 1099511627776) : laws_markRepS l k = some (mkL mRep k l) := by
  unfold laws_markRepS
  exact markS_gen (f := laws_markRepS_l1) (fun n i k l => by rw [laws_markRepS_l1]; rfl) k h
theorem heldRepS_eq (k : Int) (l : List SRep) : laws_heldRepS (mkL mRep k l).2 k = some (mkL mRep k l).1 := by
  unfold laws_heldRepS
  exact held_gen (g := laws_heldRepS_l1) (fun i k => by rw [laws_heldRepS_l1]) (fun k x t i => by rw [laws_heldRepS_l1]; simp [mRep]) l 0 k
theorem mkRepS_fst {k : Int} (l : List SRep) (h0 : 0 ≤ k) (h1 : k + 2 * l.length ≤ 1152921504606846976) : (mkL mRep k l).1 = k + 2 * l.length :=
  mkL_fst 2 (fun k x h0 h1 => by simp (disch := omega) only [mRep, w64_succ]; omega) l k h0 h1
theorem mhRepS {l : List SRep} (h : l.length ≤ 1099511627776) : ∃ k q, laws_markRepS l 1 = some (k, q) ∧ decide (k < 0) = false ∧ laws_heldRepS q 1 = some k := by
  refine ⟨_, _, markRepS_eq 1 h, ?_, heldRepS_eq 1 l⟩
  rw [mkRepS_fst l (by omega) (by omega)]; simp; omega

end Go.Proofs.Ytncjcbdbdocjaaa

/- The laws' own helpers over mark and held, Acct. -/
namespace Go.Proofs.Ytncjcbdbdocjaaa
open Go

theorem mhAcct {a : SAcct} (h : a.fMarks.length ≤ 68719476736 ∧ a.fReps.length ≤ 68719476736) : ∃ k q, laws_markAcct a 1 = some (k, q) ∧ decide (k < 0) = false ∧ laws_heldAcct { a with fMarks := q.fMarks, fReps := q.fReps } 1 = some k := by
  have e0 := mkIntS_fst (k := 1) a.fMarks (by omega) (by omega)
  have d0 : decide ((mkL mInt 1 a.fMarks).1 < 0) = false := by rw [e0]; simp; omega
  have e1 := mkRepS_fst (k := (mkL mInt 1 a.fMarks).1) a.fReps (by omega) (by omega)
  have d1 : decide ((mkL mRep (mkL mInt 1 a.fMarks).1 a.fReps).1 < 0) = false := by rw [e1]; simp; omega
  unfold laws_markAcct laws_heldAcct
  simp only [markIntS_eq 1 (show a.fMarks.length ≤ 1099511627776 by omega), markRepS_eq (mkL mInt 1 a.fMarks).1 (show a.fReps.length ≤ 1099511627776 by omega), Option.bind_some]
  refine ⟨_, _, rfl, d1, ?_⟩
  simp only [heldIntS_eq, heldRepS_eq, Option.bind_some, d0, d1, cond_false]

end Go.Proofs.Ytncjcbdbdocjaaa

/- The law FnExactAcctRep answers true. -/
namespace Go.Proofs.Ytncjcbdbdocjaaa
open Go

/-- Reports with one more, ahead of the first that is not below. -/
def insR (l : List SRep) (r : SRep) : List SRep := l.takeWhile (fun x => decide (x.fNode < r.fNode)) ++ [r] ++ l.dropWhile (fun x => decide (x.fNode < r.fNode))
theorem insR_len (l : List SRep) (r : SRep) : (insR l r).length = l.length + 1 := by
  have := congrArg List.length (List.takeWhile_append_dropWhile (p := fun x : SRep => decide (x.fNode < r.fNode)) (l := l))
  simp only [List.length_append] at this
  simp only [insR, List.length_append, List.length_cons, List.length_nil]; omega
def fin3 (k : Int) (v : SAcct) (l : List SRep) : SAcct × Bool := bif ((l.length : Int) == k) then ({ v with fState := 2, fReps := l }, true) else ({ v with fReps := l }, true)
theorem rep_j2 {a : SAcct} (n m k : Int) (v : SAcct) (K : Nat) (hK : K ≤ a.fReps.length) (h : a.fReps.length ≤ 1048576) : impl_AcctRep_j2 a n m k v (K : Int) = some (fin3 k v (a.fReps.take K ++ [SRep.mk n m] ++ a.fReps.drop K)) := by
  unfold impl_AcctRep_j2
  rw [gO_t ⟨by omega, by omega, by omega⟩, gO_t (room_of (by omega) (by simp; omega)), gO_t (room_of (by omega) (by simp; omega)), gO_t ⟨by omega, by omega, by omega⟩, gO_t (room_of (by omega) (by simp; omega))]
  have e1 : List.take (Int.toNat (K : Int) - Int.toNat 0) (List.drop (Int.toNat 0) a.fReps) = a.fReps.take K := by simp
  have e2 : List.take (Int.toNat (a.fReps.length : Int) - Int.toNat (K : Int)) (List.drop (Int.toNat (K : Int)) a.fReps) = a.fReps.drop K := by
    rw [List.take_of_length_le (by simp)]; simp
  rw [e1, e2]
  unfold fin3
  cases ((((a.fReps.take K ++ [SRep.mk n m]) ++ a.fReps.drop K).length : Int) == k) <;> rfl
theorem rep_l3 {a : SAcct} (n m k : Int) (v : SAcct) (h : a.fReps.length ≤ 1048576) : ∀ (f i : Nat), i ≤ a.fReps.length → a.fReps.length - i < f →
    impl_AcctRep_l3 a n m k v f (i : Int) = some (fin3 k v (a.fReps.take i ++ (a.fReps.drop i).takeWhile (fun x => decide (x.fNode < n)) ++ [SRep.mk n m] ++ (a.fReps.drop i).dropWhile (fun x => decide (x.fNode < n))))
  | 0, i, hi, hf => by omega
  | f + 1, i, hi, hf => by
    rw [impl_AcctRep_l3]
    by_cases hlt : i < a.fReps.length
    · have hd : decide ((i : Int) < (a.fReps.length : Int)) = true := by simp; omega
      have hx : a.fReps[i]? = some a.fReps[i] := by simp [hlt]
      rw [hd, cond_true, ix_nat, hx, Option.bind_some]
      have hdr := List.drop_eq_getElem_cons hlt
      by_cases hn : a.fReps[i].fNode < n
      · rw [decide_eq_true hn, cond_true, w64_id (by omega) (by omega), show (i : Int) + 1 = ((i + 1 : Nat) : Int) by omega, rep_l3 n m k v h f (i + 1) (by omega) (by omega), hdr]
        rw [List.takeWhile_cons_of_pos (by simpa using hn), List.dropWhile_cons_of_pos (by simpa using hn), List.take_add_one, hx]
        simp only [Option.toList_some, List.append_assoc, List.cons_append, List.nil_append]
      · rw [decide_eq_false hn, cond_false, rep_j2 n m k v i (by omega) h, hdr]
        rw [List.takeWhile_cons_of_neg (by simpa using hn), List.dropWhile_cons_of_neg (by simpa using hn)]
        simp
    · have hd : decide ((i : Int) < (a.fReps.length : Int)) = false := by simp; omega
      rw [hd, cond_false, rep_j2 n m k v i (by omega) h, List.drop_eq_nil_of_le (by omega)]
      simp
theorem rep_j3 (k : Int) (v : SAcct) (l : List SRep) : spec_AcctRep_j3 k v l = some (fin3 k v l) := by
  unfold spec_AcctRep_j3 fin3
  cases ((l.length : Int) == k) <;> rfl
theorem rep_put (n m k : Int) (v : SAcct) : ∀ (t : List SRep) (i : Nat) (y : List SRep), (∀ x ∈ t, x.fNode ≠ n) → y.length + t.length ≤ 34359738360 → spec_AcctRep_l2 n m k v t i true y = some (fin3 k v (y ++ t))
  | [], i, y, hn, h => by
    rw [spec_AcctRep_l2]; simp only [Bool.not_true, _root_.cond_false, rep_j3, List.append_nil]
  | x :: t, i, y, hn, h => by
    simp only [List.length_cons] at h
    rw [spec_AcctRep_l2, beq_int, decide_eq_false (hn x (by simp))]
    unfold spec_AcctRep_j5 spec_AcctRep_j4
    simp only [cond_false, Bool.not_true]
    rw [gO_t (room_of (by omega) (by simp; omega)), rep_put n m k v t (i + 1) _ (fun x hx => hn x (by simp [hx])) (by simp; omega)]
    simp
theorem rep_not (n m k : Int) (v : SAcct) : ∀ (t : List SRep) (i : Nat) (y : List SRep), (∀ x ∈ t, x.fNode ≠ n) → y.length + t.length ≤ 34359738350 →
    spec_AcctRep_l2 n m k v t i false y = some (fin3 k v (y ++ t.takeWhile (fun x => decide (x.fNode < n)) ++ [SRep.mk n m] ++ t.dropWhile (fun x => decide (x.fNode < n))))
  | [], i, y, hn, h => by
    simp only [List.length_nil] at h
    rw [spec_AcctRep_l2]
    simp only [Bool.not_false, cond_true]
    rw [gO_t (room_of (by omega) (by simp; omega)), rep_j3]; simp
  | x :: t, i, y, hn, h => by
    simp only [List.length_cons] at h
    have hne := hn x (by simp)
    rw [spec_AcctRep_l2, beq_int, decide_eq_false hne]
    unfold spec_AcctRep_j5 spec_AcctRep_j4
    simp only [cond_false, Bool.not_false, cond_true]
    by_cases hx : x.fNode > n
    · have hlt : ¬ x.fNode < n := by omega
      rw [decide_eq_true hx, cond_true, gO_t (room_of (by omega) (by simp; omega)), gO_t (room_of (by omega) (by simp; omega)), rep_put n m k v t (i + 1) _ (fun x hx => hn x (by simp [hx])) (by simp; omega)]
      rw [List.takeWhile_cons_of_neg (by simpa using hlt), List.dropWhile_cons_of_neg (by simpa using hlt)]
      simp
    · have hlt : x.fNode < n := by omega
      rw [decide_eq_false hx, cond_false, gO_t (room_of (by omega) (by simp; omega)), rep_not n m k v t (i + 1) _ (fun x hx => hn x (by simp [hx])) (by simp; omega)]
      rw [List.takeWhile_cons_of_pos (by simpa using hlt), List.dropWhile_cons_of_pos (by simpa using hlt)]
      simp
theorem rep_eqn (n m k : Int) (v : SAcct) : ∀ (t : List SRep) (i : Nat) (p : Bool) (y : List SRep), (∃ x ∈ t, x.fNode = n) → y.length + 2 * t.length ≤ 34359738350 → spec_AcctRep_l2 n m k v t i p y = some (SAcct.mk 0 0 0 [] [], false)
  | [], i, p, y, he, h => by simp at he
  | x :: t, i, p, y, he, h => by
    simp only [List.length_cons] at h
    rw [spec_AcctRep_l2, beq_int]
    by_cases hx : x.fNode = n
    · rw [decide_eq_true hx]; rfl
    · have he' : ∃ x ∈ t, x.fNode = n := by
        obtain ⟨z, hz, hzn⟩ := he
        rcases List.mem_cons.1 hz with rfl | hz
        · exact absurd hzn hx
        · exact ⟨z, hz, hzn⟩
      rw [decide_eq_false hx]
      unfold spec_AcctRep_j5 spec_AcctRep_j4
      cases p with
      | true =>
        simp only [cond_false, Bool.not_true]
        rw [gO_t (room_of (by omega) (by simp; omega)), rep_eqn n m k v t (i + 1) _ _ he' (by simp; omega)]
      | false =>
        simp only [cond_false, Bool.not_false, cond_true]
        cases decide (x.fNode > n) with
        | true =>
          simp only [cond_true]
          rw [gO_t (room_of (by omega) (by simp; omega)), gO_t (room_of (by omega) (by simp; omega)), rep_eqn n m k v t (i + 1) _ _ he' (by simp; omega)]
        | false =>
          simp only [cond_false]
          rw [gO_t (room_of (by omega) (by simp; omega)), rep_eqn n m k v t (i + 1) _ _ he' (by simp; omega)]
theorem both_AcctRep {a : SAcct} (n : Int) (m : Int) (k : Int) (h : shAcct a) (b0 : -9223372036854775808 ≤ a.fHave ∧ a.fHave ≤ 9223372036854775807) (bn : -9223372036854775808 ≤ n ∧ n ≤ 9223372036854775807) (bm : -9223372036854775808 ≤ m ∧ m ≤ 9223372036854775807) (bk : -9223372036854775808 ≤ k ∧ k ≤ 9223372036854775807) : ∃ w, spec_AcctRep a n m k = some w ∧ impl_AcctRep a n m k = some w ∧ w.1.fMarks.length ≤ 1048577 ∧ w.1.fReps.length ≤ 1048577 := by
  have hs := h
  obtain ⟨s1, s2⟩ := hs
  have no : ∃ w : SAcct × Bool, some (SAcct.mk 0 0 0 [] [], false) = some w ∧ (some (SAcct.mk 0 0 0 [] [], false) : Option (SAcct × Bool)) = some w ∧ w.1.fMarks.length ≤ 1048577 ∧ w.1.fReps.length ≤ 1048577 := ⟨_, rfl, rfl, by simp, by simp⟩
  unfold spec_AcctRep impl_AcctRep spec_AcctRep_j1 impl_AcctRep_j1 spec_l07Node impl_isNode spec_l01Num impl_isNum
  by_cases he : ∃ x ∈ a.fReps, x.fNode = n
  · obtain ⟨q, hq, -⟩ := repAt_yes he
    have hd : decide ((q : Int) ≥ 0) = true := by simp
    simp only [spec_in_eq, impl_in_eq, hq, hd, Option.bind_some, copyAcct_eq h, l08Copy_eq h, rep_eqn n m k a a.fReps 0 false [] he (by simp; omega)]
    cases decide (0 ≤ n ∧ n ≤ 3) <;> cases (a.fState == 0) <;> cases decide (0 ≤ m ∧ m ≤ 1125899906842624) <;> exact no
  · have he' : ∀ x ∈ a.fReps, x.fNode ≠ n := fun x hx hn => he ⟨x, hx, hn⟩
    have e1 := rep_l3 n m k a s2 fuel 0 (by omega) (by unfold fuel; omega)
    have e2 := rep_not n m k a a.fReps 0 [] he' (by simp; omega)
    have hd : decide ((-1 : Int) ≥ 0) = false := by decide
    have hlen := insR_len a.fReps (SRep.mk n m)
    unfold insR at hlen
    simp only [List.take_zero, List.drop_zero, List.nil_append] at e1 e2
    rw [show ((0 : Nat) : Int) = 0 by rfl] at e1
    simp only [spec_in_eq, impl_in_eq, repAt_no he', hd, Option.bind_some, copyAcct_eq h, l08Copy_eq h, e1, e2]
    have yes : ∀ z : SAcct × Bool, z = fin3 k a (a.fReps.takeWhile (fun x => decide (x.fNode < n)) ++ [SRep.mk n m] ++ a.fReps.dropWhile (fun x => decide (x.fNode < n))) → z.1.fMarks.length ≤ 1048577 ∧ z.1.fReps.length ≤ 1048577 := by
      rintro z rfl
      have hl : (a.fReps.takeWhile (fun x => decide (x.fNode < n)) ++ [SRep.mk n m] ++ a.fReps.dropWhile (fun x => decide (x.fNode < n))).length ≤ 1048577 := by rw [hlen]; omega
      unfold fin3
      cases (((a.fReps.takeWhile (fun x => decide (x.fNode < n)) ++ [SRep.mk n m] ++ a.fReps.dropWhile (fun x => decide (x.fNode < n))).length : Int) == k)
      · exact ⟨by show a.fMarks.length ≤ _; omega, hl⟩
      · exact ⟨by show a.fMarks.length ≤ _; omega, hl⟩
    cases decide (0 ≤ n ∧ n ≤ 3) <;> cases (a.fState == 0) <;> cases decide (0 ≤ m ∧ m ≤ 1125899906842624) <;> first | exact no | exact ⟨_, rfl, rfl, yes _ rfl⟩
theorem pure_FnExactAcctRep (a : SAcct) (h : wfAcct a) (n : Int) (hn : wfI n) (m : Int) (hm : wfI m) (k : Int) (hk : wfI k) : laws_FnExactAcctRep a n m k = some true := by
  have hh := h.1
  obtain ⟨-, -, -, h1, h2⟩ := h
  unfold laws_FnExactAcctRep
  obtain ⟨v, hv, q1, q2, hs⟩ := szAcct_ok (a := a) (k := 1048576) ⟨h1.1, h2.1⟩ (by omega) (by omega)
  rw [hv, Option.bind_some]
  by_cases hneg : v < 0
  · simp only [hneg, decide_true, _root_.cond_true]
  · have hs := hs (by omega) (by omega)
    obtain ⟨w, hw1, hw2, l1, l2⟩ := both_AcctRep n m k hs (wfI_bd hh) (wfI_bd hn) (wfI_bd hm) (wfI_bd hk)
    obtain ⟨k1, q, g1, g2, g3⟩ := mhAcct (a := w.1) ⟨by omega, by omega⟩
    have hs' := hs
    obtain ⟨s1, s2⟩ := hs'
    obtain ⟨k2, q', f1, f2, f3⟩ := mhAcct (a := a) ⟨by omega, by omega⟩
    simp only [hneg, decide_false, _root_.cond_false, toAcct_eq hs, hw1, hw2, Option.bind_some, eqAcct_eq, decide_true, Bool.not_true, bne_self_eq_false, g1, g2, g3, f1, f2]

end Go.Proofs.Ytncjcbdbdocjaaa

