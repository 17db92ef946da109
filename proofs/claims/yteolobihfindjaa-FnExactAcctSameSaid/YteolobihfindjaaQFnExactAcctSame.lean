/- The plain law FnExactAcctSame and what it needs: no program in sight. -/
import Derived.Test.YteolobihfindjaaUFnExactAcctSame
set_option linter.unusedVariables false
set_option linter.unusedSimpArgs false

/- Small plain facts: numbers, and the laws' own helpers over lists of numbers. -/
namespace Go.Proofs.Yteolobihfindjaa
open Go

theorem w64_id {n : Int} (h1 : -9223372036854775808 ≤ n) (h2 : n ≤ 9223372036854775807) : w64 n = n := by
  unfold w64; rw [IntKind.wrap_i64]; omega
theorem room_of {b n : Nat} (hb : b ≤ 4096) (hn : n ≤ 34359738368) : room b n := by
  have : n * b ≤ 34359738368 * 4096 := Nat.mul_le_mul hn hb
  exact ⟨by omega, by omega⟩
theorem gO_t {α : Type} {c : Prop} [Decidable c] {k : Option α} (h : c) : gO c k = k := by simp [gO, h]
theorem drop_cons {α : Type} {L t : List α} {x : α} {i : Nat} (h : x :: t = L.drop i) : t = L.drop (i + 1) ∧ L[i]? = some x ∧ i < L.length := by
  have h1 := dnext h
  have h2 := ix_get (dget h)
  exact ⟨h1, by simpa using h2, dlt h⟩
theorem ix_nat {α : Type} (l : List α) (i : Nat) : ix l (i : Int) = l[i]? := by simp [ix]
theorem ix_lt {α : Type} {l : List α} {i : Int} (h0 : 0 ≤ i) (h1 : i < l.length) : ∃ x, ix l i = some x := by
  unfold ix
  rw [if_pos h0]
  exact ⟨l[i.toNat]'(by omega), by simp⟩
theorem w64_pred {i : Nat} (h0 : 0 < i) (h1 : i ≤ maxLen) : w64 ((i : Int) - 1) = ((i - 1 : Nat) : Int) := by
  have h2 : i ≤ 9223372036854775807 := h1
  rw [w64_id (by omega) (by omega)]; omega

theorem beq_dec {α : Type} [DecidableEq α] (x y : α) : (x == y) = decide (x = y) := by by_cases h : x = y <;> simp [h]
theorem bne_dec {α : Type} [DecidableEq α] (x y : α) : (x != y) = !decide (x = y) := by unfold bne; rw [beq_dec]
theorem beq_int (x y : Int) : (x == y) = decide (x = y) := beq_dec x y
theorem bne_int (x y : Int) : (x != y) = !decide (x = y) := bne_dec x y
theorem and_dec (p q : Prop) [Decidable p] [Decidable q] : (decide p && decide q) = decide (p ∧ q) := by simp
theorem or_dec (p q : Prop) [Decidable p] [Decidable q] : (decide p || decide q) = decide (p ∨ q) := by simp
theorem not_dec (p : Prop) [Decidable p] : (!decide p) = decide (¬ p) := by simp
theorem bind_id {α : Type} (x : Option α) : (x.bind fun v => some v) = x := by cases x <;> rfl

end Go.Proofs.Yteolobihfindjaa

/- Loops over lists, in general. -/
namespace Go.Proofs.Yteolobihfindjaa
open Go

theorem eqL_gen {α : Type} [DecidableEq α] {f : List α → Nat → Option Bool} {b : List α} (hn : ∀ i, f [] i = some true)
    (hc : ∀ x t (i : Nat), f (x :: t) i = (ix b (i : Int)).bind fun y => bif decide (x = y) then f t (i + 1) else some false) :
    ∀ (t L : List α) (i : Nat), t = L.drop i → b.length = L.length → i ≤ L.length → f t i = some (decide (t = b.drop i))
  | [], L, i, hd, hl, hi => by
    have := List.drop_eq_nil_iff.1 hd.symm
    rw [hn, List.drop_eq_nil_of_le (by omega)]; simp
  | x :: t, L, i, hd, hl, hi => by
    obtain ⟨h1, h2, h3⟩ := drop_cons hd
    have hlt : i < b.length := by omega
    rw [hc, ix_nat]
    have hy : b[i]? = some b[i] := by simp [hlt]
    rw [hy, Option.bind_some, List.drop_eq_getElem_cons hlt]
    by_cases hx : x = b[i]
    · simp only [hx, decide_true, cond_true]
      rw [eqL_gen hn hc t L (i + 1) h1 hl (by omega)]
      simp only [List.cons.injEq, true_and]
    · simp only [hx, decide_false, cond_false, List.cons.injEq, false_and]
theorem eqS_gen {α : Type} [DecidableEq α] {f : List α → Nat → Option Bool} {a b : List α} (hn : ∀ i, f [] i = some true)
    (hc : ∀ x t (i : Nat), f (x :: t) i = (ix b (i : Int)).bind fun y => bif decide (x = y) then f t (i + 1) else some false) :
    (bif ((a.length : Int) != (b.length : Int)) then some false else f a 0) = some (decide (a = b)) := by
  by_cases h : a.length = b.length
  · have hb : ((a.length : Int) != (b.length : Int)) = false := by simp [h]
    rw [hb, cond_false, eqL_gen hn hc a a 0 rfl h.symm (by omega)]; simp
  · have hb : ((a.length : Int) != (b.length : Int)) = true := by simp; omega
    rw [hb, cond_true]
    have : a ≠ b := fun he => h (by rw [he])
    simp [this]
theorem toL_gen {α : Type} {f : List α → Nat → List α → Option (List α)} {q : α → Prop} (hn : ∀ i y, f [] i y = some y)
    (hc : ∀ x t (i : Nat) y, q x → f (x :: t) i y = (ix y (i : Int)).bind fun _ => f t (i + 1) (List.set y (Int.toNat (i : Int)) x)) :
    ∀ (t L : List α) (i : Nat) (y : List α), t = L.drop i → y.length = L.length → y.take i = L.take i → i ≤ L.length → (∀ x ∈ t, q x) → f t i y = some L
  | [], L, i, y, hd, hl, ht, hi, hq => by
    have := List.drop_eq_nil_iff.1 hd.symm
    rw [hn]
    rw [List.take_of_length_le (by omega), List.take_of_length_le (by omega)] at ht
    rw [ht]
  | x :: t, L, i, y, hd, hl, ht, hi, hq => by
    obtain ⟨h1, h2, h3⟩ := drop_cons hd
    rw [hc x t i y (hq x (by simp)), ix_nat]
    have hy : y[i]? = some (y[i]'(by omega)) := by simp [show i < y.length by omega]
    rw [hy, Option.bind_some]
    refine toL_gen hn hc t L (i + 1) _ h1 (by simp [hl]) ?_ (by omega) (fun x hx => hq x (by simp [hx]))
    rw [List.take_add_one, List.take_add_one, List.take_set_of_le (by simp), ht]
    simp [show i < y.length by omega, h2]
theorem toS_gen {α : Type} {f : List α → Nat → List α → Option (List α)} {q : α → Prop} {b : Nat} {z : α} {l : List α} (hb : b ≤ 4096) (h : l.length ≤ 1048576) (hq : ∀ x ∈ l, q x) (hn : ∀ i y, f [] i y = some y)
    (hc : ∀ x t (i : Nat) y, q x → f (x :: t) i y = (ix y (i : Int)).bind fun _ => f t (i + 1) (List.set y (Int.toNat (i : Int)) x)) :
    gO (0 ≤ (l.length : Int) ∧ room b (Int.toNat (l.length : Int))) (f l 0 (List.replicate (Int.toNat (l.length : Int)) z)) = some l := by
  rw [gO_t ⟨by omega, room_of hb (by simp; omega)⟩]
  exact toL_gen hn hc l l 0 _ rfl (by simp) (by simp) (by omega) hq
/-- A budget that is lessened by a length. -/
theorem szL_gen {n : Nat} {k : Int} (hl : n ≤ maxLen) (hk0 : -1 ≤ k) (hk : k ≤ 1048576) :
    ∃ v, (bif (decide ((w64 (k - (n : Int))) < 0)) then some (-1) else some (w64 (k - (n : Int)))) = some v ∧ -1 ≤ v ∧ v ≤ k ∧ (0 ≤ v → 0 ≤ k → n ≤ 1048576) := by
  have h3 : (maxLen : Int) = 9223372036854775807 ∨ maxLen ≤ 140737488355328 := by decide
  have h2 : n ≤ 9223372036854775807 := hl
  have hw : w64 (k - (n : Int)) = k - n := w64_id (by rcases h3 with h3 | h3 <;> omega) (by omega)
  rw [hw]
  by_cases h : k - (n : Int) < 0
  · simp only [h, decide_true, cond_true]; exact ⟨_, rfl, by omega, by omega, by omega⟩
  · simp only [h, decide_false, cond_false]; exact ⟨_, rfl, by omega, by omega, by omega⟩

end Go.Proofs.Yteolobihfindjaa

/- The laws' own helpers over []Int. -/
namespace Go.Proofs.Yteolobihfindjaa
open Go

theorem eqIntS_eq (a b : List Int) : laws_eqIntS a b = some (decide (a = b)) := by
  unfold laws_eqIntS
  exact eqS_gen (f := laws_eqIntS_l1 b) (fun i => by rw [laws_eqIntS_l1]) (fun x t i => by rw [laws_eqIntS_l1]; congr 1; funext y; rw [bne_int]; cases decide (x = y) <;> rfl)
theorem toIntS_eq {l : List Int} (h : l.length ≤ 1048576) : laws_toIntS l = some l := by
  unfold laws_toIntS
  exact toS_gen (f := laws_toIntS_l1) (q := fun _ => True) (by omega) h (fun _ _ => trivial) (fun i y => by rw [laws_toIntS_l1]) (fun x t i y _ => by rw [laws_toIntS_l1])
theorem szIntS_ok {l : List Int} {k : Int} (hl : l.length ≤ maxLen) (hk0 : -1 ≤ k) (hk : k ≤ 1048576) : ∃ v, laws_szIntS l k = some v ∧ -1 ≤ v ∧ v ≤ k ∧ (0 ≤ v → 0 ≤ k → l.length ≤ 1048576) := by
  unfold laws_szIntS; exact szL_gen hl hk0 hk

end Go.Proofs.Yteolobihfindjaa

/- The laws' own helpers over Rep. -/
namespace Go.Proofs.Yteolobihfindjaa
open Go

theorem eqRep_eq (a b : SRep) : laws_eqRep a b = some (decide (a = b)) := by
  obtain ⟨x0, x1⟩ := a
  obtain ⟨y0, y1⟩ := b
  unfold laws_eqRep
  by_cases h0 : x0 = y0
  · subst h0
    by_cases h1 : x1 = y1
    · subst h1
      simp [bne_int, SRep.mk.injEq]
    · simp [bne_int, SRep.mk.injEq, h1]
  · simp [bne_int, SRep.mk.injEq, h0]
theorem toRep_eq (a : SRep) : laws_toRep a = some a := rfl

end Go.Proofs.Yteolobihfindjaa

/- The laws' own helpers over []Rep. -/
namespace Go.Proofs.Yteolobihfindjaa
open Go

theorem eqRepS_eq (a b : List SRep) : laws_eqRepS a b = some (decide (a = b)) := by
  unfold laws_eqRepS
  exact eqS_gen (f := laws_eqRepS_l1 b) (fun i => by rw [laws_eqRepS_l1]) (fun x t i => by rw [laws_eqRepS_l1]; congr 1; funext y; rw [eqRep_eq, Option.bind_some]; cases decide (x = y) <;> rfl)
theorem toRepS_eq {l : List SRep} (h : l.length ≤ 1048576) : laws_toRepS l = some l := by
  unfold laws_toRepS
  exact toS_gen (f := laws_toRepS_l1) (q := fun _ => True) (by omega) h (fun _ _ => trivial) (fun i y => by rw [laws_toRepS_l1]) (fun x t i y _ => by rw [laws_toRepS_l1, toRep_eq, Option.bind_some])
theorem szRepS_ok {l : List SRep} {k : Int} (hl : l.length ≤ maxLen) (hk0 : -1 ≤ k) (hk : k ≤ 1048576) : ∃ v, laws_szRepS l k = some v ∧ -1 ≤ v ∧ v ≤ k ∧ (0 ≤ v → 0 ≤ k → l.length ≤ 1048576) := by
  unfold laws_szRepS; exact szL_gen hl hk0 hk

end Go.Proofs.Yteolobihfindjaa

/- The laws' own helpers over Acct. -/
namespace Go.Proofs.Yteolobihfindjaa
open Go

theorem eqAcct_eq (a b : SAcct) : laws_eqAcct a b = some (decide (a = b)) := by
  obtain ⟨x0, x1, x2, x3, x4⟩ := a
  obtain ⟨y0, y1, y2, y3, y4⟩ := b
  unfold laws_eqAcct
  by_cases h0 : x0 = y0
  · subst h0
    by_cases h1 : x1 = y1
    · subst h1
      by_cases h2 : x2 = y2
      · subst h2
        by_cases h3 : x3 = y3
        · subst h3
          by_cases h4 : x4 = y4
          · subst h4
            simp [bne_int, SAcct.mk.injEq, eqIntS_eq, eqRepS_eq]
          · simp [bne_int, SAcct.mk.injEq, eqIntS_eq, eqRepS_eq, h4]
        · simp [bne_int, SAcct.mk.injEq, eqIntS_eq, eqRepS_eq, h3]
      · simp [bne_int, SAcct.mk.injEq, eqIntS_eq, eqRepS_eq, h2]
    · simp [bne_int, SAcct.mk.injEq, eqIntS_eq, eqRepS_eq, h1]
  · simp [bne_int, SAcct.mk.injEq, eqIntS_eq, eqRepS_eq, h0]
def shAcct (a : SAcct) : Prop := a.fMarks.length ≤ 1048576 ∧ a.fReps.length ≤ 1048576
theorem toAcct_eq {a : SAcct} (h : shAcct a) : laws_toAcct a = some a := by
  unfold laws_toAcct
  simp only [toIntS_eq h.1, toRepS_eq h.2, Option.bind_some]
def wflAcct (a : SAcct) : Prop := (a.fMarks.length ≤ maxLen) ∧ (a.fReps.length ≤ maxLen)
theorem szAcct_ok {a : SAcct} {k : Int} (h : wflAcct a) (hk0 : -1 ≤ k) (hk : k ≤ 1048576) : ∃ v, laws_szAcct a k = some v ∧ -1 ≤ v ∧ v ≤ k ∧ (0 ≤ v → 0 ≤ k → shAcct a) := by
  unfold laws_szAcct
  obtain ⟨v0, hv0, p0, q0, r0⟩ := szIntS_ok (k := k) h.1 (by omega) (by omega)
  rw [hv0, Option.bind_some]
  by_cases hn0 : v0 < 0
  · simp only [hn0, decide_true, cond_true]; exact ⟨_, rfl, by omega, by omega, by omega⟩
  simp only [hn0, decide_false, cond_false]
  obtain ⟨v1, hv1, p1, q1, r1⟩ := szRepS_ok (k := v0) h.2 (by omega) (by omega)
  rw [hv1, Option.bind_some]
  by_cases hn1 : v1 < 0
  · simp only [hn1, decide_true, cond_true]; exact ⟨_, rfl, by omega, by omega, by omega⟩
  simp only [hn1, decide_false, cond_false]
  exact ⟨_, rfl, by omega, by omega, fun _ _ => ⟨r0 (by omega) (by omega), r1 (by omega) (by omega)⟩⟩

end Go.Proofs.Yteolobihfindjaa

/- The law FnExactAcctSame answers true. -/
namespace Go.Proofs.Yteolobihfindjaa
open Go

theorem sameInts_eq (a b : List Int) : impl_sameInts a b = some (decide (a = b)) := by
  unfold impl_sameInts
  exact eqS_gen (f := impl_sameInts_l1 b) (fun i => by rw [impl_sameInts_l1]) (fun x t i => by rw [impl_sameInts_l1]; congr 1; funext y; rw [bne_int]; cases decide (x = y) <;> rfl)
theorem l01Same_eq (a b : List Int) : spec_l01Same a b = some (decide (a = b)) := by
  unfold spec_l01Same
  exact eqS_gen (f := spec_l01Same_l1 b) (fun i => by rw [spec_l01Same_l1]) (fun x t i => by rw [spec_l01Same_l1]; congr 1; funext y; rw [bne_int]; cases decide (x = y) <;> rfl)
theorem rep_dec (x y : SRep) : ((x.fNode == y.fNode) && ((x.fAmt == y.fAmt) && true)) = decide (x = y) := by
  obtain ⟨x1, x2⟩ := x; obtain ⟨y1, y2⟩ := y
  simp only [beq_int, Bool.and_true, and_dec, SRep.mk.injEq]
theorem acctSame_reps (a b : SAcct) : (bif ((a.fReps.length : Int) != (b.fReps.length : Int)) then some false else impl_AcctSame_l1 b a.fReps 0) = some (decide (a.fReps = b.fReps)) :=
  eqS_gen (f := impl_AcctSame_l1 b) (b := b.fReps) (fun i => by rw [impl_AcctSame_l1]) (fun x t i => by rw [impl_AcctSame_l1]; congr 1; funext y; rw [rep_dec]; cases decide (x = y) <;> rfl)
theorem acctSame_reps2 (a b : SAcct) : (bif ((a.fReps.length : Int) != (b.fReps.length : Int)) then some false else spec_AcctSame_l1 b a.fReps 0) = some (decide (a.fReps = b.fReps)) :=
  eqS_gen (f := spec_AcctSame_l1 b) (b := b.fReps) (fun i => by rw [spec_AcctSame_l1]) (fun x t i => by rw [spec_AcctSame_l1]; congr 1; funext y; rw [rep_dec]; cases decide (x = y) <;> rfl)
theorem impl_AcctSame_eq {a b : SAcct} (h : a.fReps.length ≤ maxLen) : impl_AcctSame a b = some (decide (a = b)) := by
  have hr := acctSame_reps a b
  unfold impl_AcctSame
  rw [gO_t h, hr]
  simp only [sameInts_eq, Option.bind_some]
  obtain ⟨x0, x1, x2, x3, x4⟩ := a; obtain ⟨y0, y1, y2, y3, y4⟩ := b
  simp only [bne_int, Bool.cond_not, Bool.cond_decide, SAcct.mk.injEq]
  by_cases h0 : x0 = y0 <;> by_cases h1 : x1 = y1 <;> by_cases h2 : x2 = y2 <;> by_cases h3 : x3 = y3 <;> simp [h0, h1, h2, h3]
theorem spec_AcctSame_eq (a b : SAcct) : spec_AcctSame a b = some (decide (a = b)) := by
  have hr := acctSame_reps2 a b
  unfold spec_AcctSame
  rw [hr]
  simp only [l01Same_eq, Option.bind_some]
  obtain ⟨x0, x1, x2, x3, x4⟩ := a; obtain ⟨y0, y1, y2, y3, y4⟩ := b
  simp only [bne_int, Bool.cond_not, Bool.cond_decide, SAcct.mk.injEq]
  by_cases h0 : x0 = y0 <;> by_cases h1 : x1 = y1 <;> by_cases h2 : x2 = y2 <;> by_cases h3 : x3 = y3 <;> simp [h0, h1, h2, h3]
theorem pure_FnExactAcctSame (a : SAcct) (h : wfAcct a) (b : SAcct) (g : wfAcct b) : laws_FnExactAcctSame a b = some true := by
  obtain ⟨-, -, -, h1, h2⟩ := h
  obtain ⟨-, -, -, g1, g2⟩ := g
  unfold laws_FnExactAcctSame
  obtain ⟨v, hv, q1, q2, hs⟩ := szAcct_ok (a := a) (k := 1048576) ⟨h1.1, h2.1⟩ (by omega) (by omega)
  rw [hv, Option.bind_some]
  by_cases hn : v < 0
  · simp only [hn, decide_true, cond_true]
  · have hs := hs (by omega) (by omega)
    simp only [hn, decide_false, cond_false]
    obtain ⟨u, hu, r1, r2, ht⟩ := szAcct_ok (a := b) (k := v) ⟨g1.1, g2.1⟩ (by omega) (by omega)
    rw [hu, Option.bind_some]
    by_cases hm : u < 0
    · simp only [hm, decide_true, cond_true]
    · have ht := ht (by omega) (by omega)
      simp only [hm, decide_false, cond_false, toAcct_eq hs, toAcct_eq ht, Option.bind_some, spec_AcctSame_eq, impl_AcctSame_eq h2.1, eqAcct_eq]
      simp

end Go.Proofs.Yteolobihfindjaa

