/- The plain law FnExactWaiting and what it needs: no program in sight. -/
import Derived.Test.YtncjcbdbdocjaaaUFnExactWaiting
set_option linter.unusedVariables false
set_option linter.unusedSimpArgs false

/- Small plain facts: numbers, and the laws' own helpers over lists of numbers. -/
namespace Go.Proofs.Ytncjcbdbdocjaaa
open Go

theorem w64_id {n : Int} (h1 : -9223372036854775808 ≤ n) (h2 : n ≤ 9223372036854775807) : w64 n = n := by
  unfold w64; rw [IntKind.wrap_i64]; omega
theorem room_of {b n : Nat} (hb : b ≤ 4096) (hn : n ≤ 34359738368) : room b n := by
  have : n * b ≤ 34359738368 * 4096 := Nat.mul_le_mul hn hb
  exact ⟨by omega, by omega⟩
theorem gO_t {α : Type} {c : Prop} [Decidable c] {k : Option α} (h : c) : gO c k = k := by simp [gO, h]
theorem drop_cons {α : Type} {L t : List α} {x : α} {i : Nat} (h : x :: t = L.drop i) : t = L.drop (i + 1) ∧ L[i]? = some x ∧ i < L.length := by
  have h1 := dnext h
  have h2 := ix_get (dget h)
  exact ⟨h1, by simpa using h2, dlt h⟩
theorem ix_nat {α : Type} (l : List α) (i : Nat) : ix l (i : Int) = l[i]? := by simp [ix]
theorem ix_lt {α : Type} {l : List α} {i : Int} (h0 : 0 ≤ i) (h1 : i < l.length) : ∃ x, ix l i = some x := by
  unfold ix
  rw [if_pos h0]
  exact ⟨l[i.toNat]'(by omega), by simp⟩
theorem w64_pred {i : Nat} (h0 : 0 < i) (h1 : i ≤ maxLen) : w64 ((i : Int) - 1) = ((i - 1 : Nat) : Int) := by
  have h2 : i ≤ 9223372036854775807 := h1
  rw [w64_id (by omega) (by omega)]; omega

theorem beq_dec {α : Type} [DecidableEq α] (x y : α) : (x == y) = decide (x = y) := by by_cases h : x = y <;> simp [h]
theorem bne_dec {α : Type} [DecidableEq α] (x y : α) : (x != y) = !decide (x = y) := by unfold bne; rw [beq_dec]
theorem beq_int (x y : Int) : (x == y) = decide (x = y) := beq_dec x y
theorem bne_int (x y : Int) : (x != y) = !decide (x = y) := bne_dec x y
theorem and_dec (p q : Prop) [Decidable p] [Decidable q] : (decide p && decide q) = decide (p ∧ q) := by simp
theorem or_dec (p q : Prop) [Decidable p] [Decidable q] : (decide p || decide q) = decide (p ∨ q) := by simp
theorem not_dec (p : Prop) [Decidable p] : (!decide p) = decide (¬ p) := by simp
theorem bind_id {α : Type} (x : Option α) : (x.bind fun v => some v) = x := by cases x <;> rfl

end Go.Proofs.Ytncjcbdbdocjaaa

/- Loops over lists, in general. -/
namespace Go.Proofs.Ytncjcbdbdocjaaa
open Go

theorem eqL_gen {α : Type} [DecidableEq α] {f : List α → Nat → Option Bool} {b : List α} (hn : ∀ i, f [] i = some true)
    (hc : ∀ x t (i : Nat), f (x :: t) i = (ix b (i : Int)).bind fun y => bif decide (x = y) then f t (i + 1) else some false) :
    ∀ (t L : List α) (i : Nat), t = L.drop i → b.length = L.length → i ≤ L.length → f t i = some (decide (t = b.drop i))
  | [], L, i, hd, hl, hi => by
    have := List.drop_eq_nil_iff.1 hd.symm
    rw [hn, List.drop_eq_nil_of_le (by omega)]; simp
  | x :: t, L, i, hd, hl, hi => by
    obtain ⟨h1, h2, h3⟩ := drop_cons hd
    have hlt : i < b.length := by omega
    rw [hc, ix_nat]
    have hy : b[i]? = some b[i] := by simp [hlt]
    rw [hy, Option.bind_some, List.drop_eq_getElem_cons hlt]
    by_cases hx : x = b[i]
    · simp only [hx, decide_true, cond_true]
      rw [eqL_gen hn hc t L (i + 1) h1 hl (by omega)]
      simp only [List.cons.injEq, true_and]
    · simp only [hx, decide_false, cond_false, List.cons.injEq, false_and]
theorem eqS_gen {α : Type} [DecidableEq α] {f : List α → Nat → Option Bool} {a b : List α} (hn : ∀ i, f [] i = some true)
    (hc : ∀ x t (i : Nat), f (x :: t) i = (ix b (i : Int)).bind fun y => bif decide (x = y) then f t (i + 1) else some false) :
    (bif ((a.length : Int) != (b.length : Int)) then some false else f a 0) = some (decide (a = b)) := by
  by_cases h : a.length = b.length
  · have hb : ((a.length : Int) != (b.length : Int)) = false := by simp [h]
    rw [hb, cond_false, eqL_gen hn hc a a 0 rfl h.symm (by omega)]; simp
  · have hb : ((a.length : Int) != (b.length : Int)) = true := by simp; omega
    rw [hb, cond_true]
    have : a ≠ b := fun he => h (by rw [he])
    simp [this]
theorem toL_gen {α : Type} {f : List α → Nat → List α → Option (List α)} {q : α → Prop} (hn : ∀ i y, f [] i y = some y)
    (hc : ∀ x t (i : Nat) y, q x → f (x :: t) i y = (ix y (i : Int)).bind fun _ => f t (i + 1) (List.set y (Int.toNat (i : Int)) x)) :
    ∀ (t L : List α) (i : Nat) (y : List α), t = L.drop i → y.length = L.length → y.take i = L.take i → i ≤ L.length → (∀ x ∈ t, q x) → f t i y = some L
  | [], L, i, y, hd, hl, ht, hi, hq => by
    have := List.drop_eq_nil_iff.1 hd.symm
    rw [hn]
    rw [List.take_of_length_le (by omega), List.take_of_length_le (by omega)] at ht
    rw [ht]
  | x :: t, L, i, y, hd, hl, ht, hi, hq => by
    obtain ⟨h1, h2, h3⟩ := drop_cons hd
    rw [hc x t i y (hq x (by simp)), ix_nat]
    have hy : y[i]? = some (y[i]'(by omega)) := by simp [show i < y.length by omega]
    rw [hy, Option.bind_some]
    refine toL_gen hn hc t L (i + 1) _ h1 (by simp [hl]) ?_ (by omega) (fun x hx => hq x (by simp [hx]))
    rw [List.take_add_one, List.take_add_one, List.take_set_of_le (by simp), ht]
    simp [show i < y.length by omega, h2]
theorem toS_gen {α : Type} {f : List α → Nat → List α → Option (List α)} {q : α → Prop} {b : Nat} {z : α} {l : List α} (hb : b ≤ 4096) (h : l.length ≤ 1048576) (hq : ∀ x ∈ l, q x) (hn : ∀ i y, f [] i y = some y)
    (hc : ∀ x t (i : Nat) y, q x → f (x :: t) i y = (ix y (i : Int)).bind fun _ => f t (i + 1) (List.set y (Int.toNat (i : Int)) x)) :
    gO (0 ≤ (l.length : Int) ∧ room b (Int.toNat (l.length : Int))) (f l 0 (List.replicate (Int.toNat (l.length : Int)) z)) = some l := by
  rw [gO_t ⟨by omega, room_of hb (by simp; omega)⟩]
  exact toL_gen hn hc l l 0 _ rfl (by simp) (by simp) (by omega) hq
/-- A budget that is lessened by a length. -/
theorem szL_gen {n : Nat} {k : Int} (hl : n ≤ maxLen) (hk0 : -1 ≤ k) (hk : k ≤ 1048576) :
    ∃ v, (bif (decide ((w64 (k - (n : Int))) < 0)) then some (-1) else some (w64 (k - (n : Int)))) = some v ∧ -1 ≤ v ∧ v ≤ k ∧ (0 ≤ v → 0 ≤ k → n ≤ 1048576) := by
  have h3 : (maxLen : Int) = 9223372036854775807 ∨ maxLen ≤ 140737488355328 := by decide
  have h2 : n ≤ 9223372036854775807 := hl
  have hw : w64 (k - (n : Int)) = k - n := w64_id (by rcases h3 with h3 | h3 <;> omega) (by omega)
  rw [hw]
  by_cases h : k - (n : Int) < 0
  · simp only [h, decide_true, cond_true]; exact ⟨_, rfl, by omega, by omega, by omega⟩
  · simp only [h, decide_false, cond_false]; exact ⟨_, rfl, by omega, by omega, by omega⟩

end Go.Proofs.Ytncjcbdbdocjaaa

/- The laws' own helpers over Acct. -/
namespace Go.Proofs.Ytncjcbdbdocjaaa
open Go

def shAcct (a : SAcct) : Prop := a.fMarks.length ≤ 1048576 ∧ a.fReps.length ≤ 1048576
def wflAcct (a : SAcct) : Prop := (a.fMarks.length ≤ maxLen) ∧ (a.fReps.length ≤ maxLen)

end Go.Proofs.Ytncjcbdbdocjaaa

/- The laws' own helpers over Out. -/
namespace Go.Proofs.Ytncjcbdbdocjaaa
open Go

def shOut (a : SOut) : Prop := a.fList.length ≤ 1048576
def wflOut (a : SOut) : Prop := (a.fList.length ≤ maxLen)

end Go.Proofs.Ytncjcbdbdocjaaa

/- The laws' own helpers over Node. -/
namespace Go.Proofs.Ytncjcbdbdocjaaa
open Go

def shNode (a : SNode) : Prop := (a.fAccts.length ≤ 1048576 ∧ ∀ y ∈ a.fAccts, shAcct y) ∧ (a.fOuts.length ≤ 1048576 ∧ ∀ y ∈ a.fOuts, shOut y) ∧ a.fIns.length ≤ 1048576 ∧ a.fAccs.length ≤ 1048576
def wflNode (a : SNode) : Prop := (a.fAccts.length ≤ maxLen ∧ ∀ y ∈ a.fAccts, wflAcct y) ∧ (a.fOuts.length ≤ maxLen ∧ ∀ y ∈ a.fOuts, wflOut y) ∧ (a.fIns.length ≤ maxLen) ∧ (a.fAccs.length ≤ maxLen)

end Go.Proofs.Ytncjcbdbdocjaaa

/- What is well formed has lengths. -/
namespace Go.Proofs.Ytncjcbdbdocjaaa
open Go

theorem wfl_node {a : SNode} (h : wfNode a) : wflNode a := by
  obtain ⟨-, -, h1, h2, h3, h4, -⟩ := h
  exact ⟨⟨h1.1, fun y hy => ⟨(h1.2 y hy).2.2.2.1.1, (h1.2 y hy).2.2.2.2.1⟩⟩, ⟨h2.1, fun y hy => (h2.2 y hy).2.1⟩, h3.1, h4.1⟩

end Go.Proofs.Ytncjcbdbdocjaaa

/- The laws' own helpers over IntS. -/
namespace Go.Proofs.Ytncjcbdbdocjaaa
open Go

theorem toIntS_eq {l : List Int} (h : l.length ≤ 1048576) : laws_toIntS l = some l := by
  unfold laws_toIntS
  exact toS_gen (f := laws_toIntS_l1) (q := fun _ => True) (by omega) h (fun _ _ => trivial) (fun i y => by rw [laws_toIntS_l1]) (fun x t i y _ => by rw [laws_toIntS_l1])

end Go.Proofs.Ytncjcbdbdocjaaa

/- The laws' own helpers over Rep. -/
namespace Go.Proofs.Ytncjcbdbdocjaaa
open Go

theorem toRep_eq (a : SRep) : laws_toRep a = some a := rfl

end Go.Proofs.Ytncjcbdbdocjaaa

/- The laws' own helpers over RepS. -/
namespace Go.Proofs.Ytncjcbdbdocjaaa
open Go

theorem toRepS_eq {l : List SRep} (h : l.length ≤ 1048576) : laws_toRepS l = some l := by
  unfold laws_toRepS
  exact toS_gen (f := laws_toRepS_l1) (q := fun _ => True) (by omega) h (fun _ _ => trivial) (fun i y => by rw [laws_toRepS_l1]) (fun x t i y _ => by rw [laws_toRepS_l1, toRep_eq, Option.bind_some])

end Go.Proofs.Ytncjcbdbdocjaaa

/- The laws' own helpers over Acct. -/
namespace Go.Proofs.Ytncjcbdbdocjaaa
open Go

theorem toAcct_eq {a : SAcct} (h : shAcct a) : laws_toAcct a = some a := by
  unfold laws_toAcct
  simp only [toIntS_eq h.1, toRepS_eq h.2, Option.bind_some]

end Go.Proofs.Ytncjcbdbdocjaaa

/- The laws' own helpers over AcctS. -/
namespace Go.Proofs.Ytncjcbdbdocjaaa
open Go

theorem toAcctS_eq {l : List SAcct} (h : l.length ≤ 1048576 ∧ ∀ y ∈ l, shAcct y) : laws_toAcctS l = some l := by
  unfold laws_toAcctS
  exact toS_gen (f := laws_toAcctS_l1) (q := fun y => shAcct y) (by omega) h.1 h.2 (fun i y => by rw [laws_toAcctS_l1]) (fun x t i y hx => by rw [laws_toAcctS_l1, toAcct_eq hx, Option.bind_some])

end Go.Proofs.Ytncjcbdbdocjaaa

/- The laws' own helpers over Msg. -/
namespace Go.Proofs.Ytncjcbdbdocjaaa
open Go

theorem toMsg_eq (a : SMsg) : laws_toMsg a = some a := rfl

end Go.Proofs.Ytncjcbdbdocjaaa

/- The laws' own helpers over MsgS. -/
namespace Go.Proofs.Ytncjcbdbdocjaaa
open Go

theorem toMsgS_eq {l : List SMsg} (h : l.length ≤ 1048576) : laws_toMsgS l = some l := by
  unfold laws_toMsgS
  exact toS_gen (f := laws_toMsgS_l1) (q := fun _ => True) (by omega) h (fun _ _ => trivial) (fun i y => by rw [laws_toMsgS_l1]) (fun x t i y _ => by rw [laws_toMsgS_l1, toMsg_eq, Option.bind_some])

end Go.Proofs.Ytncjcbdbdocjaaa

/- The laws' own helpers over Out. -/
namespace Go.Proofs.Ytncjcbdbdocjaaa
open Go

theorem toOut_eq {a : SOut} (h : shOut a) : laws_toOut a = some a := by
  unfold laws_toOut
  simp only [toMsgS_eq h, Option.bind_some]

end Go.Proofs.Ytncjcbdbdocjaaa

/- The laws' own helpers over OutS. -/
namespace Go.Proofs.Ytncjcbdbdocjaaa
open Go

theorem toOutS_eq {l : List SOut} (h : l.length ≤ 1048576 ∧ ∀ y ∈ l, shOut y) : laws_toOutS l = some l := by
  unfold laws_toOutS
  exact toS_gen (f := laws_toOutS_l1) (q := fun y => shOut y) (by omega) h.1 h.2 (fun i y => by rw [laws_toOutS_l1]) (fun x t i y hx => by rw [laws_toOutS_l1, toOut_eq hx, Option.bind_some])

end Go.Proofs.Ytncjcbdbdocjaaa

/- The laws' own helpers over Acc. -/
namespace Go.Proofs.Ytncjcbdbdocjaaa
open Go

theorem toAcc_eq (a : SAcc) : laws_toAcc a = some a := rfl

end Go.Proofs.Ytncjcbdbdocjaaa

/- The laws' own helpers over AccS. -/
namespace Go.Proofs.Ytncjcbdbdocjaaa
open Go

theorem toAccS_eq {l : List SAcc} (h : l.length ≤ 1048576) : laws_toAccS l = some l := by
  unfold laws_toAccS
  exact toS_gen (f := laws_toAccS_l1) (q := fun _ => True) (by omega) h (fun _ _ => trivial) (fun i y => by rw [laws_toAccS_l1]) (fun x t i y _ => by rw [laws_toAccS_l1, toAcc_eq, Option.bind_some])

end Go.Proofs.Ytncjcbdbdocjaaa

/- The laws' own helpers over Node. -/
namespace Go.Proofs.Ytncjcbdbdocjaaa
open Go

theorem toNode_eq {a : SNode} (h : shNode a) : laws_toNode a = some a := by
  unfold laws_toNode
  simp only [toAcctS_eq h.1, toOutS_eq h.2.1, toIntS_eq h.2.2.1, toAccS_eq h.2.2.2, Option.bind_some]

end Go.Proofs.Ytncjcbdbdocjaaa

/- The laws' own helpers over IntS. -/
namespace Go.Proofs.Ytncjcbdbdocjaaa
open Go

theorem eqIntS_eq (a b : List Int) : laws_eqIntS a b = some (decide (a = b)) := by
  unfold laws_eqIntS
  exact eqS_gen (f := laws_eqIntS_l1 b) (fun i => by rw [laws_eqIntS_l1]) (fun x t i => by rw [laws_eqIntS_l1]; congr 1; funext y; rw [bne_int]; cases decide (x = y) <;> rfl)

end Go.Proofs.Ytncjcbdbdocjaaa

/- The laws' own helpers over Rep. -/
namespace Go.Proofs.Ytncjcbdbdocjaaa
open Go

theorem eqRep_eq (a b : SRep) : laws_eqRep a b = some (decide (a = b)) := by
  obtain ⟨x0, x1⟩ := a
  obtain ⟨y0, y1⟩ := b
  unfold laws_eqRep
  by_cases h0 : x0 = y0
  · subst h0
    by_cases h1 : x1 = y1
    · subst h1
      simp [bne_int, SRep.mk.injEq]
    · simp [bne_int, SRep.mk.injEq, h1]
  · simp [bne_int, SRep.mk.injEq, h0]

end Go.Proofs.Ytncjcbdbdocjaaa

/- The laws' own helpers over RepS. -/
namespace Go.Proofs.Ytncjcbdbdocjaaa
open Go

theorem eqRepS_eq (a b : List SRep) : laws_eqRepS a b = some (decide (a = b)) := by
  unfold laws_eqRepS
  exact eqS_gen (f := laws_eqRepS_l1 b) (fun i => by rw [laws_eqRepS_l1]) (fun x t i => by rw [laws_eqRepS_l1]; congr 1; funext y; rw [eqRep_eq, Option.bind_some]; cases decide (x = y) <;> rfl)

end Go.Proofs.Ytncjcbdbdocjaaa

/- The laws' own helpers over Acct. -/
namespace Go.Proofs.Ytncjcbdbdocjaaa
open Go

theorem eqAcct_eq (a b : SAcct) : laws_eqAcct a b = some (decide (a = b)) := by
  obtain ⟨x0, x1, x2, x3, x4⟩ := a
  obtain ⟨y0, y1, y2, y3, y4⟩ := b
  unfold laws_eqAcct
  by_cases h0 : x0 = y0
  · subst h0
    by_cases h1 : x1 = y1
    · subst h1
      by_cases h2 : x2 = y2
      · subst h2
        by_cases h3 : x3 = y3
        · subst h3
          by_cases h4 : x4 = y4
          · subst h4
            simp [bne_int, SAcct.mk.injEq, eqIntS_eq, eqRepS_eq]
          · simp [bne_int, SAcct.mk.injEq, eqIntS_eq, eqRepS_eq, h4]
        · simp [bne_int, SAcct.mk.injEq, eqIntS_eq, eqRepS_eq, h3]
      · simp [bne_int, SAcct.mk.injEq, eqIntS_eq, eqRepS_eq, h2]
    · simp [bne_int, SAcct.mk.injEq, eqIntS_eq, eqRepS_eq, h1]
  · simp [bne_int, SAcct.mk.injEq, eqIntS_eq, eqRepS_eq, h0]

end Go.Proofs.Ytncjcbdbdocjaaa

/- The laws' own helpers over AcctS. -/
namespace Go.Proofs.Ytncjcbdbdocjaaa
open Go

theorem eqAcctS_eq (a b : List SAcct) : laws_eqAcctS a b = some (decide (a = b)) := by
  unfold laws_eqAcctS
  exact eqS_gen (f := laws_eqAcctS_l1 b) (fun i => by rw [laws_eqAcctS_l1]) (fun x t i => by rw [laws_eqAcctS_l1]; congr 1; funext y; rw [eqAcct_eq, Option.bind_some]; cases decide (x = y) <;> rfl)

end Go.Proofs.Ytncjcbdbdocjaaa

/- The laws' own helpers over Msg. -/
namespace Go.Proofs.Ytncjcbdbdocjaaa
open Go

theorem eqMsg_eq (a b : SMsg) : laws_eqMsg a b = some (decide (a = b)) := by
  obtain ⟨x0, x1, x2, x3⟩ := a
  obtain ⟨y0, y1, y2, y3⟩ := b
  unfold laws_eqMsg
  by_cases h0 : x0 = y0
  · subst h0
    by_cases h1 : x1 = y1
    · subst h1
      by_cases h2 : x2 = y2
      · subst h2
        by_cases h3 : x3 = y3
        · subst h3
          simp [bne_int, SMsg.mk.injEq]
        · simp [bne_int, SMsg.mk.injEq, h3]
      · simp [bne_int, SMsg.mk.injEq, h2]
    · simp [bne_int, SMsg.mk.injEq, h1]
  · simp [bne_int, SMsg.mk.injEq, h0]

end Go.Proofs.Ytncjcbdbdocjaaa

/- The laws' own helpers over MsgS. -/
namespace Go.Proofs.Ytncjcbdbdocjaaa
open Go

theorem eqMsgS_eq (a b : List SMsg) : laws_eqMsgS a b = some (decide (a = b)) := by
  unfold laws_eqMsgS
  exact eqS_gen (f := laws_eqMsgS_l1 b) (fun i => by rw [laws_eqMsgS_l1]) (fun x t i => by rw [laws_eqMsgS_l1]; congr 1; funext y; rw [eqMsg_eq, Option.bind_some]; cases decide (x = y) <;> rfl)

end Go.Proofs.Ytncjcbdbdocjaaa

/- The laws' own helpers over Out. -/
namespace Go.Proofs.Ytncjcbdbdocjaaa
open Go

theorem eqOut_eq (a b : SOut) : laws_eqOut a b = some (decide (a = b)) := by
  obtain ⟨x0, x1⟩ := a
  obtain ⟨y0, y1⟩ := b
  unfold laws_eqOut
  by_cases h0 : x0 = y0
  · subst h0
    by_cases h1 : x1 = y1
    · subst h1
      simp [bne_int, SOut.mk.injEq, eqMsgS_eq]
    · simp [bne_int, SOut.mk.injEq, eqMsgS_eq, h1]
  · simp [bne_int, SOut.mk.injEq, eqMsgS_eq, h0]

end Go.Proofs.Ytncjcbdbdocjaaa

/- The laws' own helpers over OutS. -/
namespace Go.Proofs.Ytncjcbdbdocjaaa
open Go

theorem eqOutS_eq (a b : List SOut) : laws_eqOutS a b = some (decide (a = b)) := by
  unfold laws_eqOutS
  exact eqS_gen (f := laws_eqOutS_l1 b) (fun i => by rw [laws_eqOutS_l1]) (fun x t i => by rw [laws_eqOutS_l1]; congr 1; funext y; rw [eqOut_eq, Option.bind_some]; cases decide (x = y) <;> rfl)

end Go.Proofs.Ytncjcbdbdocjaaa

/- The laws' own helpers over Acc. -/
namespace Go.Proofs.Ytncjcbdbdocjaaa
open Go

theorem eqAcc_eq (a b : SAcc) : laws_eqAcc a b = some (decide (a = b)) := by
  obtain ⟨x0, x1, x2⟩ := a
  obtain ⟨y0, y1, y2⟩ := b
  unfold laws_eqAcc
  by_cases h0 : x0 = y0
  · subst h0
    by_cases h1 : x1 = y1
    · subst h1
      by_cases h2 : x2 = y2
      · subst h2
        simp [bne_int, SAcc.mk.injEq]
      · simp [bne_int, SAcc.mk.injEq, h2]
    · simp [bne_int, SAcc.mk.injEq, h1]
  · simp [bne_int, SAcc.mk.injEq, h0]

end Go.Proofs.Ytncjcbdbdocjaaa

/- The laws' own helpers over AccS. -/
namespace Go.Proofs.Ytncjcbdbdocjaaa
open Go

theorem eqAccS_eq (a b : List SAcc) : laws_eqAccS a b = some (decide (a = b)) := by
  unfold laws_eqAccS
  exact eqS_gen (f := laws_eqAccS_l1 b) (fun i => by rw [laws_eqAccS_l1]) (fun x t i => by rw [laws_eqAccS_l1]; congr 1; funext y; rw [eqAcc_eq, Option.bind_some]; cases decide (x = y) <;> rfl)

end Go.Proofs.Ytncjcbdbdocjaaa

/- The laws' own helpers over Node. -/
namespace Go.Proofs.Ytncjcbdbdocjaaa
open Go

theorem eqNode_eq (a b : SNode) : laws_eqNode a b = some (decide (a = b)) := by
  obtain ⟨x0, x1, x2, x3, x4, x5, x6, x7, x8⟩ := a
  obtain ⟨y0, y1, y2, y3, y4, y5, y6, y7, y8⟩ := b
  unfold laws_eqNode
  by_cases h0 : x0 = y0
  · subst h0
    by_cases h1 : x1 = y1
    · subst h1
      by_cases h2 : x2 = y2
      · subst h2
        by_cases h3 : x3 = y3
        · subst h3
          by_cases h4 : x4 = y4
          · subst h4
            by_cases h5 : x5 = y5
            · subst h5
              by_cases h6 : x6 = y6
              · subst h6
                by_cases h7 : x7 = y7
                · subst h7
                  by_cases h8 : x8 = y8
                  · subst h8
                    simp [bne_int, SNode.mk.injEq, eqAcctS_eq, eqOutS_eq, eqIntS_eq, eqAccS_eq]
                  · simp [bne_int, SNode.mk.injEq, eqAcctS_eq, eqOutS_eq, eqIntS_eq, eqAccS_eq, h8]
                · simp [bne_int, SNode.mk.injEq, eqAcctS_eq, eqOutS_eq, eqIntS_eq, eqAccS_eq, h7]
              · simp [bne_int, SNode.mk.injEq, eqAcctS_eq, eqOutS_eq, eqIntS_eq, eqAccS_eq, h6]
            · simp [bne_int, SNode.mk.injEq, eqAcctS_eq, eqOutS_eq, eqIntS_eq, eqAccS_eq, h5]
          · simp [bne_int, SNode.mk.injEq, eqAcctS_eq, eqOutS_eq, eqIntS_eq, eqAccS_eq, h4]
        · simp [bne_int, SNode.mk.injEq, eqAcctS_eq, eqOutS_eq, eqIntS_eq, eqAccS_eq, h3]
      · simp [bne_int, SNode.mk.injEq, eqAcctS_eq, eqOutS_eq, eqIntS_eq, eqAccS_eq, h2]
    · simp [bne_int, SNode.mk.injEq, eqAcctS_eq, eqOutS_eq, eqIntS_eq, eqAccS_eq, h1]
  · simp [bne_int, SNode.mk.injEq, eqAcctS_eq, eqOutS_eq, eqIntS_eq, eqAccS_eq, h0]

end Go.Proofs.Ytncjcbdbdocjaaa

/- The laws' own helpers over IntS. -/
namespace Go.Proofs.Ytncjcbdbdocjaaa
open Go

theorem szIntS_ok {l : List Int} {k : Int} (hl : l.length ≤ maxLen) (hk0 : -1 ≤ k) (hk : k ≤ 1048576) : ∃ v, laws_szIntS l k = some v ∧ -1 ≤ v ∧ v ≤ k ∧ (0 ≤ v → 0 ≤ k → l.length ≤ 1048576) := by
  unfold laws_szIntS; exact szL_gen hl hk0 hk

end Go.Proofs.Ytncjcbdbdocjaaa

/- The laws' own helpers over RepS. -/
namespace Go.Proofs.Ytncjcbdbdocjaaa
open Go

theorem szRepS_ok {l : List SRep} {k : Int} (hl : l.length ≤ maxLen) (hk0 : -1 ≤ k) (hk : k ≤ 1048576) : ∃ v, laws_szRepS l k = some v ∧ -1 ≤ v ∧ v ≤ k ∧ (0 ≤ v → 0 ≤ k → l.length ≤ 1048576) := by
  unfold laws_szRepS; exact szL_gen hl hk0 hk

end Go.Proofs.Ytncjcbdbdocjaaa

/- The laws' own helpers over Acct. -/
namespace Go.Proofs.Ytncjcbdbdocjaaa
open Go

theorem szAcct_ok {a : SAcct} {k : Int} (h : wflAcct a) (hk0 : -1 ≤ k) (hk : k ≤ 1048576) : ∃ v, laws_szAcct a k = some v ∧ -1 ≤ v ∧ v ≤ k ∧ (0 ≤ v → 0 ≤ k → shAcct a) := by
  unfold laws_szAcct
  obtain ⟨v0, hv0, p0, q0, r0⟩ := szIntS_ok (k := k) h.1 (by omega) (by omega)
  rw [hv0, Option.bind_some]
  by_cases hn0 : v0 < 0
  · simp only [hn0, decide_true, cond_true]; exact ⟨_, rfl, by omega, by omega, by omega⟩
  simp only [hn0, decide_false, cond_false]
  obtain ⟨v1, hv1, p1, q1, r1⟩ := szRepS_ok (k := v0) h.2 (by omega) (by omega)
  rw [hv1, Option.bind_some]
  by_cases hn1 : v1 < 0
  · simp only [hn1, decide_true, cond_true]; exact ⟨_, rfl, by omega, by omega, by omega⟩
  simp only [hn1, decide_false, cond_false]
  exact ⟨_, rfl, by omega, by omega, fun _ _ => ⟨r0 (by omega) (by omega), r1 (by omega) (by omega)⟩⟩

end Go.Proofs.Ytncjcbdbdocjaaa

/- Budgets over lists of structs with lists. -/
namespace Go.Proofs.Ytncjcbdbdocjaaa
open Go

theorem szE_gen {α : Type} {g : α → Int → Option Int} {f : List α → Nat → Int → Option Int} {wq q : α → Prop} (hn : ∀ i k, f [] i k = some k)
    (hc : ∀ x t (i : Nat) k, f (x :: t) i k = (g x k).bind fun v => bif decide (v < 0) then some (-1) else f t (i + 1) v)
    (hg : ∀ x k, wq x → -1 ≤ k → k ≤ 1048576 → ∃ v, g x k = some v ∧ -1 ≤ v ∧ v ≤ k ∧ (0 ≤ v → 0 ≤ k → q x)) :
    ∀ (l : List α) (i : Nat) (k : Int), (∀ y ∈ l, wq y) → 0 ≤ k → k ≤ 1048576 → ∃ v, f l i k = some v ∧ -1 ≤ v ∧ v ≤ k ∧ (0 ≤ v → ∀ y ∈ l, q y)
  | [], i, k, hw, h0, h1 => ⟨k, hn i k, by omega, by omega, fun _ y hy => by cases hy⟩
  | x :: t, i, k, hw, h0, h1 => by
    obtain ⟨v, hv, p1, p2, p3⟩ := hg x k (hw x (by simp)) (by omega) h1
    rw [hc, hv, Option.bind_some]
    by_cases hneg : v < 0
    · rw [decide_eq_true hneg, cond_true]; exact ⟨_, rfl, by omega, by omega, fun h => absurd h (by omega)⟩
    · rw [decide_eq_false hneg, cond_false]
      obtain ⟨u, hu, r1, r2, r3⟩ := szE_gen hn hc hg t (i + 1) v (fun y hy => hw y (by simp [hy])) (by omega) (by omega)
      refine ⟨u, hu, r1, by omega, fun h y hy => ?_⟩
      rcases List.mem_cons.1 hy with rfl | hy
      · exact p3 (by omega) h0
      · exact r3 h y hy
theorem szES_gen {α : Type} {g : α → Int → Option Int} {f : List α → Nat → Int → Option Int} {wq q : α → Prop} {l : List α} {k : Int} (hl : l.length ≤ maxLen ∧ ∀ y ∈ l, wq y) (hk0 : -1 ≤ k) (hk : k ≤ 1048576) (hn : ∀ i k, f [] i k = some k)
    (hc : ∀ x t (i : Nat) k, f (x :: t) i k = (g x k).bind fun v => bif decide (v < 0) then some (-1) else f t (i + 1) v)
    (hg : ∀ x k, wq x → -1 ≤ k → k ≤ 1048576 → ∃ v, g x k = some v ∧ -1 ≤ v ∧ v ≤ k ∧ (0 ≤ v → 0 ≤ k → q x)) :
    ∃ v, (bif (decide ((w64 (k - (l.length : Int))) < 0)) then some (-1) else f l 0 (w64 (k - (l.length : Int)))) = some v ∧ -1 ≤ v ∧ v ≤ k ∧ (0 ≤ v → 0 ≤ k → l.length ≤ 1048576 ∧ ∀ y ∈ l, q y) := by
  have h3 : (maxLen : Int) = 9223372036854775807 ∨ maxLen ≤ 140737488355328 := by decide
  have h2 : l.length ≤ 9223372036854775807 := hl.1
  have hw : w64 (k - (l.length : Int)) = k - l.length := w64_id (by rcases h3 with h3 | h3 <;> omega) (by omega)
  rw [hw]
  by_cases hneg : k - (l.length : Int) < 0
  · rw [decide_eq_true hneg, cond_true]; exact ⟨_, rfl, by omega, by omega, fun h => absurd h (by omega)⟩
  · rw [decide_eq_false hneg, cond_false]
    obtain ⟨v, hv, p1, p2, p3⟩ := szE_gen hn hc hg l 0 (k - l.length) hl.2 (by omega) (by omega)
    exact ⟨v, hv, p1, by omega, fun h h0 => ⟨by omega, p3 h⟩⟩

end Go.Proofs.Ytncjcbdbdocjaaa

/- The laws' own helpers over AcctS. -/
namespace Go.Proofs.Ytncjcbdbdocjaaa
open Go

theorem szAcctS_ok {l : List SAcct} {k : Int} (hl : l.length ≤ maxLen ∧ ∀ y ∈ l, wflAcct y) (hk0 : -1 ≤ k) (hk : k ≤ 1048576) : ∃ v, laws_szAcctS l k = some v ∧ -1 ≤ v ∧ v ≤ k ∧ (0 ≤ v → 0 ≤ k → l.length ≤ 1048576 ∧ ∀ y ∈ l, shAcct y) := by
  unfold laws_szAcctS
  exact szES_gen (g := laws_szAcct) (wq := fun y => wflAcct y) (q := fun y => shAcct y) hl hk0 hk (fun i k => by rw [laws_szAcctS_l1]) (fun x t i k => by rw [laws_szAcctS_l1]) (fun x k hx h0 h1 => szAcct_ok hx h0 h1)

end Go.Proofs.Ytncjcbdbdocjaaa

/- The laws' own helpers over MsgS. -/
namespace Go.Proofs.Ytncjcbdbdocjaaa
open Go

theorem szMsgS_ok {l : List SMsg} {k : Int} (hl : l.length ≤ maxLen) (hk0 : -1 ≤ k) (hk : k ≤ 1048576) : ∃ v, laws_szMsgS l k = some v ∧ -1 ≤ v ∧ v ≤ k ∧ (0 ≤ v → 0 ≤ k → l.length ≤ 1048576) := by
  unfold laws_szMsgS; exact szL_gen hl hk0 hk

end Go.Proofs.Ytncjcbdbdocjaaa

/- The laws' own helpers over Out. -/
namespace Go.Proofs.Ytncjcbdbdocjaaa
open Go

theorem szOut_ok {a : SOut} {k : Int} (h : wflOut a) (hk0 : -1 ≤ k) (hk : k ≤ 1048576) : ∃ v, laws_szOut a k = some v ∧ -1 ≤ v ∧ v ≤ k ∧ (0 ≤ v → 0 ≤ k → shOut a) := by
  unfold laws_szOut
  obtain ⟨v0, hv0, p0, q0, r0⟩ := szMsgS_ok (k := k) h (by omega) (by omega)
  rw [hv0, Option.bind_some]
  by_cases hn0 : v0 < 0
  · simp only [hn0, decide_true, cond_true]; exact ⟨_, rfl, by omega, by omega, by omega⟩
  simp only [hn0, decide_false, cond_false]
  exact ⟨_, rfl, by omega, by omega, fun _ _ => r0 (by omega) (by omega)⟩

end Go.Proofs.Ytncjcbdbdocjaaa

/- The laws' own helpers over OutS. -/
namespace Go.Proofs.Ytncjcbdbdocjaaa
open Go

theorem szOutS_ok {l : List SOut} {k : Int} (hl : l.length ≤ maxLen ∧ ∀ y ∈ l, wflOut y) (hk0 : -1 ≤ k) (hk : k ≤ 1048576) : ∃ v, laws_szOutS l k = some v ∧ -1 ≤ v ∧ v ≤ k ∧ (0 ≤ v → 0 ≤ k → l.length ≤ 1048576 ∧ ∀ y ∈ l, shOut y) := by
  unfold laws_szOutS
  exact szES_gen (g := laws_szOut) (wq := fun y => wflOut y) (q := fun y => shOut y) hl hk0 hk (fun i k => by rw [laws_szOutS_l1]) (fun x t i k => by rw [laws_szOutS_l1]) (fun x k hx h0 h1 => szOut_ok hx h0 h1)

end Go.Proofs.Ytncjcbdbdocjaaa

/- The laws' own helpers over AccS. -/
namespace Go.Proofs.Ytncjcbdbdocjaaa
open Go

theorem szAccS_ok {l : List SAcc} {k : Int} (hl : l.length ≤ maxLen) (hk0 : -1 ≤ k) (hk : k ≤ 1048576) : ∃ v, laws_szAccS l k = some v ∧ -1 ≤ v ∧ v ≤ k ∧ (0 ≤ v → 0 ≤ k → l.length ≤ 1048576) := by
  unfold laws_szAccS; exact szL_gen hl hk0 hk

end Go.Proofs.Ytncjcbdbdocjaaa

/- The laws' own helpers over Node. -/
namespace Go.Proofs.Ytncjcbdbdocjaaa
open Go

theorem szNode_ok {a : SNode} {k : Int} (h : wflNode a) (hk0 : -1 ≤ k) (hk : k ≤ 1048576) : ∃ v, laws_szNode a k = some v ∧ -1 ≤ v ∧ v ≤ k ∧ (0 ≤ v → 0 ≤ k → shNode a) := by
  unfold laws_szNode
  obtain ⟨v0, hv0, p0, q0, r0⟩ := szAcctS_ok (k := k) h.1 (by omega) (by omega)
  rw [hv0, Option.bind_some]
  by_cases hn0 : v0 < 0
  · simp only [hn0, decide_true, cond_true]; exact ⟨_, rfl, by omega, by omega, by omega⟩
  simp only [hn0, decide_false, cond_false]
  obtain ⟨v1, hv1, p1, q1, r1⟩ := szOutS_ok (k := v0) h.2.1 (by omega) (by omega)
  rw [hv1, Option.bind_some]
  by_cases hn1 : v1 < 0
  · simp only [hn1, decide_true, cond_true]; exact ⟨_, rfl, by omega, by omega, by omega⟩
  simp only [hn1, decide_false, cond_false]
  obtain ⟨v2, hv2, p2, q2, r2⟩ := szIntS_ok (k := v1) h.2.2.1 (by omega) (by omega)
  rw [hv2, Option.bind_some]
  by_cases hn2 : v2 < 0
  · simp only [hn2, decide_true, cond_true]; exact ⟨_, rfl, by omega, by omega, by omega⟩
  simp only [hn2, decide_false, cond_false]
  obtain ⟨v3, hv3, p3, q3, r3⟩ := szAccS_ok (k := v2) h.2.2.2 (by omega) (by omega)
  rw [hv3, Option.bind_some]
  by_cases hn3 : v3 < 0
  · simp only [hn3, decide_true, cond_true]; exact ⟨_, rfl, by omega, by omega, by omega⟩
  simp only [hn3, decide_false, cond_false]
  exact ⟨_, rfl, by omega, by omega, fun _ _ => ⟨r0 (by omega) (by omega), r1 (by omega) (by omega), r2 (by omega) (by omega), r3 (by omega) (by omega)⟩⟩

end Go.Proofs.Ytncjcbdbdocjaaa

/- The law FnExactWaiting answers true. -/
namespace Go.Proofs.Ytncjcbdbdocjaaa
open Go

theorem waiting_l1 : ∀ (t : List SOut) (i : Nat) (y : Int), spec_Waiting_l1 t i y = impl_Waiting_l1 t i y ∧ ∃ v, impl_Waiting_l1 t i y = some v
  | [], i, y => ⟨by rw [spec_Waiting_l1, impl_Waiting_l1], y, by rw [impl_Waiting_l1]⟩
  | x :: t, i, y => by rw [spec_Waiting_l1, impl_Waiting_l1]; exact waiting_l1 t (i + 1) _
theorem pure_FnExactWaiting (a : SNode) (h : wfNode a) : laws_FnExactWaiting a = some true := by
  unfold laws_FnExactWaiting
  obtain ⟨v, hv, q1, q2, hs⟩ := szNode_ok (a := a) (k := 1048576) (wfl_node h) (by omega) (by omega)
  rw [hv, Option.bind_some]
  by_cases hneg : v < 0
  · simp only [hneg, decide_true, _root_.cond_true]
  · have hs := hs (by omega) (by omega)
    obtain ⟨e, n, hn⟩ := waiting_l1 a.fOuts 0 0
    have e1 : spec_Waiting a = some n := by unfold spec_Waiting; rw [e, hn]
    have e2 : impl_Waiting a = some n := hn
    simp only [hneg, decide_false, _root_.cond_false, toNode_eq hs, e1, e2, Option.bind_some, eqNode_eq, decide_true, Bool.not_true, bne_self_eq_false]

end Go.Proofs.Ytncjcbdbdocjaaa

