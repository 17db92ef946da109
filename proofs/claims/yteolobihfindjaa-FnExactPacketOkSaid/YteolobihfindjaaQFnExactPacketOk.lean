/- The plain law FnExactPacketOk and what it needs: no program in sight. -/
import Derived.Test.YteolobihfindjaaUFnExactPacketOk
set_option linter.unusedVariables false
set_option linter.unusedSimpArgs false

/- Small plain facts: numbers, and the laws' own helpers over lists of numbers. -/
namespace Go.Proofs.Yteolobihfindjaa
open Go

theorem w64_id {n : Int} (h1 : -9223372036854775808 ≤ n) (h2 : n ≤ 9223372036854775807) : w64 n = n := by
  unfold w64; rw [IntKind.wrap_i64]; omega
theorem room_of {b n : Nat} (hb : b ≤ 4096) (hn : n ≤ 34359738368) : room b n := by
  have : n * b ≤ 34359738368 * 4096 := Nat.mul_le_mul hn hb
  exact ⟨by omega, by omega⟩
theorem gO_t {α : Type} {c : Prop} [Decidable c] {k : Option α} (h : c) : gO c k = k := by simp [gO, h]
theorem drop_cons {α : Type} {L t : List α} {x : α} {i : Nat} (h : x :: t = L.drop i) : t = L.drop (i + 1) ∧ L[i]? = some x ∧ i < L.length := by
  have h1 := dnext h
  have h2 := ix_get (dget h)
  exact ⟨h1, by simpa using h2, dlt h⟩
theorem ix_nat {α : Type} (l : List α) (i : Nat) : ix l (i : Int) = l[i]? := by simp [ix]
theorem ix_lt {α : Type} {l : List α} {i : Int} (h0 : 0 ≤ i) (h1 : i < l.length) : ∃ x, ix l i = some x := by
  unfold ix
  rw [if_pos h0]
  exact ⟨l[i.toNat]'(by omega), by simp⟩
theorem w64_pred {i : Nat} (h0 : 0 < i) (h1 : i ≤ maxLen) : w64 ((i : Int) - 1) = ((i - 1 : Nat) : Int) := by
  have h2 : i ≤ 9223372036854775807 := h1
  rw [w64_id (by omega) (by omega)]; omega

theorem beq_dec {α : Type} [DecidableEq α] (x y : α) : (x == y) = decide (x = y) := by by_cases h : x = y <;> simp [h]
theorem bne_dec {α : Type} [DecidableEq α] (x y : α) : (x != y) = !decide (x = y) := by unfold bne; rw [beq_dec]
theorem beq_int (x y : Int) : (x == y) = decide (x = y) := beq_dec x y
theorem bne_int (x y : Int) : (x != y) = !decide (x = y) := bne_dec x y
theorem and_dec (p q : Prop) [Decidable p] [Decidable q] : (decide p && decide q) = decide (p ∧ q) := by simp
theorem or_dec (p q : Prop) [Decidable p] [Decidable q] : (decide p || decide q) = decide (p ∨ q) := by simp
theorem not_dec (p : Prop) [Decidable p] : (!decide p) = decide (¬ p) := by simp
theorem bind_id {α : Type} (x : Option α) : (x.bind fun v => some v) = x := by cases x <;> rfl

end Go.Proofs.Yteolobihfindjaa

/- Ranges. -/
namespace Go.Proofs.Yteolobihfindjaa
open Go

theorem impl_in_eq (n lo hi : Int) : impl_in n lo hi = some (decide (lo ≤ n ∧ n ≤ hi)) := by
  unfold impl_in
  by_cases h : n ≥ lo
  · simp [h]
  · have : ¬ lo ≤ n := h
    simp [h, this]

end Go.Proofs.Yteolobihfindjaa

/- Ranges: the reference's are the program's. -/
namespace Go.Proofs.Yteolobihfindjaa
open Go

theorem spec_in_impl : spec_l01In = impl_in := rfl
theorem spec_in_eq (n lo hi : Int) : spec_l01In n lo hi = some (decide (lo ≤ n ∧ n ≤ hi)) := by rw [spec_in_impl, impl_in_eq]

end Go.Proofs.Yteolobihfindjaa

/- Messages: what is valid; the program and the reference agree. -/
namespace Go.Proofs.Yteolobihfindjaa
open Go

def MsgP (m : SMsg) : Prop := 0 ≤ m.fAcct ∧ m.fAcct ≤ 2 ∧ 0 ≤ m.fSrc ∧ m.fSrc ≤ 2 ∧ (m.fSrc = 0 ∨ m.fKind = 2) ∧
  ((m.fKind = 1 ∨ m.fKind = 2 ∨ m.fKind = 3) ∧ 1 ≤ m.fAmt ∧ m.fAmt ≤ 1000000000 ∨ m.fKind = 4 ∧ 0 ≤ m.fAmt ∧ m.fAmt ≤ 3 ∨ m.fKind = 5 ∧ 0 ≤ m.fAmt ∧ m.fAmt ≤ 1125899906842624)
instance (m : SMsg) : Decidable (MsgP m) := by unfold MsgP; infer_instance
theorem impl_MsgOk_eq (m : SMsg) : impl_MsgOk m = some (decide (MsgP m)) := by
  unfold impl_MsgOk impl_MsgOk_j1 impl_MsgOk_j2 impl_IsAmt impl_isNum
  simp only [impl_in_eq, Option.bind_some, beq_int, bne_int]
  simp only [Bool.cond_not, Bool.cond_decide]
  repeat' split
  all_goals first | (simp only [Option.some.injEq, decide_eq_decide]; unfold MsgP; omega) | (refine congrArg some (Eq.symm (decide_eq_false ?_)); unfold MsgP; omega)
theorem spec_MsgOk_eq (m : SMsg) : spec_MsgOk m = some (decide (MsgP m)) := by
  unfold spec_MsgOk spec_MsgOk_j1 spec_MsgOk_j2 spec_IsAmt spec_l01Num
  simp only [spec_in_eq, Option.bind_some, beq_int, bne_int]
  simp only [Bool.cond_not, Bool.cond_decide]
  repeat' split
  all_goals first | (simp only [Option.some.injEq, decide_eq_decide]; unfold MsgP; omega) | (refine congrArg some (Eq.symm (decide_eq_false ?_)); unfold MsgP; omega)

end Go.Proofs.Yteolobihfindjaa

/- Packets: what is valid; the program and the reference agree. -/
namespace Go.Proofs.Yteolobihfindjaa
open Go

def PkP (p : SPacket) : Prop := 0 ≤ p.fFrom ∧ p.fFrom ≤ 3 ∧ 0 ≤ p.fTo ∧ p.fTo ≤ 3 ∧ 0 ≤ p.fA ∧ p.fA ≤ 1125899906842624 ∧ 0 ≤ p.fB ∧ p.fB ≤ 1125899906842624 ∧ 0 ≤ p.fAcct ∧ p.fAcct ≤ 2 ∧ (p.fA = 0 → p.fKind = 2) ∧
  (p.fKind = 1 ∧ p.fAcct = 0 ∧ p.fB = 0 ∧ p.fC = 0 ∧ MsgP p.fM ∧ p.fFrom ≠ p.fTo ∨
   p.fKind = 2 ∧ p.fAcct = 0 ∧ p.fB = 0 ∧ p.fC = 0 ∧ p.fFrom ≠ p.fTo ∧ p.fM.fKind = 0 ∧ p.fM.fAcct = 0 ∧ p.fM.fAmt = 0 ∧ p.fM.fSrc = 0 ∨
   p.fKind = 4 ∧ (1 ≤ p.fB ∧ p.fB ≤ p.fA - 1 ∧ 1 ≤ p.fC ∧ p.fC ≤ 4 ∨ p.fB = 0 ∧ p.fC = 0) ∧ p.fM.fKind = 0 ∧ p.fM.fAcct = 0 ∧ p.fM.fAmt = 0 ∧ p.fM.fSrc = 0 ∨
   p.fKind = 5 ∧ 1 ≤ p.fB ∧ p.fB ≤ 4 ∧ p.fC = 0 ∧ p.fM.fKind = 0 ∧ p.fM.fAcct = 0 ∧ p.fM.fAmt = 0 ∧ p.fM.fSrc = 0 ∨
   (p.fKind = 3 ∨ p.fKind = 6) ∧ p.fB = 0 ∧ p.fC = 0 ∧ p.fM.fKind = 0 ∧ p.fM.fAcct = 0 ∧ p.fM.fAmt = 0 ∧ p.fM.fSrc = 0)
instance (p : SPacket) : Decidable (PkP p) := by unfold PkP; infer_instance
theorem ite_l {α : Type} {c : Prop} [Decidable c] {x y r : α} (h1 : c → x = r) (h2 : ¬ c → y = r) : (if c then x else y) = r := by
  split
  · exact h1 (by assumption)
  · exact h2 (by assumption)
set_option maxHeartbeats 4000000 in
theorem spec_PacketOk_eq (p : SPacket) : spec_PacketOk p = some (decide (PkP p)) := by
  unfold spec_PacketOk spec_PacketOk_j1 spec_PacketOk_j2 spec_PacketOk_j3 spec_PacketOk_j4 spec_l07Node spec_l07Val spec_l01Num
  rcases (show p.fKind = 1 ∨ p.fKind = 2 ∨ p.fKind = 3 ∨ p.fKind = 4 ∨ p.fKind = 5 ∨ p.fKind = 6 ∨ (¬ (1 ≤ p.fKind ∧ p.fKind ≤ 6) ∧ p.fKind ≠ 1 ∧ p.fKind ≠ 2 ∧ p.fKind ≠ 3 ∧ p.fKind ≠ 4 ∧ p.fKind ≠ 5 ∧ p.fKind ≠ 6) by omega) with k | k | k | k | k | k | k <;> by_cases hm : MsgP p.fM
  all_goals
    simp only [k, hm, bind_id, Bool.true_and, Bool.and_false, Bool.false_and, not_dec, spec_in_eq, spec_MsgOk_eq, Option.bind_some, beq_int, bne_int, Bool.cond_not, Bool.cond_decide, and_dec, Bool.and_true, _root_.cond_true, _root_.cond_false, Int.reduceEq, Int.reduceLE, if_true, if_false, and_self, not_true, not_false_eq_true, decide_true, decide_false]
    repeat' (refine ite_l (fun _ => ?_) (fun _ => ?_))
  all_goals first | (simp only [Option.some.injEq, decide_eq_decide]; unfold PkP; simp only [hm, true_and, false_and, and_false, and_true, or_false, false_or, not_false_eq_true]; first | done | omega) | (refine congrArg some (Eq.symm (decide_eq_true (p := PkP p) ?_)); unfold PkP; simp only [hm, true_and, false_and, and_false, and_true, or_false, false_or, not_false_eq_true]; first | done | omega) | (refine congrArg some (Eq.symm (decide_eq_false (p := PkP p) ?_)); unfold PkP; simp only [hm, true_and, false_and, and_false, and_true, or_false, false_or, not_false_eq_true]; first | done | omega)
set_option maxHeartbeats 4000000 in
theorem impl_PacketOk_eq (p : SPacket) : impl_PacketOk p = some (decide (PkP p)) := by
  unfold impl_PacketOk impl_PacketOk_j1 impl_packetFits impl_packetFits_j1 impl_isNode impl_isNum impl_isChoice
  have hw : 0 ≤ p.fA → p.fA ≤ 1125899906842624 → w64 (p.fA - 1) = p.fA - 1 := fun h1 h2 => w64_id (by omega) (by omega)
  rcases (show p.fKind = 1 ∨ p.fKind = 2 ∨ p.fKind = 3 ∨ p.fKind = 4 ∨ p.fKind = 5 ∨ p.fKind = 6 ∨ (¬ (1 ≤ p.fKind ∧ p.fKind ≤ 6) ∧ p.fKind ≠ 1 ∧ p.fKind ≠ 2 ∧ p.fKind ≠ 3 ∧ p.fKind ≠ 4 ∧ p.fKind ≠ 5 ∧ p.fKind ≠ 6) by omega) with k | k | k | k | k | k | k <;> by_cases hm : MsgP p.fM
  all_goals
    simp only [k, hm, bind_id, Bool.true_and, Bool.and_false, Bool.false_and, not_dec, impl_in_eq, impl_MsgOk_eq, Option.bind_some, beq_int, bne_int, Bool.cond_not, Bool.cond_decide, and_dec, Bool.and_true, true_and, _root_.cond_true, _root_.cond_false, Int.reduceEq, Int.reduceLE, if_true, if_false, and_self, not_true, not_false_eq_true, decide_true, decide_false]
    repeat' (refine ite_l (fun _ => ?_) (fun _ => ?_))
  all_goals first | (simp only [Option.some.injEq, decide_eq_decide]; unfold PkP; simp only [hm, true_and, false_and, and_false, and_true, or_false, false_or, not_false_eq_true]; first | done | omega) | (refine congrArg some (Eq.symm (decide_eq_true (p := PkP p) ?_)); unfold PkP; simp only [hm, true_and, false_and, and_false, and_true, or_false, false_or, not_false_eq_true]; first | done | omega) | (refine congrArg some (Eq.symm (decide_eq_false (p := PkP p) ?_)); unfold PkP; simp only [hm, true_and, false_and, and_false, and_true, or_false, false_or, not_false_eq_true]; first | done | omega)

end Go.Proofs.Yteolobihfindjaa

/- Loops over lists, in general. -/
namespace Go.Proofs.Yteolobihfindjaa
open Go

theorem eqL_gen {α : Type} [DecidableEq α] {f : List α → Nat → Option Bool} {b : List α} (hn : ∀ i, f [] i = some true)
    (hc : ∀ x t (i : Nat), f (x :: t) i = (ix b (i : Int)).bind fun y => bif decide (x = y) then f t (i + 1) else some false) :
    ∀ (t L : List α) (i : Nat), t = L.drop i → b.length = L.length → i ≤ L.length → f t i = some (decide (t = b.drop i))
  | [], L, i, hd, hl, hi => by
    have := List.drop_eq_nil_iff.1 hd.symm
    rw [hn, List.drop_eq_nil_of_le (by omega)]; simp
  | x :: t, L, i, hd, hl, hi => by
    obtain ⟨h1, h2, h3⟩ := drop_cons hd
    have hlt : i < b.length := by omega
    rw [hc, ix_nat]
    have hy : b[i]? = some b[i] := by simp [hlt]
    rw [hy, Option.bind_some, List.drop_eq_getElem_cons hlt]
    by_cases hx : x = b[i]
    · simp only [hx, decide_true, cond_true]
      rw [eqL_gen hn hc t L (i + 1) h1 hl (by omega)]
      simp only [List.cons.injEq, true_and]
    · simp only [hx, decide_false, cond_false, List.cons.injEq, false_and]
theorem eqS_gen {α : Type} [DecidableEq α] {f : List α → Nat → Option Bool} {a b : List α} (hn : ∀ i, f [] i = some true)
    (hc : ∀ x t (i : Nat), f (x :: t) i = (ix b (i : Int)).bind fun y => bif decide (x = y) then f t (i + 1) else some false) :
    (bif ((a.length : Int) != (b.length : Int)) then some false else f a 0) = some (decide (a = b)) := by
  by_cases h : a.length = b.length
  · have hb : ((a.length : Int) != (b.length : Int)) = false := by simp [h]
    rw [hb, cond_false, eqL_gen hn hc a a 0 rfl h.symm (by omega)]; simp
  · have hb : ((a.length : Int) != (b.length : Int)) = true := by simp; omega
    rw [hb, cond_true]
    have : a ≠ b := fun he => h (by rw [he])
    simp [this]
theorem toL_gen {α : Type} {f : List α → Nat → List α → Option (List α)} {q : α → Prop} (hn : ∀ i y, f [] i y = some y)
    (hc : ∀ x t (i : Nat) y, q x → f (x :: t) i y = (ix y (i : Int)).bind fun _ => f t (i + 1) (List.set y (Int.toNat (i : Int)) x)) :
    ∀ (t L : List α) (i : Nat) (y : List α), t = L.drop i → y.length = L.length → y.take i = L.take i → i ≤ L.length → (∀ x ∈ t, q x) → f t i y = some L
  | [], L, i, y, hd, hl, ht, hi, hq => by
    have := List.drop_eq_nil_iff.1 hd.symm
    rw [hn]
    rw [List.take_of_length_le (by omega), List.take_of_length_le (by omega)] at ht
    rw [ht]
  | x :: t, L, i, y, hd, hl, ht, hi, hq => by
    obtain ⟨h1, h2, h3⟩ := drop_cons hd
    rw [hc x t i y (hq x (by simp)), ix_nat]
    have hy : y[i]? = some (y[i]'(by omega)) := by simp [show i < y.length by omega]
    rw [hy, Option.bind_some]
    refine toL_gen hn hc t L (i + 1) _ h1 (by simp [hl]) ?_ (by omega) (fun x hx => hq x (by simp [hx]))
    rw [List.take_add_one, List.take_add_one, List.take_set_of_le (by simp), ht]
    simp [show i < y.length by omega, h2]
theorem toS_gen {α : Type} {f : List α → Nat → List α → Option (List α)} {q : α → Prop} {b : Nat} {z : α} {l : List α} (hb : b ≤ 4096) (h : l.length ≤ 1048576) (hq : ∀ x ∈ l, q x) (hn : ∀ i y, f [] i y = some y)
    (hc : ∀ x t (i : Nat) y, q x → f (x :: t) i y = (ix y (i : Int)).bind fun _ => f t (i + 1) (List.set y (Int.toNat (i : Int)) x)) :
    gO (0 ≤ (l.length : Int) ∧ room b (Int.toNat (l.length : Int))) (f l 0 (List.replicate (Int.toNat (l.length : Int)) z)) = some l := by
  rw [gO_t ⟨by omega, room_of hb (by simp; omega)⟩]
  exact toL_gen hn hc l l 0 _ rfl (by simp) (by simp) (by omega) hq
/-- A budget that is lessened by a length. -/
theorem szL_gen {n : Nat} {k : Int} (hl : n ≤ maxLen) (hk0 : -1 ≤ k) (hk : k ≤ 1048576) :
    ∃ v, (bif (decide ((w64 (k - (n : Int))) < 0)) then some (-1) else some (w64 (k - (n : Int)))) = some v ∧ -1 ≤ v ∧ v ≤ k ∧ (0 ≤ v → 0 ≤ k → n ≤ 1048576) := by
  have h3 : (maxLen : Int) = 9223372036854775807 ∨ maxLen ≤ 140737488355328 := by decide
  have h2 : n ≤ 9223372036854775807 := hl
  have hw : w64 (k - (n : Int)) = k - n := w64_id (by rcases h3 with h3 | h3 <;> omega) (by omega)
  rw [hw]
  by_cases h : k - (n : Int) < 0
  · simp only [h, decide_true, cond_true]; exact ⟨_, rfl, by omega, by omega, by omega⟩
  · simp only [h, decide_false, cond_false]; exact ⟨_, rfl, by omega, by omega, by omega⟩

end Go.Proofs.Yteolobihfindjaa

/- The laws' own helpers over Msg. -/
namespace Go.Proofs.Yteolobihfindjaa
open Go

theorem toMsg_eq (a : SMsg) : laws_toMsg a = some a := rfl

end Go.Proofs.Yteolobihfindjaa

/- The laws' own helpers over Packet. -/
namespace Go.Proofs.Yteolobihfindjaa
open Go

theorem toPacket_eq (a : SPacket) : laws_toPacket a = some a := by unfold laws_toPacket; simp only [toMsg_eq, Option.bind_some]

end Go.Proofs.Yteolobihfindjaa

/- The law FnExactPacketOk answers true. -/
namespace Go.Proofs.Yteolobihfindjaa
open Go

theorem pure_FnExactPacketOk (p : SPacket) (h : wfPacket p) : laws_FnExactPacketOk p = some true := by
  unfold laws_FnExactPacketOk
  simp only [toPacket_eq, Option.bind_some, spec_PacketOk_eq, impl_PacketOk_eq]
  simp

end Go.Proofs.Yteolobihfindjaa

