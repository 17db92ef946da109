/- The plain law FnExactRecBytes and what it needs: no program in sight. -/
import Derived.Test.YtncjcbdbdocjaaaUFnExactRecBytes
set_option linter.unusedVariables false
set_option linter.unusedSimpArgs false

/- Small plain facts: numbers, and the laws' own helpers over lists of numbers. -/
namespace Go.Proofs.Ytncjcbdbdocjaaa
open Go

theorem w64_id {n : Int} (h1 : -9223372036854775808 ≤ n) (h2 : n ≤ 9223372036854775807) : w64 n = n := by
  unfold w64; rw [IntKind.wrap_i64]; omega
theorem room_of {b n : Nat} (hb : b ≤ 4096) (hn : n ≤ 34359738368) : room b n := by
  have : n * b ≤ 34359738368 * 4096 := Nat.mul_le_mul hn hb
  exact ⟨by omega, by omega⟩
theorem gO_t {α : Type} {c : Prop} [Decidable c] {k : Option α} (h : c) : gO c k = k := by simp [gO, h]
theorem drop_cons {α : Type} {L t : List α} {x : α} {i : Nat} (h : x :: t = L.drop i) : t = L.drop (i + 1) ∧ L[i]? = some x ∧ i < L.length := by
  have h1 := dnext h
  have h2 := ix_get (dget h)
  exact ⟨h1, by simpa using h2, dlt h⟩
theorem ix_nat {α : Type} (l : List α) (i : Nat) : ix l (i : Int) = l[i]? := by simp [ix]
theorem ix_lt {α : Type} {l : List α} {i : Int} (h0 : 0 ≤ i) (h1 : i < l.length) : ∃ x, ix l i = some x := by
  unfold ix
  rw [if_pos h0]
  exact ⟨l[i.toNat]'(by omega), by simp⟩
theorem w64_pred {i : Nat} (h0 : 0 < i) (h1 : i ≤ maxLen) : w64 ((i : Int) - 1) = ((i - 1 : Nat) : Int) := by
  have h2 : i ≤ 9223372036854775807 := h1
  rw [w64_id (by omega) (by omega)]; omega

theorem beq_dec {α : Type} [DecidableEq α] (x y : α) : (x == y) = decide (x = y) := by by_cases h : x = y <;> simp [h]
theorem bne_dec {α : Type} [DecidableEq α] (x y : α) : (x != y) = !decide (x = y) := by unfold bne; rw [beq_dec]
theorem beq_int (x y : Int) : (x == y) = decide (x = y) := beq_dec x y
theorem bne_int (x y : Int) : (x != y) = !decide (x = y) := bne_dec x y
theorem and_dec (p q : Prop) [Decidable p] [Decidable q] : (decide p && decide q) = decide (p ∧ q) := by simp
theorem or_dec (p q : Prop) [Decidable p] [Decidable q] : (decide p || decide q) = decide (p ∨ q) := by simp
theorem not_dec (p : Prop) [Decidable p] : (!decide p) = decide (¬ p) := by simp
theorem bind_id {α : Type} (x : Option α) : (x.bind fun v => some v) = x := by cases x <;> rfl

end Go.Proofs.Ytncjcbdbdocjaaa

/- Ranges. -/
namespace Go.Proofs.Ytncjcbdbdocjaaa
open Go

theorem impl_in_eq (n lo hi : Int) : impl_in n lo hi = some (decide (lo ≤ n ∧ n ≤ hi)) := by
  unfold impl_in
  by_cases h : n ≥ lo
  · simp [h]
  · have : ¬ lo ≤ n := h
    simp [h, this]

end Go.Proofs.Ytncjcbdbdocjaaa

/- Ranges: the reference's are the program's. -/
namespace Go.Proofs.Ytncjcbdbdocjaaa
open Go

theorem spec_in_impl : spec_l01In = impl_in := rfl
theorem spec_in_eq (n lo hi : Int) : spec_l01In n lo hi = some (decide (lo ≤ n ∧ n ≤ hi)) := by rw [spec_in_impl, impl_in_eq]

end Go.Proofs.Ytncjcbdbdocjaaa

/- Numbers written out: the reference and the program write the same bytes. -/
namespace Go.Proofs.Ytncjcbdbdocjaaa
open Go

theorem put_same : ∀ (f : Nat) (n : Int) (y : List Int), spec_PutNum_l1 f n y = (impl_addNum_l1 f n y).bind fun r => some (r, true)
  | 0, n, y => by rw [spec_PutNum_l1, impl_addNum_l1]; rfl
  | f + 1, n, y => by
    rw [spec_PutNum_l1, impl_addNum_l1, Int.add_comm 128 (Int.tmod n 128)]
    cases decide (n > 127) with
    | true =>
      rw [cond_true, cond_true, put_same f]
      unfold gO; split <;> rfl
    | false =>
      rw [cond_false, cond_false]
      unfold gO; split <;> rfl
theorem put_some : ∀ (d : Nat) (f : Nat) (n : Int) (y : List Int), 0 ≤ n → n < 128 ^ (d + 1) → d < f → y.length + d ≤ 34359738360 → n ≤ 1125899906842624 → ∃ r, impl_addNum_l1 f n y = some r ∧ r.length ≤ y.length + (d + 1)
  | d, 0, n, y, h0, h1, hf, hy, hn => by omega
  | 0, f + 1, n, y, h0, h1, hf, hy, hn => by
    rw [impl_addNum_l1, decide_eq_false (show ¬ n > 127 by simp at h1; omega), cond_false, gO_t (room_of (by omega) (by simp; omega))]
    exact ⟨_, rfl, by simp⟩
  | d + 1, f + 1, n, y, h0, h1, hf, hy, hn => by
    rw [impl_addNum_l1]
    by_cases hb : n > 127
    · have e : Int.tdiv n 128 = n / 128 := Int.tdiv_eq_ediv_of_nonneg h0
      have hp : (128 : Int) ^ (d + 1 + 1) = 128 ^ (d + 1) * 128 := Int.pow_succ ..
      rw [decide_eq_true hb, cond_true, gO_t (room_of (by omega) (by simp; omega)), e, w64_id (n := n / 128) (by omega) (by omega)]
      obtain ⟨r, hr, hl⟩ := put_some d f (n / 128) (y ++ [wk .u8 (w64 (Int.tmod n 128 + 128))]) (by omega) (by rw [hp] at h1; omega) (by omega) (by simp; omega) (by omega)
      exact ⟨r, hr, by simp at hl; omega⟩
    · rw [decide_eq_false hb, cond_false, gO_t (room_of (by omega) (by simp; omega))]
      exact ⟨_, rfl, by simp⟩
theorem addNum_ok {y : List Int} {n : Int} (h0 : 0 ≤ n) (h1 : n ≤ 1125899906842624) (hy : y.length ≤ 34359738300) : ∃ r, impl_addNum y n = some r ∧ r.length ≤ y.length + 8 :=
  put_some 7 fuel n y h0 (by omega) (by unfold fuel; omega) (by omega) h1
theorem l01Put_eq {y : List Int} {n : Int} (h0 : 0 ≤ n) (h1 : n ≤ 1125899906842624) (hy : y.length ≤ 34359738300) : spec_l01Put y n = impl_addNum y n := by
  obtain ⟨r, hr, -⟩ := addNum_ok h0 h1 hy
  unfold spec_l01Put spec_PutNum spec_l01Num
  rw [spec_in_eq, Option.bind_some, Option.bind_some, decide_eq_true ⟨h0, h1⟩, Bool.not_true, cond_false, gO_t (room_of (by omega) (by simp; omega)), put_same]
  unfold impl_addNum at hr ⊢
  rw [hr]; rfl

end Go.Proofs.Ytncjcbdbdocjaaa

/- Messages: what is valid; the program and the reference agree. -/
namespace Go.Proofs.Ytncjcbdbdocjaaa
open Go

def MsgP (m : SMsg) : Prop := 0 ≤ m.fAcct ∧ m.fAcct ≤ 2 ∧ 0 ≤ m.fSrc ∧ m.fSrc ≤ 2 ∧ (m.fSrc = 0 ∨ m.fKind = 2) ∧
  ((m.fKind = 1 ∨ m.fKind = 2 ∨ m.fKind = 3) ∧ 1 ≤ m.fAmt ∧ m.fAmt ≤ 1000000000 ∨ m.fKind = 4 ∧ 0 ≤ m.fAmt ∧ m.fAmt ≤ 3 ∨ m.fKind = 5 ∧ 0 ≤ m.fAmt ∧ m.fAmt ≤ 1125899906842624)
instance (m : SMsg) : Decidable (MsgP m) := by unfold MsgP; infer_instance
theorem impl_MsgOk_eq (m : SMsg) : impl_MsgOk m = some (decide (MsgP m)) := by
  unfold impl_MsgOk impl_MsgOk_j1 impl_MsgOk_j2 impl_IsAmt impl_isNum
  simp only [impl_in_eq, Option.bind_some, beq_int, bne_int]
  simp only [Bool.cond_not, Bool.cond_decide]
  repeat' split
  all_goals first | (simp only [Option.some.injEq, decide_eq_decide]; unfold MsgP; omega) | (refine congrArg some (Eq.symm (decide_eq_false ?_)); unfold MsgP; omega)
theorem spec_MsgOk_eq (m : SMsg) : spec_MsgOk m = some (decide (MsgP m)) := by
  unfold spec_MsgOk spec_MsgOk_j1 spec_MsgOk_j2 spec_IsAmt spec_l01Num
  simp only [spec_in_eq, Option.bind_some, beq_int, bne_int]
  simp only [Bool.cond_not, Bool.cond_decide]
  repeat' split
  all_goals first | (simp only [Option.some.injEq, decide_eq_decide]; unfold MsgP; omega) | (refine congrArg some (Eq.symm (decide_eq_false ?_)); unfold MsgP; omega)

end Go.Proofs.Ytncjcbdbdocjaaa

/- Records: what is valid; the program and the reference agree. -/
namespace Go.Proofs.Ytncjcbdbdocjaaa
open Go

def MZ (m : SMsg) : Prop := m.fKind = 0 ∧ m.fAcct = 0 ∧ m.fAmt = 0 ∧ m.fSrc = 0
instance (m : SMsg) : Decidable (MZ m) := by unfold MZ; infer_instance
def RecP (r : SRec) : Prop := 0 ≤ r.fAcct ∧ r.fAcct ≤ 2 ∧ 0 ≤ r.fOther ∧ r.fOther ≤ 2 ∧ 0 ≤ r.fTo ∧ r.fTo ≤ 3 ∧
  ((r.fKind = 1 ∨ r.fKind = 2) ∧ r.fOther = 0 ∧ r.fTo = 0 ∧ 1 ≤ r.fAmt ∧ r.fAmt ≤ 1000000000 ∧ MZ r.fM ∨
   r.fKind = 3 ∧ r.fOther = 0 ∧ 1 ≤ r.fAmt ∧ r.fAmt ≤ 1000000000 ∧ MZ r.fM ∨
   r.fKind = 4 ∧ 1 ≤ r.fAmt ∧ r.fAmt ≤ 1000000000 ∧ MZ r.fM ∨
   r.fKind = 5 ∧ r.fAcct = 0 ∧ r.fOther = 0 ∧ 1 ≤ r.fAmt ∧ r.fAmt ≤ 1125899906842624 ∧ MsgP r.fM ∨
   r.fKind = 6 ∧ r.fAcct = 0 ∧ r.fOther = 0 ∧ 0 ≤ r.fAmt ∧ r.fAmt ≤ 1125899906842624 ∧ MZ r.fM ∨
   r.fKind = 7 ∧ r.fOther = 0 ∧ r.fTo = 0 ∧ 1 ≤ r.fAmt ∧ r.fAmt ≤ 1125899906842624 ∧ MZ r.fM ∨
   r.fKind = 8 ∧ r.fOther = 0 ∧ 1 ≤ r.fAmt ∧ r.fAmt ≤ 1125899906842624 ∧ MZ r.fM ∨
   r.fKind = 9 ∧ r.fOther = 0 ∧ r.fAmt = 0 ∧ MZ r.fM)
instance (r : SRec) : Decidable (RecP r) := by unfold RecP; infer_instance
theorem ite_l {α : Type} {c : Prop} [Decidable c] {x y r : α} (h1 : c → x = r) (h2 : ¬ c → y = r) : (if c then x else y) = r := by
  split
  · exact h1 (by assumption)
  · exact h2 (by assumption)
theorem spec_RecOk_1 (a o t n : Int) (m : SMsg) : spec_RecOk ⟨1, a, o, t, n, m⟩ = some (decide (RecP ⟨1, a, o, t, n, m⟩)) := by
  have h10 : spec_l10Has 1 = some (true, false, false, true) := by decide
  by_cases hm : MsgP m
  all_goals
    simp only [spec_RecOk, spec_l07Node, h10, hm, bind_id, Bool.true_and, Bool.and_false, Bool.false_and, not_dec, spec_in_eq, spec_MsgOk_eq, Option.bind_some, beq_int, bne_int, Bool.cond_not, Bool.cond_decide, and_dec, Bool.and_true, Bool.not_true, Bool.not_false, _root_.cond_true, _root_.cond_false, Int.reduceEq, Int.reduceLE, Int.reduceLT, Int.reduceGT, gt_iff_lt, if_true, if_false, and_self, not_true, not_false_eq_true, decide_true, decide_false, true_and, and_true]
    try simp only [spec_RecOk_j1, spec_IsAmt, spec_l01Num, hm, bind_id, Bool.true_and, Bool.and_false, Bool.false_and, not_dec, spec_in_eq, spec_MsgOk_eq, Option.bind_some, beq_int, bne_int, Bool.cond_not, Bool.cond_decide, and_dec, Bool.and_true, Bool.not_true, Bool.not_false, _root_.cond_true, _root_.cond_false, Int.reduceEq, Int.reduceLE, Int.reduceLT, Int.reduceGT, gt_iff_lt, if_true, if_false, and_self, not_true, not_false_eq_true, decide_true, decide_false, true_and, and_true]
    try simp only [spec_RecOk_j2, hm, bind_id, Bool.true_and, Bool.and_false, Bool.false_and, not_dec, spec_in_eq, spec_MsgOk_eq, Option.bind_some, beq_int, bne_int, Bool.cond_not, Bool.cond_decide, and_dec, Bool.and_true, Bool.not_true, Bool.not_false, _root_.cond_true, _root_.cond_false, Int.reduceEq, Int.reduceLE, Int.reduceLT, Int.reduceGT, gt_iff_lt, if_true, if_false, and_self, not_true, not_false_eq_true, decide_true, decide_false, true_and, and_true]
    try simp only [spec_RecOk_j3, hm, bind_id, Bool.true_and, Bool.and_false, Bool.false_and, not_dec, spec_in_eq, spec_MsgOk_eq, Option.bind_some, beq_int, bne_int, Bool.cond_not, Bool.cond_decide, and_dec, Bool.and_true, Bool.not_true, Bool.not_false, _root_.cond_true, _root_.cond_false, Int.reduceEq, Int.reduceLE, Int.reduceLT, Int.reduceGT, gt_iff_lt, if_true, if_false, and_self, not_true, not_false_eq_true, decide_true, decide_false, true_and, and_true]
    repeat' (refine ite_l (fun _ => ?_) (fun _ => ?_))
  all_goals first | (simp only [Option.some.injEq, decide_eq_decide]; unfold RecP MZ; simp only [hm, Int.reduceEq, Int.reduceNeg, true_and, false_and, and_false, and_true, or_false, false_or, not_false_eq_true]; first | done | omega) | (refine congrArg some (Eq.symm (decide_eq_true (p := RecP _) ?_)); unfold RecP MZ; simp only [hm, Int.reduceEq, true_and, false_and, and_false, and_true, or_false, false_or, not_false_eq_true]; first | done | omega) | (refine congrArg some (Eq.symm (decide_eq_false (p := RecP _) ?_)); unfold RecP MZ; simp only [hm, Int.reduceEq, true_and, false_and, and_false, and_true, or_false, false_or, not_false_eq_true]; first | done | omega)
theorem spec_RecOk_2 (a o t n : Int) (m : SMsg) : spec_RecOk ⟨2, a, o, t, n, m⟩ = some (decide (RecP ⟨2, a, o, t, n, m⟩)) := by
  have h10 : spec_l10Has 2 = some (true, false, false, true) := by decide
  by_cases hm : MsgP m
  all_goals
    simp only [spec_RecOk, spec_l07Node, h10, hm, bind_id, Bool.true_and, Bool.and_false, Bool.false_and, not_dec, spec_in_eq, spec_MsgOk_eq, Option.bind_some, beq_int, bne_int, Bool.cond_not, Bool.cond_decide, and_dec, Bool.and_true, Bool.not_true, Bool.not_false, _root_.cond_true, _root_.cond_false, Int.reduceEq, Int.reduceLE, Int.reduceLT, Int.reduceGT, gt_iff_lt, if_true, if_false, and_self, not_true, not_false_eq_true, decide_true, decide_false, true_and, and_true]
    try simp only [spec_RecOk_j1, spec_IsAmt, spec_l01Num, hm, bind_id, Bool.true_and, Bool.and_false, Bool.false_and, not_dec, spec_in_eq, spec_MsgOk_eq, Option.bind_some, beq_int, bne_int, Bool.cond_not, Bool.cond_decide, and_dec, Bool.and_true, Bool.not_true, Bool.not_false, _root_.cond_true, _root_.cond_false, Int.reduceEq, Int.reduceLE, Int.reduceLT, Int.reduceGT, gt_iff_lt, if_true, if_false, and_self, not_true, not_false_eq_true, decide_true, decide_false, true_and, and_true]
    try simp only [spec_RecOk_j2, hm, bind_id, Bool.true_and, Bool.and_false, Bool.false_and, not_dec, spec_in_eq, spec_MsgOk_eq, Option.bind_some, beq_int, bne_int, Bool.cond_not, Bool.cond_decide, and_dec, Bool.and_true, Bool.not_true, Bool.not_false, _root_.cond_true, _root_.cond_false, Int.reduceEq, Int.reduceLE, Int.reduceLT, Int.reduceGT, gt_iff_lt, if_true, if_false, and_self, not_true, not_false_eq_true, decide_true, decide_false, true_and, and_true]
    try simp only [spec_RecOk_j3, hm, bind_id, Bool.true_and, Bool.and_false, Bool.false_and, not_dec, spec_in_eq, spec_MsgOk_eq, Option.bind_some, beq_int, bne_int, Bool.cond_not, Bool.cond_decide, and_dec, Bool.and_true, Bool.not_true, Bool.not_false, _root_.cond_true, _root_.cond_false, Int.reduceEq, Int.reduceLE, Int.reduceLT, Int.reduceGT, gt_iff_lt, if_true, if_false, and_self, not_true, not_false_eq_true, decide_true, decide_false, true_and, and_true]
    repeat' (refine ite_l (fun _ => ?_) (fun _ => ?_))
  all_goals first | (simp only [Option.some.injEq, decide_eq_decide]; unfold RecP MZ; simp only [hm, Int.reduceEq, Int.reduceNeg, true_and, false_and, and_false, and_true, or_false, false_or, not_false_eq_true]; first | done | omega) | (refine congrArg some (Eq.symm (decide_eq_true (p := RecP _) ?_)); unfold RecP MZ; simp only [hm, Int.reduceEq, true_and, false_and, and_false, and_true, or_false, false_or, not_false_eq_true]; first | done | omega) | (refine congrArg some (Eq.symm (decide_eq_false (p := RecP _) ?_)); unfold RecP MZ; simp only [hm, Int.reduceEq, true_and, false_and, and_false, and_true, or_false, false_or, not_false_eq_true]; first | done | omega)
theorem spec_RecOk_3 (a o t n : Int) (m : SMsg) : spec_RecOk ⟨3, a, o, t, n, m⟩ = some (decide (RecP ⟨3, a, o, t, n, m⟩)) := by
  have h10 : spec_l10Has 3 = some (true, false, true, true) := by decide
  by_cases hm : MsgP m
  all_goals
    simp only [spec_RecOk, spec_l07Node, h10, hm, bind_id, Bool.true_and, Bool.and_false, Bool.false_and, not_dec, spec_in_eq, spec_MsgOk_eq, Option.bind_some, beq_int, bne_int, Bool.cond_not, Bool.cond_decide, and_dec, Bool.and_true, Bool.not_true, Bool.not_false, _root_.cond_true, _root_.cond_false, Int.reduceEq, Int.reduceLE, Int.reduceLT, Int.reduceGT, gt_iff_lt, if_true, if_false, and_self, not_true, not_false_eq_true, decide_true, decide_false, true_and, and_true]
    try simp only [spec_RecOk_j1, spec_IsAmt, spec_l01Num, hm, bind_id, Bool.true_and, Bool.and_false, Bool.false_and, not_dec, spec_in_eq, spec_MsgOk_eq, Option.bind_some, beq_int, bne_int, Bool.cond_not, Bool.cond_decide, and_dec, Bool.and_true, Bool.not_true, Bool.not_false, _root_.cond_true, _root_.cond_false, Int.reduceEq, Int.reduceLE, Int.reduceLT, Int.reduceGT, gt_iff_lt, if_true, if_false, and_self, not_true, not_false_eq_true, decide_true, decide_false, true_and, and_true]
    try simp only [spec_RecOk_j2, hm, bind_id, Bool.true_and, Bool.and_false, Bool.false_and, not_dec, spec_in_eq, spec_MsgOk_eq, Option.bind_some, beq_int, bne_int, Bool.cond_not, Bool.cond_decide, and_dec, Bool.and_true, Bool.not_true, Bool.not_false, _root_.cond_true, _root_.cond_false, Int.reduceEq, Int.reduceLE, Int.reduceLT, Int.reduceGT, gt_iff_lt, if_true, if_false, and_self, not_true, not_false_eq_true, decide_true, decide_false, true_and, and_true]
    try simp only [spec_RecOk_j3, hm, bind_id, Bool.true_and, Bool.and_false, Bool.false_and, not_dec, spec_in_eq, spec_MsgOk_eq, Option.bind_some, beq_int, bne_int, Bool.cond_not, Bool.cond_decide, and_dec, Bool.and_true, Bool.not_true, Bool.not_false, _root_.cond_true, _root_.cond_false, Int.reduceEq, Int.reduceLE, Int.reduceLT, Int.reduceGT, gt_iff_lt, if_true, if_false, and_self, not_true, not_false_eq_true, decide_true, decide_false, true_and, and_true]
    repeat' (refine ite_l (fun _ => ?_) (fun _ => ?_))
  all_goals first | (simp only [Option.some.injEq, decide_eq_decide]; unfold RecP MZ; simp only [hm, Int.reduceEq, Int.reduceNeg, true_and, false_and, and_false, and_true, or_false, false_or, not_false_eq_true]; first | done | omega) | (refine congrArg some (Eq.symm (decide_eq_true (p := RecP _) ?_)); unfold RecP MZ; simp only [hm, Int.reduceEq, true_and, false_and, and_false, and_true, or_false, false_or, not_false_eq_true]; first | done | omega) | (refine congrArg some (Eq.symm (decide_eq_false (p := RecP _) ?_)); unfold RecP MZ; simp only [hm, Int.reduceEq, true_and, false_and, and_false, and_true, or_false, false_or, not_false_eq_true]; first | done | omega)
theorem spec_RecOk_4 (a o t n : Int) (m : SMsg) : spec_RecOk ⟨4, a, o, t, n, m⟩ = some (decide (RecP ⟨4, a, o, t, n, m⟩)) := by
  have h10 : spec_l10Has 4 = some (true, true, true, true) := by decide
  by_cases hm : MsgP m
  all_goals
    simp only [spec_RecOk, spec_l07Node, h10, hm, bind_id, Bool.true_and, Bool.and_false, Bool.false_and, not_dec, spec_in_eq, spec_MsgOk_eq, Option.bind_some, beq_int, bne_int, Bool.cond_not, Bool.cond_decide, and_dec, Bool.and_true, Bool.not_true, Bool.not_false, _root_.cond_true, _root_.cond_false, Int.reduceEq, Int.reduceLE, Int.reduceLT, Int.reduceGT, gt_iff_lt, if_true, if_false, and_self, not_true, not_false_eq_true, decide_true, decide_false, true_and, and_true]
    try simp only [spec_RecOk_j1, spec_IsAmt, spec_l01Num, hm, bind_id, Bool.true_and, Bool.and_false, Bool.false_and, not_dec, spec_in_eq, spec_MsgOk_eq, Option.bind_some, beq_int, bne_int, Bool.cond_not, Bool.cond_decide, and_dec, Bool.and_true, Bool.not_true, Bool.not_false, _root_.cond_true, _root_.cond_false, Int.reduceEq, Int.reduceLE, Int.reduceLT, Int.reduceGT, gt_iff_lt, if_true, if_false, and_self, not_true, not_false_eq_true, decide_true, decide_false, true_and, and_true]
    try simp only [spec_RecOk_j2, hm, bind_id, Bool.true_and, Bool.and_false, Bool.false_and, not_dec, spec_in_eq, spec_MsgOk_eq, Option.bind_some, beq_int, bne_int, Bool.cond_not, Bool.cond_decide, and_dec, Bool.and_true, Bool.not_true, Bool.not_false, _root_.cond_true, _root_.cond_false, Int.reduceEq, Int.reduceLE, Int.reduceLT, Int.reduceGT, gt_iff_lt, if_true, if_false, and_self, not_true, not_false_eq_true, decide_true, decide_false, true_and, and_true]
    try simp only [spec_RecOk_j3, hm, bind_id, Bool.true_and, Bool.and_false, Bool.false_and, not_dec, spec_in_eq, spec_MsgOk_eq, Option.bind_some, beq_int, bne_int, Bool.cond_not, Bool.cond_decide, and_dec, Bool.and_true, Bool.not_true, Bool.not_false, _root_.cond_true, _root_.cond_false, Int.reduceEq, Int.reduceLE, Int.reduceLT, Int.reduceGT, gt_iff_lt, if_true, if_false, and_self, not_true, not_false_eq_true, decide_true, decide_false, true_and, and_true]
    repeat' (refine ite_l (fun _ => ?_) (fun _ => ?_))
  all_goals first | (simp only [Option.some.injEq, decide_eq_decide]; unfold RecP MZ; simp only [hm, Int.reduceEq, Int.reduceNeg, true_and, false_and, and_false, and_true, or_false, false_or, not_false_eq_true]; first | done | omega) | (refine congrArg some (Eq.symm (decide_eq_true (p := RecP _) ?_)); unfold RecP MZ; simp only [hm, Int.reduceEq, true_and, false_and, and_false, and_true, or_false, false_or, not_false_eq_true]; first | done | omega) | (refine congrArg some (Eq.symm (decide_eq_false (p := RecP _) ?_)); unfold RecP MZ; simp only [hm, Int.reduceEq, true_and, false_and, and_false, and_true, or_false, false_or, not_false_eq_true]; first | done | omega)
theorem spec_RecOk_5 (a o t n : Int) (m : SMsg) : spec_RecOk ⟨5, a, o, t, n, m⟩ = some (decide (RecP ⟨5, a, o, t, n, m⟩)) := by
  have h10 : spec_l10Has 5 = some (false, false, true, true) := by decide
  by_cases hm : MsgP m
  all_goals
    simp only [spec_RecOk, spec_l07Node, h10, hm, bind_id, Bool.true_and, Bool.and_false, Bool.false_and, not_dec, spec_in_eq, spec_MsgOk_eq, Option.bind_some, beq_int, bne_int, Bool.cond_not, Bool.cond_decide, and_dec, Bool.and_true, Bool.not_true, Bool.not_false, _root_.cond_true, _root_.cond_false, Int.reduceEq, Int.reduceLE, Int.reduceLT, Int.reduceGT, gt_iff_lt, if_true, if_false, and_self, not_true, not_false_eq_true, decide_true, decide_false, true_and, and_true]
    try simp only [spec_RecOk_j1, spec_IsAmt, spec_l01Num, hm, bind_id, Bool.true_and, Bool.and_false, Bool.false_and, not_dec, spec_in_eq, spec_MsgOk_eq, Option.bind_some, beq_int, bne_int, Bool.cond_not, Bool.cond_decide, and_dec, Bool.and_true, Bool.not_true, Bool.not_false, _root_.cond_true, _root_.cond_false, Int.reduceEq, Int.reduceLE, Int.reduceLT, Int.reduceGT, gt_iff_lt, if_true, if_false, and_self, not_true, not_false_eq_true, decide_true, decide_false, true_and, and_true]
    try simp only [spec_RecOk_j2, hm, bind_id, Bool.true_and, Bool.and_false, Bool.false_and, not_dec, spec_in_eq, spec_MsgOk_eq, Option.bind_some, beq_int, bne_int, Bool.cond_not, Bool.cond_decide, and_dec, Bool.and_true, Bool.not_true, Bool.not_false, _root_.cond_true, _root_.cond_false, Int.reduceEq, Int.reduceLE, Int.reduceLT, Int.reduceGT, gt_iff_lt, if_true, if_false, and_self, not_true, not_false_eq_true, decide_true, decide_false, true_and, and_true]
    try simp only [spec_RecOk_j3, hm, bind_id, Bool.true_and, Bool.and_false, Bool.false_and, not_dec, spec_in_eq, spec_MsgOk_eq, Option.bind_some, beq_int, bne_int, Bool.cond_not, Bool.cond_decide, and_dec, Bool.and_true, Bool.not_true, Bool.not_false, _root_.cond_true, _root_.cond_false, Int.reduceEq, Int.reduceLE, Int.reduceLT, Int.reduceGT, gt_iff_lt, if_true, if_false, and_self, not_true, not_false_eq_true, decide_true, decide_false, true_and, and_true]
    repeat' (refine ite_l (fun _ => ?_) (fun _ => ?_))
  all_goals first | (simp only [Option.some.injEq, decide_eq_decide]; unfold RecP MZ; simp only [hm, Int.reduceEq, Int.reduceNeg, true_and, false_and, and_false, and_true, or_false, false_or, not_false_eq_true]; first | done | omega) | (refine congrArg some (Eq.symm (decide_eq_true (p := RecP _) ?_)); unfold RecP MZ; simp only [hm, Int.reduceEq, true_and, false_and, and_false, and_true, or_false, false_or, not_false_eq_true]; first | done | omega) | (refine congrArg some (Eq.symm (decide_eq_false (p := RecP _) ?_)); unfold RecP MZ; simp only [hm, Int.reduceEq, true_and, false_and, and_false, and_true, or_false, false_or, not_false_eq_true]; first | done | omega)
theorem spec_RecOk_6 (a o t n : Int) (m : SMsg) : spec_RecOk ⟨6, a, o, t, n, m⟩ = some (decide (RecP ⟨6, a, o, t, n, m⟩)) := by
  have h10 : spec_l10Has 6 = some (false, false, true, true) := by decide
  by_cases hm : MsgP m
  all_goals
    simp only [spec_RecOk, spec_l07Node, h10, hm, bind_id, Bool.true_and, Bool.and_false, Bool.false_and, not_dec, spec_in_eq, spec_MsgOk_eq, Option.bind_some, beq_int, bne_int, Bool.cond_not, Bool.cond_decide, and_dec, Bool.and_true, Bool.not_true, Bool.not_false, _root_.cond_true, _root_.cond_false, Int.reduceEq, Int.reduceLE, Int.reduceLT, Int.reduceGT, gt_iff_lt, if_true, if_false, and_self, not_true, not_false_eq_true, decide_true, decide_false, true_and, and_true]
    try simp only [spec_RecOk_j1, spec_IsAmt, spec_l01Num, hm, bind_id, Bool.true_and, Bool.and_false, Bool.false_and, not_dec, spec_in_eq, spec_MsgOk_eq, Option.bind_some, beq_int, bne_int, Bool.cond_not, Bool.cond_decide, and_dec, Bool.and_true, Bool.not_true, Bool.not_false, _root_.cond_true, _root_.cond_false, Int.reduceEq, Int.reduceLE, Int.reduceLT, Int.reduceGT, gt_iff_lt, if_true, if_false, and_self, not_true, not_false_eq_true, decide_true, decide_false, true_and, and_true]
    try simp only [spec_RecOk_j2, hm, bind_id, Bool.true_and, Bool.and_false, Bool.false_and, not_dec, spec_in_eq, spec_MsgOk_eq, Option.bind_some, beq_int, bne_int, Bool.cond_not, Bool.cond_decide, and_dec, Bool.and_true, Bool.not_true, Bool.not_false, _root_.cond_true, _root_.cond_false, Int.reduceEq, Int.reduceLE, Int.reduceLT, Int.reduceGT, gt_iff_lt, if_true, if_false, and_self, not_true, not_false_eq_true, decide_true, decide_false, true_and, and_true]
    try simp only [spec_RecOk_j3, hm, bind_id, Bool.true_and, Bool.and_false, Bool.false_and, not_dec, spec_in_eq, spec_MsgOk_eq, Option.bind_some, beq_int, bne_int, Bool.cond_not, Bool.cond_decide, and_dec, Bool.and_true, Bool.not_true, Bool.not_false, _root_.cond_true, _root_.cond_false, Int.reduceEq, Int.reduceLE, Int.reduceLT, Int.reduceGT, gt_iff_lt, if_true, if_false, and_self, not_true, not_false_eq_true, decide_true, decide_false, true_and, and_true]
    repeat' (refine ite_l (fun _ => ?_) (fun _ => ?_))
  all_goals first | (simp only [Option.some.injEq, decide_eq_decide]; unfold RecP MZ; simp only [hm, Int.reduceEq, Int.reduceNeg, true_and, false_and, and_false, and_true, or_false, false_or, not_false_eq_true]; first | done | omega) | (refine congrArg some (Eq.symm (decide_eq_true (p := RecP _) ?_)); unfold RecP MZ; simp only [hm, Int.reduceEq, true_and, false_and, and_false, and_true, or_false, false_or, not_false_eq_true]; first | done | omega) | (refine congrArg some (Eq.symm (decide_eq_false (p := RecP _) ?_)); unfold RecP MZ; simp only [hm, Int.reduceEq, true_and, false_and, and_false, and_true, or_false, false_or, not_false_eq_true]; first | done | omega)
theorem spec_RecOk_7 (a o t n : Int) (m : SMsg) : spec_RecOk ⟨7, a, o, t, n, m⟩ = some (decide (RecP ⟨7, a, o, t, n, m⟩)) := by
  have h10 : spec_l10Has 7 = some (true, false, false, true) := by decide
  by_cases hm : MsgP m
  all_goals
    simp only [spec_RecOk, spec_l07Node, h10, hm, bind_id, Bool.true_and, Bool.and_false, Bool.false_and, not_dec, spec_in_eq, spec_MsgOk_eq, Option.bind_some, beq_int, bne_int, Bool.cond_not, Bool.cond_decide, and_dec, Bool.and_true, Bool.not_true, Bool.not_false, _root_.cond_true, _root_.cond_false, Int.reduceEq, Int.reduceLE, Int.reduceLT, Int.reduceGT, gt_iff_lt, if_true, if_false, and_self, not_true, not_false_eq_true, decide_true, decide_false, true_and, and_true]
    try simp only [spec_RecOk_j1, spec_IsAmt, spec_l01Num, hm, bind_id, Bool.true_and, Bool.and_false, Bool.false_and, not_dec, spec_in_eq, spec_MsgOk_eq, Option.bind_some, beq_int, bne_int, Bool.cond_not, Bool.cond_decide, and_dec, Bool.and_true, Bool.not_true, Bool.not_false, _root_.cond_true, _root_.cond_false, Int.reduceEq, Int.reduceLE, Int.reduceLT, Int.reduceGT, gt_iff_lt, if_true, if_false, and_self, not_true, not_false_eq_true, decide_true, decide_false, true_and, and_true]
    try simp only [spec_RecOk_j2, hm, bind_id, Bool.true_and, Bool.and_false, Bool.false_and, not_dec, spec_in_eq, spec_MsgOk_eq, Option.bind_some, beq_int, bne_int, Bool.cond_not, Bool.cond_decide, and_dec, Bool.and_true, Bool.not_true, Bool.not_false, _root_.cond_true, _root_.cond_false, Int.reduceEq, Int.reduceLE, Int.reduceLT, Int.reduceGT, gt_iff_lt, if_true, if_false, and_self, not_true, not_false_eq_true, decide_true, decide_false, true_and, and_true]
    try simp only [spec_RecOk_j3, hm, bind_id, Bool.true_and, Bool.and_false, Bool.false_and, not_dec, spec_in_eq, spec_MsgOk_eq, Option.bind_some, beq_int, bne_int, Bool.cond_not, Bool.cond_decide, and_dec, Bool.and_true, Bool.not_true, Bool.not_false, _root_.cond_true, _root_.cond_false, Int.reduceEq, Int.reduceLE, Int.reduceLT, Int.reduceGT, gt_iff_lt, if_true, if_false, and_self, not_true, not_false_eq_true, decide_true, decide_false, true_and, and_true]
    repeat' (refine ite_l (fun _ => ?_) (fun _ => ?_))
  all_goals first | (simp only [Option.some.injEq, decide_eq_decide]; unfold RecP MZ; simp only [hm, Int.reduceEq, Int.reduceNeg, true_and, false_and, and_false, and_true, or_false, false_or, not_false_eq_true]; first | done | omega) | (refine congrArg some (Eq.symm (decide_eq_true (p := RecP _) ?_)); unfold RecP MZ; simp only [hm, Int.reduceEq, true_and, false_and, and_false, and_true, or_false, false_or, not_false_eq_true]; first | done | omega) | (refine congrArg some (Eq.symm (decide_eq_false (p := RecP _) ?_)); unfold RecP MZ; simp only [hm, Int.reduceEq, true_and, false_and, and_false, and_true, or_false, false_or, not_false_eq_true]; first | done | omega)
theorem spec_RecOk_8 (a o t n : Int) (m : SMsg) : spec_RecOk ⟨8, a, o, t, n, m⟩ = some (decide (RecP ⟨8, a, o, t, n, m⟩)) := by
  have h10 : spec_l10Has 8 = some (true, false, true, true) := by decide
  by_cases hm : MsgP m
  all_goals
    simp only [spec_RecOk, spec_l07Node, h10, hm, bind_id, Bool.true_and, Bool.and_false, Bool.false_and, not_dec, spec_in_eq, spec_MsgOk_eq, Option.bind_some, beq_int, bne_int, Bool.cond_not, Bool.cond_decide, and_dec, Bool.and_true, Bool.not_true, Bool.not_false, _root_.cond_true, _root_.cond_false, Int.reduceEq, Int.reduceLE, Int.reduceLT, Int.reduceGT, gt_iff_lt, if_true, if_false, and_self, not_true, not_false_eq_true, decide_true, decide_false, true_and, and_true]
    try simp only [spec_RecOk_j1, spec_IsAmt, spec_l01Num, hm, bind_id, Bool.true_and, Bool.and_false, Bool.false_and, not_dec, spec_in_eq, spec_MsgOk_eq, Option.bind_some, beq_int, bne_int, Bool.cond_not, Bool.cond_decide, and_dec, Bool.and_true, Bool.not_true, Bool.not_false, _root_.cond_true, _root_.cond_false, Int.reduceEq, Int.reduceLE, Int.reduceLT, Int.reduceGT, gt_iff_lt, if_true, if_false, and_self, not_true, not_false_eq_true, decide_true, decide_false, true_and, and_true]
    try simp only [spec_RecOk_j2, hm, bind_id, Bool.true_and, Bool.and_false, Bool.false_and, not_dec, spec_in_eq, spec_MsgOk_eq, Option.bind_some, beq_int, bne_int, Bool.cond_not, Bool.cond_decide, and_dec, Bool.and_true, Bool.not_true, Bool.not_false, _root_.cond_true, _root_.cond_false, Int.reduceEq, Int.reduceLE, Int.reduceLT, Int.reduceGT, gt_iff_lt, if_true, if_false, and_self, not_true, not_false_eq_true, decide_true, decide_false, true_and, and_true]
    try simp only [spec_RecOk_j3, hm, bind_id, Bool.true_and, Bool.and_false, Bool.false_and, not_dec, spec_in_eq, spec_MsgOk_eq, Option.bind_some, beq_int, bne_int, Bool.cond_not, Bool.cond_decide, and_dec, Bool.and_true, Bool.not_true, Bool.not_false, _root_.cond_true, _root_.cond_false, Int.reduceEq, Int.reduceLE, Int.reduceLT, Int.reduceGT, gt_iff_lt, if_true, if_false, and_self, not_true, not_false_eq_true, decide_true, decide_false, true_and, and_true]
    repeat' (refine ite_l (fun _ => ?_) (fun _ => ?_))
  all_goals first | (simp only [Option.some.injEq, decide_eq_decide]; unfold RecP MZ; simp only [hm, Int.reduceEq, Int.reduceNeg, true_and, false_and, and_false, and_true, or_false, false_or, not_false_eq_true]; first | done | omega) | (refine congrArg some (Eq.symm (decide_eq_true (p := RecP _) ?_)); unfold RecP MZ; simp only [hm, Int.reduceEq, true_and, false_and, and_false, and_true, or_false, false_or, not_false_eq_true]; first | done | omega) | (refine congrArg some (Eq.symm (decide_eq_false (p := RecP _) ?_)); unfold RecP MZ; simp only [hm, Int.reduceEq, true_and, false_and, and_false, and_true, or_false, false_or, not_false_eq_true]; first | done | omega)
theorem spec_RecOk_9 (a o t n : Int) (m : SMsg) : spec_RecOk ⟨9, a, o, t, n, m⟩ = some (decide (RecP ⟨9, a, o, t, n, m⟩)) := by
  have h10 : spec_l10Has 9 = some (true, false, true, false) := by decide
  by_cases hm : MsgP m
  all_goals
    simp only [spec_RecOk, spec_l07Node, h10, hm, bind_id, Bool.true_and, Bool.and_false, Bool.false_and, not_dec, spec_in_eq, spec_MsgOk_eq, Option.bind_some, beq_int, bne_int, Bool.cond_not, Bool.cond_decide, and_dec, Bool.and_true, Bool.not_true, Bool.not_false, _root_.cond_true, _root_.cond_false, Int.reduceEq, Int.reduceLE, Int.reduceLT, Int.reduceGT, gt_iff_lt, if_true, if_false, and_self, not_true, not_false_eq_true, decide_true, decide_false, true_and, and_true]
    try simp only [spec_RecOk_j1, spec_IsAmt, spec_l01Num, hm, bind_id, Bool.true_and, Bool.and_false, Bool.false_and, not_dec, spec_in_eq, spec_MsgOk_eq, Option.bind_some, beq_int, bne_int, Bool.cond_not, Bool.cond_decide, and_dec, Bool.and_true, Bool.not_true, Bool.not_false, _root_.cond_true, _root_.cond_false, Int.reduceEq, Int.reduceLE, Int.reduceLT, Int.reduceGT, gt_iff_lt, if_true, if_false, and_self, not_true, not_false_eq_true, decide_true, decide_false, true_and, and_true]
    try simp only [spec_RecOk_j2, hm, bind_id, Bool.true_and, Bool.and_false, Bool.false_and, not_dec, spec_in_eq, spec_MsgOk_eq, Option.bind_some, beq_int, bne_int, Bool.cond_not, Bool.cond_decide, and_dec, Bool.and_true, Bool.not_true, Bool.not_false, _root_.cond_true, _root_.cond_false, Int.reduceEq, Int.reduceLE, Int.reduceLT, Int.reduceGT, gt_iff_lt, if_true, if_false, and_self, not_true, not_false_eq_true, decide_true, decide_false, true_and, and_true]
    try simp only [spec_RecOk_j3, hm, bind_id, Bool.true_and, Bool.and_false, Bool.false_and, not_dec, spec_in_eq, spec_MsgOk_eq, Option.bind_some, beq_int, bne_int, Bool.cond_not, Bool.cond_decide, and_dec, Bool.and_true, Bool.not_true, Bool.not_false, _root_.cond_true, _root_.cond_false, Int.reduceEq, Int.reduceLE, Int.reduceLT, Int.reduceGT, gt_iff_lt, if_true, if_false, and_self, not_true, not_false_eq_true, decide_true, decide_false, true_and, and_true]
    repeat' (refine ite_l (fun _ => ?_) (fun _ => ?_))
  all_goals first | (simp only [Option.some.injEq, decide_eq_decide]; unfold RecP MZ; simp only [hm, Int.reduceEq, Int.reduceNeg, true_and, false_and, and_false, and_true, or_false, false_or, not_false_eq_true]; first | done | omega) | (refine congrArg some (Eq.symm (decide_eq_true (p := RecP _) ?_)); unfold RecP MZ; simp only [hm, Int.reduceEq, true_and, false_and, and_false, and_true, or_false, false_or, not_false_eq_true]; first | done | omega) | (refine congrArg some (Eq.symm (decide_eq_false (p := RecP _) ?_)); unfold RecP MZ; simp only [hm, Int.reduceEq, true_and, false_and, and_false, and_true, or_false, false_or, not_false_eq_true]; first | done | omega)
theorem impl_RecOk_1 (a o t n : Int) (m : SMsg) : impl_RecOk ⟨1, a, o, t, n, m⟩ = some (decide (RecP ⟨1, a, o, t, n, m⟩)) := by
  by_cases hm : MsgP m
  all_goals
    simp only [impl_RecOk, hm, bind_id, Bool.true_and, Bool.and_false, Bool.false_and, not_dec, impl_in_eq, impl_MsgOk_eq, Option.bind_some, beq_int, bne_int, Bool.cond_not, Bool.cond_decide, and_dec, Bool.and_true, Bool.not_true, Bool.not_false, _root_.cond_true, _root_.cond_false, Int.reduceEq, Int.reduceLE, Int.reduceLT, Int.reduceGT, gt_iff_lt, if_true, if_false, and_self, not_true, not_false_eq_true, decide_true, decide_false, true_and, and_true]
    try simp only [impl_RecOk_j2, impl_IsAmt, impl_isNum, impl_isBallot, hm, bind_id, Bool.true_and, Bool.and_false, Bool.false_and, not_dec, impl_in_eq, impl_MsgOk_eq, Option.bind_some, beq_int, bne_int, Bool.cond_not, Bool.cond_decide, and_dec, Bool.and_true, Bool.not_true, Bool.not_false, _root_.cond_true, _root_.cond_false, Int.reduceEq, Int.reduceLE, Int.reduceLT, Int.reduceGT, gt_iff_lt, if_true, if_false, and_self, not_true, not_false_eq_true, decide_true, decide_false, true_and, and_true]
    try simp only [impl_RecOk_j1, impl_isNode, hm, bind_id, Bool.true_and, Bool.and_false, Bool.false_and, not_dec, impl_in_eq, impl_MsgOk_eq, Option.bind_some, beq_int, bne_int, Bool.cond_not, Bool.cond_decide, and_dec, Bool.and_true, Bool.not_true, Bool.not_false, _root_.cond_true, _root_.cond_false, Int.reduceEq, Int.reduceLE, Int.reduceLT, Int.reduceGT, gt_iff_lt, if_true, if_false, and_self, not_true, not_false_eq_true, decide_true, decide_false, true_and, and_true]
    repeat' (refine ite_l (fun _ => ?_) (fun _ => ?_))
  all_goals first | (simp only [Option.some.injEq, decide_eq_decide]; unfold RecP MZ; simp only [hm, Int.reduceEq, Int.reduceNeg, true_and, false_and, and_false, and_true, or_false, false_or, not_false_eq_true]; first | done | omega) | (refine congrArg some (Eq.symm (decide_eq_true (p := RecP _) ?_)); unfold RecP MZ; simp only [hm, Int.reduceEq, true_and, false_and, and_false, and_true, or_false, false_or, not_false_eq_true]; first | done | omega) | (refine congrArg some (Eq.symm (decide_eq_false (p := RecP _) ?_)); unfold RecP MZ; simp only [hm, Int.reduceEq, true_and, false_and, and_false, and_true, or_false, false_or, not_false_eq_true]; first | done | omega)
theorem impl_RecOk_2 (a o t n : Int) (m : SMsg) : impl_RecOk ⟨2, a, o, t, n, m⟩ = some (decide (RecP ⟨2, a, o, t, n, m⟩)) := by
  by_cases hm : MsgP m
  all_goals
    simp only [impl_RecOk, hm, bind_id, Bool.true_and, Bool.and_false, Bool.false_and, not_dec, impl_in_eq, impl_MsgOk_eq, Option.bind_some, beq_int, bne_int, Bool.cond_not, Bool.cond_decide, and_dec, Bool.and_true, Bool.not_true, Bool.not_false, _root_.cond_true, _root_.cond_false, Int.reduceEq, Int.reduceLE, Int.reduceLT, Int.reduceGT, gt_iff_lt, if_true, if_false, and_self, not_true, not_false_eq_true, decide_true, decide_false, true_and, and_true]
    try simp only [impl_RecOk_j2, impl_IsAmt, impl_isNum, impl_isBallot, hm, bind_id, Bool.true_and, Bool.and_false, Bool.false_and, not_dec, impl_in_eq, impl_MsgOk_eq, Option.bind_some, beq_int, bne_int, Bool.cond_not, Bool.cond_decide, and_dec, Bool.and_true, Bool.not_true, Bool.not_false, _root_.cond_true, _root_.cond_false, Int.reduceEq, Int.reduceLE, Int.reduceLT, Int.reduceGT, gt_iff_lt, if_true, if_false, and_self, not_true, not_false_eq_true, decide_true, decide_false, true_and, and_true]
    try simp only [impl_RecOk_j1, impl_isNode, hm, bind_id, Bool.true_and, Bool.and_false, Bool.false_and, not_dec, impl_in_eq, impl_MsgOk_eq, Option.bind_some, beq_int, bne_int, Bool.cond_not, Bool.cond_decide, and_dec, Bool.and_true, Bool.not_true, Bool.not_false, _root_.cond_true, _root_.cond_false, Int.reduceEq, Int.reduceLE, Int.reduceLT, Int.reduceGT, gt_iff_lt, if_true, if_false, and_self, not_true, not_false_eq_true, decide_true, decide_false, true_and, and_true]
    repeat' (refine ite_l (fun _ => ?_) (fun _ => ?_))
  all_goals first | (simp only [Option.some.injEq, decide_eq_decide]; unfold RecP MZ; simp only [hm, Int.reduceEq, Int.reduceNeg, true_and, false_and, and_false, and_true, or_false, false_or, not_false_eq_true]; first | done | omega) | (refine congrArg some (Eq.symm (decide_eq_true (p := RecP _) ?_)); unfold RecP MZ; simp only [hm, Int.reduceEq, true_and, false_and, and_false, and_true, or_false, false_or, not_false_eq_true]; first | done | omega) | (refine congrArg some (Eq.symm (decide_eq_false (p := RecP _) ?_)); unfold RecP MZ; simp only [hm, Int.reduceEq, true_and, false_and, and_false, and_true, or_false, false_or, not_false_eq_true]; first | done | omega)
theorem impl_RecOk_3 (a o t n : Int) (m : SMsg) : impl_RecOk ⟨3, a, o, t, n, m⟩ = some (decide (RecP ⟨3, a, o, t, n, m⟩)) := by
  by_cases hm : MsgP m
  all_goals
    simp only [impl_RecOk, hm, bind_id, Bool.true_and, Bool.and_false, Bool.false_and, not_dec, impl_in_eq, impl_MsgOk_eq, Option.bind_some, beq_int, bne_int, Bool.cond_not, Bool.cond_decide, and_dec, Bool.and_true, Bool.not_true, Bool.not_false, _root_.cond_true, _root_.cond_false, Int.reduceEq, Int.reduceLE, Int.reduceLT, Int.reduceGT, gt_iff_lt, if_true, if_false, and_self, not_true, not_false_eq_true, decide_true, decide_false, true_and, and_true]
    try simp only [impl_RecOk_j2, impl_IsAmt, impl_isNum, impl_isBallot, hm, bind_id, Bool.true_and, Bool.and_false, Bool.false_and, not_dec, impl_in_eq, impl_MsgOk_eq, Option.bind_some, beq_int, bne_int, Bool.cond_not, Bool.cond_decide, and_dec, Bool.and_true, Bool.not_true, Bool.not_false, _root_.cond_true, _root_.cond_false, Int.reduceEq, Int.reduceLE, Int.reduceLT, Int.reduceGT, gt_iff_lt, if_true, if_false, and_self, not_true, not_false_eq_true, decide_true, decide_false, true_and, and_true]
    try simp only [impl_RecOk_j1, impl_isNode, hm, bind_id, Bool.true_and, Bool.and_false, Bool.false_and, not_dec, impl_in_eq, impl_MsgOk_eq, Option.bind_some, beq_int, bne_int, Bool.cond_not, Bool.cond_decide, and_dec, Bool.and_true, Bool.not_true, Bool.not_false, _root_.cond_true, _root_.cond_false, Int.reduceEq, Int.reduceLE, Int.reduceLT, Int.reduceGT, gt_iff_lt, if_true, if_false, and_self, not_true, not_false_eq_true, decide_true, decide_false, true_and, and_true]
    repeat' (refine ite_l (fun _ => ?_) (fun _ => ?_))
  all_goals first | (simp only [Option.some.injEq, decide_eq_decide]; unfold RecP MZ; simp only [hm, Int.reduceEq, Int.reduceNeg, true_and, false_and, and_false, and_true, or_false, false_or, not_false_eq_true]; first | done | omega) | (refine congrArg some (Eq.symm (decide_eq_true (p := RecP _) ?_)); unfold RecP MZ; simp only [hm, Int.reduceEq, true_and, false_and, and_false, and_true, or_false, false_or, not_false_eq_true]; first | done | omega) | (refine congrArg some (Eq.symm (decide_eq_false (p := RecP _) ?_)); unfold RecP MZ; simp only [hm, Int.reduceEq, true_and, false_and, and_false, and_true, or_false, false_or, not_false_eq_true]; first | done | omega)
theorem impl_RecOk_4 (a o t n : Int) (m : SMsg) : impl_RecOk ⟨4, a, o, t, n, m⟩ = some (decide (RecP ⟨4, a, o, t, n, m⟩)) := by
  by_cases hm : MsgP m
  all_goals
    simp only [impl_RecOk, hm, bind_id, Bool.true_and, Bool.and_false, Bool.false_and, not_dec, impl_in_eq, impl_MsgOk_eq, Option.bind_some, beq_int, bne_int, Bool.cond_not, Bool.cond_decide, and_dec, Bool.and_true, Bool.not_true, Bool.not_false, _root_.cond_true, _root_.cond_false, Int.reduceEq, Int.reduceLE, Int.reduceLT, Int.reduceGT, gt_iff_lt, if_true, if_false, and_self, not_true, not_false_eq_true, decide_true, decide_false, true_and, and_true]
    try simp only [impl_RecOk_j2, impl_IsAmt, impl_isNum, impl_isBallot, hm, bind_id, Bool.true_and, Bool.and_false, Bool.false_and, not_dec, impl_in_eq, impl_MsgOk_eq, Option.bind_some, beq_int, bne_int, Bool.cond_not, Bool.cond_decide, and_dec, Bool.and_true, Bool.not_true, Bool.not_false, _root_.cond_true, _root_.cond_false, Int.reduceEq, Int.reduceLE, Int.reduceLT, Int.reduceGT, gt_iff_lt, if_true, if_false, and_self, not_true, not_false_eq_true, decide_true, decide_false, true_and, and_true]
    try simp only [impl_RecOk_j1, impl_isNode, hm, bind_id, Bool.true_and, Bool.and_false, Bool.false_and, not_dec, impl_in_eq, impl_MsgOk_eq, Option.bind_some, beq_int, bne_int, Bool.cond_not, Bool.cond_decide, and_dec, Bool.and_true, Bool.not_true, Bool.not_false, _root_.cond_true, _root_.cond_false, Int.reduceEq, Int.reduceLE, Int.reduceLT, Int.reduceGT, gt_iff_lt, if_true, if_false, and_self, not_true, not_false_eq_true, decide_true, decide_false, true_and, and_true]
    repeat' (refine ite_l (fun _ => ?_) (fun _ => ?_))
  all_goals first | (simp only [Option.some.injEq, decide_eq_decide]; unfold RecP MZ; simp only [hm, Int.reduceEq, Int.reduceNeg, true_and, false_and, and_false, and_true, or_false, false_or, not_false_eq_true]; first | done | omega) | (refine congrArg some (Eq.symm (decide_eq_true (p := RecP _) ?_)); unfold RecP MZ; simp only [hm, Int.reduceEq, true_and, false_and, and_false, and_true, or_false, false_or, not_false_eq_true]; first | done | omega) | (refine congrArg some (Eq.symm (decide_eq_false (p := RecP _) ?_)); unfold RecP MZ; simp only [hm, Int.reduceEq, true_and, false_and, and_false, and_true, or_false, false_or, not_false_eq_true]; first | done | omega)
theorem impl_RecOk_5 (a o t n : Int) (m : SMsg) : impl_RecOk ⟨5, a, o, t, n, m⟩ = some (decide (RecP ⟨5, a, o, t, n, m⟩)) := by
  by_cases hm : MsgP m
  all_goals
    simp only [impl_RecOk, hm, bind_id, Bool.true_and, Bool.and_false, Bool.false_and, not_dec, impl_in_eq, impl_MsgOk_eq, Option.bind_some, beq_int, bne_int, Bool.cond_not, Bool.cond_decide, and_dec, Bool.and_true, Bool.not_true, Bool.not_false, _root_.cond_true, _root_.cond_false, Int.reduceEq, Int.reduceLE, Int.reduceLT, Int.reduceGT, gt_iff_lt, if_true, if_false, and_self, not_true, not_false_eq_true, decide_true, decide_false, true_and, and_true]
    try simp only [impl_RecOk_j2, impl_IsAmt, impl_isNum, impl_isBallot, hm, bind_id, Bool.true_and, Bool.and_false, Bool.false_and, not_dec, impl_in_eq, impl_MsgOk_eq, Option.bind_some, beq_int, bne_int, Bool.cond_not, Bool.cond_decide, and_dec, Bool.and_true, Bool.not_true, Bool.not_false, _root_.cond_true, _root_.cond_false, Int.reduceEq, Int.reduceLE, Int.reduceLT, Int.reduceGT, gt_iff_lt, if_true, if_false, and_self, not_true, not_false_eq_true, decide_true, decide_false, true_and, and_true]
    try simp only [impl_RecOk_j1, impl_isNode, hm, bind_id, Bool.true_and, Bool.and_false, Bool.false_and, not_dec, impl_in_eq, impl_MsgOk_eq, Option.bind_some, beq_int, bne_int, Bool.cond_not, Bool.cond_decide, and_dec, Bool.and_true, Bool.not_true, Bool.not_false, _root_.cond_true, _root_.cond_false, Int.reduceEq, Int.reduceLE, Int.reduceLT, Int.reduceGT, gt_iff_lt, if_true, if_false, and_self, not_true, not_false_eq_true, decide_true, decide_false, true_and, and_true]
    repeat' (refine ite_l (fun _ => ?_) (fun _ => ?_))
  all_goals first | (simp only [Option.some.injEq, decide_eq_decide]; unfold RecP MZ; simp only [hm, Int.reduceEq, Int.reduceNeg, true_and, false_and, and_false, and_true, or_false, false_or, not_false_eq_true]; first | done | omega) | (refine congrArg some (Eq.symm (decide_eq_true (p := RecP _) ?_)); unfold RecP MZ; simp only [hm, Int.reduceEq, true_and, false_and, and_false, and_true, or_false, false_or, not_false_eq_true]; first | done | omega) | (refine congrArg some (Eq.symm (decide_eq_false (p := RecP _) ?_)); unfold RecP MZ; simp only [hm, Int.reduceEq, true_and, false_and, and_false, and_true, or_false, false_or, not_false_eq_true]; first | done | omega)
theorem impl_RecOk_6 (a o t n : Int) (m : SMsg) : impl_RecOk ⟨6, a, o, t, n, m⟩ = some (decide (RecP ⟨6, a, o, t, n, m⟩)) := by
  by_cases hm : MsgP m
  all_goals
    simp only [impl_RecOk, hm, bind_id, Bool.true_and, Bool.and_false, Bool.false_and, not_dec, impl_in_eq, impl_MsgOk_eq, Option.bind_some, beq_int, bne_int, Bool.cond_not, Bool.cond_decide, and_dec, Bool.and_true, Bool.not_true, Bool.not_false, _root_.cond_true, _root_.cond_false, Int.reduceEq, Int.reduceLE, Int.reduceLT, Int.reduceGT, gt_iff_lt, if_true, if_false, and_self, not_true, not_false_eq_true, decide_true, decide_false, true_and, and_true]
    try simp only [impl_RecOk_j2, impl_IsAmt, impl_isNum, impl_isBallot, hm, bind_id, Bool.true_and, Bool.and_false, Bool.false_and, not_dec, impl_in_eq, impl_MsgOk_eq, Option.bind_some, beq_int, bne_int, Bool.cond_not, Bool.cond_decide, and_dec, Bool.and_true, Bool.not_true, Bool.not_false, _root_.cond_true, _root_.cond_false, Int.reduceEq, Int.reduceLE, Int.reduceLT, Int.reduceGT, gt_iff_lt, if_true, if_false, and_self, not_true, not_false_eq_true, decide_true, decide_false, true_and, and_true]
    try simp only [impl_RecOk_j1, impl_isNode, hm, bind_id, Bool.true_and, Bool.and_false, Bool.false_and, not_dec, impl_in_eq, impl_MsgOk_eq, Option.bind_some, beq_int, bne_int, Bool.cond_not, Bool.cond_decide, and_dec, Bool.and_true, Bool.not_true, Bool.not_false, _root_.cond_true, _root_.cond_false, Int.reduceEq, Int.reduceLE, Int.reduceLT, Int.reduceGT, gt_iff_lt, if_true, if_false, and_self, not_true, not_false_eq_true, decide_true, decide_false, true_and, and_true]
    repeat' (refine ite_l (fun _ => ?_) (fun _ => ?_))
  all_goals first | (simp only [Option.some.injEq, decide_eq_decide]; unfold RecP MZ; simp only [hm, Int.reduceEq, Int.reduceNeg, true_and, false_and, and_false, and_true, or_false, false_or, not_false_eq_true]; first | done | omega) | (refine congrArg some (Eq.symm (decide_eq_true (p := RecP _) ?_)); unfold RecP MZ; simp only [hm, Int.reduceEq, true_and, false_and, and_false, and_true, or_false, false_or, not_false_eq_true]; first | done | omega) | (refine congrArg some (Eq.symm (decide_eq_false (p := RecP _) ?_)); unfold RecP MZ; simp only [hm, Int.reduceEq, true_and, false_and, and_false, and_true, or_false, false_or, not_false_eq_true]; first | done | omega)
theorem impl_RecOk_7 (a o t n : Int) (m : SMsg) : impl_RecOk ⟨7, a, o, t, n, m⟩ = some (decide (RecP ⟨7, a, o, t, n, m⟩)) := by
  by_cases hm : MsgP m
  all_goals
    simp only [impl_RecOk, hm, bind_id, Bool.true_and, Bool.and_false, Bool.false_and, not_dec, impl_in_eq, impl_MsgOk_eq, Option.bind_some, beq_int, bne_int, Bool.cond_not, Bool.cond_decide, and_dec, Bool.and_true, Bool.not_true, Bool.not_false, _root_.cond_true, _root_.cond_false, Int.reduceEq, Int.reduceLE, Int.reduceLT, Int.reduceGT, gt_iff_lt, if_true, if_false, and_self, not_true, not_false_eq_true, decide_true, decide_false, true_and, and_true]
    try simp only [impl_RecOk_j2, impl_IsAmt, impl_isNum, impl_isBallot, hm, bind_id, Bool.true_and, Bool.and_false, Bool.false_and, not_dec, impl_in_eq, impl_MsgOk_eq, Option.bind_some, beq_int, bne_int, Bool.cond_not, Bool.cond_decide, and_dec, Bool.and_true, Bool.not_true, Bool.not_false, _root_.cond_true, _root_.cond_false, Int.reduceEq, Int.reduceLE, Int.reduceLT, Int.reduceGT, gt_iff_lt, if_true, if_false, and_self, not_true, not_false_eq_true, decide_true, decide_false, true_and, and_true]
    try simp only [impl_RecOk_j1, impl_isNode, hm, bind_id, Bool.true_and, Bool.and_false, Bool.false_and, not_dec, impl_in_eq, impl_MsgOk_eq, Option.bind_some, beq_int, bne_int, Bool.cond_not, Bool.cond_decide, and_dec, Bool.and_true, Bool.not_true, Bool.not_false, _root_.cond_true, _root_.cond_false, Int.reduceEq, Int.reduceLE, Int.reduceLT, Int.reduceGT, gt_iff_lt, if_true, if_false, and_self, not_true, not_false_eq_true, decide_true, decide_false, true_and, and_true]
    repeat' (refine ite_l (fun _ => ?_) (fun _ => ?_))
  all_goals first | (simp only [Option.some.injEq, decide_eq_decide]; unfold RecP MZ; simp only [hm, Int.reduceEq, Int.reduceNeg, true_and, false_and, and_false, and_true, or_false, false_or, not_false_eq_true]; first | done | omega) | (refine congrArg some (Eq.symm (decide_eq_true (p := RecP _) ?_)); unfold RecP MZ; simp only [hm, Int.reduceEq, true_and, false_and, and_false, and_true, or_false, false_or, not_false_eq_true]; first | done | omega) | (refine congrArg some (Eq.symm (decide_eq_false (p := RecP _) ?_)); unfold RecP MZ; simp only [hm, Int.reduceEq, true_and, false_and, and_false, and_true, or_false, false_or, not_false_eq_true]; first | done | omega)
theorem impl_RecOk_8 (a o t n : Int) (m : SMsg) : impl_RecOk ⟨8, a, o, t, n, m⟩ = some (decide (RecP ⟨8, a, o, t, n, m⟩)) := by
  by_cases hm : MsgP m
  all_goals
    simp only [impl_RecOk, hm, bind_id, Bool.true_and, Bool.and_false, Bool.false_and, not_dec, impl_in_eq, impl_MsgOk_eq, Option.bind_some, beq_int, bne_int, Bool.cond_not, Bool.cond_decide, and_dec, Bool.and_true, Bool.not_true, Bool.not_false, _root_.cond_true, _root_.cond_false, Int.reduceEq, Int.reduceLE, Int.reduceLT, Int.reduceGT, gt_iff_lt, if_true, if_false, and_self, not_true, not_false_eq_true, decide_true, decide_false, true_and, and_true]
    try simp only [impl_RecOk_j2, impl_IsAmt, impl_isNum, impl_isBallot, hm, bind_id, Bool.true_and, Bool.and_false, Bool.false_and, not_dec, impl_in_eq, impl_MsgOk_eq, Option.bind_some, beq_int, bne_int, Bool.cond_not, Bool.cond_decide, and_dec, Bool.and_true, Bool.not_true, Bool.not_false, _root_.cond_true, _root_.cond_false, Int.reduceEq, Int.reduceLE, Int.reduceLT, Int.reduceGT, gt_iff_lt, if_true, if_false, and_self, not_true, not_false_eq_true, decide_true, decide_false, true_and, and_true]
    try simp only [impl_RecOk_j1, impl_isNode, hm, bind_id, Bool.true_and, Bool.and_false, Bool.false_and, not_dec, impl_in_eq, impl_MsgOk_eq, Option.bind_some, beq_int, bne_int, Bool.cond_not, Bool.cond_decide, and_dec, Bool.and_true, Bool.not_true, Bool.not_false, _root_.cond_true, _root_.cond_false, Int.reduceEq, Int.reduceLE, Int.reduceLT, Int.reduceGT, gt_iff_lt, if_true, if_false, and_self, not_true, not_false_eq_true, decide_true, decide_false, true_and, and_true]
    repeat' (refine ite_l (fun _ => ?_) (fun _ => ?_))
  all_goals first | (simp only [Option.some.injEq, decide_eq_decide]; unfold RecP MZ; simp only [hm, Int.reduceEq, Int.reduceNeg, true_and, false_and, and_false, and_true, or_false, false_or, not_false_eq_true]; first | done | omega) | (refine congrArg some (Eq.symm (decide_eq_true (p := RecP _) ?_)); unfold RecP MZ; simp only [hm, Int.reduceEq, true_and, false_and, and_false, and_true, or_false, false_or, not_false_eq_true]; first | done | omega) | (refine congrArg some (Eq.symm (decide_eq_false (p := RecP _) ?_)); unfold RecP MZ; simp only [hm, Int.reduceEq, true_and, false_and, and_false, and_true, or_false, false_or, not_false_eq_true]; first | done | omega)
theorem impl_RecOk_9 (a o t n : Int) (m : SMsg) : impl_RecOk ⟨9, a, o, t, n, m⟩ = some (decide (RecP ⟨9, a, o, t, n, m⟩)) := by
  by_cases hm : MsgP m
  all_goals
    simp only [impl_RecOk, hm, bind_id, Bool.true_and, Bool.and_false, Bool.false_and, not_dec, impl_in_eq, impl_MsgOk_eq, Option.bind_some, beq_int, bne_int, Bool.cond_not, Bool.cond_decide, and_dec, Bool.and_true, Bool.not_true, Bool.not_false, _root_.cond_true, _root_.cond_false, Int.reduceEq, Int.reduceLE, Int.reduceLT, Int.reduceGT, gt_iff_lt, if_true, if_false, and_self, not_true, not_false_eq_true, decide_true, decide_false, true_and, and_true]
    try simp only [impl_RecOk_j2, impl_IsAmt, impl_isNum, impl_isBallot, hm, bind_id, Bool.true_and, Bool.and_false, Bool.false_and, not_dec, impl_in_eq, impl_MsgOk_eq, Option.bind_some, beq_int, bne_int, Bool.cond_not, Bool.cond_decide, and_dec, Bool.and_true, Bool.not_true, Bool.not_false, _root_.cond_true, _root_.cond_false, Int.reduceEq, Int.reduceLE, Int.reduceLT, Int.reduceGT, gt_iff_lt, if_true, if_false, and_self, not_true, not_false_eq_true, decide_true, decide_false, true_and, and_true]
    try simp only [impl_RecOk_j1, impl_isNode, hm, bind_id, Bool.true_and, Bool.and_false, Bool.false_and, not_dec, impl_in_eq, impl_MsgOk_eq, Option.bind_some, beq_int, bne_int, Bool.cond_not, Bool.cond_decide, and_dec, Bool.and_true, Bool.not_true, Bool.not_false, _root_.cond_true, _root_.cond_false, Int.reduceEq, Int.reduceLE, Int.reduceLT, Int.reduceGT, gt_iff_lt, if_true, if_false, and_self, not_true, not_false_eq_true, decide_true, decide_false, true_and, and_true]
    repeat' (refine ite_l (fun _ => ?_) (fun _ => ?_))
  all_goals first | (simp only [Option.some.injEq, decide_eq_decide]; unfold RecP MZ; simp only [hm, Int.reduceEq, Int.reduceNeg, true_and, false_and, and_false, and_true, or_false, false_or, not_false_eq_true]; first | done | omega) | (refine congrArg some (Eq.symm (decide_eq_true (p := RecP _) ?_)); unfold RecP MZ; simp only [hm, Int.reduceEq, true_and, false_and, and_false, and_true, or_false, false_or, not_false_eq_true]; first | done | omega) | (refine congrArg some (Eq.symm (decide_eq_false (p := RecP _) ?_)); unfold RecP MZ; simp only [hm, Int.reduceEq, true_and, false_and, and_false, and_true, or_false, false_or, not_false_eq_true]; first | done | omega)
theorem rec_other {r : SRec} (h : ¬ (1 ≤ r.fKind ∧ r.fKind ≤ 9)) : ¬ RecP r := by unfold RecP; omega
theorem spec_RecOk_eq (r : SRec) : spec_RecOk r = some (decide (RecP r)) := by
  by_cases h : 1 ≤ r.fKind ∧ r.fKind ≤ 9
  · obtain ⟨k, a, o, t, n, m⟩ := r
    simp only at h
    rcases (show k = 1 ∨ k = 2 ∨ k = 3 ∨ k = 4 ∨ k = 5 ∨ k = 6 ∨ k = 7 ∨ k = 8 ∨ k = 9 by omega) with rfl | rfl | rfl | rfl | rfl | rfl | rfl | rfl | rfl
    · exact spec_RecOk_1 ..
    · exact spec_RecOk_2 ..
    · exact spec_RecOk_3 ..
    · exact spec_RecOk_4 ..
    · exact spec_RecOk_5 ..
    · exact spec_RecOk_6 ..
    · exact spec_RecOk_7 ..
    · exact spec_RecOk_8 ..
    · exact spec_RecOk_9 ..
  · rw [decide_eq_false (rec_other h)]
    have ht : ∃ v, spec_l10Has r.fKind = some v := by
      unfold spec_l10Has spec_l10Has_j1 spec_l10Has_j2
      cases (r.fKind != 5) <;> cases (r.fKind == 3) <;> cases (r.fKind == 4) <;> cases (r.fKind == 5) <;> cases (r.fKind == 6) <;> cases (r.fKind == 8) <;> exact ⟨_, rfl⟩
    obtain ⟨v, hv⟩ := ht
    unfold spec_RecOk
    rw [hv, Option.bind_some, spec_in_eq, Option.bind_some, decide_eq_false h]
    rfl
theorem impl_RecOk_eq (r : SRec) : impl_RecOk r = some (decide (RecP r)) := by
  by_cases h : 1 ≤ r.fKind ∧ r.fKind ≤ 9
  · obtain ⟨k, a, o, t, n, m⟩ := r
    simp only at h
    rcases (show k = 1 ∨ k = 2 ∨ k = 3 ∨ k = 4 ∨ k = 5 ∨ k = 6 ∨ k = 7 ∨ k = 8 ∨ k = 9 by omega) with rfl | rfl | rfl | rfl | rfl | rfl | rfl | rfl | rfl
    · exact impl_RecOk_1 ..
    · exact impl_RecOk_2 ..
    · exact impl_RecOk_3 ..
    · exact impl_RecOk_4 ..
    · exact impl_RecOk_5 ..
    · exact impl_RecOk_6 ..
    · exact impl_RecOk_7 ..
    · exact impl_RecOk_8 ..
    · exact impl_RecOk_9 ..
  · rw [decide_eq_false (rec_other h)]
    have e : ∀ j : Int, 1 ≤ j → j ≤ 9 → (r.fKind == j) = false := fun j h1 h2 => by rw [beq_int]; exact decide_eq_false (by omega)
    unfold impl_RecOk impl_RecOk_j2
    rw [e 1 (by omega) (by omega), e 2 (by omega) (by omega), e 3 (by omega) (by omega), e 4 (by omega) (by omega), e 5 (by omega) (by omega), e 6 (by omega) (by omega), e 7 (by omega) (by omega), e 8 (by omega) (by omega), e 9 (by omega) (by omega)]
    rfl

end Go.Proofs.Ytncjcbdbdocjaaa

/- Loops over lists, in general. -/
namespace Go.Proofs.Ytncjcbdbdocjaaa
open Go

theorem eqL_gen {α : Type} [DecidableEq α] {f : List α → Nat → Option Bool} {b : List α} (hn : ∀ i, f [] i = some true)
    (hc : ∀ x t (i : Nat), f (x :: t) i = (ix b (i : Int)).bind fun y => bif decide (x = y) then f t (i + 1) else some false) :
    ∀ (t L : List α) (i : Nat), t = L.drop i → b.length = L.length → i ≤ L.length → f t i = some (decide (t = b.drop i))
  | [], L, i, hd, hl, hi => by
    have := List.drop_eq_nil_iff.1 hd.symm
    rw [hn, List.drop_eq_nil_of_le (by omega)]; simp
  | x :: t, L, i, hd, hl, hi => by
    obtain ⟨h1, h2, h3⟩ := drop_cons hd
    have hlt : i < b.length := by omega
    rw [hc, ix_nat]
    have hy : b[i]? = some b[i] := by simp [hlt]
    rw [hy, Option.bind_some, List.drop_eq_getElem_cons hlt]
    by_cases hx : x = b[i]
    · simp only [hx, decide_true, cond_true]
      rw [eqL_gen hn hc t L (i + 1) h1 hl (by omega)]
      simp only [List.cons.injEq, true_and]
    · simp only [hx, decide_false, cond_false, List.cons.injEq, false_and]
theorem eqS_gen {α : Type} [DecidableEq α] {f : List α → Nat → Option Bool} {a b : List α} (hn : ∀ i, f [] i = some true)
    (hc : ∀ x t (i : Nat), f (x :: t) i = (ix b (i : Int)).bind fun y => bif decide (x = y) then f t (i + 1) else some false) :
    (bif ((a.length : Int) != (b.length : Int)) then some false else f a 0) = some (decide (a = b)) := by
  by_cases h : a.length = b.length
  · have hb : ((a.length : Int) != (b.length : Int)) = false := by simp [h]
    rw [hb, cond_false, eqL_gen hn hc a a 0 rfl h.symm (by omega)]; simp
  · have hb : ((a.length : Int) != (b.length : Int)) = true := by simp; omega
    rw [hb, cond_true]
    have : a ≠ b := fun he => h (by rw [he])
    simp [this]
theorem toL_gen {α : Type} {f : List α → Nat → List α → Option (List α)} {q : α → Prop} (hn : ∀ i y, f [] i y = some y)
    (hc : ∀ x t (i : Nat) y, q x → f (x :: t) i y = (ix y (i : Int)).bind fun _ => f t (i + 1) (List.set y (Int.toNat (i : Int)) x)) :
    ∀ (t L : List α) (i : Nat) (y : List α), t = L.drop i → y.length = L.length → y.take i = L.take i → i ≤ L.length → (∀ x ∈ t, q x) → f t i y = some L
  | [], L, i, y, hd, hl, ht, hi, hq => by
    have := List.drop_eq_nil_iff.1 hd.symm
    rw [hn]
    rw [List.take_of_length_le (by omega), List.take_of_length_le (by omega)] at ht
    rw [ht]
  | x :: t, L, i, y, hd, hl, ht, hi, hq => by
    obtain ⟨h1, h2, h3⟩ := drop_cons hd
    rw [hc x t i y (hq x (by simp)), ix_nat]
    have hy : y[i]? = some (y[i]'(by omega)) := by simp [show i < y.length by omega]
    rw [hy, Option.bind_some]
    refine toL_gen hn hc t L (i + 1) _ h1 (by simp [hl]) ?_ (by omega) (fun x hx => hq x (by simp [hx]))
    rw [List.take_add_one, List.take_add_one, List.take_set_of_le (by simp), ht]
    simp [show i < y.length by omega, h2]
theorem toS_gen {α : Type} {f : List α → Nat → List α → Option (List α)} {q : α → Prop} {b : Nat} {z : α} {l : List α} (hb : b ≤ 4096) (h : l.length ≤ 1048576) (hq : ∀ x ∈ l, q x) (hn : ∀ i y, f [] i y = some y)
    (hc : ∀ x t (i : Nat) y, q x → f (x :: t) i y = (ix y (i : Int)).bind fun _ => f t (i + 1) (List.set y (Int.toNat (i : Int)) x)) :
    gO (0 ≤ (l.length : Int) ∧ room b (Int.toNat (l.length : Int))) (f l 0 (List.replicate (Int.toNat (l.length : Int)) z)) = some l := by
  rw [gO_t ⟨by omega, room_of hb (by simp; omega)⟩]
  exact toL_gen hn hc l l 0 _ rfl (by simp) (by simp) (by omega) hq
/-- A budget that is lessened by a length. -/
theorem szL_gen {n : Nat} {k : Int} (hl : n ≤ maxLen) (hk0 : -1 ≤ k) (hk : k ≤ 1048576) :
    ∃ v, (bif (decide ((w64 (k - (n : Int))) < 0)) then some (-1) else some (w64 (k - (n : Int)))) = some v ∧ -1 ≤ v ∧ v ≤ k ∧ (0 ≤ v → 0 ≤ k → n ≤ 1048576) := by
  have h3 : (maxLen : Int) = 9223372036854775807 ∨ maxLen ≤ 140737488355328 := by decide
  have h2 : n ≤ 9223372036854775807 := hl
  have hw : w64 (k - (n : Int)) = k - n := w64_id (by rcases h3 with h3 | h3 <;> omega) (by omega)
  rw [hw]
  by_cases h : k - (n : Int) < 0
  · simp only [h, decide_true, cond_true]; exact ⟨_, rfl, by omega, by omega, by omega⟩
  · simp only [h, decide_false, cond_false]; exact ⟨_, rfl, by omega, by omega, by omega⟩

end Go.Proofs.Ytncjcbdbdocjaaa

/- The laws' own helpers over Msg. -/
namespace Go.Proofs.Ytncjcbdbdocjaaa
open Go

theorem toMsg_eq (a : SMsg) : laws_toMsg a = some a := rfl

end Go.Proofs.Ytncjcbdbdocjaaa

/- The laws' own helpers over Rec. -/
namespace Go.Proofs.Ytncjcbdbdocjaaa
open Go

theorem toRec_eq (a : SRec) : laws_toRec a = some a := by unfold laws_toRec; simp only [toMsg_eq, Option.bind_some]

end Go.Proofs.Ytncjcbdbdocjaaa

/- The laws' own helpers over ByteS. -/
namespace Go.Proofs.Ytncjcbdbdocjaaa
open Go

theorem eqByteS_eq (a b : List Int) : laws_eqByteS a b = some (decide (a = b)) := by
  unfold laws_eqByteS
  exact eqS_gen (f := laws_eqByteS_l1 b) (fun i => by rw [laws_eqByteS_l1]) (fun x t i => by rw [laws_eqByteS_l1]; congr 1; funext y; rw [bne_int]; cases decide (x = y) <;> rfl)

end Go.Proofs.Ytncjcbdbdocjaaa

/- Marking a list's elements, and finding the marks again: in general. -/
namespace Go.Proofs.Ytncjcbdbdocjaaa
open Go

def mkL {α : Type} (m : Int → α → Int × α) : Int → List α → Int × List α
  | k, [] => (k, [])
  | k, x :: t => ((mkL m (m k x).1 t).1, (m k x).2 :: (mkL m (m k x).1 t).2)
theorem w64_succ {j : Int} (h0 : 0 ≤ j) (h1 : j ≤ 2305843009213693952) : w64 (j + 1) = j + 1 := w64_id (by omega) (by omega)
theorem mark_gen {α : Type} {m : Int → α → Int × α} {f : Nat → Int → Int → List α → Option (Int × List α)}
    (hc : ∀ n i k l, f (n + 1) i k l = bif decide (i < (l.length : Int)) then (ix l i).bind fun x => f n (w64 (i + 1)) (m k x).1 (List.set l (Int.toNat i) (m k x).2) else some (k, l)) :
    ∀ (n i : Nat) (k : Int) (l : List α), l.length - i < n → i ≤ l.length → l.length ≤ 1099511627776 → f n (i : Int) k l = some ((mkL m k (l.drop i)).1, l.take i ++ (mkL m k (l.drop i)).2)
  | 0, i, k, l, h1, h2, h3 => by omega
  | n + 1, i, k, l, h1, h2, h3 => by
    rw [hc]
    by_cases hi : i < l.length
    · have hd : decide ((i : Int) < (l.length : Int)) = true := by simp; omega
      have hx : l[i]? = some l[i] := by simp [hi]
      rw [hd, cond_true, ix_nat, hx, Option.bind_some, w64_succ (by omega) (by omega), show (i : Int) + 1 = ((i + 1 : Nat) : Int) by omega, show Int.toNat (i : Int) = i by omega]
      rw [mark_gen hc n (i + 1) _ _ (by simp; omega) (by simp; omega) (by simpa using h3)]
      have e1 : l.drop i = l[i] :: l.drop (i + 1) := List.drop_eq_getElem_cons hi
      have e2 : (l.set i (m k l[i]).2).drop (i + 1) = l.drop (i + 1) := by rw [List.drop_set_of_lt (by omega)]
      have e3 : (l.set i (m k l[i]).2).take (i + 1) = l.take i ++ [(m k l[i]).2] := by
        rw [List.take_add_one, List.take_set_of_le (by omega)]
        simp [hi]
      rw [e1, e2, e3]
      simp [mkL]
    · have hd : decide ((i : Int) < (l.length : Int)) = false := by simp; omega
      rw [hd, cond_false, List.drop_eq_nil_of_le (by omega), List.take_of_length_le (by omega)]
      simp [mkL]
theorem markS_gen {α : Type} {m : Int → α → Int × α} {f : Nat → Int → Int → List α → Option (Int × List α)}
    (hc : ∀ n i k l, f (n + 1) i k l = bif decide (i < (l.length : Int)) then (ix l i).bind fun x => f n (w64 (i + 1)) (m k x).1 (List.set l (Int.toNat i) (m k x).2) else some (k, l))
    (k : Int) {l : List α} (h : l.length ≤ 1099511627776) : f fuel 0 k l = some (mkL m k l) := by
  have := mark_gen hc fuel 0 k l (by unfold fuel; omega) (by omega) h
  simpa using this
theorem held_gen {α : Type} {m : Int → α → Int × α} {g : List α → Nat → Int → Option Int} (hn : ∀ i k, g [] i k = some k) (hc : ∀ k x t i, g ((m k x).2 :: t) i k = g t (i + 1) (m k x).1) :
    ∀ (l : List α) (i : Nat) (k : Int), g (mkL m k l).2 i k = some (mkL m k l).1
  | [], i, k => by simp [mkL, hn]
  | x :: t, i, k => by
    simp only [mkL]
    rw [hc, held_gen hn hc t (i + 1)]
theorem mkL_len {α : Type} {m : Int → α → Int × α} : ∀ (l : List α) (k : Int), (mkL m k l).2.length = l.length
  | [], k => rfl
  | x :: t, k => by simp [mkL, mkL_len t]
theorem mkL_fst {α : Type} {m : Int → α → Int × α} (c : Nat) (hm : ∀ k x, 0 ≤ k → k ≤ 1152921504606846976 → (m k x).1 = k + c) : ∀ (l : List α) (k : Int), 0 ≤ k → k + c * l.length ≤ 1152921504606846976 → (mkL m k l).1 = k + c * l.length
  | [], k, h0, h1 => by simp [mkL]
  | x :: t, k, h0, h1 => by
    have e : (c : Int) * ((x :: t).length : Int) = c + c * (t.length : Int) := by simp [Int.mul_add, Int.add_comm]
    rw [e] at h1 ⊢
    have hp : (0 : Int) ≤ (c : Int) * (t.length : Int) := Int.mul_nonneg (by omega) (by omega)
    simp only [mkL]
    rw [hm k x h0 (by omega), mkL_fst c hm t (k + c) (by omega) (by omega)]
    omega

end Go.Proofs.Ytncjcbdbdocjaaa

/- The laws' own helpers over mark and held, []Byte. -/
namespace Go.Proofs.Ytncjcbdbdocjaaa
open Go

def mByte (k : Int) (x : Int) : Int × Int := (w64 (k + 1), wk .u8 k)
theorem markByteS_eq (k : Int) {l : List Int} (h : l.length ≤ 1099511627776) : laws_markByteS l k = some (mkL mByte k l) := by
  unfold laws_markByteS
  exact markS_gen (f := laws_markByteS_l1) (fun n i k l => by rw [laws_markByteS_l1]; rfl) k h
theorem heldByteS_eq (k : Int) (l : List Int) : laws_heldByteS (mkL mByte k l).2 k = some (mkL mByte k l).1 := by
  unfold laws_heldByteS
  exact held_gen (g := laws_heldByteS_l1) (fun i k => by rw [laws_heldByteS_l1]) (fun k x t i => by rw [laws_heldByteS_l1]; simp [mByte]) l 0 k
theorem mkByteS_fst {k : Int} (l : List Int) (h0 : 0 ≤ k) (h1 : k + 1 * l.length ≤ 1152921504606846976) : (mkL mByte k l).1 = k + 1 * l.length :=
  mkL_fst 1 (fun k x h0 h1 => by simp (disch := omega) only [mByte, w64_succ]; omega) l k h0 h1
theorem mhByteS {l : List Int} (h : l.length ≤ 1099511627776) : ∃ k q, laws_markByteS l 1 = some (k, q) ∧ decide (k < 0) = false ∧ laws_heldByteS q 1 = some k := by
  refine ⟨_, _, markByteS_eq 1 h, ?_, heldByteS_eq 1 l⟩
  rw [mkByteS_fst l (by omega) (by omega)]; simp; omega

end Go.Proofs.Ytncjcbdbdocjaaa

/- The law FnExactRecBytes answers true. -/
namespace Go.Proofs.Ytncjcbdbdocjaaa
open Go

theorem addMsg_ok {y : List Int} {m : SMsg} (h : MsgP m) (hy : y.length ≤ 100) : ∃ r, impl_addMsg y m = some r ∧ spec_MsgPut y m = some (r, true) ∧ r.length ≤ y.length + 32 := by
  unfold impl_addMsg spec_MsgPut
  have hk : 0 ≤ m.fKind ∧ m.fKind ≤ 1125899906842624 := by unfold MsgP at h; omega
  have ha : 0 ≤ m.fAcct ∧ m.fAcct ≤ 1125899906842624 := by unfold MsgP at h; omega
  have hn : 0 ≤ m.fAmt ∧ m.fAmt ≤ 1125899906842624 := by unfold MsgP at h; omega
  have hs : 0 ≤ m.fSrc ∧ m.fSrc ≤ 1125899906842624 := by unfold MsgP at h; omega
  obtain ⟨r1, e1, l1⟩ := addNum_ok hk.1 hk.2 (y := y) (by omega)
  obtain ⟨r2, e2, l2⟩ := addNum_ok ha.1 ha.2 (y := r1) (by omega)
  obtain ⟨r3, e3, l3⟩ := addNum_ok hn.1 hn.2 (y := r2) (by omega)
  obtain ⟨r4, e4, l4⟩ := addNum_ok hs.1 hs.2 (y := r3) (by omega)
  rw [spec_MsgOk_eq, decide_eq_true h]
  simp only [Option.bind_some, Bool.not_true, _root_.cond_false, l01Put_eq hk.1 hk.2 (show y.length ≤ 34359738300 by omega), l01Put_eq ha.1 ha.2 (show r1.length ≤ 34359738300 by omega), l01Put_eq hn.1 hn.2 (show r2.length ≤ 34359738300 by omega), l01Put_eq hs.1 hs.2 (show r3.length ≤ 34359738300 by omega), e1, e2, e3, e4]
  exact ⟨_, rfl, rfl, by omega⟩
theorem both_RecBytes (r : SRec) : ∃ w, impl_RecBytes r = some w ∧ spec_RecBytes r = some w ∧ w.1.length ≤ 200 := by
  unfold impl_RecBytes spec_RecBytes
  rw [impl_RecOk_eq, spec_RecOk_eq, Option.bind_some, Option.bind_some]
  by_cases h : RecP r
  · have hk : 0 ≤ r.fKind ∧ r.fKind ≤ 1125899906842624 := by unfold RecP at h; omega
    have ha : 0 ≤ r.fAcct ∧ r.fAcct ≤ 1125899906842624 := by unfold RecP at h; omega
    have ho : 0 ≤ r.fOther ∧ r.fOther ≤ 1125899906842624 := by unfold RecP at h; omega
    have ht : 0 ≤ r.fTo ∧ r.fTo ≤ 1125899906842624 := by unfold RecP at h; omega
    have hn : 0 ≤ r.fAmt ∧ r.fAmt ≤ 1125899906842624 := by unfold RecP at h; omega
    obtain ⟨r1, e1, l1⟩ := addNum_ok hk.1 hk.2 (y := []) (by simp)
    obtain ⟨r2, e2, l2⟩ := addNum_ok ha.1 ha.2 (y := r1) (by simp at l1; omega)
    obtain ⟨r3, e3, l3⟩ := addNum_ok ho.1 ho.2 (y := r2) (by simp at l1; omega)
    obtain ⟨r4, e4, l4⟩ := addNum_ok ht.1 ht.2 (y := r3) (by simp at l1; omega)
    obtain ⟨r5, e5, l5⟩ := addNum_ok hn.1 hn.2 (y := r4) (by simp at l1; omega)
    simp only [List.length_nil] at l1
    rw [decide_eq_true h]
    simp only [Option.bind_some, Bool.not_true, _root_.cond_false, l01Put_eq hk.1 hk.2 (show ([] : List Int).length ≤ 34359738300 by simp), l01Put_eq ha.1 ha.2 (show r1.length ≤ 34359738300 by omega), l01Put_eq ho.1 ho.2 (show r2.length ≤ 34359738300 by omega), l01Put_eq ht.1 ht.2 (show r3.length ≤ 34359738300 by omega), l01Put_eq hn.1 hn.2 (show r4.length ≤ 34359738300 by omega), e1, e2, e3, e4, e5, beq_int]
    by_cases h5 : r.fKind = 5
    · have hm : MsgP r.fM := by
        unfold RecP at h
        rcases h.2.2.2.2.2.2 with c | c | c | c | c | c | c | c
        · exact absurd c.1 (by omega)
        · exact absurd c.1 (by omega)
        · exact absurd c.1 (by omega)
        · exact c.2.2.2.2.2
        · exact absurd c.1 (by omega)
        · exact absurd c.1 (by omega)
        · exact absurd c.1 (by omega)
        · exact absurd c.1 (by omega)
      obtain ⟨z, f1, f2, f3⟩ := addMsg_ok (y := r5) hm (by omega)
      rw [decide_eq_true h5, _root_.cond_true, _root_.cond_true, f1, f2]
      exact ⟨_, rfl, rfl, by show z.length ≤ 200; omega⟩
    · rw [decide_eq_false h5, _root_.cond_false, _root_.cond_false]
      exact ⟨_, rfl, rfl, by show r5.length ≤ 200; omega⟩
  · rw [decide_eq_false h]; exact ⟨_, rfl, rfl, by simp⟩
theorem pure_FnExactRecBytes (p : SRec) (h : wfRec p) : laws_FnExactRecBytes p = some true := by
  unfold laws_FnExactRecBytes
  obtain ⟨w, h1, h2, hl⟩ := both_RecBytes p
  obtain ⟨k, q, g1, g2, g3⟩ := mhByteS (l := w.1) (by omega)
  simp only [toRec_eq, Option.bind_some, h1, h2, eqByteS_eq, decide_true, Bool.not_true, _root_.cond_false, bne_self_eq_false, g1, g2, g3]

end Go.Proofs.Ytncjcbdbdocjaaa

