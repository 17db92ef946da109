/- The plain law FnExactNetTo and what it needs: no program in sight. -/
import Derived.Test.YteolobihfindjabUFnExactNetTo
set_option linter.unusedVariables false
set_option linter.unusedSimpArgs false

/- Small plain facts: numbers, and the laws' own helpers over lists of numbers. -/
namespace Go.Proofs.Yteolobihfindjab
open Go

theorem w64_id {n : Int} (h1 : -9223372036854775808 ≤ n) (h2 : n ≤ 9223372036854775807) : w64 n = n := by
  unfold w64; rw [IntKind.wrap_i64]; omega
theorem room_of {b n : Nat} (hb : b ≤ 4096) (hn : n ≤ 34359738368) : room b n := by
  have : n * b ≤ 34359738368 * 4096 := Nat.mul_le_mul hn hb
  exact ⟨by omega, by omega⟩
theorem gO_t {α : Type} {c : Prop} [Decidable c] {k : Option α} (h : c) : gO c k = k := by simp [gO, h]
theorem drop_cons {α : Type} {L t : List α} {x : α} {i : Nat} (h : x :: t = L.drop i) : t = L.drop (i + 1) ∧ L[i]? = some x ∧ i < L.length := by
  have h1 := dnext h
  have h2 := ix_get (dget h)
  exact ⟨h1, by simpa using h2, dlt h⟩
theorem ix_nat {α : Type} (l : List α) (i : Nat) : ix l (i : Int) = l[i]? := by simp [ix]
theorem ix_lt {α : Type} {l : List α} {i : Int} (h0 : 0 ≤ i) (h1 : i < l.length) : ∃ x, ix l i = some x := by
  unfold ix
  rw [if_pos h0]
  exact ⟨l[i.toNat]'(by omega), by simp⟩
theorem w64_pred {i : Nat} (h0 : 0 < i) (h1 : i ≤ maxLen) : w64 ((i : Int) - 1) = ((i - 1 : Nat) : Int) := by
  have h2 : i ≤ 9223372036854775807 := h1
  rw [w64_id (by omega) (by omega)]; omega

theorem beq_dec {α : Type} [DecidableEq α] (x y : α) : (x == y) = decide (x = y) := by by_cases h : x = y <;> simp [h]
theorem bne_dec {α : Type} [DecidableEq α] (x y : α) : (x != y) = !decide (x = y) := by unfold bne; rw [beq_dec]
theorem beq_int (x y : Int) : (x == y) = decide (x = y) := beq_dec x y
theorem bne_int (x y : Int) : (x != y) = !decide (x = y) := bne_dec x y
theorem and_dec (p q : Prop) [Decidable p] [Decidable q] : (decide p && decide q) = decide (p ∧ q) := by simp
theorem or_dec (p q : Prop) [Decidable p] [Decidable q] : (decide p || decide q) = decide (p ∨ q) := by simp
theorem not_dec (p : Prop) [Decidable p] : (!decide p) = decide (¬ p) := by simp
theorem bind_id {α : Type} (x : Option α) : (x.bind fun v => some v) = x := by cases x <;> rfl

end Go.Proofs.Yteolobihfindjab

/- Loops over lists, in general. -/
namespace Go.Proofs.Yteolobihfindjab
open Go

theorem eqL_gen {α : Type} [DecidableEq α] {f : List α → Nat → Option Bool} {b : List α} (hn : ∀ i, f [] i = some true)
    (hc : ∀ x t (i : Nat), f (x :: t) i = (ix b (i : Int)).bind fun y => bif decide (x = y) then f t (i + 1) else some false) :
    ∀ (t L : List α) (i : Nat), t = L.drop i → b.length = L.length → i ≤ L.length → f t i = some (decide (t = b.drop i))
  | [], L, i, hd, hl, hi => by
    have := List.drop_eq_nil_iff.1 hd.symm
    rw [hn, List.drop_eq_nil_of_le (by omega)]; simp
  | x :: t, L, i, hd, hl, hi => by
    obtain ⟨h1, h2, h3⟩ := drop_cons hd
    have hlt : i < b.length := by omega
    rw [hc, ix_nat]
    have hy : b[i]? = some b[i] := by simp [hlt]
    rw [hy, Option.bind_some, List.drop_eq_getElem_cons hlt]
    by_cases hx : x = b[i]
    · simp only [hx, decide_true, cond_true]
      rw [eqL_gen hn hc t L (i + 1) h1 hl (by omega)]
      simp only [List.cons.injEq, true_and]
    · simp only [hx, decide_false, cond_false, List.cons.injEq, false_and]
theorem eqS_gen {α : Type} [DecidableEq α] {f : List α → Nat → Option Bool} {a b : List α} (hn : ∀ i, f [] i = some true)
    (hc : ∀ x t (i : Nat), f (x :: t) i = (ix b (i : Int)).bind fun y => bif decide (x = y) then f t (i + 1) else some false) :
    (bif ((a.length : Int) != (b.length : Int)) then some false else f a 0) = some (decide (a = b)) := by
  by_cases h : a.length = b.length
  · have hb : ((a.length : Int) != (b.length : Int)) = false := by simp [h]
    rw [hb, cond_false, eqL_gen hn hc a a 0 rfl h.symm (by omega)]; simp
  · have hb : ((a.length : Int) != (b.length : Int)) = true := by simp; omega
    rw [hb, cond_true]
    have : a ≠ b := fun he => h (by rw [he])
    simp [this]
theorem toL_gen {α : Type} {f : List α → Nat → List α → Option (List α)} {q : α → Prop} (hn : ∀ i y, f [] i y = some y)
    (hc : ∀ x t (i : Nat) y, q x → f (x :: t) i y = (ix y (i : Int)).bind fun _ => f t (i + 1) (List.set y (Int.toNat (i : Int)) x)) :
    ∀ (t L : List α) (i : Nat) (y : List α), t = L.drop i → y.length = L.length → y.take i = L.take i → i ≤ L.length → (∀ x ∈ t, q x) → f t i y = some L
  | [], L, i, y, hd, hl, ht, hi, hq => by
    have := List.drop_eq_nil_iff.1 hd.symm
    rw [hn]
    rw [List.take_of_length_le (by omega), List.take_of_length_le (by omega)] at ht
    rw [ht]
  | x :: t, L, i, y, hd, hl, ht, hi, hq => by
    obtain ⟨h1, h2, h3⟩ := drop_cons hd
    rw [hc x t i y (hq x (by simp)), ix_nat]
    have hy : y[i]? = some (y[i]'(by omega)) := by simp [show i < y.length by omega]
    rw [hy, Option.bind_some]
    refine toL_gen hn hc t L (i + 1) _ h1 (by simp [hl]) ?_ (by omega) (fun x hx => hq x (by simp [hx]))
    rw [List.take_add_one, List.take_add_one, List.take_set_of_le (by simp), ht]
    simp [show i < y.length by omega, h2]
theorem toS_gen {α : Type} {f : List α → Nat → List α → Option (List α)} {q : α → Prop} {b : Nat} {z : α} {l : List α} (hb : b ≤ 4096) (h : l.length ≤ 1048576) (hq : ∀ x ∈ l, q x) (hn : ∀ i y, f [] i y = some y)
    (hc : ∀ x t (i : Nat) y, q x → f (x :: t) i y = (ix y (i : Int)).bind fun _ => f t (i + 1) (List.set y (Int.toNat (i : Int)) x)) :
    gO (0 ≤ (l.length : Int) ∧ room b (Int.toNat (l.length : Int))) (f l 0 (List.replicate (Int.toNat (l.length : Int)) z)) = some l := by
  rw [gO_t ⟨by omega, room_of hb (by simp; omega)⟩]
  exact toL_gen hn hc l l 0 _ rfl (by simp) (by simp) (by omega) hq
/-- A budget that is lessened by a length. -/
theorem szL_gen {n : Nat} {k : Int} (hl : n ≤ maxLen) (hk0 : -1 ≤ k) (hk : k ≤ 1048576) :
    ∃ v, (bif (decide ((w64 (k - (n : Int))) < 0)) then some (-1) else some (w64 (k - (n : Int)))) = some v ∧ -1 ≤ v ∧ v ≤ k ∧ (0 ≤ v → 0 ≤ k → n ≤ 1048576) := by
  have h3 : (maxLen : Int) = 9223372036854775807 ∨ maxLen ≤ 140737488355328 := by decide
  have h2 : n ≤ 9223372036854775807 := hl
  have hw : w64 (k - (n : Int)) = k - n := w64_id (by rcases h3 with h3 | h3 <;> omega) (by omega)
  rw [hw]
  by_cases h : k - (n : Int) < 0
  · simp only [h, decide_true, cond_true]; exact ⟨_, rfl, by omega, by omega, by omega⟩
  · simp only [h, decide_false, cond_false]; exact ⟨_, rfl, by omega, by omega, by omega⟩

end Go.Proofs.Yteolobihfindjab

/- The laws' own helpers over Msg. -/
namespace Go.Proofs.Yteolobihfindjab
open Go

theorem eqMsg_eq (a b : SMsg) : laws_eqMsg a b = some (decide (a = b)) := by
  obtain ⟨x0, x1, x2, x3⟩ := a
  obtain ⟨y0, y1, y2, y3⟩ := b
  unfold laws_eqMsg
  by_cases h0 : x0 = y0
  · subst h0
    by_cases h1 : x1 = y1
    · subst h1
      by_cases h2 : x2 = y2
      · subst h2
        by_cases h3 : x3 = y3
        · subst h3
          simp [bne_int, SMsg.mk.injEq]
        · simp [bne_int, SMsg.mk.injEq, h3]
      · simp [bne_int, SMsg.mk.injEq, h2]
    · simp [bne_int, SMsg.mk.injEq, h1]
  · simp [bne_int, SMsg.mk.injEq, h0]

end Go.Proofs.Yteolobihfindjab

/- The laws' own helpers over Packet. -/
namespace Go.Proofs.Yteolobihfindjab
open Go

theorem eqPacket_eq (a b : SPacket) : laws_eqPacket a b = some (decide (a = b)) := by
  obtain ⟨x0, x1, x2, x3, x4, x5, x6, x7⟩ := a
  obtain ⟨y0, y1, y2, y3, y4, y5, y6, y7⟩ := b
  unfold laws_eqPacket
  by_cases h0 : x0 = y0
  · subst h0
    by_cases h1 : x1 = y1
    · subst h1
      by_cases h2 : x2 = y2
      · subst h2
        by_cases h3 : x3 = y3
        · subst h3
          by_cases h4 : x4 = y4
          · subst h4
            by_cases h5 : x5 = y5
            · subst h5
              by_cases h6 : x6 = y6
              · subst h6
                by_cases h7 : x7 = y7
                · subst h7
                  simp [bne_int, SPacket.mk.injEq, eqMsg_eq]
                · simp [bne_int, SPacket.mk.injEq, eqMsg_eq, h7]
              · simp [bne_int, SPacket.mk.injEq, eqMsg_eq, h6]
            · simp [bne_int, SPacket.mk.injEq, eqMsg_eq, h5]
          · simp [bne_int, SPacket.mk.injEq, eqMsg_eq, h4]
        · simp [bne_int, SPacket.mk.injEq, eqMsg_eq, h3]
      · simp [bne_int, SPacket.mk.injEq, eqMsg_eq, h2]
    · simp [bne_int, SPacket.mk.injEq, eqMsg_eq, h1]
  · simp [bne_int, SPacket.mk.injEq, eqMsg_eq, h0]

end Go.Proofs.Yteolobihfindjab

/- The laws' own helpers over PacketS. -/
namespace Go.Proofs.Yteolobihfindjab
open Go

theorem eqPacketS_eq (a b : List SPacket) : laws_eqPacketS a b = some (decide (a = b)) := by
  unfold laws_eqPacketS
  exact eqS_gen (f := laws_eqPacketS_l1 b) (fun i => by rw [laws_eqPacketS_l1]) (fun x t i => by rw [laws_eqPacketS_l1]; congr 1; funext y; rw [eqPacket_eq, Option.bind_some]; cases decide (x = y) <;> rfl)

end Go.Proofs.Yteolobihfindjab

/- The laws' own helpers over Msg. -/
namespace Go.Proofs.Yteolobihfindjab
open Go

theorem toMsg_eq (a : SMsg) : laws_toMsg a = some a := rfl

end Go.Proofs.Yteolobihfindjab

/- The laws' own helpers over Packet. -/
namespace Go.Proofs.Yteolobihfindjab
open Go

theorem toPacket_eq (a : SPacket) : laws_toPacket a = some a := by unfold laws_toPacket; simp only [toMsg_eq, Option.bind_some]

end Go.Proofs.Yteolobihfindjab

/- The laws' own helpers over PacketS. -/
namespace Go.Proofs.Yteolobihfindjab
open Go

theorem toPacketS_eq {l : List SPacket} (h : l.length ≤ 1048576) : laws_toPacketS l = some l := by
  unfold laws_toPacketS
  exact toS_gen (f := laws_toPacketS_l1) (q := fun _ => True) (by omega) h (fun _ _ => trivial) (fun i y => by rw [laws_toPacketS_l1]) (fun x t i y _ => by rw [laws_toPacketS_l1, toPacket_eq, Option.bind_some])

end Go.Proofs.Yteolobihfindjab

/- The laws' own helpers over PacketS. -/
namespace Go.Proofs.Yteolobihfindjab
open Go

theorem szPacketS_ok {l : List SPacket} {k : Int} (hl : l.length ≤ maxLen) (hk0 : -1 ≤ k) (hk : k ≤ 1048576) : ∃ v, laws_szPacketS l k = some v ∧ -1 ≤ v ∧ v ≤ k ∧ (0 ≤ v → 0 ≤ k → l.length ≤ 1048576) := by
  unfold laws_szPacketS; exact szL_gen hl hk0 hk

end Go.Proofs.Yteolobihfindjab

/- Marking a list's elements, and finding the marks again: in general. -/
namespace Go.Proofs.Yteolobihfindjab
open Go

def mkL {α : Type} (m : Int → α → Int × α) : Int → List α → Int × List α
  | k, [] => (k, [])
  | k, x :: t => ((mkL m (m k x).1 t).1, (m k x).2 :: (mkL m (m k x).1 t).2)
theorem w64_succ {j : Int} (h0 : 0 ≤ j) (h1 : j ≤ 2305843009213693952) : w64 (j + 1) = j + 1 := w64_id (by omega) (by omega)
theorem mark_gen {α : Type} {m : Int → α → Int × α} {f : Nat → Int → Int → List α → Option (Int × List α)}
    (hc : ∀ n i k l, f (n + 1) i k l = bif decide (i < (l.length : Int)) then (ix l i).bind fun x => f n (w64 (i + 1)) (m k x).1 (List.set l (Int.toNat i) (m k x).2) else some (k, l)) :
    ∀ (n i : Nat) (k : Int) (l : List α), l.length - i < n → i ≤ l.length → l.length ≤ 1099511627776 → f n (i : Int) k l = some ((mkL m k (l.drop i)).1, l.take i ++ (mkL m k (l.drop i)).2)
  | 0, i, k, l, h1, h2, h3 => by omega
  | n + 1, i, k, l, h1, h2, h3 => by
    rw [hc]
    by_cases hi : i < l.length
    · have hd : decide ((i : Int) < (l.length : Int)) = true := by simp; omega
      have hx : l[i]? = some l[i] := by simp [hi]
      rw [hd, cond_true, ix_nat, hx, Option.bind_some, w64_succ (by omega) (by omega), show (i : Int) + 1 = ((i + 1 : Nat) : Int) by omega, show Int.toNat (i : Int) = i by omega]
      rw [mark_gen hc n (i + 1) _ _ (by simp; omega) (by simp; omega) (by simpa using h3)]
      have e1 : l.drop i = l[i] :: l.drop (i + 1) := List.drop_eq_getElem_cons hi
      have e2 : (l.set i (m k l[i]).2).drop (i + 1) = l.drop (i + 1) := by rw [List.drop_set_of_lt (by omega)]
      have e3 : (l.set i (m k l[i]).2).take (i + 1) = l.take i ++ [(m k l[i]).2] := by
        rw [List.take_add_one, List.take_set_of_le (by omega)]
        simp [hi]
      rw [e1, e2, e3]
      simp [mkL]
    · have hd : decide ((i : Int) < (l.length : Int)) = false := by simp; omega
      rw [hd, cond_false, List.drop_eq_nil_of_le (by omega), List.take_of_length_le (by omega)]
      simp [mkL]
theorem markS_gen {α : Type} {m : Int → α → Int × α} {f : Nat → Int → Int → List α → Option (Int × List α)}
    (hc : ∀ n i k l, f (n + 1) i k l = bif decide (i < (l.length : Int)) then (ix l i).bind fun x => f n (w64 (i + 1)) (m k x).1 (List.set l (Int.toNat i) (m k x).2) else some (k, l))
    (k : Int) {l : List α} (h : l.length ≤ 1099511627776) : f fuel 0 k l = some (mkL m k l) := by
  have := mark_gen hc fuel 0 k l (by unfold fuel; omega) (by omega) h
  simpa using this
theorem held_gen {α : Type} {m : Int → α → Int × α} {g : List α → Nat → Int → Option Int} (hn : ∀ i k, g [] i k = some k) (hc : ∀ k x t i, g ((m k x).2 :: t) i k = g t (i + 1) (m k x).1) :
    ∀ (l : List α) (i : Nat) (k : Int), g (mkL m k l).2 i k = some (mkL m k l).1
  | [], i, k => by simp [mkL, hn]
  | x :: t, i, k => by
    simp only [mkL]
    rw [hc, held_gen hn hc t (i + 1)]
theorem mkL_len {α : Type} {m : Int → α → Int × α} : ∀ (l : List α) (k : Int), (mkL m k l).2.length = l.length
  | [], k => rfl
  | x :: t, k => by simp [mkL, mkL_len t]
theorem mkL_fst {α : Type} {m : Int → α → Int × α} (c : Nat) (hm : ∀ k x, 0 ≤ k → k ≤ 1152921504606846976 → (m k x).1 = k + c) : ∀ (l : List α) (k : Int), 0 ≤ k → k + c * l.length ≤ 1152921504606846976 → (mkL m k l).1 = k + c * l.length
  | [], k, h0, h1 => by simp [mkL]
  | x :: t, k, h0, h1 => by
    have e : (c : Int) * ((x :: t).length : Int) = c + c * (t.length : Int) := by simp [Int.mul_add, Int.add_comm]
    rw [e] at h1 ⊢
    have hp : (0 : Int) ≤ (c : Int) * (t.length : Int) := Int.mul_nonneg (by omega) (by omega)
    simp only [mkL]
    rw [hm k x h0 (by omega), mkL_fst c hm t (k + c) (by omega) (by omega)]
    omega

end Go.Proofs.Yteolobihfindjab

/- The laws' own helpers over mark and held, []Packet. -/
namespace Go.Proofs.Yteolobihfindjab
open Go

def mPacket (k : Int) (x : SPacket) : Int × SPacket := (w64 ((w64 ((w64 ((w64 ((w64 ((w64 ((w64 ((w64 ((w64 ((w64 ((w64 (k + 1)) + 1)) + 1)) + 1)) + 1)) + 1)) + 1)) + 1)) + 1)) + 1)) + 1), (SPacket.mk (k) (w64 (k + 1)) (w64 ((w64 (k + 1)) + 1)) (w64 ((w64 ((w64 (k + 1)) + 1)) + 1)) (w64 ((w64 ((w64 ((w64 (k + 1)) + 1)) + 1)) + 1)) (w64 ((w64 ((w64 ((w64 ((w64 (k + 1)) + 1)) + 1)) + 1)) + 1)) (w64 ((w64 ((w64 ((w64 ((w64 ((w64 (k + 1)) + 1)) + 1)) + 1)) + 1)) + 1)) (SMsg.mk (w64 ((w64 ((w64 ((w64 ((w64 ((w64 ((w64 (k + 1)) + 1)) + 1)) + 1)) + 1)) + 1)) + 1)) (w64 ((w64 ((w64 ((w64 ((w64 ((w64 ((w64 ((w64 (k + 1)) + 1)) + 1)) + 1)) + 1)) + 1)) + 1)) + 1)) (w64 ((w64 ((w64 ((w64 ((w64 ((w64 ((w64 ((w64 ((w64 (k + 1)) + 1)) + 1)) + 1)) + 1)) + 1)) + 1)) + 1)) + 1)) (w64 ((w64 ((w64 ((w64 ((w64 ((w64 ((w64 ((w64 ((w64 ((w64 (k + 1)) + 1)) + 1)) + 1)) + 1)) + 1)) + 1)) + 1)) + 1)) + 1)))))
theorem markPacketS_eq (k : Int) {l : List SPacket} (h : l.length ≤ 1099511627776) : laws_markPacketS l k = some (mkL mPacket k l) := by
  unfold laws_markPacketS
  exact markS_gen (f := laws_markPacketS_l1) (fun n i k l => by rw [laws_markPacketS_l1]; rfl) k h
theorem heldPacketS_eq (k : Int) (l : List SPacket) : laws_heldPacketS (mkL mPacket k l).2 k = some (mkL mPacket k l).1 := by
  unfold laws_heldPacketS
  exact held_gen (g := laws_heldPacketS_l1) (fun i k => by rw [laws_heldPacketS_l1]) (fun k x t i => by rw [laws_heldPacketS_l1]; simp [mPacket]) l 0 k
theorem mkPacketS_fst {k : Int} (l : List SPacket) (h0 : 0 ≤ k) (h1 : k + 11 * l.length ≤ 1152921504606846976) : (mkL mPacket k l).1 = k + 11 * l.length :=
  mkL_fst 11 (fun k x h0 h1 => by simp (disch := omega) only [mPacket, w64_succ]; omega) l k h0 h1
theorem mhPacketS {l : List SPacket} (h : l.length ≤ 1099511627776) : ∃ k q, laws_markPacketS l 1 = some (k, q) ∧ decide (k < 0) = false ∧ laws_heldPacketS q 1 = some k := by
  refine ⟨_, _, markPacketS_eq 1 h, ?_, heldPacketS_eq 1 l⟩
  rw [mkPacketS_fst l (by omega) (by omega)]; simp; omega

end Go.Proofs.Yteolobihfindjab

/- The law FnExactNetTo answers true. -/
namespace Go.Proofs.Yteolobihfindjab
open Go

theorem netTo_same (n : Int) : ∀ (t : List SPacket) (i : Nat) (y : List SPacket), spec_NetTo_l1 n t i y = impl_NetTo_l1 n t i y
  | [], i, y => by rw [spec_NetTo_l1, impl_NetTo_l1]
  | x :: t, i, y => by rw [spec_NetTo_l1, impl_NetTo_l1, netTo_same n t (i + 1), netTo_same n t (i + 1)]
theorem same_NetTo (l : List SPacket) (k : Int) : spec_NetTo l k = impl_NetTo l k := netTo_same k l 0 []
theorem netTo_some (n : Int) : ∀ (t : List SPacket) (i : Nat) (y : List SPacket), y.length + t.length ≤ 1048576 → ∃ w, impl_NetTo_l1 n t i y = some w ∧ w.length ≤ 1048576
  | [], i, y, h => ⟨y, by rw [impl_NetTo_l1], by simp at h; omega⟩
  | x :: t, i, y, h => by
    simp only [List.length_cons] at h
    rw [impl_NetTo_l1]
    cases (x.fTo == n) with
    | true => rw [cond_true, gO_t (room_of (by omega) (by simp; omega))]; exact netTo_some n t (i + 1) _ (by simp; omega)
    | false => rw [cond_false]; exact netTo_some n t (i + 1) _ (by omega)
theorem pure_FnExactNetTo (l : List SPacket) (hl : l.length ≤ maxLen ∧ ∀ a ∈ l, wfPacket a) (k : Int) (hk : wfI k) : laws_FnExactNetTo l k = some true := by
  unfold laws_FnExactNetTo
  obtain ⟨v, hv, q1, q2, hs⟩ := szPacketS_ok (k := 1048576) hl.1 (by omega) (by omega)
  rw [hv, Option.bind_some]
  by_cases hn : v < 0
  · simp only [hn, decide_true, _root_.cond_true]
  · have hs := hs (by omega) (by omega)
    obtain ⟨w, hw, h0⟩ := netTo_some k l 0 [] (by simp; omega)
    have hw : impl_NetTo l k = some w := hw
    obtain ⟨k1, q, h1, h2, h3⟩ := mhPacketS (l := w) (by omega)
    obtain ⟨k2, q', g1, g2, g3⟩ := mhPacketS (l := l) (by omega)
    simp only [hn, decide_false, _root_.cond_false, toPacketS_eq hs, same_NetTo, hw, Option.bind_some, eqPacketS_eq, decide_true, Bool.not_true, bne_self_eq_false, h1, h2, h3, g1, g2]

end Go.Proofs.Yteolobihfindjab

