/- The plain law FnExactAcctOk and what it needs: no program in sight. -/
import Derived.Test.YtncjcbdbdocjaaaUFnExactAcctOk
set_option linter.unusedVariables false
set_option linter.unusedSimpArgs false

/- Small plain facts: numbers, and the laws' own helpers over lists of numbers. -/
namespace Go.Proofs.Ytncjcbdbdocjaaa
open Go

theorem w64_id {n : Int} (h1 : -9223372036854775808 ≤ n) (h2 : n ≤ 9223372036854775807) : w64 n = n := by
  unfold w64; rw [IntKind.wrap_i64]; omega
theorem room_of {b n : Nat} (hb : b ≤ 4096) (hn : n ≤ 34359738368) : room b n := by
  have : n * b ≤ 34359738368 * 4096 := Nat.mul_le_mul hn hb
  exact ⟨by omega, by omega⟩
theorem gO_t {α : Type} {c : Prop} [Decidable c] {k : Option α} (h : c) : gO c k = k := by simp [gO, h]
theorem drop_cons {α : Type} {L t : List α} {x : α} {i : Nat} (h : x :: t = L.drop i) : t = L.drop (i + 1) ∧ L[i]? = some x ∧ i < L.length := by
  have h1 := dnext h
  have h2 := ix_get (dget h)
  exact ⟨h1, by simpa using h2, dlt h⟩
theorem ix_nat {α : Type} (l : List α) (i : Nat) : ix l (i : Int) = l[i]? := by simp [ix]
theorem ix_lt {α : Type} {l : List α} {i : Int} (h0 : 0 ≤ i) (h1 : i < l.length) : ∃ x, ix l i = some x := by
  unfold ix
  rw [if_pos h0]
  exact ⟨l[i.toNat]'(by omega), by simp⟩
theorem w64_pred {i : Nat} (h0 : 0 < i) (h1 : i ≤ maxLen) : w64 ((i : Int) - 1) = ((i - 1 : Nat) : Int) := by
  have h2 : i ≤ 9223372036854775807 := h1
  rw [w64_id (by omega) (by omega)]; omega

theorem beq_dec {α : Type} [DecidableEq α] (x y : α) : (x == y) = decide (x = y) := by by_cases h : x = y <;> simp [h]
theorem bne_dec {α : Type} [DecidableEq α] (x y : α) : (x != y) = !decide (x = y) := by unfold bne; rw [beq_dec]
theorem beq_int (x y : Int) : (x == y) = decide (x = y) := beq_dec x y
theorem bne_int (x y : Int) : (x != y) = !decide (x = y) := bne_dec x y
theorem and_dec (p q : Prop) [Decidable p] [Decidable q] : (decide p && decide q) = decide (p ∧ q) := by simp
theorem or_dec (p q : Prop) [Decidable p] [Decidable q] : (decide p || decide q) = decide (p ∨ q) := by simp
theorem not_dec (p : Prop) [Decidable p] : (!decide p) = decide (¬ p) := by simp
theorem bind_id {α : Type} (x : Option α) : (x.bind fun v => some v) = x := by cases x <;> rfl

end Go.Proofs.Ytncjcbdbdocjaaa

/- Ranges. -/
namespace Go.Proofs.Ytncjcbdbdocjaaa
open Go

theorem impl_in_eq (n lo hi : Int) : impl_in n lo hi = some (decide (lo ≤ n ∧ n ≤ hi)) := by
  unfold impl_in
  by_cases h : n ≥ lo
  · simp [h]
  · have : ¬ lo ≤ n := h
    simp [h, this]

end Go.Proofs.Ytncjcbdbdocjaaa

/- Ranges: the reference's are the program's. -/
namespace Go.Proofs.Ytncjcbdbdocjaaa
open Go

theorem spec_in_impl : spec_l01In = impl_in := rfl
theorem spec_in_eq (n lo hi : Int) : spec_l01In n lo hi = some (decide (lo ≤ n ∧ n ≤ hi)) := by rw [spec_in_impl, impl_in_eq]

end Go.Proofs.Ytncjcbdbdocjaaa

/- Ascending nodes: the reference asks what the program asks. -/
namespace Go.Proofs.Ytncjcbdbdocjaaa
open Go

theorem impl_nodesOk_l1_tot : ∀ (t L : List Int) (n : Int) (i : Nat), t = L.drop i → i ≤ L.length → L.length ≤ maxLen → ∃ b, impl_nodesOk_l1 L n t i = some b
  | [], L, n, i, hd, hi, hL => ⟨true, by rw [impl_nodesOk_l1]⟩
  | x :: t, L, n, i, hd, hi, hL => by
    obtain ⟨h1, h2, h3⟩ := drop_cons hd
    obtain ⟨b, hb⟩ := impl_nodesOk_l1_tot t L n (i + 1) h1 (by omega) hL
    rw [impl_nodesOk_l1, impl_in_eq, Option.bind_some, hb]
    have hx : 0 < i → ∃ z, ix L (w64 ((i : Int) - 1)) = some z := fun h0 => by
      rw [w64_pred h0 (by omega)]
      exact ix_lt (by omega) (by omega)
    by_cases h0 : 0 < i
    · obtain ⟨z, hz⟩ := hx h0
      rw [hz, Option.bind_some]
      cases (!decide (0 ≤ x ∧ x ≤ w64 (n - 1))) <;> cases (decide ((i : Int) > 0)) <;> cases (decide (z ≥ x)) <;> exact ⟨_, rfl⟩
    · have : decide ((i : Int) > 0) = false := by simp; omega
      rw [this]
      cases (!decide (0 ≤ x ∧ x ≤ w64 (n - 1))) <;> exact ⟨_, rfl⟩
theorem rise_nodes_l1 : ∀ (t L : List Int) (i : Nat), spec_l07Rise_l1 L t i = impl_nodesOk_l1 L 4 t i
  | [], L, i => by rw [spec_l07Rise_l1, impl_nodesOk_l1]
  | x :: t, L, i => by
    have hw : w64 (4 - 1) = 3 := by decide
    rw [spec_l07Rise_l1, impl_nodesOk_l1, rise_nodes_l1 t L (i + 1)]
    unfold spec_l07Node
    rw [spec_in_impl, hw]
    simp only [impl_in_eq, Option.bind_some]
theorem impl_nodesOk_tot {l : List Int} (n : Int) (h : l.length ≤ maxLen) : ∃ b, impl_nodesOk l n = some b := impl_nodesOk_l1_tot l l n 0 rfl (by omega) h
theorem rise_nodes (l : List Int) : spec_l07Rise l = impl_nodesOk l 4 := rise_nodes_l1 l l 0

end Go.Proofs.Ytncjcbdbdocjaaa

/- What ascending nodes are. -/
namespace Go.Proofs.Ytncjcbdbdocjaaa
open Go

theorem nodes_l1 : ∀ (t L : List Int) (n : Int) (i : Nat), t = L.drop i → i ≤ L.length → L.length ≤ maxLen →
    impl_nodesOk_l1 L n t i = some (decide ((∀ x ∈ t, 0 ≤ x ∧ x ≤ w64 (n - 1)) ∧ (0 < i → ∀ z, L[i-1]? = some z → ∀ x ∈ t, z < x) ∧ t.Pairwise (· < ·)))
  | [], L, n, i, hd, hi, hL => by rw [impl_nodesOk_l1]; simp
  | x :: t, L, n, i, hd, hi, hL => by
    obtain ⟨h1, h2, h3⟩ := drop_cons hd
    have ih := nodes_l1 t L n (i + 1) h1 (by omega) hL
    have hx : L[i + 1 - 1]? = some x := by
      rw [Nat.add_sub_cancel]
      have : (L.drop i)[0]? = some x := by rw [← hd]; rfl
      simpa using this
    rw [impl_nodesOk_l1, impl_in_eq, Option.bind_some, ih]
    by_cases hr : 0 ≤ x ∧ x ≤ w64 (n - 1)
    · rw [decide_eq_true hr, Bool.not_true, cond_false]
      by_cases h0 : 0 < i
      · obtain ⟨z, hz⟩ : ∃ z, L[i-1]? = some z := ⟨L[i-1]'(by omega), List.getElem?_eq_getElem (by omega)⟩
        have hz' : ix L ((i - 1 : Nat) : Int) = some z := by rw [ix_nat, hz]
        have hd0 : decide ((i : Int) > 0) = true := by simp; omega
        rw [hd0, cond_true, w64_pred h0 (by omega), hz', Option.bind_some]
        by_cases hzx : z ≥ x
        · rw [decide_eq_true hzx, cond_true]
          symm; congr 1; apply decide_eq_false
          rintro ⟨-, h, -⟩
          have := h h0 z hz x (by simp); omega
        · rw [decide_eq_false hzx, cond_false]
          congr 1; apply decide_eq_decide.2
          constructor
          · rintro ⟨a1, a2, a3⟩
            have a2 := a2 (by omega) x hx
            refine ⟨fun y hy => ?_, fun _ z' hz' y hy => ?_, List.pairwise_cons.2 ⟨a2, a3⟩⟩
            · rcases List.mem_cons.1 hy with rfl | hy
              · exact hr
              · exact a1 y hy
            · have : z' = z := by rw [hz] at hz'; exact (Option.some.inj hz').symm
              subst this
              rcases List.mem_cons.1 hy with rfl | hy
              · omega
              · have := a2 y hy; omega
          · rintro ⟨a1, a2, a3⟩
            have a3 := List.pairwise_cons.1 a3
            refine ⟨fun y hy => a1 y (by simp [hy]), fun _ z' hz' y hy => ?_, a3.2⟩
            have : z' = x := by rw [hx] at hz'; exact (Option.some.inj hz').symm
            subst this
            exact a3.1 y hy
      · have hd0 : decide ((i : Int) > 0) = false := by simp; omega
        rw [hd0, cond_false]
        congr 1; apply decide_eq_decide.2
        constructor
        · rintro ⟨a1, a2, a3⟩
          have a2 := a2 (by omega) x hx
          refine ⟨fun y hy => ?_, fun h => absurd h h0, List.pairwise_cons.2 ⟨a2, a3⟩⟩
          rcases List.mem_cons.1 hy with rfl | hy
          · exact hr
          · exact a1 y hy
        · rintro ⟨a1, a2, a3⟩
          have a3 := List.pairwise_cons.1 a3
          refine ⟨fun y hy => a1 y (by simp [hy]), fun _ z' hz' y hy => ?_, a3.2⟩
          have : z' = x := by rw [hx] at hz'; exact (Option.some.inj hz').symm
          subst this
          exact a3.1 y hy
    · rw [decide_eq_false hr, Bool.not_false, cond_true]
      symm; congr 1; apply decide_eq_false
      rintro ⟨h, -, -⟩
      exact hr (h x (by simp))
/-- What the program's nodesOk tells. -/
def rising (l : List Int) (n : Int) : Prop := (∀ x ∈ l, 0 ≤ x ∧ x ≤ n - 1) ∧ l.Pairwise (· < ·)
instance (l : List Int) (n : Int) : Decidable (rising l n) := by unfold rising; infer_instance
theorem nodesOk_eq {l : List Int} {n : Int} (h : l.length ≤ maxLen) (h1 : 1 ≤ n) (h2 : n ≤ 4) : impl_nodesOk l n = some (decide (rising l n)) := by
  unfold impl_nodesOk
  rw [nodes_l1 l l n 0 rfl (by omega) h, w64_id (by omega) (by omega)]
  congr 1; apply decide_eq_decide.2
  constructor
  · rintro ⟨a1, -, a3⟩; exact ⟨a1, a3⟩
  · rintro ⟨a1, a3⟩; exact ⟨a1, fun h => absurd h (by omega), a3⟩

end Go.Proofs.Ytncjcbdbdocjaaa

/- Membership in a list of numbers. -/
namespace Go.Proofs.Ytncjcbdbdocjaaa
open Go

theorem hasInt_l1 (n : Int) : ∀ (t : List Int) (i : Nat), impl_hasInt_l1 n t i = some (decide (n ∈ t))
  | [], i => by rw [impl_hasInt_l1]; simp
  | x :: t, i => by
    rw [impl_hasInt_l1, hasInt_l1 n t (i + 1), beq_int]
    by_cases h : x = n
    · simp [h]
    · have : ¬ n = x := fun e => h e.symm
      simp [h, this]
theorem hasInt_eq (l : List Int) (n : Int) : impl_hasInt l n = some (decide (n ∈ l)) := hasInt_l1 n l 0

end Go.Proofs.Ytncjcbdbdocjaaa

/- Membership in a list of numbers: the reference's. -/
namespace Go.Proofs.Ytncjcbdbdocjaaa
open Go

theorem l01Has_l1 (n : Int) : ∀ (t : List Int) (i : Nat), spec_l01Has_l1 n t i = some (decide (n ∈ t))
  | [], i => by rw [spec_l01Has_l1]; simp
  | x :: t, i => by
    rw [spec_l01Has_l1, l01Has_l1 n t (i + 1), beq_int]
    by_cases h : x = n
    · simp [h]
    · have : ¬ n = x := fun e => h e.symm
      simp [h, this]
theorem l01Has_eq (l : List Int) (n : Int) : spec_l01Has l n = some (decide (n ∈ l)) := l01Has_l1 n l 0

end Go.Proofs.Ytncjcbdbdocjaaa

/- The place of a node's report. -/
namespace Go.Proofs.Ytncjcbdbdocjaaa
open Go

theorem repAt_l1 (n : Int) : ∀ (t : List SRep) (i : Nat), ((∃ x ∈ t, x.fNode = n) ∧ ∃ k : Nat, impl_repAt_l1 n t i = some ((i + k : Nat) : Int) ∧ ∃ x, t[k]? = some x ∧ x.fNode = n ∧ ∀ j, j < k → ∀ y, t[j]? = some y → y.fNode ≠ n) ∨ ((∀ x ∈ t, x.fNode ≠ n) ∧ impl_repAt_l1 n t i = some (-1))
  | [], i => .inr ⟨by simp, by rw [impl_repAt_l1]⟩
  | x :: t, i => by
    rw [impl_repAt_l1, beq_int]
    by_cases h : x.fNode = n
    · rw [decide_eq_true h, cond_true]
      exact .inl ⟨⟨x, by simp, h⟩, 0, rfl, x, rfl, h, fun j hj => by omega⟩
    · rw [decide_eq_false h, cond_false]
      rcases repAt_l1 n t (i + 1) with ⟨⟨y, hy, hn⟩, k, hk, z, hz, hzn, hb⟩ | ⟨hall, hk⟩
      · refine .inl ⟨⟨y, by simp [hy], hn⟩, k + 1, by rw [hk]; congr 1; omega, z, by simpa using hz, hzn, fun j hj y' hy' => ?_⟩
        cases j with
        | zero => simp at hy'; subst hy'; exact h
        | succ j => exact hb j (by omega) y' (by simpa using hy')
      · exact .inr ⟨by simpa [h] using hall, hk⟩
theorem repAt_no {a : SAcct} {n : Int} (h : ∀ x ∈ a.fReps, x.fNode ≠ n) : impl_repAt a n = some (-1) := by
  rcases repAt_l1 n a.fReps 0 with ⟨⟨x, hx, he⟩, -⟩ | ⟨-, hk⟩
  · exact absurd he (h x hx)
  · exact hk
theorem repAt_yes {a : SAcct} {n : Int} (h : ∃ x ∈ a.fReps, x.fNode = n) : ∃ k : Nat, impl_repAt a n = some (k : Int) ∧ ∃ x, a.fReps[k]? = some x ∧ x.fNode = n ∧ ∀ j, j < k → ∀ y, a.fReps[j]? = some y → y.fNode ≠ n := by
  rcases repAt_l1 n a.fReps 0 with ⟨-, k, hk, hr⟩ | ⟨hall, -⟩
  · refine ⟨k, ?_, hr⟩
    rw [Nat.zero_add] at hk; exact hk
  · obtain ⟨x, hx, he⟩ := h; exact absurd he (hall x hx)

end Go.Proofs.Ytncjcbdbdocjaaa

/- Accounts are valid: the reference and the program agree. -/
namespace Go.Proofs.Ytncjcbdbdocjaaa
open Go

/-- What the program's repsOk tells. -/
def goodRep (n : Int) (r : SRep) : Prop := (0 ≤ r.fNode ∧ r.fNode ≤ n - 1) ∧ (0 ≤ r.fAmt ∧ r.fAmt ≤ 1125899906842624)
def risingR (l : List SRep) (n : Int) : Prop := (∀ x ∈ l, goodRep n x) ∧ l.Pairwise (fun x y => x.fNode < y.fNode)
/-- .. of the rest of a list, from a place on. -/
def restR (L t : List SRep) (n : Int) (i : Nat) : Prop := (∀ x ∈ t, goodRep n x) ∧ (0 < i → ∀ z, L[i-1]? = some z → ∀ x ∈ t, z.fNode < x.fNode) ∧ t.Pairwise (fun x y => x.fNode < y.fNode)
theorem restR_cons {L t : List SRep} {n : Int} {i : Nat} {x : SRep} (hx : L[i]? = some x) (hg : goodRep n x) (hz : 0 < i → ∀ z, L[i-1]? = some z → z.fNode < x.fNode) : restR L (x :: t) n i ↔ restR L t n (i + 1) := by
  constructor
  · rintro ⟨a1, a2, a3⟩
    have a3 := List.pairwise_cons.1 a3
    refine ⟨fun y hy => a1 y (by simp [hy]), fun _ z' hz' y hy => ?_, a3.2⟩
    rw [Nat.add_sub_cancel, hx] at hz'
    obtain rfl := Option.some.inj hz'
    exact a3.1 y hy
  · rintro ⟨a1, a2, a3⟩
    have a2 := a2 (by omega) x (by rw [Nat.add_sub_cancel]; exact hx)
    refine ⟨fun y hy => ?_, fun h0 z hz' y hy => ?_, List.pairwise_cons.2 ⟨a2, a3⟩⟩
    · rcases List.mem_cons.1 hy with rfl | hy
      · exact hg
      · exact a1 y hy
    · have := hz h0 z hz'
      rcases List.mem_cons.1 hy with rfl | hy
      · exact this
      · have := a2 y hy; omega
/-- One step of either loop: refused, or good and the rest counts. -/
theorem rep_step {L t : List SRep} {n : Int} {i : Nat} {x : SRep} (hd : x :: t = L.drop i) (hL : L.length ≤ maxLen) (h1 : 1 ≤ n) (h2 : n ≤ 4) {β : Type} (no : β) (k : Option β) :
    (¬ restR L (x :: t) n i ∧ ((impl_in x.fNode 0 (w64 (n - 1))).bind fun v32 => (bif (!v32) then some no else ((impl_isNum x.fAmt).bind fun v35 => (bif (!v35) then some no else (bif (decide ((i : Int) > 0)) then ((ix L (w64 ((i : Int) - 1))).bind fun x39 => (bif (decide (x39.fNode ≥ x.fNode)) then some no else k)) else k))))) = some no)
    ∨ (goodRep n x ∧ (restR L (x :: t) n i ↔ restR L t n (i + 1)) ∧ ((impl_in x.fNode 0 (w64 (n - 1))).bind fun v32 => (bif (!v32) then some no else ((impl_isNum x.fAmt).bind fun v35 => (bif (!v35) then some no else (bif (decide ((i : Int) > 0)) then ((ix L (w64 ((i : Int) - 1))).bind fun x39 => (bif (decide (x39.fNode ≥ x.fNode)) then some no else k)) else k))))) = k) := by
  obtain ⟨e1, e2, e3⟩ := drop_cons hd
  unfold impl_isNum
  rw [impl_in_eq, w64_id (by omega) (by omega), Option.bind_some]
  by_cases hr : 0 ≤ x.fNode ∧ x.fNode ≤ n - 1
  · rw [decide_eq_true hr, Bool.not_true, cond_false, impl_in_eq, Option.bind_some, Option.bind_some]
    by_cases ha : 0 ≤ x.fAmt ∧ x.fAmt ≤ 1125899906842624
    · rw [decide_eq_true ha, Bool.not_true, cond_false]
      by_cases h0 : 0 < i
      · obtain ⟨z, hz⟩ : ∃ z, L[i-1]? = some z := ⟨L[i-1]'(by omega), List.getElem?_eq_getElem (by omega)⟩
        have hd0 : decide ((i : Int) > 0) = true := by simp; omega
        rw [hd0, cond_true, w64_pred h0 (by omega), ix_nat, hz, Option.bind_some]
        by_cases hzx : z.fNode ≥ x.fNode
        · left
          rw [decide_eq_true hzx]
          refine ⟨?_, rfl⟩
          rintro ⟨-, h, -⟩
          have := h h0 z hz x (by simp); omega
        · right
          rw [decide_eq_false hzx]
          refine ⟨⟨hr, ha⟩, restR_cons e2 ⟨hr, ha⟩ fun _ z' hz' => ?_, rfl⟩
          rw [hz] at hz'; obtain rfl := Option.some.inj hz'; omega
      · right
        have hd0 : decide ((i : Int) > 0) = false := by simp; omega
        rw [hd0]
        exact ⟨⟨hr, ha⟩, restR_cons e2 ⟨hr, ha⟩ fun h => absurd h h0, rfl⟩
    · left
      rw [decide_eq_false ha]
      exact ⟨fun h => ha (h.1 x (by simp)).2, rfl⟩
  · left
    rw [decide_eq_false hr]
    exact ⟨fun h => hr (h.1 x (by simp)).1, rfl⟩
open Classical in
theorem reps_l1 {a : SAcct} {n : Int} (hL : a.fReps.length ≤ maxLen) (h1 : 1 ≤ n) (h2 : n ≤ 4) : ∀ (t : List SRep) (i : Nat), t = a.fReps.drop i → i ≤ a.fReps.length → impl_repsOk_l1 a n t i = some (decide (restR a.fReps t n i))
  | [], i, hd, hi => by
    rw [impl_repsOk_l1]
    have : restR a.fReps [] n i := ⟨by simp, by simp, by simp⟩
    rw [decide_eq_true this]
  | x :: t, i, hd, hi => by
    obtain ⟨e1, e2, e3⟩ := drop_cons hd
    rw [impl_repsOk_l1, reps_l1 hL h1 h2 t (i + 1) e1 (by omega)]
    rcases rep_step hd hL h1 h2 false (some (decide (restR a.fReps t n (i + 1)))) with ⟨g, e⟩ | ⟨-, g, e⟩
    · rw [e, decide_eq_false g]
    · rw [e]; congr 1; exact decide_eq_decide.2 g.symm
/-- What the reference asks after its loop. -/
def endA (a : SAcct) (n : Int) (own : Bool) : Option Bool :=
  bif own != ((a.fMarks.length : Int) == w64 (n - 1)) then some false else impl_AcctOk_j1 a n
theorem spec_j2 (a : SAcct) (n : Int) : spec_AcctOk_j2 a n = impl_AcctOk_j1 a n := rfl
open Classical in
theorem spec_l1 {a : SAcct} {n d : Int} (hL : a.fReps.length ≤ maxLen) (hM : rising a.fMarks n) (hm : a.fMarks.length ≤ maxLen) (h1 : 1 ≤ n) (h2 : n ≤ 4) : ∀ (t : List SRep) (i : Nat) (y : Bool), t = a.fReps.drop i → i ≤ a.fReps.length →
    spec_AcctOk_l1 a n d t i y = if restR a.fReps t n i ∧ ∀ x ∈ t, x.fNode = d → x.fAmt = a.fHave then endA a n (y || decide (∃ x ∈ t, x.fNode = d)) else some false
  | [], i, y, hd, hi => by
    have : restR a.fReps [] n i ∧ ∀ x ∈ ([] : List SRep), x.fNode = d → x.fAmt = a.fHave := ⟨⟨by simp, by simp, by simp⟩, by simp⟩
    rw [if_pos this, spec_AcctOk_l1]
    have e : (y || decide (∃ x ∈ ([] : List SRep), x.fNode = d)) = y := by simp
    rw [e]
    by_cases hl : 0 < a.fMarks.length
    · have hd : decide ((a.fMarks.length : Int) > 0) = true := by simp; omega
      have hz : a.fMarks[a.fMarks.length - 1]? = some (a.fMarks[a.fMarks.length - 1]'(by omega)) := List.getElem?_eq_getElem (by omega)
      have this := (hM.1 _ (List.getElem_mem (by omega : a.fMarks.length - 1 < a.fMarks.length))).2
      have hge : ¬ (a.fMarks[a.fMarks.length - 1]'(by omega) ≥ n) := by omega
      rw [hd, cond_true, w64_pred hl (by omega), ix_nat, hz, Option.bind_some, decide_eq_false hge, cond_false]
      rfl
    · have hd : decide ((a.fMarks.length : Int) > 0) = false := decide_eq_false (by omega)
      rw [hd]; rfl
  | x :: t, i, y, hd, hi => by
    obtain ⟨e1, e2, e3⟩ := drop_cons hd
    rw [spec_AcctOk_l1]
    unfold spec_AcctOk_j3 spec_l01Num
    rw [spec_in_impl]
    have st := rep_step hd hL h1 h2 false (bif (x.fNode == d) then (bif (x.fAmt != a.fHave) then some false else spec_AcctOk_l1 a n d t (i + 1) true) else spec_AcctOk_l1 a n d t (i + 1) y)
    unfold impl_isNum at st
    rcases st with ⟨g, e⟩ | ⟨-, g, e⟩
    · rw [if_neg (fun h => g h.1)]; exact e
    · refine e.trans ?_
      rw [spec_l1 hL hM hm h1 h2 t (i + 1) true e1 (by omega), spec_l1 hL hM hm h1 h2 t (i + 1) y e1 (by omega), beq_int, bne_int]
      by_cases hn : x.fNode = d
      · rw [decide_eq_true hn, cond_true]
        by_cases ha : x.fAmt = a.fHave
        · rw [decide_eq_true ha, Bool.not_true, cond_false]
          have q : (restR a.fReps (x :: t) n i ∧ ∀ z ∈ x :: t, z.fNode = d → z.fAmt = a.fHave) ↔ (restR a.fReps t n (i + 1) ∧ ∀ z ∈ t, z.fNode = d → z.fAmt = a.fHave) := by
            rw [g]; simp [ha]
          have q2 : (∃ z ∈ x :: t, z.fNode = d) := ⟨x, by simp, hn⟩
          simp only [q, q2, decide_true, Bool.or_true, Bool.true_or]
        · rw [decide_eq_false ha, Bool.not_false, cond_true, if_neg]
          rintro ⟨-, h⟩; exact ha (h x (by simp) hn)
      · rw [decide_eq_false hn, cond_false]
        have q : (restR a.fReps (x :: t) n i ∧ ∀ z ∈ x :: t, z.fNode = d → z.fAmt = a.fHave) ↔ (restR a.fReps t n (i + 1) ∧ ∀ z ∈ t, z.fNode = d → z.fAmt = a.fHave) := by
          rw [g]; simp [hn]
        have q2 : (∃ z ∈ x :: t, z.fNode = d) ↔ (∃ z ∈ t, z.fNode = d) := by simp [hn]
        simp only [q, q2]
theorem marks_eq {a : SAcct} {n : Int} (hm : a.fMarks.length ≤ maxLen) (h1 : 1 ≤ n) (h2 : n ≤ 4) (hR : rising a.fMarks 4) (hn : ¬ rising a.fMarks n) : 0 < a.fMarks.length ∧ ∃ z, a.fMarks[a.fMarks.length - 1]? = some z ∧ z ≥ n := by
  have hex : ∃ x ∈ a.fMarks, n ≤ x := by
    apply Classical.byContradiction
    intro hc
    refine hn ⟨fun x hx => ⟨(hR.1 x hx).1, ?_⟩, hR.2⟩
    have : ¬ n ≤ x := fun hx' => hc ⟨x, hx, hx'⟩
    omega
  obtain ⟨x, hx, hxn⟩ := hex
  have hl : 0 < a.fMarks.length := List.length_pos_of_mem hx
  refine ⟨hl, a.fMarks[a.fMarks.length - 1]'(by omega), List.getElem?_eq_getElem (by omega), ?_⟩
  obtain ⟨j, hj, rfl⟩ := List.mem_iff_getElem.1 hx
  by_cases hjl : j = a.fMarks.length - 1
  · subst hjl; exact hxn
  · have := List.pairwise_iff_getElem.1 hR.2 j (a.fMarks.length - 1) hj (by omega) (by omega)
    omega
/-- With marks past the last node the reference says no at its end, or before. -/
theorem spec_l1_bad {a : SAcct} {n d : Int} (hL : a.fReps.length ≤ maxLen) (hm : a.fMarks.length ≤ maxLen) (h1 : 1 ≤ n) (h2 : n ≤ 4) (hR : rising a.fMarks 4) (hn : ¬ rising a.fMarks n) : ∀ (t : List SRep) (i : Nat) (y : Bool), t = a.fReps.drop i → i ≤ a.fReps.length →
    spec_AcctOk_l1 a n d t i y = some false
  | [], i, y, hd, hi => by
    obtain ⟨hl, z, hz, hzn⟩ := marks_eq hm h1 h2 hR hn
    have hd : decide ((a.fMarks.length : Int) > 0) = true := by simp; omega
    rw [spec_AcctOk_l1, hd, cond_true, w64_pred hl (by omega), ix_nat, hz, Option.bind_some, decide_eq_true hzn, cond_true]
  | x :: t, i, y, hd, hi => by
    obtain ⟨e1, e2, e3⟩ := drop_cons hd
    rw [spec_AcctOk_l1]
    unfold spec_AcctOk_j3 spec_l01Num
    rw [spec_in_impl]
    have st := rep_step hd hL h1 h2 false (bif (x.fNode == d) then (bif (x.fAmt != a.fHave) then some false else spec_AcctOk_l1 a n d t (i + 1) true) else spec_AcctOk_l1 a n d t (i + 1) y)
    unfold impl_isNum at st
    rcases st with ⟨g, e⟩ | ⟨-, g, e⟩
    · exact e
    · refine e.trans ?_
      rw [spec_l1_bad hL hm h1 h2 hR hn t (i + 1) true e1 (by omega), spec_l1_bad hL hm h1 h2 hR hn t (i + 1) y e1 (by omega)]
      cases (x.fNode == d) <;> cases (x.fAmt != a.fHave) <;> rfl
theorem rising_le {l : List Int} {n : Int} (h2 : n ≤ 4) (h : rising l n) : rising l 4 := ⟨fun x hx => ⟨(h.1 x hx).1, by have := (h.1 x hx).2; omega⟩, h.2⟩
theorem j1_some (a : SAcct) (n : Int) : ∃ b, impl_AcctOk_j1 a n = some b := by
  unfold impl_AcctOk_j1
  cases ((a.fReps.length : Int) == n) <;> exact ⟨_, rfl⟩
theorem restR_0 {l : List SRep} {n : Int} : restR l l n 0 ↔ risingR l n := ⟨fun ⟨a, _, c⟩ => ⟨a, c⟩, fun ⟨a, c⟩ => ⟨a, fun h => absurd h (by omega), c⟩⟩
theorem uniq {l : List SRep} (h : l.Pairwise (fun x y => x.fNode < y.fNode)) {x y : SRep} (hx : x ∈ l) (hy : y ∈ l) (e : x.fNode = y.fNode) : x = y := by
  obtain ⟨i, hi, rfl⟩ := List.mem_iff_getElem.1 hx
  obtain ⟨j, hj, rfl⟩ := List.mem_iff_getElem.1 hy
  have hp := List.pairwise_iff_getElem.1 h
  rcases Nat.lt_trichotomy i j with g | g | g
  · have := hp i j hi hj g; omega
  · subst g; rfl
  · have := hp j i hj hi g; omega
open Classical in
/-- The reference and the program ask the same of an account. -/
theorem acctOk_same {a : SAcct} (n d : Int) (h1 : a.fMarks.length ≤ maxLen) (h2 : a.fReps.length ≤ maxLen) : spec_AcctOk a n d = impl_AcctOk a n d ∧ ∃ b, impl_AcctOk a n d = some b := by
  unfold spec_AcctOk impl_AcctOk spec_l01Num impl_isNum
  rw [spec_in_impl]
  simp only [impl_in_eq, Option.bind_some]
  by_cases hn : 1 ≤ n ∧ n ≤ 4
  rotate_left
  · rw [decide_eq_false hn]; exact ⟨rfl, _, rfl⟩
  rw [decide_eq_true hn]
  simp only [Bool.not_true, _root_.cond_false]
  cases decide (0 ≤ d ∧ d ≤ w64 (n - 1))
  · exact ⟨rfl, _, rfl⟩
  cases decide (0 ≤ a.fHave ∧ a.fHave ≤ 1125899906842624)
  · exact ⟨rfl, _, rfl⟩
  cases (a.fState == 0)
  rotate_left
  · simp only [Bool.not_true, _root_.cond_false, _root_.cond_true]
    cases (a.fBy == 0) <;> cases ((a.fMarks.length : Int) == 0) <;> first | exact ⟨rfl, _, rfl⟩ | exact ⟨trivial, _, rfl⟩
  simp only [Bool.not_true, _root_.cond_false, _root_.cond_true]
  cases decide (0 ≤ a.fBy ∧ a.fBy ≤ w64 (n - 1))
  · exact ⟨rfl, _, rfl⟩
  simp only [Bool.not_true, _root_.cond_false, _root_.cond_true]
  rw [rise_nodes, nodesOk_eq h1 (by omega) (by omega), nodesOk_eq h1 hn.1 hn.2, Option.bind_some, Option.bind_some, hasInt_eq, l01Has_eq, Option.bind_some, Option.bind_some]
  by_cases r4 : rising a.fMarks 4
  rotate_left
  · have : ¬ rising a.fMarks n := fun h => r4 (rising_le hn.2 h)
    rw [decide_eq_false r4, decide_eq_false this]; exact ⟨rfl, _, rfl⟩
  rw [decide_eq_true r4]
  by_cases rn : rising a.fMarks n
  rotate_left
  · rw [decide_eq_false rn, spec_l1_bad h2 h1 hn.1 hn.2 r4 rn a.fReps 0 false rfl (by omega)]
    cases decide (d ∈ a.fMarks) <;> exact ⟨rfl, _, rfl⟩
  rw [decide_eq_true rn]
  cases decide (d ∈ a.fMarks)
  rotate_left
  · exact ⟨rfl, _, rfl⟩
  simp only [Bool.not_true, _root_.cond_false, _root_.cond_true]
  rw [spec_l1 h2 rn h1 hn.1 hn.2 a.fReps 0 false rfl (by omega)]
  unfold impl_repsOk
  rw [reps_l1 h2 hn.1 hn.2 a.fReps 0 rfl (by omega), Option.bind_some]
  simp only [restR_0]
  by_cases rr : risingR a.fReps n
  rotate_left
  · rw [decide_eq_false rr, if_neg fun h => rr h.1]; exact ⟨rfl, _, rfl⟩
  rw [decide_eq_true rr]
  simp only [Bool.not_true, _root_.cond_false, rr, true_and, Bool.false_or]
  obtain ⟨b, hb⟩ := j1_some a n
  unfold endA
  rw [hb]
  by_cases he : ∃ x ∈ a.fReps, x.fNode = d
  · obtain ⟨k, hk, x, hx, hxd, -⟩ := repAt_yes he
    have hm : x ∈ a.fReps := List.mem_of_getElem? hx
    have hd : decide ((k : Int) ≥ 0) = true := by simp
    rw [hk, Option.bind_some, ix_nat, hx, Option.bind_some, hd, decide_eq_true he]
    by_cases ha : x.fAmt = a.fHave
    · have : ∀ z ∈ a.fReps, z.fNode = d → z.fAmt = a.fHave := fun z hz hzd => by
        have := uniq rr.2 hz hm (by omega); subst this; exact ha
      rw [if_pos this, ha, bne_self_eq_false]
      cases ((a.fMarks.length : Int) == w64 (n - 1)) <;> exact ⟨rfl, _, rfl⟩
    · have : ¬ ∀ z ∈ a.fReps, z.fNode = d → z.fAmt = a.fHave := fun h => ha (h x hm hxd)
      rw [if_neg this, bne_int, decide_eq_false ha]
      cases ((a.fMarks.length : Int) == w64 (n - 1)) <;> exact ⟨rfl, _, rfl⟩
  · have hno : ∀ x ∈ a.fReps, x.fNode ≠ d := fun x hx hn => he ⟨x, hx, hn⟩
    have : ∀ z ∈ a.fReps, z.fNode = d → z.fAmt = a.fHave := fun z hz hzd => absurd hzd (hno z hz)
    have hd : decide ((-1 : Int) ≥ 0) = false := by decide
    rw [repAt_no hno, Option.bind_some, hd, decide_eq_false he, if_pos this]
    cases ((a.fMarks.length : Int) == w64 (n - 1)) <;> exact ⟨rfl, _, rfl⟩

end Go.Proofs.Ytncjcbdbdocjaaa

/- Loops over lists, in general. -/
namespace Go.Proofs.Ytncjcbdbdocjaaa
open Go

theorem eqL_gen {α : Type} [DecidableEq α] {f : List α → Nat → Option Bool} {b : List α} (hn : ∀ i, f [] i = some true)
    (hc : ∀ x t (i : Nat), f (x :: t) i = (ix b (i : Int)).bind fun y => bif decide (x = y) then f t (i + 1) else some false) :
    ∀ (t L : List α) (i : Nat), t = L.drop i → b.length = L.length → i ≤ L.length → f t i = some (decide (t = b.drop i))
  | [], L, i, hd, hl, hi => by
    have := List.drop_eq_nil_iff.1 hd.symm
    rw [hn, List.drop_eq_nil_of_le (by omega)]; simp
  | x :: t, L, i, hd, hl, hi => by
    obtain ⟨h1, h2, h3⟩ := drop_cons hd
    have hlt : i < b.length := by omega
    rw [hc, ix_nat]
    have hy : b[i]? = some b[i] := by simp [hlt]
    rw [hy, Option.bind_some, List.drop_eq_getElem_cons hlt]
    by_cases hx : x = b[i]
    · simp only [hx, decide_true, cond_true]
      rw [eqL_gen hn hc t L (i + 1) h1 hl (by omega)]
      simp only [List.cons.injEq, true_and]
    · simp only [hx, decide_false, cond_false, List.cons.injEq, false_and]
theorem eqS_gen {α : Type} [DecidableEq α] {f : List α → Nat → Option Bool} {a b : List α} (hn : ∀ i, f [] i = some true)
    (hc : ∀ x t (i : Nat), f (x :: t) i = (ix b (i : Int)).bind fun y => bif decide (x = y) then f t (i + 1) else some false) :
    (bif ((a.length : Int) != (b.length : Int)) then some false else f a 0) = some (decide (a = b)) := by
  by_cases h : a.length = b.length
  · have hb : ((a.length : Int) != (b.length : Int)) = false := by simp [h]
    rw [hb, cond_false, eqL_gen hn hc a a 0 rfl h.symm (by omega)]; simp
  · have hb : ((a.length : Int) != (b.length : Int)) = true := by simp; omega
    rw [hb, cond_true]
    have : a ≠ b := fun he => h (by rw [he])
    simp [this]
theorem toL_gen {α : Type} {f : List α → Nat → List α → Option (List α)} {q : α → Prop} (hn : ∀ i y, f [] i y = some y)
    (hc : ∀ x t (i : Nat) y, q x → f (x :: t) i y = (ix y (i : Int)).bind fun _ => f t (i + 1) (List.set y (Int.toNat (i : Int)) x)) :
    ∀ (t L : List α) (i : Nat) (y : List α), t = L.drop i → y.length = L.length → y.take i = L.take i → i ≤ L.length → (∀ x ∈ t, q x) → f t i y = some L
  | [], L, i, y, hd, hl, ht, hi, hq => by
    have := List.drop_eq_nil_iff.1 hd.symm
    rw [hn]
    rw [List.take_of_length_le (by omega), List.take_of_length_le (by omega)] at ht
    rw [ht]
  | x :: t, L, i, y, hd, hl, ht, hi, hq => by
    obtain ⟨h1, h2, h3⟩ := drop_cons hd
    rw [hc x t i y (hq x (by simp)), ix_nat]
    have hy : y[i]? = some (y[i]'(by omega)) := by simp [show i < y.length by omega]
    rw [hy, Option.bind_some]
    refine toL_gen hn hc t L (i + 1) _ h1 (by simp [hl]) ?_ (by omega) (fun x hx => hq x (by simp [hx]))
    rw [List.take_add_one, List.take_add_one, List.take_set_of_le (by simp), ht]
    simp [show i < y.length by omega, h2]
theorem toS_gen {α : Type} {f : List α → Nat → List α → Option (List α)} {q : α → Prop} {b : Nat} {z : α} {l : List α} (hb : b ≤ 4096) (h : l.length ≤ 1048576) (hq : ∀ x ∈ l, q x) (hn : ∀ i y, f [] i y = some y)
    (hc : ∀ x t (i : Nat) y, q x → f (x :: t) i y = (ix y (i : Int)).bind fun _ => f t (i + 1) (List.set y (Int.toNat (i : Int)) x)) :
    gO (0 ≤ (l.length : Int) ∧ room b (Int.toNat (l.length : Int))) (f l 0 (List.replicate (Int.toNat (l.length : Int)) z)) = some l := by
  rw [gO_t ⟨by omega, room_of hb (by simp; omega)⟩]
  exact toL_gen hn hc l l 0 _ rfl (by simp) (by simp) (by omega) hq
/-- A budget that is lessened by a length. -/
theorem szL_gen {n : Nat} {k : Int} (hl : n ≤ maxLen) (hk0 : -1 ≤ k) (hk : k ≤ 1048576) :
    ∃ v, (bif (decide ((w64 (k - (n : Int))) < 0)) then some (-1) else some (w64 (k - (n : Int)))) = some v ∧ -1 ≤ v ∧ v ≤ k ∧ (0 ≤ v → 0 ≤ k → n ≤ 1048576) := by
  have h3 : (maxLen : Int) = 9223372036854775807 ∨ maxLen ≤ 140737488355328 := by decide
  have h2 : n ≤ 9223372036854775807 := hl
  have hw : w64 (k - (n : Int)) = k - n := w64_id (by rcases h3 with h3 | h3 <;> omega) (by omega)
  rw [hw]
  by_cases h : k - (n : Int) < 0
  · simp only [h, decide_true, cond_true]; exact ⟨_, rfl, by omega, by omega, by omega⟩
  · simp only [h, decide_false, cond_false]; exact ⟨_, rfl, by omega, by omega, by omega⟩

end Go.Proofs.Ytncjcbdbdocjaaa

/- The laws' own helpers over IntS. -/
namespace Go.Proofs.Ytncjcbdbdocjaaa
open Go

theorem toIntS_eq {l : List Int} (h : l.length ≤ 1048576) : laws_toIntS l = some l := by
  unfold laws_toIntS
  exact toS_gen (f := laws_toIntS_l1) (q := fun _ => True) (by omega) h (fun _ _ => trivial) (fun i y => by rw [laws_toIntS_l1]) (fun x t i y _ => by rw [laws_toIntS_l1])

end Go.Proofs.Ytncjcbdbdocjaaa

/- The laws' own helpers over Rep. -/
namespace Go.Proofs.Ytncjcbdbdocjaaa
open Go

theorem toRep_eq (a : SRep) : laws_toRep a = some a := rfl

end Go.Proofs.Ytncjcbdbdocjaaa

/- The laws' own helpers over RepS. -/
namespace Go.Proofs.Ytncjcbdbdocjaaa
open Go

theorem toRepS_eq {l : List SRep} (h : l.length ≤ 1048576) : laws_toRepS l = some l := by
  unfold laws_toRepS
  exact toS_gen (f := laws_toRepS_l1) (q := fun _ => True) (by omega) h (fun _ _ => trivial) (fun i y => by rw [laws_toRepS_l1]) (fun x t i y _ => by rw [laws_toRepS_l1, toRep_eq, Option.bind_some])

end Go.Proofs.Ytncjcbdbdocjaaa

/- The laws' own helpers over Acct. -/
namespace Go.Proofs.Ytncjcbdbdocjaaa
open Go

def shAcct (a : SAcct) : Prop := a.fMarks.length ≤ 1048576 ∧ a.fReps.length ≤ 1048576
def wflAcct (a : SAcct) : Prop := (a.fMarks.length ≤ maxLen) ∧ (a.fReps.length ≤ maxLen)

end Go.Proofs.Ytncjcbdbdocjaaa

/- The laws' own helpers over Acct. -/
namespace Go.Proofs.Ytncjcbdbdocjaaa
open Go

theorem toAcct_eq {a : SAcct} (h : shAcct a) : laws_toAcct a = some a := by
  unfold laws_toAcct
  simp only [toIntS_eq h.1, toRepS_eq h.2, Option.bind_some]

end Go.Proofs.Ytncjcbdbdocjaaa

/- The laws' own helpers over IntS. -/
namespace Go.Proofs.Ytncjcbdbdocjaaa
open Go

theorem eqIntS_eq (a b : List Int) : laws_eqIntS a b = some (decide (a = b)) := by
  unfold laws_eqIntS
  exact eqS_gen (f := laws_eqIntS_l1 b) (fun i => by rw [laws_eqIntS_l1]) (fun x t i => by rw [laws_eqIntS_l1]; congr 1; funext y; rw [bne_int]; cases decide (x = y) <;> rfl)

end Go.Proofs.Ytncjcbdbdocjaaa

/- The laws' own helpers over Rep. -/
namespace Go.Proofs.Ytncjcbdbdocjaaa
open Go

theorem eqRep_eq (a b : SRep) : laws_eqRep a b = some (decide (a = b)) := by
  obtain ⟨x0, x1⟩ := a
  obtain ⟨y0, y1⟩ := b
  unfold laws_eqRep
  by_cases h0 : x0 = y0
  · subst h0
    by_cases h1 : x1 = y1
    · subst h1
      simp [bne_int, SRep.mk.injEq]
    · simp [bne_int, SRep.mk.injEq, h1]
  · simp [bne_int, SRep.mk.injEq, h0]

end Go.Proofs.Ytncjcbdbdocjaaa

/- The laws' own helpers over RepS. -/
namespace Go.Proofs.Ytncjcbdbdocjaaa
open Go

theorem eqRepS_eq (a b : List SRep) : laws_eqRepS a b = some (decide (a = b)) := by
  unfold laws_eqRepS
  exact eqS_gen (f := laws_eqRepS_l1 b) (fun i => by rw [laws_eqRepS_l1]) (fun x t i => by rw [laws_eqRepS_l1]; congr 1; funext y; rw [eqRep_eq, Option.bind_some]; cases decide (x = y) <;> rfl)

end Go.Proofs.Ytncjcbdbdocjaaa

/- The laws' own helpers over Acct. -/
namespace Go.Proofs.Ytncjcbdbdocjaaa
open Go

theorem eqAcct_eq (a b : SAcct) : laws_eqAcct a b = some (decide (a = b)) := by
  obtain ⟨x0, x1, x2, x3, x4⟩ := a
  obtain ⟨y0, y1, y2, y3, y4⟩ := b
  unfold laws_eqAcct
  by_cases h0 : x0 = y0
  · subst h0
    by_cases h1 : x1 = y1
    · subst h1
      by_cases h2 : x2 = y2
      · subst h2
        by_cases h3 : x3 = y3
        · subst h3
          by_cases h4 : x4 = y4
          · subst h4
            simp [bne_int, SAcct.mk.injEq, eqIntS_eq, eqRepS_eq]
          · simp [bne_int, SAcct.mk.injEq, eqIntS_eq, eqRepS_eq, h4]
        · simp [bne_int, SAcct.mk.injEq, eqIntS_eq, eqRepS_eq, h3]
      · simp [bne_int, SAcct.mk.injEq, eqIntS_eq, eqRepS_eq, h2]
    · simp [bne_int, SAcct.mk.injEq, eqIntS_eq, eqRepS_eq, h1]
  · simp [bne_int, SAcct.mk.injEq, eqIntS_eq, eqRepS_eq, h0]

end Go.Proofs.Ytncjcbdbdocjaaa

/- The laws' own helpers over IntS. -/
namespace Go.Proofs.Ytncjcbdbdocjaaa
open Go

theorem szIntS_ok {l : List Int} {k : Int} (hl : l.length ≤ maxLen) (hk0 : -1 ≤ k) (hk : k ≤ 1048576) : ∃ v, laws_szIntS l k = some v ∧ -1 ≤ v ∧ v ≤ k ∧ (0 ≤ v → 0 ≤ k → l.length ≤ 1048576) := by
  unfold laws_szIntS; exact szL_gen hl hk0 hk

end Go.Proofs.Ytncjcbdbdocjaaa

/- The laws' own helpers over RepS. -/
namespace Go.Proofs.Ytncjcbdbdocjaaa
open Go

theorem szRepS_ok {l : List SRep} {k : Int} (hl : l.length ≤ maxLen) (hk0 : -1 ≤ k) (hk : k ≤ 1048576) : ∃ v, laws_szRepS l k = some v ∧ -1 ≤ v ∧ v ≤ k ∧ (0 ≤ v → 0 ≤ k → l.length ≤ 1048576) := by
  unfold laws_szRepS; exact szL_gen hl hk0 hk

end Go.Proofs.Ytncjcbdbdocjaaa

/- The laws' own helpers over Acct. -/
namespace Go.Proofs.Ytncjcbdbdocjaaa
open Go

theorem szAcct_ok {a : SAcct} {k : Int} (h : wflAcct a) (hk0 : -1 ≤ k) (hk : k ≤ 1048576) : ∃ v, laws_szAcct a k = some v ∧ -1 ≤ v ∧ v ≤ k ∧ (0 ≤ v → 0 ≤ k → shAcct a) := by
  unfold laws_szAcct
  obtain ⟨v0, hv0, p0, q0, r0⟩ := szIntS_ok (k := k) h.1 (by omega) (by omega)
  rw [hv0, Option.bind_some]
  by_cases hn0 : v0 < 0
  · simp only [hn0, decide_true, cond_true]; exact ⟨_, rfl, by omega, by omega, by omega⟩
  simp only [hn0, decide_false, cond_false]
  obtain ⟨v1, hv1, p1, q1, r1⟩ := szRepS_ok (k := v0) h.2 (by omega) (by omega)
  rw [hv1, Option.bind_some]
  by_cases hn1 : v1 < 0
  · simp only [hn1, decide_true, cond_true]; exact ⟨_, rfl, by omega, by omega, by omega⟩
  simp only [hn1, decide_false, cond_false]
  exact ⟨_, rfl, by omega, by omega, fun _ _ => ⟨r0 (by omega) (by omega), r1 (by omega) (by omega)⟩⟩

end Go.Proofs.Ytncjcbdbdocjaaa

/- The law FnExactAcctOk answers true. -/
namespace Go.Proofs.Ytncjcbdbdocjaaa
open Go

theorem pure_FnExactAcctOk (a : SAcct) (h : wfAcct a) (n : Int) (hn : wfI n) (d : Int) (hd : wfI d) : laws_FnExactAcctOk a n d = some true := by
  obtain ⟨-, -, -, h1, h2⟩ := h
  unfold laws_FnExactAcctOk
  obtain ⟨v, hv, q1, q2, hs⟩ := szAcct_ok (a := a) (k := 1048576) ⟨h1.1, h2.1⟩ (by omega) (by omega)
  rw [hv, Option.bind_some]
  by_cases hneg : v < 0
  · simp only [hneg, decide_true, _root_.cond_true]
  · have hs := hs (by omega) (by omega)
    obtain ⟨e, b, hb⟩ := acctOk_same (a := a) n d h1.1 h2.1
    simp only [hneg, decide_false, _root_.cond_false, toAcct_eq hs, e, hb, Option.bind_some, eqAcct_eq, decide_true, Bool.not_true, bne_self_eq_false]

end Go.Proofs.Ytncjcbdbdocjaaa

