/- The plain law FnExactPropHear and what it needs: no program in sight. -/
import Derived.Test.YtncjcbdbdocjaaaUFnExactPropHear
set_option linter.unusedVariables false
set_option linter.unusedSimpArgs false

/- Small plain facts: numbers, and the laws' own helpers over lists of numbers. -/
namespace Go.Proofs.Ytncjcbdbdocjaaa
open Go

theorem w64_id {n : Int} (h1 : -9223372036854775808 ≤ n) (h2 : n ≤ 9223372036854775807) : w64 n = n := by
  unfold w64; rw [IntKind.wrap_i64]; omega
theorem room_of {b n : Nat} (hb : b ≤ 4096) (hn : n ≤ 34359738368) : room b n := by
  have : n * b ≤ 34359738368 * 4096 := Nat.mul_le_mul hn hb
  exact ⟨by omega, by omega⟩
theorem gO_t {α : Type} {c : Prop} [Decidable c] {k : Option α} (h : c) : gO c k = k := by simp [gO, h]
theorem drop_cons {α : Type} {L t : List α} {x : α} {i : Nat} (h : x :: t = L.drop i) : t = L.drop (i + 1) ∧ L[i]? = some x ∧ i < L.length := by
  have h1 := dnext h
  have h2 := ix_get (dget h)
  exact ⟨h1, by simpa using h2, dlt h⟩
theorem ix_nat {α : Type} (l : List α) (i : Nat) : ix l (i : Int) = l[i]? := by simp [ix]
theorem ix_lt {α : Type} {l : List α} {i : Int} (h0 : 0 ≤ i) (h1 : i < l.length) : ∃ x, ix l i = some x := by
  unfold ix
  rw [if_pos h0]
  exact ⟨l[i.toNat]'(by omega), by simp⟩
theorem w64_pred {i : Nat} (h0 : 0 < i) (h1 : i ≤ maxLen) : w64 ((i : Int) - 1) = ((i - 1 : Nat) : Int) := by
  have h2 : i ≤ 9223372036854775807 := h1
  rw [w64_id (by omega) (by omega)]; omega

theorem beq_dec {α : Type} [DecidableEq α] (x y : α) : (x == y) = decide (x = y) := by by_cases h : x = y <;> simp [h]
theorem bne_dec {α : Type} [DecidableEq α] (x y : α) : (x != y) = !decide (x = y) := by unfold bne; rw [beq_dec]
theorem beq_int (x y : Int) : (x == y) = decide (x = y) := beq_dec x y
theorem bne_int (x y : Int) : (x != y) = !decide (x = y) := bne_dec x y
theorem and_dec (p q : Prop) [Decidable p] [Decidable q] : (decide p && decide q) = decide (p ∧ q) := by simp
theorem or_dec (p q : Prop) [Decidable p] [Decidable q] : (decide p || decide q) = decide (p ∨ q) := by simp
theorem not_dec (p : Prop) [Decidable p] : (!decide p) = decide (¬ p) := by simp
theorem bind_id {α : Type} (x : Option α) : (x.bind fun v => some v) = x := by cases x <;> rfl

end Go.Proofs.Ytncjcbdbdocjaaa

/- Ranges. -/
namespace Go.Proofs.Ytncjcbdbdocjaaa
open Go

theorem impl_in_eq (n lo hi : Int) : impl_in n lo hi = some (decide (lo ≤ n ∧ n ≤ hi)) := by
  unfold impl_in
  by_cases h : n ≥ lo
  · simp [h]
  · have : ¬ lo ≤ n := h
    simp [h, this]

end Go.Proofs.Ytncjcbdbdocjaaa

/- Ranges: the reference's are the program's. -/
namespace Go.Proofs.Ytncjcbdbdocjaaa
open Go

theorem spec_in_impl : spec_l01In = impl_in := rfl
theorem spec_in_eq (n lo hi : Int) : spec_l01In n lo hi = some (decide (lo ≤ n ∧ n ≤ hi)) := by rw [spec_in_impl, impl_in_eq]

end Go.Proofs.Ytncjcbdbdocjaaa

/- Proposers: the reference and the program agree. -/
namespace Go.Proofs.Ytncjcbdbdocjaaa
open Go

theorem impl_nodesOk_l1_tot : ∀ (t L : List Int) (n : Int) (i : Nat), t = L.drop i → i ≤ L.length → L.length ≤ maxLen → ∃ b, impl_nodesOk_l1 L n t i = some b
  | [], L, n, i, hd, hi, hL => ⟨true, by rw [impl_nodesOk_l1]⟩
  | x :: t, L, n, i, hd, hi, hL => by
    obtain ⟨h1, h2, h3⟩ := drop_cons hd
    obtain ⟨b, hb⟩ := impl_nodesOk_l1_tot t L n (i + 1) h1 (by omega) hL
    rw [impl_nodesOk_l1, impl_in_eq, Option.bind_some, hb]
    have hx : 0 < i → ∃ z, ix L (w64 ((i : Int) - 1)) = some z := fun h0 => by
      rw [w64_pred h0 (by omega)]
      exact ix_lt (by omega) (by omega)
    by_cases h0 : 0 < i
    · obtain ⟨z, hz⟩ := hx h0
      rw [hz, Option.bind_some]
      cases (!decide (0 ≤ x ∧ x ≤ w64 (n - 1))) <;> cases (decide ((i : Int) > 0)) <;> cases (decide (z ≥ x)) <;> exact ⟨_, rfl⟩
    · have : decide ((i : Int) > 0) = false := by simp; omega
      rw [this]
      cases (!decide (0 ≤ x ∧ x ≤ w64 (n - 1))) <;> exact ⟨_, rfl⟩
theorem rise_nodes_l1 : ∀ (t L : List Int) (i : Nat), spec_l07Rise_l1 L t i = impl_nodesOk_l1 L 4 t i
  | [], L, i => by rw [spec_l07Rise_l1, impl_nodesOk_l1]
  | x :: t, L, i => by
    have hw : w64 (4 - 1) = 3 := by decide
    rw [spec_l07Rise_l1, impl_nodesOk_l1, rise_nodes_l1 t L (i + 1)]
    unfold spec_l07Node
    rw [spec_in_impl, hw]
    simp only [impl_in_eq, Option.bind_some]
theorem impl_nodesOk_tot {l : List Int} (n : Int) (h : l.length ≤ maxLen) : ∃ b, impl_nodesOk l n = some b := impl_nodesOk_l1_tot l l n 0 rfl (by omega) h
theorem rise_nodes (l : List Int) : spec_l07Rise l = impl_nodesOk l 4 := rise_nodes_l1 l l 0
theorem propOk_same (p : SProp) : spec_PropOk p = impl_PropOk p := by
  unfold spec_PropOk impl_PropOk
  simp only [rise_nodes]
  unfold spec_l07Val impl_isChoice impl_isBallot
  rw [spec_in_impl]
  simp only [impl_in_eq, Option.bind_some]
theorem propOk_tot {p : SProp} (h1 : p.fFrom.length ≤ maxLen) (h2 : p.fGot.length ≤ maxLen) : ∃ b, impl_PropOk p = some b := by
  obtain ⟨b1, hb1⟩ := impl_nodesOk_tot (l := p.fFrom) 4 h1
  obtain ⟨b2, hb2⟩ := impl_nodesOk_tot (l := p.fGot) 4 h2
  unfold impl_PropOk impl_isChoice impl_isBallot
  simp only [impl_in_eq, Option.bind_some, hb1, hb2]
  cases (decide (1 ≤ p.fBal ∧ p.fBal ≤ 1125899906842624)) <;> cases (decide (1 ≤ p.fVal ∧ p.fVal ≤ 4)) <;> cases b1 <;> cases b2 <;> exact ⟨_, rfl⟩


end Go.Proofs.Ytncjcbdbdocjaaa

/- Membership in a list of numbers. -/
namespace Go.Proofs.Ytncjcbdbdocjaaa
open Go

theorem hasInt_l1 (n : Int) : ∀ (t : List Int) (i : Nat), impl_hasInt_l1 n t i = some (decide (n ∈ t))
  | [], i => by rw [impl_hasInt_l1]; simp
  | x :: t, i => by
    rw [impl_hasInt_l1, hasInt_l1 n t (i + 1), beq_int]
    by_cases h : x = n
    · simp [h]
    · have : ¬ n = x := fun e => h e.symm
      simp [h, this]
theorem hasInt_eq (l : List Int) (n : Int) : impl_hasInt l n = some (decide (n ∈ l)) := hasInt_l1 n l 0

end Go.Proofs.Ytncjcbdbdocjaaa

/- Membership in a list of numbers: the reference's. -/
namespace Go.Proofs.Ytncjcbdbdocjaaa
open Go

theorem l01Has_l1 (n : Int) : ∀ (t : List Int) (i : Nat), spec_l01Has_l1 n t i = some (decide (n ∈ t))
  | [], i => by rw [spec_l01Has_l1]; simp
  | x :: t, i => by
    rw [spec_l01Has_l1, l01Has_l1 n t (i + 1), beq_int]
    by_cases h : x = n
    · simp [h]
    · have : ¬ n = x := fun e => h e.symm
      simp [h, this]
theorem l01Has_eq (l : List Int) (n : Int) : spec_l01Has l n = some (decide (n ∈ l)) := l01Has_l1 n l 0

end Go.Proofs.Ytncjcbdbdocjaaa

/- Ascending lists of nodes. -/
namespace Go.Proofs.Ytncjcbdbdocjaaa
open Go

theorem nodes_l1 : ∀ (t L : List Int) (n : Int) (i : Nat), t = L.drop i → i ≤ L.length → L.length ≤ maxLen →
    impl_nodesOk_l1 L n t i = some (decide ((∀ x ∈ t, 0 ≤ x ∧ x ≤ w64 (n - 1)) ∧ (0 < i → ∀ z, L[i-1]? = some z → ∀ x ∈ t, z < x) ∧ t.Pairwise (· < ·)))
  | [], L, n, i, hd, hi, hL => by rw [impl_nodesOk_l1]; simp
  | x :: t, L, n, i, hd, hi, hL => by
    obtain ⟨h1, h2, h3⟩ := drop_cons hd
    have ih := nodes_l1 t L n (i + 1) h1 (by omega) hL
    have hx : L[i + 1 - 1]? = some x := by
      rw [Nat.add_sub_cancel]
      have : (L.drop i)[0]? = some x := by rw [← hd]; rfl
      simpa using this
    rw [impl_nodesOk_l1, impl_in_eq, Option.bind_some, ih]
    by_cases hr : 0 ≤ x ∧ x ≤ w64 (n - 1)
    · rw [decide_eq_true hr, Bool.not_true, cond_false]
      by_cases h0 : 0 < i
      · obtain ⟨z, hz⟩ : ∃ z, L[i-1]? = some z := ⟨L[i-1]'(by omega), List.getElem?_eq_getElem (by omega)⟩
        have hz' : ix L ((i - 1 : Nat) : Int) = some z := by rw [ix_nat, hz]
        have hd0 : decide ((i : Int) > 0) = true := by simp; omega
        rw [hd0, cond_true, w64_pred h0 (by omega), hz', Option.bind_some]
        by_cases hzx : z ≥ x
        · rw [decide_eq_true hzx, cond_true]
          symm; congr 1; apply decide_eq_false
          rintro ⟨-, h, -⟩
          have := h h0 z hz x (by simp); omega
        · rw [decide_eq_false hzx, cond_false]
          congr 1; apply decide_eq_decide.2
          constructor
          · rintro ⟨a1, a2, a3⟩
            have a2 := a2 (by omega) x hx
            refine ⟨fun y hy => ?_, fun _ z' hz' y hy => ?_, List.pairwise_cons.2 ⟨a2, a3⟩⟩
            · rcases List.mem_cons.1 hy with rfl | hy
              · exact hr
              · exact a1 y hy
            · have : z' = z := by rw [hz] at hz'; exact (Option.some.inj hz').symm
              subst this
              rcases List.mem_cons.1 hy with rfl | hy
              · omega
              · have := a2 y hy; omega
          · rintro ⟨a1, a2, a3⟩
            have a3 := List.pairwise_cons.1 a3
            refine ⟨fun y hy => a1 y (by simp [hy]), fun _ z' hz' y hy => ?_, a3.2⟩
            have : z' = x := by rw [hx] at hz'; exact (Option.some.inj hz').symm
            subst this
            exact a3.1 y hy
      · have hd0 : decide ((i : Int) > 0) = false := by simp; omega
        rw [hd0, cond_false]
        congr 1; apply decide_eq_decide.2
        constructor
        · rintro ⟨a1, a2, a3⟩
          have a2 := a2 (by omega) x hx
          refine ⟨fun y hy => ?_, fun h => absurd h h0, List.pairwise_cons.2 ⟨a2, a3⟩⟩
          rcases List.mem_cons.1 hy with rfl | hy
          · exact hr
          · exact a1 y hy
        · rintro ⟨a1, a2, a3⟩
          have a3 := List.pairwise_cons.1 a3
          refine ⟨fun y hy => a1 y (by simp [hy]), fun _ z' hz' y hy => ?_, a3.2⟩
          have : z' = x := by rw [hx] at hz'; exact (Option.some.inj hz').symm
          subst this
          exact a3.1 y hy
    · rw [decide_eq_false hr, Bool.not_false, cond_true]
      symm; congr 1; apply decide_eq_false
      rintro ⟨h, -, -⟩
      exact hr (h x (by simp))
/-- What the program's nodesOk tells. -/
def rising (l : List Int) (n : Int) : Prop := (∀ x ∈ l, 0 ≤ x ∧ x ≤ n - 1) ∧ l.Pairwise (· < ·)
instance (l : List Int) (n : Int) : Decidable (rising l n) := by unfold rising; infer_instance
theorem nodesOk_eq {l : List Int} {n : Int} (h : l.length ≤ maxLen) (h1 : 1 ≤ n) (h2 : n ≤ 4) : impl_nodesOk l n = some (decide (rising l n)) := by
  unfold impl_nodesOk
  rw [nodes_l1 l l n 0 rfl (by omega) h, w64_id (by omega) (by omega)]
  congr 1; apply decide_eq_decide.2
  constructor
  · rintro ⟨a1, -, a3⟩; exact ⟨a1, a3⟩
  · rintro ⟨a1, a3⟩; exact ⟨a1, fun h => absurd h (by omega), a3⟩
/-- A list of numbers with one more, ahead of the first greater one. -/
def insI (l : List Int) (n : Int) : List Int := l.takeWhile (fun x => decide (x ≤ n)) ++ [n] ++ l.dropWhile (fun x => decide (x ≤ n))
theorem insI_len (l : List Int) (n : Int) : (insI l n).length = l.length + 1 := by
  have := congrArg List.length (List.takeWhile_append_dropWhile (p := fun x : Int => decide (x ≤ n)) (l := l))
  simp only [List.length_append] at this
  simp only [insI, List.length_append, List.length_cons, List.length_nil]; omega
theorem ins_j1 {l : List Int} (n : Int) (K : Nat) (hK : K ≤ l.length) (h : l.length ≤ 1048576) : impl_insertInt_j1 l n (K : Int) = some (l.take K ++ [n] ++ l.drop K) := by
  unfold impl_insertInt_j1 impl_copyInts
  rw [gO_t ⟨by omega, by omega, by omega⟩, gO_t (room_of (by omega) (by simp; omega)), Option.bind_some, gO_t (room_of (by omega) (by simp; omega)), gO_t ⟨by omega, by omega, by omega⟩, gO_t (room_of (by omega) (by simp; omega))]
  have e1 : List.take (Int.toNat (K : Int) - Int.toNat 0) (List.drop (Int.toNat 0) l) = l.take K := by simp
  have e2 : List.take (Int.toNat (l.length : Int) - Int.toNat (K : Int)) (List.drop (Int.toNat (K : Int)) l) = l.drop K := by
    rw [List.take_of_length_le (by simp)]; simp
  rw [e1, e2]
theorem ins_l2 {l : List Int} (n : Int) (h : l.length ≤ 1048576) : ∀ (f i : Nat), i ≤ l.length → l.length - i < f →
    impl_insertInt_l2 l n f (i : Int) = some (l.take i ++ (l.drop i).takeWhile (fun x => decide (x ≤ n)) ++ [n] ++ (l.drop i).dropWhile (fun x => decide (x ≤ n)))
  | 0, i, hi, hf => by omega
  | f + 1, i, hi, hf => by
    rw [impl_insertInt_l2]
    by_cases hlt : i < l.length
    · have hd : decide ((i : Int) < (l.length : Int)) = true := by simp; omega
      have hx : l[i]? = some l[i] := by simp [hlt]
      rw [hd, cond_true, ix_nat, hx, Option.bind_some]
      have hdr := List.drop_eq_getElem_cons hlt
      by_cases hn : l[i] ≤ n
      · rw [decide_eq_true hn, cond_true, w64_id (by omega) (by omega), show (i : Int) + 1 = ((i + 1 : Nat) : Int) by omega, ins_l2 n h f (i + 1) (by omega) (by omega), hdr]
        rw [List.takeWhile_cons_of_pos (by simpa using hn), List.dropWhile_cons_of_pos (by simpa using hn), List.take_add_one, hx]
        simp only [Option.toList_some, List.append_assoc, List.cons_append, List.nil_append]
      · rw [decide_eq_false hn, cond_false, ins_j1 n i (by omega) h, hdr]
        rw [List.takeWhile_cons_of_neg (by simpa using hn), List.dropWhile_cons_of_neg (by simpa using hn)]
        simp
    · have hd : decide ((i : Int) < (l.length : Int)) = false := by simp; omega
      rw [hd, cond_false, ins_j1 n i (by omega) h, List.drop_eq_nil_of_le (by omega)]
      simp
theorem insertInt_eq {l : List Int} (n : Int) (h : l.length ≤ 1048576) : impl_insertInt l n = some (insI l n) := by
  unfold impl_insertInt
  have := ins_l2 n h fuel 0 (by omega) (by unfold fuel; omega)
  simpa [insI] using this
theorem add_l2 (n : Int) : ∀ (t : List Int) (i : Nat) (y : List Int), y.length + t.length ≤ 34359738360 → spec_l07Add_l2 n t i y = some (y ++ t.filter (fun x => decide (x > n)))
  | [], i, y, h => by rw [spec_l07Add_l2]; simp
  | x :: t, i, y, h => by
    simp only [List.length_cons] at h
    rw [spec_l07Add_l2]
    by_cases hx : x > n
    · rw [decide_eq_true hx, cond_true, gO_t (room_of (by omega) (by simp; omega)), add_l2 n t (i + 1) _ (by simp; omega), List.filter_cons_of_pos (by simpa using hx)]; simp
    · rw [decide_eq_false hx, cond_false, add_l2 n t (i + 1) _ (by omega), List.filter_cons_of_neg (by simpa using hx)]
theorem add_l1 (a : List Int) (n : Int) : ∀ (t : List Int) (i : Nat) (y : List Int), y.length + t.length + a.length ≤ 34359738350 → spec_l07Add_l1 a n t i y = some (y ++ t.filter (fun x => decide (x < n)) ++ [n] ++ a.filter (fun x => decide (x > n)))
  | [], i, y, h => by
    simp only [List.length_nil] at h
    rw [spec_l07Add_l1, gO_t (room_of (by omega) (by simp; omega)), add_l2 n a 0 _ (by simp; omega)]; simp
  | x :: t, i, y, h => by
    simp only [List.length_cons] at h
    rw [spec_l07Add_l1]
    by_cases hx : x < n
    · rw [decide_eq_true hx, cond_true, gO_t (room_of (by omega) (by simp; omega)), add_l1 a n t (i + 1) _ (by simp; omega), List.filter_cons_of_pos (by simpa using hx)]; simp
    · rw [decide_eq_false hx, cond_false, add_l1 a n t (i + 1) _ (by omega), List.filter_cons_of_neg (by simpa using hx)]
theorem filt_all : ∀ (t : List Int) (n : Int), (∀ x ∈ t, n < x) → t.filter (fun x => decide (x < n)) = [] ∧ t.filter (fun x => decide (x > n)) = t := fun t n h => by
  constructor
  · apply List.filter_eq_nil_iff.2; intro x hx; have := h x hx; simp; omega
  · apply List.filter_eq_self.2; intro x hx; have := h x hx; simp; omega
theorem filt_ins (n : Int) : ∀ l : List Int, l.Pairwise (· < ·) → n ∉ l → l.filter (fun x => decide (x < n)) = l.takeWhile (fun x => decide (x ≤ n)) ∧ l.filter (fun x => decide (x > n)) = l.dropWhile (fun x => decide (x ≤ n))
  | [], h, hn => by simp
  | x :: t, h, hn => by
    obtain ⟨h1, h2⟩ := List.pairwise_cons.1 h
    simp only [List.mem_cons, not_or] at hn
    have ih := filt_ins n t h2 hn.2
    by_cases hx : x < n
    · rw [List.filter_cons_of_pos (by simpa using hx), List.filter_cons_of_neg (by simp; omega), List.takeWhile_cons_of_pos (by simp; omega), List.dropWhile_cons_of_pos (by simp; omega), ih.1, ih.2]
      exact ⟨rfl, rfl⟩
    · have hx' : n < x := by omega
      have hf := filt_all t n (fun y hy => by have := h1 y hy; omega)
      rw [List.filter_cons_of_neg (by simpa using hx), List.filter_cons_of_pos (by simpa using hx'), List.takeWhile_cons_of_neg (by simp; omega), List.dropWhile_cons_of_neg (by simp; omega), hf.1, hf.2]
      exact ⟨rfl, rfl⟩
theorem l07Add_eq {l : List Int} {n : Int} (h : l.length ≤ 1048576) (hr : l.Pairwise (· < ·)) (hn : n ∉ l) : spec_l07Add l n = some (insI l n) := by
  unfold spec_l07Add
  rw [add_l1 l n l 0 [] (by simp; omega)]
  obtain ⟨e1, e2⟩ := filt_ins n l hr hn
  rw [e1, e2]; rfl
theorem copyIntsQ {l : List Int} (h : l.length ≤ 1048576) : impl_copyInts l = some l := by
  unfold impl_copyInts; exact gO_t (room_of (by omega) (by simp; omega))

end Go.Proofs.Ytncjcbdbdocjaaa

/- Loops over lists, in general. -/
namespace Go.Proofs.Ytncjcbdbdocjaaa
open Go

theorem eqL_gen {α : Type} [DecidableEq α] {f : List α → Nat → Option Bool} {b : List α} (hn : ∀ i, f [] i = some true)
    (hc : ∀ x t (i : Nat), f (x :: t) i = (ix b (i : Int)).bind fun y => bif decide (x = y) then f t (i + 1) else some false) :
    ∀ (t L : List α) (i : Nat), t = L.drop i → b.length = L.length → i ≤ L.length → f t i = some (decide (t = b.drop i))
  | [], L, i, hd, hl, hi => by
    have := List.drop_eq_nil_iff.1 hd.symm
    rw [hn, List.drop_eq_nil_of_le (by omega)]; simp
  | x :: t, L, i, hd, hl, hi => by
    obtain ⟨h1, h2, h3⟩ := drop_cons hd
    have hlt : i < b.length := by omega
    rw [hc, ix_nat]
    have hy : b[i]? = some b[i] := by simp [hlt]
    rw [hy, Option.bind_some, List.drop_eq_getElem_cons hlt]
    by_cases hx : x = b[i]
    · simp only [hx, decide_true, cond_true]
      rw [eqL_gen hn hc t L (i + 1) h1 hl (by omega)]
      simp only [List.cons.injEq, true_and]
    · simp only [hx, decide_false, cond_false, List.cons.injEq, false_and]
theorem eqS_gen {α : Type} [DecidableEq α] {f : List α → Nat → Option Bool} {a b : List α} (hn : ∀ i, f [] i = some true)
    (hc : ∀ x t (i : Nat), f (x :: t) i = (ix b (i : Int)).bind fun y => bif decide (x = y) then f t (i + 1) else some false) :
    (bif ((a.length : Int) != (b.length : Int)) then some false else f a 0) = some (decide (a = b)) := by
  by_cases h : a.length = b.length
  · have hb : ((a.length : Int) != (b.length : Int)) = false := by simp [h]
    rw [hb, cond_false, eqL_gen hn hc a a 0 rfl h.symm (by omega)]; simp
  · have hb : ((a.length : Int) != (b.length : Int)) = true := by simp; omega
    rw [hb, cond_true]
    have : a ≠ b := fun he => h (by rw [he])
    simp [this]
theorem toL_gen {α : Type} {f : List α → Nat → List α → Option (List α)} {q : α → Prop} (hn : ∀ i y, f [] i y = some y)
    (hc : ∀ x t (i : Nat) y, q x → f (x :: t) i y = (ix y (i : Int)).bind fun _ => f t (i + 1) (List.set y (Int.toNat (i : Int)) x)) :
    ∀ (t L : List α) (i : Nat) (y : List α), t = L.drop i → y.length = L.length → y.take i = L.take i → i ≤ L.length → (∀ x ∈ t, q x) → f t i y = some L
  | [], L, i, y, hd, hl, ht, hi, hq => by
    have := List.drop_eq_nil_iff.1 hd.symm
    rw [hn]
    rw [List.take_of_length_le (by omega), List.take_of_length_le (by omega)] at ht
    rw [ht]
  | x :: t, L, i, y, hd, hl, ht, hi, hq => by
    obtain ⟨h1, h2, h3⟩ := drop_cons hd
    rw [hc x t i y (hq x (by simp)), ix_nat]
    have hy : y[i]? = some (y[i]'(by omega)) := by simp [show i < y.length by omega]
    rw [hy, Option.bind_some]
    refine toL_gen hn hc t L (i + 1) _ h1 (by simp [hl]) ?_ (by omega) (fun x hx => hq x (by simp [hx]))
    rw [List.take_add_one, List.take_add_one, List.take_set_of_le (by simp), ht]
    simp [show i < y.length by omega, h2]
theorem toS_gen {α : Type} {f : List α → Nat → List α → Option (List α)} {q : α → Prop} {b : Nat} {z : α} {l : List α} (hb : b ≤ 4096) (h : l.length ≤ 1048576) (hq : ∀ x ∈ l, q x) (hn : ∀ i y, f [] i y = some y)
    (hc : ∀ x t (i : Nat) y, q x → f (x :: t) i y = (ix y (i : Int)).bind fun _ => f t (i + 1) (List.set y (Int.toNat (i : Int)) x)) :
    gO (0 ≤ (l.length : Int) ∧ room b (Int.toNat (l.length : Int))) (f l 0 (List.replicate (Int.toNat (l.length : Int)) z)) = some l := by
  rw [gO_t ⟨by omega, room_of hb (by simp; omega)⟩]
  exact toL_gen hn hc l l 0 _ rfl (by simp) (by simp) (by omega) hq
/-- A budget that is lessened by a length. -/
theorem szL_gen {n : Nat} {k : Int} (hl : n ≤ maxLen) (hk0 : -1 ≤ k) (hk : k ≤ 1048576) :
    ∃ v, (bif (decide ((w64 (k - (n : Int))) < 0)) then some (-1) else some (w64 (k - (n : Int)))) = some v ∧ -1 ≤ v ∧ v ≤ k ∧ (0 ≤ v → 0 ≤ k → n ≤ 1048576) := by
  have h3 : (maxLen : Int) = 9223372036854775807 ∨ maxLen ≤ 140737488355328 := by decide
  have h2 : n ≤ 9223372036854775807 := hl
  have hw : w64 (k - (n : Int)) = k - n := w64_id (by rcases h3 with h3 | h3 <;> omega) (by omega)
  rw [hw]
  by_cases h : k - (n : Int) < 0
  · simp only [h, decide_true, cond_true]; exact ⟨_, rfl, by omega, by omega, by omega⟩
  · simp only [h, decide_false, cond_false]; exact ⟨_, rfl, by omega, by omega, by omega⟩

end Go.Proofs.Ytncjcbdbdocjaaa

/- The laws' own helpers over Prop. -/
namespace Go.Proofs.Ytncjcbdbdocjaaa
open Go

def shProp (a : SProp) : Prop := a.fFrom.length ≤ 1048576 ∧ a.fGot.length ≤ 1048576
def wflProp (a : SProp) : Prop := (a.fFrom.length ≤ maxLen) ∧ (a.fGot.length ≤ maxLen)

end Go.Proofs.Ytncjcbdbdocjaaa

/- A proposer hears. -/
namespace Go.Proofs.Ytncjcbdbdocjaaa
open Go

theorem copyProp_eq {a : SProp} (h : shProp a) : impl_copyProp a = some a := by
  obtain ⟨h1, h2⟩ := h
  unfold impl_copyProp; rw [copyIntsQ h1, Option.bind_some, copyIntsQ h2, Option.bind_some]
theorem l07Copy_eq {a : SProp} (h : shProp a) : spec_l07Copy a = some a := by
  obtain ⟨h1, h2⟩ := h
  unfold spec_l07Copy; rw [gO_t (room_of (by omega) (by simp; omega)), gO_t (room_of (by omega) (by simp; omega))]
theorem propOk_rise {a : SProp} (h : shProp a) (hp : impl_PropOk a = some true) : rising a.fFrom 4 ∧ rising a.fGot 4 := by
  obtain ⟨h1, h2⟩ := h
  unfold impl_PropOk impl_isBallot impl_isChoice at hp
  rw [nodesOk_eq (by unfold maxLen; omega) (by omega) (by omega), nodesOk_eq (by unfold maxLen; omega) (by omega) (by omega)] at hp
  simp only [impl_in_eq, Option.bind_some] at hp
  by_cases c1 : 1 ≤ a.fBal ∧ a.fBal ≤ 1125899906842624
  · by_cases c2 : 1 ≤ a.fVal ∧ a.fVal ≤ 4
    · by_cases c3 : rising a.fFrom 4
      · by_cases c4 : rising a.fGot 4
        · exact ⟨c3, c4⟩
        · simp [c1, c2, c3, c4] at hp
      · simp [c1, c2, c3] at hp
    · simp [c1, c2] at hp
  · simp [c1] at hp
end Go.Proofs.Ytncjcbdbdocjaaa

/- What is well formed lies in its range. -/
namespace Go.Proofs.Ytncjcbdbdocjaaa
open Go

theorem wfI_bd {n : Int} (h : wfI n) : -9223372036854775808 ≤ n ∧ n ≤ 9223372036854775807 := by
  have := bounds_i64 h
  omega
theorem w64_eq (n : Int) : w64 n = (n + 9223372036854775808) % 18446744073709551616 - 9223372036854775808 := by unfold w64; rw [IntKind.wrap_i64]

end Go.Proofs.Ytncjcbdbdocjaaa

/- The laws' own helpers over IntS. -/
namespace Go.Proofs.Ytncjcbdbdocjaaa
open Go

theorem toIntS_eq {l : List Int} (h : l.length ≤ 1048576) : laws_toIntS l = some l := by
  unfold laws_toIntS
  exact toS_gen (f := laws_toIntS_l1) (q := fun _ => True) (by omega) h (fun _ _ => trivial) (fun i y => by rw [laws_toIntS_l1]) (fun x t i y _ => by rw [laws_toIntS_l1])

end Go.Proofs.Ytncjcbdbdocjaaa

/- The laws' own helpers over Prop. -/
namespace Go.Proofs.Ytncjcbdbdocjaaa
open Go

theorem toProp_eq {a : SProp} (h : shProp a) : laws_toProp a = some a := by
  unfold laws_toProp
  simp only [toIntS_eq h.1, toIntS_eq h.2, Option.bind_some]

end Go.Proofs.Ytncjcbdbdocjaaa

/- The laws' own helpers over IntS. -/
namespace Go.Proofs.Ytncjcbdbdocjaaa
open Go

theorem eqIntS_eq (a b : List Int) : laws_eqIntS a b = some (decide (a = b)) := by
  unfold laws_eqIntS
  exact eqS_gen (f := laws_eqIntS_l1 b) (fun i => by rw [laws_eqIntS_l1]) (fun x t i => by rw [laws_eqIntS_l1]; congr 1; funext y; rw [bne_int]; cases decide (x = y) <;> rfl)

end Go.Proofs.Ytncjcbdbdocjaaa

/- The laws' own helpers over Prop. -/
namespace Go.Proofs.Ytncjcbdbdocjaaa
open Go

theorem eqProp_eq (a b : SProp) : laws_eqProp a b = some (decide (a = b)) := by
  obtain ⟨x0, x1, x2, x3, x4⟩ := a
  obtain ⟨y0, y1, y2, y3, y4⟩ := b
  unfold laws_eqProp
  by_cases h0 : x0 = y0
  · subst h0
    by_cases h1 : x1 = y1
    · subst h1
      by_cases h2 : x2 = y2
      · subst h2
        by_cases h3 : x3 = y3
        · subst h3
          by_cases h4 : x4 = y4
          · subst h4
            simp [bne_int, SProp.mk.injEq, eqIntS_eq, eqIntS_eq]
          · simp [bne_int, SProp.mk.injEq, eqIntS_eq, eqIntS_eq, h4]
        · simp [bne_int, SProp.mk.injEq, eqIntS_eq, eqIntS_eq, h3]
      · simp [bne_int, SProp.mk.injEq, eqIntS_eq, eqIntS_eq, h2]
    · simp [bne_int, SProp.mk.injEq, eqIntS_eq, eqIntS_eq, h1]
  · simp [bne_int, SProp.mk.injEq, eqIntS_eq, eqIntS_eq, h0]

end Go.Proofs.Ytncjcbdbdocjaaa

/- The laws' own helpers over IntS. -/
namespace Go.Proofs.Ytncjcbdbdocjaaa
open Go

theorem szIntS_ok {l : List Int} {k : Int} (hl : l.length ≤ maxLen) (hk0 : -1 ≤ k) (hk : k ≤ 1048576) : ∃ v, laws_szIntS l k = some v ∧ -1 ≤ v ∧ v ≤ k ∧ (0 ≤ v → 0 ≤ k → l.length ≤ 1048576) := by
  unfold laws_szIntS; exact szL_gen hl hk0 hk

end Go.Proofs.Ytncjcbdbdocjaaa

/- The laws' own helpers over Prop. -/
namespace Go.Proofs.Ytncjcbdbdocjaaa
open Go

theorem szProp_ok {a : SProp} {k : Int} (h : wflProp a) (hk0 : -1 ≤ k) (hk : k ≤ 1048576) : ∃ v, laws_szProp a k = some v ∧ -1 ≤ v ∧ v ≤ k ∧ (0 ≤ v → 0 ≤ k → shProp a) := by
  unfold laws_szProp
  obtain ⟨v0, hv0, p0, q0, r0⟩ := szIntS_ok (k := k) h.1 (by omega) (by omega)
  rw [hv0, Option.bind_some]
  by_cases hn0 : v0 < 0
  · simp only [hn0, decide_true, cond_true]; exact ⟨_, rfl, by omega, by omega, by omega⟩
  simp only [hn0, decide_false, cond_false]
  obtain ⟨v1, hv1, p1, q1, r1⟩ := szIntS_ok (k := v0) h.2 (by omega) (by omega)
  rw [hv1, Option.bind_some]
  by_cases hn1 : v1 < 0
  · simp only [hn1, decide_true, cond_true]; exact ⟨_, rfl, by omega, by omega, by omega⟩
  simp only [hn1, decide_false, cond_false]
  exact ⟨_, rfl, by omega, by omega, fun _ _ => ⟨r0 (by omega) (by omega), r1 (by omega) (by omega)⟩⟩

end Go.Proofs.Ytncjcbdbdocjaaa

/- Marking a list's elements, and finding the marks again: in general. -/
namespace Go.Proofs.Ytncjcbdbdocjaaa
open Go

def mkL {α : Type} (m : Int → α → Int × α) : Int → List α → Int × List α
  | k, [] => (k, [])
  | k, x :: t => ((mkL m (m k x).1 t).1, (m k x).2 :: (mkL m (m k x).1 t).2)
theorem w64_succ {j : Int} (h0 : 0 ≤ j) (h1 : j ≤ 2305843009213693952) : w64 (j + 1) = j + 1 := w64_id (by omega) (by omega)
theorem mark_gen {α : Type} {m : Int → α → Int × α} {f : Nat → Int → Int → List α → Option (Int × List α)}
    (hc : ∀ n i k l, f (n + 1) i k l = bif decide (i < (l.length : Int)) then (ix l i).bind fun x => f n (w64 (i + 1)) (m k x).1 (List.set l (Int.toNat i) (m k x).2) else some (k, l)) :
    ∀ (n i : Nat) (k : Int) (l : List α), l.length - i < n → i ≤ l.length → l.length ≤ 1099511627776 → f n (i : Int) k l = some ((mkL m k (l.drop i)).1, l.take i ++ (mkL m k (l.drop i)).2)
  | 0, i, k, l, h1, h2, h3 => by omega
  | n + 1, i, k, l, h1, h2, h3 => by
    rw [hc]
    by_cases hi : i < l.length
    · have hd : decide ((i : Int) < (l.length : Int)) = true := by simp; omega
      have hx : l[i]? = some l[i] := by simp [hi]
      rw [hd, cond_true, ix_nat, hx, Option.bind_some, w64_succ (by omega) (by omega), show (i : Int) + 1 = ((i + 1 : Nat) : Int) by omega, show Int.toNat (i : Int) = i by omega]
      rw [mark_gen hc n (i + 1) _ _ (by simp; omega) (by simp; omega) (by simpa using h3)]
      have e1 : l.drop i = l[i] :: l.drop (i + 1) := List.drop_eq_getElem_cons hi
      have e2 : (l.set i (m k l[i]).2).drop (i + 1) = l.drop (i + 1) := by rw [List.drop_set_of_lt (by omega)]
      have e3 : (l.set i (m k l[i]).2).take (i + 1) = l.take i ++ [(m k l[i]).2] := by
        rw [List.take_add_one, List.take_set_of_le (by omega)]
        simp [hi]
      rw [e1, e2, e3]
      simp [mkL]
    · have hd : decide ((i : Int) < (l.length : Int)) = false := by simp; omega
      rw [hd, cond_false, List.drop_eq_nil_of_le (by omega), List.take_of_length_le (by omega)]
      simp [mkL]
theorem markS_gen {α : Type} {m : Int → α → Int × α} {f : Nat → Int → Int → List α → Option (Int × List α)}
    (hc : ∀ n i k l, f (n + 1) i k l = bif decide (i < (l.length : Int)) then (ix l i).bind fun x => f n (w64 (i + 1)) (m k x).1 (List.set l (Int.toNat i) (m k x).2) else some (k, l))
    (k : Int) {l : List α} (h : l.length ≤ 1099511627776) : f fuel 0 k l = some (mkL m k l) := by
  have := mark_gen hc fuel 0 k l (by unfold fuel; omega) (by omega) h
  simpa using this
theorem held_gen {α : Type} {m : Int → α → Int × α} {g : List α → Nat → Int → Option Int} (hn : ∀ i k, g [] i k = some k) (hc : ∀ k x t i, g ((m k x).2 :: t) i k = g t (i + 1) (m k x).1) :
    ∀ (l : List α) (i : Nat) (k : Int), g (mkL m k l).2 i k = some (mkL m k l).1
  | [], i, k => by simp [mkL, hn]
  | x :: t, i, k => by
    simp only [mkL]
    rw [hc, held_gen hn hc t (i + 1)]
theorem mkL_len {α : Type} {m : Int → α → Int × α} : ∀ (l : List α) (k : Int), (mkL m k l).2.length = l.length
  | [], k => rfl
  | x :: t, k => by simp [mkL, mkL_len t]
theorem mkL_fst {α : Type} {m : Int → α → Int × α} (c : Nat) (hm : ∀ k x, 0 ≤ k → k ≤ 1152921504606846976 → (m k x).1 = k + c) : ∀ (l : List α) (k : Int), 0 ≤ k → k + c * l.length ≤ 1152921504606846976 → (mkL m k l).1 = k + c * l.length
  | [], k, h0, h1 => by simp [mkL]
  | x :: t, k, h0, h1 => by
    have e : (c : Int) * ((x :: t).length : Int) = c + c * (t.length : Int) := by simp [Int.mul_add, Int.add_comm]
    rw [e] at h1 ⊢
    have hp : (0 : Int) ≤ (c : Int) * (t.length : Int) := Int.mul_nonneg (by omega) (by omega)
    simp only [mkL]
    rw [hm k x h0 (by omega), mkL_fst c hm t (k + c) (by omega) (by omega)]
    omega

end Go.Proofs.Ytncjcbdbdocjaaa

/- The laws' own helpers over mark and held, []Int. -/
namespace Go.Proofs.Ytncjcbdbdocjaaa
open Go

def mInt (k : Int) (x : Int) : Int × Int := (w64 (k + 1), k)
theorem markIntS_eq (k : Int) {l : List Int} (h : l.length ≤ 1099511627776) : laws_markIntS l k = some (mkL mInt k l) := by
  unfold laws_markIntS
  exact markS_gen (f := laws_markIntS_l1) (fun n i k l => by rw [laws_markIntS_l1]; rfl) k h
theorem heldIntS_eq (k : Int) (l : List Int) : laws_heldIntS (mkL mInt k l).2 k = some (mkL mInt k l).1 := by
  unfold laws_heldIntS
  exact held_gen (g := laws_heldIntS_l1) (fun i k => by rw [laws_heldIntS_l1]) (fun k x t i => by rw [laws_heldIntS_l1]; simp [mInt]) l 0 k
theorem mkIntS_fst {k : Int} (l : List Int) (h0 : 0 ≤ k) (h1 : k + 1 * l.length ≤ 1152921504606846976) : (mkL mInt k l).1 = k + 1 * l.length :=
  mkL_fst 1 (fun k x h0 h1 => by simp (disch := omega) only [mInt, w64_succ]; omega) l k h0 h1
theorem mhIntS {l : List Int} (h : l.length ≤ 1099511627776) : ∃ k q, laws_markIntS l 1 = some (k, q) ∧ decide (k < 0) = false ∧ laws_heldIntS q 1 = some k := by
  refine ⟨_, _, markIntS_eq 1 h, ?_, heldIntS_eq 1 l⟩
  rw [mkIntS_fst l (by omega) (by omega)]; simp; omega

end Go.Proofs.Ytncjcbdbdocjaaa

/- The laws' own helpers over mark and held, Prop. -/
namespace Go.Proofs.Ytncjcbdbdocjaaa
open Go

theorem mhProp {a : SProp} (h : a.fFrom.length ≤ 68719476736 ∧ a.fGot.length ≤ 68719476736) : ∃ k q, laws_markProp a 1 = some (k, q) ∧ decide (k < 0) = false ∧ laws_heldProp { a with fFrom := q.fFrom, fGot := q.fGot } 1 = some k := by
  have e0 := mkIntS_fst (k := 1) a.fFrom (by omega) (by omega)
  have d0 : decide ((mkL mInt 1 a.fFrom).1 < 0) = false := by rw [e0]; simp; omega
  have e1 := mkIntS_fst (k := (mkL mInt 1 a.fFrom).1) a.fGot (by omega) (by omega)
  have d1 : decide ((mkL mInt (mkL mInt 1 a.fFrom).1 a.fGot).1 < 0) = false := by rw [e1]; simp; omega
  unfold laws_markProp laws_heldProp
  simp only [markIntS_eq 1 (show a.fFrom.length ≤ 1099511627776 by omega), markIntS_eq (mkL mInt 1 a.fFrom).1 (show a.fGot.length ≤ 1099511627776 by omega), Option.bind_some]
  refine ⟨_, _, rfl, d1, ?_⟩
  simp only [heldIntS_eq, Option.bind_some, d0, d1, cond_false]

end Go.Proofs.Ytncjcbdbdocjaaa

/- The law FnExactPropHear answers true. -/
namespace Go.Proofs.Ytncjcbdbdocjaaa
open Go

theorem both_PropHear {a : SProp} (n bal val : Int) (h : shProp a) : ∃ w, spec_PropHear a n bal val = some w ∧ impl_PropHear a n bal val = some w ∧ w.fFrom.length ≤ 1048577 ∧ w.fGot.length ≤ 1048577 := by
  have hs := h
  obtain ⟨s1, s2⟩ := hs
  obtain ⟨b, hb⟩ := propOk_tot (p := a) (by unfold maxLen; omega) (by unfold maxLen; omega)
  have no : ∃ w : SProp, some a = some w ∧ some a = some w ∧ w.fFrom.length ≤ 1048577 ∧ w.fGot.length ≤ 1048577 := ⟨_, rfl, rfl, by omega, by omega⟩
  unfold spec_PropHear impl_PropHear spec_PropHear_j1 impl_PropHear_j1 spec_l07Node impl_isNode spec_l07Val impl_isChoice
  rw [spec_in_impl, propOk_same]
  simp only [copyProp_eq h, l07Copy_eq h, Option.bind_some, hb, impl_in_eq, hasInt_eq, l01Has_eq, insertInt_eq n s1]
  cases b with
  | false => exact no
  | true =>
    obtain ⟨r1, r2⟩ := propOk_rise h hb
    by_cases hn : n ∈ a.fFrom
    · rw [decide_eq_true hn]
      cases decide (0 ≤ n ∧ n ≤ 3) <;> exact no
    · rw [decide_eq_false hn, l07Add_eq s1 r1.2 hn]
      have hl : (insI a.fFrom n).length ≤ 1048577 := by rw [insI_len]; omega
      cases decide (0 ≤ n ∧ n ≤ 3) <;> cases decide (0 ≤ bal ∧ bal ≤ w64 (a.fBal - 1)) <;> cases decide (bal > 0) <;> cases decide (1 ≤ val ∧ val ≤ 4) <;> cases decide (bal > a.fBest) <;>
        first | exact no | exact ⟨_, rfl, rfl, hl, by show a.fGot.length ≤ _; omega⟩
theorem pure_FnExactPropHear (a : SProp) (h : wfProp a) (n : Int) (hn : wfI n) (bal : Int) (hb : wfI bal) (val : Int) (hv : wfI val) : laws_FnExactPropHear a n bal val = some true := by
  obtain ⟨-, -, hf, -, hg⟩ := h
  unfold laws_FnExactPropHear
  obtain ⟨v, hv, q1, q2, hs⟩ := szProp_ok (a := a) (k := 1048576) ⟨hf.1, hg.1⟩ (by omega) (by omega)
  rw [hv, Option.bind_some]
  by_cases hneg : v < 0
  · simp only [hneg, decide_true, _root_.cond_true]
  · have hs := hs (by omega) (by omega)
    obtain ⟨w, hw1, hw2, l1, l2⟩ := both_PropHear n bal val hs
    obtain ⟨k1, q, g1, g2, g3⟩ := mhProp (a := w) ⟨by omega, by omega⟩
    have hs' := hs
    obtain ⟨s1, s2⟩ := hs'
    obtain ⟨k2, q', f1, f2, f3⟩ := mhProp (a := a) ⟨by omega, by omega⟩
    simp only [hneg, decide_false, _root_.cond_false, toProp_eq hs, hw1, hw2, Option.bind_some, eqProp_eq, decide_true, Bool.not_true, bne_self_eq_false, g1, g2, g3, f1, f2]

end Go.Proofs.Ytncjcbdbdocjaaa

