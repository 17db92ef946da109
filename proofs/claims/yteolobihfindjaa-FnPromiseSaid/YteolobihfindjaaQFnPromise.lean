/- The plain law FnPromise and what it needs: no program in sight. -/
import Derived.Test.YteolobihfindjaaUFnPromise
set_option linter.unusedVariables false
set_option linter.unusedSimpArgs false

/- Small plain facts: numbers, and the laws' own helpers over lists of numbers. -/
namespace Go.Proofs.Yteolobihfindjaa
open Go

theorem w64_id {n : Int} (h1 : -9223372036854775808 ≤ n) (h2 : n ≤ 9223372036854775807) : w64 n = n := by
  unfold w64; rw [IntKind.wrap_i64]; omega
theorem room_of {b n : Nat} (hb : b ≤ 4096) (hn : n ≤ 34359738368) : room b n := by
  have : n * b ≤ 34359738368 * 4096 := Nat.mul_le_mul hn hb
  exact ⟨by omega, by omega⟩
theorem gO_t {α : Type} {c : Prop} [Decidable c] {k : Option α} (h : c) : gO c k = k := by simp [gO, h]
theorem drop_cons {α : Type} {L t : List α} {x : α} {i : Nat} (h : x :: t = L.drop i) : t = L.drop (i + 1) ∧ L[i]? = some x ∧ i < L.length := by
  have h1 := dnext h
  have h2 := ix_get (dget h)
  exact ⟨h1, by simpa using h2, dlt h⟩
theorem ix_nat {α : Type} (l : List α) (i : Nat) : ix l (i : Int) = l[i]? := by simp [ix]
theorem ix_lt {α : Type} {l : List α} {i : Int} (h0 : 0 ≤ i) (h1 : i < l.length) : ∃ x, ix l i = some x := by
  unfold ix
  rw [if_pos h0]
  exact ⟨l[i.toNat]'(by omega), by simp⟩
theorem w64_pred {i : Nat} (h0 : 0 < i) (h1 : i ≤ maxLen) : w64 ((i : Int) - 1) = ((i - 1 : Nat) : Int) := by
  have h2 : i ≤ 9223372036854775807 := h1
  rw [w64_id (by omega) (by omega)]; omega

theorem beq_dec {α : Type} [DecidableEq α] (x y : α) : (x == y) = decide (x = y) := by by_cases h : x = y <;> simp [h]
theorem bne_dec {α : Type} [DecidableEq α] (x y : α) : (x != y) = !decide (x = y) := by unfold bne; rw [beq_dec]
theorem beq_int (x y : Int) : (x == y) = decide (x = y) := beq_dec x y
theorem bne_int (x y : Int) : (x != y) = !decide (x = y) := bne_dec x y
theorem and_dec (p q : Prop) [Decidable p] [Decidable q] : (decide p && decide q) = decide (p ∧ q) := by simp
theorem or_dec (p q : Prop) [Decidable p] [Decidable q] : (decide p || decide q) = decide (p ∨ q) := by simp
theorem not_dec (p : Prop) [Decidable p] : (!decide p) = decide (¬ p) := by simp
theorem bind_id {α : Type} (x : Option α) : (x.bind fun v => some v) = x := by cases x <;> rfl

end Go.Proofs.Yteolobihfindjaa

/- The source of numbers: what it gives lies in range. -/
namespace Go.Proofs.Yteolobihfindjaa
open Go

theorem and_le (x : Int) (m : Nat) (h : m ≤ 2147483647) : 0 ≤ bits .and .i64 x (m : Int) ∧ bits .and .i64 x (m : Int) ≤ (m : Int) := by
  have e : bits .and .i64 x (m : Int) = IntKind.i64.wrap (((BitVec.ofInt 64 x &&& BitVec.ofInt 64 (m : Int)).toNat : Nat) : Int) := rfl
  have h2 : (BitVec.ofInt 64 (m : Int)).toNat = m := by
    rw [BitVec.ofInt_natCast, BitVec.toNat_ofNat]; exact Nat.mod_eq_of_lt (by omega)
  have h3 : (BitVec.ofInt 64 x).toNat &&& m ≤ m := Nat.and_le_right
  rw [e, BitVec.toNat_and, h2, IntKind.wrap_i64]
  omega
def curOk (c : SCur) : Prop := 0 ≤ c.fI ∧ c.fI ≤ (c.fB.length : Int) ∧ c.fB.length ≤ 1048576
theorem l01Byte_ok {c : SCur} (h : curOk c) : ∃ v d, spec_l01Byte c = some (v, d) ∧ 0 ≤ v ∧ v ≤ 255 ∧ curOk d ∧ d.fB = c.fB := by
  obtain ⟨h1, h2, h3⟩ := h
  unfold spec_l01Byte
  by_cases hi : c.fI < (c.fB.length : Int)
  · obtain ⟨x, hx⟩ := ix_lt (l := c.fB) h1 hi
    rw [decide_eq_true hi, cond_true, hx, Option.bind_some, w64_id (n := c.fI + 1) (by omega) (by omega)]
    have := and_le
    exact ⟨_, _, rfl, (and_le _ 255 (by omega)).1, (and_le _ 255 (by omega)).2, ⟨by show (0 : Int) ≤ c.fI + 1; omega, by show c.fI + 1 ≤ (c.fB.length : Int); omega, h3⟩, rfl⟩
  · rw [decide_eq_false hi, cond_false]
    exact ⟨_, _, rfl, (and_le _ 255 (by omega)).1, (and_le _ 255 (by omega)).2, ⟨h1, h2, h3⟩, rfl⟩
theorem remO_ok {v n : Int} (hv : 0 ≤ v) (hn : 0 < n) : ∃ r, remO .i64 v n = some r ∧ 0 ≤ r ∧ r < n := by
  unfold remO
  rw [if_neg (by omega)]
  exact ⟨_, rfl, Int.tmod_nonneg _ hv, Int.tmod_lt_of_pos _ hn⟩
theorem l01Below_ok {c : SCur} (n : Int) (h : curOk c) : ∃ v d, spec_l01Below c n = some (v, d) ∧ 0 ≤ v ∧ (0 < n → v < n) ∧ (n ≤ 0 → v = 0) ∧ curOk d ∧ d.fB = c.fB := by
  unfold spec_l01Below
  by_cases h0 : n ≤ 0
  · rw [decide_eq_true h0, cond_true]; exact ⟨_, _, rfl, by omega, by omega, fun _ => rfl, h, rfl⟩
  rw [decide_eq_false h0, cond_false]
  by_cases h1 : n ≤ 256
  · obtain ⟨v, d, e, b1, b2, b3, b4⟩ := l01Byte_ok h
    obtain ⟨r, er, r1, r2⟩ := remO_ok b1 (show 0 < n by omega)
    rw [decide_eq_true h1, cond_true, e, Option.bind_some, er, Option.bind_some]
    exact ⟨_, _, rfl, r1, fun _ => r2, fun hh => absurd hh h0, b3, b4⟩
  · obtain ⟨v1, d1, e1, b1, c1, k1, l1⟩ := l01Byte_ok h
    obtain ⟨v2, d2, e2, b2, c2, k2, l2⟩ := l01Byte_ok k1
    obtain ⟨v3, d3, e3, b3, c3, k3, l3⟩ := l01Byte_ok k2
    obtain ⟨v4, d4, e4, b4, c4, k4, l4⟩ := l01Byte_ok k3
    rw [decide_eq_false h1, cond_false, e1, Option.bind_some, e2, Option.bind_some, e3, Option.bind_some, e4, Option.bind_some]
    simp only []
    rw [w64_id (n := v1 * 16777216) (by omega) (by omega), w64_id (n := v2 * 65536) (by omega) (by omega), w64_id (n := v3 * 256) (by omega) (by omega),
      w64_id (n := v1 * 16777216 + v2 * 65536) (by omega) (by omega), w64_id (n := v1 * 16777216 + v2 * 65536 + v3 * 256) (by omega) (by omega), w64_id (n := v1 * 16777216 + v2 * 65536 + v3 * 256 + v4) (by omega) (by omega)]
    obtain ⟨r, er, r1, r2⟩ := remO_ok (v := v1 * 16777216 + v2 * 65536 + v3 * 256 + v4) (by omega) (show 0 < n by omega)
    rw [er, Option.bind_some]
    exact ⟨_, _, rfl, r1, fun _ => r2, fun hh => absurd hh h0, k4, l4.trans (l3.trans (l2.trans l1))⟩
theorem l01New_l2 (a : List Int) : ∀ (f i : Nat) (h : Int), i ≤ a.length → a.length - i < f → a.length ≤ 1048576 → ∃ v, spec_l01New_l2 a f (i : Int) h = some (SCur.mk a 0 v)
  | 0, i, h, hi, hf, hL => by omega
  | f + 1, i, h, hi, hf, hL => by
    rw [spec_l01New_l2]
    unfold spec_l01New_j1
    by_cases hlt : i < a.length
    · have hd : decide ((i : Int) < (a.length : Int)) = true := by simp; omega
      obtain ⟨x, hx⟩ := ix_lt (l := a) (i := (i : Int)) (by omega) (by omega)
      rw [hd, cond_true]
      cases decide ((i : Int) < 4000) with
      | false => exact ⟨_, rfl⟩
      | true =>
        rw [cond_true, hx, Option.bind_some, w64_id (by omega) (by omega), show (i : Int) + 1 = ((i + 1 : Nat) : Int) by omega]
        exact l01New_l2 a f (i + 1) _ (by omega) (by omega) hL
    · have hd : decide ((i : Int) < (a.length : Int)) = false := by simp; omega
      rw [hd]; exact ⟨_, rfl⟩
theorem l01New_ok {a : List Int} (h : a.length ≤ 1048576) : ∃ v, spec_l01New a = some (SCur.mk a 0 v) := l01New_l2 a fuel 0 _ (by omega) (by unfold fuel; omega) h

end Go.Proofs.Yteolobihfindjaa

/- Numbers made from bytes. -/
namespace Go.Proofs.Yteolobihfindjaa
open Go

theorem makeNums_l1 (n : Int) (hn : 0 < n) : ∀ (f k : Nat) (c : SCur) (y : List Int), k < f → k + y.length ≤ 1048576 → curOk c → (∀ x ∈ y, 0 ≤ x ∧ x < n) → ∃ l, spec_MakeNums_l1 n f (k : Int) y c.fB c.fI c.fH = some l ∧ (∀ x ∈ l, 0 ≤ x ∧ x < n) ∧ l.length ≤ k + y.length
  | 0, k, c, y, hf, hl, hc, hy => by omega
  | f + 1, k, c, y, hf, hl, hc, hy => by
    rw [spec_MakeNums_l1]
    by_cases hk : (k : Int) > 0
    · obtain ⟨v, d, e, b1, b2, -, b4, -⟩ := l01Below_ok (c := SCur.mk c.fB c.fI c.fH) n hc
      have b2 := b2 hn
      rw [decide_eq_true hk, cond_true, e, Option.bind_some, gO_t (room_of (by omega) (by simp; omega)), w64_id (by omega) (by omega), show (k : Int) - 1 = ((k - 1 : Nat) : Int) by omega]
      obtain ⟨l, hl, hx, hq⟩ := makeNums_l1 n hn f (k - 1) d (y ++ [v]) (by omega) (by simp; omega) b4 (fun x hx => by
        rcases List.mem_append.1 hx with h | h
        · exact hy x h
        · rw [List.mem_singleton.1 h]; exact ⟨b1, b2⟩)
      exact ⟨l, hl, hx, by simp at hq; omega⟩
    · rw [decide_eq_false hk, cond_false]; exact ⟨y, rfl, hy, by omega⟩
theorem makeNums_ok {a : List Int} (n : Int) (hn : 0 < n) (h : a.length ≤ 1048576) : ∃ l, spec_MakeNums a n = some l ∧ (∀ x ∈ l, 0 ≤ x ∧ x < n) ∧ l.length ≤ 11 := by
  unfold spec_MakeNums
  obtain ⟨w, hw⟩ := l01New_ok h
  rw [hw, Option.bind_some]
  obtain ⟨v, d, e, b1, b2, -, b4, -⟩ := l01Below_ok (c := SCur.mk a 0 (w64 (w + n))) 12 ⟨by show (0 : Int) ≤ 0; omega, by show (0 : Int) ≤ (a.length : Int); omega, h⟩
  have b2 := b2 (by omega)
  rw [e, Option.bind_some]
  obtain ⟨l, hl, hx, hq⟩ := makeNums_l1 n hn fuel v.toNat d [] (by unfold fuel; omega) (by simp; omega) b4 (by simp)
  rw [show ((v.toNat : Nat) : Int) = v by omega] at hl
  exact ⟨l, hl, hx, by simp at hq; omega⟩

end Go.Proofs.Yteolobihfindjaa

/- Ranges. -/
namespace Go.Proofs.Yteolobihfindjaa
open Go

theorem impl_in_eq (n lo hi : Int) : impl_in n lo hi = some (decide (lo ≤ n ∧ n ≤ hi)) := by
  unfold impl_in
  by_cases h : n ≥ lo
  · simp [h]
  · have : ¬ lo ≤ n := h
    simp [h, this]

end Go.Proofs.Yteolobihfindjaa

/- Acceptors. -/
namespace Go.Proofs.Yteolobihfindjaa
open Go

/-- A valid acceptor. -/
def okAcc (a : SAcc) : Prop := (0 ≤ a.fProm ∧ a.fProm ≤ 1125899906842624) ∧ (((1 ≤ a.fBal ∧ a.fBal ≤ a.fProm) ∧ (1 ≤ a.fVal ∧ a.fVal ≤ 4)) ∨ (a.fBal = 0 ∧ a.fVal = 0))
instance (a : SAcc) : Decidable (okAcc a) := by unfold okAcc; infer_instance
theorem accOk_eq (a : SAcc) : impl_AccOk a = some (decide (okAcc a)) := by
  unfold impl_AccOk impl_isNum impl_isChoice okAcc
  simp only [impl_in_eq, Option.bind_some, beq_int]
  by_cases h1 : 0 ≤ a.fProm ∧ a.fProm ≤ 1125899906842624
  · by_cases h2 : 1 ≤ a.fBal ∧ a.fBal ≤ a.fProm
    · by_cases h3 : 1 ≤ a.fVal ∧ a.fVal ≤ 4
      · simp [h1, h2, h3]
      · have : ¬ a.fBal = 0 := by omega
        simp [h1, h2, h3, this]
    · by_cases h4 : a.fBal = 0
      · simp [h1, h2, h4]
      · simp [h1, h2, h4]
  · simp [h1]
theorem accPrep_eq {a : SAcc} (h : okAcc a) {b : Int} (h0 : 0 ≤ b) (h1 : b ≤ 1125899906842624) : impl_AccPrep a b = some (if b > a.fProm then (SAcc.mk b a.fBal a.fVal, true) else (SAcc.mk 0 0 0, false)) := by
  unfold impl_AccPrep impl_AccPrep_j1 impl_isNum
  rw [accOk_eq, decide_eq_true h, impl_in_eq, decide_eq_true ⟨h0, h1⟩]
  simp only [Option.bind_some, Bool.not_true, cond_false]
  by_cases hb : b > a.fProm
  · rw [if_pos hb, decide_eq_false (by omega)]; rfl
  · rw [if_neg hb, decide_eq_true (by omega)]; rfl
theorem accTake_eq {a : SAcc} (h : okAcc a) {b v : Int} (h0 : 0 ≤ b) (h1 : b ≤ 1125899906842624) (v0 : 1 ≤ v) (v1 : v ≤ 4) : impl_AccTake a b v = some (if b ≥ a.fProm ∧ b > 0 then (SAcc.mk b b v, true) else (SAcc.mk 0 0 0, false)) := by
  unfold impl_AccTake impl_AccTake_j1 impl_isChoice impl_isBallot
  rw [accOk_eq, decide_eq_true h, impl_in_eq, impl_in_eq, decide_eq_true ⟨v0, v1⟩]
  simp only [Option.bind_some, Bool.not_true, cond_false]
  by_cases hb : b > 0
  · rw [decide_eq_true (show 1 ≤ b ∧ b ≤ 1125899906842624 by omega)]
    by_cases hp : b ≥ a.fProm
    · rw [if_pos ⟨hp, hb⟩, decide_eq_false (by omega)]; rfl
    · rw [if_neg (fun h => hp h.1), decide_eq_true (by omega)]; rfl
  · rw [decide_eq_false (show ¬ (1 ≤ b ∧ b ≤ 1125899906842624) by omega), if_neg (fun h => hb h.2)]; rfl

end Go.Proofs.Yteolobihfindjaa

/- The law FnPromise answers true. -/
namespace Go.Proofs.Yteolobihfindjaa
open Go

theorem promise_j4 {kk : Int → Int → Int → Option Bool} {y1 y2 : Bool} {p b v : Int} (h : okAcc (SAcc.mk p b v)) (hk : kk p b v = some true) : laws_FnPromise_j4 kk y1 y2 p b v = some true := by
  unfold laws_FnPromise_j4
  rw [accOk_eq, decide_eq_true h]; exact hk
theorem promise_l1 : ∀ (t : List Int) (i : Nat) (p b v : Int), okAcc (SAcc.mk p b v) → (∀ x ∈ t, 0 ≤ x ∧ x < 20) → laws_FnPromise_l1 t i p b v = some true
  | [], i, p, b, v, hok, ht => by rw [laws_FnPromise_l1, accOk_eq]; rfl
  | x :: t, i, p, b, v, hok, ht => by
    obtain ⟨x0, x1⟩ := ht x (by simp)
    have ht' : ∀ z ∈ t, 0 ≤ z ∧ z < 20 := fun z hz => ht z (by simp [hz])
    have m0 : 0 ≤ Int.tmod (i : Int) 4 := Int.tmod_nonneg _ (by omega)
    have m1 : Int.tmod (i : Int) 4 < 4 := Int.tmod_lt_of_pos _ (by omega)
    have ew : w64 (1 + Int.tmod (i : Int) 4) = 1 + Int.tmod (i : Int) 4 := w64_id (by omega) (by omega)
    rw [laws_FnPromise_l1, accPrep_eq hok x0 (by omega), Option.bind_some]
    unfold laws_FnPromise_j2
    rw [ew, accTake_eq hok x0 (by omega) (by omega) (by omega)]
    simp only [Option.bind_some]
    unfold laws_FnPromise_j3 laws_FnPromise_j5
    obtain ⟨p0, p1⟩ := hok
    simp only [] at p0 p1
    have ih0 := promise_l1 t (i + 1) p b v ⟨p0, p1⟩ ht'
    by_cases hgt : x > p
    · have hok1 : okAcc (SAcc.mk x b v) := ⟨⟨by show 0 ≤ x; omega, by show x ≤ 1125899906842624; omega⟩, by
        rcases p1 with h | h
        · exact .inl ⟨⟨h.1.1, by show b ≤ x; omega⟩, h.2⟩
        · exact .inr h⟩
      have hok2 : okAcc (SAcc.mk x x (1 + Int.tmod (i : Int) 4)) := ⟨⟨by show 0 ≤ x; omega, by show x ≤ 1125899906842624; omega⟩, .inl ⟨⟨by show 1 ≤ x; omega, by show x ≤ x; omega⟩, by show 1 ≤ 1 + Int.tmod (i : Int) 4; omega, by show 1 + Int.tmod (i : Int) 4 ≤ 4; omega⟩⟩
      have ih1 := promise_l1 t (i + 1) x b v hok1 ht'
      have ih2 := promise_l1 t (i + 1) x x (1 + Int.tmod (i : Int) 4) hok2 ht'
      have g : x ≥ p ∧ x > 0 := ⟨by omega, by omega⟩
      rw [if_pos (show x > (SAcc.mk p b v).fProm from hgt), if_pos (show x ≥ (SAcc.mk p b v).fProm ∧ x > 0 from g)]
      simp only [decide_eq_true hgt, decide_eq_true g.1, decide_eq_true g.2, bne_self_eq_false, _root_.cond_true, _root_.cond_false]
      cases (Int.tmod (i : Int) 2 == 0)
      · exact promise_j4 (y1 := false) (y2 := false) hok2 ih2
      · exact promise_j4 (y1 := false) (y2 := false) hok1 ih1
    · by_cases g : x ≥ p ∧ x > 0
      · have hok2 : okAcc (SAcc.mk x x (1 + Int.tmod (i : Int) 4)) := ⟨⟨by show 0 ≤ x; omega, by show x ≤ 1125899906842624; omega⟩, .inl ⟨⟨by show 1 ≤ x; omega, by show x ≤ x; omega⟩, by show 1 ≤ 1 + Int.tmod (i : Int) 4; omega, by show 1 + Int.tmod (i : Int) 4 ≤ 4; omega⟩⟩
        have ih2 := promise_l1 t (i + 1) x x (1 + Int.tmod (i : Int) 4) hok2 ht'
        rw [if_neg (show ¬ x > (SAcc.mk p b v).fProm from hgt), if_pos (show x ≥ (SAcc.mk p b v).fProm ∧ x > 0 from g)]
        simp only [decide_eq_false hgt, decide_eq_true g.1, decide_eq_true g.2, bne_self_eq_false, _root_.cond_true, _root_.cond_false]
        cases (Int.tmod (i : Int) 2 == 0)
        · exact promise_j4 (y1 := false) (y2 := false) hok2 ih2
        · exact promise_j4 (y1 := false) (y2 := false) hok2 ih2
      · rw [if_neg (show ¬ x > (SAcc.mk p b v).fProm from hgt), if_neg (show ¬ (x ≥ (SAcc.mk p b v).fProm ∧ x > 0) from g)]
        by_cases gp : x ≥ p
        · have hx : ¬ x > 0 := fun h => g ⟨gp, h⟩
          simp only [decide_eq_false hgt, decide_eq_true gp, decide_eq_false hx, bne_self_eq_false, _root_.cond_true, _root_.cond_false]
          cases (Int.tmod (i : Int) 2 == 0)
          · exact promise_j4 (y1 := false) (y2 := false) ⟨p0, p1⟩ ih0
          · exact promise_j4 (y1 := false) (y2 := false) ⟨p0, p1⟩ ih0
        · simp only [decide_eq_false hgt, decide_eq_false gp, bne_self_eq_false, _root_.cond_true, _root_.cond_false]
          cases (Int.tmod (i : Int) 2 == 0)
          · exact promise_j4 (y1 := false) (y2 := false) ⟨p0, p1⟩ ih0
          · exact promise_j4 (y1 := false) (y2 := false) ⟨p0, p1⟩ ih0
theorem pure_FnPromise (l : List Int) (hl : l.length ≤ maxLen ∧ ∀ a ∈ l, wfU a) : laws_FnPromise l = some true := by
  unfold laws_FnPromise
  by_cases hn : (l.length : Int) > 1048576
  · rw [decide_eq_true hn]; rfl
  · obtain ⟨t, et, ht, -⟩ := makeNums_ok (a := l) 20 (by omega) (by omega)
    rw [decide_eq_false hn, _root_.cond_false, et, Option.bind_some]
    exact promise_l1 t 0 0 0 0 ⟨⟨by show (0 : Int) ≤ 0; omega, by show (0 : Int) ≤ 1125899906842624; omega⟩, .inr ⟨rfl, rfl⟩⟩ ht

end Go.Proofs.Yteolobihfindjaa

